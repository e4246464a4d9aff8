/- Part 3 of the proof: laws and contracts of functions, each proved; they are joined in the last part. No conditions beyond those that the theorems state. -/
import Derived.Ground.NamesProg
import Derived.Shelf.Strconv.Atoi
import Derived.Shelf.Strings.Count
import Derived.Shelf.Strings.Search3
import Derived.Shelf.Strings.SlTrimAscii
import Derived.WalkKit
import Derived.Test.YtehahnkjlalhmaaGreatDoorProg
import Derived.Test.YtehahnkjlalhmaaGreatDoorAl2
set_option linter.all false
namespace Go.Ve
open Go.Proofs
set_option maxRecDepth 100000
/-- laws.FnExactPlanAll: function 8 -/
def s_laws_FnExactPlanAll : SFun := { n := 69, res := [.t 2], body := (.seq (.rg [⟨some 1, .box 101 (.v 0), none, [0]⟩, ⟨some 2, .mv (.c (.bool false)), none, [2]⟩] [1]) (.seq (.rg [⟨some 3, .mv (.c (.int .i64 1048576)), none, []⟩] [1, 3]) (.seq (.rg [⟨some 11, .loadN 3 (.v 1), none, []⟩, ⟨some 12, .mv (.v 3), none, [3]⟩, ⟨some 13, .call 18 [.v 11, .v 12], none, [11, 12]⟩, ⟨some 3, .mv (.v 13), none, [13]⟩] [1, 3]) (.seq (.seq (.rg [⟨some 14, .mv (.v 3), none, [3]⟩, ⟨some 15, .bin .lss (.v 14) (.c (.int .i64 0)), none, [14]⟩] [1, 15]) (.cond (.v 15) (.seq (.rg [⟨some 2, .mv (.c (.bool true)), none, []⟩] [2]) .ret) .skip)) (.seq (.rg [⟨some 16, .loadN 3 (.v 1), none, []⟩, ⟨some 17, .call 20 [.v 16], none, [16]⟩, ⟨some 18, .call 34 [.v 17], none, [17]⟩, ⟨some 4, .mv (.v 18), none, [18]⟩] [1, 4]) (.seq (.rg [⟨some 19, .loadN 3 (.v 1), none, []⟩, ⟨some 20, .call 20 [.v 19], none, [19]⟩, ⟨some 5, .alloc 105 [.sl 0 3 [], .sl 0 3 [], .sl 0 2 []], none, []⟩, ⟨none, .store 3 (.v 5) (.v 20), none, [20]⟩] [1, 4, 5]) (.seq (.rg [⟨some 21, .loadN 3 (.v 5), none, []⟩, ⟨some 22, .call 35 [.v 21], none, [21]⟩, ⟨some 6, .mv (.v 22), none, [22]⟩] [1, 4, 5, 6]) (.seq (.seq (.rg [⟨some 23, .mv (.v 6), none, []⟩, ⟨some 24, .mv (.v 4), none, []⟩, ⟨some 25, .call 36 [.v 23, .v 24], none, [23, 24]⟩, ⟨some 26, .not (.v 25), none, [25]⟩] [1, 4, 5, 6, 26]) (.cond (.v 26) (.seq (.rg [⟨some 2, .mv (.c (.bool false)), none, []⟩] [2]) .ret) .skip)) (.seq (.seq (.rgd [⟨some 27, .loadN 3 (.v 5), none, []⟩, ⟨some 28, .loadN 3 (.v 1), none, []⟩, ⟨some 29, .call 20 [.v 28], none, []⟩, ⟨some 30, .call 22 [.v 27, .v 29], none, []⟩, ⟨some 31, .not (.v 30), none, []⟩] [1, 4, 5, 6, 31] [some [], none, some [1], none, none]) (.cond (.v 31) (.seq (.rg [⟨some 2, .mv (.c (.bool false)), none, []⟩] [2]) .ret) .skip)) (.seq (.rg [⟨some 7, .mv (.c (.int .i64 1)), none, []⟩] [1, 4, 5, 6, 7]) (.seq (.rg [⟨some 32, .loadN 3 (.v 5), none, [5]⟩, ⟨some 33, .mv (.v 7), none, [7]⟩, ⟨some 34, .call 26 [.v 32, .v 33], none, [32, 33]⟩, ⟨some 7, .mv (.v 34), none, [34]⟩] [1, 4, 6, 7]) (.seq (.seq (.rg [⟨some 35, .mv (.v 7), none, [7]⟩, ⟨some 36, .bin .lss (.v 35) (.c (.int .i64 0)), none, [35]⟩, ⟨some 37, .mv (.v 36), none, [36]⟩, ⟨some 38, .mv (.v 6), some (37, false), []⟩, ⟨some 39, .mv (.v 4), some (37, false), []⟩, ⟨some 40, .call 36 [.v 38, .v 39], some (37, false), [38, 39]⟩, ⟨some 41, .not (.v 40), some (37, false), [40]⟩, ⟨some 42, .pick (.v 37) (.c (.bool true)) (.v 41), none, [37, 41]⟩] [1, 4, 6, 42]) (.cond (.v 42) (.seq (.rg [⟨some 2, .mv (.c (.bool false)), none, []⟩] [2]) .ret) .skip)) (.seq (.rg [⟨some 8, .mv (.c (.int .i64 1)), none, []⟩] [1, 4, 6, 8]) (.seq (.rg [⟨some 43, .mv (.v 6), none, []⟩, ⟨some 44, .mv (.v 8), none, [8]⟩, ⟨some 45, .call 37 [.v 43, .v 44], none, [43, 44]⟩, ⟨some 8, .mv (.v 45), none, [45]⟩] [1, 4, 6, 8]) (.seq (.rg [⟨some 9, .mv (.c (.int .i64 1)), none, []⟩] [1, 4, 6, 8, 9]) (.seq (.rg [⟨some 46, .mv (.v 6), none, []⟩, ⟨some 47, .mv (.v 9), none, [9]⟩, ⟨some 48, .call 38 [.v 46, .v 47], none, [46, 47]⟩, ⟨some 9, .mv (.v 48), none, [48]⟩] [1, 4, 6, 8, 9]) (.seq (.seq (.rg [⟨some 49, .mv (.v 9), none, []⟩, ⟨some 50, .bin .lss (.v 49) (.c (.int .i64 0)), none, [49]⟩] [1, 4, 6, 8, 9, 50]) (.cond (.v 50) (.seq (.rg [⟨some 2, .mv (.c (.bool false)), none, []⟩] [2]) .ret) .skip)) (.seq (.seq (.rg [⟨some 51, .mv (.v 9), none, [9]⟩, ⟨some 52, .mv (.v 8), none, []⟩, ⟨some 53, .bin .neq (.v 51) (.v 52), none, [51, 52]⟩] [1, 4, 6, 8, 53]) (.cond (.v 53) (.seq (.rg [⟨some 2, .mv (.c (.bool false)), none, []⟩] [2]) .ret) .skip)) (.seq (.rg [⟨some 54, .loadN 3 (.v 1), none, [1]⟩, ⟨some 55, .call 20 [.v 54], none, [54]⟩, ⟨some 56, .call 35 [.v 55], none, [55]⟩, ⟨some 10, .mv (.v 56), none, [56]⟩] [4, 6, 8, 10]) (.seq (.seq (.rg [⟨some 57, .mv (.v 10), none, [10]⟩, ⟨some 58, .mv (.v 4), none, [4]⟩, ⟨some 59, .call 36 [.v 57, .v 58], none, [57, 58]⟩, ⟨some 60, .not (.v 59), none, [59]⟩] [6, 8, 60]) (.cond (.v 60) (.seq (.rg [⟨some 2, .mv (.c (.bool false)), none, []⟩] [2]) .ret) .skip)) (.seq (.rg [⟨some 9, .mv (.c (.int .i64 1)), none, []⟩] [6, 8, 9]) (.seq (.rg [⟨some 61, .mv (.v 6), none, [6]⟩, ⟨some 62, .mv (.v 9), none, [9]⟩, ⟨some 63, .call 38 [.v 61, .v 62], none, [61, 62]⟩, ⟨some 9, .mv (.v 63), none, [63]⟩] [8, 9]) (.seq (.seq (.rg [⟨some 64, .mv (.v 9), none, []⟩, ⟨some 65, .bin .lss (.v 64) (.c (.int .i64 0)), none, [64]⟩] [8, 9, 65]) (.cond (.v 65) (.seq (.rg [⟨some 2, .mv (.c (.bool false)), none, []⟩] [2]) .ret) .skip)) (.seq (.seq (.rg [⟨some 66, .mv (.v 9), none, [9]⟩, ⟨some 67, .mv (.v 8), none, [8]⟩, ⟨some 68, .bin .neq (.v 66) (.v 67), none, [66, 67]⟩] [68]) (.cond (.v 68) (.seq (.rg [⟨some 2, .mv (.c (.bool false)), none, []⟩] [2]) .ret) .skip)) (.seq (.rg [⟨some 2, .mv (.c (.bool true)), none, []⟩] [2]) .ret))))))))))))))))))))))))) }
theorem k_laws_FnExactPlanAll : okFun Go.Proofs.Tryz.prog 8 s_laws_FnExactPlanAll = true := by kernel_rfl
/-- laws.szPlanBase: function 9 -/
def s_laws_szPlanBase : SFun := { n := 18, res := [.t 4], body := (.seq (.rg [⟨some 2, .box 102 (.v 0), none, [0]⟩, ⟨some 4, .mv (.c (.int .i64 0)), none, [4]⟩] [1, 2]) (.seq (.rg [⟨some 5, .faddr 0 (.v 2), none, []⟩, ⟨some 6, .load1 (.v 5), none, [5]⟩, ⟨some 7, .mv (.v 1), none, [1]⟩, ⟨some 8, .call 39 [.v 6, .v 7], none, [6, 7]⟩, ⟨some 1, .mv (.v 8), none, [8]⟩] [1, 2]) (.seq (.seq (.rg [⟨some 9, .mv (.v 1), none, []⟩, ⟨some 10, .bin .lss (.v 9) (.c (.int .i64 0)), none, [9]⟩] [1, 2, 10]) (.cond (.v 10) (.seq (.rg [⟨some 4, .mv (.c (.int .i64 (-1))), none, []⟩] [4]) .ret) .skip)) (.seq (.rg [⟨some 11, .faddr 1 (.v 2), none, [2]⟩, ⟨some 12, .load1 (.v 11), none, [11]⟩, ⟨some 13, .mv (.v 1), none, [1]⟩, ⟨some 14, .call 40 [.v 12, .v 13], none, [12, 13]⟩, ⟨some 1, .mv (.v 14), none, [14]⟩] [1]) (.seq (.seq (.rg [⟨some 15, .mv (.v 1), none, []⟩, ⟨some 16, .bin .lss (.v 15) (.c (.int .i64 0)), none, [15]⟩] [1, 16]) (.cond (.v 16) (.seq (.rg [⟨some 4, .mv (.c (.int .i64 (-1))), none, []⟩] [4]) .ret) .skip)) (.seq (.rg [⟨some 17, .mv (.v 1), none, [1]⟩, ⟨some 4, .mv (.v 17), none, [17]⟩] [4]) .ret)))))) }
theorem k_laws_szPlanBase : okFun Go.Proofs.Tryz.prog 9 s_laws_szPlanBase = true := by kernel_rfl
/-- spec.PlanFits: function 10 -/
def s_spec_PlanFits : SFun := { n := 42, res := [.t 6], body := (.seq (.rg [⟨some 3, .box 103 (.v 0), none, [0]⟩, ⟨some 6, .mv (.c (.bool false)), none, [6]⟩] [1, 2, 3]) (.seq (.seq (.rg [⟨some 8, .loadN 2 (.v 3), none, []⟩, ⟨some 9, .call 41 [.v 8], none, [8]⟩, ⟨some 10, .not (.v 9), none, [9]⟩] [1, 2, 3, 10]) (.cond (.v 10) (.seq (.rg [⟨some 6, .mv (.c (.bool false)), none, []⟩] [6]) .ret) .skip)) (.seq (.rg [⟨some 11, .mv (.v 2), none, []⟩, ⟨some 12, .call 42 [.v 11, .c (.int .u8 32)], none, [11]⟩, ⟨some 7, .mv (.v 12), none, [12]⟩] [1, 2, 3, 7]) (.seq (.seq (.rg [⟨some 13, .mv (.v 1), none, [1]⟩] [2, 3, 7, 13]) (.block 0 (.seq (.rg [⟨some 15, .bin .eql (.v 13) (.c (.int .i64 1)), none, []⟩, ⟨some 14, .mv (.v 15), none, [15]⟩] [2, 3, 7, 13, 14]) (.cond (.v 14) (.seq (.rg [⟨some 16, .loadN 2 (.v 3), none, [3]⟩, ⟨some 17, .mv (.v 2), none, [2]⟩, ⟨some 18, .call 43 [.v 16, .v 17], none, [16, 17]⟩, ⟨some 19, .bin .geq (.v 18) (.c (.int .i64 0)), none, [18]⟩, ⟨some 6, .mv (.v 19), none, [19]⟩] [6]) .ret) (.seq (.rg [⟨some 21, .bin .eql (.v 13) (.c (.int .i64 2)), none, []⟩, ⟨some 20, .mv (.v 21), none, [21]⟩] [2, 3, 7, 13, 20]) (.cond (.v 20) (.seq (.rg [⟨some 22, .mv (.v 7), none, [7]⟩, ⟨some 23, .call 44 [.v 22], none, [22]⟩, ⟨some 6, .mv (.v 23), none, [23]⟩] [6]) .ret) (.seq (.rg [⟨some 25, .bin .eql (.v 13) (.c (.int .i64 3)), none, []⟩, ⟨some 24, .mv (.v 25), none, [25]⟩] [2, 3, 7, 13, 24]) (.cond (.v 24) (.seq (.rg [⟨some 26, .mv (.v 2), none, [2]⟩, ⟨some 27, .call 46 [.v 26], none, [26]⟩, ⟨some 28, .call 45 [.v 27, .c (.int .i64 1), .c (.int .i64 6)], none, [27]⟩, ⟨some 6, .mv (.v 28), none, [28]⟩] [6]) .ret) (.seq (.rg [⟨some 30, .bin .eql (.v 13) (.c (.int .i64 4)), none, []⟩, ⟨some 29, .mv (.v 30), none, [30]⟩] [2, 3, 7, 13, 29]) (.cond (.v 29) (.seq (.rg [⟨some 31, .loadN 2 (.v 3), none, [3]⟩, ⟨some 32, .mv (.v 7), none, [7]⟩, ⟨some 33, .call 47 [.v 31, .v 32], none, [31, 32]⟩, ⟨some 6, .mv (.v 33), none, [33]⟩] [6]) .ret) (.seq (.rg [⟨some 35, .bin .eql (.v 13) (.c (.int .i64 5)), none, [13]⟩, ⟨some 34, .mv (.v 35), none, [35]⟩] [2, 34]) (.cond (.v 34) (.seq (.rg [⟨some 36, .mv (.v 2), none, []⟩, ⟨some 37, .bin .eql (.v 36) (.c (.str ⟨#[111, 112, 101, 110]⟩)), none, [36]⟩, ⟨some 38, .mv (.v 37), none, [37]⟩, ⟨some 39, .mv (.v 2), some (38, false), [2]⟩, ⟨some 40, .bin .eql (.v 39) (.c (.str ⟨#[99, 108, 111, 115, 101, 100]⟩)), some (38, false), [39]⟩, ⟨some 41, .pick (.v 38) (.c (.bool true)) (.v 40), none, [38, 40]⟩, ⟨some 6, .mv (.v 41), none, [41]⟩] [6]) .ret) .skip)))))))))))) (.seq (.rg [⟨some 6, .mv (.c (.bool false)), none, []⟩] [6]) .ret))))) }
theorem k_spec_PlanFits : okFun Go.Proofs.Tryz.prog 10 s_spec_PlanFits = true := by kernel_rfl
/-- laws.toPlanBase: function 11 -/
def s_laws_toPlanBase : SFun := { n := 13, res := [.cN 2 2], body := (.seq (.rg [⟨some 1, .box 101 (.v 0), none, [0]⟩, ⟨some 2, .alloc 102 [.sl 0 3 [], .sl 0 3 []], none, []⟩] [1, 2]) (.seq (.rg [⟨some 3, .alloc 103 [.sl 0 3 [], .sl 0 3 []], none, []⟩] [1, 2, 3]) (.seq (.rg [⟨some 4, .faddr 0 (.v 1), none, []⟩, ⟨some 5, .load1 (.v 4), none, [4]⟩, ⟨some 6, .call 48 [.v 5], none, [5]⟩, ⟨some 7, .faddr 0 (.v 3), none, []⟩, ⟨none, .store 1 (.v 7) (.v 6), none, [6, 7]⟩] [1, 2, 3]) (.seq (.rg [⟨some 8, .faddr 1 (.v 1), none, [1]⟩, ⟨some 9, .load1 (.v 8), none, [8]⟩, ⟨some 10, .call 49 [.v 9], none, [9]⟩, ⟨some 11, .faddr 1 (.v 3), none, []⟩, ⟨none, .store 1 (.v 11) (.v 10), none, [10, 11]⟩] [2, 3]) (.seq (.rg [⟨some 12, .loadN 2 (.v 3), none, [3]⟩, ⟨none, .store 2 (.v 2) (.v 12), none, [12]⟩] [2]) .ret))))) }
theorem k_laws_toPlanBase : okFun Go.Proofs.Tryz.prog 11 s_laws_toPlanBase = true := by kernel_rfl
/-- laws.eqPlanBase: function 13 -/
def s_laws_eqPlanBase : SFun := { n := 17, res := [.t 4], body := (.seq (.rg [⟨some 2, .box 102 (.v 0), none, [0]⟩, ⟨some 3, .box 103 (.v 1), none, [1]⟩, ⟨some 4, .mv (.c (.bool false)), none, [4]⟩] [2, 3]) (.seq (.seq (.rg [⟨some 5, .faddr 0 (.v 2), none, []⟩, ⟨some 6, .load1 (.v 5), none, [5]⟩, ⟨some 7, .faddr 0 (.v 3), none, []⟩, ⟨some 8, .load1 (.v 7), none, [7]⟩, ⟨some 9, .call 52 [.v 6, .v 8], none, [6, 8]⟩, ⟨some 10, .not (.v 9), none, [9]⟩] [2, 3, 10]) (.cond (.v 10) (.seq (.rg [⟨some 4, .mv (.c (.bool false)), none, []⟩] [4]) .ret) .skip)) (.seq (.seq (.rg [⟨some 11, .faddr 1 (.v 2), none, [2]⟩, ⟨some 12, .load1 (.v 11), none, [11]⟩, ⟨some 13, .faddr 1 (.v 3), none, [3]⟩, ⟨some 14, .load1 (.v 13), none, [13]⟩, ⟨some 15, .call 53 [.v 12, .v 14], none, [12, 14]⟩, ⟨some 16, .not (.v 15), none, [15]⟩] [16]) (.cond (.v 16) (.seq (.rg [⟨some 4, .mv (.c (.bool false)), none, []⟩] [4]) .ret) .skip)) (.seq (.rg [⟨some 4, .mv (.c (.bool true)), none, []⟩] [4]) .ret)))) }
theorem k_laws_eqPlanBase : okFun Go.Proofs.Tryz.prog 13 s_laws_eqPlanBase = true := by kernel_rfl
/-- spec.PlanChangeOk: function 15 -/
def s_spec_PlanChangeOk : SFun := { n := 21, res := [.t 4], body := (.seq (.rg [⟨some 2, .box 102 (.v 0), none, [0]⟩, ⟨some 3, .box 103 (.v 1), none, [1]⟩, ⟨some 4, .mv (.c (.bool false)), none, [4]⟩] [2, 3]) (.seq (.rg [⟨some 5, .faddr 0 (.v 3), none, []⟩, ⟨some 6, .load1 (.v 5), none, [5]⟩, ⟨some 7, .call 54 [.v 6], none, [6]⟩, ⟨some 8, .mv (.v 7), none, [7]⟩, ⟨some 9, .faddr 2 (.v 3), some (8, true), []⟩, ⟨some 10, .load1 (.v 9), some (8, true), [9]⟩, ⟨some 11, .call 45 [.v 10, .c (.int .i64 1), .c (.int .i64 1000000)], some (8, true), [10]⟩, ⟨some 12, .pick (.v 8) (.v 11) (.c (.bool false)), none, [8, 11]⟩, ⟨some 13, .mv (.v 12), none, [12]⟩, ⟨some 14, .loadN 2 (.v 2), some (13, true), [2]⟩, ⟨some 15, .faddr 1 (.v 3), some (13, true), []⟩, ⟨some 16, .load1 (.v 15), some (13, true), [15]⟩, ⟨some 17, .faddr 3 (.v 3), some (13, true), [3]⟩, ⟨some 18, .load1 (.v 17), some (13, true), [17]⟩, ⟨some 19, .call 10 [.v 14, .v 16, .v 18], some (13, true), [14, 16, 18]⟩, ⟨some 20, .pick (.v 13) (.v 19) (.c (.bool false)), none, [13, 19]⟩, ⟨some 4, .mv (.v 20), none, [20]⟩] [4]) .ret)) }
theorem k_spec_PlanChangeOk : okFun Go.Proofs.Tryz.prog 15 s_spec_PlanChangeOk = true := by kernel_rfl
/-- laws.szPlanBook: function 18 -/
def s_laws_szPlanBook : SFun := { n := 18, res := [.t 4], body := (.seq (.rg [⟨some 2, .box 102 (.v 0), none, [0]⟩, ⟨some 4, .mv (.c (.int .i64 0)), none, [4]⟩] [1, 2]) (.seq (.rg [⟨some 5, .faddr 0 (.v 2), none, []⟩, ⟨some 6, .loadN 2 (.v 5), none, [5]⟩, ⟨some 7, .mv (.v 1), none, [1]⟩, ⟨some 8, .call 9 [.v 6, .v 7], none, [6, 7]⟩, ⟨some 1, .mv (.v 8), none, [8]⟩] [1, 2]) (.seq (.seq (.rg [⟨some 9, .mv (.v 1), none, []⟩, ⟨some 10, .bin .lss (.v 9) (.c (.int .i64 0)), none, [9]⟩] [1, 2, 10]) (.cond (.v 10) (.seq (.rg [⟨some 4, .mv (.c (.int .i64 (-1))), none, []⟩] [4]) .ret) .skip)) (.seq (.rg [⟨some 11, .faddr 2 (.v 2), none, [2]⟩, ⟨some 12, .load1 (.v 11), none, [11]⟩, ⟨some 13, .mv (.v 1), none, [1]⟩, ⟨some 14, .call 56 [.v 12, .v 13], none, [12, 13]⟩, ⟨some 1, .mv (.v 14), none, [14]⟩] [1]) (.seq (.seq (.rg [⟨some 15, .mv (.v 1), none, []⟩, ⟨some 16, .bin .lss (.v 15) (.c (.int .i64 0)), none, [15]⟩] [1, 16]) (.cond (.v 16) (.seq (.rg [⟨some 4, .mv (.c (.int .i64 (-1))), none, []⟩] [4]) .ret) .skip)) (.seq (.rg [⟨some 17, .mv (.v 1), none, [1]⟩, ⟨some 4, .mv (.v 17), none, [17]⟩] [4]) .ret)))))) }
theorem k_laws_szPlanBook : okFun Go.Proofs.Tryz.prog 18 s_laws_szPlanBook = true := by kernel_rfl
def l_spec_PlanBookOk_0 : SCode := (.seq (.seq (.rg [⟨some 14, .mv (.v 3), none, []⟩, ⟨some 15, .faddr 2 (.v 1), none, []⟩, ⟨some 16, .load1 (.v 15), none, [15]⟩, ⟨some 17, .lenL (.v 16), none, [16]⟩, ⟨some 18, .bin .lss (.v 14) (.v 17), none, [14, 17]⟩] [1, 3, 18]) (.cond (.v 18) .skip (.exit 0))) (.seq (.block 1 (.seq (.rgd [⟨some 21, .faddr 0 (.v 1), none, []⟩, ⟨some 22, .loadN 2 (.v 21), none, []⟩, ⟨some 23, .faddr 2 (.v 1), none, []⟩, ⟨some 24, .load1 (.v 23), none, []⟩, ⟨some 25, .mv (.v 3), none, []⟩, ⟨some 26, .iaddr 2 (.v 24) (.v 25), none, []⟩, ⟨some 27, .loadN 2 (.v 26), none, []⟩, ⟨some 28, .call 57 [.v 22, .v 27], none, []⟩, ⟨some 29, .not (.v 28), none, []⟩, ⟨some 30, .mv (.v 29), none, []⟩, ⟨some 31, .mv (.v 3), some (30, false), []⟩, ⟨some 32, .bin .gtr (.v 31) (.c (.int .i64 0)), some (30, false), []⟩, ⟨some 33, .mv (.v 32), some (30, false), []⟩, ⟨some 34, .faddr 2 (.v 1), some (33, true), []⟩, ⟨some 35, .load1 (.v 34), some (33, true), []⟩, ⟨some 36, .mv (.v 3), some (33, true), []⟩, ⟨some 37, .binN .sub (.v 36) (.c (.int .i64 1)), some (33, true), []⟩, ⟨some 38, .iaddr 2 (.v 35) (.v 37), some (33, true), []⟩, ⟨some 39, .faddr 0 (.v 38), some (33, true), []⟩, ⟨some 40, .load1 (.v 39), some (33, true), []⟩, ⟨some 41, .faddr 2 (.v 1), some (33, true), []⟩, ⟨some 42, .load1 (.v 41), some (33, true), []⟩, ⟨some 43, .mv (.v 3), some (33, true), []⟩, ⟨some 44, .iaddr 2 (.v 42) (.v 43), some (33, true), []⟩, ⟨some 45, .faddr 0 (.v 44), some (33, true), []⟩, ⟨some 46, .load1 (.v 45), some (33, true), []⟩, ⟨some 47, .bin .geq (.v 40) (.v 46), some (33, true), []⟩, ⟨some 48, .pick (.v 33) (.v 47) (.c (.bool false)), some (30, false), []⟩, ⟨some 49, .pick (.v 30) (.c (.bool true)) (.v 48), none, []⟩] [1, 3, 49] [none, none, none, none, none, none, none, none, none, none, none, none, none, none, none, none, none, none, none, none, none, none, none, none, none, none, none, none, none]) (.cond (.v 49) (.seq (.rg [⟨some 2, .mv (.c (.bool false)), none, []⟩] [2]) .ret) .skip))) (.rg [⟨some 19, .mv (.v 3), none, [3]⟩, ⟨some 20, .binN .add (.v 19) (.c (.int .i64 1)), none, [19]⟩, ⟨some 3, .mv (.v 20), none, [20]⟩] [1, 3])))
/-- spec.PlanBookOk: function 19 -/
def s_spec_PlanBookOk : SFun := { n := 50, res := [.t 2], body := (.seq (.rg [⟨some 1, .box 101 (.v 0), none, [0]⟩, ⟨some 2, .mv (.c (.bool false)), none, [2]⟩] [1]) (.seq (.seq (.rg [⟨some 4, .faddr 0 (.v 1), none, []⟩, ⟨some 5, .loadN 2 (.v 4), none, [4]⟩, ⟨some 6, .call 41 [.v 5], none, [5]⟩, ⟨some 7, .not (.v 6), none, [6]⟩, ⟨some 8, .mv (.v 7), none, [7]⟩, ⟨some 9, .faddr 2 (.v 1), some (8, false), []⟩, ⟨some 10, .load1 (.v 9), some (8, false), [9]⟩, ⟨some 11, .lenL (.v 10), some (8, false), [10]⟩, ⟨some 12, .bin .gtr (.v 11) (.c (.int .i64 12)), some (8, false), [11]⟩, ⟨some 13, .pick (.v 8) (.c (.bool true)) (.v 12), none, [8, 12]⟩] [1, 13]) (.cond (.v 13) (.seq (.rg [⟨some 2, .mv (.c (.bool false)), none, []⟩] [2]) .ret) .skip)) (.seq (.seq (.rg [⟨some 3, .mv (.c (.int .i64 0)), none, []⟩] [1, 3]) (.block 0 (.loop l_spec_PlanBookOk_0))) (.seq (.rg [⟨some 2, .mv (.c (.bool true)), none, []⟩] [2]) .ret)))) }
theorem k_spec_PlanBookOk : okFun Go.Proofs.Tryz.prog 19 s_spec_PlanBookOk = true := by kernel_rfl
/-- laws.toPlanBook: function 20 -/
def s_laws_toPlanBook : SFun := { n := 13, res := [.cN 2 3], body := (.seq (.rg [⟨some 1, .box 101 (.v 0), none, [0]⟩, ⟨some 2, .alloc 102 [.sl 0 3 [], .sl 0 3 [], .sl 0 2 []], none, []⟩] [1, 2]) (.seq (.rg [⟨some 3, .alloc 103 [.sl 0 3 [], .sl 0 3 [], .sl 0 2 []], none, []⟩] [1, 2, 3]) (.seq (.rg [⟨some 4, .faddr 0 (.v 1), none, []⟩, ⟨some 5, .loadN 2 (.v 4), none, [4]⟩, ⟨some 6, .call 11 [.v 5], none, [5]⟩, ⟨some 7, .faddr 0 (.v 3), none, []⟩, ⟨none, .store 2 (.v 7) (.v 6), none, [6, 7]⟩] [1, 2, 3]) (.seq (.rg [⟨some 8, .faddr 2 (.v 1), none, [1]⟩, ⟨some 9, .load1 (.v 8), none, [8]⟩, ⟨some 10, .call 58 [.v 9], none, [9]⟩, ⟨some 11, .faddr 2 (.v 3), none, []⟩, ⟨none, .store 1 (.v 11) (.v 10), none, [10, 11]⟩] [2, 3]) (.seq (.rg [⟨some 12, .loadN 3 (.v 3), none, [3]⟩, ⟨none, .store 3 (.v 2) (.v 12), none, [12]⟩] [2]) .ret))))) }
theorem k_laws_toPlanBook : okFun Go.Proofs.Tryz.prog 20 s_laws_toPlanBook = true := by kernel_rfl
def l_impl_PlanBookOk_0 : SCode := (.seq (.rg [⟨some 49, .bin .lss (.v 48) (.v 47), none, []⟩] [1, 4, 18, 19, 20, 46, 47, 48, 49]) (.seq (.cond (.v 49) .skip (.exit 2)) (.seq (.block 3 (.seq (.rg [⟨some 50, .mv (.v 48), none, []⟩, ⟨some 51, .iaddr 3 (.v 46) (.v 48), none, []⟩, ⟨some 52, .loadN 3 (.v 51), none, [51]⟩, ⟨some 6, .alloc 106 [.int .i64 0, .int .i64 0, .str ⟨#[]⟩], none, []⟩, ⟨some 5, .mv (.v 50), none, [50]⟩, ⟨none, .store 3 (.v 6) (.v 52), none, [52]⟩] [1, 4, 5, 6, 18, 19, 20, 46, 47, 48]) (.seq (.rgd [⟨some 53, .faddr 0 (.v 1), none, []⟩, ⟨some 54, .loadN 2 (.v 53), none, []⟩, ⟨some 55, .faddr 0 (.v 4), none, []⟩, ⟨some 56, .load1 (.v 55), none, []⟩, ⟨some 57, .faddr 0 (.v 6), none, []⟩, ⟨some 58, .load1 (.v 57), none, []⟩, ⟨some 59, .faddr 1 (.v 6), none, []⟩, ⟨some 60, .load1 (.v 59), none, []⟩, ⟨some 61, .faddr 2 (.v 6), none, []⟩, ⟨some 62, .load1 (.v 61), none, []⟩, ⟨some 63, .build [.str ⟨#[]⟩, .int .i64 0, .int .i64 0, .str ⟨#[]⟩] [(0, 1, .v 56), (1, 1, .v 58), (2, 1, .v 60), (3, 1, .v 62)], none, []⟩, ⟨some 64, .call 55 [.v 54, .v 63], none, []⟩, ⟨some 65, .not (.v 64), none, []⟩, ⟨some 66, .mv (.v 65), none, []⟩, ⟨some 67, .mv (.v 5), some (66, false), []⟩, ⟨some 68, .bin .gtr (.v 67) (.c (.int .i64 0)), some (66, false), []⟩, ⟨some 69, .mv (.v 68), some (66, false), []⟩, ⟨some 70, .faddr 0 (.v 6), some (69, true), []⟩, ⟨some 71, .load1 (.v 70), some (69, true), []⟩, ⟨some 72, .faddr 1 (.v 4), some (69, true), []⟩, ⟨some 73, .load1 (.v 72), some (69, true), []⟩, ⟨some 74, .mv (.v 5), some (69, true), []⟩, ⟨some 75, .binN .sub (.v 74) (.c (.int .i64 1)), some (69, true), []⟩, ⟨some 76, .iaddr 3 (.v 73) (.v 75), some (69, true), []⟩, ⟨some 77, .faddr 0 (.v 76), some (69, true), []⟩, ⟨some 78, .load1 (.v 77), some (69, true), []⟩, ⟨some 79, .bin .leq (.v 71) (.v 78), some (69, true), []⟩, ⟨some 80, .pick (.v 69) (.v 79) (.c (.bool false)), some (66, false), []⟩, ⟨some 81, .pick (.v 66) (.c (.bool true)) (.v 80), none, []⟩] [1, 4, 18, 19, 20, 46, 47, 48, 81] [none, none, none, none, none, none, none, none, none, none, none, none, none, none, none, none, none, none, none, none, none, none, none, none, none, none, none, none, none]) (.cond (.v 81) (.seq (.rg [⟨some 2, .mv (.c (.bool false)), none, []⟩] [2]) .ret) .skip)))) (.rg [⟨some 82, .binN .add (.v 48) (.c (.int .i64 1)), none, [48]⟩, ⟨some 48, .mv (.v 82), none, [82]⟩] [1, 4, 18, 19, 20, 46, 47, 48]))))
def l_impl_PlanBookOk_1 : SCode := (.seq (.rg [⟨some 21, .bin .lss (.v 20) (.v 19), none, []⟩] [1, 18, 19, 20, 21]) (.seq (.cond (.v 21) .skip (.exit 0)) (.seq (.block 1 (.seq (.rg [⟨some 22, .mv (.v 20), none, []⟩, ⟨some 23, .iaddr 2 (.v 18) (.v 20), none, []⟩, ⟨some 24, .loadN 2 (.v 23), none, [23]⟩, ⟨some 4, .alloc 104 [.str ⟨#[]⟩, .sl 0 3 []], none, []⟩, ⟨some 3, .mv (.v 22), none, [22]⟩, ⟨none, .store 2 (.v 4) (.v 24), none, [24]⟩] [1, 3, 4, 18, 19, 20]) (.seq (.seq (.rgd [⟨some 25, .faddr 1 (.v 4), none, []⟩, ⟨some 26, .load1 (.v 25), none, []⟩, ⟨some 27, .lenL (.v 26), none, []⟩, ⟨some 28, .bin .eql (.v 27) (.c (.int .i64 0)), none, []⟩, ⟨some 29, .mv (.v 28), none, []⟩, ⟨some 30, .mv (.v 3), some (29, false), []⟩, ⟨some 31, .bin .gtr (.v 30) (.c (.int .i64 0)), some (29, false), []⟩, ⟨some 32, .mv (.v 31), some (29, false), []⟩, ⟨some 33, .faddr 0 (.v 4), some (32, true), []⟩, ⟨some 34, .load1 (.v 33), some (32, true), []⟩, ⟨some 35, .faddr 2 (.v 1), some (32, true), []⟩, ⟨some 36, .load1 (.v 35), some (32, true), []⟩, ⟨some 37, .mv (.v 3), some (32, true), []⟩, ⟨some 38, .binN .sub (.v 37) (.c (.int .i64 1)), some (32, true), []⟩, ⟨some 39, .iaddr 2 (.v 36) (.v 38), some (32, true), []⟩, ⟨some 40, .faddr 0 (.v 39), some (32, true), []⟩, ⟨some 41, .load1 (.v 40), some (32, true), []⟩, ⟨some 42, .bin .leq (.v 34) (.v 41), some (32, true), []⟩, ⟨some 43, .pick (.v 32) (.v 42) (.c (.bool false)), some (29, false), []⟩, ⟨some 44, .pick (.v 29) (.c (.bool true)) (.v 43), none, []⟩] [1, 4, 18, 19, 20, 44] [none, none, none, none, none, none, none, none, none, none, none, none, none, none, none, none, none, none, none, none]) (.cond (.v 44) (.seq (.rg [⟨some 2, .mv (.c (.bool false)), none, []⟩] [2]) .ret) .skip)) (.seq (.rg [⟨some 45, .faddr 1 (.v 4), none, []⟩, ⟨some 46, .load1 (.v 45), none, [45]⟩, ⟨some 47, .lenL (.v 46), none, []⟩, ⟨some 48, .mv (.c (.int .i64 0)), none, []⟩] [1, 4, 18, 19, 20, 46, 47, 48]) (.block 2 (.loop l_impl_PlanBookOk_0)))))) (.rg [⟨some 83, .binN .add (.v 20) (.c (.int .i64 1)), none, [20]⟩, ⟨some 20, .mv (.v 83), none, [83]⟩] [1, 18, 19, 20]))))
/-- impl.PlanBookOk: function 21 -/
def s_impl_PlanBookOk : SFun := { n := 84, res := [.t 2], body := (.seq (.rg [⟨some 1, .box 101 (.v 0), none, [0]⟩, ⟨some 2, .mv (.c (.bool false)), none, [2]⟩] [1]) (.seq (.seq (.rg [⟨some 7, .faddr 0 (.v 1), none, []⟩, ⟨some 8, .loadN 2 (.v 7), none, [7]⟩, ⟨some 9, .call 50 [.v 8], none, [8]⟩, ⟨some 10, .not (.v 9), none, [9]⟩, ⟨some 11, .mv (.v 10), none, [10]⟩, ⟨some 12, .faddr 2 (.v 1), some (11, false), []⟩, ⟨some 13, .load1 (.v 12), some (11, false), [12]⟩, ⟨some 14, .lenL (.v 13), some (11, false), [13]⟩, ⟨some 15, .bin .gtr (.v 14) (.c (.int .i64 12)), some (11, false), [14]⟩, ⟨some 16, .pick (.v 11) (.c (.bool true)) (.v 15), none, [11, 15]⟩] [1, 16]) (.cond (.v 16) (.seq (.rg [⟨some 2, .mv (.c (.bool false)), none, []⟩] [2]) .ret) .skip)) (.seq (.seq (.rg [⟨some 17, .faddr 2 (.v 1), none, []⟩, ⟨some 18, .load1 (.v 17), none, [17]⟩, ⟨some 19, .lenL (.v 18), none, []⟩, ⟨some 20, .mv (.c (.int .i64 0)), none, []⟩] [1, 18, 19, 20]) (.block 0 (.loop l_impl_PlanBookOk_1))) (.seq (.rg [⟨some 2, .mv (.c (.bool true)), none, []⟩] [2]) .ret)))) }
theorem k_impl_PlanBookOk : okFun Go.Proofs.Tryz.prog 21 s_impl_PlanBookOk = true := by kernel_rfl
/-- laws.eqPlanBook: function 22 -/
def s_laws_eqPlanBook : SFun := { n := 17, res := [.t 4], body := (.seq (.rg [⟨some 2, .box 102 (.v 0), none, [0]⟩, ⟨some 3, .box 103 (.v 1), none, [1]⟩, ⟨some 4, .mv (.c (.bool false)), none, [4]⟩] [2, 3]) (.seq (.seq (.rg [⟨some 5, .faddr 0 (.v 2), none, []⟩, ⟨some 6, .loadN 2 (.v 5), none, [5]⟩, ⟨some 7, .faddr 0 (.v 3), none, []⟩, ⟨some 8, .loadN 2 (.v 7), none, [7]⟩, ⟨some 9, .call 13 [.v 6, .v 8], none, [6, 8]⟩, ⟨some 10, .not (.v 9), none, [9]⟩] [2, 3, 10]) (.cond (.v 10) (.seq (.rg [⟨some 4, .mv (.c (.bool false)), none, []⟩] [4]) .ret) .skip)) (.seq (.seq (.rg [⟨some 11, .faddr 2 (.v 2), none, [2]⟩, ⟨some 12, .load1 (.v 11), none, [11]⟩, ⟨some 13, .faddr 2 (.v 3), none, [3]⟩, ⟨some 14, .load1 (.v 13), none, [13]⟩, ⟨some 15, .call 59 [.v 12, .v 14], none, [12, 14]⟩, ⟨some 16, .not (.v 15), none, [15]⟩] [16]) (.cond (.v 16) (.seq (.rg [⟨some 4, .mv (.c (.bool false)), none, []⟩] [4]) .ret) .skip)) (.seq (.rg [⟨some 4, .mv (.c (.bool true)), none, []⟩] [4]) .ret)))) }
theorem k_laws_eqPlanBook : okFun Go.Proofs.Tryz.prog 22 s_laws_eqPlanBook = true := by kernel_rfl
end Go.Ve

namespace Go.Ve
open Go.Proofs
set_option maxRecDepth 100000
/-- laws.markPlanBook: function 26 -/
def s_laws_markPlanBook : SFun := { n := 14, res := [.t 4], body := (.seq (.rg [⟨some 2, .box 102 (.v 0), none, [0]⟩, ⟨some 4, .mv (.c (.int .i64 0)), none, [4]⟩] [1, 2]) (.seq (.rg [⟨some 5, .faddr 0 (.v 2), none, []⟩, ⟨some 6, .loadN 2 (.v 5), none, [5]⟩, ⟨some 7, .mv (.v 1), none, [1]⟩, ⟨some 8, .call 64 [.v 6, .v 7], none, [6, 7]⟩, ⟨some 1, .mv (.v 8), none, [8]⟩] [1, 2]) (.seq (.rg [⟨some 9, .faddr 2 (.v 2), none, [2]⟩, ⟨some 10, .load1 (.v 9), none, [9]⟩, ⟨some 11, .mv (.v 1), none, [1]⟩, ⟨some 12, .call 65 [.v 10, .v 11], none, [10, 11]⟩, ⟨some 1, .mv (.v 12), none, [12]⟩] [1]) (.seq (.rg [⟨some 13, .mv (.v 1), none, [1]⟩, ⟨some 4, .mv (.v 13), none, [13]⟩] [4]) .ret)))) }
theorem k_laws_markPlanBook : okFun Go.Proofs.Tryz.prog 26 s_laws_markPlanBook = true := by kernel_rfl
/-- laws.eqPlanFlight: function 31 -/
def s_laws_eqPlanFlight : SFun := { n := 37, res := [.t 4], body := (.seq (.rg [⟨some 2, .box 102 (.v 0), none, [0]⟩, ⟨some 3, .box 103 (.v 1), none, [1]⟩, ⟨some 4, .mv (.c (.bool false)), none, [4]⟩] [2, 3]) (.seq (.seq (.rg [⟨some 5, .faddr 0 (.v 2), none, []⟩, ⟨some 6, .load1 (.v 5), none, [5]⟩, ⟨some 7, .faddr 0 (.v 3), none, []⟩, ⟨some 8, .load1 (.v 7), none, [7]⟩, ⟨some 9, .bin .neq (.v 6) (.v 8), none, [6, 8]⟩] [2, 3, 9]) (.cond (.v 9) (.seq (.rg [⟨some 4, .mv (.c (.bool false)), none, []⟩] [4]) .ret) .skip)) (.seq (.seq (.rg [⟨some 10, .faddr 1 (.v 2), none, []⟩, ⟨some 11, .loadN 3 (.v 10), none, [10]⟩, ⟨some 12, .faddr 1 (.v 3), none, []⟩, ⟨some 13, .loadN 3 (.v 12), none, [12]⟩, ⟨some 14, .call 70 [.v 11, .v 13], none, [11, 13]⟩, ⟨some 15, .not (.v 14), none, [14]⟩] [2, 3, 15]) (.cond (.v 15) (.seq (.rg [⟨some 4, .mv (.c (.bool false)), none, []⟩] [4]) .ret) .skip)) (.seq (.seq (.rg [⟨some 16, .faddr 4 (.v 2), none, []⟩, ⟨some 17, .load1 (.v 16), none, [16]⟩, ⟨some 18, .faddr 4 (.v 3), none, []⟩, ⟨some 19, .load1 (.v 18), none, [18]⟩, ⟨some 20, .bin .neq (.v 17) (.v 19), none, [17, 19]⟩] [2, 3, 20]) (.cond (.v 20) (.seq (.rg [⟨some 4, .mv (.c (.bool false)), none, []⟩] [4]) .ret) .skip)) (.seq (.seq (.rg [⟨some 21, .faddr 5 (.v 2), none, []⟩, ⟨some 22, .load1 (.v 21), none, [21]⟩, ⟨some 23, .faddr 5 (.v 3), none, []⟩, ⟨some 24, .load1 (.v 23), none, [23]⟩, ⟨some 25, .bin .neq (.v 22) (.v 24), none, [22, 24]⟩] [2, 3, 25]) (.cond (.v 25) (.seq (.rg [⟨some 4, .mv (.c (.bool false)), none, []⟩] [4]) .ret) .skip)) (.seq (.seq (.rg [⟨some 26, .faddr 6 (.v 2), none, []⟩, ⟨some 27, .load1 (.v 26), none, [26]⟩, ⟨some 28, .faddr 6 (.v 3), none, []⟩, ⟨some 29, .load1 (.v 28), none, [28]⟩, ⟨some 30, .bin .neq (.v 27) (.v 29), none, [27, 29]⟩] [2, 3, 30]) (.cond (.v 30) (.seq (.rg [⟨some 4, .mv (.c (.bool false)), none, []⟩] [4]) .ret) .skip)) (.seq (.seq (.rg [⟨some 31, .faddr 7 (.v 2), none, [2]⟩, ⟨some 32, .load1 (.v 31), none, [31]⟩, ⟨some 33, .faddr 7 (.v 3), none, [3]⟩, ⟨some 34, .load1 (.v 33), none, [33]⟩, ⟨some 35, .call 71 [.v 32, .v 34], none, [32, 34]⟩, ⟨some 36, .not (.v 35), none, [35]⟩] [36]) (.cond (.v 36) (.seq (.rg [⟨some 4, .mv (.c (.bool false)), none, []⟩] [4]) .ret) .skip)) (.seq (.rg [⟨some 4, .mv (.c (.bool true)), none, []⟩] [4]) .ret)))))))) }
theorem k_laws_eqPlanFlight : okFun Go.Proofs.Tryz.prog 31 s_laws_eqPlanFlight = true := by kernel_rfl
def l_spec_PlanAll_0 : SCode := (.seq (.seq (.rg [⟨some 12, .mv (.v 4), none, []⟩, ⟨some 13, .faddr 2 (.v 1), none, []⟩, ⟨some 14, .load1 (.v 13), none, [13]⟩, ⟨some 15, .lenL (.v 14), none, [14]⟩, ⟨some 16, .bin .lss (.v 12) (.v 15), none, [12, 15]⟩] [1, 3, 4, 16]) (.cond (.v 16) .skip (.exit 0))) (.seq (.block 1 (.seq (.rgd [⟨some 20, .loadN 3 (.v 1), none, []⟩, ⟨some 21, .faddr 2 (.v 1), none, []⟩, ⟨some 22, .load1 (.v 21), none, []⟩, ⟨some 23, .mv (.v 4), none, []⟩, ⟨some 24, .iaddr 2 (.v 22) (.v 23), none, []⟩, ⟨some 25, .loadN 2 (.v 24), none, []⟩, ⟨some 26, .call 68 [.v 20, .v 25], none, []⟩, ⟨some 19, .mv (.v 26), none, []⟩, ⟨some 27, .ext 0 (.v 19), none, []⟩, ⟨some 28, .ext 1 (.v 19), none, []⟩, ⟨some 5, .alloc 105 [.str ⟨#[]⟩, .str ⟨#[]⟩, .int .i64 0, .int .i64 0, .int .i64 0, .int .i64 0, .int .i64 0, .sl 0 1 []], none, []⟩, ⟨none, .store 8 (.v 5) (.v 27), none, []⟩, ⟨some 6, .mv (.v 28), none, []⟩] [1, 3, 4, 5, 6] [some [], some [], some [], none, some [], some [], some [], none, none, none, some [9, 8, 7, 5, 4, 3], none, none]) (.seq (.rg [⟨some 29, .mv (.v 6), none, [6]⟩] [1, 3, 4, 5, 29]) (.cond (.v 29) (.rg [⟨some 30, .mv (.v 3), none, [3]⟩, ⟨some 31, .loadN 8 (.v 5), none, [5]⟩, ⟨some 32, .lit 63 8 [.v 31], none, [31]⟩, ⟨some 33, .app 107 63 8 (.v 30) (.v 32), none, [30, 32]⟩, ⟨some 3, .mv (.v 33), none, [33]⟩] [1, 3, 4]) .skip)))) (.rg [⟨some 17, .mv (.v 4), none, [4]⟩, ⟨some 18, .binN .add (.v 17) (.c (.int .i64 1)), none, [17]⟩, ⟨some 4, .mv (.v 18), none, [18]⟩] [1, 3, 4])))
/-- spec.PlanAll: function 34 -/
def s_spec_PlanAll : SFun := { n := 35, res := [.t 2], body := (.seq (.rg [⟨some 1, .box 101 (.v 0), none, [0]⟩, ⟨some 2, .mv (.c (.sl 0 8 [])), none, [2]⟩] [1]) (.seq (.rg [⟨some 7, .litOwn 107 63 8 [], none, []⟩, ⟨some 3, .mv (.v 7), none, [7]⟩] [1, 3]) (.seq (.seq (.rg [⟨some 8, .loadN 3 (.v 1), none, []⟩, ⟨some 9, .call 19 [.v 8], none, [8]⟩, ⟨some 10, .not (.v 9), none, [9]⟩] [1, 3, 10]) (.cond (.v 10) (.seq (.rg [⟨some 11, .mv (.v 3), none, [3]⟩, ⟨some 2, .mv (.v 11), none, [11]⟩] [2]) (.gh (.frzE 2) .ret)) .skip)) (.seq (.seq (.rg [⟨some 4, .mv (.c (.int .i64 0)), none, []⟩] [1, 3, 4]) (.block 0 (.loop l_spec_PlanAll_0))) (.seq (.rg [⟨some 34, .mv (.v 3), none, [3]⟩, ⟨some 2, .mv (.v 34), none, [34]⟩] [2]) (.gh (.frzE 2) .ret)))))) }
theorem k_spec_PlanAll : okFun Go.Proofs.Tryz.prog 34 s_spec_PlanAll = true := by kernel_rfl
def l_laws_eqPlanFlightS_0 : SCode := (.seq (.seq (.rg [⟨some 11, .mv (.v 5), none, []⟩, ⟨some 12, .mv (.v 0), none, []⟩, ⟨some 13, .lenL (.v 12), none, [12]⟩, ⟨some 14, .bin .lss (.v 11) (.v 13), none, [11, 13]⟩] [0, 1, 5, 14]) (.cond (.v 14) .skip (.exit 0))) (.seq (.block 1 (.seq (.rgd [⟨some 17, .mv (.v 0), none, []⟩, ⟨some 18, .mv (.v 5), none, []⟩, ⟨some 19, .iaddr 8 (.v 17) (.v 18), none, []⟩, ⟨some 20, .loadN 8 (.v 19), none, []⟩, ⟨some 21, .mv (.v 1), none, []⟩, ⟨some 22, .mv (.v 5), none, []⟩, ⟨some 23, .iaddr 8 (.v 21) (.v 22), none, []⟩, ⟨some 24, .loadN 8 (.v 23), none, []⟩, ⟨some 25, .call 31 [.v 20, .v 24], none, []⟩, ⟨some 26, .not (.v 25), none, []⟩] [0, 1, 5, 26] [none, none, none, none, none, none, none, none, none, none]) (.cond (.v 26) (.seq (.rg [⟨some 4, .mv (.c (.bool false)), none, []⟩] [4]) .ret) .skip))) (.rg [⟨some 15, .mv (.v 5), none, [5]⟩, ⟨some 16, .binN .add (.v 15) (.c (.int .i64 1)), none, [15]⟩, ⟨some 5, .mv (.v 16), none, [16]⟩] [0, 1, 5])))
/-- laws.eqPlanFlightS: function 36 -/
def s_laws_eqPlanFlightS : SFun := { n := 27, res := [.t 4], body := (.seq (.rg [⟨some 4, .mv (.c (.bool false)), none, [4]⟩] [0, 1]) (.seq (.seq (.rg [⟨some 6, .mv (.v 0), none, []⟩, ⟨some 7, .lenL (.v 6), none, [6]⟩, ⟨some 8, .mv (.v 1), none, []⟩, ⟨some 9, .lenL (.v 8), none, [8]⟩, ⟨some 10, .bin .neq (.v 7) (.v 9), none, [7, 9]⟩] [0, 1, 10]) (.cond (.v 10) (.seq (.rg [⟨some 4, .mv (.c (.bool false)), none, []⟩] [4]) .ret) .skip)) (.seq (.seq (.rg [⟨some 5, .mv (.c (.int .i64 0)), none, []⟩] [0, 1, 5]) (.block 0 (.loop l_laws_eqPlanFlightS_0))) (.seq (.rg [⟨some 4, .mv (.c (.bool true)), none, []⟩] [4]) .ret)))) }
theorem k_laws_eqPlanFlightS : okFun Go.Proofs.Tryz.prog 36 s_laws_eqPlanFlightS = true := by kernel_rfl
def l_laws_markPlanFlightS_0 : SCode := (.seq (.seq (.rg [⟨some 6, .mv (.v 5), none, []⟩, ⟨some 7, .mv (.v 0), none, []⟩, ⟨some 8, .lenL (.v 7), none, [7]⟩, ⟨some 9, .bin .lss (.v 6) (.v 8), none, [6, 8]⟩] [0, 1, 5, 9]) (.cond (.v 9) .skip (.exit 0))) (.seq (.block 1 (.seq (.rg [⟨some 12, .mv (.v 0), none, []⟩, ⟨some 13, .mv (.v 5), none, []⟩, ⟨some 14, .mv (.v 1), none, []⟩, ⟨some 15, .call 66 [.v 14], none, [14]⟩, ⟨some 16, .iaddr 8 (.v 12) (.v 13), none, [12, 13]⟩, ⟨some 17, .faddr 0 (.v 16), none, [16]⟩, ⟨none, .store 1 (.v 17) (.v 15), none, [15, 17]⟩] [0, 1, 5]) (.seq (.rg [⟨some 18, .mv (.v 1), none, [1]⟩, ⟨some 19, .binN .add (.v 18) (.c (.int .i64 1)), none, [18]⟩, ⟨some 1, .mv (.v 19), none, [19]⟩] [0, 1, 5]) (.seq (.rg [⟨some 20, .mv (.v 0), none, []⟩, ⟨some 21, .mv (.v 5), none, []⟩, ⟨some 22, .mv (.v 1), none, []⟩, ⟨some 23, .call 66 [.v 22], none, [22]⟩, ⟨some 24, .iaddr 8 (.v 20) (.v 21), none, [20, 21]⟩, ⟨some 25, .faddr 1 (.v 24), none, [24]⟩, ⟨some 26, .faddr 0 (.v 25), none, [25]⟩, ⟨none, .store 1 (.v 26) (.v 23), none, [23, 26]⟩] [0, 1, 5]) (.seq (.rg [⟨some 27, .mv (.v 1), none, [1]⟩, ⟨some 28, .binN .add (.v 27) (.c (.int .i64 1)), none, [27]⟩, ⟨some 1, .mv (.v 28), none, [28]⟩] [0, 1, 5]) (.seq (.rg [⟨some 29, .mv (.v 0), none, []⟩, ⟨some 30, .mv (.v 5), none, []⟩, ⟨some 31, .mv (.v 1), none, []⟩, ⟨some 32, .iaddr 8 (.v 29) (.v 30), none, [29, 30]⟩, ⟨some 33, .faddr 1 (.v 32), none, [32]⟩, ⟨some 34, .faddr 1 (.v 33), none, [33]⟩, ⟨none, .store 1 (.v 34) (.v 31), none, [31, 34]⟩] [0, 1, 5]) (.seq (.rg [⟨some 35, .mv (.v 1), none, [1]⟩, ⟨some 36, .binN .add (.v 35) (.c (.int .i64 1)), none, [35]⟩, ⟨some 1, .mv (.v 36), none, [36]⟩] [0, 1, 5]) (.seq (.rg [⟨some 37, .mv (.v 0), none, []⟩, ⟨some 38, .mv (.v 5), none, []⟩, ⟨some 39, .mv (.v 1), none, []⟩, ⟨some 40, .iaddr 8 (.v 37) (.v 38), none, [37, 38]⟩, ⟨some 41, .faddr 1 (.v 40), none, [40]⟩, ⟨some 42, .faddr 2 (.v 41), none, [41]⟩, ⟨none, .store 1 (.v 42) (.v 39), none, [39, 42]⟩] [0, 1, 5]) (.seq (.rg [⟨some 43, .mv (.v 1), none, [1]⟩, ⟨some 44, .binN .add (.v 43) (.c (.int .i64 1)), none, [43]⟩, ⟨some 1, .mv (.v 44), none, [44]⟩] [0, 1, 5]) (.seq (.rg [⟨some 45, .mv (.v 0), none, []⟩, ⟨some 46, .mv (.v 5), none, []⟩, ⟨some 47, .mv (.v 1), none, []⟩, ⟨some 48, .iaddr 8 (.v 45) (.v 46), none, [45, 46]⟩, ⟨some 49, .faddr 4 (.v 48), none, [48]⟩, ⟨none, .store 1 (.v 49) (.v 47), none, [47, 49]⟩] [0, 1, 5]) (.seq (.rg [⟨some 50, .mv (.v 1), none, [1]⟩, ⟨some 51, .binN .add (.v 50) (.c (.int .i64 1)), none, [50]⟩, ⟨some 1, .mv (.v 51), none, [51]⟩] [0, 1, 5]) (.seq (.rg [⟨some 52, .mv (.v 0), none, []⟩, ⟨some 53, .mv (.v 5), none, []⟩, ⟨some 54, .mv (.v 1), none, []⟩, ⟨some 55, .iaddr 8 (.v 52) (.v 53), none, [52, 53]⟩, ⟨some 56, .faddr 5 (.v 55), none, [55]⟩, ⟨none, .store 1 (.v 56) (.v 54), none, [54, 56]⟩] [0, 1, 5]) (.seq (.rg [⟨some 57, .mv (.v 1), none, [1]⟩, ⟨some 58, .binN .add (.v 57) (.c (.int .i64 1)), none, [57]⟩, ⟨some 1, .mv (.v 58), none, [58]⟩] [0, 1, 5]) (.seq (.rg [⟨some 59, .mv (.v 0), none, []⟩, ⟨some 60, .mv (.v 5), none, []⟩, ⟨some 61, .mv (.v 1), none, []⟩, ⟨some 62, .iaddr 8 (.v 59) (.v 60), none, [59, 60]⟩, ⟨some 63, .faddr 6 (.v 62), none, [62]⟩, ⟨none, .store 1 (.v 63) (.v 61), none, [61, 63]⟩] [0, 1, 5]) (.seq (.rg [⟨some 64, .mv (.v 1), none, [1]⟩, ⟨some 65, .binN .add (.v 64) (.c (.int .i64 1)), none, [64]⟩, ⟨some 1, .mv (.v 65), none, [65]⟩] [0, 1, 5]) (.rg [⟨some 66, .mv (.v 0), none, []⟩, ⟨some 67, .mv (.v 5), none, []⟩, ⟨some 68, .iaddr 8 (.v 66) (.v 67), none, [66, 67]⟩, ⟨some 69, .faddr 7 (.v 68), none, [68]⟩, ⟨some 70, .load1 (.v 69), none, [69]⟩, ⟨some 71, .mv (.v 1), none, [1]⟩, ⟨some 72, .call 72 [.v 70, .v 71], none, [70, 71]⟩, ⟨some 1, .mv (.v 72), none, [72]⟩] [0, 1, 5])))))))))))))))) (.rg [⟨some 10, .mv (.v 5), none, [5]⟩, ⟨some 11, .binN .add (.v 10) (.c (.int .i64 1)), none, [10]⟩, ⟨some 5, .mv (.v 11), none, [11]⟩] [0, 1, 5])))
/-- laws.markPlanFlightS: function 37 -/
def s_laws_markPlanFlightS : SFun := { n := 74, res := [.t 4], body := (.seq (.rg [⟨some 4, .mv (.c (.int .i64 0)), none, [4]⟩] [0, 1]) (.seq (.seq (.rg [⟨some 5, .mv (.c (.int .i64 0)), none, []⟩] [0, 1, 5]) (.block 0 (.loop l_laws_markPlanFlightS_0))) (.seq (.rg [⟨some 73, .mv (.v 1), none, [1]⟩, ⟨some 4, .mv (.v 73), none, [73]⟩] [4]) .ret))) }
theorem k_laws_markPlanFlightS : okFun Go.Proofs.Tryz.prog 37 s_laws_markPlanFlightS = true := by kernel_rfl
def l_laws_heldPlanFlightS_0 : SCode := (.seq (.seq (.rg [⟨some 6, .mv (.v 5), none, []⟩, ⟨some 7, .mv (.v 0), none, []⟩, ⟨some 8, .lenL (.v 7), none, [7]⟩, ⟨some 9, .bin .lss (.v 6) (.v 8), none, [6, 8]⟩] [0, 1, 5, 9]) (.cond (.v 9) .skip (.exit 0))) (.seq (.block 1 (.seq (.seq (.rgd [⟨some 12, .mv (.v 0), none, []⟩, ⟨some 13, .mv (.v 5), none, []⟩, ⟨some 14, .iaddr 8 (.v 12) (.v 13), none, []⟩, ⟨some 15, .faddr 0 (.v 14), none, []⟩, ⟨some 16, .load1 (.v 15), none, []⟩, ⟨some 17, .mv (.v 1), none, []⟩, ⟨some 18, .call 66 [.v 17], none, []⟩, ⟨some 19, .bin .neq (.v 16) (.v 18), none, []⟩] [0, 1, 5, 19] [none, none, some [], some [], some [], none, some [3, 2, 1], none]) (.cond (.v 19) (.seq (.rg [⟨some 4, .mv (.c (.int .i64 (-1))), none, []⟩] [4]) .ret) .skip)) (.seq (.rg [⟨some 20, .mv (.v 1), none, [1]⟩, ⟨some 21, .binN .add (.v 20) (.c (.int .i64 1)), none, [20]⟩, ⟨some 1, .mv (.v 21), none, [21]⟩] [0, 1, 5]) (.seq (.seq (.rgd [⟨some 22, .mv (.v 0), none, []⟩, ⟨some 23, .mv (.v 5), none, []⟩, ⟨some 24, .iaddr 8 (.v 22) (.v 23), none, []⟩, ⟨some 25, .faddr 1 (.v 24), none, []⟩, ⟨some 26, .faddr 0 (.v 25), none, []⟩, ⟨some 27, .load1 (.v 26), none, []⟩, ⟨some 28, .mv (.v 1), none, []⟩, ⟨some 29, .call 66 [.v 28], none, []⟩, ⟨some 30, .bin .neq (.v 27) (.v 29), none, []⟩] [0, 1, 5, 30] [none, none, some [], some [], some [], some [], none, some [4, 3, 2, 1], none]) (.cond (.v 30) (.seq (.rg [⟨some 4, .mv (.c (.int .i64 (-1))), none, []⟩] [4]) .ret) .skip)) (.seq (.rg [⟨some 31, .mv (.v 1), none, [1]⟩, ⟨some 32, .binN .add (.v 31) (.c (.int .i64 1)), none, [31]⟩, ⟨some 1, .mv (.v 32), none, [32]⟩] [0, 1, 5]) (.seq (.seq (.rg [⟨some 33, .mv (.v 0), none, []⟩, ⟨some 34, .mv (.v 5), none, []⟩, ⟨some 35, .iaddr 8 (.v 33) (.v 34), none, [33, 34]⟩, ⟨some 36, .faddr 1 (.v 35), none, [35]⟩, ⟨some 37, .faddr 1 (.v 36), none, [36]⟩, ⟨some 38, .load1 (.v 37), none, [37]⟩, ⟨some 39, .mv (.v 1), none, []⟩, ⟨some 40, .bin .neq (.v 38) (.v 39), none, [38, 39]⟩] [0, 1, 5, 40]) (.cond (.v 40) (.seq (.rg [⟨some 4, .mv (.c (.int .i64 (-1))), none, []⟩] [4]) .ret) .skip)) (.seq (.rg [⟨some 41, .mv (.v 1), none, [1]⟩, ⟨some 42, .binN .add (.v 41) (.c (.int .i64 1)), none, [41]⟩, ⟨some 1, .mv (.v 42), none, [42]⟩] [0, 1, 5]) (.seq (.seq (.rg [⟨some 43, .mv (.v 0), none, []⟩, ⟨some 44, .mv (.v 5), none, []⟩, ⟨some 45, .iaddr 8 (.v 43) (.v 44), none, [43, 44]⟩, ⟨some 46, .faddr 1 (.v 45), none, [45]⟩, ⟨some 47, .faddr 2 (.v 46), none, [46]⟩, ⟨some 48, .load1 (.v 47), none, [47]⟩, ⟨some 49, .mv (.v 1), none, []⟩, ⟨some 50, .bin .neq (.v 48) (.v 49), none, [48, 49]⟩] [0, 1, 5, 50]) (.cond (.v 50) (.seq (.rg [⟨some 4, .mv (.c (.int .i64 (-1))), none, []⟩] [4]) .ret) .skip)) (.seq (.rg [⟨some 51, .mv (.v 1), none, [1]⟩, ⟨some 52, .binN .add (.v 51) (.c (.int .i64 1)), none, [51]⟩, ⟨some 1, .mv (.v 52), none, [52]⟩] [0, 1, 5]) (.seq (.seq (.rg [⟨some 53, .mv (.v 0), none, []⟩, ⟨some 54, .mv (.v 5), none, []⟩, ⟨some 55, .iaddr 8 (.v 53) (.v 54), none, [53, 54]⟩, ⟨some 56, .faddr 4 (.v 55), none, [55]⟩, ⟨some 57, .load1 (.v 56), none, [56]⟩, ⟨some 58, .mv (.v 1), none, []⟩, ⟨some 59, .bin .neq (.v 57) (.v 58), none, [57, 58]⟩] [0, 1, 5, 59]) (.cond (.v 59) (.seq (.rg [⟨some 4, .mv (.c (.int .i64 (-1))), none, []⟩] [4]) .ret) .skip)) (.seq (.rg [⟨some 60, .mv (.v 1), none, [1]⟩, ⟨some 61, .binN .add (.v 60) (.c (.int .i64 1)), none, [60]⟩, ⟨some 1, .mv (.v 61), none, [61]⟩] [0, 1, 5]) (.seq (.seq (.rg [⟨some 62, .mv (.v 0), none, []⟩, ⟨some 63, .mv (.v 5), none, []⟩, ⟨some 64, .iaddr 8 (.v 62) (.v 63), none, [62, 63]⟩, ⟨some 65, .faddr 5 (.v 64), none, [64]⟩, ⟨some 66, .load1 (.v 65), none, [65]⟩, ⟨some 67, .mv (.v 1), none, []⟩, ⟨some 68, .bin .neq (.v 66) (.v 67), none, [66, 67]⟩] [0, 1, 5, 68]) (.cond (.v 68) (.seq (.rg [⟨some 4, .mv (.c (.int .i64 (-1))), none, []⟩] [4]) .ret) .skip)) (.seq (.rg [⟨some 69, .mv (.v 1), none, [1]⟩, ⟨some 70, .binN .add (.v 69) (.c (.int .i64 1)), none, [69]⟩, ⟨some 1, .mv (.v 70), none, [70]⟩] [0, 1, 5]) (.seq (.seq (.rg [⟨some 71, .mv (.v 0), none, []⟩, ⟨some 72, .mv (.v 5), none, []⟩, ⟨some 73, .iaddr 8 (.v 71) (.v 72), none, [71, 72]⟩, ⟨some 74, .faddr 6 (.v 73), none, [73]⟩, ⟨some 75, .load1 (.v 74), none, [74]⟩, ⟨some 76, .mv (.v 1), none, []⟩, ⟨some 77, .bin .neq (.v 75) (.v 76), none, [75, 76]⟩] [0, 1, 5, 77]) (.cond (.v 77) (.seq (.rg [⟨some 4, .mv (.c (.int .i64 (-1))), none, []⟩] [4]) .ret) .skip)) (.seq (.rg [⟨some 78, .mv (.v 1), none, [1]⟩, ⟨some 79, .binN .add (.v 78) (.c (.int .i64 1)), none, [78]⟩, ⟨some 1, .mv (.v 79), none, [79]⟩] [0, 1, 5]) (.seq (.rg [⟨some 80, .mv (.v 0), none, []⟩, ⟨some 81, .mv (.v 5), none, []⟩, ⟨some 82, .iaddr 8 (.v 80) (.v 81), none, [80, 81]⟩, ⟨some 83, .faddr 7 (.v 82), none, [82]⟩, ⟨some 84, .load1 (.v 83), none, [83]⟩, ⟨some 85, .mv (.v 1), none, [1]⟩, ⟨some 86, .call 73 [.v 84, .v 85], none, [84, 85]⟩, ⟨some 1, .mv (.v 86), none, [86]⟩] [0, 1, 5]) (.seq (.rg [⟨some 87, .mv (.v 1), none, []⟩, ⟨some 88, .bin .lss (.v 87) (.c (.int .i64 0)), none, [87]⟩] [0, 1, 5, 88]) (.cond (.v 88) (.seq (.rg [⟨some 4, .mv (.c (.int .i64 (-1))), none, []⟩] [4]) .ret) .skip)))))))))))))))))) (.rg [⟨some 10, .mv (.v 5), none, [5]⟩, ⟨some 11, .binN .add (.v 10) (.c (.int .i64 1)), none, [10]⟩, ⟨some 5, .mv (.v 11), none, [11]⟩] [0, 1, 5])))
/-- laws.heldPlanFlightS: function 38 -/
def s_laws_heldPlanFlightS : SFun := { n := 90, res := [.t 4], body := (.seq (.rg [⟨some 4, .mv (.c (.int .i64 0)), none, [4]⟩] [0, 1]) (.seq (.seq (.rg [⟨some 5, .mv (.c (.int .i64 0)), none, []⟩] [0, 1, 5]) (.block 0 (.loop l_laws_heldPlanFlightS_0))) (.seq (.rg [⟨some 89, .mv (.v 1), none, [1]⟩, ⟨some 4, .mv (.v 89), none, [89]⟩] [4]) .ret))) }
theorem k_laws_heldPlanFlightS : okFun Go.Proofs.Tryz.prog 38 s_laws_heldPlanFlightS = true := by kernel_rfl
def l_laws_szPlanKindS_0 : SCode := (.seq (.seq (.rg [⟨some 12, .mv (.v 5), none, []⟩, ⟨some 13, .mv (.v 0), none, []⟩, ⟨some 14, .lenL (.v 13), none, [13]⟩, ⟨some 15, .bin .lss (.v 12) (.v 14), none, [12, 14]⟩] [0, 1, 5, 15]) (.cond (.v 15) .skip (.exit 0))) (.seq (.block 1 (.seq (.rg [⟨some 18, .mv (.v 0), none, []⟩, ⟨some 19, .mv (.v 5), none, []⟩, ⟨some 20, .iaddr 3 (.v 18) (.v 19), none, [18, 19]⟩, ⟨some 21, .loadN 3 (.v 20), none, [20]⟩, ⟨some 22, .mv (.v 1), none, [1]⟩, ⟨some 23, .call 74 [.v 21, .v 22], none, [21, 22]⟩, ⟨some 1, .mv (.v 23), none, [23]⟩] [0, 1, 5]) (.seq (.rg [⟨some 24, .mv (.v 1), none, []⟩, ⟨some 25, .bin .lss (.v 24) (.c (.int .i64 0)), none, [24]⟩] [0, 1, 5, 25]) (.cond (.v 25) (.seq (.rg [⟨some 4, .mv (.c (.int .i64 (-1))), none, []⟩] [4]) .ret) .skip)))) (.rg [⟨some 16, .mv (.v 5), none, [5]⟩, ⟨some 17, .binN .add (.v 16) (.c (.int .i64 1)), none, [16]⟩, ⟨some 5, .mv (.v 17), none, [17]⟩] [0, 1, 5])))
/-- laws.szPlanKindS: function 39 -/
def s_laws_szPlanKindS : SFun := { n := 27, res := [.t 4], body := (.seq (.rg [⟨some 4, .mv (.c (.int .i64 0)), none, [4]⟩] [0, 1]) (.seq (.rg [⟨some 6, .mv (.v 1), none, [1]⟩, ⟨some 7, .mv (.v 0), none, []⟩, ⟨some 8, .lenL (.v 7), none, [7]⟩, ⟨some 9, .binN .sub (.v 6) (.v 8), none, [6, 8]⟩, ⟨some 1, .mv (.v 9), none, [9]⟩] [0, 1]) (.seq (.seq (.rg [⟨some 10, .mv (.v 1), none, []⟩, ⟨some 11, .bin .lss (.v 10) (.c (.int .i64 0)), none, [10]⟩] [0, 1, 11]) (.cond (.v 11) (.seq (.rg [⟨some 4, .mv (.c (.int .i64 (-1))), none, []⟩] [4]) .ret) .skip)) (.seq (.seq (.rg [⟨some 5, .mv (.c (.int .i64 0)), none, []⟩] [0, 1, 5]) (.block 0 (.loop l_laws_szPlanKindS_0))) (.seq (.rg [⟨some 26, .mv (.v 1), none, [1]⟩, ⟨some 4, .mv (.v 26), none, [26]⟩] [4]) .ret))))) }
theorem k_laws_szPlanKindS : okFun Go.Proofs.Tryz.prog 39 s_laws_szPlanKindS = true := by kernel_rfl
def l_laws_szPlanPointS_0 : SCode := (.seq (.seq (.rg [⟨some 12, .mv (.v 5), none, []⟩, ⟨some 13, .mv (.v 0), none, []⟩, ⟨some 14, .lenL (.v 13), none, [13]⟩, ⟨some 15, .bin .lss (.v 12) (.v 14), none, [12, 14]⟩] [0, 1, 5, 15]) (.cond (.v 15) .skip (.exit 0))) (.seq (.block 1 (.seq (.rg [⟨some 18, .mv (.v 0), none, []⟩, ⟨some 19, .mv (.v 5), none, []⟩, ⟨some 20, .iaddr 3 (.v 18) (.v 19), none, [18, 19]⟩, ⟨some 21, .loadN 3 (.v 20), none, [20]⟩, ⟨some 22, .mv (.v 1), none, [1]⟩, ⟨some 23, .call 75 [.v 21, .v 22], none, [21, 22]⟩, ⟨some 1, .mv (.v 23), none, [23]⟩] [0, 1, 5]) (.seq (.rg [⟨some 24, .mv (.v 1), none, []⟩, ⟨some 25, .bin .lss (.v 24) (.c (.int .i64 0)), none, [24]⟩] [0, 1, 5, 25]) (.cond (.v 25) (.seq (.rg [⟨some 4, .mv (.c (.int .i64 (-1))), none, []⟩] [4]) .ret) .skip)))) (.rg [⟨some 16, .mv (.v 5), none, [5]⟩, ⟨some 17, .binN .add (.v 16) (.c (.int .i64 1)), none, [16]⟩, ⟨some 5, .mv (.v 17), none, [17]⟩] [0, 1, 5])))
/-- laws.szPlanPointS: function 40 -/
def s_laws_szPlanPointS : SFun := { n := 27, res := [.t 4], body := (.seq (.rg [⟨some 4, .mv (.c (.int .i64 0)), none, [4]⟩] [0, 1]) (.seq (.rg [⟨some 6, .mv (.v 1), none, [1]⟩, ⟨some 7, .mv (.v 0), none, []⟩, ⟨some 8, .lenL (.v 7), none, [7]⟩, ⟨some 9, .binN .sub (.v 6) (.v 8), none, [6, 8]⟩, ⟨some 1, .mv (.v 9), none, [9]⟩] [0, 1]) (.seq (.seq (.rg [⟨some 10, .mv (.v 1), none, []⟩, ⟨some 11, .bin .lss (.v 10) (.c (.int .i64 0)), none, [10]⟩] [0, 1, 11]) (.cond (.v 11) (.seq (.rg [⟨some 4, .mv (.c (.int .i64 (-1))), none, []⟩] [4]) .ret) .skip)) (.seq (.seq (.rg [⟨some 5, .mv (.c (.int .i64 0)), none, []⟩] [0, 1, 5]) (.block 0 (.loop l_laws_szPlanPointS_0))) (.seq (.rg [⟨some 26, .mv (.v 1), none, [1]⟩, ⟨some 4, .mv (.v 26), none, [26]⟩] [4]) .ret))))) }
theorem k_laws_szPlanPointS : okFun Go.Proofs.Tryz.prog 40 s_laws_szPlanPointS = true := by kernel_rfl
def l_spec_PlanBaseOk_0 : SCode := (.seq (.seq (.rg [⟨some 16, .mv (.v 3), none, []⟩, ⟨some 17, .faddr 0 (.v 1), none, []⟩, ⟨some 18, .load1 (.v 17), none, [17]⟩, ⟨some 19, .lenL (.v 18), none, [18]⟩, ⟨some 20, .bin .lss (.v 16) (.v 19), none, [16, 19]⟩] [1, 3, 20]) (.cond (.v 20) .skip (.exit 0))) (.seq (.block 1 (.seq (.rgd [⟨some 23, .faddr 0 (.v 1), none, []⟩, ⟨some 24, .load1 (.v 23), none, []⟩, ⟨some 25, .mv (.v 3), none, []⟩, ⟨some 26, .iaddr 3 (.v 24) (.v 25), none, []⟩, ⟨some 27, .loadN 3 (.v 26), none, []⟩, ⟨some 28, .call 76 [.v 27], none, []⟩, ⟨some 29, .not (.v 28), none, []⟩, ⟨some 30, .mv (.v 29), none, []⟩, ⟨some 31, .mv (.v 3), some (30, false), []⟩, ⟨some 32, .bin .gtr (.v 31) (.c (.int .i64 0)), some (30, false), []⟩, ⟨some 33, .mv (.v 32), some (30, false), []⟩, ⟨some 34, .faddr 0 (.v 1), some (33, true), []⟩, ⟨some 35, .load1 (.v 34), some (33, true), []⟩, ⟨some 36, .mv (.v 3), some (33, true), []⟩, ⟨some 37, .binN .sub (.v 36) (.c (.int .i64 1)), some (33, true), []⟩, ⟨some 38, .iaddr 3 (.v 35) (.v 37), some (33, true), []⟩, ⟨some 39, .faddr 0 (.v 38), some (33, true), []⟩, ⟨some 40, .load1 (.v 39), some (33, true), []⟩, ⟨some 41, .faddr 0 (.v 1), some (33, true), []⟩, ⟨some 42, .load1 (.v 41), some (33, true), []⟩, ⟨some 43, .mv (.v 3), some (33, true), []⟩, ⟨some 44, .iaddr 3 (.v 42) (.v 43), some (33, true), []⟩, ⟨some 45, .faddr 0 (.v 44), some (33, true), []⟩, ⟨some 46, .load1 (.v 45), some (33, true), []⟩, ⟨some 47, .bin .geq (.v 40) (.v 46), some (33, true), []⟩, ⟨some 48, .pick (.v 33) (.v 47) (.c (.bool false)), some (30, false), []⟩, ⟨some 49, .pick (.v 30) (.c (.bool true)) (.v 48), none, []⟩] [1, 3, 49] [none, none, none, none, none, none, none, none, none, none, none, none, none, none, none, none, none, none, none, none, none, none, none, none, none, none, none]) (.cond (.v 49) (.seq (.rg [⟨some 2, .mv (.c (.bool false)), none, []⟩] [2]) .ret) .skip))) (.rg [⟨some 21, .mv (.v 3), none, [3]⟩, ⟨some 22, .binN .add (.v 21) (.c (.int .i64 1)), none, [21]⟩, ⟨some 3, .mv (.v 22), none, [22]⟩] [1, 3])))
def l_spec_PlanBaseOk_1 : SCode := (.seq (.seq (.rg [⟨some 84, .mv (.v 5), none, []⟩, ⟨some 85, .mv (.v 4), none, []⟩, ⟨some 86, .bin .lss (.v 84) (.v 85), none, [84, 85]⟩] [1, 4, 5, 86]) (.cond (.v 86) .skip (.exit 4))) (.seq (.block 5 (.seq (.rgd [⟨some 89, .faddr 1 (.v 1), none, []⟩, ⟨some 90, .load1 (.v 89), none, []⟩, ⟨some 91, .mv (.v 5), none, []⟩, ⟨some 92, .iaddr 3 (.v 90) (.v 91), none, []⟩, ⟨some 93, .faddr 1 (.v 92), none, []⟩, ⟨some 94, .load1 (.v 93), none, []⟩, ⟨some 95, .faddr 1 (.v 1), none, []⟩, ⟨some 96, .load1 (.v 95), none, []⟩, ⟨some 97, .mv (.v 4), none, []⟩, ⟨some 98, .iaddr 3 (.v 96) (.v 97), none, []⟩, ⟨some 99, .faddr 1 (.v 98), none, []⟩, ⟨some 100, .load1 (.v 99), none, []⟩, ⟨some 101, .bin .eql (.v 94) (.v 100), none, []⟩, ⟨some 102, .mv (.v 101), none, []⟩, ⟨some 103, .faddr 1 (.v 1), some (102, true), []⟩, ⟨some 104, .load1 (.v 103), some (102, true), []⟩, ⟨some 105, .mv (.v 5), some (102, true), []⟩, ⟨some 106, .iaddr 3 (.v 104) (.v 105), some (102, true), []⟩, ⟨some 107, .faddr 2 (.v 106), some (102, true), []⟩, ⟨some 108, .load1 (.v 107), some (102, true), []⟩, ⟨some 109, .faddr 1 (.v 1), some (102, true), []⟩, ⟨some 110, .load1 (.v 109), some (102, true), []⟩, ⟨some 111, .mv (.v 4), some (102, true), []⟩, ⟨some 112, .iaddr 3 (.v 110) (.v 111), some (102, true), []⟩, ⟨some 113, .faddr 2 (.v 112), some (102, true), []⟩, ⟨some 114, .load1 (.v 113), some (102, true), []⟩, ⟨some 115, .bin .eql (.v 108) (.v 114), some (102, true), []⟩, ⟨some 116, .pick (.v 102) (.v 115) (.c (.bool false)), none, []⟩] [1, 4, 5, 116] [none, none, none, none, none, none, none, none, none, none, none, none, none, none, none, none, none, none, none, none, none, none, none, none, none, none, none, none]) (.cond (.v 116) (.seq (.rg [⟨some 2, .mv (.c (.bool false)), none, []⟩] [2]) .ret) .skip))) (.rg [⟨some 87, .mv (.v 5), none, [5]⟩, ⟨some 88, .binN .add (.v 87) (.c (.int .i64 1)), none, [87]⟩, ⟨some 5, .mv (.v 88), none, [88]⟩] [1, 4, 5])))
def l_spec_PlanBaseOk_2 : SCode := (.seq (.seq (.rg [⟨some 50, .mv (.v 4), none, []⟩, ⟨some 51, .faddr 1 (.v 1), none, []⟩, ⟨some 52, .load1 (.v 51), none, [51]⟩, ⟨some 53, .lenL (.v 52), none, [52]⟩, ⟨some 54, .bin .lss (.v 50) (.v 53), none, [50, 53]⟩] [1, 4, 54]) (.cond (.v 54) .skip (.exit 2))) (.seq (.block 3 (.seq (.seq (.rgd [⟨some 57, .faddr 1 (.v 1), none, []⟩, ⟨some 58, .load1 (.v 57), none, []⟩, ⟨some 59, .mv (.v 4), none, []⟩, ⟨some 60, .iaddr 3 (.v 58) (.v 59), none, []⟩, ⟨some 61, .loadN 3 (.v 60), none, []⟩, ⟨some 62, .call 77 [.v 61], none, []⟩, ⟨some 63, .not (.v 62), none, []⟩, ⟨some 64, .mv (.v 63), none, []⟩, ⟨some 65, .mv (.v 4), some (64, false), []⟩, ⟨some 66, .bin .gtr (.v 65) (.c (.int .i64 0)), some (64, false), []⟩, ⟨some 67, .mv (.v 66), some (64, false), []⟩, ⟨some 68, .faddr 1 (.v 1), some (67, true), []⟩, ⟨some 69, .load1 (.v 68), some (67, true), []⟩, ⟨some 70, .mv (.v 4), some (67, true), []⟩, ⟨some 71, .binN .sub (.v 70) (.c (.int .i64 1)), some (67, true), []⟩, ⟨some 72, .iaddr 3 (.v 69) (.v 71), some (67, true), []⟩, ⟨some 73, .faddr 0 (.v 72), some (67, true), []⟩, ⟨some 74, .load1 (.v 73), some (67, true), []⟩, ⟨some 75, .faddr 1 (.v 1), some (67, true), []⟩, ⟨some 76, .load1 (.v 75), some (67, true), []⟩, ⟨some 77, .mv (.v 4), some (67, true), []⟩, ⟨some 78, .iaddr 3 (.v 76) (.v 77), some (67, true), []⟩, ⟨some 79, .faddr 0 (.v 78), some (67, true), []⟩, ⟨some 80, .load1 (.v 79), some (67, true), []⟩, ⟨some 81, .bin .geq (.v 74) (.v 80), some (67, true), []⟩, ⟨some 82, .pick (.v 67) (.v 81) (.c (.bool false)), some (64, false), []⟩, ⟨some 83, .pick (.v 64) (.c (.bool true)) (.v 82), none, []⟩] [1, 4, 83] [none, none, none, none, none, none, none, none, none, none, none, none, none, none, none, none, none, none, none, none, none, none, none, none, none, none, none]) (.cond (.v 83) (.seq (.rg [⟨some 2, .mv (.c (.bool false)), none, []⟩] [2]) .ret) .skip)) (.seq (.rg [⟨some 5, .mv (.c (.int .i64 0)), none, []⟩] [1, 4, 5]) (.block 4 (.loop l_spec_PlanBaseOk_1))))) (.rg [⟨some 55, .mv (.v 4), none, [4]⟩, ⟨some 56, .binN .add (.v 55) (.c (.int .i64 1)), none, [55]⟩, ⟨some 4, .mv (.v 56), none, [56]⟩] [1, 4])))
/-- spec.PlanBaseOk: function 41 -/
def s_spec_PlanBaseOk : SFun := { n := 117, res := [.t 2], body := (.seq (.rg [⟨some 1, .box 101 (.v 0), none, [0]⟩, ⟨some 2, .mv (.c (.bool false)), none, [2]⟩] [1]) (.seq (.seq (.rg [⟨some 6, .faddr 0 (.v 1), none, []⟩, ⟨some 7, .load1 (.v 6), none, [6]⟩, ⟨some 8, .lenL (.v 7), none, [7]⟩, ⟨some 9, .bin .gtr (.v 8) (.c (.int .i64 6)), none, [8]⟩, ⟨some 10, .mv (.v 9), none, [9]⟩, ⟨some 11, .faddr 1 (.v 1), some (10, false), []⟩, ⟨some 12, .load1 (.v 11), some (10, false), [11]⟩, ⟨some 13, .lenL (.v 12), some (10, false), [12]⟩, ⟨some 14, .bin .gtr (.v 13) (.c (.int .i64 16)), some (10, false), [13]⟩, ⟨some 15, .pick (.v 10) (.c (.bool true)) (.v 14), none, [10, 14]⟩] [1, 15]) (.cond (.v 15) (.seq (.rg [⟨some 2, .mv (.c (.bool false)), none, []⟩] [2]) .ret) .skip)) (.seq (.seq (.rg [⟨some 3, .mv (.c (.int .i64 0)), none, []⟩] [1, 3]) (.block 0 (.loop l_spec_PlanBaseOk_0))) (.seq (.seq (.rg [⟨some 4, .mv (.c (.int .i64 0)), none, []⟩] [1, 4]) (.block 2 (.loop l_spec_PlanBaseOk_2))) (.seq (.rg [⟨some 2, .mv (.c (.bool true)), none, []⟩] [2]) .ret))))) }
theorem k_spec_PlanBaseOk : okFun Go.Proofs.Tryz.prog 41 s_spec_PlanBaseOk = true := by kernel_rfl
def l_spec_l12Cut_0 : SCode := (.seq (.seq (.rg [⟨some 9, .mv (.v 7), none, []⟩, ⟨some 10, .mv (.v 0), none, []⟩, ⟨some 11, .lenS (.v 10), none, [10]⟩, ⟨some 12, .bin .lss (.v 9) (.v 11), none, [9, 11]⟩] [0, 1, 5, 6, 7, 12]) (.cond (.v 12) .skip (.exit 0))) (.seq (.block 1 (.seq (.rg [⟨some 15, .mv (.v 0), none, []⟩, ⟨some 16, .mv (.v 7), none, []⟩, ⟨some 17, .istr (.v 15) (.v 16), none, [15, 16]⟩, ⟨some 18, .mv (.v 1), none, []⟩, ⟨some 19, .bin .eql (.v 17) (.v 18), none, [17, 18]⟩] [0, 1, 5, 6, 7, 19]) (.cond (.v 19) (.seq (.rg [⟨some 20, .mv (.v 5), none, [5]⟩, ⟨some 21, .mv (.v 0), none, []⟩, ⟨some 22, .mv (.v 6), none, [6]⟩, ⟨some 23, .mv (.v 7), none, []⟩, ⟨some 24, .slStr (.v 21) (some (.v 22)) (some (.v 23)), none, [21, 22, 23]⟩, ⟨some 25, .lit 9 1 [.v 24], none, [24]⟩, ⟨some 26, .app 108 9 1 (.v 20) (.v 25), none, [20, 25]⟩, ⟨some 5, .mv (.v 26), none, [26]⟩] [0, 1, 5, 7]) (.rg [⟨some 27, .mv (.v 7), none, []⟩, ⟨some 28, .binN .add (.v 27) (.c (.int .i64 1)), none, [27]⟩, ⟨some 6, .mv (.v 28), none, [28]⟩] [0, 1, 5, 6, 7])) .skip))) (.rg [⟨some 13, .mv (.v 7), none, [7]⟩, ⟨some 14, .binN .add (.v 13) (.c (.int .i64 1)), none, [13]⟩, ⟨some 7, .mv (.v 14), none, [14]⟩] [0, 1, 5, 6, 7])))
/-- spec.l12Cut: function 42 -/
def s_spec_l12Cut : SFun := { n := 35, res := [.t 4], body := (.seq (.rg [⟨some 4, .mv (.c (.sl 0 1 [])), none, [4]⟩] [0, 1]) (.seq (.rg [⟨some 8, .litOwn 108 9 1 [], none, []⟩, ⟨some 5, .mv (.v 8), none, [8]⟩] [0, 1, 5]) (.seq (.rg [⟨some 6, .mv (.c (.int .i64 0)), none, []⟩] [0, 1, 5, 6]) (.seq (.seq (.rg [⟨some 7, .mv (.c (.int .i64 0)), none, []⟩] [0, 1, 5, 6, 7]) (.block 0 (.loop l_spec_l12Cut_0))) (.seq (.rg [⟨some 29, .mv (.v 5), none, [5]⟩, ⟨some 30, .mv (.v 0), none, [0]⟩, ⟨some 31, .mv (.v 6), none, [6]⟩, ⟨some 32, .slStr (.v 30) (some (.v 31)) none, none, [30, 31]⟩, ⟨some 33, .lit 9 1 [.v 32], none, [32]⟩, ⟨some 34, .app 108 9 1 (.v 29) (.v 33), none, [29, 33]⟩, ⟨some 4, .mv (.v 34), none, [34]⟩] [4]) (.gh (.frzE 4) .ret)))))) }
theorem k_spec_l12Cut : okFun Go.Proofs.Tryz.prog 42 s_spec_l12Cut = true := by kernel_rfl
def l_spec_l11Kind_0 : SCode := (.seq (.seq (.rg [⟨some 6, .mv (.v 5), none, []⟩, ⟨some 7, .faddr 0 (.v 2), none, []⟩, ⟨some 8, .load1 (.v 7), none, [7]⟩, ⟨some 9, .lenL (.v 8), none, [8]⟩, ⟨some 10, .bin .lss (.v 6) (.v 9), none, [6, 9]⟩] [1, 2, 5, 10]) (.cond (.v 10) .skip (.exit 0))) (.seq (.block 1 (.seq (.rg [⟨some 13, .faddr 0 (.v 2), none, []⟩, ⟨some 14, .load1 (.v 13), none, [13]⟩, ⟨some 15, .mv (.v 5), none, []⟩, ⟨some 16, .iaddr 3 (.v 14) (.v 15), none, [14, 15]⟩, ⟨some 17, .faddr 0 (.v 16), none, [16]⟩, ⟨some 18, .load1 (.v 17), none, [17]⟩, ⟨some 19, .mv (.v 1), none, []⟩, ⟨some 20, .bin .eql (.v 18) (.v 19), none, [18, 19]⟩] [1, 2, 5, 20]) (.cond (.v 20) (.seq (.rg [⟨some 21, .mv (.v 5), none, [5]⟩, ⟨some 4, .mv (.v 21), none, [21]⟩] [4]) .ret) .skip))) (.rg [⟨some 11, .mv (.v 5), none, [5]⟩, ⟨some 12, .binN .add (.v 11) (.c (.int .i64 1)), none, [11]⟩, ⟨some 5, .mv (.v 12), none, [12]⟩] [1, 2, 5])))
/-- spec.l11Kind: function 43 -/
def s_spec_l11Kind : SFun := { n := 22, res := [.t 4], body := (.seq (.rg [⟨some 2, .box 102 (.v 0), none, [0]⟩, ⟨some 4, .mv (.c (.int .i64 0)), none, [4]⟩] [1, 2]) (.seq (.seq (.rg [⟨some 5, .mv (.c (.int .i64 0)), none, []⟩] [1, 2, 5]) (.block 0 (.loop l_spec_l11Kind_0))) (.seq (.rg [⟨some 4, .mv (.c (.int .i64 (-1))), none, []⟩] [4]) .ret))) }
theorem k_spec_l11Kind : okFun Go.Proofs.Tryz.prog 43 s_spec_l11Kind = true := by kernel_rfl
/-- spec.l12TimeOk: function 44 -/
def s_spec_l12TimeOk : SFun := { n := 24, res := [.t 2], body := (.seq (.rg [⟨some 2, .mv (.c (.bool false)), none, [2]⟩] [0]) (.seq (.rgd [⟨some 3, .mv (.v 0), none, []⟩, ⟨some 4, .lenL (.v 3), none, []⟩, ⟨some 5, .bin .eql (.v 4) (.c (.int .i64 2)), none, []⟩, ⟨some 6, .mv (.v 5), none, []⟩, ⟨some 7, .mv (.v 0), some (6, true), []⟩, ⟨some 8, .iaddr 1 (.v 7) (.c (.int .i64 0)), some (6, true), []⟩, ⟨some 9, .load1 (.v 8), some (6, true), []⟩, ⟨some 10, .call 46 [.v 9], some (6, true), []⟩, ⟨some 11, .bin .geq (.v 10) (.c (.int .i64 0)), some (6, true), []⟩, ⟨some 12, .pick (.v 6) (.v 11) (.c (.bool false)), none, []⟩, ⟨some 13, .mv (.v 12), none, []⟩, ⟨some 14, .mv (.v 0), some (13, true), []⟩, ⟨some 15, .iaddr 1 (.v 14) (.c (.int .i64 1)), some (13, true), []⟩, ⟨some 16, .load1 (.v 15), some (13, true), []⟩, ⟨some 17, .call 46 [.v 16], some (13, true), []⟩, ⟨some 18, .mv (.v 0), some (13, true), []⟩, ⟨some 19, .iaddr 1 (.v 18) (.c (.int .i64 0)), some (13, true), []⟩, ⟨some 20, .load1 (.v 19), some (13, true), []⟩, ⟨some 21, .call 46 [.v 20], some (13, true), []⟩, ⟨some 22, .call 45 [.v 17, .v 21, .c (.int .i64 10000)], some (13, true), []⟩, ⟨some 23, .pick (.v 13) (.v 22) (.c (.bool false)), none, []⟩, ⟨some 2, .mv (.v 23), none, []⟩] [2] [none, none, none, none, none, none, none, none, none, none, none, none, none, none, some [], none, some [1], some [2], none, none, none, none]) .ret)) }
theorem k_spec_l12TimeOk : okFun Go.Proofs.Tryz.prog 44 s_spec_l12TimeOk = true := by kernel_rfl
/-- spec.l11In: function 45 -/
def s_spec_l11In : SFun := { n := 15, res := [.t 6], body := (.seq (.rg [⟨some 6, .mv (.c (.bool false)), none, [6]⟩] [0, 1, 2]) (.seq (.rg [⟨some 7, .mv (.v 0), none, []⟩, ⟨some 8, .mv (.v 1), none, [1]⟩, ⟨some 9, .bin .geq (.v 7) (.v 8), none, [7, 8]⟩, ⟨some 10, .mv (.v 9), none, [9]⟩, ⟨some 11, .mv (.v 0), some (10, true), [0]⟩, ⟨some 12, .mv (.v 2), some (10, true), [2]⟩, ⟨some 13, .bin .leq (.v 11) (.v 12), some (10, true), [11, 12]⟩, ⟨some 14, .pick (.v 10) (.v 13) (.c (.bool false)), none, [10, 13]⟩, ⟨some 6, .mv (.v 14), none, [14]⟩] [6]) .ret)) }
theorem k_spec_l11In : okFun Go.Proofs.Tryz.prog 45 s_spec_l11In = true := by kernel_rfl
def l_spec_l12Number_0 : SCode := (.seq (.seq (.rg [⟨some 19, .mv (.v 4), none, []⟩, ⟨some 20, .mv (.v 0), none, []⟩, ⟨some 21, .lenS (.v 20), none, [20]⟩, ⟨some 22, .bin .lss (.v 19) (.v 21), none, [19, 21]⟩] [0, 3, 4, 22]) (.cond (.v 22) .skip (.exit 0))) (.seq (.block 1 (.seq (.seq (.rg [⟨some 25, .mv (.v 0), none, []⟩, ⟨some 26, .mv (.v 4), none, []⟩, ⟨some 27, .istr (.v 25) (.v 26), none, [25, 26]⟩, ⟨some 28, .bin .lss (.v 27) (.c (.int .u8 48)), none, [27]⟩, ⟨some 29, .mv (.v 28), none, [28]⟩, ⟨some 30, .mv (.v 0), some (29, false), []⟩, ⟨some 31, .mv (.v 4), some (29, false), []⟩, ⟨some 32, .istr (.v 30) (.v 31), some (29, false), [30, 31]⟩, ⟨some 33, .bin .gtr (.v 32) (.c (.int .u8 57)), some (29, false), [32]⟩, ⟨some 34, .pick (.v 29) (.c (.bool true)) (.v 33), none, [29, 33]⟩] [0, 3, 4, 34]) (.cond (.v 34) (.seq (.rg [⟨some 2, .mv (.c (.int .i64 (-1))), none, []⟩] [2]) .ret) .skip)) (.rg [⟨some 35, .mv (.v 3), none, [3]⟩, ⟨some 36, .binN .mul (.v 35) (.c (.int .i64 10)), none, [35]⟩, ⟨some 37, .mv (.v 0), none, []⟩, ⟨some 38, .mv (.v 4), none, []⟩, ⟨some 39, .istr (.v 37) (.v 38), none, [37, 38]⟩, ⟨some 40, .conv .i64 (.v 39), none, [39]⟩, ⟨some 41, .binN .add (.v 36) (.v 40), none, [36, 40]⟩, ⟨some 42, .binN .sub (.v 41) (.c (.int .i64 48)), none, [41]⟩, ⟨some 3, .mv (.v 42), none, [42]⟩] [0, 3, 4]))) (.rg [⟨some 23, .mv (.v 4), none, [4]⟩, ⟨some 24, .binN .add (.v 23) (.c (.int .i64 1)), none, [23]⟩, ⟨some 4, .mv (.v 24), none, [24]⟩] [0, 3, 4])))
/-- spec.l12Number: function 46 -/
def s_spec_l12Number : SFun := { n := 44, res := [.t 2], body := (.seq (.rg [⟨some 2, .mv (.c (.int .i64 0)), none, [2]⟩] [0]) (.seq (.seq (.rg [⟨some 5, .mv (.v 0), none, []⟩, ⟨some 6, .lenS (.v 5), none, [5]⟩, ⟨some 7, .call 45 [.v 6, .c (.int .i64 1), .c (.int .i64 7)], none, [6]⟩, ⟨some 8, .not (.v 7), none, [7]⟩, ⟨some 9, .mv (.v 8), none, [8]⟩, ⟨some 10, .mv (.v 0), some (9, false), []⟩, ⟨some 11, .lenS (.v 10), some (9, false), [10]⟩, ⟨some 12, .bin .gtr (.v 11) (.c (.int .i64 1)), some (9, false), [11]⟩, ⟨some 13, .mv (.v 12), some (9, false), [12]⟩, ⟨some 14, .mv (.v 0), some (13, true), []⟩, ⟨some 15, .istr (.v 14) (.c (.int .i64 0)), some (13, true), [14]⟩, ⟨some 16, .bin .eql (.v 15) (.c (.int .u8 48)), some (13, true), [15]⟩, ⟨some 17, .pick (.v 13) (.v 16) (.c (.bool false)), some (9, false), [13, 16]⟩, ⟨some 18, .pick (.v 9) (.c (.bool true)) (.v 17), none, [9, 17]⟩] [0, 18]) (.cond (.v 18) (.seq (.rg [⟨some 2, .mv (.c (.int .i64 (-1))), none, []⟩] [2]) .ret) .skip)) (.seq (.rg [⟨some 3, .mv (.c (.int .i64 0)), none, []⟩] [0, 3]) (.seq (.seq (.rg [⟨some 4, .mv (.c (.int .i64 0)), none, []⟩] [0, 3, 4]) (.block 0 (.loop l_spec_l12Number_0))) (.seq (.rg [⟨some 43, .mv (.v 3), none, [3]⟩, ⟨some 2, .mv (.v 43), none, [43]⟩] [2]) .ret))))) }
theorem k_spec_l12Number : okFun Go.Proofs.Tryz.prog 46 s_spec_l12Number = true := by kernel_rfl
def l_spec_l12RouteOk_0 : SCode := (.seq (.seq (.rg [⟨some 10, .mv (.v 5), none, []⟩, ⟨some 11, .mv (.v 1), none, []⟩, ⟨some 12, .lenL (.v 11), none, [11]⟩, ⟨some 13, .bin .lss (.v 10) (.v 12), none, [10, 12]⟩] [1, 2, 5, 13]) (.cond (.v 13) .skip (.exit 0))) (.seq (.block 1 (.seq (.rgd [⟨some 16, .loadN 2 (.v 2), none, []⟩, ⟨some 17, .mv (.v 1), none, []⟩, ⟨some 18, .mv (.v 5), none, []⟩, ⟨some 19, .iaddr 1 (.v 17) (.v 18), none, []⟩, ⟨some 20, .load1 (.v 19), none, []⟩, ⟨some 21, .call 78 [.v 16, .v 20], none, []⟩, ⟨some 22, .bin .lss (.v 21) (.c (.int .i64 0)), none, []⟩, ⟨some 23, .mv (.v 22), none, []⟩, ⟨some 24, .mv (.v 5), some (23, false), []⟩, ⟨some 25, .bin .gtr (.v 24) (.c (.int .i64 0)), some (23, false), []⟩, ⟨some 26, .mv (.v 25), some (23, false), []⟩, ⟨some 27, .mv (.v 1), some (26, true), []⟩, ⟨some 28, .mv (.v 5), some (26, true), []⟩, ⟨some 29, .binN .sub (.v 28) (.c (.int .i64 1)), some (26, true), []⟩, ⟨some 30, .iaddr 1 (.v 27) (.v 29), some (26, true), []⟩, ⟨some 31, .load1 (.v 30), some (26, true), []⟩, ⟨some 32, .mv (.v 1), some (26, true), []⟩, ⟨some 33, .mv (.v 5), some (26, true), []⟩, ⟨some 34, .iaddr 1 (.v 32) (.v 33), some (26, true), []⟩, ⟨some 35, .load1 (.v 34), some (26, true), []⟩, ⟨some 36, .bin .eql (.v 31) (.v 35), some (26, true), []⟩, ⟨some 37, .pick (.v 26) (.v 36) (.c (.bool false)), some (23, false), []⟩, ⟨some 38, .pick (.v 23) (.c (.bool true)) (.v 37), none, []⟩] [1, 2, 5, 38] [none, none, none, none, none, none, none, none, none, none, none, none, none, none, none, none, none, none, none, none, none, none, none]) (.cond (.v 38) (.seq (.rg [⟨some 4, .mv (.c (.bool false)), none, []⟩] [4]) .ret) .skip))) (.rg [⟨some 14, .mv (.v 5), none, [5]⟩, ⟨some 15, .binN .add (.v 14) (.c (.int .i64 1)), none, [14]⟩, ⟨some 5, .mv (.v 15), none, [15]⟩] [1, 2, 5])))
/-- spec.l12RouteOk: function 47 -/
def s_spec_l12RouteOk : SFun := { n := 39, res := [.t 4], body := (.seq (.rg [⟨some 2, .box 102 (.v 0), none, [0]⟩, ⟨some 4, .mv (.c (.bool false)), none, [4]⟩] [1, 2]) (.seq (.seq (.rg [⟨some 6, .mv (.v 1), none, []⟩, ⟨some 7, .lenL (.v 6), none, [6]⟩, ⟨some 8, .call 45 [.v 7, .c (.int .i64 2), .c (.int .i64 8)], none, [7]⟩, ⟨some 9, .not (.v 8), none, [8]⟩] [1, 2, 9]) (.cond (.v 9) (.seq (.rg [⟨some 4, .mv (.c (.bool false)), none, []⟩] [4]) .ret) .skip)) (.seq (.seq (.rg [⟨some 5, .mv (.c (.int .i64 0)), none, []⟩] [1, 2, 5]) (.block 0 (.loop l_spec_l12RouteOk_0))) (.seq (.rg [⟨some 4, .mv (.c (.bool true)), none, []⟩] [4]) .ret)))) }
theorem k_spec_l12RouteOk : okFun Go.Proofs.Tryz.prog 47 s_spec_l12RouteOk = true := by kernel_rfl
def l_laws_toPlanKindS_0 : SCode := (.seq (.seq (.rg [⟨some 8, .mv (.v 4), none, []⟩, ⟨some 9, .mv (.v 0), none, []⟩, ⟨some 10, .lenL (.v 9), none, [9]⟩, ⟨some 11, .bin .lss (.v 8) (.v 10), none, [8, 10]⟩] [0, 3, 4, 11]) (.cond (.v 11) .skip (.exit 0))) (.seq (.block 1 (.rg [⟨some 14, .mv (.v 3), none, []⟩, ⟨some 15, .mv (.v 4), none, []⟩, ⟨some 16, .mv (.v 0), none, []⟩, ⟨some 17, .mv (.v 4), none, []⟩, ⟨some 18, .iaddr 3 (.v 16) (.v 17), none, [16, 17]⟩, ⟨some 19, .loadN 3 (.v 18), none, [18]⟩, ⟨some 20, .call 79 [.v 19], none, [19]⟩, ⟨some 21, .iaddr 3 (.v 14) (.v 15), none, [14, 15]⟩, ⟨none, .store 3 (.v 21) (.v 20), none, [20, 21]⟩] [0, 3, 4])) (.rg [⟨some 12, .mv (.v 4), none, [4]⟩, ⟨some 13, .binN .add (.v 12) (.c (.int .i64 1)), none, [12]⟩, ⟨some 4, .mv (.v 13), none, [13]⟩] [0, 3, 4])))
/-- laws.toPlanKindS: function 48 -/
def s_laws_toPlanKindS : SFun := { n := 23, res := [.t 2], body := (.seq (.rg [⟨some 2, .mv (.c (.sl 0 3 [])), none, [2]⟩] [0]) (.seq (.rg [⟨some 5, .mv (.v 0), none, []⟩, ⟨some 6, .lenL (.v 5), none, [5]⟩, ⟨some 7, .mk 107 60 3 [.str ⟨#[]⟩, .int .i64 0, .int .i64 0] (.v 6), none, [6]⟩, ⟨some 3, .mv (.v 7), none, [7]⟩] [0, 3]) (.seq (.seq (.rg [⟨some 4, .mv (.c (.int .i64 0)), none, []⟩] [0, 3, 4]) (.block 0 (.loop l_laws_toPlanKindS_0))) (.seq (.rg [⟨some 22, .mv (.v 3), none, [3]⟩, ⟨some 2, .mv (.v 22), none, [22]⟩] [2]) (.gh (.frzE 2) .ret))))) }
theorem k_laws_toPlanKindS : okFun Go.Proofs.Tryz.prog 48 s_laws_toPlanKindS = true := by kernel_rfl
end Go.Ve

namespace Go.Ve
open Go.Proofs
set_option maxRecDepth 100000
def l_laws_toPlanPointS_0 : SCode := (.seq (.seq (.rg [⟨some 8, .mv (.v 4), none, []⟩, ⟨some 9, .mv (.v 0), none, []⟩, ⟨some 10, .lenL (.v 9), none, [9]⟩, ⟨some 11, .bin .lss (.v 8) (.v 10), none, [8, 10]⟩] [0, 3, 4, 11]) (.cond (.v 11) .skip (.exit 0))) (.seq (.block 1 (.rg [⟨some 14, .mv (.v 3), none, []⟩, ⟨some 15, .mv (.v 4), none, []⟩, ⟨some 16, .mv (.v 0), none, []⟩, ⟨some 17, .mv (.v 4), none, []⟩, ⟨some 18, .iaddr 3 (.v 16) (.v 17), none, [16, 17]⟩, ⟨some 19, .loadN 3 (.v 18), none, [18]⟩, ⟨some 20, .call 80 [.v 19], none, [19]⟩, ⟨some 21, .iaddr 3 (.v 14) (.v 15), none, [14, 15]⟩, ⟨none, .store 3 (.v 21) (.v 20), none, [20, 21]⟩] [0, 3, 4])) (.rg [⟨some 12, .mv (.v 4), none, [4]⟩, ⟨some 13, .binN .add (.v 12) (.c (.int .i64 1)), none, [12]⟩, ⟨some 4, .mv (.v 13), none, [13]⟩] [0, 3, 4])))
/-- laws.toPlanPointS: function 49 -/
def s_laws_toPlanPointS : SFun := { n := 23, res := [.t 2], body := (.seq (.rg [⟨some 2, .mv (.c (.sl 0 3 [])), none, [2]⟩] [0]) (.seq (.rg [⟨some 5, .mv (.v 0), none, []⟩, ⟨some 6, .lenL (.v 5), none, [5]⟩, ⟨some 7, .mk 107 119 3 [.str ⟨#[]⟩, .int .i64 0, .int .i64 0] (.v 6), none, [6]⟩, ⟨some 3, .mv (.v 7), none, [7]⟩] [0, 3]) (.seq (.seq (.rg [⟨some 4, .mv (.c (.int .i64 0)), none, []⟩] [0, 3, 4]) (.block 0 (.loop l_laws_toPlanPointS_0))) (.seq (.rg [⟨some 22, .mv (.v 3), none, [3]⟩, ⟨some 2, .mv (.v 22), none, [22]⟩] [2]) (.gh (.frzE 2) .ret))))) }
theorem k_laws_toPlanPointS : okFun Go.Proofs.Tryz.prog 49 s_laws_toPlanPointS = true := by kernel_rfl
def l_impl_PlanBaseOk_0 : SCode := (.seq (.rg [⟨some 23, .bin .lss (.v 22) (.v 21), none, []⟩] [1, 20, 21, 22, 23]) (.seq (.cond (.v 23) .skip (.exit 0)) (.seq (.block 1 (.seq (.rg [⟨some 24, .mv (.v 22), none, []⟩, ⟨some 25, .iaddr 3 (.v 20) (.v 22), none, []⟩, ⟨some 26, .loadN 3 (.v 25), none, [25]⟩, ⟨some 4, .alloc 104 [.str ⟨#[]⟩, .int .i64 0, .int .i64 0], none, []⟩, ⟨some 3, .mv (.v 24), none, [24]⟩, ⟨none, .store 3 (.v 4) (.v 26), none, [26]⟩] [1, 3, 4, 20, 21, 22]) (.seq (.rgd [⟨some 27, .loadN 3 (.v 4), none, []⟩, ⟨some 28, .call 81 [.v 27], none, []⟩, ⟨some 29, .not (.v 28), none, []⟩, ⟨some 30, .mv (.v 29), none, []⟩, ⟨some 31, .mv (.v 3), some (30, false), []⟩, ⟨some 32, .bin .gtr (.v 31) (.c (.int .i64 0)), some (30, false), []⟩, ⟨some 33, .mv (.v 32), some (30, false), []⟩, ⟨some 34, .faddr 0 (.v 4), some (33, true), []⟩, ⟨some 35, .load1 (.v 34), some (33, true), []⟩, ⟨some 36, .faddr 0 (.v 1), some (33, true), []⟩, ⟨some 37, .load1 (.v 36), some (33, true), []⟩, ⟨some 38, .mv (.v 3), some (33, true), []⟩, ⟨some 39, .binN .sub (.v 38) (.c (.int .i64 1)), some (33, true), []⟩, ⟨some 40, .iaddr 3 (.v 37) (.v 39), some (33, true), []⟩, ⟨some 41, .faddr 0 (.v 40), some (33, true), []⟩, ⟨some 42, .load1 (.v 41), some (33, true), []⟩, ⟨some 43, .bin .leq (.v 35) (.v 42), some (33, true), []⟩, ⟨some 44, .pick (.v 33) (.v 43) (.c (.bool false)), some (30, false), []⟩, ⟨some 45, .pick (.v 30) (.c (.bool true)) (.v 44), none, []⟩] [1, 20, 21, 22, 45] [none, none, none, none, none, none, none, none, none, none, none, none, none, none, none, none, none, none, none]) (.cond (.v 45) (.seq (.rg [⟨some 2, .mv (.c (.bool false)), none, []⟩] [2]) .ret) .skip)))) (.rg [⟨some 46, .binN .add (.v 22) (.c (.int .i64 1)), none, [22]⟩, ⟨some 22, .mv (.v 46), none, [46]⟩] [1, 20, 21, 22]))))
def l_impl_PlanBaseOk_1 : SCode := (.seq (.rg [⟨some 52, .bin .lss (.v 51) (.v 50), none, []⟩] [1, 5, 49, 50, 51, 52]) (.seq (.cond (.v 52) .skip (.exit 2)) (.seq (.block 3 (.seq (.rg [⟨some 53, .mv (.v 51), none, []⟩, ⟨some 54, .iaddr 3 (.v 49) (.v 51), none, []⟩, ⟨some 55, .loadN 3 (.v 54), none, [54]⟩, ⟨some 7, .alloc 107 [.str ⟨#[]⟩, .int .i64 0, .int .i64 0], none, []⟩, ⟨some 6, .mv (.v 53), none, [53]⟩, ⟨none, .store 3 (.v 7) (.v 55), none, [55]⟩] [1, 5, 6, 7, 49, 50, 51]) (.seq (.rg [⟨some 56, .faddr 1 (.v 7), none, []⟩, ⟨some 57, .load1 (.v 56), none, [56]⟩, ⟨some 58, .faddr 2 (.v 7), none, []⟩, ⟨some 59, .load1 (.v 58), none, [58]⟩, ⟨some 60, .build [.int .i64 0, .int .i64 0] [(0, 1, .v 57), (1, 1, .v 59)], none, [57, 59]⟩, ⟨some 8, .alloc 108 [.int .i64 0, .int .i64 0], none, []⟩, ⟨none, .store 2 (.v 8) (.v 60), none, [60]⟩] [1, 5, 6, 7, 8, 49, 50, 51]) (.seq (.seq (.rgd [⟨some 61, .loadN 3 (.v 7), none, []⟩, ⟨some 62, .call 82 [.v 61], none, []⟩, ⟨some 63, .not (.v 62), none, []⟩, ⟨some 64, .mv (.v 63), none, []⟩, ⟨some 65, .mv (.v 5), some (64, false), []⟩, ⟨some 66, .loadN 2 (.v 8), some (64, false), []⟩, ⟨some 67, .look false 2 (.bool false) (.v 65) (.v 66), some (64, false), []⟩, ⟨some 68, .pick (.v 64) (.c (.bool true)) (.v 67), none, []⟩, ⟨some 69, .mv (.v 68), none, []⟩, ⟨some 70, .mv (.v 6), some (69, false), []⟩, ⟨some 71, .bin .gtr (.v 70) (.c (.int .i64 0)), some (69, false), []⟩, ⟨some 72, .mv (.v 71), some (69, false), []⟩, ⟨some 73, .faddr 0 (.v 7), some (72, true), []⟩, ⟨some 74, .load1 (.v 73), some (72, true), []⟩, ⟨some 75, .faddr 1 (.v 1), some (72, true), []⟩, ⟨some 76, .load1 (.v 75), some (72, true), []⟩, ⟨some 77, .mv (.v 6), some (72, true), []⟩, ⟨some 78, .binN .sub (.v 77) (.c (.int .i64 1)), some (72, true), []⟩, ⟨some 79, .iaddr 3 (.v 76) (.v 78), some (72, true), []⟩, ⟨some 80, .faddr 0 (.v 79), some (72, true), []⟩, ⟨some 81, .load1 (.v 80), some (72, true), []⟩, ⟨some 82, .bin .leq (.v 74) (.v 81), some (72, true), []⟩, ⟨some 83, .pick (.v 72) (.v 82) (.c (.bool false)), some (69, false), []⟩, ⟨some 84, .pick (.v 69) (.c (.bool true)) (.v 83), none, []⟩] [1, 5, 8, 49, 50, 51, 84] [none, none, none, none, none, none, none, none, none, none, none, none, none, none, none, none, none, none, none, none, none, none, none, none]) (.cond (.v 84) (.seq (.rg [⟨some 2, .mv (.c (.bool false)), none, []⟩] [2]) .ret) .skip)) (.rg [⟨some 85, .mv (.v 5), none, []⟩, ⟨some 86, .loadN 2 (.v 8), none, [8]⟩, ⟨none, .mset 2 (.v 85) (.v 86) (.c (.bool true)), none, [85, 86]⟩] [1, 5, 49, 50, 51]))))) (.rg [⟨some 87, .binN .add (.v 51) (.c (.int .i64 1)), none, [51]⟩, ⟨some 51, .mv (.v 87), none, [87]⟩] [1, 5, 49, 50, 51]))))
/-- impl.PlanBaseOk: function 50 -/
def s_impl_PlanBaseOk : SFun := { n := 88, res := [.t 2], body := (.seq (.rg [⟨some 1, .box 101 (.v 0), none, [0]⟩, ⟨some 2, .mv (.c (.bool false)), none, [2]⟩] [1]) (.seq (.seq (.rg [⟨some 9, .faddr 0 (.v 1), none, []⟩, ⟨some 10, .load1 (.v 9), none, [9]⟩, ⟨some 11, .lenL (.v 10), none, [10]⟩, ⟨some 12, .bin .gtr (.v 11) (.c (.int .i64 6)), none, [11]⟩, ⟨some 13, .mv (.v 12), none, [12]⟩, ⟨some 14, .faddr 1 (.v 1), some (13, false), []⟩, ⟨some 15, .load1 (.v 14), some (13, false), [14]⟩, ⟨some 16, .lenL (.v 15), some (13, false), [15]⟩, ⟨some 17, .bin .gtr (.v 16) (.c (.int .i64 16)), some (13, false), [16]⟩, ⟨some 18, .pick (.v 13) (.c (.bool true)) (.v 17), none, [13, 17]⟩] [1, 18]) (.cond (.v 18) (.seq (.rg [⟨some 2, .mv (.c (.bool false)), none, []⟩] [2]) .ret) .skip)) (.seq (.seq (.rg [⟨some 19, .faddr 0 (.v 1), none, []⟩, ⟨some 20, .load1 (.v 19), none, [19]⟩, ⟨some 21, .lenL (.v 20), none, []⟩, ⟨some 22, .mv (.c (.int .i64 0)), none, []⟩] [1, 20, 21, 22]) (.block 0 (.loop l_impl_PlanBaseOk_0))) (.seq (.rg [⟨some 47, .mkmap 147 2, none, []⟩, ⟨some 5, .mv (.v 47), none, [47]⟩] [1, 5]) (.seq (.seq (.rg [⟨some 48, .faddr 1 (.v 1), none, []⟩, ⟨some 49, .load1 (.v 48), none, [48]⟩, ⟨some 50, .lenL (.v 49), none, []⟩, ⟨some 51, .mv (.c (.int .i64 0)), none, []⟩] [1, 5, 49, 50, 51]) (.block 2 (.loop l_impl_PlanBaseOk_1))) (.seq (.rg [⟨some 2, .mv (.c (.bool true)), none, []⟩] [2]) .ret)))))) }
theorem k_impl_PlanBaseOk : okFun Go.Proofs.Tryz.prog 50 s_impl_PlanBaseOk = true := by kernel_rfl
/-- impl.PlanBase).fits: function 51 -/
def s_impl_PlanBase_fits : SFun := { n := 80, res := [.t 6], body := (.seq (.rg [⟨some 3, .box 103 (.v 0), none, [0]⟩, ⟨some 6, .mv (.c (.bool false)), none, [6]⟩] [1, 2, 3]) (.seq (.rg [⟨some 14, .mv (.v 2), none, []⟩, ⟨some 15, .call 83 [.v 14, .c (.str ⟨#[32]⟩)], none, [14]⟩, ⟨some 7, .mv (.v 15), none, [15]⟩] [1, 2, 3, 7]) (.seq (.seq (.rg [⟨some 16, .mv (.v 1), none, [1]⟩] [2, 3, 7, 16]) (.block 0 (.seq (.rg [⟨some 18, .bin .eql (.v 16) (.c (.int .i64 1)), none, []⟩, ⟨some 17, .mv (.v 18), none, [18]⟩] [2, 3, 7, 16, 17]) (.cond (.v 17) (.seq (.rg [⟨some 19, .loadN 2 (.v 3), none, [3]⟩, ⟨some 20, .mv (.v 2), none, [2]⟩, ⟨some 21, .call 84 [.v 19, .v 20], none, [19, 20]⟩, ⟨some 22, .bin .geq (.v 21) (.c (.int .i64 0)), none, [21]⟩, ⟨some 6, .mv (.v 22), none, [22]⟩] [6]) .ret) (.seq (.rg [⟨some 24, .bin .eql (.v 16) (.c (.int .i64 2)), none, []⟩, ⟨some 23, .mv (.v 24), none, [24]⟩] [2, 3, 7, 16, 23]) (.cond (.v 23) (.seq (.rg [⟨some 26, .mv (.v 7), none, [7]⟩, ⟨some 27, .call 85 [.v 26, .c (.int .i64 7)], none, [26]⟩, ⟨some 25, .mv (.v 27), none, [27]⟩, ⟨some 28, .ext 0 (.v 25), none, []⟩, ⟨some 29, .ext 1 (.v 25), none, [25]⟩, ⟨some 8, .mv (.v 28), none, [28]⟩, ⟨some 9, .mv (.v 29), none, [29]⟩] [8, 9]) (.seq (.rgd [⟨some 30, .mv (.v 9), none, []⟩, ⟨some 31, .mv (.v 30), none, []⟩, ⟨some 32, .mv (.v 8), some (31, true), []⟩, ⟨some 33, .lenL (.v 32), some (31, true), []⟩, ⟨some 34, .bin .eql (.v 33) (.c (.int .i64 2)), some (31, true), []⟩, ⟨some 35, .pick (.v 31) (.v 34) (.c (.bool false)), none, []⟩, ⟨some 36, .mv (.v 35), none, []⟩, ⟨some 37, .mv (.v 8), some (36, true), []⟩, ⟨some 38, .iaddr 1 (.v 37) (.c (.int .i64 0)), some (36, true), []⟩, ⟨some 39, .load1 (.v 38), some (36, true), []⟩, ⟨some 40, .mv (.v 8), some (36, true), []⟩, ⟨some 41, .iaddr 1 (.v 40) (.c (.int .i64 1)), some (36, true), []⟩, ⟨some 42, .load1 (.v 41), some (36, true), []⟩, ⟨some 43, .bin .leq (.v 39) (.v 42), some (36, true), []⟩, ⟨some 44, .pick (.v 36) (.v 43) (.c (.bool false)), none, []⟩, ⟨some 45, .mv (.v 44), none, []⟩, ⟨some 46, .mv (.v 8), some (45, true), []⟩, ⟨some 47, .iaddr 1 (.v 46) (.c (.int .i64 1)), some (45, true), []⟩, ⟨some 48, .load1 (.v 47), some (45, true), []⟩, ⟨some 49, .bin .leq (.v 48) (.c (.int .i64 10000)), some (45, true), []⟩, ⟨some 50, .pick (.v 45) (.v 49) (.c (.bool false)), none, []⟩, ⟨some 6, .mv (.v 50), none, []⟩] [6] [none, none, none, none, none, none, none, none, none, none, none, none, none, none, none, none, none, none, none, none, none, none]) .ret)) (.seq (.rg [⟨some 52, .bin .eql (.v 16) (.c (.int .i64 3)), none, []⟩, ⟨some 51, .mv (.v 52), none, [52]⟩] [2, 3, 7, 16, 51]) (.cond (.v 51) (.seq (.rg [⟨some 54, .mv (.v 2), none, [2]⟩, ⟨some 55, .call 86 [.v 54, .c (.int .i64 7)], none, [54]⟩, ⟨some 53, .mv (.v 55), none, [55]⟩, ⟨some 56, .ext 0 (.v 53), none, []⟩, ⟨some 57, .ext 1 (.v 53), none, [53]⟩, ⟨some 10, .mv (.v 56), none, [56]⟩, ⟨some 11, .mv (.v 57), none, [57]⟩] [10, 11]) (.seq (.rg [⟨some 58, .mv (.v 11), none, [11]⟩, ⟨some 59, .mv (.v 58), none, [58]⟩, ⟨some 60, .mv (.v 10), some (59, true), [10]⟩, ⟨some 61, .call 87 [.v 60, .c (.int .i64 1), .c (.int .i64 6)], some (59, true), [60]⟩, ⟨some 62, .pick (.v 59) (.v 61) (.c (.bool false)), none, [59, 61]⟩, ⟨some 6, .mv (.v 62), none, [62]⟩] [6]) .ret)) (.seq (.rg [⟨some 64, .bin .eql (.v 16) (.c (.int .i64 4)), none, []⟩, ⟨some 63, .mv (.v 64), none, [64]⟩] [2, 3, 7, 16, 63]) (.cond (.v 63) (.seq (.rg [⟨some 66, .loadN 2 (.v 3), none, [3]⟩, ⟨some 67, .mv (.v 7), none, [7]⟩, ⟨some 68, .call 88 [.v 66, .v 67], none, [66, 67]⟩, ⟨some 65, .mv (.v 68), none, [68]⟩, ⟨some 69, .ext 0 (.v 65), none, []⟩, ⟨some 70, .ext 1 (.v 65), none, [65]⟩, ⟨some 12, .mv (.v 69), none, [12, 69]⟩, ⟨some 13, .mv (.v 70), none, [70]⟩] [13]) (.seq (.rg [⟨some 71, .mv (.v 13), none, [13]⟩, ⟨some 6, .mv (.v 71), none, [71]⟩] [6]) .ret)) (.seq (.rg [⟨some 73, .bin .eql (.v 16) (.c (.int .i64 5)), none, [16]⟩, ⟨some 72, .mv (.v 73), none, [73]⟩] [2, 72]) (.cond (.v 72) (.seq (.rg [⟨some 74, .mv (.v 2), none, []⟩, ⟨some 75, .bin .eql (.v 74) (.c (.str ⟨#[111, 112, 101, 110]⟩)), none, [74]⟩, ⟨some 76, .mv (.v 75), none, [75]⟩, ⟨some 77, .mv (.v 2), some (76, false), [2]⟩, ⟨some 78, .bin .eql (.v 77) (.c (.str ⟨#[99, 108, 111, 115, 101, 100]⟩)), some (76, false), [77]⟩, ⟨some 79, .pick (.v 76) (.c (.bool true)) (.v 78), none, [76, 78]⟩, ⟨some 6, .mv (.v 79), none, [79]⟩] [6]) .ret) .skip)))))))))))) (.seq (.rg [⟨some 6, .mv (.c (.bool false)), none, []⟩] [6]) .ret)))) }
theorem k_impl_PlanBase_fits : okFun Go.Proofs.Tryz.prog 51 s_impl_PlanBase_fits = true := by kernel_rfl
def l_laws_eqPlanKindS_0 : SCode := (.seq (.seq (.rg [⟨some 11, .mv (.v 5), none, []⟩, ⟨some 12, .mv (.v 0), none, []⟩, ⟨some 13, .lenL (.v 12), none, [12]⟩, ⟨some 14, .bin .lss (.v 11) (.v 13), none, [11, 13]⟩] [0, 1, 5, 14]) (.cond (.v 14) .skip (.exit 0))) (.seq (.block 1 (.seq (.rgd [⟨some 17, .mv (.v 0), none, []⟩, ⟨some 18, .mv (.v 5), none, []⟩, ⟨some 19, .iaddr 3 (.v 17) (.v 18), none, []⟩, ⟨some 20, .loadN 3 (.v 19), none, []⟩, ⟨some 21, .mv (.v 1), none, []⟩, ⟨some 22, .mv (.v 5), none, []⟩, ⟨some 23, .iaddr 3 (.v 21) (.v 22), none, []⟩, ⟨some 24, .loadN 3 (.v 23), none, []⟩, ⟨some 25, .call 70 [.v 20, .v 24], none, []⟩, ⟨some 26, .not (.v 25), none, []⟩] [0, 1, 5, 26] [none, none, none, none, none, none, none, none, none, none]) (.cond (.v 26) (.seq (.rg [⟨some 4, .mv (.c (.bool false)), none, []⟩] [4]) .ret) .skip))) (.rg [⟨some 15, .mv (.v 5), none, [5]⟩, ⟨some 16, .binN .add (.v 15) (.c (.int .i64 1)), none, [15]⟩, ⟨some 5, .mv (.v 16), none, [16]⟩] [0, 1, 5])))
/-- laws.eqPlanKindS: function 52 -/
def s_laws_eqPlanKindS : SFun := { n := 27, res := [.t 4], body := (.seq (.rg [⟨some 4, .mv (.c (.bool false)), none, [4]⟩] [0, 1]) (.seq (.seq (.rg [⟨some 6, .mv (.v 0), none, []⟩, ⟨some 7, .lenL (.v 6), none, [6]⟩, ⟨some 8, .mv (.v 1), none, []⟩, ⟨some 9, .lenL (.v 8), none, [8]⟩, ⟨some 10, .bin .neq (.v 7) (.v 9), none, [7, 9]⟩] [0, 1, 10]) (.cond (.v 10) (.seq (.rg [⟨some 4, .mv (.c (.bool false)), none, []⟩] [4]) .ret) .skip)) (.seq (.seq (.rg [⟨some 5, .mv (.c (.int .i64 0)), none, []⟩] [0, 1, 5]) (.block 0 (.loop l_laws_eqPlanKindS_0))) (.seq (.rg [⟨some 4, .mv (.c (.bool true)), none, []⟩] [4]) .ret)))) }
theorem k_laws_eqPlanKindS : okFun Go.Proofs.Tryz.prog 52 s_laws_eqPlanKindS = true := by kernel_rfl
def l_laws_eqPlanPointS_0 : SCode := (.seq (.seq (.rg [⟨some 11, .mv (.v 5), none, []⟩, ⟨some 12, .mv (.v 0), none, []⟩, ⟨some 13, .lenL (.v 12), none, [12]⟩, ⟨some 14, .bin .lss (.v 11) (.v 13), none, [11, 13]⟩] [0, 1, 5, 14]) (.cond (.v 14) .skip (.exit 0))) (.seq (.block 1 (.seq (.rgd [⟨some 17, .mv (.v 0), none, []⟩, ⟨some 18, .mv (.v 5), none, []⟩, ⟨some 19, .iaddr 3 (.v 17) (.v 18), none, []⟩, ⟨some 20, .loadN 3 (.v 19), none, []⟩, ⟨some 21, .mv (.v 1), none, []⟩, ⟨some 22, .mv (.v 5), none, []⟩, ⟨some 23, .iaddr 3 (.v 21) (.v 22), none, []⟩, ⟨some 24, .loadN 3 (.v 23), none, []⟩, ⟨some 25, .call 89 [.v 20, .v 24], none, []⟩, ⟨some 26, .not (.v 25), none, []⟩] [0, 1, 5, 26] [none, none, none, none, none, none, none, none, none, none]) (.cond (.v 26) (.seq (.rg [⟨some 4, .mv (.c (.bool false)), none, []⟩] [4]) .ret) .skip))) (.rg [⟨some 15, .mv (.v 5), none, [5]⟩, ⟨some 16, .binN .add (.v 15) (.c (.int .i64 1)), none, [15]⟩, ⟨some 5, .mv (.v 16), none, [16]⟩] [0, 1, 5])))
/-- laws.eqPlanPointS: function 53 -/
def s_laws_eqPlanPointS : SFun := { n := 27, res := [.t 4], body := (.seq (.rg [⟨some 4, .mv (.c (.bool false)), none, [4]⟩] [0, 1]) (.seq (.seq (.rg [⟨some 6, .mv (.v 0), none, []⟩, ⟨some 7, .lenL (.v 6), none, [6]⟩, ⟨some 8, .mv (.v 1), none, []⟩, ⟨some 9, .lenL (.v 8), none, [8]⟩, ⟨some 10, .bin .neq (.v 7) (.v 9), none, [7, 9]⟩] [0, 1, 10]) (.cond (.v 10) (.seq (.rg [⟨some 4, .mv (.c (.bool false)), none, []⟩] [4]) .ret) .skip)) (.seq (.seq (.rg [⟨some 5, .mv (.c (.int .i64 0)), none, []⟩] [0, 1, 5]) (.block 0 (.loop l_laws_eqPlanPointS_0))) (.seq (.rg [⟨some 4, .mv (.c (.bool true)), none, []⟩] [4]) .ret)))) }
theorem k_laws_eqPlanPointS : okFun Go.Proofs.Tryz.prog 53 s_laws_eqPlanPointS = true := by kernel_rfl
def l_spec_l11NameOk_0 : SCode := (.seq (.seq (.rg [⟨some 9, .mv (.v 3), none, []⟩, ⟨some 10, .mv (.v 0), none, []⟩, ⟨some 11, .lenS (.v 10), none, [10]⟩, ⟨some 12, .bin .lss (.v 9) (.v 11), none, [9, 11]⟩] [0, 3, 12]) (.cond (.v 12) .skip (.exit 0))) (.seq (.block 1 (.seq (.rg [⟨some 15, .mv (.v 0), none, []⟩, ⟨some 16, .mv (.v 3), none, []⟩, ⟨some 17, .istr (.v 15) (.v 16), none, [15, 16]⟩, ⟨some 4, .mv (.v 17), none, [17]⟩] [0, 3, 4]) (.seq (.rg [⟨some 18, .mv (.v 4), none, []⟩, ⟨some 19, .bin .geq (.v 18) (.c (.int .u8 97)), none, [18]⟩, ⟨some 20, .mv (.v 19), none, [19]⟩, ⟨some 21, .mv (.v 4), some (20, true), []⟩, ⟨some 22, .bin .leq (.v 21) (.c (.int .u8 122)), some (20, true), [21]⟩, ⟨some 23, .pick (.v 20) (.v 22) (.c (.bool false)), none, [20, 22]⟩, ⟨some 24, .mv (.v 23), none, [23]⟩, ⟨some 25, .mv (.v 4), some (24, false), []⟩, ⟨some 26, .bin .geq (.v 25) (.c (.int .u8 48)), some (24, false), [25]⟩, ⟨some 27, .mv (.v 26), some (24, false), [26]⟩, ⟨some 28, .mv (.v 4), some (27, true), []⟩, ⟨some 29, .bin .leq (.v 28) (.c (.int .u8 57)), some (27, true), [28]⟩, ⟨some 30, .pick (.v 27) (.v 29) (.c (.bool false)), some (24, false), [27, 29]⟩, ⟨some 31, .pick (.v 24) (.c (.bool true)) (.v 30), none, [24, 30]⟩, ⟨some 32, .mv (.v 31), none, [31]⟩, ⟨some 33, .mv (.v 4), some (32, false), [4]⟩, ⟨some 34, .bin .eql (.v 33) (.c (.int .u8 45)), some (32, false), [33]⟩, ⟨some 35, .pick (.v 32) (.c (.bool true)) (.v 34), none, [32, 34]⟩, ⟨some 36, .not (.v 35), none, [35]⟩] [0, 3, 36]) (.cond (.v 36) (.seq (.rg [⟨some 2, .mv (.c (.bool false)), none, []⟩] [2]) .ret) .skip)))) (.rg [⟨some 13, .mv (.v 3), none, [3]⟩, ⟨some 14, .binN .add (.v 13) (.c (.int .i64 1)), none, [13]⟩, ⟨some 3, .mv (.v 14), none, [14]⟩] [0, 3])))
/-- spec.l11NameOk: function 54 -/
def s_spec_l11NameOk : SFun := { n := 37, res := [.t 2], body := (.seq (.rg [⟨some 2, .mv (.c (.bool false)), none, [2]⟩] [0]) (.seq (.seq (.rg [⟨some 5, .mv (.v 0), none, []⟩, ⟨some 6, .lenS (.v 5), none, [5]⟩, ⟨some 7, .call 45 [.v 6, .c (.int .i64 1), .c (.int .i64 8)], none, [6]⟩, ⟨some 8, .not (.v 7), none, [7]⟩] [0, 8]) (.cond (.v 8) (.seq (.rg [⟨some 2, .mv (.c (.bool false)), none, []⟩] [2]) .ret) .skip)) (.seq (.seq (.rg [⟨some 3, .mv (.c (.int .i64 0)), none, []⟩] [0, 3]) (.block 0 (.loop l_spec_l11NameOk_0))) (.seq (.rg [⟨some 2, .mv (.c (.bool true)), none, []⟩] [2]) .ret)))) }
theorem k_spec_l11NameOk : okFun Go.Proofs.Tryz.prog 54 s_spec_l11NameOk = true := by kernel_rfl
/-- impl.PlanBase).change: function 55 -/
def s_impl_PlanBase_change : SFun := { n := 21, res := [.t 4], body := (.seq (.rg [⟨some 2, .box 102 (.v 0), none, [0]⟩, ⟨some 3, .box 103 (.v 1), none, [1]⟩, ⟨some 4, .mv (.c (.bool false)), none, [4]⟩] [2, 3]) (.seq (.rg [⟨some 5, .faddr 0 (.v 3), none, []⟩, ⟨some 6, .load1 (.v 5), none, [5]⟩, ⟨some 7, .call 90 [.v 6], none, [6]⟩, ⟨some 8, .mv (.v 7), none, [7]⟩, ⟨some 9, .faddr 2 (.v 3), some (8, true), []⟩, ⟨some 10, .load1 (.v 9), some (8, true), [9]⟩, ⟨some 11, .call 87 [.v 10, .c (.int .i64 1), .c (.int .i64 1000000)], some (8, true), [10]⟩, ⟨some 12, .pick (.v 8) (.v 11) (.c (.bool false)), none, [8, 11]⟩, ⟨some 13, .mv (.v 12), none, [12]⟩, ⟨some 14, .loadN 2 (.v 2), some (13, true), [2]⟩, ⟨some 15, .faddr 1 (.v 3), some (13, true), []⟩, ⟨some 16, .load1 (.v 15), some (13, true), [15]⟩, ⟨some 17, .faddr 3 (.v 3), some (13, true), [3]⟩, ⟨some 18, .load1 (.v 17), some (13, true), [17]⟩, ⟨some 19, .call 51 [.v 14, .v 16, .v 18], some (13, true), [14, 16, 18]⟩, ⟨some 20, .pick (.v 13) (.v 19) (.c (.bool false)), none, [13, 19]⟩, ⟨some 4, .mv (.v 20), none, [20]⟩] [4]) .ret)) }
theorem k_impl_PlanBase_change : okFun Go.Proofs.Tryz.prog 55 s_impl_PlanBase_change = true := by kernel_rfl
def l_laws_szPlanEntryS_0 : SCode := (.seq (.seq (.rg [⟨some 12, .mv (.v 5), none, []⟩, ⟨some 13, .mv (.v 0), none, []⟩, ⟨some 14, .lenL (.v 13), none, [13]⟩, ⟨some 15, .bin .lss (.v 12) (.v 14), none, [12, 14]⟩] [0, 1, 5, 15]) (.cond (.v 15) .skip (.exit 0))) (.seq (.block 1 (.seq (.rg [⟨some 18, .mv (.v 0), none, []⟩, ⟨some 19, .mv (.v 5), none, []⟩, ⟨some 20, .iaddr 2 (.v 18) (.v 19), none, [18, 19]⟩, ⟨some 21, .loadN 2 (.v 20), none, [20]⟩, ⟨some 22, .mv (.v 1), none, [1]⟩, ⟨some 23, .call 91 [.v 21, .v 22], none, [21, 22]⟩, ⟨some 1, .mv (.v 23), none, [23]⟩] [0, 1, 5]) (.seq (.rg [⟨some 24, .mv (.v 1), none, []⟩, ⟨some 25, .bin .lss (.v 24) (.c (.int .i64 0)), none, [24]⟩] [0, 1, 5, 25]) (.cond (.v 25) (.seq (.rg [⟨some 4, .mv (.c (.int .i64 (-1))), none, []⟩] [4]) .ret) .skip)))) (.rg [⟨some 16, .mv (.v 5), none, [5]⟩, ⟨some 17, .binN .add (.v 16) (.c (.int .i64 1)), none, [16]⟩, ⟨some 5, .mv (.v 17), none, [17]⟩] [0, 1, 5])))
/-- laws.szPlanEntryS: function 56 -/
def s_laws_szPlanEntryS : SFun := { n := 27, res := [.t 4], body := (.seq (.rg [⟨some 4, .mv (.c (.int .i64 0)), none, [4]⟩] [0, 1]) (.seq (.rg [⟨some 6, .mv (.v 1), none, [1]⟩, ⟨some 7, .mv (.v 0), none, []⟩, ⟨some 8, .lenL (.v 7), none, [7]⟩, ⟨some 9, .binN .sub (.v 6) (.v 8), none, [6, 8]⟩, ⟨some 1, .mv (.v 9), none, [9]⟩] [0, 1]) (.seq (.seq (.rg [⟨some 10, .mv (.v 1), none, []⟩, ⟨some 11, .bin .lss (.v 10) (.c (.int .i64 0)), none, [10]⟩] [0, 1, 11]) (.cond (.v 11) (.seq (.rg [⟨some 4, .mv (.c (.int .i64 (-1))), none, []⟩] [4]) .ret) .skip)) (.seq (.seq (.rg [⟨some 5, .mv (.c (.int .i64 0)), none, []⟩] [0, 1, 5]) (.block 0 (.loop l_laws_szPlanEntryS_0))) (.seq (.rg [⟨some 26, .mv (.v 1), none, [1]⟩, ⟨some 4, .mv (.v 26), none, [26]⟩] [4]) .ret))))) }
theorem k_laws_szPlanEntryS : okFun Go.Proofs.Tryz.prog 56 s_laws_szPlanEntryS = true := by kernel_rfl
def l_spec_l13EntryOk_0 : SCode := (.seq (.seq (.rg [⟨some 17, .mv (.v 5), none, []⟩, ⟨some 18, .faddr 1 (.v 3), none, []⟩, ⟨some 19, .load1 (.v 18), none, [18]⟩, ⟨some 20, .lenL (.v 19), none, [19]⟩, ⟨some 21, .bin .lss (.v 17) (.v 20), none, [17, 20]⟩] [2, 3, 5, 21]) (.cond (.v 21) .skip (.exit 0))) (.seq (.block 1 (.seq (.rg [⟨some 24, .faddr 1 (.v 3), none, []⟩, ⟨some 25, .load1 (.v 24), none, [24]⟩, ⟨some 26, .mv (.v 5), none, []⟩, ⟨some 27, .iaddr 3 (.v 25) (.v 26), none, [25, 26]⟩, ⟨some 28, .loadN 3 (.v 27), none, [27]⟩, ⟨some 6, .alloc 106 [.int .i64 0, .int .i64 0, .str ⟨#[]⟩], none, []⟩, ⟨none, .store 3 (.v 6) (.v 28), none, [28]⟩] [2, 3, 5, 6]) (.seq (.rgd [⟨some 29, .loadN 2 (.v 2), none, []⟩, ⟨some 30, .faddr 0 (.v 3), none, []⟩, ⟨some 31, .load1 (.v 30), none, []⟩, ⟨some 32, .faddr 0 (.v 6), none, []⟩, ⟨some 33, .load1 (.v 32), none, []⟩, ⟨some 34, .faddr 1 (.v 6), none, []⟩, ⟨some 35, .load1 (.v 34), none, []⟩, ⟨some 36, .faddr 2 (.v 6), none, []⟩, ⟨some 37, .load1 (.v 36), none, []⟩, ⟨some 38, .build [.str ⟨#[]⟩, .int .i64 0, .int .i64 0, .str ⟨#[]⟩] [(0, 1, .v 31), (1, 1, .v 33), (2, 1, .v 35), (3, 1, .v 37)], none, []⟩, ⟨some 39, .call 15 [.v 29, .v 38], none, []⟩, ⟨some 40, .not (.v 39), none, []⟩, ⟨some 41, .mv (.v 40), none, []⟩, ⟨some 42, .mv (.v 5), some (41, false), []⟩, ⟨some 43, .bin .gtr (.v 42) (.c (.int .i64 0)), some (41, false), []⟩, ⟨some 44, .mv (.v 43), some (41, false), []⟩, ⟨some 45, .faddr 1 (.v 3), some (44, true), []⟩, ⟨some 46, .load1 (.v 45), some (44, true), []⟩, ⟨some 47, .mv (.v 5), some (44, true), []⟩, ⟨some 48, .binN .sub (.v 47) (.c (.int .i64 1)), some (44, true), []⟩, ⟨some 49, .iaddr 3 (.v 46) (.v 48), some (44, true), []⟩, ⟨some 50, .faddr 0 (.v 49), some (44, true), []⟩, ⟨some 51, .load1 (.v 50), some (44, true), []⟩, ⟨some 52, .faddr 0 (.v 6), some (44, true), []⟩, ⟨some 53, .load1 (.v 52), some (44, true), []⟩, ⟨some 54, .bin .geq (.v 51) (.v 53), some (44, true), []⟩, ⟨some 55, .pick (.v 44) (.v 54) (.c (.bool false)), some (41, false), []⟩, ⟨some 56, .pick (.v 41) (.c (.bool true)) (.v 55), none, []⟩] [2, 3, 5, 56] [none, none, none, none, none, none, none, none, none, none, none, none, none, none, none, none, none, none, none, none, none, none, none, none, none, none, none, none]) (.cond (.v 56) (.seq (.rg [⟨some 4, .mv (.c (.bool false)), none, []⟩] [4]) .ret) .skip)))) (.rg [⟨some 22, .mv (.v 5), none, [5]⟩, ⟨some 23, .binN .add (.v 22) (.c (.int .i64 1)), none, [22]⟩, ⟨some 5, .mv (.v 23), none, [23]⟩] [2, 3, 5])))
/-- spec.l13EntryOk: function 57 -/
def s_spec_l13EntryOk : SFun := { n := 57, res := [.t 4], body := (.seq (.rg [⟨some 2, .box 102 (.v 0), none, [0]⟩, ⟨some 3, .box 103 (.v 1), none, [1]⟩, ⟨some 4, .mv (.c (.bool false)), none, [4]⟩] [2, 3]) (.seq (.seq (.rg [⟨some 7, .faddr 0 (.v 3), none, []⟩, ⟨some 8, .load1 (.v 7), none, [7]⟩, ⟨some 9, .call 54 [.v 8], none, [8]⟩, ⟨some 10, .not (.v 9), none, [9]⟩, ⟨some 11, .mv (.v 10), none, [10]⟩, ⟨some 12, .faddr 1 (.v 3), some (11, false), []⟩, ⟨some 13, .load1 (.v 12), some (11, false), [12]⟩, ⟨some 14, .lenL (.v 13), some (11, false), [13]⟩, ⟨some 15, .bin .eql (.v 14) (.c (.int .i64 0)), some (11, false), [14]⟩, ⟨some 16, .pick (.v 11) (.c (.bool true)) (.v 15), none, [11, 15]⟩] [2, 3, 16]) (.cond (.v 16) (.seq (.rg [⟨some 4, .mv (.c (.bool false)), none, []⟩] [4]) .ret) .skip)) (.seq (.seq (.rg [⟨some 5, .mv (.c (.int .i64 0)), none, []⟩] [2, 3, 5]) (.block 0 (.loop l_spec_l13EntryOk_0))) (.seq (.rg [⟨some 4, .mv (.c (.bool true)), none, []⟩] [4]) .ret)))) }
theorem k_spec_l13EntryOk : okFun Go.Proofs.Tryz.prog 57 s_spec_l13EntryOk = true := by kernel_rfl
def l_laws_toPlanEntryS_0 : SCode := (.seq (.seq (.rg [⟨some 8, .mv (.v 4), none, []⟩, ⟨some 9, .mv (.v 0), none, []⟩, ⟨some 10, .lenL (.v 9), none, [9]⟩, ⟨some 11, .bin .lss (.v 8) (.v 10), none, [8, 10]⟩] [0, 3, 4, 11]) (.cond (.v 11) .skip (.exit 0))) (.seq (.block 1 (.rg [⟨some 14, .mv (.v 3), none, []⟩, ⟨some 15, .mv (.v 4), none, []⟩, ⟨some 16, .mv (.v 0), none, []⟩, ⟨some 17, .mv (.v 4), none, []⟩, ⟨some 18, .iaddr 2 (.v 16) (.v 17), none, [16, 17]⟩, ⟨some 19, .loadN 2 (.v 18), none, [18]⟩, ⟨some 20, .call 92 [.v 19], none, [19]⟩, ⟨some 21, .iaddr 2 (.v 14) (.v 15), none, [14, 15]⟩, ⟨none, .store 2 (.v 21) (.v 20), none, [20, 21]⟩] [0, 3, 4])) (.rg [⟨some 12, .mv (.v 4), none, [4]⟩, ⟨some 13, .binN .add (.v 12) (.c (.int .i64 1)), none, [12]⟩, ⟨some 4, .mv (.v 13), none, [13]⟩] [0, 3, 4])))
/-- laws.toPlanEntryS: function 58 -/
def s_laws_toPlanEntryS : SFun := { n := 23, res := [.t 2], body := (.seq (.rg [⟨some 2, .mv (.c (.sl 0 2 [])), none, [2]⟩] [0]) (.seq (.rg [⟨some 5, .mv (.v 0), none, []⟩, ⟨some 6, .lenL (.v 5), none, [5]⟩, ⟨some 7, .mk 107 93 2 [.str ⟨#[]⟩, .sl 0 3 []] (.v 6), none, [6]⟩, ⟨some 3, .mv (.v 7), none, [7]⟩] [0, 3]) (.seq (.seq (.rg [⟨some 4, .mv (.c (.int .i64 0)), none, []⟩] [0, 3, 4]) (.block 0 (.loop l_laws_toPlanEntryS_0))) (.seq (.rg [⟨some 22, .mv (.v 3), none, [3]⟩, ⟨some 2, .mv (.v 22), none, [22]⟩] [2]) (.gh (.frzE 2) .ret))))) }
theorem k_laws_toPlanEntryS : okFun Go.Proofs.Tryz.prog 58 s_laws_toPlanEntryS = true := by kernel_rfl
def l_laws_eqPlanEntryS_0 : SCode := (.seq (.seq (.rg [⟨some 11, .mv (.v 5), none, []⟩, ⟨some 12, .mv (.v 0), none, []⟩, ⟨some 13, .lenL (.v 12), none, [12]⟩, ⟨some 14, .bin .lss (.v 11) (.v 13), none, [11, 13]⟩] [0, 1, 5, 14]) (.cond (.v 14) .skip (.exit 0))) (.seq (.block 1 (.seq (.rgd [⟨some 17, .mv (.v 0), none, []⟩, ⟨some 18, .mv (.v 5), none, []⟩, ⟨some 19, .iaddr 2 (.v 17) (.v 18), none, []⟩, ⟨some 20, .loadN 2 (.v 19), none, []⟩, ⟨some 21, .mv (.v 1), none, []⟩, ⟨some 22, .mv (.v 5), none, []⟩, ⟨some 23, .iaddr 2 (.v 21) (.v 22), none, []⟩, ⟨some 24, .loadN 2 (.v 23), none, []⟩, ⟨some 25, .call 93 [.v 20, .v 24], none, []⟩, ⟨some 26, .not (.v 25), none, []⟩] [0, 1, 5, 26] [none, none, none, none, none, none, none, none, none, none]) (.cond (.v 26) (.seq (.rg [⟨some 4, .mv (.c (.bool false)), none, []⟩] [4]) .ret) .skip))) (.rg [⟨some 15, .mv (.v 5), none, [5]⟩, ⟨some 16, .binN .add (.v 15) (.c (.int .i64 1)), none, [15]⟩, ⟨some 5, .mv (.v 16), none, [16]⟩] [0, 1, 5])))
/-- laws.eqPlanEntryS: function 59 -/
def s_laws_eqPlanEntryS : SFun := { n := 27, res := [.t 4], body := (.seq (.rg [⟨some 4, .mv (.c (.bool false)), none, [4]⟩] [0, 1]) (.seq (.seq (.rg [⟨some 6, .mv (.v 0), none, []⟩, ⟨some 7, .lenL (.v 6), none, [6]⟩, ⟨some 8, .mv (.v 1), none, []⟩, ⟨some 9, .lenL (.v 8), none, [8]⟩, ⟨some 10, .bin .neq (.v 7) (.v 9), none, [7, 9]⟩] [0, 1, 10]) (.cond (.v 10) (.seq (.rg [⟨some 4, .mv (.c (.bool false)), none, []⟩] [4]) .ret) .skip)) (.seq (.seq (.rg [⟨some 5, .mv (.c (.int .i64 0)), none, []⟩] [0, 1, 5]) (.block 0 (.loop l_laws_eqPlanEntryS_0))) (.seq (.rg [⟨some 4, .mv (.c (.bool true)), none, []⟩] [4]) .ret)))) }
theorem k_laws_eqPlanEntryS : okFun Go.Proofs.Tryz.prog 59 s_laws_eqPlanEntryS = true := by kernel_rfl
def l_impl_PlanBook_field_0 : SCode := (.seq (.rg [⟨some 24, .bin .lss (.v 23) (.v 22), none, []⟩] [2, 6, 21, 22, 23, 24]) (.seq (.cond (.v 24) .skip (.exit 0)) (.seq (.block 1 (.seq (.rg [⟨some 25, .iaddr 3 (.v 21) (.v 23), none, []⟩, ⟨some 26, .loadN 3 (.v 25), none, [25]⟩, ⟨some 10, .alloc 110 [.int .i64 0, .int .i64 0, .str ⟨#[]⟩], none, []⟩, ⟨none, .store 3 (.v 10) (.v 26), none, [26]⟩] [2, 6, 10, 21, 22, 23]) (.seq (.rg [⟨some 27, .faddr 0 (.v 10), none, []⟩, ⟨some 28, .load1 (.v 27), none, [27]⟩, ⟨some 29, .mv (.v 2), none, []⟩, ⟨some 30, .bin .eql (.v 28) (.v 29), none, [28, 29]⟩] [2, 6, 10, 21, 22, 23, 30]) (.cond (.v 30) (.seq (.rg [⟨some 31, .loadN 3 (.v 10), none, [10]⟩, ⟨none, .store 3 (.v 6) (.v 31), none, [31]⟩, ⟨some 7, .mv (.c (.bool true)), none, []⟩] [6, 7]) .ret) .skip)))) (.rg [⟨some 32, .binN .add (.v 23) (.c (.int .i64 1)), none, [23]⟩, ⟨some 23, .mv (.v 32), none, [32]⟩] [2, 6, 21, 22, 23]))))
/-- impl.PlanBook).field: function 61 -/
def s_impl_PlanBook_field : SFun := { n := 34, res := [.cN 6 3, .t 7], body := (.seq (.rg [⟨some 3, .box 103 (.v 0), none, [0]⟩, ⟨some 6, .alloc 106 [.int .i64 0, .int .i64 0, .str ⟨#[]⟩], none, []⟩, ⟨some 7, .mv (.c (.bool false)), none, [7]⟩] [1, 2, 3, 6]) (.seq (.seq (.rg [⟨some 11, .loadN 3 (.v 3), none, []⟩, ⟨some 12, .mv (.v 1), none, [1]⟩, ⟨some 13, .call 95 [.v 11, .v 12], none, [11, 12]⟩, ⟨some 8, .mv (.v 13), none, [13]⟩] [2, 3, 6, 8]) (.seq (.rg [⟨some 14, .mv (.v 8), none, []⟩, ⟨some 15, .bin .geq (.v 14) (.c (.int .i64 0)), none, [14]⟩] [2, 3, 6, 8, 15]) (.cond (.v 15) (.seq (.rg [⟨some 16, .faddr 2 (.v 3), none, [3]⟩, ⟨some 17, .load1 (.v 16), none, [16]⟩, ⟨some 18, .mv (.v 8), none, [8]⟩, ⟨some 19, .iaddr 2 (.v 17) (.v 18), none, [17, 18]⟩, ⟨some 20, .faddr 1 (.v 19), none, [19]⟩, ⟨some 21, .load1 (.v 20), none, [20]⟩, ⟨some 22, .lenL (.v 21), none, []⟩, ⟨some 23, .mv (.c (.int .i64 0)), none, []⟩] [2, 6, 21, 22, 23]) (.block 0 (.loop l_impl_PlanBook_field_0))) .skip))) (.seq (.rg [⟨some 33, .build [.int .i64 0, .int .i64 0, .str ⟨#[]⟩] [], none, []⟩, ⟨none, .store 3 (.v 6) (.v 33), none, [33]⟩, ⟨some 7, .mv (.c (.bool false)), none, []⟩] [6, 7]) .ret))) }
theorem k_impl_PlanBook_field : okFun Go.Proofs.Tryz.prog 61 s_impl_PlanBook_field = true := by kernel_rfl
/-- laws.markPlanBase: function 64 -/
def s_laws_markPlanBase : SFun := { n := 14, res := [.t 4], body := (.seq (.rg [⟨some 2, .box 102 (.v 0), none, [0]⟩, ⟨some 4, .mv (.c (.int .i64 0)), none, [4]⟩] [1, 2]) (.seq (.rg [⟨some 5, .faddr 0 (.v 2), none, []⟩, ⟨some 6, .load1 (.v 5), none, [5]⟩, ⟨some 7, .mv (.v 1), none, [1]⟩, ⟨some 8, .call 96 [.v 6, .v 7], none, [6, 7]⟩, ⟨some 1, .mv (.v 8), none, [8]⟩] [1, 2]) (.seq (.rg [⟨some 9, .faddr 1 (.v 2), none, [2]⟩, ⟨some 10, .load1 (.v 9), none, [9]⟩, ⟨some 11, .mv (.v 1), none, [1]⟩, ⟨some 12, .call 97 [.v 10, .v 11], none, [10, 11]⟩, ⟨some 1, .mv (.v 12), none, [12]⟩] [1]) (.seq (.rg [⟨some 13, .mv (.v 1), none, [1]⟩, ⟨some 4, .mv (.v 13), none, [13]⟩] [4]) .ret)))) }
theorem k_laws_markPlanBase : okFun Go.Proofs.Tryz.prog 64 s_laws_markPlanBase = true := by kernel_rfl
def l_laws_markPlanEntryS_0 : SCode := (.seq (.seq (.rg [⟨some 6, .mv (.v 5), none, []⟩, ⟨some 7, .mv (.v 0), none, []⟩, ⟨some 8, .lenL (.v 7), none, [7]⟩, ⟨some 9, .bin .lss (.v 6) (.v 8), none, [6, 8]⟩] [0, 1, 5, 9]) (.cond (.v 9) .skip (.exit 0))) (.seq (.block 1 (.seq (.rg [⟨some 12, .mv (.v 0), none, []⟩, ⟨some 13, .mv (.v 5), none, []⟩, ⟨some 14, .mv (.v 1), none, []⟩, ⟨some 15, .call 66 [.v 14], none, [14]⟩, ⟨some 16, .iaddr 2 (.v 12) (.v 13), none, [12, 13]⟩, ⟨some 17, .faddr 0 (.v 16), none, [16]⟩, ⟨none, .store 1 (.v 17) (.v 15), none, [15, 17]⟩] [0, 1, 5]) (.seq (.rg [⟨some 18, .mv (.v 1), none, [1]⟩, ⟨some 19, .binN .add (.v 18) (.c (.int .i64 1)), none, [18]⟩, ⟨some 1, .mv (.v 19), none, [19]⟩] [0, 1, 5]) (.rg [⟨some 20, .mv (.v 0), none, []⟩, ⟨some 21, .mv (.v 5), none, []⟩, ⟨some 22, .iaddr 2 (.v 20) (.v 21), none, [20, 21]⟩, ⟨some 23, .faddr 1 (.v 22), none, [22]⟩, ⟨some 24, .load1 (.v 23), none, [23]⟩, ⟨some 25, .mv (.v 1), none, [1]⟩, ⟨some 26, .call 98 [.v 24, .v 25], none, [24, 25]⟩, ⟨some 1, .mv (.v 26), none, [26]⟩] [0, 1, 5])))) (.rg [⟨some 10, .mv (.v 5), none, [5]⟩, ⟨some 11, .binN .add (.v 10) (.c (.int .i64 1)), none, [10]⟩, ⟨some 5, .mv (.v 11), none, [11]⟩] [0, 1, 5])))
/-- laws.markPlanEntryS: function 65 -/
def s_laws_markPlanEntryS : SFun := { n := 28, res := [.t 4], body := (.seq (.rg [⟨some 4, .mv (.c (.int .i64 0)), none, [4]⟩] [0, 1]) (.seq (.seq (.rg [⟨some 5, .mv (.c (.int .i64 0)), none, []⟩] [0, 1, 5]) (.block 0 (.loop l_laws_markPlanEntryS_0))) (.seq (.rg [⟨some 27, .mv (.v 1), none, [1]⟩, ⟨some 4, .mv (.v 27), none, [27]⟩] [4]) .ret))) }
theorem k_laws_markPlanEntryS : okFun Go.Proofs.Tryz.prog 65 s_laws_markPlanEntryS = true := by kernel_rfl
def l_laws_markText_0 : SCode := (.seq (.seq (.rg [⟨some 6, .mv (.v 0), none, []⟩, ⟨some 7, .bin .gtr (.v 6) (.c (.int .i64 0)), none, [6]⟩] [0, 3, 7]) (.cond (.v 7) .skip (.exit 0))) (.block 1 (.seq (.rg [⟨some 8, .mv (.v 0), none, []⟩, ⟨some 9, .binN .rem (.v 8) (.c (.int .i64 10)), none, [8]⟩, ⟨some 10, .binN .add (.c (.int .i64 48)) (.v 9), none, [9]⟩, ⟨some 11, .conv .u8 (.v 10), none, [10]⟩, ⟨some 12, .lit 5 1 [.v 11], none, [11]⟩, ⟨some 13, .b2s (.v 12), none, [12]⟩, ⟨some 14, .mv (.v 3), none, [3]⟩, ⟨some 15, .bin .add (.v 13) (.v 14), none, [13, 14]⟩, ⟨some 3, .mv (.v 15), none, [15]⟩] [0, 3]) (.rg [⟨some 16, .mv (.v 0), none, [0]⟩, ⟨some 17, .binN .quo (.v 16) (.c (.int .i64 10)), none, [16]⟩, ⟨some 0, .mv (.v 17), none, [17]⟩] [0, 3]))))
/-- laws.markText: function 66 -/
def s_laws_markText : SFun := { n := 20, res := [.t 2], body := (.seq (.rg [⟨some 2, .mv (.c (.str ⟨#[]⟩)), none, [2]⟩] [0]) (.seq (.seq (.rg [⟨some 4, .mv (.v 0), none, []⟩, ⟨some 5, .bin .leq (.v 4) (.c (.int .i64 0)), none, [4]⟩] [0, 5]) (.cond (.v 5) (.seq (.rg [⟨some 2, .mv (.c (.str ⟨#[109, 48]⟩)), none, []⟩] [2]) .ret) .skip)) (.seq (.rg [⟨some 3, .mv (.c (.str ⟨#[]⟩)), none, []⟩] [0, 3]) (.seq (.block 0 (.loop l_laws_markText_0)) (.seq (.rg [⟨some 18, .mv (.v 3), none, [3]⟩, ⟨some 19, .bin .add (.c (.str ⟨#[109]⟩)) (.v 18), none, [18]⟩, ⟨some 2, .mv (.v 19), none, [19]⟩] [2]) .ret))))) }
theorem k_laws_markText : okFun Go.Proofs.Tryz.prog 66 s_laws_markText = true := by kernel_rfl
def l_spec_l16Stands_0 : SCode := (.seq (.seq (.rg [⟨some 8, .mv (.v 6), none, []⟩, ⟨some 9, .bin .leq (.v 8) (.c (.int .i64 4)), none, [8]⟩] [2, 3, 4, 6, 9]) (.cond (.v 9) .skip (.exit 0))) (.seq (.block 1 (.seq (.rg [⟨some 12, .loadN 2 (.v 3), none, []⟩, ⟨some 13, .mv (.v 6), none, []⟩, ⟨some 14, .call 99 [.v 12, .v 13], none, [12, 13]⟩, ⟨some 15, .bin .eql (.v 14) (.c (.str ⟨#[]⟩)), none, [14]⟩] [2, 3, 4, 6, 15]) (.cond (.v 15) (.seq (.rg [⟨some 16, .build [.str ⟨#[]⟩, .str ⟨#[]⟩, .int .i64 0, .int .i64 0, .int .i64 0, .int .i64 0, .int .i64 0, .sl 0 1 []] [], none, []⟩, ⟨none, .store 8 (.v 4) (.v 16), none, [16]⟩, ⟨some 5, .mv (.c (.bool false)), none, []⟩] [4, 5]) .ret) .skip))) (.rg [⟨some 10, .mv (.v 6), none, [6]⟩, ⟨some 11, .binN .add (.v 10) (.c (.int .i64 1)), none, [10]⟩, ⟨some 6, .mv (.v 11), none, [11]⟩] [2, 3, 4, 6])))
/-- spec.l16Stands: function 68 -/
def s_spec_l16Stands : SFun := { n := 51, res := [.cN 4 8, .t 5], body := (.seq (.rg [⟨some 2, .box 102 (.v 0), none, [0]⟩, ⟨some 3, .box 103 (.v 1), none, [1]⟩, ⟨some 4, .alloc 104 [.str ⟨#[]⟩, .str ⟨#[]⟩, .int .i64 0, .int .i64 0, .int .i64 0, .int .i64 0, .int .i64 0, .sl 0 1 []], none, []⟩, ⟨some 5, .mv (.c (.bool false)), none, [5]⟩] [2, 3, 4]) (.seq (.seq (.rg [⟨some 6, .mv (.c (.int .i64 1)), none, []⟩] [2, 3, 4, 6]) (.block 0 (.loop l_spec_l16Stands_0))) (.seq (.seq (.rg [⟨some 17, .loadN 2 (.v 3), none, []⟩, ⟨some 18, .call 99 [.v 17, .c (.int .i64 5)], none, [17]⟩, ⟨some 19, .bin .eql (.v 18) (.c (.str ⟨#[99, 108, 111, 115, 101, 100]⟩)), none, [18]⟩] [2, 3, 4, 19]) (.cond (.v 19) (.seq (.rg [⟨some 20, .build [.str ⟨#[]⟩, .str ⟨#[]⟩, .int .i64 0, .int .i64 0, .int .i64 0, .int .i64 0, .int .i64 0, .sl 0 1 []] [], none, []⟩, ⟨none, .store 8 (.v 4) (.v 20), none, [20]⟩, ⟨some 5, .mv (.c (.bool false)), none, []⟩] [4, 5]) .ret) .skip)) (.seq (.rg [⟨some 21, .loadN 2 (.v 3), none, []⟩, ⟨some 22, .call 99 [.v 21, .c (.int .i64 2)], none, [21]⟩, ⟨some 23, .call 42 [.v 22, .c (.int .u8 32)], none, [22]⟩, ⟨some 7, .mv (.v 23), none, [23]⟩] [2, 3, 4, 7]) (.seq (.rgd [⟨some 24, .faddr 0 (.v 3), none, []⟩, ⟨some 25, .load1 (.v 24), none, []⟩, ⟨some 26, .faddr 0 (.v 2), none, []⟩, ⟨some 27, .faddr 0 (.v 26), none, []⟩, ⟨some 28, .load1 (.v 27), none, []⟩, ⟨some 29, .faddr 0 (.v 2), none, []⟩, ⟨some 30, .loadN 2 (.v 29), none, []⟩, ⟨some 31, .loadN 2 (.v 3), none, []⟩, ⟨some 32, .call 99 [.v 31, .c (.int .i64 1)], none, []⟩, ⟨some 33, .call 43 [.v 30, .v 32], none, []⟩, ⟨some 34, .iaddr 3 (.v 28) (.v 33), none, []⟩, ⟨some 35, .loadN 3 (.v 34), none, []⟩, ⟨some 36, .mv (.v 7), none, []⟩, ⟨some 37, .iaddr 1 (.v 36) (.c (.int .i64 0)), none, []⟩, ⟨some 38, .load1 (.v 37), none, []⟩, ⟨some 39, .call 46 [.v 38], none, []⟩, ⟨some 40, .mv (.v 7), none, []⟩, ⟨some 41, .iaddr 1 (.v 40) (.c (.int .i64 1)), none, []⟩, ⟨some 42, .load1 (.v 41), none, []⟩, ⟨some 43, .call 46 [.v 42], none, []⟩, ⟨some 44, .loadN 2 (.v 3), none, []⟩, ⟨some 45, .call 99 [.v 44, .c (.int .i64 3)], none, []⟩, ⟨some 46, .call 46 [.v 45], none, []⟩, ⟨some 47, .loadN 2 (.v 3), none, []⟩, ⟨some 48, .call 99 [.v 47, .c (.int .i64 4)], none, []⟩, ⟨some 49, .call 42 [.v 48, .c (.int .u8 32)], none, []⟩, ⟨some 50, .build [.str ⟨#[]⟩, .str ⟨#[]⟩, .int .i64 0, .int .i64 0, .int .i64 0, .int .i64 0, .int .i64 0, .sl 0 1 []] [(0, 1, .v 25), (1, 3, .v 35), (4, 1, .v 39), (5, 1, .v 43), (6, 1, .v 46), (7, 1, .v 49)], none, []⟩, ⟨none, .store 8 (.v 4) (.v 50), none, []⟩, ⟨some 5, .mv (.c (.bool true)), none, []⟩] [4, 5] [some [], some [], some [], some [], some [], some [], some [], none, some [7, 6, 5, 4, 3, 2, 1], some [8, 7, 6, 5, 4], some [], some [], none, some [4, 3], some [5, 4], some [14, 13, 12, 11, 10, 4, 3], none, some [8, 7, 1], some [9, 8, 2], some [18, 17, 16, 15, 14, 8, 7], some [11, 10, 4, 0], some [20, 19, 18, 17, 16, 10, 9], some [21, 20, 19, 18, 17, 11, 10], some [14, 13, 7, 3, 1, 0], some [23, 22, 21, 20, 19, 13, 12], some [24, 23, 22, 21, 20, 14, 13], none, none, none]) .ret))))) }
theorem k_spec_l16Stands : okFun Go.Proofs.Tryz.prog 68 s_spec_l16Stands = true := by kernel_rfl
/-- laws.eqPlanKind: function 70 -/
def s_laws_eqPlanKind : SFun := { n := 20, res := [.t 4], body := (.seq (.rg [⟨some 2, .box 102 (.v 0), none, [0]⟩, ⟨some 3, .box 103 (.v 1), none, [1]⟩, ⟨some 4, .mv (.c (.bool false)), none, [4]⟩] [2, 3]) (.seq (.seq (.rg [⟨some 5, .faddr 0 (.v 2), none, []⟩, ⟨some 6, .load1 (.v 5), none, [5]⟩, ⟨some 7, .faddr 0 (.v 3), none, []⟩, ⟨some 8, .load1 (.v 7), none, [7]⟩, ⟨some 9, .bin .neq (.v 6) (.v 8), none, [6, 8]⟩] [2, 3, 9]) (.cond (.v 9) (.seq (.rg [⟨some 4, .mv (.c (.bool false)), none, []⟩] [4]) .ret) .skip)) (.seq (.seq (.rg [⟨some 10, .faddr 1 (.v 2), none, []⟩, ⟨some 11, .load1 (.v 10), none, [10]⟩, ⟨some 12, .faddr 1 (.v 3), none, []⟩, ⟨some 13, .load1 (.v 12), none, [12]⟩, ⟨some 14, .bin .neq (.v 11) (.v 13), none, [11, 13]⟩] [2, 3, 14]) (.cond (.v 14) (.seq (.rg [⟨some 4, .mv (.c (.bool false)), none, []⟩] [4]) .ret) .skip)) (.seq (.seq (.rg [⟨some 15, .faddr 2 (.v 2), none, [2]⟩, ⟨some 16, .load1 (.v 15), none, [15]⟩, ⟨some 17, .faddr 2 (.v 3), none, [3]⟩, ⟨some 18, .load1 (.v 17), none, [17]⟩, ⟨some 19, .bin .neq (.v 16) (.v 18), none, [16, 18]⟩] [19]) (.cond (.v 19) (.seq (.rg [⟨some 4, .mv (.c (.bool false)), none, []⟩] [4]) .ret) .skip)) (.seq (.rg [⟨some 4, .mv (.c (.bool true)), none, []⟩] [4]) .ret))))) }
theorem k_laws_eqPlanKind : okFun Go.Proofs.Tryz.prog 70 s_laws_eqPlanKind = true := by kernel_rfl
def l_laws_eqStringS_0 : SCode := (.seq (.seq (.rg [⟨some 11, .mv (.v 5), none, []⟩, ⟨some 12, .mv (.v 0), none, []⟩, ⟨some 13, .lenL (.v 12), none, [12]⟩, ⟨some 14, .bin .lss (.v 11) (.v 13), none, [11, 13]⟩] [0, 1, 5, 14]) (.cond (.v 14) .skip (.exit 0))) (.seq (.block 1 (.seq (.rgd [⟨some 17, .mv (.v 0), none, []⟩, ⟨some 18, .mv (.v 5), none, []⟩, ⟨some 19, .iaddr 1 (.v 17) (.v 18), none, []⟩, ⟨some 20, .load1 (.v 19), none, []⟩, ⟨some 21, .mv (.v 1), none, []⟩, ⟨some 22, .mv (.v 5), none, []⟩, ⟨some 23, .iaddr 1 (.v 21) (.v 22), none, []⟩, ⟨some 24, .load1 (.v 23), none, []⟩, ⟨some 25, .bin .neq (.v 20) (.v 24), none, []⟩] [0, 1, 5, 25] [none, none, none, none, none, none, none, none, none]) (.cond (.v 25) (.seq (.rg [⟨some 4, .mv (.c (.bool false)), none, []⟩] [4]) .ret) .skip))) (.rg [⟨some 15, .mv (.v 5), none, [5]⟩, ⟨some 16, .binN .add (.v 15) (.c (.int .i64 1)), none, [15]⟩, ⟨some 5, .mv (.v 16), none, [16]⟩] [0, 1, 5])))
/-- laws.eqStringS: function 71 -/
def s_laws_eqStringS : SFun := { n := 26, res := [.t 4], body := (.seq (.rg [⟨some 4, .mv (.c (.bool false)), none, [4]⟩] [0, 1]) (.seq (.seq (.rg [⟨some 6, .mv (.v 0), none, []⟩, ⟨some 7, .lenL (.v 6), none, [6]⟩, ⟨some 8, .mv (.v 1), none, []⟩, ⟨some 9, .lenL (.v 8), none, [8]⟩, ⟨some 10, .bin .neq (.v 7) (.v 9), none, [7, 9]⟩] [0, 1, 10]) (.cond (.v 10) (.seq (.rg [⟨some 4, .mv (.c (.bool false)), none, []⟩] [4]) .ret) .skip)) (.seq (.seq (.rg [⟨some 5, .mv (.c (.int .i64 0)), none, []⟩] [0, 1, 5]) (.block 0 (.loop l_laws_eqStringS_0))) (.seq (.rg [⟨some 4, .mv (.c (.bool true)), none, []⟩] [4]) .ret)))) }
theorem k_laws_eqStringS : okFun Go.Proofs.Tryz.prog 71 s_laws_eqStringS = true := by kernel_rfl
def l_laws_markStringS_0 : SCode := (.seq (.seq (.rg [⟨some 6, .mv (.v 5), none, []⟩, ⟨some 7, .mv (.v 0), none, []⟩, ⟨some 8, .lenL (.v 7), none, [7]⟩, ⟨some 9, .bin .lss (.v 6) (.v 8), none, [6, 8]⟩] [0, 1, 5, 9]) (.cond (.v 9) .skip (.exit 0))) (.seq (.block 1 (.seq (.rg [⟨some 12, .mv (.v 0), none, []⟩, ⟨some 13, .mv (.v 5), none, []⟩, ⟨some 14, .mv (.v 1), none, []⟩, ⟨some 15, .call 66 [.v 14], none, [14]⟩, ⟨some 16, .iaddr 1 (.v 12) (.v 13), none, [12, 13]⟩, ⟨none, .store 1 (.v 16) (.v 15), none, [15, 16]⟩] [0, 1, 5]) (.rg [⟨some 17, .mv (.v 1), none, [1]⟩, ⟨some 18, .binN .add (.v 17) (.c (.int .i64 1)), none, [17]⟩, ⟨some 1, .mv (.v 18), none, [18]⟩] [0, 1, 5]))) (.rg [⟨some 10, .mv (.v 5), none, [5]⟩, ⟨some 11, .binN .add (.v 10) (.c (.int .i64 1)), none, [10]⟩, ⟨some 5, .mv (.v 11), none, [11]⟩] [0, 1, 5])))
/-- laws.markStringS: function 72 -/
def s_laws_markStringS : SFun := { n := 20, res := [.t 4], body := (.seq (.rg [⟨some 4, .mv (.c (.int .i64 0)), none, [4]⟩] [0, 1]) (.seq (.seq (.rg [⟨some 5, .mv (.c (.int .i64 0)), none, []⟩] [0, 1, 5]) (.block 0 (.loop l_laws_markStringS_0))) (.seq (.rg [⟨some 19, .mv (.v 1), none, [1]⟩, ⟨some 4, .mv (.v 19), none, [19]⟩] [4]) .ret))) }
theorem k_laws_markStringS : okFun Go.Proofs.Tryz.prog 72 s_laws_markStringS = true := by kernel_rfl
def l_laws_heldStringS_0 : SCode := (.seq (.seq (.rg [⟨some 6, .mv (.v 5), none, []⟩, ⟨some 7, .mv (.v 0), none, []⟩, ⟨some 8, .lenL (.v 7), none, [7]⟩, ⟨some 9, .bin .lss (.v 6) (.v 8), none, [6, 8]⟩] [0, 1, 5, 9]) (.cond (.v 9) .skip (.exit 0))) (.seq (.block 1 (.seq (.seq (.rgd [⟨some 12, .mv (.v 0), none, []⟩, ⟨some 13, .mv (.v 5), none, []⟩, ⟨some 14, .iaddr 1 (.v 12) (.v 13), none, []⟩, ⟨some 15, .load1 (.v 14), none, []⟩, ⟨some 16, .mv (.v 1), none, []⟩, ⟨some 17, .call 66 [.v 16], none, []⟩, ⟨some 18, .bin .neq (.v 15) (.v 17), none, []⟩] [0, 1, 5, 18] [none, none, some [], some [], none, some [2, 1], none]) (.cond (.v 18) (.seq (.rg [⟨some 4, .mv (.c (.int .i64 (-1))), none, []⟩] [4]) .ret) .skip)) (.rg [⟨some 19, .mv (.v 1), none, [1]⟩, ⟨some 20, .binN .add (.v 19) (.c (.int .i64 1)), none, [19]⟩, ⟨some 1, .mv (.v 20), none, [20]⟩] [0, 1, 5]))) (.rg [⟨some 10, .mv (.v 5), none, [5]⟩, ⟨some 11, .binN .add (.v 10) (.c (.int .i64 1)), none, [10]⟩, ⟨some 5, .mv (.v 11), none, [11]⟩] [0, 1, 5])))
/-- laws.heldStringS: function 73 -/
def s_laws_heldStringS : SFun := { n := 22, res := [.t 4], body := (.seq (.rg [⟨some 4, .mv (.c (.int .i64 0)), none, [4]⟩] [0, 1]) (.seq (.seq (.rg [⟨some 5, .mv (.c (.int .i64 0)), none, []⟩] [0, 1, 5]) (.block 0 (.loop l_laws_heldStringS_0))) (.seq (.rg [⟨some 21, .mv (.v 1), none, [1]⟩, ⟨some 4, .mv (.v 21), none, [21]⟩] [4]) .ret))) }
theorem k_laws_heldStringS : okFun Go.Proofs.Tryz.prog 73 s_laws_heldStringS = true := by kernel_rfl
end Go.Ve

namespace Go.Ve
open Go.Proofs
set_option maxRecDepth 100000
/-- laws.szPlanKind: function 74 -/
def s_laws_szPlanKind : SFun := { n := 13, res := [.t 4], body := (.seq (.rg [⟨some 2, .box 102 (.v 0), none, [0]⟩, ⟨some 4, .mv (.c (.int .i64 0)), none, [4]⟩] [1, 2]) (.seq (.rg [⟨some 5, .mv (.v 1), none, [1]⟩, ⟨some 6, .faddr 0 (.v 2), none, [2]⟩, ⟨some 7, .load1 (.v 6), none, [6]⟩, ⟨some 8, .lenS (.v 7), none, [7]⟩, ⟨some 9, .binN .sub (.v 5) (.v 8), none, [5, 8]⟩, ⟨some 1, .mv (.v 9), none, [9]⟩] [1]) (.seq (.seq (.rg [⟨some 10, .mv (.v 1), none, []⟩, ⟨some 11, .bin .lss (.v 10) (.c (.int .i64 0)), none, [10]⟩] [1, 11]) (.cond (.v 11) (.seq (.rg [⟨some 4, .mv (.c (.int .i64 (-1))), none, []⟩] [4]) .ret) .skip)) (.seq (.rg [⟨some 12, .mv (.v 1), none, [1]⟩, ⟨some 4, .mv (.v 12), none, [12]⟩] [4]) .ret)))) }
theorem k_laws_szPlanKind : okFun Go.Proofs.Tryz.prog 74 s_laws_szPlanKind = true := by kernel_rfl
/-- laws.szPlanPoint: function 75 -/
def s_laws_szPlanPoint : SFun := { n := 13, res := [.t 4], body := (.seq (.rg [⟨some 2, .box 102 (.v 0), none, [0]⟩, ⟨some 4, .mv (.c (.int .i64 0)), none, [4]⟩] [1, 2]) (.seq (.rg [⟨some 5, .mv (.v 1), none, [1]⟩, ⟨some 6, .faddr 0 (.v 2), none, [2]⟩, ⟨some 7, .load1 (.v 6), none, [6]⟩, ⟨some 8, .lenS (.v 7), none, [7]⟩, ⟨some 9, .binN .sub (.v 5) (.v 8), none, [5, 8]⟩, ⟨some 1, .mv (.v 9), none, [9]⟩] [1]) (.seq (.seq (.rg [⟨some 10, .mv (.v 1), none, []⟩, ⟨some 11, .bin .lss (.v 10) (.c (.int .i64 0)), none, [10]⟩] [1, 11]) (.cond (.v 11) (.seq (.rg [⟨some 4, .mv (.c (.int .i64 (-1))), none, []⟩] [4]) .ret) .skip)) (.seq (.rg [⟨some 12, .mv (.v 1), none, [1]⟩, ⟨some 4, .mv (.v 12), none, [12]⟩] [4]) .ret)))) }
theorem k_laws_szPlanPoint : okFun Go.Proofs.Tryz.prog 75 s_laws_szPlanPoint = true := by kernel_rfl
/-- spec.l11KindOk: function 76 -/
def s_spec_l11KindOk : SFun := { n := 18, res := [.t 2], body := (.seq (.rg [⟨some 1, .box 101 (.v 0), none, [0]⟩, ⟨some 2, .mv (.c (.bool false)), none, [2]⟩] [1]) (.seq (.rg [⟨some 3, .faddr 0 (.v 1), none, []⟩, ⟨some 4, .load1 (.v 3), none, [3]⟩, ⟨some 5, .call 54 [.v 4], none, [4]⟩, ⟨some 6, .mv (.v 5), none, [5]⟩, ⟨some 7, .faddr 1 (.v 1), some (6, true), []⟩, ⟨some 8, .load1 (.v 7), some (6, true), [7]⟩, ⟨some 9, .faddr 2 (.v 1), some (6, true), []⟩, ⟨some 10, .load1 (.v 9), some (6, true), [9]⟩, ⟨some 11, .call 45 [.v 8, .c (.int .i64 1), .v 10], some (6, true), [8, 10]⟩, ⟨some 12, .pick (.v 6) (.v 11) (.c (.bool false)), none, [6, 11]⟩, ⟨some 13, .mv (.v 12), none, [12]⟩, ⟨some 14, .faddr 2 (.v 1), some (13, true), [1]⟩, ⟨some 15, .load1 (.v 14), some (13, true), [14]⟩, ⟨some 16, .bin .leq (.v 15) (.c (.int .i64 50)), some (13, true), [15]⟩, ⟨some 17, .pick (.v 13) (.v 16) (.c (.bool false)), none, [13, 16]⟩, ⟨some 2, .mv (.v 17), none, [17]⟩] [2]) .ret)) }
theorem k_spec_l11KindOk : okFun Go.Proofs.Tryz.prog 76 s_spec_l11KindOk = true := by kernel_rfl
/-- spec.l11PointOk: function 77 -/
def s_spec_l11PointOk : SFun := { n := 16, res := [.t 2], body := (.seq (.rg [⟨some 1, .box 101 (.v 0), none, [0]⟩, ⟨some 2, .mv (.c (.bool false)), none, [2]⟩] [1]) (.seq (.rg [⟨some 3, .faddr 0 (.v 1), none, []⟩, ⟨some 4, .load1 (.v 3), none, [3]⟩, ⟨some 5, .call 54 [.v 4], none, [4]⟩, ⟨some 6, .mv (.v 5), none, [5]⟩, ⟨some 7, .faddr 1 (.v 1), some (6, true), []⟩, ⟨some 8, .load1 (.v 7), some (6, true), [7]⟩, ⟨some 9, .call 45 [.v 8, .c (.int .i64 0), .c (.int .i64 15)], some (6, true), [8]⟩, ⟨some 10, .pick (.v 6) (.v 9) (.c (.bool false)), none, [6, 9]⟩, ⟨some 11, .mv (.v 10), none, [10]⟩, ⟨some 12, .faddr 2 (.v 1), some (11, true), [1]⟩, ⟨some 13, .load1 (.v 12), some (11, true), [12]⟩, ⟨some 14, .call 45 [.v 13, .c (.int .i64 0), .c (.int .i64 15)], some (11, true), [13]⟩, ⟨some 15, .pick (.v 11) (.v 14) (.c (.bool false)), none, [11, 14]⟩, ⟨some 2, .mv (.v 15), none, [15]⟩] [2]) .ret)) }
theorem k_spec_l11PointOk : okFun Go.Proofs.Tryz.prog 77 s_spec_l11PointOk = true := by kernel_rfl
def l_spec_l11Point_0 : SCode := (.seq (.seq (.rg [⟨some 6, .mv (.v 5), none, []⟩, ⟨some 7, .faddr 1 (.v 2), none, []⟩, ⟨some 8, .load1 (.v 7), none, [7]⟩, ⟨some 9, .lenL (.v 8), none, [8]⟩, ⟨some 10, .bin .lss (.v 6) (.v 9), none, [6, 9]⟩] [1, 2, 5, 10]) (.cond (.v 10) .skip (.exit 0))) (.seq (.block 1 (.seq (.rg [⟨some 13, .faddr 1 (.v 2), none, []⟩, ⟨some 14, .load1 (.v 13), none, [13]⟩, ⟨some 15, .mv (.v 5), none, []⟩, ⟨some 16, .iaddr 3 (.v 14) (.v 15), none, [14, 15]⟩, ⟨some 17, .faddr 0 (.v 16), none, [16]⟩, ⟨some 18, .load1 (.v 17), none, [17]⟩, ⟨some 19, .mv (.v 1), none, []⟩, ⟨some 20, .bin .eql (.v 18) (.v 19), none, [18, 19]⟩] [1, 2, 5, 20]) (.cond (.v 20) (.seq (.rg [⟨some 21, .mv (.v 5), none, [5]⟩, ⟨some 4, .mv (.v 21), none, [21]⟩] [4]) .ret) .skip))) (.rg [⟨some 11, .mv (.v 5), none, [5]⟩, ⟨some 12, .binN .add (.v 11) (.c (.int .i64 1)), none, [11]⟩, ⟨some 5, .mv (.v 12), none, [12]⟩] [1, 2, 5])))
/-- spec.l11Point: function 78 -/
def s_spec_l11Point : SFun := { n := 22, res := [.t 4], body := (.seq (.rg [⟨some 2, .box 102 (.v 0), none, [0]⟩, ⟨some 4, .mv (.c (.int .i64 0)), none, [4]⟩] [1, 2]) (.seq (.seq (.rg [⟨some 5, .mv (.c (.int .i64 0)), none, []⟩] [1, 2, 5]) (.block 0 (.loop l_spec_l11Point_0))) (.seq (.rg [⟨some 4, .mv (.c (.int .i64 (-1))), none, []⟩] [4]) .ret))) }
theorem k_spec_l11Point : okFun Go.Proofs.Tryz.prog 78 s_spec_l11Point = true := by kernel_rfl
/-- laws.toPlanKind: function 79 -/
def s_laws_toPlanKind : SFun := { n := 14, res := [.cN 2 3], body := (.seq (.rg [⟨some 1, .box 101 (.v 0), none, [0]⟩, ⟨some 2, .alloc 102 [.str ⟨#[]⟩, .int .i64 0, .int .i64 0], none, []⟩] [1, 2]) (.seq (.rg [⟨some 3, .alloc 103 [.str ⟨#[]⟩, .int .i64 0, .int .i64 0], none, []⟩] [1, 2, 3]) (.seq (.rg [⟨some 4, .faddr 0 (.v 1), none, []⟩, ⟨some 5, .load1 (.v 4), none, [4]⟩, ⟨some 6, .faddr 0 (.v 3), none, []⟩, ⟨none, .store 1 (.v 6) (.v 5), none, [5, 6]⟩] [1, 2, 3]) (.seq (.rg [⟨some 7, .faddr 1 (.v 1), none, []⟩, ⟨some 8, .load1 (.v 7), none, [7]⟩, ⟨some 9, .faddr 1 (.v 3), none, []⟩, ⟨none, .store 1 (.v 9) (.v 8), none, [8, 9]⟩] [1, 2, 3]) (.seq (.rg [⟨some 10, .faddr 2 (.v 1), none, [1]⟩, ⟨some 11, .load1 (.v 10), none, [10]⟩, ⟨some 12, .faddr 2 (.v 3), none, []⟩, ⟨none, .store 1 (.v 12) (.v 11), none, [11, 12]⟩] [2, 3]) (.seq (.rg [⟨some 13, .loadN 3 (.v 3), none, [3]⟩, ⟨none, .store 3 (.v 2) (.v 13), none, [13]⟩] [2]) .ret)))))) }
theorem k_laws_toPlanKind : okFun Go.Proofs.Tryz.prog 79 s_laws_toPlanKind = true := by kernel_rfl
/-- laws.toPlanPoint: function 80 -/
def s_laws_toPlanPoint : SFun := { n := 14, res := [.cN 2 3], body := (.seq (.rg [⟨some 1, .box 101 (.v 0), none, [0]⟩, ⟨some 2, .alloc 102 [.str ⟨#[]⟩, .int .i64 0, .int .i64 0], none, []⟩] [1, 2]) (.seq (.rg [⟨some 3, .alloc 103 [.str ⟨#[]⟩, .int .i64 0, .int .i64 0], none, []⟩] [1, 2, 3]) (.seq (.rg [⟨some 4, .faddr 0 (.v 1), none, []⟩, ⟨some 5, .load1 (.v 4), none, [4]⟩, ⟨some 6, .faddr 0 (.v 3), none, []⟩, ⟨none, .store 1 (.v 6) (.v 5), none, [5, 6]⟩] [1, 2, 3]) (.seq (.rg [⟨some 7, .faddr 1 (.v 1), none, []⟩, ⟨some 8, .load1 (.v 7), none, [7]⟩, ⟨some 9, .faddr 1 (.v 3), none, []⟩, ⟨none, .store 1 (.v 9) (.v 8), none, [8, 9]⟩] [1, 2, 3]) (.seq (.rg [⟨some 10, .faddr 2 (.v 1), none, [1]⟩, ⟨some 11, .load1 (.v 10), none, [10]⟩, ⟨some 12, .faddr 2 (.v 3), none, []⟩, ⟨none, .store 1 (.v 12) (.v 11), none, [11, 12]⟩] [2, 3]) (.seq (.rg [⟨some 13, .loadN 3 (.v 3), none, [3]⟩, ⟨none, .store 3 (.v 2) (.v 13), none, [13]⟩] [2]) .ret)))))) }
theorem k_laws_toPlanPoint : okFun Go.Proofs.Tryz.prog 80 s_laws_toPlanPoint = true := by kernel_rfl
/-- impl.kindOk: function 81 -/
def s_impl_kindOk : SFun := { n := 23, res := [.t 2], body := (.seq (.rg [⟨some 1, .box 101 (.v 0), none, [0]⟩, ⟨some 2, .mv (.c (.bool false)), none, [2]⟩] [1]) (.seq (.rg [⟨some 3, .faddr 0 (.v 1), none, []⟩, ⟨some 4, .load1 (.v 3), none, [3]⟩, ⟨some 5, .call 90 [.v 4], none, [4]⟩, ⟨some 6, .mv (.v 5), none, [5]⟩, ⟨some 7, .faddr 1 (.v 1), some (6, true), []⟩, ⟨some 8, .load1 (.v 7), some (6, true), [7]⟩, ⟨some 9, .bin .leq (.c (.int .i64 1)) (.v 8), some (6, true), [8]⟩, ⟨some 10, .pick (.v 6) (.v 9) (.c (.bool false)), none, [6, 9]⟩, ⟨some 11, .mv (.v 10), none, [10]⟩, ⟨some 12, .faddr 1 (.v 1), some (11, true), []⟩, ⟨some 13, .load1 (.v 12), some (11, true), [12]⟩, ⟨some 14, .faddr 2 (.v 1), some (11, true), []⟩, ⟨some 15, .load1 (.v 14), some (11, true), [14]⟩, ⟨some 16, .bin .leq (.v 13) (.v 15), some (11, true), [13, 15]⟩, ⟨some 17, .pick (.v 11) (.v 16) (.c (.bool false)), none, [11, 16]⟩, ⟨some 18, .mv (.v 17), none, [17]⟩, ⟨some 19, .faddr 2 (.v 1), some (18, true), [1]⟩, ⟨some 20, .load1 (.v 19), some (18, true), [19]⟩, ⟨some 21, .bin .leq (.v 20) (.c (.int .i64 50)), some (18, true), [20]⟩, ⟨some 22, .pick (.v 18) (.v 21) (.c (.bool false)), none, [18, 21]⟩, ⟨some 2, .mv (.v 22), none, [22]⟩] [2]) .ret)) }
theorem k_impl_kindOk : okFun Go.Proofs.Tryz.prog 81 s_impl_kindOk = true := by kernel_rfl
/-- impl.pointOk: function 82 -/
def s_impl_pointOk : SFun := { n := 16, res := [.t 2], body := (.seq (.rg [⟨some 1, .box 101 (.v 0), none, [0]⟩, ⟨some 2, .mv (.c (.bool false)), none, [2]⟩] [1]) (.seq (.rg [⟨some 3, .faddr 0 (.v 1), none, []⟩, ⟨some 4, .load1 (.v 3), none, [3]⟩, ⟨some 5, .call 90 [.v 4], none, [4]⟩, ⟨some 6, .mv (.v 5), none, [5]⟩, ⟨some 7, .faddr 1 (.v 1), some (6, true), []⟩, ⟨some 8, .load1 (.v 7), some (6, true), [7]⟩, ⟨some 9, .call 87 [.v 8, .c (.int .i64 0), .c (.int .i64 15)], some (6, true), [8]⟩, ⟨some 10, .pick (.v 6) (.v 9) (.c (.bool false)), none, [6, 9]⟩, ⟨some 11, .mv (.v 10), none, [10]⟩, ⟨some 12, .faddr 2 (.v 1), some (11, true), [1]⟩, ⟨some 13, .load1 (.v 12), some (11, true), [12]⟩, ⟨some 14, .call 87 [.v 13, .c (.int .i64 0), .c (.int .i64 15)], some (11, true), [13]⟩, ⟨some 15, .pick (.v 11) (.v 14) (.c (.bool false)), none, [11, 14]⟩, ⟨some 2, .mv (.v 15), none, [15]⟩] [2]) .ret)) }
theorem k_impl_pointOk : okFun Go.Proofs.Tryz.prog 82 s_impl_pointOk = true := by kernel_rfl
/-- strings.Split: function 83 -/
def s_strings_Split : SFun := { n := 8, res := [.t 4], body := (.seq (.rg [⟨some 4, .mv (.c (.sl 0 1 [])), none, [4]⟩] [0, 1]) (.seq (.rg [⟨some 5, .mv (.v 0), none, [0]⟩, ⟨some 6, .mv (.v 1), none, [1]⟩, ⟨some 7, .call 101 [.v 5, .v 6, .c (.int .i64 0), .c (.int .i64 (-1))], none, [5, 6]⟩, ⟨some 4, .mv (.v 7), none, [7]⟩] [4]) .ret)) }
theorem k_strings_Split : okFun Go.Proofs.Tryz.prog 83 s_strings_Split = true := by kernel_rfl
/-- impl.PlanBase).kind: function 84 -/
def s_impl_PlanBase_kind : SFun := { n := 9, res := [.t 4], body := (.seq (.rg [⟨some 2, .box 102 (.v 0), none, [0]⟩, ⟨some 3, .box 103 (.v 1), none, [1]⟩, ⟨some 4, .mv (.c (.int .i64 0)), none, [4]⟩] [2, 3]) (.seq (.rg [⟨some 5, .faddr 0 (.v 2), none, [2]⟩, ⟨some 6, .load1 (.v 5), none, [5]⟩, ⟨some 7, .clos 103 [.v 3], none, [3]⟩, ⟨some 8, .call 102 [.v 6, .v 7], none, [6, 7]⟩, ⟨some 4, .mv (.v 8), none, [8]⟩] [4]) .ret)) }
theorem k_impl_PlanBase_kind : okFun Go.Proofs.Tryz.prog 84 s_impl_PlanBase_kind = true := by kernel_rfl
def l_impl_decimals_0 : SCode := (.seq (.rg [⟨some 14, .bin .lss (.v 13) (.v 12), none, []⟩] [1, 6, 11, 12, 13, 14]) (.seq (.cond (.v 14) .skip (.exit 0)) (.seq (.block 1 (.seq (.rg [⟨some 15, .iaddr 1 (.v 11) (.v 13), none, []⟩, ⟨some 16, .load1 (.v 15), none, [15]⟩, ⟨some 8, .mv (.v 16), none, [16]⟩] [1, 6, 8, 11, 12, 13]) (.seq (.rg [⟨some 18, .mv (.v 8), none, [8]⟩, ⟨some 19, .mv (.v 1), none, []⟩, ⟨some 20, .call 86 [.v 18, .v 19], none, [18, 19]⟩, ⟨some 17, .mv (.v 20), none, [20]⟩, ⟨some 21, .ext 0 (.v 17), none, []⟩, ⟨some 22, .ext 1 (.v 17), none, [17]⟩, ⟨some 9, .mv (.v 21), none, [21]⟩, ⟨some 10, .mv (.v 22), none, [22]⟩] [1, 6, 9, 10, 11, 12, 13]) (.seq (.seq (.rg [⟨some 23, .mv (.v 10), none, [10]⟩, ⟨some 24, .not (.v 23), none, [23]⟩] [1, 6, 9, 11, 12, 13, 24]) (.cond (.v 24) (.seq (.rg [⟨some 4, .mv (.c (.sl 0 1 [])), none, []⟩, ⟨some 5, .mv (.c (.bool false)), none, []⟩] [4, 5]) (.gh (.frzE 4) .ret)) .skip)) (.rg [⟨some 25, .mv (.v 6), none, [6]⟩, ⟨some 26, .mv (.v 9), none, [9]⟩, ⟨some 27, .lit 3 1 [.v 26], none, [26]⟩, ⟨some 28, .app 106 3 1 (.v 25) (.v 27), none, [25, 27]⟩, ⟨some 6, .mv (.v 28), none, [28]⟩] [1, 6, 11, 12, 13]))))) (.rg [⟨some 29, .binN .add (.v 13) (.c (.int .i64 1)), none, [13]⟩, ⟨some 13, .mv (.v 29), none, [29]⟩] [1, 6, 11, 12, 13]))))
/-- impl.decimals: function 85 -/
def s_impl_decimals : SFun := { n := 31, res := [.t 4, .t 5], body := (.seq (.rg [⟨some 4, .mv (.c (.sl 0 1 [])), none, [4]⟩, ⟨some 5, .mv (.c (.bool false)), none, [5]⟩] [0, 1]) (.seq (.rg [⟨some 6, .newnil 106 3 1, none, []⟩] [0, 1, 6]) (.seq (.seq (.rg [⟨some 11, .mv (.v 0), none, [0]⟩, ⟨some 12, .lenL (.v 11), none, []⟩, ⟨some 13, .mv (.c (.int .i64 0)), none, []⟩] [1, 6, 11, 12, 13]) (.block 0 (.loop l_impl_decimals_0))) (.seq (.rg [⟨some 30, .mv (.v 6), none, [6]⟩, ⟨some 4, .mv (.v 30), none, [30]⟩, ⟨some 5, .mv (.c (.bool true)), none, []⟩] [4, 5]) (.gh (.frzE 4) .ret))))) }
theorem k_impl_decimals : okFun Go.Proofs.Tryz.prog 85 s_impl_decimals = true := by kernel_rfl
/-- impl.decimal: function 86 -/
def s_impl_decimal : SFun := { n := 36, res := [.t 4, .t 5], body := (.seq (.rg [⟨some 4, .mv (.c (.int .i64 0)), none, [4]⟩, ⟨some 5, .mv (.c (.bool false)), none, [5]⟩] [0, 1]) (.seq (.seq (.rg [⟨some 8, .mv (.v 0), none, []⟩, ⟨some 9, .bin .eql (.v 8) (.c (.str ⟨#[]⟩)), none, [8]⟩, ⟨some 10, .mv (.v 9), none, [9]⟩, ⟨some 11, .mv (.v 0), some (10, false), []⟩, ⟨some 12, .lenS (.v 11), some (10, false), [11]⟩, ⟨some 13, .mv (.v 1), some (10, false), [1]⟩, ⟨some 14, .bin .gtr (.v 12) (.v 13), some (10, false), [12, 13]⟩, ⟨some 15, .pick (.v 10) (.c (.bool true)) (.v 14), none, [10, 14]⟩, ⟨some 16, .mv (.v 15), none, [15]⟩, ⟨some 17, .mv (.v 0), some (16, false), []⟩, ⟨some 18, .call 104 [.v 17, .c (.str ⟨#[48, 49, 50, 51, 52, 53, 54, 55, 56, 57]⟩)], some (16, false), [17]⟩, ⟨some 19, .bin .neq (.v 18) (.c (.str ⟨#[]⟩)), some (16, false), [18]⟩, ⟨some 20, .pick (.v 16) (.c (.bool true)) (.v 19), none, [16, 19]⟩, ⟨some 21, .mv (.v 20), none, [20]⟩, ⟨some 22, .mv (.v 0), some (21, false), []⟩, ⟨some 23, .istr (.v 22) (.c (.int .i64 0)), some (21, false), [22]⟩, ⟨some 24, .bin .eql (.v 23) (.c (.int .u8 48)), some (21, false), [23]⟩, ⟨some 25, .mv (.v 24), some (21, false), [24]⟩, ⟨some 26, .mv (.v 0), some (25, true), []⟩, ⟨some 27, .bin .neq (.v 26) (.c (.str ⟨#[48]⟩)), some (25, true), [26]⟩, ⟨some 28, .pick (.v 25) (.v 27) (.c (.bool false)), some (21, false), [25, 27]⟩, ⟨some 29, .pick (.v 21) (.c (.bool true)) (.v 28), none, [21, 28]⟩] [0, 29]) (.cond (.v 29) (.seq (.rg [⟨some 4, .mv (.c (.int .i64 0)), none, []⟩, ⟨some 5, .mv (.c (.bool false)), none, []⟩] [4, 5]) .ret) .skip)) (.seq (.rg [⟨some 31, .mv (.v 0), none, [0]⟩, ⟨some 32, .call 105 [.v 31], none, [31]⟩, ⟨some 30, .mv (.v 32), none, [32]⟩, ⟨some 33, .ext 0 (.v 30), none, []⟩, ⟨some 34, .ext 1 (.v 30), none, [30]⟩, ⟨some 6, .mv (.v 33), none, [33]⟩, ⟨some 7, .mv (.v 34), none, [7, 34]⟩] [6]) (.seq (.rg [⟨some 35, .mv (.v 6), none, [6]⟩, ⟨some 4, .mv (.v 35), none, [35]⟩, ⟨some 5, .mv (.c (.bool true)), none, []⟩] [4, 5]) .ret)))) }
theorem k_impl_decimal : okFun Go.Proofs.Tryz.prog 86 s_impl_decimal = true := by kernel_rfl
/-- impl.within: function 87 -/
def s_impl_within : SFun := { n := 15, res := [.t 6], body := (.seq (.rg [⟨some 6, .mv (.c (.bool false)), none, [6]⟩] [0, 1, 2]) (.seq (.rg [⟨some 7, .mv (.v 0), none, []⟩, ⟨some 8, .mv (.v 1), none, [1]⟩, ⟨some 9, .bin .geq (.v 7) (.v 8), none, [7, 8]⟩, ⟨some 10, .mv (.v 9), none, [9]⟩, ⟨some 11, .mv (.v 0), some (10, true), [0]⟩, ⟨some 12, .mv (.v 2), some (10, true), [2]⟩, ⟨some 13, .bin .leq (.v 11) (.v 12), some (10, true), [11, 12]⟩, ⟨some 14, .pick (.v 10) (.v 13) (.c (.bool false)), none, [10, 13]⟩, ⟨some 6, .mv (.v 14), none, [14]⟩] [6]) .ret)) }
theorem k_impl_within : okFun Go.Proofs.Tryz.prog 87 s_impl_within = true := by kernel_rfl
def l_impl_PlanBase_route_0 : SCode := (.seq (.rg [⟨some 17, .bin .lss (.v 16) (.v 15), none, []⟩] [1, 2, 6, 14, 15, 16, 17]) (.seq (.cond (.v 17) .skip (.exit 0)) (.seq (.block 1 (.seq (.rg [⟨some 18, .mv (.v 16), none, []⟩, ⟨some 19, .iaddr 1 (.v 14) (.v 16), none, []⟩, ⟨some 20, .load1 (.v 19), none, [19]⟩, ⟨some 7, .mv (.v 18), none, [18]⟩, ⟨some 8, .mv (.v 20), none, [20]⟩] [1, 2, 6, 7, 8, 14, 15, 16]) (.seq (.rg [⟨some 21, .loadN 2 (.v 2), none, []⟩, ⟨some 22, .mv (.v 8), none, []⟩, ⟨some 23, .call 106 [.v 21, .v 22], none, [21, 22]⟩, ⟨some 9, .mv (.v 23), none, [23]⟩] [1, 2, 6, 7, 8, 9, 14, 15, 16]) (.seq (.seq (.rg [⟨some 24, .mv (.v 9), none, []⟩, ⟨some 25, .bin .lss (.v 24) (.c (.int .i64 0)), none, [24]⟩, ⟨some 26, .mv (.v 25), none, [25]⟩, ⟨some 27, .mv (.v 7), some (26, false), []⟩, ⟨some 28, .bin .gtr (.v 27) (.c (.int .i64 0)), some (26, false), [27]⟩, ⟨some 29, .mv (.v 28), some (26, false), [28]⟩, ⟨some 30, .mv (.v 8), some (29, true), [8]⟩, ⟨some 31, .mv (.v 1), some (29, true), []⟩, ⟨some 32, .mv (.v 7), some (29, true), [7]⟩, ⟨some 33, .binN .sub (.v 32) (.c (.int .i64 1)), some (29, true), [32]⟩, ⟨some 34, .iaddr 1 (.v 31) (.v 33), some (29, true), [31, 33]⟩, ⟨some 35, .load1 (.v 34), some (29, true), [34]⟩, ⟨some 36, .bin .eql (.v 30) (.v 35), some (29, true), [30, 35]⟩, ⟨some 37, .pick (.v 29) (.v 36) (.c (.bool false)), some (26, false), [29, 36]⟩, ⟨some 38, .pick (.v 26) (.c (.bool true)) (.v 37), none, [26, 37]⟩] [1, 2, 6, 9, 14, 15, 16, 38]) (.cond (.v 38) (.seq (.rg [⟨some 4, .mv (.c (.sl 0 3 [])), none, []⟩, ⟨some 5, .mv (.c (.bool false)), none, []⟩] [4, 5]) (.gh (.frzE 4) .ret)) .skip)) (.rg [⟨some 39, .mv (.v 6), none, [6]⟩, ⟨some 40, .faddr 1 (.v 2), none, []⟩, ⟨some 41, .load1 (.v 40), none, [40]⟩, ⟨some 42, .mv (.v 9), none, [9]⟩, ⟨some 43, .iaddr 3 (.v 41) (.v 42), none, [41, 42]⟩, ⟨some 44, .loadN 3 (.v 43), none, [43]⟩, ⟨some 45, .lit 119 3 [.v 44], none, [44]⟩, ⟨some 46, .app 106 119 3 (.v 39) (.v 45), none, [39, 45]⟩, ⟨some 6, .mv (.v 46), none, [46]⟩] [1, 2, 6, 14, 15, 16]))))) (.rg [⟨some 47, .binN .add (.v 16) (.c (.int .i64 1)), none, [16]⟩, ⟨some 16, .mv (.v 47), none, [47]⟩] [1, 2, 6, 14, 15, 16]))))
/-- impl.PlanBase).route: function 88 -/
def s_impl_PlanBase_route : SFun := { n := 49, res := [.t 4, .t 5], body := (.seq (.rg [⟨some 2, .box 102 (.v 0), none, [0]⟩, ⟨some 4, .mv (.c (.sl 0 3 [])), none, [4]⟩, ⟨some 5, .mv (.c (.bool false)), none, [5]⟩] [1, 2]) (.seq (.seq (.rg [⟨some 10, .mv (.v 1), none, []⟩, ⟨some 11, .lenL (.v 10), none, [10]⟩, ⟨some 12, .call 87 [.v 11, .c (.int .i64 2), .c (.int .i64 8)], none, [11]⟩, ⟨some 13, .not (.v 12), none, [12]⟩] [1, 2, 13]) (.cond (.v 13) (.seq (.rg [⟨some 4, .mv (.c (.sl 0 3 [])), none, []⟩, ⟨some 5, .mv (.c (.bool false)), none, []⟩] [4, 5]) (.gh (.frzE 4) .ret)) .skip)) (.seq (.rg [⟨some 6, .newnil 106 119 3, none, []⟩] [1, 2, 6]) (.seq (.seq (.rg [⟨some 14, .mv (.v 1), none, []⟩, ⟨some 15, .lenL (.v 14), none, []⟩, ⟨some 16, .mv (.c (.int .i64 0)), none, []⟩] [1, 2, 6, 14, 15, 16]) (.block 0 (.loop l_impl_PlanBase_route_0))) (.seq (.rg [⟨some 48, .mv (.v 6), none, [6]⟩, ⟨some 4, .mv (.v 48), none, [48]⟩, ⟨some 5, .mv (.c (.bool true)), none, []⟩] [4, 5]) (.gh (.frzE 4) .ret)))))) }
theorem k_impl_PlanBase_route : okFun Go.Proofs.Tryz.prog 88 s_impl_PlanBase_route = true := by kernel_rfl
/-- laws.eqPlanPoint: function 89 -/
def s_laws_eqPlanPoint : SFun := { n := 20, res := [.t 4], body := (.seq (.rg [⟨some 2, .box 102 (.v 0), none, [0]⟩, ⟨some 3, .box 103 (.v 1), none, [1]⟩, ⟨some 4, .mv (.c (.bool false)), none, [4]⟩] [2, 3]) (.seq (.seq (.rg [⟨some 5, .faddr 0 (.v 2), none, []⟩, ⟨some 6, .load1 (.v 5), none, [5]⟩, ⟨some 7, .faddr 0 (.v 3), none, []⟩, ⟨some 8, .load1 (.v 7), none, [7]⟩, ⟨some 9, .bin .neq (.v 6) (.v 8), none, [6, 8]⟩] [2, 3, 9]) (.cond (.v 9) (.seq (.rg [⟨some 4, .mv (.c (.bool false)), none, []⟩] [4]) .ret) .skip)) (.seq (.seq (.rg [⟨some 10, .faddr 1 (.v 2), none, []⟩, ⟨some 11, .load1 (.v 10), none, [10]⟩, ⟨some 12, .faddr 1 (.v 3), none, []⟩, ⟨some 13, .load1 (.v 12), none, [12]⟩, ⟨some 14, .bin .neq (.v 11) (.v 13), none, [11, 13]⟩] [2, 3, 14]) (.cond (.v 14) (.seq (.rg [⟨some 4, .mv (.c (.bool false)), none, []⟩] [4]) .ret) .skip)) (.seq (.seq (.rg [⟨some 15, .faddr 2 (.v 2), none, [2]⟩, ⟨some 16, .load1 (.v 15), none, [15]⟩, ⟨some 17, .faddr 2 (.v 3), none, [3]⟩, ⟨some 18, .load1 (.v 17), none, [17]⟩, ⟨some 19, .bin .neq (.v 16) (.v 18), none, [16, 18]⟩] [19]) (.cond (.v 19) (.seq (.rg [⟨some 4, .mv (.c (.bool false)), none, []⟩] [4]) .ret) .skip)) (.seq (.rg [⟨some 4, .mv (.c (.bool true)), none, []⟩] [4]) .ret))))) }
theorem k_laws_eqPlanPoint : okFun Go.Proofs.Tryz.prog 89 s_laws_eqPlanPoint = true := by kernel_rfl
def l_impl_isName_0 : SCode := (.seq (.seq (.rg [⟨some 13, .mv (.v 3), none, []⟩, ⟨some 14, .mv (.v 0), none, []⟩, ⟨some 15, .lenS (.v 14), none, [14]⟩, ⟨some 16, .bin .lss (.v 13) (.v 15), none, [13, 15]⟩] [0, 3, 16]) (.cond (.v 16) .skip (.exit 0))) (.seq (.block 1 (.seq (.rg [⟨some 19, .mv (.v 0), none, []⟩, ⟨some 20, .mv (.v 3), none, []⟩, ⟨some 21, .istr (.v 19) (.v 20), none, [19, 20]⟩, ⟨some 4, .mv (.v 21), none, [21]⟩] [0, 3, 4]) (.seq (.rg [⟨some 22, .mv (.v 4), none, []⟩, ⟨some 23, .bin .geq (.v 22) (.c (.int .u8 97)), none, [22]⟩, ⟨some 24, .mv (.v 23), none, [23]⟩, ⟨some 25, .mv (.v 4), some (24, true), []⟩, ⟨some 26, .bin .leq (.v 25) (.c (.int .u8 122)), some (24, true), [25]⟩, ⟨some 27, .pick (.v 24) (.v 26) (.c (.bool false)), none, [24, 26]⟩, ⟨some 28, .mv (.v 27), none, [27]⟩, ⟨some 29, .mv (.v 4), some (28, false), []⟩, ⟨some 30, .bin .geq (.v 29) (.c (.int .u8 48)), some (28, false), [29]⟩, ⟨some 31, .mv (.v 30), some (28, false), [30]⟩, ⟨some 32, .mv (.v 4), some (31, true), []⟩, ⟨some 33, .bin .leq (.v 32) (.c (.int .u8 57)), some (31, true), [32]⟩, ⟨some 34, .pick (.v 31) (.v 33) (.c (.bool false)), some (28, false), [31, 33]⟩, ⟨some 35, .pick (.v 28) (.c (.bool true)) (.v 34), none, [28, 34]⟩, ⟨some 36, .mv (.v 35), none, [35]⟩, ⟨some 37, .mv (.v 4), some (36, false), [4]⟩, ⟨some 38, .bin .eql (.v 37) (.c (.int .u8 45)), some (36, false), [37]⟩, ⟨some 39, .pick (.v 36) (.c (.bool true)) (.v 38), none, [36, 38]⟩, ⟨some 40, .not (.v 39), none, [39]⟩] [0, 3, 40]) (.cond (.v 40) (.seq (.rg [⟨some 2, .mv (.c (.bool false)), none, []⟩] [2]) .ret) .skip)))) (.rg [⟨some 17, .mv (.v 3), none, [3]⟩, ⟨some 18, .binN .add (.v 17) (.c (.int .i64 1)), none, [17]⟩, ⟨some 3, .mv (.v 18), none, [18]⟩] [0, 3])))
/-- impl.isName: function 90 -/
def s_impl_isName : SFun := { n := 41, res := [.t 2], body := (.seq (.rg [⟨some 2, .mv (.c (.bool false)), none, [2]⟩] [0]) (.seq (.seq (.rg [⟨some 5, .mv (.v 0), none, []⟩, ⟨some 6, .lenS (.v 5), none, [5]⟩, ⟨some 7, .bin .lss (.v 6) (.c (.int .i64 1)), none, [6]⟩, ⟨some 8, .mv (.v 7), none, [7]⟩, ⟨some 9, .mv (.v 0), some (8, false), []⟩, ⟨some 10, .lenS (.v 9), some (8, false), [9]⟩, ⟨some 11, .bin .gtr (.v 10) (.c (.int .i64 8)), some (8, false), [10]⟩, ⟨some 12, .pick (.v 8) (.c (.bool true)) (.v 11), none, [8, 11]⟩] [0, 12]) (.cond (.v 12) (.seq (.rg [⟨some 2, .mv (.c (.bool false)), none, []⟩] [2]) .ret) .skip)) (.seq (.seq (.rg [⟨some 3, .mv (.c (.int .i64 0)), none, []⟩] [0, 3]) (.block 0 (.loop l_impl_isName_0))) (.seq (.rg [⟨some 2, .mv (.c (.bool true)), none, []⟩] [2]) .ret)))) }
theorem k_impl_isName : okFun Go.Proofs.Tryz.prog 90 s_impl_isName = true := by kernel_rfl
/-- laws.szPlanEntry: function 91 -/
def s_laws_szPlanEntry : SFun := { n := 19, res := [.t 4], body := (.seq (.rg [⟨some 2, .box 102 (.v 0), none, [0]⟩, ⟨some 4, .mv (.c (.int .i64 0)), none, [4]⟩] [1, 2]) (.seq (.rg [⟨some 5, .mv (.v 1), none, [1]⟩, ⟨some 6, .faddr 0 (.v 2), none, []⟩, ⟨some 7, .load1 (.v 6), none, [6]⟩, ⟨some 8, .lenS (.v 7), none, [7]⟩, ⟨some 9, .binN .sub (.v 5) (.v 8), none, [5, 8]⟩, ⟨some 1, .mv (.v 9), none, [9]⟩] [1, 2]) (.seq (.seq (.rg [⟨some 10, .mv (.v 1), none, []⟩, ⟨some 11, .bin .lss (.v 10) (.c (.int .i64 0)), none, [10]⟩] [1, 2, 11]) (.cond (.v 11) (.seq (.rg [⟨some 4, .mv (.c (.int .i64 (-1))), none, []⟩] [4]) .ret) .skip)) (.seq (.rg [⟨some 12, .faddr 1 (.v 2), none, [2]⟩, ⟨some 13, .load1 (.v 12), none, [12]⟩, ⟨some 14, .mv (.v 1), none, [1]⟩, ⟨some 15, .call 107 [.v 13, .v 14], none, [13, 14]⟩, ⟨some 1, .mv (.v 15), none, [15]⟩] [1]) (.seq (.seq (.rg [⟨some 16, .mv (.v 1), none, []⟩, ⟨some 17, .bin .lss (.v 16) (.c (.int .i64 0)), none, [16]⟩] [1, 17]) (.cond (.v 17) (.seq (.rg [⟨some 4, .mv (.c (.int .i64 (-1))), none, []⟩] [4]) .ret) .skip)) (.seq (.rg [⟨some 18, .mv (.v 1), none, [1]⟩, ⟨some 4, .mv (.v 18), none, [18]⟩] [4]) .ret)))))) }
theorem k_laws_szPlanEntry : okFun Go.Proofs.Tryz.prog 91 s_laws_szPlanEntry = true := by kernel_rfl
/-- laws.toPlanEntry: function 92 -/
def s_laws_toPlanEntry : SFun := { n := 12, res := [.cN 2 2], body := (.seq (.rg [⟨some 1, .box 101 (.v 0), none, [0]⟩, ⟨some 2, .alloc 102 [.str ⟨#[]⟩, .sl 0 3 []], none, []⟩] [1, 2]) (.seq (.rg [⟨some 3, .alloc 103 [.str ⟨#[]⟩, .sl 0 3 []], none, []⟩] [1, 2, 3]) (.seq (.rg [⟨some 4, .faddr 0 (.v 1), none, []⟩, ⟨some 5, .load1 (.v 4), none, [4]⟩, ⟨some 6, .faddr 0 (.v 3), none, []⟩, ⟨none, .store 1 (.v 6) (.v 5), none, [5, 6]⟩] [1, 2, 3]) (.seq (.rg [⟨some 7, .faddr 1 (.v 1), none, [1]⟩, ⟨some 8, .load1 (.v 7), none, [7]⟩, ⟨some 9, .call 108 [.v 8], none, [8]⟩, ⟨some 10, .faddr 1 (.v 3), none, []⟩, ⟨none, .store 1 (.v 10) (.v 9), none, [9, 10]⟩] [2, 3]) (.seq (.rg [⟨some 11, .loadN 2 (.v 3), none, [3]⟩, ⟨none, .store 2 (.v 2) (.v 11), none, [11]⟩] [2]) .ret))))) }
theorem k_laws_toPlanEntry : okFun Go.Proofs.Tryz.prog 92 s_laws_toPlanEntry = true := by kernel_rfl
/-- laws.eqPlanEntry: function 93 -/
def s_laws_eqPlanEntry : SFun := { n := 16, res := [.t 4], body := (.seq (.rg [⟨some 2, .box 102 (.v 0), none, [0]⟩, ⟨some 3, .box 103 (.v 1), none, [1]⟩, ⟨some 4, .mv (.c (.bool false)), none, [4]⟩] [2, 3]) (.seq (.seq (.rg [⟨some 5, .faddr 0 (.v 2), none, []⟩, ⟨some 6, .load1 (.v 5), none, [5]⟩, ⟨some 7, .faddr 0 (.v 3), none, []⟩, ⟨some 8, .load1 (.v 7), none, [7]⟩, ⟨some 9, .bin .neq (.v 6) (.v 8), none, [6, 8]⟩] [2, 3, 9]) (.cond (.v 9) (.seq (.rg [⟨some 4, .mv (.c (.bool false)), none, []⟩] [4]) .ret) .skip)) (.seq (.seq (.rg [⟨some 10, .faddr 1 (.v 2), none, [2]⟩, ⟨some 11, .load1 (.v 10), none, [10]⟩, ⟨some 12, .faddr 1 (.v 3), none, [3]⟩, ⟨some 13, .load1 (.v 12), none, [12]⟩, ⟨some 14, .call 109 [.v 11, .v 13], none, [11, 13]⟩, ⟨some 15, .not (.v 14), none, [14]⟩] [15]) (.cond (.v 15) (.seq (.rg [⟨some 4, .mv (.c (.bool false)), none, []⟩] [4]) .ret) .skip)) (.seq (.rg [⟨some 4, .mv (.c (.bool true)), none, []⟩] [4]) .ret)))) }
theorem k_laws_eqPlanEntry : okFun Go.Proofs.Tryz.prog 93 s_laws_eqPlanEntry = true := by kernel_rfl
/-- impl.PlanBook).entry: function 95 -/
def s_impl_PlanBook_entry : SFun := { n := 9, res := [.t 4], body := (.seq (.rg [⟨some 2, .box 102 (.v 0), none, [0]⟩, ⟨some 3, .box 103 (.v 1), none, [1]⟩, ⟨some 4, .mv (.c (.int .i64 0)), none, [4]⟩] [2, 3]) (.seq (.rg [⟨some 5, .faddr 2 (.v 2), none, [2]⟩, ⟨some 6, .load1 (.v 5), none, [5]⟩, ⟨some 7, .clos 111 [.v 3], none, [3]⟩, ⟨some 8, .call 110 [.v 6, .v 7], none, [6, 7]⟩, ⟨some 4, .mv (.v 8), none, [8]⟩] [4]) .ret)) }
theorem k_impl_PlanBook_entry : okFun Go.Proofs.Tryz.prog 95 s_impl_PlanBook_entry = true := by kernel_rfl
def l_laws_markPlanKindS_0 : SCode := (.seq (.seq (.rg [⟨some 6, .mv (.v 5), none, []⟩, ⟨some 7, .mv (.v 0), none, []⟩, ⟨some 8, .lenL (.v 7), none, [7]⟩, ⟨some 9, .bin .lss (.v 6) (.v 8), none, [6, 8]⟩] [0, 1, 5, 9]) (.cond (.v 9) .skip (.exit 0))) (.seq (.block 1 (.seq (.rg [⟨some 12, .mv (.v 0), none, []⟩, ⟨some 13, .mv (.v 5), none, []⟩, ⟨some 14, .mv (.v 1), none, []⟩, ⟨some 15, .call 66 [.v 14], none, [14]⟩, ⟨some 16, .iaddr 3 (.v 12) (.v 13), none, [12, 13]⟩, ⟨some 17, .faddr 0 (.v 16), none, [16]⟩, ⟨none, .store 1 (.v 17) (.v 15), none, [15, 17]⟩] [0, 1, 5]) (.seq (.rg [⟨some 18, .mv (.v 1), none, [1]⟩, ⟨some 19, .binN .add (.v 18) (.c (.int .i64 1)), none, [18]⟩, ⟨some 1, .mv (.v 19), none, [19]⟩] [0, 1, 5]) (.seq (.rg [⟨some 20, .mv (.v 0), none, []⟩, ⟨some 21, .mv (.v 5), none, []⟩, ⟨some 22, .mv (.v 1), none, []⟩, ⟨some 23, .iaddr 3 (.v 20) (.v 21), none, [20, 21]⟩, ⟨some 24, .faddr 1 (.v 23), none, [23]⟩, ⟨none, .store 1 (.v 24) (.v 22), none, [22, 24]⟩] [0, 1, 5]) (.seq (.rg [⟨some 25, .mv (.v 1), none, [1]⟩, ⟨some 26, .binN .add (.v 25) (.c (.int .i64 1)), none, [25]⟩, ⟨some 1, .mv (.v 26), none, [26]⟩] [0, 1, 5]) (.seq (.rg [⟨some 27, .mv (.v 0), none, []⟩, ⟨some 28, .mv (.v 5), none, []⟩, ⟨some 29, .mv (.v 1), none, []⟩, ⟨some 30, .iaddr 3 (.v 27) (.v 28), none, [27, 28]⟩, ⟨some 31, .faddr 2 (.v 30), none, [30]⟩, ⟨none, .store 1 (.v 31) (.v 29), none, [29, 31]⟩] [0, 1, 5]) (.rg [⟨some 32, .mv (.v 1), none, [1]⟩, ⟨some 33, .binN .add (.v 32) (.c (.int .i64 1)), none, [32]⟩, ⟨some 1, .mv (.v 33), none, [33]⟩] [0, 1, 5]))))))) (.rg [⟨some 10, .mv (.v 5), none, [5]⟩, ⟨some 11, .binN .add (.v 10) (.c (.int .i64 1)), none, [10]⟩, ⟨some 5, .mv (.v 11), none, [11]⟩] [0, 1, 5])))
/-- laws.markPlanKindS: function 96 -/
def s_laws_markPlanKindS : SFun := { n := 35, res := [.t 4], body := (.seq (.rg [⟨some 4, .mv (.c (.int .i64 0)), none, [4]⟩] [0, 1]) (.seq (.seq (.rg [⟨some 5, .mv (.c (.int .i64 0)), none, []⟩] [0, 1, 5]) (.block 0 (.loop l_laws_markPlanKindS_0))) (.seq (.rg [⟨some 34, .mv (.v 1), none, [1]⟩, ⟨some 4, .mv (.v 34), none, [34]⟩] [4]) .ret))) }
theorem k_laws_markPlanKindS : okFun Go.Proofs.Tryz.prog 96 s_laws_markPlanKindS = true := by kernel_rfl
def l_laws_markPlanPointS_0 : SCode := (.seq (.seq (.rg [⟨some 6, .mv (.v 5), none, []⟩, ⟨some 7, .mv (.v 0), none, []⟩, ⟨some 8, .lenL (.v 7), none, [7]⟩, ⟨some 9, .bin .lss (.v 6) (.v 8), none, [6, 8]⟩] [0, 1, 5, 9]) (.cond (.v 9) .skip (.exit 0))) (.seq (.block 1 (.seq (.rg [⟨some 12, .mv (.v 0), none, []⟩, ⟨some 13, .mv (.v 5), none, []⟩, ⟨some 14, .mv (.v 1), none, []⟩, ⟨some 15, .call 66 [.v 14], none, [14]⟩, ⟨some 16, .iaddr 3 (.v 12) (.v 13), none, [12, 13]⟩, ⟨some 17, .faddr 0 (.v 16), none, [16]⟩, ⟨none, .store 1 (.v 17) (.v 15), none, [15, 17]⟩] [0, 1, 5]) (.seq (.rg [⟨some 18, .mv (.v 1), none, [1]⟩, ⟨some 19, .binN .add (.v 18) (.c (.int .i64 1)), none, [18]⟩, ⟨some 1, .mv (.v 19), none, [19]⟩] [0, 1, 5]) (.seq (.rg [⟨some 20, .mv (.v 0), none, []⟩, ⟨some 21, .mv (.v 5), none, []⟩, ⟨some 22, .mv (.v 1), none, []⟩, ⟨some 23, .iaddr 3 (.v 20) (.v 21), none, [20, 21]⟩, ⟨some 24, .faddr 1 (.v 23), none, [23]⟩, ⟨none, .store 1 (.v 24) (.v 22), none, [22, 24]⟩] [0, 1, 5]) (.seq (.rg [⟨some 25, .mv (.v 1), none, [1]⟩, ⟨some 26, .binN .add (.v 25) (.c (.int .i64 1)), none, [25]⟩, ⟨some 1, .mv (.v 26), none, [26]⟩] [0, 1, 5]) (.seq (.rg [⟨some 27, .mv (.v 0), none, []⟩, ⟨some 28, .mv (.v 5), none, []⟩, ⟨some 29, .mv (.v 1), none, []⟩, ⟨some 30, .iaddr 3 (.v 27) (.v 28), none, [27, 28]⟩, ⟨some 31, .faddr 2 (.v 30), none, [30]⟩, ⟨none, .store 1 (.v 31) (.v 29), none, [29, 31]⟩] [0, 1, 5]) (.rg [⟨some 32, .mv (.v 1), none, [1]⟩, ⟨some 33, .binN .add (.v 32) (.c (.int .i64 1)), none, [32]⟩, ⟨some 1, .mv (.v 33), none, [33]⟩] [0, 1, 5]))))))) (.rg [⟨some 10, .mv (.v 5), none, [5]⟩, ⟨some 11, .binN .add (.v 10) (.c (.int .i64 1)), none, [10]⟩, ⟨some 5, .mv (.v 11), none, [11]⟩] [0, 1, 5])))
/-- laws.markPlanPointS: function 97 -/
def s_laws_markPlanPointS : SFun := { n := 35, res := [.t 4], body := (.seq (.rg [⟨some 4, .mv (.c (.int .i64 0)), none, [4]⟩] [0, 1]) (.seq (.seq (.rg [⟨some 5, .mv (.c (.int .i64 0)), none, []⟩] [0, 1, 5]) (.block 0 (.loop l_laws_markPlanPointS_0))) (.seq (.rg [⟨some 34, .mv (.v 1), none, [1]⟩, ⟨some 4, .mv (.v 34), none, [34]⟩] [4]) .ret))) }
theorem k_laws_markPlanPointS : okFun Go.Proofs.Tryz.prog 97 s_laws_markPlanPointS = true := by kernel_rfl
def l_laws_markPlanFieldS_0 : SCode := (.seq (.seq (.rg [⟨some 6, .mv (.v 5), none, []⟩, ⟨some 7, .mv (.v 0), none, []⟩, ⟨some 8, .lenL (.v 7), none, [7]⟩, ⟨some 9, .bin .lss (.v 6) (.v 8), none, [6, 8]⟩] [0, 1, 5, 9]) (.cond (.v 9) .skip (.exit 0))) (.seq (.block 1 (.seq (.rg [⟨some 12, .mv (.v 0), none, []⟩, ⟨some 13, .mv (.v 5), none, []⟩, ⟨some 14, .mv (.v 1), none, []⟩, ⟨some 15, .iaddr 3 (.v 12) (.v 13), none, [12, 13]⟩, ⟨some 16, .faddr 0 (.v 15), none, [15]⟩, ⟨none, .store 1 (.v 16) (.v 14), none, [14, 16]⟩] [0, 1, 5]) (.seq (.rg [⟨some 17, .mv (.v 1), none, [1]⟩, ⟨some 18, .binN .add (.v 17) (.c (.int .i64 1)), none, [17]⟩, ⟨some 1, .mv (.v 18), none, [18]⟩] [0, 1, 5]) (.seq (.rg [⟨some 19, .mv (.v 0), none, []⟩, ⟨some 20, .mv (.v 5), none, []⟩, ⟨some 21, .mv (.v 1), none, []⟩, ⟨some 22, .iaddr 3 (.v 19) (.v 20), none, [19, 20]⟩, ⟨some 23, .faddr 1 (.v 22), none, [22]⟩, ⟨none, .store 1 (.v 23) (.v 21), none, [21, 23]⟩] [0, 1, 5]) (.seq (.rg [⟨some 24, .mv (.v 1), none, [1]⟩, ⟨some 25, .binN .add (.v 24) (.c (.int .i64 1)), none, [24]⟩, ⟨some 1, .mv (.v 25), none, [25]⟩] [0, 1, 5]) (.seq (.rg [⟨some 26, .mv (.v 0), none, []⟩, ⟨some 27, .mv (.v 5), none, []⟩, ⟨some 28, .mv (.v 1), none, []⟩, ⟨some 29, .call 66 [.v 28], none, [28]⟩, ⟨some 30, .iaddr 3 (.v 26) (.v 27), none, [26, 27]⟩, ⟨some 31, .faddr 2 (.v 30), none, [30]⟩, ⟨none, .store 1 (.v 31) (.v 29), none, [29, 31]⟩] [0, 1, 5]) (.rg [⟨some 32, .mv (.v 1), none, [1]⟩, ⟨some 33, .binN .add (.v 32) (.c (.int .i64 1)), none, [32]⟩, ⟨some 1, .mv (.v 33), none, [33]⟩] [0, 1, 5]))))))) (.rg [⟨some 10, .mv (.v 5), none, [5]⟩, ⟨some 11, .binN .add (.v 10) (.c (.int .i64 1)), none, [10]⟩, ⟨some 5, .mv (.v 11), none, [11]⟩] [0, 1, 5])))
/-- laws.markPlanFieldS: function 98 -/
def s_laws_markPlanFieldS : SFun := { n := 35, res := [.t 4], body := (.seq (.rg [⟨some 4, .mv (.c (.int .i64 0)), none, [4]⟩] [0, 1]) (.seq (.seq (.rg [⟨some 5, .mv (.c (.int .i64 0)), none, []⟩] [0, 1, 5]) (.block 0 (.loop l_laws_markPlanFieldS_0))) (.seq (.rg [⟨some 34, .mv (.v 1), none, [1]⟩, ⟨some 4, .mv (.v 34), none, [34]⟩] [4]) .ret))) }
theorem k_laws_markPlanFieldS : okFun Go.Proofs.Tryz.prog 98 s_laws_markPlanFieldS = true := by kernel_rfl
def l_spec_l16Value_0 : SCode := (.seq (.seq (.rg [⟨some 6, .mv (.v 5), none, []⟩, ⟨some 7, .faddr 1 (.v 2), none, []⟩, ⟨some 8, .load1 (.v 7), none, [7]⟩, ⟨some 9, .lenL (.v 8), none, [8]⟩, ⟨some 10, .bin .lss (.v 6) (.v 9), none, [6, 9]⟩] [1, 2, 5, 10]) (.cond (.v 10) .skip (.exit 0))) (.seq (.block 1 (.seq (.rg [⟨some 13, .faddr 1 (.v 2), none, []⟩, ⟨some 14, .load1 (.v 13), none, [13]⟩, ⟨some 15, .mv (.v 5), none, []⟩, ⟨some 16, .iaddr 3 (.v 14) (.v 15), none, [14, 15]⟩, ⟨some 17, .faddr 0 (.v 16), none, [16]⟩, ⟨some 18, .load1 (.v 17), none, [17]⟩, ⟨some 19, .mv (.v 1), none, []⟩, ⟨some 20, .bin .eql (.v 18) (.v 19), none, [18, 19]⟩] [1, 2, 5, 20]) (.cond (.v 20) (.seq (.rg [⟨some 21, .faddr 1 (.v 2), none, [2]⟩, ⟨some 22, .load1 (.v 21), none, [21]⟩, ⟨some 23, .mv (.v 5), none, [5]⟩, ⟨some 24, .iaddr 3 (.v 22) (.v 23), none, [22, 23]⟩, ⟨some 25, .faddr 2 (.v 24), none, [24]⟩, ⟨some 26, .load1 (.v 25), none, [25]⟩, ⟨some 4, .mv (.v 26), none, [26]⟩] [4]) .ret) .skip))) (.rg [⟨some 11, .mv (.v 5), none, [5]⟩, ⟨some 12, .binN .add (.v 11) (.c (.int .i64 1)), none, [11]⟩, ⟨some 5, .mv (.v 12), none, [12]⟩] [1, 2, 5])))
/-- spec.l16Value: function 99 -/
def s_spec_l16Value : SFun := { n := 27, res := [.t 4], body := (.seq (.rg [⟨some 2, .box 102 (.v 0), none, [0]⟩, ⟨some 4, .mv (.c (.str ⟨#[]⟩)), none, [4]⟩] [1, 2]) (.seq (.seq (.rg [⟨some 5, .mv (.c (.int .i64 0)), none, []⟩] [1, 2, 5]) (.block 0 (.loop l_spec_l16Value_0))) (.seq (.rg [⟨some 4, .mv (.c (.str ⟨#[]⟩)), none, []⟩] [4]) .ret))) }
theorem k_spec_l16Value : okFun Go.Proofs.Tryz.prog 99 s_spec_l16Value = true := by kernel_rfl
/-- impl.PlanBook).stands$1: function 100 -/
def s_impl_PlanBook_stands_1 : SFun := { n := 18, res := [.t 4, .t 5], body := (.seq (.rg [⟨some 4, .mv (.c (.str ⟨#[]⟩)), none, [4]⟩, ⟨some 5, .mv (.c (.bool false)), none, [5]⟩] [0, 1, 2]) (.seq (.rg [⟨some 9, .loadN 3 (.v 1), none, [1]⟩, ⟨some 10, .load1 (.v 2), none, [2]⟩, ⟨some 11, .mv (.v 0), none, [0]⟩, ⟨some 12, .call 61 [.v 9, .v 10, .v 11], none, [9, 10, 11]⟩, ⟨some 8, .mv (.v 12), none, [12]⟩, ⟨some 13, .ext 0 (.v 8), none, []⟩, ⟨some 14, .ext 1 (.v 8), none, [8]⟩, ⟨some 6, .alloc 106 [.int .i64 0, .int .i64 0, .str ⟨#[]⟩], none, []⟩, ⟨none, .store 3 (.v 6) (.v 13), none, [13]⟩, ⟨some 7, .mv (.v 14), none, [14]⟩] [6, 7]) (.seq (.rg [⟨some 15, .faddr 2 (.v 6), none, [6]⟩, ⟨some 16, .load1 (.v 15), none, [15]⟩, ⟨some 17, .mv (.v 7), none, [7]⟩, ⟨some 4, .mv (.v 16), none, [16]⟩, ⟨some 5, .mv (.v 17), none, [17]⟩] [4, 5]) .ret))) }
theorem k_impl_PlanBook_stands_1 : okFun Go.Proofs.Tryz.prog 100 s_impl_PlanBook_stands_1 = true := by kernel_rfl
def l_strings_genSplit_0 : SCode := (.seq (.seq (.rg [⟨some 34, .mv (.v 10), none, []⟩, ⟨some 35, .mv (.v 3), none, []⟩, ⟨some 36, .bin .lss (.v 34) (.v 35), none, [34, 35]⟩] [0, 1, 2, 3, 9, 10, 36]) (.cond (.v 36) .skip (.exit 0))) (.block 1 (.seq (.rg [⟨some 37, .mv (.v 0), none, []⟩, ⟨some 38, .mv (.v 1), none, []⟩, ⟨some 39, .call 114 [.v 37, .v 38], none, [37, 38]⟩, ⟨some 11, .mv (.v 39), none, [39]⟩] [0, 1, 2, 3, 9, 10, 11]) (.seq (.seq (.rg [⟨some 40, .mv (.v 11), none, []⟩, ⟨some 41, .bin .lss (.v 40) (.c (.int .i64 0)), none, [40]⟩] [0, 1, 2, 3, 9, 10, 11, 41]) (.cond (.v 41) (.exit 0) .skip)) (.seq (.rg [⟨some 42, .mv (.v 9), none, []⟩, ⟨some 43, .mv (.v 10), none, []⟩, ⟨some 44, .mv (.v 0), none, []⟩, ⟨some 45, .mv (.v 11), none, []⟩, ⟨some 46, .mv (.v 2), none, []⟩, ⟨some 47, .binN .add (.v 45) (.v 46), none, [45, 46]⟩, ⟨some 48, .slStr (.v 44) none (some (.v 47)), none, [44, 47]⟩, ⟨some 49, .iaddr 1 (.v 42) (.v 43), none, [42, 43]⟩, ⟨none, .store 1 (.v 49) (.v 48), none, [48, 49]⟩] [0, 1, 2, 3, 9, 10, 11]) (.seq (.rg [⟨some 50, .mv (.v 0), none, [0]⟩, ⟨some 51, .mv (.v 11), none, [11]⟩, ⟨some 52, .mv (.v 1), none, []⟩, ⟨some 53, .lenS (.v 52), none, [52]⟩, ⟨some 54, .binN .add (.v 51) (.v 53), none, [51, 53]⟩, ⟨some 55, .slStr (.v 50) (some (.v 54)) none, none, [50, 54]⟩, ⟨some 0, .mv (.v 55), none, [55]⟩] [0, 1, 2, 3, 9, 10]) (.rg [⟨some 56, .mv (.v 10), none, [10]⟩, ⟨some 57, .binN .add (.v 56) (.c (.int .i64 1)), none, [56]⟩, ⟨some 10, .mv (.v 57), none, [57]⟩] [0, 1, 2, 3, 9, 10])))))))
/-- strings.genSplit: function 101 -/
def s_strings_genSplit : SFun := { n := 66, res := [.t 8], body := (.seq (.rg [⟨some 8, .mv (.c (.sl 0 1 [])), none, [8]⟩] [0, 1, 2, 3]) (.seq (.seq (.rg [⟨some 12, .mv (.v 3), none, []⟩, ⟨some 13, .bin .eql (.v 12) (.c (.int .i64 0)), none, [12]⟩] [0, 1, 2, 3, 13]) (.cond (.v 13) (.seq (.rg [⟨some 8, .mv (.c (.sl 0 1 [])), none, []⟩] [8]) (.gh (.frzE 8) .ret)) .skip)) (.seq (.seq (.rg [⟨some 14, .mv (.v 1), none, []⟩, ⟨some 15, .bin .eql (.v 14) (.c (.str ⟨#[]⟩)), none, [14]⟩] [0, 1, 2, 3, 15]) (.cond (.v 15) (.seq (.rg [⟨some 16, .mv (.v 0), none, [0]⟩, ⟨some 17, .mv (.v 3), none, [3]⟩, ⟨some 18, .call 112 [.v 16, .v 17], none, [16, 17]⟩, ⟨some 8, .mv (.v 18), none, [18]⟩] [8]) (.gh (.frzE 8) .ret)) .skip)) (.seq (.seq (.rg [⟨some 19, .mv (.v 3), none, []⟩, ⟨some 20, .bin .lss (.v 19) (.c (.int .i64 0)), none, [19]⟩] [0, 1, 2, 3, 20]) (.cond (.v 20) (.rg [⟨some 21, .mv (.v 0), none, []⟩, ⟨some 22, .mv (.v 1), none, []⟩, ⟨some 23, .call 113 [.v 21, .v 22], none, [21, 22]⟩, ⟨some 24, .binN .add (.v 23) (.c (.int .i64 1)), none, [23]⟩, ⟨some 3, .mv (.v 24), none, [24]⟩] [0, 1, 2, 3]) .skip)) (.seq (.rg [⟨some 25, .mv (.v 3), none, [3]⟩, ⟨some 26, .mv (.v 0), none, []⟩, ⟨some 27, .lenS (.v 26), none, [26]⟩, ⟨some 28, .binN .add (.v 27) (.c (.int .i64 1)), none, [27]⟩, ⟨some 29, .mn (.v 25) (.v 28), none, [25, 28]⟩, ⟨some 3, .mv (.v 29), none, [29]⟩] [0, 1, 2, 3]) (.seq (.rg [⟨some 30, .mv (.v 3), none, []⟩, ⟨some 31, .mk 131 9 1 [.str ⟨#[]⟩] (.v 30), none, [30]⟩, ⟨some 9, .mv (.v 31), none, [31]⟩] [0, 1, 2, 3, 9]) (.seq (.rg [⟨some 32, .mv (.v 3), none, [3]⟩, ⟨some 33, .binN .sub (.v 32) (.c (.int .i64 1)), none, [32]⟩, ⟨some 3, .mv (.v 33), none, [33]⟩] [0, 1, 2, 3, 9]) (.seq (.rg [⟨some 10, .mv (.c (.int .i64 0)), none, []⟩] [0, 1, 2, 3, 9, 10]) (.seq (.block 0 (.loop l_strings_genSplit_0)) (.seq (.rg [⟨some 58, .mv (.v 9), none, []⟩, ⟨some 59, .mv (.v 10), none, []⟩, ⟨some 60, .mv (.v 0), none, [0]⟩, ⟨some 61, .iaddr 1 (.v 58) (.v 59), none, [58, 59]⟩, ⟨none, .store 1 (.v 61) (.v 60), none, [60, 61]⟩] [9, 10]) (.seq (.rg [⟨some 62, .mv (.v 9), none, [9]⟩, ⟨some 63, .mv (.v 10), none, [10]⟩, ⟨some 64, .binN .add (.v 63) (.c (.int .i64 1)), none, [63]⟩, ⟨some 65, .slSl 1 (.v 62) none (some (.v 64)), none, [62, 64]⟩, ⟨some 8, .mv (.v 65), none, [65]⟩] [8]) (.gh (.frzE 8) .ret)))))))))))) }
theorem k_strings_genSplit : okFun Go.Proofs.Tryz.prog 101 s_strings_genSplit = true := by kernel_rfl
def l_slices_IndexFunc_PlanKind_0 : SCode := (.seq (.rg [⟨some 9, .bin .lss (.v 8) (.v 7), none, []⟩] [0, 1, 7, 8, 9]) (.seq (.cond (.v 9) .skip (.exit 0)) (.seq (.block 1 (.seq (.rg [⟨some 10, .mv (.v 8), none, []⟩, ⟨some 5, .mv (.v 10), none, [10]⟩] [0, 1, 5, 7, 8]) (.seq (.rg [⟨some 11, .mv (.v 1), none, []⟩, ⟨some 12, .mv (.v 0), none, []⟩, ⟨some 13, .mv (.v 5), none, []⟩, ⟨some 14, .iaddr 3 (.v 12) (.v 13), none, [12, 13]⟩, ⟨some 15, .loadN 3 (.v 14), none, [14]⟩, ⟨some 16, .callV (.v 11) [.v 15], none, [11, 15]⟩] [0, 1, 5, 7, 8, 16]) (.cond (.v 16) (.seq (.rg [⟨some 17, .mv (.v 5), none, [5]⟩, ⟨some 4, .mv (.v 17), none, [17]⟩] [4]) .ret) .skip)))) (.rg [⟨some 18, .binN .add (.v 8) (.c (.int .i64 1)), none, [8]⟩, ⟨some 8, .mv (.v 18), none, [18]⟩] [0, 1, 7, 8]))))
/-- impl.PlanKind]: function 102 -/
def s_slices_IndexFunc_PlanKind : SFun := { n := 19, res := [.t 4], body := (.seq (.rg [⟨some 4, .mv (.c (.int .i64 0)), none, [4]⟩] [0, 1]) (.seq (.seq (.rg [⟨some 6, .mv (.v 0), none, []⟩, ⟨some 7, .lenL (.v 6), none, [6]⟩, ⟨some 8, .mv (.c (.int .i64 0)), none, []⟩] [0, 1, 7, 8]) (.block 0 (.loop l_slices_IndexFunc_PlanKind_0))) (.seq (.rg [⟨some 4, .mv (.c (.int .i64 (-1))), none, []⟩] [4]) .ret))) }
theorem k_slices_IndexFunc_PlanKind : okFun Go.Proofs.Tryz.prog 102 s_slices_IndexFunc_PlanKind = true := by kernel_rfl
/-- impl.PlanBase).kind$1: function 103 -/
def s_impl_PlanBase_kind_1 : SFun := { n := 8, res := [.t 3], body := (.seq (.rg [⟨some 2, .box 102 (.v 0), none, [0]⟩, ⟨some 3, .mv (.c (.bool false)), none, [3]⟩] [1, 2]) (.seq (.rg [⟨some 4, .faddr 0 (.v 2), none, [2]⟩, ⟨some 5, .load1 (.v 4), none, [4]⟩, ⟨some 6, .load1 (.v 1), none, [1]⟩, ⟨some 7, .bin .eql (.v 5) (.v 6), none, [5, 6]⟩, ⟨some 3, .mv (.v 7), none, [7]⟩] [3]) .ret)) }
theorem k_impl_PlanBase_kind_1 : okFun Go.Proofs.Tryz.prog 103 s_impl_PlanBase_kind_1 = true := by kernel_rfl
/-- impl.PlanBase).point: function 106 -/
def s_impl_PlanBase_point : SFun := { n := 9, res := [.t 4], body := (.seq (.rg [⟨some 2, .box 102 (.v 0), none, [0]⟩, ⟨some 3, .box 103 (.v 1), none, [1]⟩, ⟨some 4, .mv (.c (.int .i64 0)), none, [4]⟩] [2, 3]) (.seq (.rg [⟨some 5, .faddr 1 (.v 2), none, [2]⟩, ⟨some 6, .load1 (.v 5), none, [5]⟩, ⟨some 7, .clos 125 [.v 3], none, [3]⟩, ⟨some 8, .call 124 [.v 6, .v 7], none, [6, 7]⟩, ⟨some 4, .mv (.v 8), none, [8]⟩] [4]) .ret)) }
theorem k_impl_PlanBase_point : okFun Go.Proofs.Tryz.prog 106 s_impl_PlanBase_point = true := by kernel_rfl
def l_laws_szPlanFieldS_0 : SCode := (.seq (.seq (.rg [⟨some 12, .mv (.v 5), none, []⟩, ⟨some 13, .mv (.v 0), none, []⟩, ⟨some 14, .lenL (.v 13), none, [13]⟩, ⟨some 15, .bin .lss (.v 12) (.v 14), none, [12, 14]⟩] [0, 1, 5, 15]) (.cond (.v 15) .skip (.exit 0))) (.seq (.block 1 (.seq (.rg [⟨some 18, .mv (.v 0), none, []⟩, ⟨some 19, .mv (.v 5), none, []⟩, ⟨some 20, .iaddr 3 (.v 18) (.v 19), none, [18, 19]⟩, ⟨some 21, .loadN 3 (.v 20), none, [20]⟩, ⟨some 22, .mv (.v 1), none, [1]⟩, ⟨some 23, .call 126 [.v 21, .v 22], none, [21, 22]⟩, ⟨some 1, .mv (.v 23), none, [23]⟩] [0, 1, 5]) (.seq (.rg [⟨some 24, .mv (.v 1), none, []⟩, ⟨some 25, .bin .lss (.v 24) (.c (.int .i64 0)), none, [24]⟩] [0, 1, 5, 25]) (.cond (.v 25) (.seq (.rg [⟨some 4, .mv (.c (.int .i64 (-1))), none, []⟩] [4]) .ret) .skip)))) (.rg [⟨some 16, .mv (.v 5), none, [5]⟩, ⟨some 17, .binN .add (.v 16) (.c (.int .i64 1)), none, [16]⟩, ⟨some 5, .mv (.v 17), none, [17]⟩] [0, 1, 5])))
/-- laws.szPlanFieldS: function 107 -/
def s_laws_szPlanFieldS : SFun := { n := 27, res := [.t 4], body := (.seq (.rg [⟨some 4, .mv (.c (.int .i64 0)), none, [4]⟩] [0, 1]) (.seq (.rg [⟨some 6, .mv (.v 1), none, [1]⟩, ⟨some 7, .mv (.v 0), none, []⟩, ⟨some 8, .lenL (.v 7), none, [7]⟩, ⟨some 9, .binN .sub (.v 6) (.v 8), none, [6, 8]⟩, ⟨some 1, .mv (.v 9), none, [9]⟩] [0, 1]) (.seq (.seq (.rg [⟨some 10, .mv (.v 1), none, []⟩, ⟨some 11, .bin .lss (.v 10) (.c (.int .i64 0)), none, [10]⟩] [0, 1, 11]) (.cond (.v 11) (.seq (.rg [⟨some 4, .mv (.c (.int .i64 (-1))), none, []⟩] [4]) .ret) .skip)) (.seq (.seq (.rg [⟨some 5, .mv (.c (.int .i64 0)), none, []⟩] [0, 1, 5]) (.block 0 (.loop l_laws_szPlanFieldS_0))) (.seq (.rg [⟨some 26, .mv (.v 1), none, [1]⟩, ⟨some 4, .mv (.v 26), none, [26]⟩] [4]) .ret))))) }
theorem k_laws_szPlanFieldS : okFun Go.Proofs.Tryz.prog 107 s_laws_szPlanFieldS = true := by kernel_rfl
def l_laws_toPlanFieldS_0 : SCode := (.seq (.seq (.rg [⟨some 8, .mv (.v 4), none, []⟩, ⟨some 9, .mv (.v 0), none, []⟩, ⟨some 10, .lenL (.v 9), none, [9]⟩, ⟨some 11, .bin .lss (.v 8) (.v 10), none, [8, 10]⟩] [0, 3, 4, 11]) (.cond (.v 11) .skip (.exit 0))) (.seq (.block 1 (.rg [⟨some 14, .mv (.v 3), none, []⟩, ⟨some 15, .mv (.v 4), none, []⟩, ⟨some 16, .mv (.v 0), none, []⟩, ⟨some 17, .mv (.v 4), none, []⟩, ⟨some 18, .iaddr 3 (.v 16) (.v 17), none, [16, 17]⟩, ⟨some 19, .loadN 3 (.v 18), none, [18]⟩, ⟨some 20, .call 127 [.v 19], none, [19]⟩, ⟨some 21, .iaddr 3 (.v 14) (.v 15), none, [14, 15]⟩, ⟨none, .store 3 (.v 21) (.v 20), none, [20, 21]⟩] [0, 3, 4])) (.rg [⟨some 12, .mv (.v 4), none, [4]⟩, ⟨some 13, .binN .add (.v 12) (.c (.int .i64 1)), none, [12]⟩, ⟨some 4, .mv (.v 13), none, [13]⟩] [0, 3, 4])))
/-- laws.toPlanFieldS: function 108 -/
def s_laws_toPlanFieldS : SFun := { n := 23, res := [.t 2], body := (.seq (.rg [⟨some 2, .mv (.c (.sl 0 3 [])), none, [2]⟩] [0]) (.seq (.rg [⟨some 5, .mv (.v 0), none, []⟩, ⟨some 6, .lenL (.v 5), none, [5]⟩, ⟨some 7, .mk 107 96 3 [.int .i64 0, .int .i64 0, .str ⟨#[]⟩] (.v 6), none, [6]⟩, ⟨some 3, .mv (.v 7), none, [7]⟩] [0, 3]) (.seq (.seq (.rg [⟨some 4, .mv (.c (.int .i64 0)), none, []⟩] [0, 3, 4]) (.block 0 (.loop l_laws_toPlanFieldS_0))) (.seq (.rg [⟨some 22, .mv (.v 3), none, [3]⟩, ⟨some 2, .mv (.v 22), none, [22]⟩] [2]) (.gh (.frzE 2) .ret))))) }
theorem k_laws_toPlanFieldS : okFun Go.Proofs.Tryz.prog 108 s_laws_toPlanFieldS = true := by kernel_rfl
def l_laws_eqPlanFieldS_0 : SCode := (.seq (.seq (.rg [⟨some 11, .mv (.v 5), none, []⟩, ⟨some 12, .mv (.v 0), none, []⟩, ⟨some 13, .lenL (.v 12), none, [12]⟩, ⟨some 14, .bin .lss (.v 11) (.v 13), none, [11, 13]⟩] [0, 1, 5, 14]) (.cond (.v 14) .skip (.exit 0))) (.seq (.block 1 (.seq (.rgd [⟨some 17, .mv (.v 0), none, []⟩, ⟨some 18, .mv (.v 5), none, []⟩, ⟨some 19, .iaddr 3 (.v 17) (.v 18), none, []⟩, ⟨some 20, .loadN 3 (.v 19), none, []⟩, ⟨some 21, .mv (.v 1), none, []⟩, ⟨some 22, .mv (.v 5), none, []⟩, ⟨some 23, .iaddr 3 (.v 21) (.v 22), none, []⟩, ⟨some 24, .loadN 3 (.v 23), none, []⟩, ⟨some 25, .call 128 [.v 20, .v 24], none, []⟩, ⟨some 26, .not (.v 25), none, []⟩] [0, 1, 5, 26] [none, none, none, none, none, none, none, none, none, none]) (.cond (.v 26) (.seq (.rg [⟨some 4, .mv (.c (.bool false)), none, []⟩] [4]) .ret) .skip))) (.rg [⟨some 15, .mv (.v 5), none, [5]⟩, ⟨some 16, .binN .add (.v 15) (.c (.int .i64 1)), none, [15]⟩, ⟨some 5, .mv (.v 16), none, [16]⟩] [0, 1, 5])))
/-- laws.eqPlanFieldS: function 109 -/
def s_laws_eqPlanFieldS : SFun := { n := 27, res := [.t 4], body := (.seq (.rg [⟨some 4, .mv (.c (.bool false)), none, [4]⟩] [0, 1]) (.seq (.seq (.rg [⟨some 6, .mv (.v 0), none, []⟩, ⟨some 7, .lenL (.v 6), none, [6]⟩, ⟨some 8, .mv (.v 1), none, []⟩, ⟨some 9, .lenL (.v 8), none, [8]⟩, ⟨some 10, .bin .neq (.v 7) (.v 9), none, [7, 9]⟩] [0, 1, 10]) (.cond (.v 10) (.seq (.rg [⟨some 4, .mv (.c (.bool false)), none, []⟩] [4]) .ret) .skip)) (.seq (.seq (.rg [⟨some 5, .mv (.c (.int .i64 0)), none, []⟩] [0, 1, 5]) (.block 0 (.loop l_laws_eqPlanFieldS_0))) (.seq (.rg [⟨some 4, .mv (.c (.bool true)), none, []⟩] [4]) .ret)))) }
theorem k_laws_eqPlanFieldS : okFun Go.Proofs.Tryz.prog 109 s_laws_eqPlanFieldS = true := by kernel_rfl
def l_slices_IndexFunc_PlanEntry_0 : SCode := (.seq (.rg [⟨some 9, .bin .lss (.v 8) (.v 7), none, []⟩] [0, 1, 7, 8, 9]) (.seq (.cond (.v 9) .skip (.exit 0)) (.seq (.block 1 (.seq (.rg [⟨some 10, .mv (.v 8), none, []⟩, ⟨some 5, .mv (.v 10), none, [10]⟩] [0, 1, 5, 7, 8]) (.seq (.rg [⟨some 11, .mv (.v 1), none, []⟩, ⟨some 12, .mv (.v 0), none, []⟩, ⟨some 13, .mv (.v 5), none, []⟩, ⟨some 14, .iaddr 2 (.v 12) (.v 13), none, [12, 13]⟩, ⟨some 15, .loadN 2 (.v 14), none, [14]⟩, ⟨some 16, .callV (.v 11) [.v 15], none, [11, 15]⟩] [0, 1, 5, 7, 8, 16]) (.cond (.v 16) (.seq (.rg [⟨some 17, .mv (.v 5), none, [5]⟩, ⟨some 4, .mv (.v 17), none, [17]⟩] [4]) .ret) .skip)))) (.rg [⟨some 18, .binN .add (.v 8) (.c (.int .i64 1)), none, [8]⟩, ⟨some 8, .mv (.v 18), none, [18]⟩] [0, 1, 7, 8]))))
/-- impl.PlanEntry]: function 110 -/
def s_slices_IndexFunc_PlanEntry : SFun := { n := 19, res := [.t 4], body := (.seq (.rg [⟨some 4, .mv (.c (.int .i64 0)), none, [4]⟩] [0, 1]) (.seq (.seq (.rg [⟨some 6, .mv (.v 0), none, []⟩, ⟨some 7, .lenL (.v 6), none, [6]⟩, ⟨some 8, .mv (.c (.int .i64 0)), none, []⟩] [0, 1, 7, 8]) (.block 0 (.loop l_slices_IndexFunc_PlanEntry_0))) (.seq (.rg [⟨some 4, .mv (.c (.int .i64 (-1))), none, []⟩] [4]) .ret))) }
theorem k_slices_IndexFunc_PlanEntry : okFun Go.Proofs.Tryz.prog 110 s_slices_IndexFunc_PlanEntry = true := by kernel_rfl
/-- impl.PlanBook).entry$1: function 111 -/
def s_impl_PlanBook_entry_1 : SFun := { n := 8, res := [.t 3], body := (.seq (.rg [⟨some 2, .box 102 (.v 0), none, [0]⟩, ⟨some 3, .mv (.c (.bool false)), none, [3]⟩] [1, 2]) (.seq (.rg [⟨some 4, .faddr 0 (.v 2), none, [2]⟩, ⟨some 5, .load1 (.v 4), none, [4]⟩, ⟨some 6, .load1 (.v 1), none, [1]⟩, ⟨some 7, .bin .eql (.v 5) (.v 6), none, [5, 6]⟩, ⟨some 3, .mv (.v 7), none, [7]⟩] [3]) .ret)) }
theorem k_impl_PlanBook_entry_1 : okFun Go.Proofs.Tryz.prog 111 s_impl_PlanBook_entry_1 = true := by kernel_rfl
def l_slices_IndexFunc_PlanPoint_0 : SCode := (.seq (.rg [⟨some 9, .bin .lss (.v 8) (.v 7), none, []⟩] [0, 1, 7, 8, 9]) (.seq (.cond (.v 9) .skip (.exit 0)) (.seq (.block 1 (.seq (.rg [⟨some 10, .mv (.v 8), none, []⟩, ⟨some 5, .mv (.v 10), none, [10]⟩] [0, 1, 5, 7, 8]) (.seq (.rg [⟨some 11, .mv (.v 1), none, []⟩, ⟨some 12, .mv (.v 0), none, []⟩, ⟨some 13, .mv (.v 5), none, []⟩, ⟨some 14, .iaddr 3 (.v 12) (.v 13), none, [12, 13]⟩, ⟨some 15, .loadN 3 (.v 14), none, [14]⟩, ⟨some 16, .callV (.v 11) [.v 15], none, [11, 15]⟩] [0, 1, 5, 7, 8, 16]) (.cond (.v 16) (.seq (.rg [⟨some 17, .mv (.v 5), none, [5]⟩, ⟨some 4, .mv (.v 17), none, [17]⟩] [4]) .ret) .skip)))) (.rg [⟨some 18, .binN .add (.v 8) (.c (.int .i64 1)), none, [8]⟩, ⟨some 8, .mv (.v 18), none, [18]⟩] [0, 1, 7, 8]))))
/-- impl.PlanPoint]: function 124 -/
def s_slices_IndexFunc_PlanPoint : SFun := { n := 19, res := [.t 4], body := (.seq (.rg [⟨some 4, .mv (.c (.int .i64 0)), none, [4]⟩] [0, 1]) (.seq (.seq (.rg [⟨some 6, .mv (.v 0), none, []⟩, ⟨some 7, .lenL (.v 6), none, [6]⟩, ⟨some 8, .mv (.c (.int .i64 0)), none, []⟩] [0, 1, 7, 8]) (.block 0 (.loop l_slices_IndexFunc_PlanPoint_0))) (.seq (.rg [⟨some 4, .mv (.c (.int .i64 (-1))), none, []⟩] [4]) .ret))) }
theorem k_slices_IndexFunc_PlanPoint : okFun Go.Proofs.Tryz.prog 124 s_slices_IndexFunc_PlanPoint = true := by kernel_rfl
/-- impl.PlanBase).point$1: function 125 -/
def s_impl_PlanBase_point_1 : SFun := { n := 8, res := [.t 3], body := (.seq (.rg [⟨some 2, .box 102 (.v 0), none, [0]⟩, ⟨some 3, .mv (.c (.bool false)), none, [3]⟩] [1, 2]) (.seq (.rg [⟨some 4, .faddr 0 (.v 2), none, [2]⟩, ⟨some 5, .load1 (.v 4), none, [4]⟩, ⟨some 6, .load1 (.v 1), none, [1]⟩, ⟨some 7, .bin .eql (.v 5) (.v 6), none, [5, 6]⟩, ⟨some 3, .mv (.v 7), none, [7]⟩] [3]) .ret)) }
theorem k_impl_PlanBase_point_1 : okFun Go.Proofs.Tryz.prog 125 s_impl_PlanBase_point_1 = true := by kernel_rfl
/-- laws.szPlanField: function 126 -/
def s_laws_szPlanField : SFun := { n := 13, res := [.t 4], body := (.seq (.rg [⟨some 2, .box 102 (.v 0), none, [0]⟩, ⟨some 4, .mv (.c (.int .i64 0)), none, [4]⟩] [1, 2]) (.seq (.rg [⟨some 5, .mv (.v 1), none, [1]⟩, ⟨some 6, .faddr 2 (.v 2), none, [2]⟩, ⟨some 7, .load1 (.v 6), none, [6]⟩, ⟨some 8, .lenS (.v 7), none, [7]⟩, ⟨some 9, .binN .sub (.v 5) (.v 8), none, [5, 8]⟩, ⟨some 1, .mv (.v 9), none, [9]⟩] [1]) (.seq (.seq (.rg [⟨some 10, .mv (.v 1), none, []⟩, ⟨some 11, .bin .lss (.v 10) (.c (.int .i64 0)), none, [10]⟩] [1, 11]) (.cond (.v 11) (.seq (.rg [⟨some 4, .mv (.c (.int .i64 (-1))), none, []⟩] [4]) .ret) .skip)) (.seq (.rg [⟨some 12, .mv (.v 1), none, [1]⟩, ⟨some 4, .mv (.v 12), none, [12]⟩] [4]) .ret)))) }
theorem k_laws_szPlanField : okFun Go.Proofs.Tryz.prog 126 s_laws_szPlanField = true := by kernel_rfl
/-- laws.toPlanField: function 127 -/
def s_laws_toPlanField : SFun := { n := 14, res := [.cN 2 3], body := (.seq (.rg [⟨some 1, .box 101 (.v 0), none, [0]⟩, ⟨some 2, .alloc 102 [.int .i64 0, .int .i64 0, .str ⟨#[]⟩], none, []⟩] [1, 2]) (.seq (.rg [⟨some 3, .alloc 103 [.int .i64 0, .int .i64 0, .str ⟨#[]⟩], none, []⟩] [1, 2, 3]) (.seq (.rg [⟨some 4, .faddr 0 (.v 1), none, []⟩, ⟨some 5, .load1 (.v 4), none, [4]⟩, ⟨some 6, .faddr 0 (.v 3), none, []⟩, ⟨none, .store 1 (.v 6) (.v 5), none, [5, 6]⟩] [1, 2, 3]) (.seq (.rg [⟨some 7, .faddr 1 (.v 1), none, []⟩, ⟨some 8, .load1 (.v 7), none, [7]⟩, ⟨some 9, .faddr 1 (.v 3), none, []⟩, ⟨none, .store 1 (.v 9) (.v 8), none, [8, 9]⟩] [1, 2, 3]) (.seq (.rg [⟨some 10, .faddr 2 (.v 1), none, [1]⟩, ⟨some 11, .load1 (.v 10), none, [10]⟩, ⟨some 12, .faddr 2 (.v 3), none, []⟩, ⟨none, .store 1 (.v 12) (.v 11), none, [11, 12]⟩] [2, 3]) (.seq (.rg [⟨some 13, .loadN 3 (.v 3), none, [3]⟩, ⟨none, .store 3 (.v 2) (.v 13), none, [13]⟩] [2]) .ret)))))) }
theorem k_laws_toPlanField : okFun Go.Proofs.Tryz.prog 127 s_laws_toPlanField = true := by kernel_rfl
/-- laws.eqPlanField: function 128 -/
def s_laws_eqPlanField : SFun := { n := 20, res := [.t 4], body := (.seq (.rg [⟨some 2, .box 102 (.v 0), none, [0]⟩, ⟨some 3, .box 103 (.v 1), none, [1]⟩, ⟨some 4, .mv (.c (.bool false)), none, [4]⟩] [2, 3]) (.seq (.seq (.rg [⟨some 5, .faddr 0 (.v 2), none, []⟩, ⟨some 6, .load1 (.v 5), none, [5]⟩, ⟨some 7, .faddr 0 (.v 3), none, []⟩, ⟨some 8, .load1 (.v 7), none, [7]⟩, ⟨some 9, .bin .neq (.v 6) (.v 8), none, [6, 8]⟩] [2, 3, 9]) (.cond (.v 9) (.seq (.rg [⟨some 4, .mv (.c (.bool false)), none, []⟩] [4]) .ret) .skip)) (.seq (.seq (.rg [⟨some 10, .faddr 1 (.v 2), none, []⟩, ⟨some 11, .load1 (.v 10), none, [10]⟩, ⟨some 12, .faddr 1 (.v 3), none, []⟩, ⟨some 13, .load1 (.v 12), none, [12]⟩, ⟨some 14, .bin .neq (.v 11) (.v 13), none, [11, 13]⟩] [2, 3, 14]) (.cond (.v 14) (.seq (.rg [⟨some 4, .mv (.c (.bool false)), none, []⟩] [4]) .ret) .skip)) (.seq (.seq (.rg [⟨some 15, .faddr 2 (.v 2), none, [2]⟩, ⟨some 16, .load1 (.v 15), none, [15]⟩, ⟨some 17, .faddr 2 (.v 3), none, [3]⟩, ⟨some 18, .load1 (.v 17), none, [17]⟩, ⟨some 19, .bin .neq (.v 16) (.v 18), none, [16, 18]⟩] [19]) (.cond (.v 19) (.seq (.rg [⟨some 4, .mv (.c (.bool false)), none, []⟩] [4]) .ret) .skip)) (.seq (.rg [⟨some 4, .mv (.c (.bool true)), none, []⟩] [4]) .ret))))) }
theorem k_laws_eqPlanField : okFun Go.Proofs.Tryz.prog 128 s_laws_eqPlanField = true := by kernel_rfl
end Go.Ve

namespace Go.Ve
open Go.Proofs
set_option linter.unusedSimpArgs false
set_option linter.unusedVariables false
set_option maxRecDepth 100000
noncomputable abbrev P := Go.Proofs.Tryz.prog
theorem hm : P.follows .mixedOrders = true := by kernel_rfl
theorem c_within (n lo hi : Int) (hp : True) : Contract P 87 [.int .i64 n, .int .i64 lo, .int .i64 hi] [] (.bool (decide (lo ≤ n ∧ n ≤ hi))) [] := by
  refine fn_sound (Env.nil P) hm k_impl_within (Nat.le_of_ble_eq_true rfl) rfl ?_
  unfold s_impl_within
  simp only [w_skip, w_rg, w_rgd, w_seq, w_cond, w_block, w_loop, w_exit, w_ret, w_gh, w_rg0, w_rg1, w_rgT, w_rgF, w_run, w_psd, w_und, w_dr0, w_dr1, w_drT, w_drF, w_drRun, w_drPsd, w_drUnd, w_drKn, w_drKs, w_putK, w_trimK, w_thenN, w_thenE, w_thenR, w_scope, w_label, w_blkN, w_blkE, w_blkR, w_call, w_effK, brU_true, brU_false, brU_u, brU_not, brU_and, brU_or, brU_dec, brU_eq, brU_ne, br_true, br_false, br_not, br_and, br_or, br_dec, br_eq, br_ne, w_getE0, w_getE1, w_setE0, w_setE1, w_dropE0, w_dropE1, w_drop0, w_drop1, w_getM0, w_getM1, w_setM0, w_setM1, ev_v, ev_c, w_putS, w_putN, w_lit, w_apU0, w_apU1, w_apU2, w_trim, enumE0, enumE1, w_callWp, w_callA0, w_callA1, w_R0, w_R1, w_R2, w_T2, w_callL, w_callT, w_T1, w_T0, o_mv, o_newnil, o_pick, o_bin, o_binN, o_neg, o_not, o_eqB, o_eqS, o_conv, o_alloc, o_box, o_load1, o_loadN, o_store, o_nilck, o_faddr, o_field1, o_fieldN, o_iaddr, o_istr, o_slStr, o_slSl, o_lenS, o_lenL, o_mx, o_mn, o_ext, o_build, o_lit, o_litOwn, o_app, o_appN, rowsN, o_mk, o_mvfrz, l_int, l_bool, l_str, l_agg, l_sl, l_own, l_ptr, l_pp, i_int, i_bool, i_str, i_sl, i_own, i_ptr, i_pp, all0, all1, e_ok1, eff, effBin, effBinN, ld_ptr, ld_pp, ld_elt, ia_own, ia_arr, el_1, el_N, load1K, faddrE, r_iaddr, sg_S, sg_c, sg_n, purL, pur, List.map, List.drop, List.take, List.length, List.foldl, List.append_eq, List.nil_append, List.cons_append, List.getD_cons_zero, List.getD_cons_succ, reduceIte, Nat.reduceEqDiff, Nat.reduceAdd, Nat.reduceLeDiff, true_and, and_true, Bool.not_true, Bool.not_false, Bool.and_true, Bool.true_and, Bool.and_self, reduceCtorEq, true_implies, false_implies, implies_true, decide_eq_true_eq, Option.map_some, fpOf, fpX, SOp.xs, oX, refs, refsL, dom, disj, List.all_nil, List.all_cons, List.contains_cons, List.contains_nil, Nat.reduceBEq, Bool.or_false, Bool.false_or, List.append_nil, Bool.not_false, Bool.not_true, List.forall_mem_cons, fm0, List.set, Nat.reduceLT, Nat.reduceMod, ne_eq, not_false_eq_true, not_true_eq_false
, ret1, ret1N, keep0, keep1, rf_int, rf_bool, rf_str, rf_sl, rf_agg, rf_tup, rfL0, rfL1, re_t, re_cN, re_L0, re_L1, ret_tup, ret_one, decide_true, AV.bool.injEq, AV.int.injEq, Nat.reduceLeDiff, Bool.true_eq, Bool.false_eq, decide_eq_true_eq, decide_eq_false_iff_not]
  repeat' (first | apply And.intro | intro _)
  all_goals (first | trivial | omega | (simp_all; done) | (simp_all; omega))
def t_within : List AV → Option (Prop × AV)
  | [.int .i64 n, .int .i64 lo, .int .i64 hi] => some (True, .bool (decide (lo ≤ n ∧ n ≤ hi)))
  | _ => none
theorem h_within : ∀ args p v, t_within args = some (p, v) → p → Contract P 87 args [] v [] ∧ noref v = true ∧ No99 v := by
  intro args p v h1 h2
  unfold t_within at h1
  split at h1
  · cases h1; exact ⟨c_within _ _ _ h2, rfl, trivial⟩
  · cases h1
structure Box6 where
  x : Int
  y : Int
  l : Int
  h : Int
  i : Int
  o : Int
  deriving Inhabited
def Box6.row (b : Box6) : List AV := [.int .i64 b.x, .int .i64 b.y, .int .i64 b.l, .int .i64 b.h, .int .i64 b.i, .int .i64 b.o]
def Box6.ok (b : Box6) : Prop := (0 ≤ b.x ∧ b.x ≤ 15) ∧ (0 ≤ b.y ∧ b.y ≤ 15) ∧ 0 ≤ b.l ∧ b.l ≤ b.h ∧ b.h ≤ 6 ∧ 0 ≤ b.i ∧ b.i ≤ b.o ∧ b.o ≤ 10000
instance (b : Box6) : Decidable b.ok := by unfold Box6.ok; infer_instance
structure Stp7 where
  x : Int
  y : Int
  l : Int
  h : Int
  f : Int
  b : Int
  hold : Bool
  deriving Inhabited
def Stp7.row (s : Stp7) : List AV := [.int .i64 s.x, .int .i64 s.y, .int .i64 s.l, .int .i64 s.h, .int .i64 s.f, .int .i64 s.b, .bool s.hold]
def Stp7.ok (s : Stp7) : Prop := (0 ≤ s.x ∧ s.x ≤ 15) ∧ (0 ≤ s.y ∧ s.y ≤ 15) ∧ 0 ≤ s.l ∧ s.l ≤ s.h ∧ s.h ≤ 6 ∧ 0 ≤ s.f ∧ s.f ≤ s.b ∧ s.b ≤ 10000
instance (s : Stp7) : Decidable s.ok := by unfold Stp7.ok; infer_instance
def Stp7.nb (a s : Stp7) : Prop := (-1 ≤ a.x - s.x ∧ a.x - s.x ≤ 1) ∧ (-1 ≤ a.y - s.y ∧ a.y - s.y ≤ 1) ∧ ¬ (a.x = s.x ∧ a.y = s.y) ∧ a.l ≤ s.h ∧ s.l ≤ a.h
instance (a s : Stp7) : Decidable (a.nb s) := by unfold Stp7.nb; infer_instance
end Go.Ve

namespace Go.Ve
open Go.Proofs
set_option linter.unusedSimpArgs false
set_option linter.unusedVariables false
set_option maxRecDepth 100000
theorem toNat_pred (i : Nat) : ((i : Int) - 1).toNat = i - 1 := by omega
def pathOk (q s : Int) (l : List Stp7) (f b : Int) : Prop :=
  (1 ≤ q ∧ q ≤ s ∧ s ≤ 50) ∧ (1 ≤ l.length ∧ l.length ≤ 40) ∧ (0 ≤ f ∧ f ≤ b ∧ b ≤ 10000) ∧ ∀ i, i < l.length → (l.getD i default).ok ∧ (0 < i → Stp7.nb (l.getD (i - 1) default) (l.getD i default))
instance (q s : Int) (l : List Stp7) (f b : Int) : Decidable (pathOk q s l f b) := by unfold pathOk; infer_instance
end Go.Ve

namespace Go.Ve
open Go.Proofs
set_option linter.unusedSimpArgs false
set_option linter.unusedVariables false
set_option maxRecDepth 100000
end Go.Ve

namespace Go.Ve
open Go.Proofs
set_option linter.unusedSimpArgs false
set_option linter.unusedVariables false
set_option maxRecDepth 100000
structure Path5 where
  q : Int
  s : Int
  l : List Stp7
  f : Int
  b : Int
  deriving Inhabited
def lapStep (l : List Box6) (i : Nat) : Stp7 := ⟨(l.getD i default).x, (l.getD i default).y, (l.getD i default).l, (l.getD i default).h, (l.getD i default).i, if 0 < i then min (l.getD i default).o ((l.getD (i - 1) default).o + 1) else (l.getD i default).o, false⟩
def lapF (l : List Box6) (i : Nat) : Int := if 0 < i then (l.getD (i - 1) default).i else 0
def lapB (l : List Box6) (i : Nat) : Int := if 0 < i then (l.getD (i - 1) default).o + 1 else 0
def lapTo (q s : Int) (l : List Box6) (i : Nat) : Path5 := ⟨q, s, (List.range i).map (lapStep l), lapF l i, lapB l i⟩
def lapOk (q s : Int) (l : List Box6) : Prop := (∀ i, i < l.length → (l.getD i default).ok) ∧ pathOk q s (lapTo q s l l.length).l (lapF l l.length) (lapB l l.length)
instance (q s : Int) (l : List Box6) : Decidable (lapOk q s l) := by unfold lapOk; infer_instance
end Go.Ve

namespace Go.Ve
open Go.Proofs
set_option linter.unusedSimpArgs false
set_option linter.unusedVariables false
set_option maxRecDepth 100000
def Path5.low (p : Path5) (k : Nat) : Int := if k < p.l.length then (p.l.getD k default).f else p.f
def Path5.high (p : Path5) (k : Nat) : Int := if k < p.l.length then (p.l.getD k default).b else p.b
def Path5.most (p : Path5) (k : Nat) : Int := if (p.l.getD k default).hold then 10000 else p.s
structure Span2 where
  lo : Int
  hi : Int
  deriving Inhabited
def Span2.row (s : Span2) : List AV := [.int .i64 s.lo, .int .i64 s.hi]
/-- Ahead: the earliest and the latest, from the first step on. -/
def Path5.fwd (p : Path5) : Nat → Span2
  | 0 => ⟨p.low 0, p.high 0⟩
  | k + 1 => ⟨max (p.low (k + 1)) ((p.fwd k).lo + p.q), min (p.high (k + 1)) ((p.fwd k).hi + p.most k)⟩
/-- Back again, from the last one. -/
def Path5.bwd (p : Path5) : Nat → Span2
  | 0 => p.fwd p.l.length
  | d + 1 => ⟨max (p.fwd (p.l.length - (d + 1))).lo ((p.bwd d).lo - p.most (p.l.length - (d + 1))), min (p.fwd (p.l.length - (d + 1))).hi ((p.bwd d).hi - p.q)⟩
def Path5.span (p : Path5) (k : Nat) : Span2 := p.bwd (p.l.length - k)
def Path5.can (p : Path5) : Prop := ∀ k, k < p.l.length + 1 → (p.span k).lo ≤ (p.span k).hi
instance (p : Path5) : Decidable p.can := by unfold Path5.can; infer_instance
def Path5.spans (p : Path5) : List Span2 := if p.can then (List.range (p.l.length + 1)).map p.span else []
/-- What the passes ask of the numbers. -/
structure Path5.calm (p : Path5) : Prop where
  q : 0 ≤ p.q ∧ p.q ≤ 50
  s : 0 ≤ p.s ∧ p.s ≤ 50
  n : p.l.length ≤ 1048576
  lo : ∀ k, k ≤ p.l.length → 0 ≤ p.low k
  hi : ∀ k, k ≤ p.l.length → p.high k ≤ 10000
theorem Path5.calm.most {p : Path5} (h : p.calm) (k : Nat) : 0 ≤ p.most k ∧ p.most k ≤ 10000 := by
  unfold Path5.most
  have := h.s
  split <;> omega
end Go.Ve

namespace Go.Ve
open Go.Proofs
set_option linter.unusedSimpArgs false
set_option linter.unusedVariables false
set_option maxRecDepth 100000
def irow (n : Int) : List AV := [.int .i64 n]
def unI : List AV → Int
  | [.int _ n] => n
  | _ => 0
theorem un_i (l : List Int) : (l.map irow).map unI = l := by
  rw [List.map_map]; exact List.map_id'' (fun s => rfl) l
/-- What the program starts from. -/
def Path5.ini (p : Path5) (bg : List Int) (k : Nat) : Span2 := if k < bg.length then ⟨max (p.low k) (bg.getD k default), min (p.high k) (bg.getD k default)⟩ else ⟨p.low k, p.high k⟩
/-- Ahead, as the program does it. -/
def Path5.wf (p : Path5) (bg : List Int) : Nat → Span2
  | 0 => p.ini bg 0
  | k + 1 => ⟨max (p.ini bg (k + 1)).lo (IntKind.i64.wrap ((p.wf bg k).lo + p.q)), if (p.l.getD k default).hold then (p.ini bg (k + 1)).hi else min (p.ini bg (k + 1)).hi (IntKind.i64.wrap ((p.wf bg k).hi + p.s))⟩
/-- Back again, as the program does it. -/
def Path5.wb (p : Path5) (bg : List Int) : Nat → Span2
  | 0 => p.wf bg p.l.length
  | d + 1 => ⟨if (p.l.getD (p.l.length - (d + 1)) default).hold then (p.wf bg (p.l.length - (d + 1))).lo else max (p.wf bg (p.l.length - (d + 1))).lo (IntKind.i64.wrap ((p.wb bg d).lo - p.s)), min (p.wf bg (p.l.length - (d + 1))).hi (IntKind.i64.wrap ((p.wb bg d).hi - p.q))⟩
def Path5.wsp (p : Path5) (bg : List Int) (j : Nat) : Span2 := p.wb bg (p.l.length - j)
def Path5.wcan (p : Path5) (bg : List Int) : Prop := ∀ k, k < p.l.length + 1 → (p.wsp bg k).lo ≤ (p.wsp bg k).hi
instance (p : Path5) (bg : List Int) : Decidable (p.wcan bg) := by unfold Path5.wcan; infer_instance
end Go.Ve

namespace Go.Ve
open Go.Proofs
set_option linter.unusedSimpArgs false
set_option linter.unusedVariables false
set_option maxRecDepth 100000
def heldStep (p : Path5) (bg : List Int) (k j : Nat) : Stp7 := if j < k then { p.l.getD j default with f := max (p.l.getD j default).f (bg.getD j default), b := min (p.l.getD j default).b (bg.getD j default) } else p.l.getD j default
def Path5.held (p : Path5) (bg : List Int) : Path5 := ⟨p.q, p.s, (List.range p.l.length).map (heldStep p bg bg.length), p.f, p.b⟩
end Go.Ve

namespace Go.Ve
open Go.Proofs
set_option linter.unusedSimpArgs false
set_option linter.unusedVariables false
set_option maxRecDepth 100000
def Path5.begun (p : Path5) (bg : List Int) : Prop := pathOk p.q p.s p.l p.f p.b ∧ bg.length ≤ p.l.length ∧ (p.held bg).can
instance (p : Path5) (bg : List Int) : Decidable (p.begun bg) := by unfold Path5.begun; infer_instance
def Path5.next (p : Path5) (bg : List Int) : Span2 := if p.begun bg then (p.held bg).span bg.length else ⟨0, 0⟩
end Go.Ve

namespace Go.Ve
set_option linter.unusedSimpArgs false
set_option linter.unusedVariables false
/-! The program's passes and the reference's come to the same. -/
section
variable {p : Path5} {bg : List Int}
end
end Go.Ve

namespace Go.Ve
open Go.Proofs
set_option linter.unusedSimpArgs false
set_option linter.unusedVariables false
set_option maxRecDepth 100000
end Go.Ve

namespace Go.Ve
open Go.Proofs
set_option linter.unusedSimpArgs false
set_option linter.unusedVariables false
set_option maxRecDepth 100000
def Path5.fit (p : Path5) : Prop := pathOk p.q p.s p.l p.f p.b ∧ p.can
instance (p : Path5) : Decidable p.fit := by unfold Path5.fit; infer_instance
end Go.Ve

namespace Go.Ve
open Go.Proofs
set_option linter.unusedSimpArgs false
set_option linter.unusedVariables false
set_option maxRecDepth 100000
def unBox : List AV → Box6
  | [.int _ x, .int _ y, .int _ l, .int _ h, .int _ i, .int _ o] => ⟨x, y, l, h, i, o⟩
  | _ => default
theorem un_box (l : List Box6) : (l.map Box6.row).map unBox = l := by
  rw [List.map_map]; exact List.map_id'' (fun s => rfl) l
end Go.Ve

namespace Go.Ve
open Go.Proofs
set_option linter.unusedSimpArgs false
set_option linter.unusedVariables false
set_option maxRecDepth 100000
theorem ext_of {α : Type} [Inhabited α] {a b : List α} (hl : a.length = b.length) (h : ∀ j, j < a.length → a.getD j default = b.getD j default) : a = b := by
  refine List.ext_getElem hl fun j h1 h2 => ?_
  have := h j h1
  simpa [h1, h2] using this
end Go.Ve

namespace Go.Ve
open Go.Proofs
set_option linter.unusedSimpArgs false
set_option linter.unusedVariables false
set_option maxRecDepth 100000
end Go.Ve

namespace Go.Ve
open Go.Proofs
set_option linter.unusedSimpArgs false
set_option linter.unusedVariables false
set_option maxRecDepth 100000
theorem take_all {α : Type} {f : α → List AV} {l : List α} : List.take l.length (List.map f l) = List.map f l := List.take_of_length_le (by simp)
def Path5.tail (p : Path5) (k : Nat) : Path5 := { p with l := p.l.drop k }
def Path5.after (p : Path5) (now : Int) : Path5 := if 1 < p.l.length then { p with l := p.l.set 1 { p.l.getD 1 default with f := max (p.l.getD 1 default).f (now + 1) } } else { p with f := max p.f (now + 1) }
end Go.Ve

namespace Go.Ve
set_option linter.unusedSimpArgs false
set_option linter.unusedVariables false
/-! The spans are those of flights. -/
section
variable {p : Path5}
end

/-! A path begun later, or at a later step. -/
/-- The first step's ticks set anew. -/
def Path5.first (p : Path5) (f b : Int) : Path5 := { p with l := p.l.set 0 { p.l.getD 0 default with f := f, b := b } }
def Path5.rest (p : Path5) (k : Nat) (f b now : Int) : Path5 := ((p.tail k).first f b).after now
section
variable {p : Path5} {k : Nat} {f b now : Int}
end
/-! Waiting ahead of the first step. -/
def Path5.wait (p : Path5) (now : Int) : Path5 := { p with l := p.l.set 0 { p.l.getD 0 default with f := max (p.l.getD 0 default).f (now + 1) } }
end Go.Ve

namespace Go.Ve
open Go.Proofs
set_option linter.unusedSimpArgs false
set_option linter.unusedVariables false
set_option maxRecDepth 100000
def Path5.restAt (p : Path5) (k e now : Int) : Path5 := p.rest k.toNat (max (p.l.getD k.toNat default).f e) (min (p.l.getD k.toNat default).b e) now
def Path5.goes (p : Path5) (k e now : Int) : Prop := pathOk p.q p.s p.l p.f p.b ∧ (0 ≤ k ∧ k < p.l.length) ∧ (0 ≤ e ∧ e ≤ now ∧ now ≤ 10000) ∧ (p.restAt k e now).can
instance (p : Path5) (k e now : Int) : Decidable (p.goes k e now) := by unfold Path5.goes; infer_instance
end Go.Ve

namespace Go.Ve
open Go.Proofs
set_option linter.unusedSimpArgs false
set_option linter.unusedVariables false
set_option maxRecDepth 100000
end Go.Ve

namespace Go.Ve
open Go.Proofs
set_option linter.unusedSimpArgs false
set_option linter.unusedVariables false
set_option maxRecDepth 100000
/-- The aircraft can stay where it is behind now. -/
def Path5.stays (p : Path5) (bg : List Int) (now : Int) : Prop := if bg.length = 0 then pathOk p.q p.s p.l p.f p.b ∧ (p.wait now).can else p.goes ((bg.length : Int) - 1) (bg.getD (bg.length - 1) default) now
instance (p : Path5) (bg : List Int) (now : Int) : Decidable (p.stays bg now) := by unfold Path5.stays; infer_instance
end Go.Ve

namespace Go.Ve
open Go.Proofs
set_option linter.unusedSimpArgs false
set_option linter.unusedVariables false
set_option maxRecDepth 100000
def Path5.must (p : Path5) (bg : List Int) (now : Int) : Prop := p.begun bg ∧ ((p.next bg).lo ≤ now ∧ now ≤ (p.next bg).hi) ∧ ¬ p.stays bg now
instance (p : Path5) (bg : List Int) (now : Int) : Decidable (p.must bg now) := by unfold Path5.must; infer_instance
end Go.Ve

namespace Go.Ve
open Go.Proofs
set_option linter.unusedSimpArgs false
set_option linter.unusedVariables false
set_option maxRecDepth 100000
def szOf (a : Int) (n : Nat) : Int := if a - n < 0 then -1 else a - n
theorem Box6.eq_iff (a b : Box6) : a = b ↔ a.x = b.x ∧ a.y = b.y ∧ a.l = b.l ∧ a.h = b.h ∧ a.i = b.i ∧ a.o = b.o := ⟨fun h => by subst h; exact ⟨rfl, rfl, rfl, rfl, rfl, rfl⟩, fun h => by
  cases a; cases b; simp only at h; simp only [Box6.mk.injEq]; exact h⟩
instance : DecidableEq Box6 := fun a b => decidable_of_iff _ (Box6.eq_iff a b).symm
end Go.Ve

namespace Go.Ve
open Go.Proofs
set_option linter.unusedSimpArgs false
set_option linter.unusedVariables false
set_option maxRecDepth 100000
structure Kind2 where
  q : Int
  s : Int
  deriving Inhabited
theorem no99_i (l : List Int) : No99LL (l.map irow) := by
  induction l with
  | nil => trivial
  | cons x l ih => exact ⟨⟨trivial, trivial⟩, ih⟩
theorem no99_box (l : List Box6) : No99LL (l.map Box6.row) := by
  induction l with
  | nil => trivial
  | cons x l ih => exact ⟨⟨trivial, trivial, trivial, trivial, trivial, trivial, trivial⟩, ih⟩
theorem Kind2.eq_iff (a b : Kind2) : a = b ↔ a.q = b.q ∧ a.s = b.s := ⟨fun h => by subst h; exact ⟨rfl, rfl⟩, fun h => by
  cases a; cases b; simp only at h; simp only [Kind2.mk.injEq]; exact h⟩
instance : DecidableEq Kind2 := fun a b => decidable_of_iff _ (Kind2.eq_iff a b).symm
end Go.Ve

namespace Go.Ve
noncomputable section
open Go.Proofs
set_option linter.unusedSimpArgs false
set_option linter.unusedVariables false
set_option maxRecDepth 100000
structure Zone where
  nm : ByteArray
  x0 : Int
  y0 : Int
  x1 : Int
  y1 : Int
  deriving Inhabited, DecidableEq
def Zone.row (s : Zone) : List AV := [.str s.nm, .int .i64 s.x0, .int .i64 s.y0, .int .i64 s.x1, .int .i64 s.y1]
def unZone : List AV → Zone
  | [.str vnm, .int .i64 vx0, .int .i64 vy0, .int .i64 vx1, .int .i64 vy1] => (Zone.mk vnm vx0 vy0 vx1 vy1)
  | _ => default
theorem unZone_row (s : Zone) : unZone (Zone.row s) = s := by
  cases s; simp only [Zone.row, unZone]
theorem un_Zone (l : List Zone) : (l.map Zone.row).map unZone = l := by
  rw [List.map_map]; exact List.map_id'' (fun s => unZone_row s) l
theorem Zone_eta (s : Zone) : (Zone.mk s.nm s.x0 s.y0 s.x1 s.y1) = s := (rfl)
theorem no99_Zone (l : List Zone) : No99LL (l.map Zone.row) := by
  induction l with
  | nil => simp [No99LL]
  | cons x l ih => simp only [List.map_cons, No99LL]; exact ⟨by simp [Zone.row, No99L, No99], ih⟩
structure Word where
  kd : Int
  fr : ByteArray
  dst : ByteArray
  fl : ByteArray
  nr : Int
  la : Int
  tn : Int
  tu : List Box6
  deriving Inhabited, DecidableEq
def Word.row (t : Nat) (s : Word) : List AV := [.int .i64 s.kd, .str s.fr, .str s.dst, .str s.fl, .int .i64 s.nr, .int .i64 s.la, .int .i64 s.tn, .sl t 6 (s.tu.map Box6.row)]
def unWord : List AV → Word
  | [.int .i64 vkd, .str vfr, .str vdst, .str vfl, .int .i64 vnr, .int .i64 vla, .int .i64 vtn, .sl _ 6 vtu] => (Word.mk vkd vfr vdst vfl vnr vla vtn (vtu.map unBox))
  | _ => default
theorem unWord_row (t : Nat) (s : Word) : unWord (Word.row t s) = s := by
  cases s; simp only [Word.row, unWord, un_box]
theorem un_Word (t : Nat) (l : List Word) : (l.map (Word.row t)).map unWord = l := by
  rw [List.map_map]; exact List.map_id'' (fun s => unWord_row t s) l
theorem Word_eta (s : Word) : (Word.mk s.kd s.fr s.dst s.fl s.nr s.la s.tn s.tu) = s := (rfl)
theorem no99_Word (l : List Word) : No99LL (l.map (Word.row 0)) := by
  induction l with
  | nil => simp [No99LL]
  | cons x l ih => simp only [List.map_cons, No99LL]; exact ⟨by simp [Word.row, No99L, No99, no99_box], ih⟩
structure Own where
  fl : ByteArray
  st : Int
  tn : Int
  dst : ByteArray
  la : Int
  nr : Int
  tu : List Box6
  wi : Int
  nx : List Box6
  gr : List ByteArray
  sent : Bool
  deriving Inhabited, DecidableEq
def Own.row (t : Nat) (s : Own) : List AV := [.str s.fl, .int .i64 s.st, .int .i64 s.tn, .str s.dst, .int .i64 s.la, .int .i64 s.nr, .sl t 6 (s.tu.map Box6.row), .int .i64 s.wi, .sl t 6 (s.nx.map Box6.row), .sl t 1 (s.gr.map srow), .bool s.sent]
def unOwn : List AV → Own
  | [.str vfl, .int .i64 vst, .int .i64 vtn, .str vdst, .int .i64 vla, .int .i64 vnr, .sl _ 6 vtu, .int .i64 vwi, .sl _ 6 vnx, .sl _ 1 vgr, .bool vsent] => (Own.mk vfl vst vtn vdst vla vnr (vtu.map unBox) vwi (vnx.map unBox) (vgr.map unS) vsent)
  | _ => default
theorem unOwn_row (t : Nat) (s : Own) : unOwn (Own.row t s) = s := by
  cases s; simp only [Own.row, unOwn, un_box, un_box, un_s]
theorem un_Own (t : Nat) (l : List Own) : (l.map (Own.row t)).map unOwn = l := by
  rw [List.map_map]; exact List.map_id'' (fun s => unOwn_row t s) l
theorem Own_eta (s : Own) : (Own.mk s.fl s.st s.tn s.dst s.la s.nr s.tu s.wi s.nx s.gr s.sent) = s := (rfl)
theorem no99_Own (l : List Own) : No99LL (l.map (Own.row 0)) := by
  induction l with
  | nil => simp [No99LL]
  | cons x l ih => simp only [List.map_cons, No99LL]; exact ⟨by simp [Own.row, No99L, No99, no99_box, no99_box, no99_str], ih⟩
structure Part where
  fl : ByteArray
  nr : Int
  bx : List Box6
  deriving Inhabited, DecidableEq
def Part.row (t : Nat) (s : Part) : List AV := [.str s.fl, .int .i64 s.nr, .sl t 6 (s.bx.map Box6.row)]
def unPart : List AV → Part
  | [.str vfl, .int .i64 vnr, .sl _ 6 vbx] => (Part.mk vfl vnr (vbx.map unBox))
  | _ => default
theorem unPart_row (t : Nat) (s : Part) : unPart (Part.row t s) = s := by
  cases s; simp only [Part.row, unPart, un_box]
theorem un_Part (t : Nat) (l : List Part) : (l.map (Part.row t)).map unPart = l := by
  rw [List.map_map]; exact List.map_id'' (fun s => unPart_row t s) l
theorem Part_eta (s : Part) : (Part.mk s.fl s.nr s.bx) = s := (rfl)
theorem no99_Part (l : List Part) : No99LL (l.map (Part.row 0)) := by
  induction l with
  | nil => simp [No99LL]
  | cons x l ih => simp only [List.map_cons, No99LL]; exact ⟨by simp [Part.row, No99L, No99, no99_box], ih⟩
structure Seen where
  fl : ByteArray
  nr : Int
  deriving Inhabited, DecidableEq
def Seen.row (s : Seen) : List AV := [.str s.fl, .int .i64 s.nr]
def unSeen : List AV → Seen
  | [.str vfl, .int .i64 vnr] => (Seen.mk vfl vnr)
  | _ => default
theorem unSeen_row (s : Seen) : unSeen (Seen.row s) = s := by
  cases s; simp only [Seen.row, unSeen]
theorem un_Seen (l : List Seen) : (l.map Seen.row).map unSeen = l := by
  rw [List.map_map]; exact List.map_id'' (fun s => unSeen_row s) l
theorem Seen_eta (s : Seen) : (Seen.mk s.fl s.nr) = s := (rfl)
theorem no99_Seen (l : List Seen) : No99LL (l.map Seen.row) := by
  induction l with
  | nil => simp [No99LL]
  | cons x l ih => simp only [List.map_cons, No99LL]; exact ⟨by simp [Seen.row, No99L, No99], ih⟩
structure Book where
  own : List Own
  parts : List Part
  seen : List Seen
  deriving Inhabited, DecidableEq
def Book.row (t : Nat) (s : Book) : List AV := [.sl t 11 (s.own.map (Own.row t)), .sl t 3 (s.parts.map (Part.row t)), .sl t 2 (s.seen.map Seen.row)]
def unBook : List AV → Book
  | [.sl _ 11 vown, .sl _ 3 vparts, .sl _ 2 vseen] => (Book.mk (vown.map unOwn) (vparts.map unPart) (vseen.map unSeen))
  | _ => default
theorem unBook_row (t : Nat) (s : Book) : unBook (Book.row t s) = s := by
  cases s; simp only [Book.row, unBook, un_Own, un_Part, un_Seen]
theorem un_Book (t : Nat) (l : List Book) : (l.map (Book.row t)).map unBook = l := by
  rw [List.map_map]; exact List.map_id'' (fun s => unBook_row t s) l
theorem Book_eta (s : Book) : (Book.mk s.own s.parts s.seen) = s := (rfl)
theorem no99_Book (l : List Book) : No99LL (l.map (Book.row 0)) := by
  induction l with
  | nil => simp [No99LL]
  | cons x l ih => simp only [List.map_cons, No99LL]; exact ⟨by simp [Book.row, No99L, No99, no99_Own, no99_Part, no99_Seen], ih⟩
structure Sector where
  up : Bool
  mo : List Own
  mp : List Part
  ms : List Seen
  dn : List Own
  dp : List Part
  ds : List Seen
  ot : List Word
  deriving Inhabited, DecidableEq
def Sector.row (t : Nat) (s : Sector) : List AV := [.bool s.up, .sl t 11 (s.mo.map (Own.row t)), .sl t 3 (s.mp.map (Part.row t)), .sl t 2 (s.ms.map Seen.row), .sl t 11 (s.dn.map (Own.row t)), .sl t 3 (s.dp.map (Part.row t)), .sl t 2 (s.ds.map Seen.row), .sl t 8 (s.ot.map (Word.row t))]
def unSector : List AV → Sector
  | [.bool vup, .sl _ 11 vmo, .sl _ 3 vmp, .sl _ 2 vms, .sl _ 11 vdn, .sl _ 3 vdp, .sl _ 2 vds, .sl _ 8 vot] => (Sector.mk vup (vmo.map unOwn) (vmp.map unPart) (vms.map unSeen) (vdn.map unOwn) (vdp.map unPart) (vds.map unSeen) (vot.map unWord))
  | _ => default
theorem unSector_row (t : Nat) (s : Sector) : unSector (Sector.row t s) = s := by
  cases s; simp only [Sector.row, unSector, un_Own, un_Part, un_Seen, un_Own, un_Part, un_Seen, un_Word]
theorem un_Sector (t : Nat) (l : List Sector) : (l.map (Sector.row t)).map unSector = l := by
  rw [List.map_map]; exact List.map_id'' (fun s => unSector_row t s) l
theorem Sector_eta (s : Sector) : (Sector.mk s.up s.mo s.mp s.ms s.dn s.dp s.ds s.ot) = s := (rfl)
theorem no99_Sector (l : List Sector) : No99LL (l.map (Sector.row 0)) := by
  induction l with
  | nil => simp [No99LL]
  | cons x l ih => simp only [List.map_cons, No99LL]; exact ⟨by simp [Sector.row, No99L, No99, no99_Own, no99_Part, no99_Seen, no99_Own, no99_Part, no99_Seen, no99_Word], ih⟩
structure HCraft where
  nm : ByteArray
  nr : Int
  no : Int
  tu : List Box6
  deriving Inhabited, DecidableEq
def HCraft.row (t : Nat) (s : HCraft) : List AV := [.str s.nm, .int .i64 s.nr, .int .i64 s.no, .sl t 6 (s.tu.map Box6.row)]
def unHCraft : List AV → HCraft
  | [.str vnm, .int .i64 vnr, .int .i64 vno, .sl _ 6 vtu] => (HCraft.mk vnm vnr vno (vtu.map unBox))
  | _ => default
theorem unHCraft_row (t : Nat) (s : HCraft) : unHCraft (HCraft.row t s) = s := by
  cases s; simp only [HCraft.row, unHCraft, un_box]
theorem un_HCraft (t : Nat) (l : List HCraft) : (l.map (HCraft.row t)).map unHCraft = l := by
  rw [List.map_map]; exact List.map_id'' (fun s => unHCraft_row t s) l
theorem HCraft_eta (s : HCraft) : (HCraft.mk s.nm s.nr s.no s.tu) = s := (rfl)
theorem no99_HCraft (l : List HCraft) : No99LL (l.map (HCraft.row 0)) := by
  induction l with
  | nil => simp [No99LL]
  | cons x l ih => simp only [List.map_cons, No99LL]; exact ⟨by simp [HCraft.row, No99L, No99, no99_box], ih⟩
structure World where
  zones : List Zone
  secs : List Sector
  crafts : List HCraft
  radio : List Word
  deriving Inhabited, DecidableEq
def World.row (t : Nat) (s : World) : List AV := [.sl t 5 (s.zones.map Zone.row), .sl t 8 (s.secs.map (Sector.row t)), .sl t 4 (s.crafts.map (HCraft.row t)), .sl t 8 (s.radio.map (Word.row t))]
def unWorld : List AV → World
  | [.sl _ 5 vzones, .sl _ 8 vsecs, .sl _ 4 vcrafts, .sl _ 8 vradio] => (World.mk (vzones.map unZone) (vsecs.map unSector) (vcrafts.map unHCraft) (vradio.map unWord))
  | _ => default
theorem unWorld_row (t : Nat) (s : World) : unWorld (World.row t s) = s := by
  cases s; simp only [World.row, unWorld, un_Zone, un_Sector, un_HCraft, un_Word]
theorem un_World (t : Nat) (l : List World) : (l.map (World.row t)).map unWorld = l := by
  rw [List.map_map]; exact List.map_id'' (fun s => unWorld_row t s) l
theorem World_eta (s : World) : (World.mk s.zones s.secs s.crafts s.radio) = s := (rfl)
theorem no99_World (l : List World) : No99LL (l.map (World.row 0)) := by
  induction l with
  | nil => simp [No99LL]
  | cons x l ih => simp only [List.map_cons, No99LL]; exact ⟨by simp [World.row, No99L, No99, no99_Zone, no99_Sector, no99_HCraft, no99_Word], ih⟩
theorem c_isName (s : ByteArray) : Contract P 90 [.str s] [] (.bool (decide (nameOk s))) [] := by
  refine fn_sound (Env.nil P) hm k_impl_isName (Nat.le_of_ble_eq_true rfl) rfl ?_; unfold s_impl_isName; simp (config := { maxSteps := 2000000 }) only [bitvec_to_nat, reduceIte, Nat.reduceEqDiff, Nat.reduceAdd, Nat.reduceLeDiff, reduceCtorEq, Nat.reduceBEq, Nat.reduceLT, Nat.reduceMod, List.forall_mem_cons]
  refine ⟨fun h1 => ?_, fun h1 => ⟨fun h2 => ?_, fun h2 => ?_⟩⟩
  · grind [nameOk]
  · grind [nameOk]
  · refine loop_st (fun i : Nat => [(3, .int .i64 i)]) (fun _ => []) (fun i => i ≤ s.toList.length ∧ ∀ j, j < i → charOk (s.toList.getD j 0)) (fun i => s.toList.length - i) (0) (by simp only [u_E0, u_E1, u_M0, u_M1, w_setE0, w_setE1, w_setM0, w_setM1, reduceIte, Nat.reduceEqDiff]; exact ⟨by repeat' (first | exact trivial | refine ⟨.inr rfl, ?_⟩), by repeat' (first | exact trivial | refine ⟨rfl, ?_⟩), by first | rfl | simp [closedB, refsIn, refsInL, refsInO, dom, refsInL_nr, *], by first | rfl | simp [keepB, dom]⟩) ?_ ?_
    · exact ⟨Nat.zero_le _, by intro j hj; omega⟩
    intro i hi NX hN
    unfold l_impl_isName_0; simp (config := { maxSteps := 2000000 }) only [bitvec_to_nat, reduceIte, Nat.reduceEqDiff, Nat.reduceAdd, Nat.reduceLeDiff, reduceCtorEq, Nat.reduceBEq, Nat.reduceLT, Nat.reduceMod, List.forall_mem_cons]
    repeat' (first | apply And.intro | intro _)
    all_goals first
      | omega
      | (refine hN (i + 1) _ (by simp only [u_E0, u_E1, u_M0, u_M1, w_setE0, w_setE1, w_setM0, w_setM1, reduceIte, Nat.reduceEqDiff]; exact ⟨by repeat' (first | exact trivial | refine ⟨.inr rfl, ?_⟩), by repeat' (first | exact trivial | refine ⟨rfl, ?_⟩), by first | rfl | simp [closedB, refsIn, refsInL, refsInO, dom, refsInL_nr, *], by first | rfl | simp [keepB, dom]⟩) ?_ ?_
         · exact ⟨by omega, all_snoc hi.2 (by grind [charOk])⟩
         · omega)
      | grind [nameOk, charOk]
end
end Go.Ve

namespace Go.Ve
noncomputable section
open Go.Proofs
set_option linter.unusedSimpArgs false
set_option linter.unusedVariables false
set_option maxRecDepth 100000
theorem tk_map {α : Type} {f : α → List AV} {l : List α} {n : Nat} : List.take n (List.map f l) = List.map f (List.take n l) := (List.map_take).symm
theorem dp_map {α : Type} {f : α → List AV} {l : List α} {n : Nat} : List.drop n (List.map f l) = List.map f (List.drop n l) := (List.map_drop).symm
def t_isName : List AV → Option (Prop × AV)
  | [.str s] => some ((True) ∧ (True), .bool (decide (nameOk s)))
  | _ => none
theorem h_isName : ∀ args p v, t_isName args = some (p, v) → p → Contract P 90 args [] v [] ∧ noref v = true ∧ No99 v := by
  intro args p v h1 h2
  unfold t_isName at h1
  split at h1
  · rename_i s
    cases h1
    obtain ⟨_, HP⟩ := h2
    have := c_isName s
    exact ⟨this, rfl, trivial⟩
  · cases h1
def Zone.ok (z : Zone) : Prop := nameOk z.nm ∧ (0 ≤ z.x0 ∧ z.x0 ≤ z.x1 ∧ z.x1 < 16) ∧ (0 ≤ z.y0 ∧ z.y0 ≤ z.y1 ∧ z.y1 < 16)
def Zone.meet (o z : Zone) : Prop := o.x0 ≤ z.x1 ∧ z.x0 ≤ o.x1 ∧ o.y0 ≤ z.y1 ∧ z.y0 ≤ o.y1
def zoneAt (zs : List Zone) (i : Nat) : Prop := (zs.getD i default).ok ∧ (0 < i → slt (zs.getD (i - 1) default).nm (zs.getD i default).nm) ∧ ∀ k, k < i → ¬ (zs.getD k default).meet (zs.getD i default)
def zonesOk (zs : List Zone) : Prop := (1 ≤ zs.length ∧ zs.length ≤ 4) ∧ ∀ i, i < zs.length → zoneAt zs i
noncomputable instance (zs : List Zone) : Decidable (zonesOk zs) := Classical.propDecidable _
end
end Go.Ve

namespace Go.Ve
noncomputable section
open Go.Proofs
set_option linter.unusedSimpArgs false
set_option linter.unusedVariables false
set_option maxRecDepth 100000
structure PKind where
  nm : ByteArray
  q : Int
  sl : Int
  deriving Inhabited, DecidableEq
def PKind.row (s : PKind) : List AV := [.str s.nm, .int .i64 s.q, .int .i64 s.sl]
def unPKind : List AV → PKind
  | [.str vnm, .int .i64 vq, .int .i64 vsl] => (PKind.mk vnm vq vsl)
  | _ => default
theorem unPKind_row (s : PKind) : unPKind (PKind.row s) = s := by
  cases s; simp only [PKind.row, unPKind]
theorem un_PKind (l : List PKind) : (l.map PKind.row).map unPKind = l := by
  rw [List.map_map]; exact List.map_id'' (fun s => unPKind_row s) l
theorem PKind_eta (s : PKind) : (PKind.mk s.nm s.q s.sl) = s := (rfl)
theorem PKind_len (s : PKind) : (PKind.row s).length = 3 := (rfl)
theorem PKind_nr (s : PKind) : norefL (PKind.row s) = true := (rfl)
theorem no99_PKind (l : List PKind) : No99LL (l.map PKind.row) := by
  induction l with
  | nil => simp [No99LL]
  | cons x l ih => simp only [List.map_cons, No99LL]; exact ⟨by simp [PKind.row, No99L, No99], ih⟩
theorem PKind_take (s : PKind) : List.take 3 (PKind.row s) = PKind.row s := (rfl)
structure PPt where
  nm : ByteArray
  x : Int
  y : Int
  deriving Inhabited, DecidableEq
def PPt.row (s : PPt) : List AV := [.str s.nm, .int .i64 s.x, .int .i64 s.y]
def unPPt : List AV → PPt
  | [.str vnm, .int .i64 vx, .int .i64 vy] => (PPt.mk vnm vx vy)
  | _ => default
theorem unPPt_row (s : PPt) : unPPt (PPt.row s) = s := by
  cases s; simp only [PPt.row, unPPt]
theorem un_PPt (l : List PPt) : (l.map PPt.row).map unPPt = l := by
  rw [List.map_map]; exact List.map_id'' (fun s => unPPt_row s) l
theorem PPt_eta (s : PPt) : (PPt.mk s.nm s.x s.y) = s := (rfl)
theorem PPt_len (s : PPt) : (PPt.row s).length = 3 := (rfl)
theorem PPt_nr (s : PPt) : norefL (PPt.row s) = true := (rfl)
theorem no99_PPt (l : List PPt) : No99LL (l.map PPt.row) := by
  induction l with
  | nil => simp [No99LL]
  | cons x l ih => simp only [List.map_cons, No99LL]; exact ⟨by simp [PPt.row, No99L, No99], ih⟩
theorem PPt_take (s : PPt) : List.take 3 (PPt.row s) = PPt.row s := (rfl)
structure Cell where
  x : Int
  y : Int
  deriving Inhabited, DecidableEq
def Cell.row (s : Cell) : List AV := [.int .i64 s.x, .int .i64 s.y]
def unCell : List AV → Cell
  | [.int .i64 vx, .int .i64 vy] => (Cell.mk vx vy)
  | _ => default
theorem unCell_row (s : Cell) : unCell (Cell.row s) = s := by
  cases s; simp only [Cell.row, unCell]
theorem un_Cell (l : List Cell) : (l.map Cell.row).map unCell = l := by
  rw [List.map_map]; exact List.map_id'' (fun s => unCell_row s) l
theorem Cell_eta (s : Cell) : (Cell.mk s.x s.y) = s := (rfl)
theorem no99_Cell (l : List Cell) : No99LL (l.map Cell.row) := by
  induction l with
  | nil => simp [No99LL]
  | cons x l ih => simp only [List.map_cons, No99LL]; exact ⟨by simp [Cell.row, No99L, No99], ih⟩
open Go.ChangeShapes Go.WideShapes
/-- What is left when a list is counted, and each of its parts. -/
def szS {α : Type} (f : α → Int → Int) (l : List α) (a : Int) : Int := l.foldl (fun a x => f x a) (szOf a l.length)
def Meas {α : Type} (f : α → Int → Int) : Prop := ∀ x a, a ≤ 1048576 → (f x a = -1 ∨ 0 ≤ f x a) ∧ (a < 0 → f x a = -1) ∧ f x a ≤ max a (-1)
def chk (x : Int) (k : Int → Int) : Int := if x < 0 then -1 else k x
def Meas1 (g : Int → Int) : Prop := ∀ a, a ≤ 1048576 → (g a = -1 ∨ 0 ≤ g a) ∧ (a < 0 → g a = -1) ∧ g a ≤ max a (-1)
def MeasP (g : Int → Int) : Prop := ∀ a, 0 ≤ a → a ≤ 1048576 → (g a = -1 ∨ 0 ≤ g a) ∧ g a ≤ a
theorem Meas1.p {g : Int → Int} (h : Meas1 g) : MeasP g := fun a h0 h1 => ⟨(h a h1).1, by have := (h a h1).2.2; omega⟩
theorem measP_id : MeasP fun z => z := fun a h0 h1 => ⟨.inr h0, Int.le_refl a⟩
theorem chk_sub {k : Int → Int} (n : Nat) (h : MeasP k) : Meas1 fun a => chk (a - n) k := fun a ha => by
  simp only [chk]
  split
  · exact ⟨.inl rfl, fun _ => rfl, by omega⟩
  · rename_i h1
    have := h (a - n) (by omega) (by omega)
    exact ⟨this.1, fun _ => by omega, by omega⟩
theorem chk_g {g k : Int → Int} (hg : Meas1 g) (h : MeasP k) : Meas1 fun a => chk (g a) k := fun a ha => by
  have m := hg a ha
  simp only [chk]
  split
  · exact ⟨.inl rfl, fun _ => rfl, by omega⟩
  · rename_i h1
    have := h (g a) (by omega) (by omega)
    exact ⟨this.1, fun h2 => by have := m.2.1 h2; omega, by omega⟩
theorem chk_ok {x : Int} {k : Int → Int} (h : 0 ≤ chk x k) : 0 ≤ x ∧ 0 ≤ k x := by
  unfold chk at h; split at h
  · omega
  · exact ⟨by omega, h⟩
theorem fold_meas {α : Type} {f : α → Int → Int} (h : Meas f) : ∀ (l : List α) (a : Int), a ≤ 1048576 → (a = -1 ∨ 0 ≤ a) → (l.foldl (fun a x => f x a) a = -1 ∨ 0 ≤ l.foldl (fun a x => f x a) a) ∧ (a < 0 → l.foldl (fun a x => f x a) a = -1) ∧ l.foldl (fun a x => f x a) a ≤ max a (-1)
  | [], a, h1, h2 => ⟨h2, fun h3 => by simp only [List.foldl_nil]; omega, by simp only [List.foldl_nil]; omega⟩
  | x :: l, a, h1, h2 => by
    obtain ⟨k1, k2, k3⟩ := h x a h1
    obtain ⟨i1, i2, i3⟩ := fold_meas h l (f x a) (by omega) k1
    simp only [List.foldl_cons]
    exact ⟨i1, fun h3 => i2 (by have := k2 h3; omega), by omega⟩
theorem meas_szS {α : Type} {f : α → Int → Int} (h : Meas f) : Meas (szS f) := fun l a ha => by
  unfold szS
  have h0 : (szOf a l.length = -1 ∨ 0 ≤ szOf a l.length) ∧ (a < 0 → szOf a l.length = -1) ∧ szOf a l.length ≤ max a (-1) := by unfold szOf; split <;> omega
  obtain ⟨i1, i2, i3⟩ := fold_meas h l (szOf a l.length) (by omega) h0.1
  exact ⟨i1, fun h3 => i2 (by have := h0.2.1 h3; omega), by omega⟩
/-- A list that was counted is small, and so are its parts. -/
theorem fold_ok {α : Type} {f : α → Int → Int} {p : α → Prop} (h : Meas f) (hp : ∀ x a, a ≤ 1048576 → 0 ≤ f x a → p x) : ∀ (l : List α) (a : Int), a ≤ 1048576 → (a = -1 ∨ 0 ≤ a) → 0 ≤ l.foldl (fun a x => f x a) a → ∀ x ∈ l, p x
  | [], _, _, _, _, x, hx => by simp at hx
  | y :: l, a, h1, h2, h3, x, hx => by
    simp only [List.foldl_cons] at h3
    obtain ⟨k1, k2, k3⟩ := h y a h1
    have hy : 0 ≤ f y a := by
      rcases k1 with k1 | k1
      · have := (fold_meas h l (f y a) (by omega) (.inl k1)).2.1 (by omega); omega
      · exact k1
    rcases List.mem_cons.1 hx with rfl | hx
    · exact hp _ a h1 hy
    · exact fold_ok h hp l (f y a) (by omega) (.inr hy) h3 x hx
theorem szS_ok {α : Type} {f : α → Int → Int} {p : α → Prop} (h : Meas f) (hp : ∀ x a, a ≤ 1048576 → 0 ≤ f x a → p x) {l : List α} {a : Int} (ha : a ≤ 1048576) (h0 : 0 ≤ szS f l a) : l.length ≤ 1048576 ∧ ∀ x ∈ l, p x := by
  unfold szS at h0
  have hs : (szOf a l.length = -1 ∨ 0 ≤ szOf a l.length) ∧ szOf a l.length ≤ 1048576 := by unfold szOf; split <;> omega
  refine ⟨?_, fold_ok h hp l _ hs.2 hs.1 h0⟩
  rcases hs.1 with e | e
  · have := (fold_meas h l _ hs.2 (.inl e)).2.1 (by omega); omega
  · unfold szOf at e; split at e <;> omega
/-- One more part of a list. -/
theorem fold_take {α : Type} [Inhabited α] {f : α → Int → Int} {l : List α} {i : Nat} {a : Int} (hi : i < l.length) : (l.take (i + 1)).foldl (fun a x => f x a) a = f (l.getD i default) ((l.take i).foldl (fun a x => f x a) a) := by
  have e : l.getD i default = l[i] := by simp [hi]
  rw [e, List.take_succ_eq_append_getElem hi, List.foldl_append]; rfl
theorem fold_stop {α : Type} [Inhabited α] {f : α → Int → Int} (h : Meas f) {l : List α} {i : Nat} {a : Int} (hi : i < l.length) (ha : a ≤ 1048576) (h0 : a = -1 ∨ 0 ≤ a) (hn : f (l.getD i default) ((l.take i).foldl (fun a x => f x a) a) < 0) : l.foldl (fun a x => f x a) a = -1 := by
  rw [← fold_take (f := f) hi] at hn
  have e : l.foldl (fun a x => f x a) a = (l.drop (i + 1)).foldl (fun a x => f x a) ((l.take (i + 1)).foldl (fun a x => f x a) a) := by
    rw [← List.foldl_append, List.take_append_drop]
  rw [e]
  have k := fold_meas h (l.take (i + 1)) a ha h0
  exact (fold_meas h _ _ (by omega) k.1).2.1 hn
theorem fit_rows2 {α : Type} {f : α → List AV} {p : α → Prop} {rs : List LSh} (h : ∀ r, fitsL rs r → ∃ x : α, r = f x ∧ p x) : ∀ {rows : List (List AV)}, (∀ r ∈ rows, fitsL rs r) → ∃ l : List α, rows = l.map f ∧ ∀ x ∈ l, p x
  | [], _ => ⟨[], rfl, by simp⟩
  | r :: rows, k => by
    obtain ⟨x, rfl, hx⟩ := h r (k r (by simp))
    obtain ⟨l, rfl, hl⟩ := fit_rows2 h (rows := rows) fun r' h' => k r' (by simp [h'])
    exact ⟨x :: l, rfl, by simpa using ⟨hx, hl⟩⟩
theorem getD_mem' {α : Type} [Inhabited α] {l : List α} {i : Nat} (h : i < l.length) : l.getD i default ∈ l := by simp [h]
theorem getD_seti' {α : Type} {l : List α} {i : Nat} {x d : α} (h : i < l.length) : (l.set i x).getD i d = x := by simp [h]
theorem getD_setn' {α : Type} {l : List α} {i j : Nat} {x d : α} (h : i ≠ j) : (l.set i x).getD j d = l.getD j d := by simp [List.getElem?_set_ne h]
theorem keyEq_str {a b : ByteArray} : keyEq (.str a) (.str b) = decide (a = b) := str_eq
def cellKey (c : Int × Int) : AV := .agg [.int .i64 c.1, .int .i64 c.2]
theorem keyEq_cell {a b : Int × Int} : keyEq (cellKey a) (cellKey b) = decide (a = b) := by
  obtain ⟨a1, a2⟩ := a
  obtain ⟨b1, b2⟩ := b
  by_cases h : a1 = b1 <;> by_cases k : a2 = b2 <;> simp [keyEq, cellKey, intsEq, h, k]
theorem keyP_str {s : ByteArray} : keyP 0 (.str s) = (s.toList.length ≤ 9223372036854775807) := by
  rw [← toList_size]
  exact propext ⟨fun ⟨_, h, h2⟩ => by cases h; exact h2, fun h => ⟨s, rfl, h⟩⟩
theorem wf64 {m : Int} : (Lit.int .i64 m).wf = decide (-9223372036854775808 ≤ m ∧ m ≤ 9223372036854775807) := by
  have h1 : IntKind.i64.min = -9223372036854775808 := by decide
  have h2 : IntKind.i64.max = 9223372036854775807 := by decide
  simp [Lit.wf, h1, h2, Bool.decide_and]
theorem keyP_cell {a b : Int} : keyP 2 (.agg [.int .i64 a, .int .i64 b]) = ((-9223372036854775808 ≤ a ∧ a ≤ 9223372036854775807) ∧ -9223372036854775808 ≤ b ∧ b ≤ 9223372036854775807) := by
  refine propext ⟨fun ⟨ls, h, _, h2⟩ => ?_, fun ⟨h1, h2⟩ => ⟨_, rfl, rfl, fun y hy => ?_⟩⟩
  · cases h
    obtain ⟨m, h3, h4⟩ := h2 (.int .i64 a) (by simp)
    obtain ⟨m', h5, h6⟩ := h2 (.int .i64 b) (by simp)
    cases h3; cases h5
    rw [wf64] at h4 h6
    exact ⟨of_decide_eq_true h4, of_decide_eq_true h6⟩
  · rcases List.mem_cons.1 hy with rfl | hy
    · exact ⟨a, rfl, by rw [wf64]; exact decide_eq_true h1⟩
    · rcases List.mem_cons.1 hy with rfl | hy
      · exact ⟨b, rfl, by rw [wf64]; exact decide_eq_true h2⟩
      · cases hy
/-- A map that is a set. -/
def setOf {κ : Type} (f : κ → AV) (l : List κ) : List (AV × AV) := l.foldl (fun es a => putV es (f a) (.bool true)) []
def isIn {κ : Type} (q : κ) (l : List κ) : Prop := q ∈ l
noncomputable instance {κ : Type} (q : κ) (l : List κ) : Decidable (isIn q l) := Classical.propDecidable _
section
variable {κ : Type} {f : κ → AV} (inj : ∀ {a b}, keyEq (f a) (f b) = true ↔ a = b)
include inj
theorem put_map (a : κ) : ∀ ks : List κ, ∃ ks' : List κ, putV (ks.map fun k => (f k, .bool true)) (f a) (.bool true) = (ks'.map fun k => (f k, AV.bool true)) ∧ ∀ q, q ∈ ks' ↔ q ∈ ks ∨ q = a
  | [] => ⟨[a], rfl, by simp⟩
  | k :: ks => by
    by_cases h : k = a
    · subst h
      refine ⟨k :: ks, by simp only [List.map_cons, putV, inj.2 rfl, if_true], fun q => ?_⟩
      simp only [List.mem_cons]
      constructor
      · exact fun h => .inl h
      · rintro (h | rfl)
        · exact h
        · exact .inl rfl
    · obtain ⟨ks', h1, h2⟩ := put_map a ks
      have hn : ¬ keyEq (f k) (f a) = true := fun e => h (inj.1 e)
      refine ⟨k :: ks', by simp only [List.map_cons, putV, h1, hn]; rfl, fun q => ?_⟩
      simp only [List.mem_cons, h2, or_assoc]
theorem find_map (q : κ) : ∀ ks : List κ, findV (ks.map fun k => (f k, AV.bool true)) (f q) (.bool false) = .bool (decide (isIn q ks))
  | [] => by simp [findV, isIn]
  | k :: ks => by
    simp only [List.map_cons, findV, find_map q ks]
    by_cases h : k = q
    · subst h; simp [inj.2 rfl, isIn]
    · have hn : ¬ keyEq (f k) (f q) = true := fun e => h (inj.1 e)
      simp only [hn, Bool.false_eq_true, if_false, AV.bool.injEq, decide_eq_decide]
      simp only [isIn, List.mem_cons, Ne.symm h, false_or]
theorem setOf_keys (l : List κ) : ∃ ks : List κ, setOf f l = (ks.map fun k => (f k, AV.bool true)) ∧ ∀ q, q ∈ ks ↔ q ∈ l := by
  have key : ∀ (l ks : List κ), ∃ ks' : List κ, l.foldl (fun es a => putV es (f a) (.bool true)) (ks.map fun k => (f k, AV.bool true)) = (ks'.map fun k => (f k, AV.bool true)) ∧ ∀ q, q ∈ ks' ↔ q ∈ ks ∨ q ∈ l := by
    intro l
    induction l with
    | nil => intro ks; exact ⟨ks, rfl, by simp⟩
    | cons a l ih =>
      intro ks
      simp only [List.foldl_cons]
      obtain ⟨k1, h1, h2⟩ := put_map inj a ks
      rw [h1]
      obtain ⟨ks', h3, h4⟩ := ih k1
      exact ⟨ks', h3, fun q => by rw [h4, h2, List.mem_cons, or_assoc]⟩
  obtain ⟨ks, h1, h2⟩ := key l []
  exact ⟨ks, h1, by simpa using h2⟩
theorem setOf_find (l : List κ) (q : κ) : findV (setOf f l) (f q) (.bool false) = .bool (decide (isIn q l)) := by
  obtain ⟨ks, h1, h2⟩ := setOf_keys inj l
  rw [h1, find_map inj]
  simp only [AV.bool.injEq, decide_eq_decide]
  exact h2 q
end
theorem find_str {l : List ByteArray} {q : ByteArray} : findV (setOf AV.str l) (.str q) (.bool false) = .bool (decide (isIn q l)) := setOf_find (f := AV.str) (by intro a b; rw [keyEq_str]; simp) l q
theorem find_cell {l : List (Int × Int)} {a b : Int} : findV (setOf cellKey l) (.agg [.int .i64 a, .int .i64 b]) (.bool false) = .bool (decide (isIn (a, b) l)) := setOf_find (f := cellKey) (by intro a b; rw [keyEq_cell]; simp) l (a, b)
theorem put_str {l : List ByteArray} {q : ByteArray} : putV (setOf AV.str l) (.str q) (.bool true) = setOf AV.str (l ++ [q]) := by simp [setOf]
theorem put_cell {l : List (Int × Int)} {a b : Int} : putV (setOf cellKey l) (.agg [.int .i64 a, .int .i64 b]) (.bool true) = setOf cellKey (l ++ [(a, b)]) := by simp [setOf, cellKey]
theorem take_map_snoc {α β : Type} [Inhabited α] {f : α → β} {l : List α} {i : Nat} (hi : i < l.length) : (l.take (i + 1)).map f = (l.take i).map f ++ [f (l.getD i default)] := by
  have e : l.getD i default = l[i] := by simp [hi]
  rw [e, List.take_succ_eq_append_getElem hi, List.map_append]; rfl
theorem mem_take_map {α β : Type} [Inhabited α] {f : α → β} {l : List α} {i : Nat} (hi : i ≤ l.length) {q : β} : q ∈ (l.take i).map f ↔ ∃ k, k < i ∧ f (l.getD k default) = q := by
  simp only [List.mem_map]
  constructor
  · rintro ⟨x, hx, rfl⟩
    obtain ⟨k, hk, rfl⟩ := List.mem_iff_getElem.1 hx
    rw [List.length_take] at hk
    exact ⟨k, by omega, by rw [List.getElem_take]; simp [show k < l.length by omega]⟩
  · rintro ⟨k, hk, rfl⟩
    exact ⟨_, List.mem_iff_getElem.2 ⟨k, by rw [List.length_take]; omega, rfl⟩, by rw [List.getElem_take]; simp [show k < l.length by omega]⟩
theorem isIn_cell {α : Type} [Inhabited α] {f : α → Int × Int} {l : List α} {i : Nat} (hi : i ≤ l.length) {q : Int × Int} : isIn q ((l.take i).map f) ↔ ∃ k, k < i ∧ f (l.getD k default) = q := mem_take_map hi
theorem c_l11In (n a b : Int) : Contract P 45 [.int .i64 n, .int .i64 a, .int .i64 b] [] (.bool (decide (a ≤ n ∧ n ≤ b))) [] := by
  refine fn_sound (Env.nil P) hm k_spec_l11In (Nat.le_of_ble_eq_true rfl) rfl ?_; unfold s_spec_l11In; simp (config := { maxSteps := 2000000 }) only [bitvec_to_nat, reduceIte, Nat.reduceEqDiff, Nat.reduceAdd, Nat.reduceLeDiff, reduceCtorEq, Nat.reduceBEq, Nat.reduceLT, Nat.reduceMod, List.forall_mem_cons]
  repeat' (first | with_reducible apply And.intro | with_reducible intro _)
  all_goals first | omega | grind
def t_l11In : List AV → Option (Prop × AV)
  | [.int .i64 n, .int .i64 a, .int .i64 b] => some ((True) ∧ (True), .bool (decide (a ≤ n ∧ n ≤ b)))
  | _ => none
theorem h_l11In : ∀ args p v, t_l11In args = some (p, v) → p → Contract P 45 args [] v [] ∧ noref v = true ∧ No99 v := by
  intro args p v h1 h2
  unfold t_l11In at h1
  split at h1
  · rename_i n a b
    cases h1
    obtain ⟨_, HP⟩ := h2
    have := c_l11In n a b
    exact ⟨this, rfl, trivial⟩
  · cases h1
theorem c_l11NameOk (s : ByteArray) (hp : True) : Contract P 54 [.str s] [] (.bool (decide (nameOk s))) [] := by
  refine fn_sound ((Env.nil P).add 45 t_l11In h_l11In) hm k_spec_l11NameOk (Nat.le_of_ble_eq_true rfl) rfl ?_; unfold s_spec_l11NameOk; simp (config := { maxSteps := 2000000 }) only [bitvec_to_nat, reduceIte, Nat.reduceEqDiff, Nat.reduceAdd, Nat.reduceLeDiff, reduceCtorEq, Nat.reduceBEq, Nat.reduceLT, Nat.reduceMod, List.forall_mem_cons, t_l11In]
  refine ⟨fun h1 => ?_, fun h1 => ?_⟩
  · refine loop_st (fun i : Nat => [(3, .int .i64 i)]) (fun _ => []) (fun i => i ≤ s.toList.length ∧ ∀ j, j < i → charOk (s.toList.getD j 0)) (fun i => s.toList.length - i) (0) (by simp only [u_E0, u_E1, u_M0, u_M1, w_setE0, w_setE1, w_setM0, w_setM1, reduceIte, Nat.reduceEqDiff]; exact ⟨by repeat' (first | exact trivial | refine ⟨.inr rfl, ?_⟩), by repeat' (first | exact trivial | refine ⟨rfl, ?_⟩), by first | rfl | simp [closedB, refsIn, refsInL, refsInO, dom, refsInL_nr, *], by first | rfl | simp [keepB, dom]⟩) ?_ ?_
    · exact ⟨Nat.zero_le _, by intro j hj; omega⟩
    intro i hi NX hN
    unfold l_spec_l11NameOk_0; simp (config := { maxSteps := 2000000 }) only [bitvec_to_nat, reduceIte, Nat.reduceEqDiff, Nat.reduceAdd, Nat.reduceLeDiff, reduceCtorEq, Nat.reduceBEq, Nat.reduceLT, Nat.reduceMod, List.forall_mem_cons]
    repeat' (first | with_reducible apply And.intro | with_reducible intro _)
    all_goals first
      | exact trivial
      | omega
      | (refine hN (i + 1) _ (by simp only [u_E0, u_E1, u_M0, u_M1, w_setE0, w_setE1, w_setM0, w_setM1, reduceIte, Nat.reduceEqDiff]; exact ⟨by repeat' (first | exact trivial | refine ⟨.inr rfl, ?_⟩), by repeat' (first | exact trivial | refine ⟨rfl, ?_⟩), by first | rfl | simp [closedB, refsIn, refsInL, refsInO, dom, refsInL_nr, *], by first | rfl | simp [keepB, dom]⟩) ?_ ?_
         · exact ⟨by omega, all_snoc hi.2 (by grind [nameOk, charOk])⟩
         · omega)
      | grind [nameOk, charOk]
  · grind [nameOk]
def t_l11NameOk : List AV → Option (Prop × AV)
  | [.str s] => some ((True) ∧ (True), .bool (decide (nameOk s)))
  | _ => none
theorem h_l11NameOk : ∀ args p v, t_l11NameOk args = some (p, v) → p → Contract P 54 args [] v [] ∧ noref v = true ∧ No99 v := by
  intro args p v h1 h2
  unfold t_l11NameOk at h1
  split at h1
  · rename_i s
    cases h1
    obtain ⟨_, HP⟩ := h2
    have := c_l11NameOk s HP
    exact ⟨this, rfl, trivial⟩
  · cases h1
def PKind.ok (k : PKind) : Prop := nameOk k.nm ∧ (1 ≤ k.q ∧ k.q ≤ k.sl) ∧ k.sl ≤ 50
def PPt.ok (k : PPt) : Prop := nameOk k.nm ∧ (0 ≤ k.x ∧ k.x ≤ 15) ∧ (0 ≤ k.y ∧ k.y ≤ 15)
instance (k : PKind) : Decidable k.ok := by unfold PKind.ok; infer_instance
instance (k : PPt) : Decidable k.ok := by unfold PPt.ok; infer_instance
def kAt (l : List PKind) (i : Nat) : Prop := (l.getD i default).ok ∧ (0 < i → slt (l.getD (i - 1) default).nm (l.getD i default).nm)
def pAt (l : List PPt) (i : Nat) : Prop := (l.getD i default).ok ∧ (0 < i → slt (l.getD (i - 1) default).nm (l.getD i default).nm) ∧ ∀ k, k < i → ¬ ((l.getD k default).x = (l.getD i default).x ∧ (l.getD k default).y = (l.getD i default).y)
def baseOk (ks : List PKind) (ps : List PPt) : Prop := (ks.length ≤ 6 ∧ ps.length ≤ 16) ∧ (∀ i, i < ks.length → kAt ks i) ∧ ∀ i, i < ps.length → pAt ps i
noncomputable instance (ks : List PKind) (ps : List PPt) : Decidable (baseOk ks ps) := Classical.propDecidable _
theorem c_l11KindOk (k : PKind) : Contract P 76 [.agg k.row] [] (.bool (decide k.ok)) [] := by
  simp only [PKind.row, PPt.row]
  refine fn_sound (((Env.nil P).add 45 t_l11In h_l11In).add 54 t_l11NameOk h_l11NameOk) hm k_spec_l11KindOk (Nat.le_of_ble_eq_true rfl) rfl ?_; unfold s_spec_l11KindOk; simp (config := { maxSteps := 2000000 }) only [bitvec_to_nat, reduceIte, Nat.reduceEqDiff, Nat.reduceAdd, Nat.reduceLeDiff, reduceCtorEq, Nat.reduceBEq, Nat.reduceLT, Nat.reduceMod, List.forall_mem_cons, t_l11In, t_l11NameOk, PKind.row, PPt.row]
  repeat' (first | with_reducible apply And.intro | with_reducible intro _)
  all_goals first | omega | grind [PKind.ok, PPt.ok]
def t_l11KindOk : List AV → Option (Prop × AV)
  | [.agg [.str k_nm, .int .i64 k_q, .int .i64 k_sl]] => some ((True) ∧ (True), .bool (decide (PKind.ok (PKind.mk k_nm k_q k_sl))))
  | _ => none
theorem h_l11KindOk : ∀ args p v, t_l11KindOk args = some (p, v) → p → Contract P 76 args [] v [] ∧ noref v = true ∧ No99 v := by
  intro args p v h1 h2
  unfold t_l11KindOk at h1
  split at h1
  · rename_i k_nm k_q k_sl
    cases h1
    obtain ⟨_, HP⟩ := h2
    have := c_l11KindOk (PKind.mk k_nm k_q k_sl)
    exact ⟨by simpa only [PKind.row] using this, rfl, trivial⟩
  · cases h1
theorem c_l11PointOk (k : PPt) : Contract P 77 [.agg k.row] [] (.bool (decide k.ok)) [] := by
  simp only [PKind.row, PPt.row]
  refine fn_sound (((Env.nil P).add 45 t_l11In h_l11In).add 54 t_l11NameOk h_l11NameOk) hm k_spec_l11PointOk (Nat.le_of_ble_eq_true rfl) rfl ?_; unfold s_spec_l11PointOk; simp (config := { maxSteps := 2000000 }) only [bitvec_to_nat, reduceIte, Nat.reduceEqDiff, Nat.reduceAdd, Nat.reduceLeDiff, reduceCtorEq, Nat.reduceBEq, Nat.reduceLT, Nat.reduceMod, List.forall_mem_cons, t_l11In, t_l11NameOk, PKind.row, PPt.row]
  repeat' (first | with_reducible apply And.intro | with_reducible intro _)
  all_goals first | omega | grind [PKind.ok, PPt.ok]
def t_l11PointOk : List AV → Option (Prop × AV)
  | [.agg [.str k_nm, .int .i64 k_x, .int .i64 k_y]] => some ((True) ∧ (True), .bool (decide (PPt.ok (PPt.mk k_nm k_x k_y))))
  | _ => none
theorem h_l11PointOk : ∀ args p v, t_l11PointOk args = some (p, v) → p → Contract P 77 args [] v [] ∧ noref v = true ∧ No99 v := by
  intro args p v h1 h2
  unfold t_l11PointOk at h1
  split at h1
  · rename_i k_nm k_x k_y
    cases h1
    obtain ⟨_, HP⟩ := h2
    have := c_l11PointOk (PPt.mk k_nm k_x k_y)
    exact ⟨by simpa only [PPt.row] using this, rfl, trivial⟩
  · cases h1
theorem c_kindOk (k : PKind) (hn : k.nm.toList.length ≤ 9223372036854775807) : Contract P 81 [.agg k.row] [] (.bool (decide k.ok)) [] := by
  simp only [PKind.row, PPt.row]
  refine fn_sound (((Env.nil P).add 87 t_within h_within).add 90 t_isName h_isName) hm k_impl_kindOk (Nat.le_of_ble_eq_true rfl) rfl ?_; unfold s_impl_kindOk; simp (config := { maxSteps := 2000000 }) only [bitvec_to_nat, reduceIte, Nat.reduceEqDiff, Nat.reduceAdd, Nat.reduceLeDiff, reduceCtorEq, Nat.reduceBEq, Nat.reduceLT, Nat.reduceMod, List.forall_mem_cons, t_within, t_isName, PKind.row, PPt.row]
  repeat' (first | with_reducible apply And.intro | with_reducible intro _)
  all_goals first | omega | grind [PKind.ok, PPt.ok]
def t_kindOk : List AV → Option (Prop × AV)
  | [.agg [.str k_nm, .int .i64 k_q, .int .i64 k_sl]] => some ((True) ∧ ((PKind.mk k_nm k_q k_sl).nm.toList.length ≤ 9223372036854775807), .bool (decide (PKind.ok (PKind.mk k_nm k_q k_sl))))
  | _ => none
theorem h_kindOk : ∀ args p v, t_kindOk args = some (p, v) → p → Contract P 81 args [] v [] ∧ noref v = true ∧ No99 v := by
  intro args p v h1 h2
  unfold t_kindOk at h1
  split at h1
  · rename_i k_nm k_q k_sl
    cases h1
    obtain ⟨_, HP⟩ := h2
    have := c_kindOk (PKind.mk k_nm k_q k_sl) HP
    exact ⟨by simpa only [PKind.row] using this, rfl, trivial⟩
  · cases h1
theorem c_pointOk (k : PPt) (hn : k.nm.toList.length ≤ 9223372036854775807) : Contract P 82 [.agg k.row] [] (.bool (decide k.ok)) [] := by
  simp only [PKind.row, PPt.row]
  refine fn_sound (((Env.nil P).add 87 t_within h_within).add 90 t_isName h_isName) hm k_impl_pointOk (Nat.le_of_ble_eq_true rfl) rfl ?_; unfold s_impl_pointOk; simp (config := { maxSteps := 2000000 }) only [bitvec_to_nat, reduceIte, Nat.reduceEqDiff, Nat.reduceAdd, Nat.reduceLeDiff, reduceCtorEq, Nat.reduceBEq, Nat.reduceLT, Nat.reduceMod, List.forall_mem_cons, t_within, t_isName, PKind.row, PPt.row]
  repeat' (first | with_reducible apply And.intro | with_reducible intro _)
  all_goals first | omega | grind [PKind.ok, PPt.ok]
def t_pointOk : List AV → Option (Prop × AV)
  | [.agg [.str k_nm, .int .i64 k_x, .int .i64 k_y]] => some ((True) ∧ ((PPt.mk k_nm k_x k_y).nm.toList.length ≤ 9223372036854775807), .bool (decide (PPt.ok (PPt.mk k_nm k_x k_y))))
  | _ => none
theorem h_pointOk : ∀ args p v, t_pointOk args = some (p, v) → p → Contract P 82 args [] v [] ∧ noref v = true ∧ No99 v := by
  intro args p v h1 h2
  unfold t_pointOk at h1
  split at h1
  · rename_i k_nm k_x k_y
    cases h1
    obtain ⟨_, HP⟩ := h2
    have := c_pointOk (PPt.mk k_nm k_x k_y) HP
    exact ⟨by simpa only [PPt.row] using this, rfl, trivial⟩
  · cases h1
end
end Go.Ve

namespace Go.Ve
noncomputable section
open Go.Proofs
set_option linter.unusedSimpArgs false
set_option linter.unusedVariables false
set_option maxRecDepth 100000
set_option maxHeartbeats 1000000 in
theorem c_sBaseOk (t t' : Nat) (ks : List PKind) (ps : List PPt) (hk : ks.length ≤ 1048576) (hp : ps.length ≤ 1048576) : Contract P 41 [.agg [.sl t 3 (ks.map PKind.row), .sl t' 3 (ps.map PPt.row)]] [] (.bool (decide (baseOk ks ps))) [] := by
  refine fn_sound (((Env.nil P).add 76 t_l11KindOk h_l11KindOk).add 77 t_l11PointOk h_l11PointOk) hm k_spec_PlanBaseOk (Nat.le_of_ble_eq_true rfl) rfl ?_; unfold s_spec_PlanBaseOk; simp (config := { maxSteps := 2000000 }) only [bitvec_to_nat, reduceIte, Nat.reduceEqDiff, Nat.reduceAdd, Nat.reduceLeDiff, reduceCtorEq, Nat.reduceBEq, Nat.reduceLT, Nat.reduceMod, List.forall_mem_cons, t_l11KindOk, t_l11PointOk, tk_map, dp_map, toNat_pred, appE, rowsOf, List.take_length, List.length_cons, List.length_nil, Nat.zero_add, srow, irow, un_s, un_i, Zone.row, Zone_eta, un_Zone, Word.row, Word_eta, Own.row, Own_eta, Part.row, Part_eta, Seen.row, Seen_eta, Book.row, Book_eta, Sector.row, Sector_eta, HCraft.row, HCraft_eta, World.row, World_eta, PKind.row, PKind_eta, PPt.row, PPt_eta, Cell.row, Cell_eta, un_Word, un_Own, un_Part, un_Seen, un_Book, un_Sector, un_HCraft, un_World, un_PKind, un_PPt, un_Cell, Nat.sub_zero]
  repeat' (first | with_reducible apply And.intro | with_reducible intro _)
  all_goals first
    | omega
    | (intro h; have := h.1; omega)
    | skip
  refine loop_st (fun i : Nat => [(3, .int .i64 i)]) (fun _ => []) (fun i => i ≤ ks.length ∧ ∀ j, j < i → kAt ks j) (fun i => ks.length - i) (0) (by simp only [u_E0, u_E1, u_M0, u_M1, w_setE0, w_setE1, w_setM0, w_setM1, reduceIte, Nat.reduceEqDiff]; exact ⟨by repeat' (first | exact trivial | refine ⟨.inr rfl, ?_⟩), by repeat' (first | exact trivial | refine ⟨rfl, ?_⟩), by first | rfl | simp [closedB, refsIn, refsInL, refsInO, dom, refsInL_nr, *], by first | rfl | simp [keepB, dom]⟩) ?_ ?_
  · exact ⟨Nat.zero_le _, by intro j hj; omega⟩
  intro i hi NX hN
  unfold l_spec_PlanBaseOk_0; simp (config := { maxSteps := 2000000 }) only [bitvec_to_nat, reduceIte, Nat.reduceEqDiff, Nat.reduceAdd, Nat.reduceLeDiff, reduceCtorEq, Nat.reduceBEq, Nat.reduceLT, Nat.reduceMod, List.forall_mem_cons, t_l11KindOk, t_l11PointOk, tk_map, dp_map, toNat_pred, appE, rowsOf, List.take_length, List.length_cons, List.length_nil, Nat.zero_add, srow, irow, un_s, un_i, Zone.row, Zone_eta, un_Zone, Word.row, Word_eta, Own.row, Own_eta, Part.row, Part_eta, Seen.row, Seen_eta, Book.row, Book_eta, Sector.row, Sector_eta, HCraft.row, HCraft_eta, World.row, World_eta, PKind.row, PKind_eta, PPt.row, PPt_eta, Cell.row, Cell_eta, un_Word, un_Own, un_Part, un_Seen, un_Book, un_Sector, un_HCraft, un_World, un_PKind, un_PPt, un_Cell, Nat.sub_zero]
  have A : baseOk ks ps → i < ks.length → kAt ks i := fun h g => h.2.1 i g
  unfold kAt at A
  by_cases hlt : i < ks.length
  · refine ⟨fun g1 => ?_, fun g1 => absurd (by omega) g1⟩
    repeat' (first | with_reducible apply And.intro | with_reducible intro _)
    all_goals first
      | omega
      | (refine hN (i + 1) _ (by simp only [u_E0, u_E1, u_M0, u_M1, w_setE0, w_setE1, w_setM0, w_setM1, reduceIte, Nat.reduceEqDiff]; exact ⟨by repeat' (first | exact trivial | refine ⟨.inr rfl, ?_⟩), by repeat' (first | exact trivial | refine ⟨rfl, ?_⟩), by first | rfl | simp [closedB, refsIn, refsInL, refsInO, dom, refsInL_nr, *], by first | rfl | simp [keepB, dom]⟩) ?_ ?_
         · exact ⟨by omega, all_snoc hi.2 ⟨by assumption, by grind⟩⟩
         · omega)
      | (intro hq; have := A hq hlt; grind)
      | trace_state
  · have e : i = ks.length := by omega
    subst e
    refine ⟨fun g1 => absurd g1 (by omega), fun g1 => ?_⟩
    have hks := hi.2
    clear hi hN NX
    refine loop_st (fun i : Nat => [(4, .int .i64 i)]) (fun _ => []) (fun i => i ≤ ps.length ∧ ∀ j, j < i → pAt ps j) (fun i => ps.length - i) (0) (by simp only [u_E0, u_E1, u_M0, u_M1, w_setE0, w_setE1, w_setM0, w_setM1, reduceIte, Nat.reduceEqDiff]; exact ⟨by repeat' (first | exact trivial | refine ⟨.inr rfl, ?_⟩), by repeat' (first | exact trivial | refine ⟨rfl, ?_⟩), by first | rfl | simp [closedB, refsIn, refsInL, refsInO, dom, refsInL_nr, *], by first | rfl | simp [keepB, dom]⟩) ?_ ?_
    · exact ⟨Nat.zero_le _, by intro j hj; omega⟩
    intro i hi NX hN
    have A : baseOk ks ps → i < ps.length → pAt ps i := fun h g => h.2.2 i g
    unfold pAt at A
    by_cases hlt : i < ps.length
    · unfold l_spec_PlanBaseOk_2; simp (config := { maxSteps := 2000000 }) only [bitvec_to_nat, reduceIte, Nat.reduceEqDiff, Nat.reduceAdd, Nat.reduceLeDiff, reduceCtorEq, Nat.reduceBEq, Nat.reduceLT, Nat.reduceMod, List.forall_mem_cons, t_l11KindOk, t_l11PointOk, tk_map, dp_map, toNat_pred, appE, rowsOf, List.take_length, List.length_cons, List.length_nil, Nat.zero_add, srow, irow, un_s, un_i, Zone.row, Zone_eta, un_Zone, Word.row, Word_eta, Own.row, Own_eta, Part.row, Part_eta, Seen.row, Seen_eta, Book.row, Book_eta, Sector.row, Sector_eta, HCraft.row, HCraft_eta, World.row, World_eta, PKind.row, PKind_eta, PPt.row, PPt_eta, Cell.row, Cell_eta, un_Word, un_Own, un_Part, un_Seen, un_Book, un_Sector, un_HCraft, un_World, un_PKind, un_PPt, un_Cell, Nat.sub_zero]
      refine ⟨fun g1 => ?_, fun g1 => absurd (by omega) g1⟩
      repeat' (first | with_reducible apply And.intro | with_reducible intro _)
      all_goals first
        | omega
        | (intro hq; have := A hq hlt; grind)
        | skip
      all_goals
        refine loop_st (fun k : Nat => [(5, .int .i64 k)]) (fun _ => []) (fun k => k ≤ i ∧ ∀ j, j < k → ¬ ((ps.getD j default).x = (ps.getD i default).x ∧ (ps.getD j default).y = (ps.getD i default).y)) (fun k => i - k) (0) (by simp only [u_E0, u_E1, u_M0, u_M1, w_setE0, w_setE1, w_setM0, w_setM1, reduceIte, Nat.reduceEqDiff]; exact ⟨by repeat' (first | exact trivial | refine ⟨.inr rfl, ?_⟩), by repeat' (first | exact trivial | refine ⟨rfl, ?_⟩), by first | rfl | simp [closedB, refsIn, refsInL, refsInO, dom, refsInL_nr, *], by first | rfl | simp [keepB, dom]⟩) ?_ ?_
        · exact ⟨Nat.zero_le _, by intro j hj; omega⟩
        intro k hk NX2 hN2
        unfold l_spec_PlanBaseOk_1; simp (config := { maxSteps := 2000000 }) only [bitvec_to_nat, reduceIte, Nat.reduceEqDiff, Nat.reduceAdd, Nat.reduceLeDiff, reduceCtorEq, Nat.reduceBEq, Nat.reduceLT, Nat.reduceMod, List.forall_mem_cons, t_l11KindOk, t_l11PointOk, tk_map, dp_map, toNat_pred, appE, rowsOf, List.take_length, List.length_cons, List.length_nil, Nat.zero_add, srow, irow, un_s, un_i, Zone.row, Zone_eta, un_Zone, Word.row, Word_eta, Own.row, Own_eta, Part.row, Part_eta, Seen.row, Seen_eta, Book.row, Book_eta, Sector.row, Sector_eta, HCraft.row, HCraft_eta, World.row, World_eta, PKind.row, PKind_eta, PPt.row, PPt_eta, Cell.row, Cell_eta, un_Word, un_Own, un_Part, un_Seen, un_Book, un_Sector, un_HCraft, un_World, un_PKind, un_PPt, un_Cell, Nat.sub_zero]
        repeat' (first | with_reducible apply And.intro | with_reducible intro _)
        all_goals first
          | omega
          | (refine hN2 (k + 1) _ (by simp only [u_E0, u_E1, u_M0, u_M1, w_setE0, w_setE1, w_setM0, w_setM1, reduceIte, Nat.reduceEqDiff]; exact ⟨by repeat' (first | exact trivial | refine ⟨.inr rfl, ?_⟩), by repeat' (first | exact trivial | refine ⟨rfl, ?_⟩), by first | rfl | simp [closedB, refsIn, refsInL, refsInO, dom, refsInL_nr, *], by first | rfl | simp [keepB, dom]⟩) ⟨by omega, all_snoc hk.2 (by grind)⟩ (by omega))
          | (intro hq; have := (A hq hlt).2.2 k (by omega); grind)
          | (refine hN (i + 1) _ (by simp only [u_E0, u_E1, u_M0, u_M1, w_setE0, w_setE1, w_setM0, w_setM1, reduceIte, Nat.reduceEqDiff]; exact ⟨by repeat' (first | exact trivial | refine ⟨.inr rfl, ?_⟩), by repeat' (first | exact trivial | refine ⟨rfl, ?_⟩), by first | rfl | simp [closedB, refsIn, refsInL, refsInO, dom, refsInL_nr, *], by first | rfl | simp [keepB, dom]⟩) ⟨by omega, all_snoc hi.2 ⟨by assumption, by grind, fun j hj => hk.2 j (by omega)⟩⟩ (by omega))
          | trace_state
    · have e : i = ps.length := by omega
      subst e
      unfold l_spec_PlanBaseOk_2; simp (config := { maxSteps := 2000000 }) only [bitvec_to_nat, reduceIte, Nat.reduceEqDiff, Nat.reduceAdd, Nat.reduceLeDiff, reduceCtorEq, Nat.reduceBEq, Nat.reduceLT, Nat.reduceMod, List.forall_mem_cons, t_l11KindOk, t_l11PointOk, tk_map, dp_map, toNat_pred, appE, rowsOf, List.take_length, List.length_cons, List.length_nil, Nat.zero_add, srow, irow, un_s, un_i, Zone.row, Zone_eta, un_Zone, Word.row, Word_eta, Own.row, Own_eta, Part.row, Part_eta, Seen.row, Seen_eta, Book.row, Book_eta, Sector.row, Sector_eta, HCraft.row, HCraft_eta, World.row, World_eta, PKind.row, PKind_eta, PPt.row, PPt_eta, Cell.row, Cell_eta, un_Word, un_Own, un_Part, un_Seen, un_Book, un_Sector, un_HCraft, un_World, un_PKind, un_PPt, un_Cell, Nat.sub_zero]
      refine ⟨fun g1 => absurd g1 (by omega), fun g1 => ?_⟩
      exact ⟨⟨by omega, by omega⟩, hks, hi.2⟩
set_option maxHeartbeats 1000000 in
theorem c_iBaseOk (t t' : Nat) (ks : List PKind) (ps : List PPt) (hk : ks.length ≤ 1048576) (hp : ps.length ≤ 1048576) (hnk : ∀ x ∈ ks, x.nm.toList.length ≤ 9223372036854775807) (hnp : ∀ x ∈ ps, x.nm.toList.length ≤ 9223372036854775807) : Contract P 50 [.agg [.sl t 3 (ks.map PKind.row), .sl t' 3 (ps.map PPt.row)]] [] (.bool (decide (baseOk ks ps))) [] := by
  have he : True := trivial
  refine fn_sound (((Env.nil P).add 81 t_kindOk h_kindOk).add 82 t_pointOk h_pointOk) hm k_impl_PlanBaseOk (Nat.le_of_ble_eq_true rfl) rfl ?_; unfold s_impl_PlanBaseOk; simp (config := { maxSteps := 2000000 }) only [bitvec_to_nat, reduceIte, Nat.reduceEqDiff, Nat.reduceAdd, Nat.reduceLeDiff, reduceCtorEq, Nat.reduceBEq, Nat.reduceLT, Nat.reduceMod, List.forall_mem_cons, t_kindOk, t_pointOk, tk_map, dp_map, toNat_pred, appE, rowsOf, List.take_length, List.length_cons, List.length_nil, Nat.zero_add, srow, irow, un_s, un_i, Zone.row, Zone_eta, un_Zone, Word.row, Word_eta, Own.row, Own_eta, Part.row, Part_eta, Seen.row, Seen_eta, Book.row, Book_eta, Sector.row, Sector_eta, HCraft.row, HCraft_eta, World.row, World_eta, PKind.row, PKind_eta, PPt.row, PPt_eta, Cell.row, Cell_eta, un_Word, un_Own, un_Part, un_Seen, un_Book, un_Sector, un_HCraft, un_World, un_PKind, un_PPt, un_Cell, Nat.sub_zero, lookE, msetE, find_str, find_cell, keyP_str, keyP_cell, put_str, put_cell, he]
  repeat' (first | with_reducible apply And.intro | with_reducible intro _)
  all_goals first
    | omega
    | (intro h; have := h.1; omega)
    | skip
  refine loop_st (fun i : Nat => [(22, .int .i64 i)]) (fun _ => []) (fun i => i ≤ ks.length ∧ ∀ j, j < i → kAt ks j) (fun i => ks.length - i) (0) (by simp only [u_E0, u_E1, u_M0, u_M1, w_setE0, w_setE1, w_setM0, w_setM1, reduceIte, Nat.reduceEqDiff]; exact ⟨by repeat' (first | exact trivial | refine ⟨.inr rfl, ?_⟩), by repeat' (first | exact trivial | refine ⟨rfl, ?_⟩), by first | rfl | simp [closedB, refsIn, refsInL, refsInO, dom, refsInL_nr, *], by first | rfl | simp [keepB, dom]⟩) ?_ ?_
  · exact ⟨Nat.zero_le _, by intro j hj; omega⟩
  intro i hi NX hN
  unfold l_impl_PlanBaseOk_0; simp (config := { maxSteps := 2000000 }) only [bitvec_to_nat, reduceIte, Nat.reduceEqDiff, Nat.reduceAdd, Nat.reduceLeDiff, reduceCtorEq, Nat.reduceBEq, Nat.reduceLT, Nat.reduceMod, List.forall_mem_cons, t_kindOk, t_pointOk, tk_map, dp_map, toNat_pred, appE, rowsOf, List.take_length, List.length_cons, List.length_nil, Nat.zero_add, srow, irow, un_s, un_i, Zone.row, Zone_eta, un_Zone, Word.row, Word_eta, Own.row, Own_eta, Part.row, Part_eta, Seen.row, Seen_eta, Book.row, Book_eta, Sector.row, Sector_eta, HCraft.row, HCraft_eta, World.row, World_eta, PKind.row, PKind_eta, PPt.row, PPt_eta, Cell.row, Cell_eta, un_Word, un_Own, un_Part, un_Seen, un_Book, un_Sector, un_HCraft, un_World, un_PKind, un_PPt, un_Cell, Nat.sub_zero, lookE, msetE, find_str, find_cell, keyP_str, keyP_cell, put_str, put_cell, he]
  have A : baseOk ks ps → i < ks.length → kAt ks i := fun h g => h.2.1 i g
  unfold kAt at A
  by_cases hlt : i < ks.length
  · have hn9 := hnk _ (getD_mem' hlt)
    refine ⟨fun g1 => ?_, fun g1 => absurd (by omega) g1⟩
    repeat' (first | with_reducible apply And.intro | with_reducible intro _)
    all_goals first
      | omega
      | (refine hN (i + 1) _ (by simp only [u_E0, u_E1, u_M0, u_M1, w_setE0, w_setE1, w_setM0, w_setM1, reduceIte, Nat.reduceEqDiff]; exact ⟨by repeat' (first | exact trivial | refine ⟨.inr rfl, ?_⟩), by repeat' (first | exact trivial | refine ⟨rfl, ?_⟩), by first | rfl | simp [closedB, refsIn, refsInL, refsInO, dom, refsInL_nr, *], by first | rfl | simp [keepB, dom]⟩) ?_ ?_
         · exact ⟨by omega, all_snoc hi.2 ⟨by assumption, by grind⟩⟩
         · omega)
      | (intro hq; have := A hq hlt; grind)
      | trace_state
  · have e : i = ks.length := by omega
    subst e
    refine ⟨fun g1 => absurd g1 (by omega), fun g1 => ?_⟩
    have hks := hi.2
    clear hi hN NX
    refine loop_st (fun i : Nat => [(51, .int .i64 i)]) (fun i => [(147, .mp 2 (setOf cellKey ((ps.take i).map fun p => (p.x, p.y))))]) (fun i => i ≤ ps.length ∧ ∀ j, j < i → pAt ps j) (fun i => ps.length - i) (0) (by simp only [u_E0, u_E1, u_M0, u_M1, w_setE0, w_setE1, w_setM0, w_setM1, reduceIte, Nat.reduceEqDiff]; exact ⟨by repeat' (first | exact trivial | refine ⟨.inr rfl, ?_⟩), by repeat' (first | exact trivial | refine ⟨rfl, ?_⟩), by first | rfl | simp [closedB, refsIn, refsInL, refsInO, dom, refsInL_nr, *], by first | rfl | simp [keepB, dom]⟩) ?_ ?_
    · exact ⟨Nat.zero_le _, by intro j hj; omega⟩
    intro i hi NX hN
    have A : baseOk ks ps → i < ps.length → pAt ps i := fun h g => h.2.2 i g
    unfold pAt at A
    by_cases hlt : i < ps.length
    · have hn9 := hnp _ (getD_mem' hlt)
      have hc := isIn_cell (f := fun p : PPt => (p.x, p.y)) (l := ps) (i := i) (by omega) (q := ((ps.getD i default).x, (ps.getD i default).y))
      have e2 := take_map_snoc (f := fun p : PPt => (p.x, p.y)) (l := ps) (i := i) (by omega)
      have hb : (ps.getD i default).ok → (0 ≤ (ps.getD i default).x ∧ (ps.getD i default).x ≤ 15) ∧ (0 ≤ (ps.getD i default).y ∧ (ps.getD i default).y ≤ 15) := fun h => h.2
      have hno1 : isIn ((ps.getD i default).x, (ps.getD i default).y) ((ps.take i).map fun p => (p.x, p.y)) → ¬ baseOk ks ps := fun h hq => by
        obtain ⟨k, hk, e⟩ := hc.1 h
        simp only [Prod.mk.injEq] at e
        exact (A hq hlt).2.2 k hk e
      have hno2 : ¬ isIn ((ps.getD i default).x, (ps.getD i default).y) ((ps.take i).map fun p => (p.x, p.y)) → ∀ k, k < i → ¬ ((ps.getD k default).x = (ps.getD i default).x ∧ (ps.getD k default).y = (ps.getD i default).y) := fun h k hk e => h (hc.2 ⟨k, hk, by rw [e.1, e.2]⟩)
      unfold l_impl_PlanBaseOk_1; simp (config := { maxSteps := 2000000 }) only [bitvec_to_nat, reduceIte, Nat.reduceEqDiff, Nat.reduceAdd, Nat.reduceLeDiff, reduceCtorEq, Nat.reduceBEq, Nat.reduceLT, Nat.reduceMod, List.forall_mem_cons, t_kindOk, t_pointOk, tk_map, dp_map, toNat_pred, appE, rowsOf, List.take_length, List.length_cons, List.length_nil, Nat.zero_add, srow, irow, un_s, un_i, Zone.row, Zone_eta, un_Zone, Word.row, Word_eta, Own.row, Own_eta, Part.row, Part_eta, Seen.row, Seen_eta, Book.row, Book_eta, Sector.row, Sector_eta, HCraft.row, HCraft_eta, World.row, World_eta, PKind.row, PKind_eta, PPt.row, PPt_eta, Cell.row, Cell_eta, un_Word, un_Own, un_Part, un_Seen, un_Book, un_Sector, un_HCraft, un_World, un_PKind, un_PPt, un_Cell, Nat.sub_zero, lookE, msetE, find_str, find_cell, keyP_str, keyP_cell, put_str, put_cell, he]
      refine ⟨fun g1 => ?_, fun g1 => absurd (by omega) g1⟩
      repeat' (first | with_reducible apply And.intro | with_reducible intro _)
      all_goals first
        | omega
        | (have := hb (by assumption); omega)
        | exact hno1 (by assumption)
        | (intro hq; have := A hq hlt; grind)
        | (refine hN (i + 1) _ (by simp only [e2, List.length_append, List.length_cons, List.length_nil, Nat.zero_add, List.map_append, List.map_cons, List.map_nil, u_E0, u_E1, u_M0, u_M1, w_setE0, w_setE1, w_setM0, w_setM1, reduceIte, Nat.reduceEqDiff]; exact ⟨by repeat' (first | exact trivial | refine ⟨.inr rfl, ?_⟩), by repeat' (first | exact trivial | refine ⟨rfl, ?_⟩), by first | rfl | simp [closedB, refsIn, refsInL, refsInO, dom, refsInL_nr, *], by first | rfl | simp [keepB, dom]⟩) ?_ ?_
           · exact ⟨by omega, all_snoc hi.2 ⟨by assumption, by grind, hno2 (by assumption)⟩⟩
           · omega)
        | trace_state
    · have e : i = ps.length := by omega
      subst e
      unfold l_impl_PlanBaseOk_1; simp (config := { maxSteps := 2000000 }) only [bitvec_to_nat, reduceIte, Nat.reduceEqDiff, Nat.reduceAdd, Nat.reduceLeDiff, reduceCtorEq, Nat.reduceBEq, Nat.reduceLT, Nat.reduceMod, List.forall_mem_cons, t_kindOk, t_pointOk, tk_map, dp_map, toNat_pred, appE, rowsOf, List.take_length, List.length_cons, List.length_nil, Nat.zero_add, srow, irow, un_s, un_i, Zone.row, Zone_eta, un_Zone, Word.row, Word_eta, Own.row, Own_eta, Part.row, Part_eta, Seen.row, Seen_eta, Book.row, Book_eta, Sector.row, Sector_eta, HCraft.row, HCraft_eta, World.row, World_eta, PKind.row, PKind_eta, PPt.row, PPt_eta, Cell.row, Cell_eta, un_Word, un_Own, un_Part, un_Seen, un_Book, un_Sector, un_HCraft, un_World, un_PKind, un_PPt, un_Cell, Nat.sub_zero, lookE, msetE, find_str, find_cell, keyP_str, keyP_cell, put_str, put_cell, he]
      refine ⟨fun g1 => absurd g1 (by omega), fun g1 => ?_⟩
      exact ⟨⟨by omega, by omega⟩, hks, hi.2⟩
def t_sBaseOk : List AV → Option (Prop × AV)
  | [.agg [.sl _ 3 kx, .sl _ 3 px]] => some (((kx.map unPKind).map PKind.row = kx ∧ (px.map unPPt).map PPt.row = px) ∧ ((kx.map unPKind).length ≤ 1048576 ∧ (px.map unPPt).length ≤ 1048576), .bool (decide (baseOk (kx.map unPKind) (px.map unPPt))))
  | _ => none
theorem h_sBaseOk : ∀ args p v, t_sBaseOk args = some (p, v) → p → Contract P 41 args [] v [] ∧ noref v = true ∧ No99 v := by
  intro args p v h1 h2
  unfold t_sBaseOk at h1
  split at h1
  · rename_i t kx t' px
    cases h1
    obtain ⟨⟨e1, e2⟩, h3⟩ := h2
    have := c_sBaseOk t t' (kx.map unPKind) (px.map unPPt) h3.1 h3.2
    simp only [e1, e2] at this
    exact ⟨this, rfl, trivial⟩
  · cases h1
def t_iBaseOk : List AV → Option (Prop × AV)
  | [.agg [.sl _ 3 kx, .sl _ 3 px]] => some (((kx.map unPKind).map PKind.row = kx ∧ (px.map unPPt).map PPt.row = px) ∧ ((kx.map unPKind).length ≤ 1048576 ∧ (px.map unPPt).length ≤ 1048576) ∧ (∀ x ∈ kx.map unPKind, x.nm.toList.length ≤ 9223372036854775807) ∧ (∀ x ∈ px.map unPPt, x.nm.toList.length ≤ 9223372036854775807), .bool (decide (baseOk (kx.map unPKind) (px.map unPPt))))
  | _ => none
theorem h_iBaseOk : ∀ args p v, t_iBaseOk args = some (p, v) → p → Contract P 50 args [] v [] ∧ noref v = true ∧ No99 v := by
  intro args p v h1 h2
  unfold t_iBaseOk at h1
  split at h1
  · rename_i t kx t' px
    cases h1
    obtain ⟨⟨e1, e2⟩, h3⟩ := h2
    have := c_iBaseOk t t' (kx.map unPKind) (px.map unPPt) h3.1.1 h3.1.2 h3.2.1 h3.2.2
    simp only [e1, e2] at this
    exact ⟨this, rfl, trivial⟩
  · cases h1
end
end Go.Ve

namespace Go.Ve
open Go.Proofs
set_option maxRecDepth 100000
end Go.Ve

namespace Go.Ve
noncomputable section
open Go.Proofs
set_option linter.unusedSimpArgs false
set_option linter.unusedVariables false
set_option maxRecDepth 100000
theorem i64_in' {n : Int} (h : -9223372036854775808 ≤ n ∧ n ≤ 9223372036854775807) : IntKind.i64.wrap n = n := by rw [IntKind.wrap_i64]; omega
def part (d k n : Int) : Int := (2 * k * d + n) / (2 * n)

def iabs (a : Int) : Int := if a < 0 then -a else a
def steps (a b : Cell) : Int := max (iabs (a.x - b.x)) (iabs (a.y - b.y))
def Cell.inn (a : Cell) : Prop := (0 ≤ a.x ∧ a.x ≤ 15) ∧ (0 ≤ a.y ∧ a.y ≤ 15)
instance (a : Cell) : Decidable a.inn := by unfold Cell.inn; infer_instance
def sw (a b : Cell) : Prop := b.x < a.x ∨ (b.x = a.x ∧ b.y < a.y)
instance (a b : Cell) : Decidable (sw a b) := by unfold sw; infer_instance
end
end Go.Ve

namespace Go.Ve
noncomputable section
open Go.Proofs
set_option linter.unusedSimpArgs false
set_option linter.unusedVariables false
set_option maxRecDepth 100000
end
end Go.Ve

namespace Go.Ve
noncomputable section
open Go.Proofs
set_option linter.unusedSimpArgs false
set_option linter.unusedVariables false
set_option maxRecDepth 100000
end
end Go.Ve

namespace Go.Ve
noncomputable section
open Go.Proofs
set_option linter.unusedSimpArgs false
set_option linter.unusedVariables false
set_option maxRecDepth 100000
theorem c_IndexFunc_PPt (g : FuncId) (hg : calleeB P g = true) (ls : List AV) (hls : norefL ls = true) (p : PPt → Bool) (t : Nat) (zs : List PPt) (hl : zs.length ≤ 4611686018427387904)
    (hC : ∀ z, Contract P g (.agg (PPt.row z) :: [.ptr 3 0]) [(3, .box ls)] (.bool (p z)) [(3, .box ls)]) : Contract P 124 [.sl t 3 (zs.map PPt.row), .fn g [] [.ptr 3 0]] [(3, .box ls)] (.int .i64 (fIdx p zs)) [(3, .box ls)] := by
  refine fn_sound (Env.nil P) hm k_slices_IndexFunc_PlanPoint (Nat.le_of_ble_eq_true rfl) rfl ?_; unfold s_slices_IndexFunc_PlanPoint; simp (config := { maxSteps := 2000000 }) only [bitvec_to_nat, reduceIte, Nat.reduceEqDiff, Nat.reduceAdd, Nat.reduceLeDiff, reduceCtorEq, Nat.reduceBEq, Nat.reduceLT, Nat.reduceMod, List.forall_mem_cons, retG_ret, retQ_eq, retQ_eqN, retOk, keepB, re_tupl, orr_t, callL_nil]
  refine loop_st (fun i : Nat => [(8, .int .i64 i)]) (fun _ => []) (fun i => i ≤ zs.length ∧ ∀ j, j < i → p (zs.getD j default) = false) (fun i => zs.length - i) (0) (by simp only [u_E0, u_E1, u_M0, u_M1, w_setE0, w_setE1, w_setM0, w_setM1, reduceIte, Nat.reduceEqDiff]; exact ⟨by repeat' (first | exact trivial | refine ⟨.inr rfl, ?_⟩), by repeat' (first | exact trivial | refine ⟨rfl, ?_⟩), by first | rfl | simp [closedB, refsIn, refsInL, refsInO, dom, refsInL_nr, *], by first | rfl | simp [keepB, dom]⟩) ?_ ?_
  · exact ⟨Nat.zero_le _, by intro j hj; omega⟩
  intro i hi NX hN
  unfold l_slices_IndexFunc_PlanPoint_0; simp (config := { maxSteps := 2000000 }) only [bitvec_to_nat, reduceIte, Nat.reduceEqDiff, Nat.reduceAdd, Nat.reduceLeDiff, reduceCtorEq, Nat.reduceBEq, Nat.reduceLT, Nat.reduceMod, List.forall_mem_cons, retG_ret, retQ_eq, retQ_eqN, retOk, keepB, re_tupl, orr_t, callL_nil, PPt_len, PPt_take]
  refine ⟨fun h1 => ⟨by omega, by omega, hg, _, _, .inl ⟨[(3, .box ls)], hC (zs.getD i default), ?_, ?_, ?_, ?_, ?_, rfl, ?_⟩, ?_⟩, fun h1 => ?_⟩
  · simp [getM]
  · intro q hq; left; revert q; simp [dom]
  · simp [dom]
  · simp [refsInL, refsIn, dom, refsInL_nr, PPt_nr]
  · simp [refsInO, refsInL_nr, *]
  · simp [refsInO, refsInL_nr, *]
  · simp (config := { maxSteps := 2000000 }) only [bitvec_to_nat, reduceIte, Nat.reduceEqDiff, Nat.reduceAdd, Nat.reduceLeDiff, reduceCtorEq, Nat.reduceBEq, Nat.reduceLT, Nat.reduceMod, List.forall_mem_cons, retG_ret, retQ_eq, retQ_eqN, retOk, keepB, re_tupl, orr_t, callL_nil]
    refine ⟨fun h2 => ?_, fun h2 => ?_⟩
    · simp (config := { maxSteps := 2000000 }) only [bitvec_to_nat, reduceIte, Nat.reduceEqDiff, Nat.reduceAdd, Nat.reduceLeDiff, reduceCtorEq, Nat.reduceBEq, Nat.reduceLT, Nat.reduceMod, List.forall_mem_cons, retG_ret, retQ_eq, retQ_eqN, retOk, keepB, re_tupl, orr_t, callL_nil]
      rw [fIdx_at (by omega) h2 hi.2]
      simp [dom, refsInL_nr, *]
    · simp (config := { maxSteps := 2000000 }) only [bitvec_to_nat, reduceIte, Nat.reduceEqDiff, Nat.reduceAdd, Nat.reduceLeDiff, reduceCtorEq, Nat.reduceBEq, Nat.reduceLT, Nat.reduceMod, List.forall_mem_cons, retG_ret, retQ_eq, retQ_eqN, retOk, keepB, re_tupl, orr_t, callL_nil]
      refine ⟨by omega, ?_⟩
      refine hN (i + 1) _ (by simp only [u_E0, u_E1, u_M0, u_M1, w_setE0, w_setE1, w_setM0, w_setM1, reduceIte, Nat.reduceEqDiff]; exact ⟨by repeat' (first | exact trivial | refine ⟨.inr rfl, ?_⟩), by repeat' (first | exact trivial | refine ⟨rfl, ?_⟩), by first | rfl | simp [closedB, refsIn, refsInL, refsInO, dom, refsInL_nr, *], by first | rfl | simp [keepB, dom]⟩) ?_ ?_
      · exact ⟨by omega, all_snoc hi.2 h2⟩
      · omega
  · rw [fIdx_none fun j hj => hi.2 j (by omega)]
    simp [dom, refsInL_nr, *]
def pIdx (l : List PPt) (s : ByteArray) : Int := fIdx (fun p => decide (p.nm = s)) l
theorem c_point1 (z : PPt) (s : ByteArray) : Contract P 125 [.agg z.row, .ptr 3 0] [(3, .box [.str s])] (.bool (decide (z.nm = s))) [(3, .box [.str s])] := by
  simp only [PPt.row]
  refine fn_sound (Env.nil P) hm k_impl_PlanBase_point_1 (Nat.le_of_ble_eq_true rfl) rfl ?_; unfold s_impl_PlanBase_point_1; simp (config := { maxSteps := 2000000 }) only [bitvec_to_nat, reduceIte, Nat.reduceEqDiff, Nat.reduceAdd, Nat.reduceLeDiff, reduceCtorEq, Nat.reduceBEq, Nat.reduceLT, Nat.reduceMod, List.forall_mem_cons, retG_ret, retQ_eq, retQ_eqN, retOk, keepB, re_tupl, orr_t, PPt_eta]
  all_goals simp [dom]
def r_pointI : RTab
  | [.sl zt 3 zx, .fn 125 [] [.ptr ob off]], M => match M ob with
    | some (.box [.str s]) => some ⟨off = 0 ∧ (zx.map unPPt).map PPt.row = zx ∧ (zx.map unPPt).length ≤ 4611686018427387904, fun _ : Unit => True, fun _ => .int .i64 (fIdx (fun z => decide (z.nm = s)) (zx.map unPPt)), fun _ => [(ob, .box [.str s])]⟩
    | _ => none
  | _, _ => none
theorem h_pointI : okTab P 124 r_pointI := by
  intro args M o h hp
  unfold r_pointI at h
  split at h
  · rename_i zt zx ob off
    split at h
    · rename_i s hM
      cases h
      obtain ⟨rfl, e0, HP⟩ := hp
      have hC := c_IndexFunc_PPt 125 (by kernel_rfl) _ rfl (fun z => decide (z.nm = s)) zt (zx.map unPPt) HP fun z => c_point1 z s
      simp only [e0, decide_eq_true_eq] at hC
      exact ⟨(), trivial, callR_box _ hC (by simp [norefL, noref]) rfl (by assumption) (by simp [renL, ren, swp]) (by simp [refsInL, refsIn, noref])⟩
    · cases h
  · cases h
theorem c_iPoint (t t' : Nat) (ks : List PKind) (ps : List PPt) (nm : ByteArray) (hp : ps.length ≤ 1048576) : Contract P 106 [.agg [.sl t 3 (ks.map PKind.row), .sl t' 3 (ps.map PPt.row)], .str nm] [] (.int .i64 (pIdx ps nm)) [] := by
  refine fn_sound ((Env.nil P).addR 124 r_pointI h_pointI) hm k_impl_PlanBase_point (Nat.le_of_ble_eq_true rfl) rfl ?_; unfold s_impl_PlanBase_point; simp (config := { maxSteps := 2000000 }) only [bitvec_to_nat, reduceIte, Nat.reduceEqDiff, Nat.reduceAdd, Nat.reduceLeDiff, reduceCtorEq, Nat.reduceBEq, Nat.reduceLT, Nat.reduceMod, List.forall_mem_cons, retG_ret, retQ_eq, retQ_eqN, retOk, keepB, re_tupl, orr_t, r_pointI, un_PPt]
  exact ⟨by omega, fun _ => rfl⟩
theorem pIdx_at {l : List PPt} {nm : ByteArray} (h : 0 ≤ pIdx l nm) : (pIdx l nm).toNat < l.length ∧ (l.getD (pIdx l nm).toNat default).nm = nm ∧ pIdx l nm < l.length := by
  unfold pIdx at *
  rcases fIdx_spec (fun p : PPt => decide (p.nm = nm)) l with ⟨h1, h2⟩ | ⟨i, h1, h2, h3, _⟩
  · omega
  · rw [h1]; exact ⟨by simpa using h2, by simpa using h3, by omega⟩
def t_iPoint : List AV → Option (Prop × AV)
  | [.agg [.sl t 3 kx, .sl t' 3 px], .str nm] => some (((kx.map unPKind).map PKind.row = kx ∧ (px.map unPPt).map PPt.row = px) ∧ ((px.map unPPt).length ≤ 1048576), .int .i64 (pIdx (px.map unPPt) nm))
  | _ => none
theorem h_iPoint : ∀ args p v, t_iPoint args = some (p, v) → p → Contract P 106 args [] v [] ∧ noref v = true ∧ No99 v := by
  intro args p v h1 h2
  unfold t_iPoint at h1
  split at h1
  · rename_i t kx t' px nm
    cases h1
    obtain ⟨⟨e1, e2⟩, h3⟩ := h2
    have := c_iPoint t t' (kx.map unPKind) (px.map unPPt) nm h3
    simp only [e1, e2] at this
    exact ⟨this, rfl, trivial⟩
  · cases h1
theorem c_l11Point (t t' : Nat) (ks : List PKind) (ps : List PPt) (nm : ByteArray) (hp : ps.length ≤ 1048576) : Contract P 78 [.agg [.sl t 3 (ks.map PKind.row), .sl t' 3 (ps.map PPt.row)], .str nm] [] (.int .i64 (pIdx ps nm)) [] := by
  refine fn_sound (Env.nil P) hm k_spec_l11Point (Nat.le_of_ble_eq_true rfl) rfl ?_; unfold s_spec_l11Point; simp (config := { maxSteps := 2000000 }) only [bitvec_to_nat, reduceIte, Nat.reduceEqDiff, Nat.reduceAdd, Nat.reduceLeDiff, reduceCtorEq, Nat.reduceBEq, Nat.reduceLT, Nat.reduceMod, List.forall_mem_cons, PPt.row, PPt_eta, un_PPt, un_PKind, tk_map, dp_map, toNat_pred, Int.toNat_natCast, Nat.sub_zero, Nat.zero_add, List.length_map]
  refine loop_st (fun i : Nat => [(5, .int .i64 i)]) (fun _ => []) (fun i => i ≤ ps.length ∧ ∀ j, j < i → decide ((ps.getD j default).nm = nm) = false) (fun i => ps.length - i) (0) (by simp only [u_E0, u_E1, u_M0, u_M1, w_setE0, w_setE1, w_setM0, w_setM1, reduceIte, Nat.reduceEqDiff]; exact ⟨by repeat' (first | exact trivial | refine ⟨.inr rfl, ?_⟩), by repeat' (first | exact trivial | refine ⟨rfl, ?_⟩), by first | rfl | simp [closedB, refsIn, refsInL, refsInO, dom, refsInL_nr, *], by first | rfl | simp [keepB, dom]⟩) ?_ ?_
  · exact ⟨Nat.zero_le _, by intro j hj; omega⟩
  intro i hi NX hN
  unfold l_spec_l11Point_0; simp (config := { maxSteps := 2000000 }) only [bitvec_to_nat, reduceIte, Nat.reduceEqDiff, Nat.reduceAdd, Nat.reduceLeDiff, reduceCtorEq, Nat.reduceBEq, Nat.reduceLT, Nat.reduceMod, List.forall_mem_cons, PPt.row, PPt_eta, un_PPt, un_PKind, tk_map, dp_map, toNat_pred, Int.toNat_natCast, Nat.sub_zero, Nat.zero_add, List.length_map]
  
  repeat' (first | with_reducible apply And.intro | with_reducible intro _)
  all_goals first
    | omega
    | (refine hN (i + 1) _ (by simp only [u_E0, u_E1, u_M0, u_M1, w_setE0, w_setE1, w_setM0, w_setM1, reduceIte, Nat.reduceEqDiff]; exact ⟨by repeat' (first | exact trivial | refine ⟨.inr rfl, ?_⟩), by repeat' (first | exact trivial | refine ⟨rfl, ?_⟩), by first | rfl | simp [closedB, refsIn, refsInL, refsInO, dom, refsInL_nr, *], by first | rfl | simp [keepB, dom]⟩) ?_ ?_
       · exact ⟨by omega, all_snoc hi.2 (by simpa using ‹¬ _›)⟩
       · omega)
    | (unfold pIdx; rw [fIdx_at (i := i) (by omega) (by simpa using ‹_›) hi.2])
    | (unfold pIdx; rw [fIdx_none fun j hj => hi.2 j (by omega)])
def t_l11Point : List AV → Option (Prop × AV)
  | [.agg [.sl t 3 kx, .sl t' 3 px], .str nm] => some (((kx.map unPKind).map PKind.row = kx ∧ (px.map unPPt).map PPt.row = px) ∧ ((px.map unPPt).length ≤ 1048576), .int .i64 (pIdx (px.map unPPt) nm))
  | _ => none
theorem h_l11Point : ∀ args p v, t_l11Point args = some (p, v) → p → Contract P 78 args [] v [] ∧ noref v = true ∧ No99 v := by
  intro args p v h1 h2
  unfold t_l11Point at h1
  split at h1
  · rename_i t kx t' px nm
    cases h1
    obtain ⟨⟨e1, e2⟩, h3⟩ := h2
    have := c_l11Point t t' (kx.map unPKind) (px.map unPPt) nm h3
    simp only [e1, e2] at this
    exact ⟨this, rfl, trivial⟩
  · cases h1
def ptAt' (ps : List PPt) (nm : ByteArray) : PPt := ps.getD (pIdx ps nm).toNat default
def rtAt (ps : List PPt) (ws : List ByteArray) (i : Nat) : Prop := 0 ≤ pIdx ps (ws.getD i default) ∧ (0 < i → ws.getD (i - 1) default ≠ ws.getD i default)
def rtOk (ps : List PPt) (ws : List ByteArray) : Prop := (2 ≤ ws.length ∧ ws.length ≤ 8) ∧ ∀ i, i < ws.length → rtAt ps ws i
noncomputable instance (ps : List PPt) (ws : List ByteArray) : Decidable (rtOk ps ws) := Classical.propDecidable _
theorem c_l12RouteOk (t t' : Nat) (ks : List PKind) (ps : List PPt) (t2 : Nat) (ws : List ByteArray) (hp : ps.length ≤ 1048576) (hw : ws.length ≤ 4611686018427387904) : Contract P 47 [.agg [.sl t 3 (ks.map PKind.row), .sl t' 3 (ps.map PPt.row)], .sl t2 1 (ws.map srow)] [] (.bool (decide (rtOk ps ws))) [] := by
  refine fn_sound (((Env.nil P).add 45 t_l11In h_l11In).add 78 t_l11Point h_l11Point) hm k_spec_l12RouteOk (Nat.le_of_ble_eq_true rfl) rfl ?_; unfold s_spec_l12RouteOk; simp (config := { maxSteps := 2000000 }) only [bitvec_to_nat, reduceIte, Nat.reduceEqDiff, Nat.reduceAdd, Nat.reduceLeDiff, reduceCtorEq, Nat.reduceBEq, Nat.reduceLT, Nat.reduceMod, List.forall_mem_cons, t_l11In, t_l11Point, tk_map, dp_map, toNat_pred, appE, rowsOf, List.take_length, List.length_cons, List.length_nil, Nat.zero_add, srow, irow, un_s, un_i, Zone.row, Zone_eta, un_Zone, Word.row, Word_eta, Own.row, Own_eta, Part.row, Part_eta, Seen.row, Seen_eta, Book.row, Book_eta, Sector.row, Sector_eta, HCraft.row, HCraft_eta, World.row, World_eta, PKind.row, PKind_eta, PPt.row, PPt_eta, Cell.row, Cell_eta, un_Word, un_Own, un_Part, un_Seen, un_Book, un_Sector, un_HCraft, un_World, un_PKind, un_PPt, un_Cell, Nat.sub_zero, List.nil_append, un_PPt, un_PKind, srow, un_s]
  refine ⟨fun h1 => ?_, fun h1 => by intro h; have := h.1; omega⟩
  refine loop_st (fun i : Nat => [(5, .int .i64 i)]) (fun _ => []) (fun i => i ≤ ws.length ∧ ∀ j, j < i → rtAt ps ws j) (fun i => ws.length - i) (0) (by simp only [u_E0, u_E1, u_M0, u_M1, w_setE0, w_setE1, w_setM0, w_setM1, reduceIte, Nat.reduceEqDiff]; exact ⟨by repeat' (first | exact trivial | refine ⟨.inr rfl, ?_⟩), by repeat' (first | exact trivial | refine ⟨rfl, ?_⟩), by first | rfl | simp [closedB, refsIn, refsInL, refsInO, dom, refsInL_nr, *], by first | rfl | simp [keepB, dom]⟩) ?_ ?_
  · exact ⟨Nat.zero_le _, by intro j hj; omega⟩
  intro i hi NX hN
  unfold l_spec_l12RouteOk_0; simp (config := { maxSteps := 2000000 }) only [bitvec_to_nat, reduceIte, Nat.reduceEqDiff, Nat.reduceAdd, Nat.reduceLeDiff, reduceCtorEq, Nat.reduceBEq, Nat.reduceLT, Nat.reduceMod, List.forall_mem_cons, t_l11In, t_l11Point, tk_map, dp_map, toNat_pred, appE, rowsOf, List.take_length, List.length_cons, List.length_nil, Nat.zero_add, srow, irow, un_s, un_i, Zone.row, Zone_eta, un_Zone, Word.row, Word_eta, Own.row, Own_eta, Part.row, Part_eta, Seen.row, Seen_eta, Book.row, Book_eta, Sector.row, Sector_eta, HCraft.row, HCraft_eta, World.row, World_eta, PKind.row, PKind_eta, PPt.row, PPt_eta, Cell.row, Cell_eta, un_Word, un_Own, un_Part, un_Seen, un_Book, un_Sector, un_HCraft, un_World, un_PKind, un_PPt, un_Cell, Nat.sub_zero, List.nil_append, un_PPt, un_PKind, srow, un_s]
  
  have A : rtOk ps ws → i < ws.length → rtAt ps ws i := fun h g => h.2 i g
  unfold rtAt at A
  repeat' (first | with_reducible apply And.intro | with_reducible intro _)
  all_goals first
    | omega
    | (refine hN (i + 1) _ (by simp only [u_E0, u_E1, u_M0, u_M1, w_setE0, w_setE1, w_setM0, w_setM1, reduceIte, Nat.reduceEqDiff]; exact ⟨by repeat' (first | exact trivial | refine ⟨.inr rfl, ?_⟩), by repeat' (first | exact trivial | refine ⟨rfl, ?_⟩), by first | rfl | simp [closedB, refsIn, refsInL, refsInO, dom, refsInL_nr, *], by first | rfl | simp [keepB, dom]⟩) ?_ ?_
       · exact ⟨by omega, all_snoc hi.2 ⟨by omega, by grind⟩⟩
       · omega)
    | (intro hq; have := A hq (by omega); grind)
    | (exact ⟨by omega, fun j hj => hi.2 j (by omega)⟩)
    | trace_state
def t_l12RouteOk : List AV → Option (Prop × AV)
  | [.agg [.sl t 3 kx, .sl t' 3 px], .sl t2 1 wx] => some (((kx.map unPKind).map PKind.row = kx ∧ (px.map unPPt).map PPt.row = px) ∧ ((wx.map unS).map srow = wx ∧ (px.map unPPt).length ≤ 1048576 ∧ (wx.map unS).length ≤ 4611686018427387904), .bool (decide (rtOk (px.map unPPt) (wx.map unS))))
  | _ => none
theorem h_l12RouteOk : ∀ args p v, t_l12RouteOk args = some (p, v) → p → Contract P 47 args [] v [] ∧ noref v = true ∧ No99 v := by
  intro args p v h1 h2
  unfold t_l12RouteOk at h1
  split at h1
  · rename_i t kx t' px t2 wx
    cases h1
    obtain ⟨⟨e1, e2⟩, h3⟩ := h2
    have := c_l12RouteOk t t' (kx.map unPKind) (px.map unPPt) t2 (wx.map unS) h3.2.1 h3.2.2
    simp only [e1, e2, h3.1] at this
    exact ⟨this, rfl, trivial⟩
  · cases h1
def rtL (ps : List PPt) (ws : List ByteArray) (i : Nat) : List PPt := (ws.take i).map (ptAt' ps)
theorem rtL_len {ps : List PPt} {ws : List ByteArray} {i : Nat} (h : i ≤ ws.length) : (rtL ps ws i).length = i := by simp [rtL]; omega
theorem rtL_succ {ps : List PPt} {ws : List ByteArray} {i : Nat} (h : i < ws.length) : (rtL ps ws i).map PPt.row ++ [PPt.row (ptAt' ps (ws.getD i default))] = (rtL ps ws (i + 1)).map PPt.row := by
  rw [rtL, rtL, List.take_succ_eq_append_getElem h, List.map_append, List.map_append]; simp [h, -List.map_map]
def rtR (ps : List PPt) (ws : List ByteArray) : List PPt := if rtOk ps ws then rtL ps ws ws.length else []
set_option maxHeartbeats 1000000 in
theorem c_route (t t' : Nat) (ks : List PKind) (ps : List PPt) (t2 : Nat) (ws : List ByteArray) (hp : ps.length ≤ 1048576) (hw : ws.length ≤ 4611686018427387904) : Contract P 88 [.agg [.sl t 3 (ks.map PKind.row), .sl t' 3 (ps.map PPt.row)], .sl t2 1 (ws.map srow)] [] (.tup [.sl 0 3 ((rtR ps ws).map PPt.row), .bool (decide (rtOk ps ws))]) [] := by
  have tkl : True := trivial
  refine fn_sound (((Env.nil P).add 87 t_within h_within).add 106 t_iPoint h_iPoint) hm k_impl_PlanBase_route (Nat.le_of_ble_eq_true rfl) rfl ?_; unfold s_impl_PlanBase_route; simp (config := { maxSteps := 2000000 }) only [bitvec_to_nat, reduceIte, Nat.reduceEqDiff, Nat.reduceAdd, Nat.reduceLeDiff, reduceCtorEq, Nat.reduceBEq, Nat.reduceLT, Nat.reduceMod, List.forall_mem_cons, t_within, t_iPoint, tk_map, dp_map, toNat_pred, appE, rowsOf, List.take_length, List.length_cons, List.length_nil, Nat.zero_add, srow, irow, un_s, un_i, Zone.row, Zone_eta, un_Zone, Word.row, Word_eta, Own.row, Own_eta, Part.row, Part_eta, Seen.row, Seen_eta, Book.row, Book_eta, Sector.row, Sector_eta, HCraft.row, HCraft_eta, World.row, World_eta, PKind.row, PKind_eta, PPt.row, PPt_eta, Cell.row, Cell_eta, un_Word, un_Own, un_Part, un_Seen, un_Book, un_Sector, un_HCraft, un_World, un_PKind, un_PPt, un_Cell, Nat.sub_zero, List.nil_append, un_PPt, un_PKind, srow, un_s, tkl, ghost, un_PPt, getD_rows]
  refine ⟨fun h1 => ?_, fun h1 => ?_⟩
  rotate_left
  · have hno : ¬ rtOk ps ws := fun h => by have := h.1; omega
    simp [rtR, hno]
  refine loop_st (fun i : Nat => [(6, .own 106 i 0 i), (16, .int .i64 i)]) (fun i => [(106, .arr 119 i 3 ((rtL ps ws i).map PPt.row))]) (fun i => i ≤ ws.length ∧ ∀ j, j < i → rtAt ps ws j) (fun i => ws.length - i) 0 (by simp only [u_E0, u_E1, u_M0, u_M1, w_setE0, w_setE1, w_setM0, w_setM1, reduceIte, Nat.reduceEqDiff]; exact ⟨by repeat' (first | exact trivial | refine ⟨.inr rfl, ?_⟩), by repeat' (first | exact trivial | refine ⟨rfl, ?_⟩), by first | rfl | simp [closedB, refsIn, refsInL, refsInO, dom, refsInL_nr, *], by first | rfl | simp [keepB, dom]⟩) ⟨Nat.zero_le _, fun j hj => absurd hj (Nat.not_lt_zero _)⟩ ?_
  rintro i ⟨hi, h2⟩ NX hN
  have hll := rtL_len (ps := ps) hi
  have tkl : List.take i ((rtL ps ws i).map PPt.row) = (rtL ps ws i).map PPt.row := List.take_of_length_le (by simp [hll])
  have A : rtOk ps ws → i < ws.length → rtAt ps ws i := fun h g => h.2 i g
  unfold rtAt at A
  by_cases hlt : i < ws.length
  · have hsu := rtL_succ (ps := ps) hlt
    unfold l_impl_PlanBase_route_0; simp (config := { maxSteps := 2000000 }) only [bitvec_to_nat, reduceIte, Nat.reduceEqDiff, Nat.reduceAdd, Nat.reduceLeDiff, reduceCtorEq, Nat.reduceBEq, Nat.reduceLT, Nat.reduceMod, List.forall_mem_cons, t_within, t_iPoint, tk_map, dp_map, toNat_pred, appE, rowsOf, List.take_length, List.length_cons, List.length_nil, Nat.zero_add, srow, irow, un_s, un_i, Zone.row, Zone_eta, un_Zone, Word.row, Word_eta, Own.row, Own_eta, Part.row, Part_eta, Seen.row, Seen_eta, Book.row, Book_eta, Sector.row, Sector_eta, HCraft.row, HCraft_eta, World.row, World_eta, PKind.row, PKind_eta, PPt.row, PPt_eta, Cell.row, Cell_eta, un_Word, un_Own, un_Part, un_Seen, un_Book, un_Sector, un_HCraft, un_World, un_PKind, un_PPt, un_Cell, Nat.sub_zero, List.nil_append, un_PPt, un_PKind, srow, un_s, tkl, ghost, un_PPt, getD_rows]
    repeat' (first | with_reducible apply And.intro | with_reducible intro _)
    all_goals first
      | omega
      | exact (pIdx_at (by omega)).2.2
      | (refine hN (i + 1) _ ⟨by repeat' (first | exact trivial | refine ⟨.inr rfl, ?_⟩), ⟨rfl, congrArg (fun g => some (AObj.arr 119 (i + 1) 3 g)) hsu, trivial⟩, rfl, rfl⟩ ⟨hlt, all_snoc h2 ⟨by omega, by grind⟩⟩ (by omega))
      | (have hno : ¬ rtOk ps ws := fun hq => by have := A hq hlt; grind
         simp [rtR, hno]; done)
      | (exfalso; omega)
      | trace_state
  · have e : i = ws.length := by omega
    subst e
    unfold l_impl_PlanBase_route_0; simp (config := { maxSteps := 2000000 }) only [bitvec_to_nat, reduceIte, Nat.reduceEqDiff, Nat.reduceAdd, Nat.reduceLeDiff, reduceCtorEq, Nat.reduceBEq, Nat.reduceLT, Nat.reduceMod, List.forall_mem_cons, t_within, t_iPoint, tk_map, dp_map, toNat_pred, appE, rowsOf, List.take_length, List.length_cons, List.length_nil, Nat.zero_add, srow, irow, un_s, un_i, Zone.row, Zone_eta, un_Zone, Word.row, Word_eta, Own.row, Own_eta, Part.row, Part_eta, Seen.row, Seen_eta, Book.row, Book_eta, Sector.row, Sector_eta, HCraft.row, HCraft_eta, World.row, World_eta, PKind.row, PKind_eta, PPt.row, PPt_eta, Cell.row, Cell_eta, un_Word, un_Own, un_Part, un_Seen, un_Book, un_Sector, un_HCraft, un_World, un_PKind, un_PPt, un_Cell, Nat.sub_zero, List.nil_append, un_PPt, un_PKind, srow, un_s, tkl, ghost, un_PPt, getD_rows]
    have hok : rtOk ps ws := ⟨by omega, h2⟩
    refine ⟨fun h' => absurd h' (by omega), fun _ => ?_⟩
    simp [rtR, hok]
def t_route : List AV → Option (Prop × AV)
  | [.agg [.sl t 3 kx, .sl t' 3 px], .sl t2 1 wx] => some (((kx.map unPKind).map PKind.row = kx ∧ (px.map unPPt).map PPt.row = px) ∧ ((wx.map unS).map srow = wx ∧ (px.map unPPt).length ≤ 1048576 ∧ (wx.map unS).length ≤ 4611686018427387904), .tup [.sl 0 3 ((rtR (px.map unPPt) (wx.map unS)).map PPt.row), .bool (decide (rtOk (px.map unPPt) (wx.map unS)))])
  | _ => none
theorem h_route : ∀ args p v, t_route args = some (p, v) → p → Contract P 88 args [] v [] ∧ noref v = true ∧ No99 v := by
  intro args p v h1 h2
  unfold t_route at h1
  split at h1
  · rename_i t kx t' px t2 wx
    cases h1
    obtain ⟨⟨e1, e2⟩, h3⟩ := h2
    have := c_route t t' (kx.map unPKind) (px.map unPPt) t2 (wx.map unS) h3.2.1 h3.2.2
    simp only [e1, e2, h3.1] at this
    exact ⟨this, rfl, by simp [No99, No99L, no99_PPt]⟩
  · cases h1
end
end Go.Ve

namespace Go.Proofs
open Go.Shelf
def Tryz.lays160_ren : Go.Shelf.Ren := ⟨fun | 160 => 104 | 232 => 116 | 231 => 115 | 227 => 117 | 234 => 119 | 233 => 118 | 236 => 121 | 235 => 120 | 228 => 133 | 271 => 135 | 151 => 134 | 197 => 130 | 120 => 147 | 152 => 146 | 260 => 141 | 137 => 154 | 119 => 155 | 224 => 144 | 225 => 143 | 217 => 142 | 266 => 152 | n => n, fun | 9 => 9 | 4 => 4 | 3 => 3 | 5 => 5 | 117 => 164 | 116 => 163 | 0 => 0 | 124 => 167 | 21 => 21 | 105 => 173 | 46 => 185 | 119 => 194 | 139 => 197 | 138 => 196 | n => n, fun | 3 => 3 | 4 => 4 | n => n⟩
theorem Tryz.lays160 : Go.Proofs.Lays.n160 Tryz.prog Tryz.lays160_ren where
  mixed := by kernel_rfl
  f119 := Tryz.func155.trans (congrArg some (by kernel_rfl))
  f120 := Tryz.func147.trans (congrArg some (by kernel_rfl))
  f137 := Tryz.func154.trans (congrArg some (by kernel_rfl))
  f151 := Tryz.func134.trans (congrArg some (by kernel_rfl))
  f152 := Tryz.func146.trans (congrArg some (by kernel_rfl))
  f160 := Tryz.func104.trans (congrArg some (by kernel_rfl))
  f197 := Tryz.func130.trans (congrArg some (by kernel_rfl))
  f217 := Tryz.func142.trans (congrArg some (by kernel_rfl))
  f224 := Tryz.func144.trans (congrArg some (by kernel_rfl))
  f225 := Tryz.func143.trans (congrArg some (by kernel_rfl))
  f227 := Tryz.func117.trans (congrArg some (by kernel_rfl))
  f228 := Tryz.func133.trans (congrArg some (by kernel_rfl))
  f231 := Tryz.func115.trans (congrArg some (by kernel_rfl))
  f232 := Tryz.func116.trans (congrArg some (by kernel_rfl))
  f233 := Tryz.func118.trans (congrArg some (by kernel_rfl))
  f234 := Tryz.func119.trans (congrArg some (by kernel_rfl))
  f235 := Tryz.func120.trans (congrArg some (by kernel_rfl))
  f236 := Tryz.func121.trans (congrArg some (by kernel_rfl))
  f260 := Tryz.func141.trans (congrArg some (by kernel_rfl))
  f266 := Tryz.func152.trans (congrArg some (by kernel_rfl))
  f271 := Tryz.func135.trans (congrArg some (by kernel_rfl))
  t0 := Tryz.underlying0
  a0 := Tryz.isAgg0
  z0 := Tryz.sizeOf0
  v0 := Tryz.zeroValue0
  t3 := Tryz.underlying3
  a3 := Tryz.isAgg3
  z3 := Tryz.sizeOf3
  v3 := Tryz.zeroValue3
  t4 := Tryz.underlying4
  a4 := Tryz.isAgg4
  z4 := Tryz.sizeOf4
  v4 := Tryz.zeroValue4
  t5 := Tryz.underlying5
  a5 := Tryz.isAgg5
  z5 := Tryz.sizeOf5
  v5 := Tryz.zeroValue5
  t9 := Tryz.underlying9
  a9 := Tryz.isAgg9
  z9 := Tryz.sizeOf9
  v9 := Tryz.zeroValue9
  t21 := Tryz.underlying21
  a21 := Tryz.isAgg21
  z21 := Tryz.sizeOf21
  v21 := Tryz.zeroValue21
  t46 := Tryz.underlying185
  a46 := Tryz.isAgg185
  z46 := Tryz.sizeOf185
  v46 := Tryz.zeroValue185
  t105 := Tryz.underlying173
  a105 := Tryz.isAgg173
  z105 := Tryz.sizeOf173
  v105 := Tryz.zeroValue173
  t116 := Tryz.underlying163
  a116 := Tryz.isAgg163
  z116 := Tryz.sizeOf163
  t117 := Tryz.underlying164
  a117 := Tryz.isAgg164
  z117 := Tryz.sizeOf164
  v117 := Tryz.zeroValue164
  t119 := Tryz.underlying194
  a119 := Tryz.isAgg194
  z119 := Tryz.sizeOf194
  t124 := Tryz.underlying167
  a124 := Tryz.isAgg167
  z124 := Tryz.sizeOf167
  v124 := Tryz.zeroValue167
  t138 := Tryz.underlying196
  a138 := Tryz.isAgg196
  z138 := Tryz.sizeOf196
  v138 := Tryz.zeroValue196
  t139 := Tryz.underlying197
  a139 := Tryz.isAgg197
  z139 := Tryz.sizeOf197
  v139 := Tryz.zeroValue197
  g3 := by kernel_rfl
  g4 := by kernel_rfl
def Tryz.lays138_ren : Go.Shelf.Ren := ⟨fun | 138 => 113 | 195 => 129 | 218 => 131 | 143 => 114 | 219 => 132 | 217 => 142 | 225 => 143 | 224 => 144 | 267 => 145 | 266 => 152 | 314 => 153 | n => n, fun | 9 => 9 | 3 => 3 | 4 => 4 | 5 => 5 | 0 => 0 | 46 => 185 | 146 => 199 | 51 => 198 | n => n, fun | 1 => 0 | n => n⟩
theorem Tryz.lays138 : Go.Proofs.Lays.n138 Tryz.prog Tryz.lays138_ren where
  mixed := by kernel_rfl
  f138 := Tryz.func113.trans (congrArg some (by kernel_rfl))
  f143 := Tryz.func114.trans (congrArg some (by kernel_rfl))
  f195 := Tryz.func129.trans (congrArg some (by kernel_rfl))
  f217 := Tryz.func142.trans (congrArg some (by kernel_rfl))
  f218 := Tryz.func131.trans (congrArg some (by kernel_rfl))
  f219 := Tryz.func132.trans (congrArg some (by kernel_rfl))
  f224 := Tryz.func144.trans (congrArg some (by kernel_rfl))
  f225 := Tryz.func143.trans (congrArg some (by kernel_rfl))
  f266 := Tryz.func152.trans (congrArg some (by kernel_rfl))
  f267 := Tryz.func145.trans (congrArg some (by kernel_rfl))
  f314 := Tryz.func153.trans (congrArg some (by kernel_rfl))
  t0 := Tryz.underlying0
  a0 := Tryz.isAgg0
  z0 := Tryz.sizeOf0
  v0 := Tryz.zeroValue0
  t3 := Tryz.underlying3
  a3 := Tryz.isAgg3
  z3 := Tryz.sizeOf3
  v3 := Tryz.zeroValue3
  t4 := Tryz.underlying4
  a4 := Tryz.isAgg4
  z4 := Tryz.sizeOf4
  v4 := Tryz.zeroValue4
  t5 := Tryz.underlying5
  a5 := Tryz.isAgg5
  z5 := Tryz.sizeOf5
  v5 := Tryz.zeroValue5
  t9 := Tryz.underlying9
  a9 := Tryz.isAgg9
  z9 := Tryz.sizeOf9
  v9 := Tryz.zeroValue9
  t46 := Tryz.underlying185
  a46 := Tryz.isAgg185
  z46 := Tryz.sizeOf185
  v46 := Tryz.zeroValue185
  t51 := Tryz.underlying198
  a51 := Tryz.isAgg198
  z51 := Tryz.sizeOf198
  v51 := Tryz.zeroValue198
  t146 := Tryz.underlying199
  a146 := Tryz.isAgg199
  z146 := Tryz.sizeOf199
  v146 := Tryz.zeroValue199
  g1 := by kernel_rfl
def Tryz.lays143_ren : Go.Shelf.Ren := ⟨fun | 143 => 114 | 219 => 132 | 217 => 142 | 225 => 143 | 224 => 144 | 267 => 145 | 266 => 152 | 314 => 153 | n => n, fun | 9 => 9 | 3 => 3 | 4 => 4 | 5 => 5 | 46 => 185 | 146 => 199 | 51 => 198 | n => n, fun | 1 => 0 | n => n⟩
theorem Tryz.lays143 : Go.Proofs.Lays.n143 Tryz.prog Tryz.lays143_ren where
  mixed := by kernel_rfl
  f143 := Tryz.func114.trans (congrArg some (by kernel_rfl))
  f217 := Tryz.func142.trans (congrArg some (by kernel_rfl))
  f219 := Tryz.func132.trans (congrArg some (by kernel_rfl))
  f224 := Tryz.func144.trans (congrArg some (by kernel_rfl))
  f225 := Tryz.func143.trans (congrArg some (by kernel_rfl))
  f266 := Tryz.func152.trans (congrArg some (by kernel_rfl))
  f267 := Tryz.func145.trans (congrArg some (by kernel_rfl))
  f314 := Tryz.func153.trans (congrArg some (by kernel_rfl))
  t3 := Tryz.underlying3
  a3 := Tryz.isAgg3
  z3 := Tryz.sizeOf3
  v3 := Tryz.zeroValue3
  t4 := Tryz.underlying4
  a4 := Tryz.isAgg4
  z4 := Tryz.sizeOf4
  v4 := Tryz.zeroValue4
  t5 := Tryz.underlying5
  a5 := Tryz.isAgg5
  z5 := Tryz.sizeOf5
  v5 := Tryz.zeroValue5
  t9 := Tryz.underlying9
  a9 := Tryz.isAgg9
  z9 := Tryz.sizeOf9
  v9 := Tryz.zeroValue9
  t46 := Tryz.underlying185
  a46 := Tryz.isAgg185
  z46 := Tryz.sizeOf185
  v46 := Tryz.zeroValue185
  t51 := Tryz.underlying198
  a51 := Tryz.isAgg198
  z51 := Tryz.sizeOf198
  v51 := Tryz.zeroValue198
  t146 := Tryz.underlying199
  a146 := Tryz.isAgg199
  z146 := Tryz.sizeOf199
  v146 := Tryz.zeroValue199
  g1 := by kernel_rfl
def Tryz.lays172_ren : Go.Shelf.Ren := ⟨fun | 172 => 105 | 244 => 122 | 245 => 123 | 247 => 136 | 279 => 137 | 280 => 138 | 281 => 139 | 282 => 140 | 287 => 148 | 316 => 149 | 171 => 151 | 205 => 150 | 321 => 156 | 322 => 157 | 243 => 158 | 246 => 159 | 283 => 160 | 284 => 161 | 285 => 162 | 286 => 163 | 129 => 165 | 317 => 164 | 318 => 166 | 319 => 167 | 320 => 168 | 337 => 169 | 338 => 170 | n => n, fun | 9 => 9 | 3 => 3 | 75 => 151 | 76 => 152 | 4 => 4 | 5 => 5 | 167 => 178 | 37 => 143 | 0 => 0 | 85 => 179 | 2 => 2 | 168 => 181 | 53 => 187 | 175 => 188 | 46 => 185 | 210 => 192 | 127 => 203 | 145 => 206 | 143 => 204 | 21 => 21 | 171 => 208 | 173 => 211 | 212 => 214 | 51 => 198 | 20 => 20 | 213 => 215 | 232 => 219 | 233 => 220 | 80 => 223 | n => n, fun | 15 => 1 | 16 => 2 | 17 => 5 | 18 => 6 | 19 => 7 | n => n⟩
theorem Tryz.lays172 : Go.Proofs.Lays.n172 Tryz.prog Tryz.lays172_ren where
  mixed := by kernel_rfl
  f129 := Tryz.func165.trans (congrArg some (by kernel_rfl))
  f171 := Tryz.func151.trans (congrArg some (by kernel_rfl))
  f172 := Tryz.func105.trans (congrArg some (by kernel_rfl))
  f205 := Tryz.func150.trans (congrArg some (by kernel_rfl))
  f243 := Tryz.func158.trans (congrArg some (by kernel_rfl))
  f244 := Tryz.func122.trans (congrArg some (by kernel_rfl))
  f245 := Tryz.func123.trans (congrArg some (by kernel_rfl))
  f246 := Tryz.func159.trans (congrArg some (by kernel_rfl))
  f247 := Tryz.func136.trans (congrArg some (by kernel_rfl))
  f279 := Tryz.func137.trans (congrArg some (by kernel_rfl))
  f280 := Tryz.func138.trans (congrArg some (by kernel_rfl))
  f281 := Tryz.func139.trans (congrArg some (by kernel_rfl))
  f282 := Tryz.func140.trans (congrArg some (by kernel_rfl))
  f283 := Tryz.func160.trans (congrArg some (by kernel_rfl))
  f284 := Tryz.func161.trans (congrArg some (by kernel_rfl))
  f285 := Tryz.func162.trans (congrArg some (by kernel_rfl))
  f286 := Tryz.func163.trans (congrArg some (by kernel_rfl))
  f287 := Tryz.func148.trans (congrArg some (by kernel_rfl))
  f316 := Tryz.func149.trans (congrArg some (by kernel_rfl))
  f317 := Tryz.func164.trans (congrArg some (by kernel_rfl))
  f318 := Tryz.func166.trans (congrArg some (by kernel_rfl))
  f319 := Tryz.func167.trans (congrArg some (by kernel_rfl))
  f320 := Tryz.func168.trans (congrArg some (by kernel_rfl))
  f321 := Tryz.func156.trans (congrArg some (by kernel_rfl))
  f322 := Tryz.func157.trans (congrArg some (by kernel_rfl))
  f337 := Tryz.func169.trans (congrArg some (by kernel_rfl))
  f338 := Tryz.func170.trans (congrArg some (by kernel_rfl))
  t0 := Tryz.underlying0
  a0 := Tryz.isAgg0
  z0 := Tryz.sizeOf0
  v0 := Tryz.zeroValue0
  t2 := Tryz.underlying2
  a2 := Tryz.isAgg2
  z2 := Tryz.sizeOf2
  v2 := Tryz.zeroValue2
  t3 := Tryz.underlying3
  a3 := Tryz.isAgg3
  z3 := Tryz.sizeOf3
  v3 := Tryz.zeroValue3
  t4 := Tryz.underlying4
  a4 := Tryz.isAgg4
  z4 := Tryz.sizeOf4
  v4 := Tryz.zeroValue4
  t5 := Tryz.underlying5
  a5 := Tryz.isAgg5
  z5 := Tryz.sizeOf5
  v5 := Tryz.zeroValue5
  t9 := Tryz.underlying9
  a9 := Tryz.isAgg9
  z9 := Tryz.sizeOf9
  v9 := Tryz.zeroValue9
  t20 := Tryz.underlying20
  a20 := Tryz.isAgg20
  z20 := Tryz.sizeOf20
  v20 := Tryz.zeroValue20
  t21 := Tryz.underlying21
  a21 := Tryz.isAgg21
  z21 := Tryz.sizeOf21
  v21 := Tryz.zeroValue21
  t37 := Tryz.underlying143
  a37 := Tryz.isAgg143
  z37 := Tryz.sizeOf143
  v37 := Tryz.zeroValue143
  t46 := Tryz.underlying185
  a46 := Tryz.isAgg185
  z46 := Tryz.sizeOf185
  v46 := Tryz.zeroValue185
  t51 := Tryz.underlying198
  a51 := Tryz.isAgg198
  z51 := Tryz.sizeOf198
  v51 := Tryz.zeroValue198
  t53 := Tryz.underlying187
  a53 := Tryz.isAgg187
  z53 := Tryz.sizeOf187
  v53 := Tryz.zeroValue187
  t75 := Tryz.underlying151
  a75 := Tryz.isAgg151
  z75 := Tryz.sizeOf151
  v75 := Tryz.zeroValue151
  t76 := Tryz.underlying152
  a76 := Tryz.isAgg152
  z76 := Tryz.sizeOf152
  v76 := Tryz.zeroValue152
  t85 := Tryz.underlying179
  a85 := Tryz.isAgg179
  z85 := Tryz.sizeOf179
  v85 := Tryz.zeroValue179
  t127 := Tryz.underlying203
  a127 := Tryz.isAgg203
  z127 := Tryz.sizeOf203
  v127 := Tryz.zeroValue203
  t143 := Tryz.underlying204
  a143 := Tryz.isAgg204
  z143 := Tryz.sizeOf204
  v143 := Tryz.zeroValue204
  t145 := Tryz.underlying206
  a145 := Tryz.isAgg206
  z145 := Tryz.sizeOf206
  v145 := Tryz.zeroValue206
  t167 := Tryz.underlying178
  a167 := Tryz.isAgg178
  z167 := Tryz.sizeOf178
  v167 := Tryz.zeroValue178
  t168 := Tryz.underlying181
  a168 := Tryz.isAgg181
  z168 := Tryz.sizeOf181
  v168 := Tryz.zeroValue181
  t171 := Tryz.underlying208
  a171 := Tryz.isAgg208
  z171 := Tryz.sizeOf208
  v171 := Tryz.zeroValue208
  t173 := Tryz.underlying211
  a173 := Tryz.isAgg211
  z173 := Tryz.sizeOf211
  v173 := Tryz.zeroValue211
  t175 := Tryz.underlying188
  a175 := Tryz.isAgg188
  z175 := Tryz.sizeOf188
  v175 := Tryz.zeroValue188
  t210 := Tryz.underlying192
  a210 := Tryz.isAgg192
  z210 := Tryz.sizeOf192
  v210 := Tryz.zeroValue192
  t212 := Tryz.underlying214
  a212 := Tryz.isAgg214
  z212 := Tryz.sizeOf214
  v212 := Tryz.zeroValue214
  t213 := Tryz.underlying215
  a213 := Tryz.isAgg215
  z213 := Tryz.sizeOf215
  t232 := Tryz.underlying219
  a232 := Tryz.isAgg219
  z232 := Tryz.sizeOf219
  v232 := Tryz.zeroValue219
  t233 := Tryz.underlying220
  a233 := Tryz.isAgg220
  z233 := Tryz.sizeOf220
  v233 := Tryz.zeroValue220
  g15 := by kernel_rfl
  g16 := by kernel_rfl
  g17 := by kernel_rfl
  g18 := by kernel_rfl
  g19 := by kernel_rfl
end Go.Proofs

namespace Go.Ve
noncomputable section
open Go.Proofs
set_option linter.unusedSimpArgs false
set_option linter.unusedVariables false
set_option maxRecDepth 100000
open Go.Shelf Go.Lib Go.RowKit
def digs : ByteArray := ⟨#[48, 49, 50, 51, 52, 53, 54, 55, 56, 57]⟩
def digL : List UInt8 := [48, 49, 50, 51, 52, 53, 54, 55, 56, 57]
def trimD (s : ByteArray) : ByteArray := ⟨(Lib.trimS s.data.toList digL).toArray⟩
theorem c_Trim (s : ByteArray) (hs : s.toList.length ≤ 9223372036854775807) : Contract P 104 [.str s, .str digs] [] (.str (trimD s)) [] :=
  Contract.of_calls (args_ss s _) (fun C => rfl) fun w => Any.strings_Trim_laid Go.Proofs.Tryz.lays160 (by kernel_rfl) s digs w (by rw [toList_size]; exact hs) (by decide) (ascii_of_all (by decide))
theorem c_Atoi (s : ByteArray) (n : Int) (hs : s.toList.length ≤ 18) (h : Lib.atoi s.data.toList = some n) : Contract P 105 [.str s] [] (.tup [.int .i64 n, .junk]) [] :=
  Contract.of_calls (v := .tuple #[.int .i64 n, .nilIface]) (args_s s) (fun C => ⟨[.int .i64 n, .nilIface], rfl, _, _, rfl, rfl, _, _, rfl, trivial, rfl⟩) fun w =>
    (Any.strconv_Atoi Go.Proofs.Tryz.lays172 s n (by rw [toList_size]; exact hs) h w).mono fun e w' ⟨h1, t, h2⟩ => ⟨h1, h2 ▸ ⟨rfl, rfl, rfl, by rw [Lib.bytesWorld_size]; omega, fun k hk => Lib.bytesWorld_at_old w _ t k hk⟩⟩
theorem c_Count (s : ByteArray) : Contract P 113 [.str s, .str ⟨#[32]⟩] [] (.int .i64 (Lib.countByte s.data.toList 32)) [] :=
  Contract.of_calls (args_ss s _) (fun C => rfl) fun w => (Any.strings_Count_one Go.Proofs.Tryz.lays138 s 32 w).mono fun e w' ⟨h1, h2⟩ => ⟨h1, by rw [h2]; exact Below.refl _ w⟩
theorem c_Index (s : ByteArray) : Contract P 114 [.str s, .str ⟨#[32]⟩] [] (.int .i64 (Lib.indexByte s.data.toList 32)) [] :=
  Contract.of_calls (args_ss s _) (fun C => rfl) fun w => (Any.strings_Index_one Go.Proofs.Tryz.lays143 s 32 w).mono fun e w' ⟨h1, h2⟩ => ⟨h1, by rw [h2]; exact Below.refl _ w⟩

end
end Go.Ve

