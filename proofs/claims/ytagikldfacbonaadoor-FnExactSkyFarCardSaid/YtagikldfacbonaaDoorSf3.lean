/- Part 3 of the proof: laws and contracts of functions, each proved; they are joined in the last part. No conditions beyond those that the theorems state. -/
import Derived.Test.YtagikldfacbonaaDoorProg
import Derived.Test.YtagikldfacbonaaDoorSf2
set_option linter.all false
namespace Go.Ve
open Go.Proofs
set_option maxRecDepth 100000
/-- laws.FnExactSkyFar: function 3 -/
def K2 : SFun := { n := 41, res := [.t 6], body := (.seq (.rg [⟨some 3, .box 103 (.v 0), none, [0]⟩, ⟨some 6, .mv (.c (.bool false)), none, [6]⟩] [1, 2, 3]) (.seq (.seq (.rg [⟨some 11, .mv (.v 1), none, []⟩, ⟨some 12, .lenS (.v 11), none, [11]⟩, ⟨some 13, .bin .gtr (.v 12) (.c (.int .i64 1048576)), none, [12]⟩] [1, 2, 3, 13]) (.cond (.v 13) (.seq (.rg [⟨some 6, .mv (.c (.bool true)), none, []⟩] [6]) .ret) .skip)) (.seq (.seq (.rg [⟨some 14, .mv (.v 2), none, []⟩, ⟨some 15, .lenS (.v 14), none, [14]⟩, ⟨some 16, .bin .gtr (.v 15) (.c (.int .i64 1048576)), none, [15]⟩] [1, 2, 3, 16]) (.cond (.v 16) (.seq (.rg [⟨some 6, .mv (.c (.bool true)), none, []⟩] [6]) .ret) .skip)) (.seq (.rg [⟨some 7, .mv (.c (.int .i64 1048576)), none, []⟩] [1, 2, 3, 7]) (.seq (.rg [⟨some 17, .loadN 7 (.v 3), none, []⟩, ⟨some 18, .mv (.v 7), none, [7]⟩, ⟨some 19, .call 5 [.v 17, .v 18], none, [17, 18]⟩, ⟨some 7, .mv (.v 19), none, [19]⟩] [1, 2, 3, 7]) (.seq (.seq (.rg [⟨some 20, .mv (.v 7), none, [7]⟩, ⟨some 21, .bin .lss (.v 20) (.c (.int .i64 0)), none, [20]⟩] [1, 2, 3, 21]) (.cond (.v 21) (.seq (.rg [⟨some 6, .mv (.c (.bool true)), none, []⟩] [6]) .ret) .skip)) (.seq (.rg [⟨some 22, .loadN 7 (.v 3), none, []⟩, ⟨some 23, .call 7 [.v 22], none, [22]⟩, ⟨some 24, .mv (.v 1), none, []⟩, ⟨some 25, .mv (.v 2), none, []⟩, ⟨some 26, .call 6 [.v 23, .v 24, .v 25], none, [23, 24, 25]⟩, ⟨some 8, .mv (.v 26), none, [26]⟩] [1, 2, 3, 8]) (.seq (.rg [⟨some 27, .loadN 7 (.v 3), none, []⟩, ⟨some 28, .call 7 [.v 27], none, [27]⟩, ⟨some 9, .alloc 109 [.int .i64 0, .int .i64 0, .int .i64 0, .sl 0 3 [], .sl 0 2 [], .sl 0 2 [], .sl 0 4 []], none, []⟩, ⟨none, .store 7 (.v 9) (.v 28), none, [28]⟩] [1, 2, 3, 8, 9]) (.seq (.rg [⟨some 29, .loadN 7 (.v 9), none, []⟩, ⟨some 30, .mv (.v 1), none, [1]⟩, ⟨some 31, .mv (.v 2), none, [2]⟩, ⟨some 32, .call 8 [.v 29, .v 30, .v 31], none, [29, 30, 31]⟩, ⟨some 10, .mv (.v 32), none, [32]⟩] [3, 8, 9, 10]) (.seq (.seq (.rg [⟨some 33, .mv (.v 10), none, [10]⟩, ⟨some 34, .mv (.v 8), none, [8]⟩, ⟨some 35, .bin .neq (.v 33) (.v 34), none, [33, 34]⟩] [3, 9, 35]) (.cond (.v 35) (.seq (.rg [⟨some 6, .mv (.c (.bool false)), none, []⟩] [6]) .ret) .skip)) (.seq (.seq (.rgd [⟨some 36, .loadN 7 (.v 9), none, []⟩, ⟨some 37, .loadN 7 (.v 3), none, []⟩, ⟨some 38, .call 7 [.v 37], none, []⟩, ⟨some 39, .call 9 [.v 36, .v 38], none, []⟩, ⟨some 40, .not (.v 39), none, []⟩] [40] [some [], none, some [1], none, none]) (.cond (.v 40) (.seq (.rg [⟨some 6, .mv (.c (.bool false)), none, []⟩] [6]) .ret) .skip)) (.seq (.rg [⟨some 6, .mv (.c (.bool true)), none, []⟩] [6]) .ret)))))))))))) }
theorem XY : QY Go.Proofs.Tryd.prog 3 K2 = true := by kernel_rfl
/-- laws.szSky: function 5 -/
def UR : SFun := { n := 30, res := [.t 4], body := (.seq (.rg [⟨some 2, .box 102 (.v 0), none, [0]⟩, ⟨some 4, .mv (.c (.int .i64 0)), none, [4]⟩] [1, 2]) (.seq (.rg [⟨some 5, .faddr 3 (.v 2), none, []⟩, ⟨some 6, .load1 (.v 5), none, [5]⟩, ⟨some 7, .mv (.v 1), none, [1]⟩, ⟨some 8, .call 16 [.v 6, .v 7], none, [6, 7]⟩, ⟨some 1, .mv (.v 8), none, [8]⟩] [1, 2]) (.seq (.seq (.rg [⟨some 9, .mv (.v 1), none, []⟩, ⟨some 10, .bin .lss (.v 9) (.c (.int .i64 0)), none, [9]⟩] [1, 2, 10]) (.cond (.v 10) (.seq (.rg [⟨some 4, .mv (.c (.int .i64 (-1))), none, []⟩] [4]) .ret) .skip)) (.seq (.rg [⟨some 11, .faddr 4 (.v 2), none, []⟩, ⟨some 12, .load1 (.v 11), none, [11]⟩, ⟨some 13, .mv (.v 1), none, [1]⟩, ⟨some 14, .call 17 [.v 12, .v 13], none, [12, 13]⟩, ⟨some 1, .mv (.v 14), none, [14]⟩] [1, 2]) (.seq (.seq (.rg [⟨some 15, .mv (.v 1), none, []⟩, ⟨some 16, .bin .lss (.v 15) (.c (.int .i64 0)), none, [15]⟩] [1, 2, 16]) (.cond (.v 16) (.seq (.rg [⟨some 4, .mv (.c (.int .i64 (-1))), none, []⟩] [4]) .ret) .skip)) (.seq (.rg [⟨some 17, .faddr 5 (.v 2), none, []⟩, ⟨some 18, .load1 (.v 17), none, [17]⟩, ⟨some 19, .mv (.v 1), none, [1]⟩, ⟨some 20, .call 18 [.v 18, .v 19], none, [18, 19]⟩, ⟨some 1, .mv (.v 20), none, [20]⟩] [1, 2]) (.seq (.seq (.rg [⟨some 21, .mv (.v 1), none, []⟩, ⟨some 22, .bin .lss (.v 21) (.c (.int .i64 0)), none, [21]⟩] [1, 2, 22]) (.cond (.v 22) (.seq (.rg [⟨some 4, .mv (.c (.int .i64 (-1))), none, []⟩] [4]) .ret) .skip)) (.seq (.rg [⟨some 23, .faddr 6 (.v 2), none, [2]⟩, ⟨some 24, .load1 (.v 23), none, [23]⟩, ⟨some 25, .mv (.v 1), none, [1]⟩, ⟨some 26, .call 19 [.v 24, .v 25], none, [24, 25]⟩, ⟨some 1, .mv (.v 26), none, [26]⟩] [1]) (.seq (.seq (.rg [⟨some 27, .mv (.v 1), none, []⟩, ⟨some 28, .bin .lss (.v 27) (.c (.int .i64 0)), none, [27]⟩] [1, 28]) (.cond (.v 28) (.seq (.rg [⟨some 4, .mv (.c (.int .i64 (-1))), none, []⟩] [4]) .ret) .skip)) (.seq (.rg [⟨some 29, .mv (.v 1), none, [1]⟩, ⟨some 4, .mv (.v 29), none, [29]⟩] [4]) .ret)))))))))) }
theorem Qcd : QY Go.Proofs.Tryd.prog 5 UR = true := by kernel_rfl
/-- spec.SkyFar: function 6 -/
def ZL : SFun := { n := 18, res := [.t 6], body := (.seq (.rg [⟨some 3, .box 103 (.v 0), none, [0]⟩, ⟨some 6, .mv (.c (.int .i64 0)), none, [6]⟩] [1, 2, 3]) (.seq (.rg [⟨some 8, .loadN 7 (.v 3), none, []⟩, ⟨some 9, .mv (.v 1), none, [1]⟩, ⟨some 10, .mv (.v 2), none, [2]⟩, ⟨some 11, .call 10 [.v 8, .v 9, .v 10], none, [8, 9, 10]⟩, ⟨some 7, .mv (.v 11), none, [11]⟩] [3, 7]) (.seq (.seq (.rg [⟨some 12, .mv (.v 7), none, []⟩, ⟨some 13, .lenL (.v 12), none, [12]⟩, ⟨some 14, .bin .eql (.v 13) (.c (.int .i64 0)), none, [13]⟩] [3, 7, 14]) (.cond (.v 14) (.seq (.rg [⟨some 6, .mv (.c (.int .i64 (-1))), none, []⟩] [6]) .ret) .skip)) (.seq (.rg [⟨some 15, .loadN 7 (.v 3), none, [3]⟩, ⟨some 16, .mv (.v 7), none, [7]⟩, ⟨some 17, .call 20 [.v 15, .v 16], none, [15, 16]⟩, ⟨some 6, .mv (.v 17), none, [17]⟩] [6]) .ret)))) }
theorem QaQ : QY Go.Proofs.Tryd.prog 6 ZL = true := by kernel_rfl
/-- laws.toSky: function 7 -/
def US : SFun := { n := 30, res := [.cN 2 7], body := (.seq (.rg [⟨some 1, .box 101 (.v 0), none, [0]⟩, ⟨some 2, .alloc 102 [.int .i64 0, .int .i64 0, .int .i64 0, .sl 0 3 [], .sl 0 2 [], .sl 0 2 [], .sl 0 4 []], none, []⟩] [1, 2]) (.seq (.rg [⟨some 3, .alloc 103 [.int .i64 0, .int .i64 0, .int .i64 0, .sl 0 3 [], .sl 0 2 [], .sl 0 2 [], .sl 0 4 []], none, []⟩] [1, 2, 3]) (.seq (.rg [⟨some 4, .faddr 0 (.v 1), none, []⟩, ⟨some 5, .load1 (.v 4), none, [4]⟩, ⟨some 6, .faddr 0 (.v 3), none, []⟩, ⟨none, .store 1 (.v 6) (.v 5), none, [5, 6]⟩] [1, 2, 3]) (.seq (.rg [⟨some 7, .faddr 1 (.v 1), none, []⟩, ⟨some 8, .load1 (.v 7), none, [7]⟩, ⟨some 9, .faddr 1 (.v 3), none, []⟩, ⟨none, .store 1 (.v 9) (.v 8), none, [8, 9]⟩] [1, 2, 3]) (.seq (.rg [⟨some 10, .faddr 2 (.v 1), none, []⟩, ⟨some 11, .load1 (.v 10), none, [10]⟩, ⟨some 12, .faddr 2 (.v 3), none, []⟩, ⟨none, .store 1 (.v 12) (.v 11), none, [11, 12]⟩] [1, 2, 3]) (.seq (.rg [⟨some 13, .faddr 3 (.v 1), none, []⟩, ⟨some 14, .load1 (.v 13), none, [13]⟩, ⟨some 15, .call 21 [.v 14], none, [14]⟩, ⟨some 16, .faddr 3 (.v 3), none, []⟩, ⟨none, .store 1 (.v 16) (.v 15), none, [15, 16]⟩] [1, 2, 3]) (.seq (.rg [⟨some 17, .faddr 4 (.v 1), none, []⟩, ⟨some 18, .load1 (.v 17), none, [17]⟩, ⟨some 19, .call 22 [.v 18], none, [18]⟩, ⟨some 20, .faddr 4 (.v 3), none, []⟩, ⟨none, .store 1 (.v 20) (.v 19), none, [19, 20]⟩] [1, 2, 3]) (.seq (.rg [⟨some 21, .faddr 5 (.v 1), none, []⟩, ⟨some 22, .load1 (.v 21), none, [21]⟩, ⟨some 23, .call 23 [.v 22], none, [22]⟩, ⟨some 24, .faddr 5 (.v 3), none, []⟩, ⟨none, .store 1 (.v 24) (.v 23), none, [23, 24]⟩] [1, 2, 3]) (.seq (.rg [⟨some 25, .faddr 6 (.v 1), none, [1]⟩, ⟨some 26, .load1 (.v 25), none, [25]⟩, ⟨some 27, .call 24 [.v 26], none, [26]⟩, ⟨some 28, .faddr 6 (.v 3), none, []⟩, ⟨none, .store 1 (.v 28) (.v 27), none, [27, 28]⟩] [2, 3]) (.seq (.rg [⟨some 29, .loadN 7 (.v 3), none, [3]⟩, ⟨none, .store 7 (.v 2) (.v 29), none, [29]⟩] [2]) .ret)))))))))) }
theorem Qce : QY Go.Proofs.Tryd.prog 7 US = true := by kernel_rfl
/-- impl.SkyFar: function 8 -/
def ZM : SFun := { n := 36, res := [.t 6], body := (.seq (.rg [⟨some 3, .box 103 (.v 0), none, [0]⟩, ⟨some 6, .mv (.c (.int .i64 0)), none, [6]⟩] [1, 2, 3]) (.seq (.seq (.rg [⟨some 9, .loadN 7 (.v 3), none, []⟩, ⟨some 10, .call 25 [.v 9], none, [9]⟩, ⟨some 11, .not (.v 10), none, [10]⟩, ⟨some 12, .mv (.v 11), none, [11]⟩, ⟨some 13, .loadN 7 (.v 3), some (12, false), []⟩, ⟨some 14, .mv (.v 1), some (12, false), []⟩, ⟨some 15, .call 26 [.v 13, .v 14], some (12, false), [13, 14]⟩, ⟨some 16, .bin .lss (.v 15) (.c (.int .i64 0)), some (12, false), [15]⟩, ⟨some 17, .pick (.v 12) (.c (.bool true)) (.v 16), none, [12, 16]⟩, ⟨some 18, .mv (.v 17), none, [17]⟩, ⟨some 19, .loadN 7 (.v 3), some (18, false), []⟩, ⟨some 20, .mv (.v 2), some (18, false), []⟩, ⟨some 21, .call 26 [.v 19, .v 20], some (18, false), [19, 20]⟩, ⟨some 22, .bin .lss (.v 21) (.c (.int .i64 0)), some (18, false), [21]⟩, ⟨some 23, .pick (.v 18) (.c (.bool true)) (.v 22), none, [18, 22]⟩] [1, 2, 3, 23]) (.cond (.v 23) (.seq (.rg [⟨some 6, .mv (.c (.int .i64 (-1))), none, []⟩] [6]) .ret) .skip)) (.seq (.rg [⟨some 25, .loadN 7 (.v 3), none, [3]⟩, ⟨some 26, .mv (.v 1), none, [1]⟩, ⟨some 27, .call 27 [.v 25, .v 26], none, [25, 26]⟩, ⟨some 28, .mv (.v 2), none, [2]⟩, ⟨some 29, .look true 0 (.agg [.int .i64 0, .sl 0 1 []]) (.v 27) (.v 28), none, [27, 28]⟩, ⟨some 24, .mv (.v 29), none, [29]⟩, ⟨some 30, .ext 0 (.v 24), none, []⟩, ⟨some 31, .ext 1 (.v 24), none, [24]⟩, ⟨some 7, .alloc 107 [.int .i64 0, .sl 0 1 []], none, []⟩, ⟨none, .store 2 (.v 7) (.v 30), none, [30]⟩, ⟨some 8, .mv (.v 31), none, [31]⟩] [7, 8]) (.seq (.seq (.rg [⟨some 32, .mv (.v 8), none, [8]⟩, ⟨some 33, .not (.v 32), none, [32]⟩] [7, 33]) (.cond (.v 33) (.seq (.rg [⟨some 6, .mv (.c (.int .i64 (-1))), none, []⟩] [6]) .ret) .skip)) (.seq (.rg [⟨some 34, .faddr 0 (.v 7), none, [7]⟩, ⟨some 35, .load1 (.v 34), none, [34]⟩, ⟨some 6, .mv (.v 35), none, [35]⟩] [6]) .ret))))) }
theorem QaR : QY Go.Proofs.Tryd.prog 8 ZM = true := by kernel_rfl
/-- laws.eqSky: function 9 -/
def UT : SFun := { n := 44, res := [.t 4], body := (.seq (.rg [⟨some 2, .box 102 (.v 0), none, [0]⟩, ⟨some 3, .box 103 (.v 1), none, [1]⟩, ⟨some 4, .mv (.c (.bool false)), none, [4]⟩] [2, 3]) (.seq (.seq (.rg [⟨some 5, .faddr 0 (.v 2), none, []⟩, ⟨some 6, .load1 (.v 5), none, [5]⟩, ⟨some 7, .faddr 0 (.v 3), none, []⟩, ⟨some 8, .load1 (.v 7), none, [7]⟩, ⟨some 9, .bin .neq (.v 6) (.v 8), none, [6, 8]⟩] [2, 3, 9]) (.cond (.v 9) (.seq (.rg [⟨some 4, .mv (.c (.bool false)), none, []⟩] [4]) .ret) .skip)) (.seq (.seq (.rg [⟨some 10, .faddr 1 (.v 2), none, []⟩, ⟨some 11, .load1 (.v 10), none, [10]⟩, ⟨some 12, .faddr 1 (.v 3), none, []⟩, ⟨some 13, .load1 (.v 12), none, [12]⟩, ⟨some 14, .bin .neq (.v 11) (.v 13), none, [11, 13]⟩] [2, 3, 14]) (.cond (.v 14) (.seq (.rg [⟨some 4, .mv (.c (.bool false)), none, []⟩] [4]) .ret) .skip)) (.seq (.seq (.rg [⟨some 15, .faddr 2 (.v 2), none, []⟩, ⟨some 16, .load1 (.v 15), none, [15]⟩, ⟨some 17, .faddr 2 (.v 3), none, []⟩, ⟨some 18, .load1 (.v 17), none, [17]⟩, ⟨some 19, .bin .neq (.v 16) (.v 18), none, [16, 18]⟩] [2, 3, 19]) (.cond (.v 19) (.seq (.rg [⟨some 4, .mv (.c (.bool false)), none, []⟩] [4]) .ret) .skip)) (.seq (.seq (.rg [⟨some 20, .faddr 3 (.v 2), none, []⟩, ⟨some 21, .load1 (.v 20), none, [20]⟩, ⟨some 22, .faddr 3 (.v 3), none, []⟩, ⟨some 23, .load1 (.v 22), none, [22]⟩, ⟨some 24, .call 28 [.v 21, .v 23], none, [21, 23]⟩, ⟨some 25, .not (.v 24), none, [24]⟩] [2, 3, 25]) (.cond (.v 25) (.seq (.rg [⟨some 4, .mv (.c (.bool false)), none, []⟩] [4]) .ret) .skip)) (.seq (.seq (.rg [⟨some 26, .faddr 4 (.v 2), none, []⟩, ⟨some 27, .load1 (.v 26), none, [26]⟩, ⟨some 28, .faddr 4 (.v 3), none, []⟩, ⟨some 29, .load1 (.v 28), none, [28]⟩, ⟨some 30, .call 29 [.v 27, .v 29], none, [27, 29]⟩, ⟨some 31, .not (.v 30), none, [30]⟩] [2, 3, 31]) (.cond (.v 31) (.seq (.rg [⟨some 4, .mv (.c (.bool false)), none, []⟩] [4]) .ret) .skip)) (.seq (.seq (.rg [⟨some 32, .faddr 5 (.v 2), none, []⟩, ⟨some 33, .load1 (.v 32), none, [32]⟩, ⟨some 34, .faddr 5 (.v 3), none, []⟩, ⟨some 35, .load1 (.v 34), none, [34]⟩, ⟨some 36, .call 30 [.v 33, .v 35], none, [33, 35]⟩, ⟨some 37, .not (.v 36), none, [36]⟩] [2, 3, 37]) (.cond (.v 37) (.seq (.rg [⟨some 4, .mv (.c (.bool false)), none, []⟩] [4]) .ret) .skip)) (.seq (.seq (.rg [⟨some 38, .faddr 6 (.v 2), none, [2]⟩, ⟨some 39, .load1 (.v 38), none, [38]⟩, ⟨some 40, .faddr 6 (.v 3), none, [3]⟩, ⟨some 41, .load1 (.v 40), none, [40]⟩, ⟨some 42, .call 31 [.v 39, .v 41], none, [39, 41]⟩, ⟨some 43, .not (.v 42), none, [42]⟩] [43]) (.cond (.v 43) (.seq (.rg [⟨some 4, .mv (.c (.bool false)), none, []⟩] [4]) .ret) .skip)) (.seq (.rg [⟨some 4, .mv (.c (.bool true)), none, []⟩] [4]) .ret))))))))) }
theorem Qcf : QY Go.Proofs.Tryd.prog 9 UT = true := by kernel_rfl
/-- spec.SkyWay: function 10 -/
def ZN : SFun := { n := 15, res := [.t 6], body := (.seq (.rg [⟨some 3, .box 103 (.v 0), none, [0]⟩, ⟨some 6, .mv (.c (.sl 0 1 [])), none, [6]⟩] [1, 2, 3]) (.seq (.seq (.rg [⟨some 7, .loadN 7 (.v 3), none, []⟩, ⟨some 8, .call 32 [.v 7], none, [7]⟩, ⟨some 9, .not (.v 8), none, [8]⟩] [1, 2, 3, 9]) (.cond (.v 9) (.seq (.rg [⟨some 10, .lit 9 1 [], none, []⟩, ⟨some 6, .mv (.v 10), none, [10]⟩] [6]) .ret) .skip)) (.seq (.rg [⟨some 11, .loadN 7 (.v 3), none, [3]⟩, ⟨some 12, .mv (.v 1), none, [1]⟩, ⟨some 13, .mv (.v 2), none, [2]⟩, ⟨some 14, .call 33 [.v 11, .v 12, .v 13], none, [11, 12, 13]⟩, ⟨some 6, .mv (.v 14), none, [14]⟩] [6]) .ret))) }
theorem QaS : QY Go.Proofs.Tryd.prog 10 ZN = true := by kernel_rfl
def YT : SCode := (.seq (.seq (.rg [⟨some 11, .mv (.v 5), none, []⟩, ⟨some 12, .mv (.v 0), none, []⟩, ⟨some 13, .lenL (.v 12), none, [12]⟩, ⟨some 14, .bin .lss (.v 11) (.v 13), none, [11, 13]⟩] [0, 1, 5, 14]) (.cond (.v 14) .skip (.exit 0))) (.seq (.block 1 (.seq (.rgd [⟨some 17, .mv (.v 0), none, []⟩, ⟨some 18, .mv (.v 5), none, []⟩, ⟨some 19, .iaddr 1 (.v 17) (.v 18), none, []⟩, ⟨some 20, .load1 (.v 19), none, []⟩, ⟨some 21, .mv (.v 1), none, []⟩, ⟨some 22, .mv (.v 5), none, []⟩, ⟨some 23, .iaddr 1 (.v 21) (.v 22), none, []⟩, ⟨some 24, .load1 (.v 23), none, []⟩, ⟨some 25, .bin .neq (.v 20) (.v 24), none, []⟩] [0, 1, 5, 25] [none, none, none, none, none, none, none, none, none]) (.cond (.v 25) (.seq (.rg [⟨some 4, .mv (.c (.bool false)), none, []⟩] [4]) .ret) .skip))) (.rg [⟨some 15, .mv (.v 5), none, [5]⟩, ⟨some 16, .binN .add (.v 15) (.c (.int .i64 1)), none, [15]⟩, ⟨some 5, .mv (.v 16), none, [16]⟩] [0, 1, 5])))
/-- laws.eqStringS: function 12 -/
def G6 : SFun := { n := 26, res := [.t 4], body := (.seq (.rg [⟨some 4, .mv (.c (.bool false)), none, [4]⟩] [0, 1]) (.seq (.seq (.rg [⟨some 6, .mv (.v 0), none, []⟩, ⟨some 7, .lenL (.v 6), none, [6]⟩, ⟨some 8, .mv (.v 1), none, []⟩, ⟨some 9, .lenL (.v 8), none, [8]⟩, ⟨some 10, .bin .neq (.v 7) (.v 9), none, [7, 9]⟩] [0, 1, 10]) (.cond (.v 10) (.seq (.rg [⟨some 4, .mv (.c (.bool false)), none, []⟩] [4]) .ret) .skip)) (.seq (.seq (.rg [⟨some 5, .mv (.c (.int .i64 0)), none, []⟩] [0, 1, 5]) (.block 0 (.loop YT))) (.seq (.rg [⟨some 4, .mv (.c (.bool true)), none, []⟩] [4]) .ret)))) }
theorem U4 : QY Go.Proofs.Tryd.prog 12 G6 = true := by kernel_rfl
def K3 : SCode := (.seq (.seq (.rg [⟨some 12, .mv (.v 5), none, []⟩, ⟨some 13, .mv (.v 0), none, []⟩, ⟨some 14, .lenL (.v 13), none, [13]⟩, ⟨some 15, .bin .lss (.v 12) (.v 14), none, [12, 14]⟩] [0, 1, 5, 15]) (.cond (.v 15) .skip (.exit 0))) (.seq (.block 1 (.seq (.rg [⟨some 18, .mv (.v 0), none, []⟩, ⟨some 19, .mv (.v 5), none, []⟩, ⟨some 20, .iaddr 3 (.v 18) (.v 19), none, [18, 19]⟩, ⟨some 21, .loadN 3 (.v 20), none, [20]⟩, ⟨some 22, .mv (.v 1), none, [1]⟩, ⟨some 23, .call 39 [.v 21, .v 22], none, [21, 22]⟩, ⟨some 1, .mv (.v 23), none, [23]⟩] [0, 1, 5]) (.seq (.rg [⟨some 24, .mv (.v 1), none, []⟩, ⟨some 25, .bin .lss (.v 24) (.c (.int .i64 0)), none, [24]⟩] [0, 1, 5, 25]) (.cond (.v 25) (.seq (.rg [⟨some 4, .mv (.c (.int .i64 (-1))), none, []⟩] [4]) .ret) .skip)))) (.rg [⟨some 16, .mv (.v 5), none, [5]⟩, ⟨some 17, .binN .add (.v 16) (.c (.int .i64 1)), none, [16]⟩, ⟨some 5, .mv (.v 17), none, [17]⟩] [0, 1, 5])))
/-- laws.szSkyPointS: function 16 -/
def YU : SFun := { n := 27, res := [.t 4], body := (.seq (.rg [⟨some 4, .mv (.c (.int .i64 0)), none, [4]⟩] [0, 1]) (.seq (.rg [⟨some 6, .mv (.v 1), none, [1]⟩, ⟨some 7, .mv (.v 0), none, []⟩, ⟨some 8, .lenL (.v 7), none, [7]⟩, ⟨some 9, .binN .sub (.v 6) (.v 8), none, [6, 8]⟩, ⟨some 1, .mv (.v 9), none, [9]⟩] [0, 1]) (.seq (.seq (.rg [⟨some 10, .mv (.v 1), none, []⟩, ⟨some 11, .bin .lss (.v 10) (.c (.int .i64 0)), none, [10]⟩] [0, 1, 11]) (.cond (.v 11) (.seq (.rg [⟨some 4, .mv (.c (.int .i64 (-1))), none, []⟩] [4]) .ret) .skip)) (.seq (.seq (.rg [⟨some 5, .mv (.c (.int .i64 0)), none, []⟩] [0, 1, 5]) (.block 0 (.loop K3))) (.seq (.rg [⟨some 26, .mv (.v 1), none, [1]⟩, ⟨some 4, .mv (.v 26), none, [26]⟩] [4]) .ret))))) }
theorem ZO : QY Go.Proofs.Tryd.prog 16 YU = true := by kernel_rfl
def KN : SCode := (.seq (.seq (.rg [⟨some 12, .mv (.v 5), none, []⟩, ⟨some 13, .mv (.v 0), none, []⟩, ⟨some 14, .lenL (.v 13), none, [13]⟩, ⟨some 15, .bin .lss (.v 12) (.v 14), none, [12, 14]⟩] [0, 1, 5, 15]) (.cond (.v 15) .skip (.exit 0))) (.seq (.block 1 (.seq (.rg [⟨some 18, .mv (.v 0), none, []⟩, ⟨some 19, .mv (.v 5), none, []⟩, ⟨some 20, .iaddr 2 (.v 18) (.v 19), none, [18, 19]⟩, ⟨some 21, .loadN 2 (.v 20), none, [20]⟩, ⟨some 22, .mv (.v 1), none, [1]⟩, ⟨some 23, .call 40 [.v 21, .v 22], none, [21, 22]⟩, ⟨some 1, .mv (.v 23), none, [23]⟩] [0, 1, 5]) (.seq (.rg [⟨some 24, .mv (.v 1), none, []⟩, ⟨some 25, .bin .lss (.v 24) (.c (.int .i64 0)), none, [24]⟩] [0, 1, 5, 25]) (.cond (.v 25) (.seq (.rg [⟨some 4, .mv (.c (.int .i64 (-1))), none, []⟩] [4]) .ret) .skip)))) (.rg [⟨some 16, .mv (.v 5), none, [5]⟩, ⟨some 17, .binN .add (.v 16) (.c (.int .i64 1)), none, [16]⟩, ⟨some 5, .mv (.v 17), none, [17]⟩] [0, 1, 5])))
/-- laws.szSkyAirwayS: function 17 -/
def Yy : SFun := { n := 27, res := [.t 4], body := (.seq (.rg [⟨some 4, .mv (.c (.int .i64 0)), none, [4]⟩] [0, 1]) (.seq (.rg [⟨some 6, .mv (.v 1), none, [1]⟩, ⟨some 7, .mv (.v 0), none, []⟩, ⟨some 8, .lenL (.v 7), none, [7]⟩, ⟨some 9, .binN .sub (.v 6) (.v 8), none, [6, 8]⟩, ⟨some 1, .mv (.v 9), none, [9]⟩] [0, 1]) (.seq (.seq (.rg [⟨some 10, .mv (.v 1), none, []⟩, ⟨some 11, .bin .lss (.v 10) (.c (.int .i64 0)), none, [10]⟩] [0, 1, 11]) (.cond (.v 11) (.seq (.rg [⟨some 4, .mv (.c (.int .i64 (-1))), none, []⟩] [4]) .ret) .skip)) (.seq (.seq (.rg [⟨some 5, .mv (.c (.int .i64 0)), none, []⟩] [0, 1, 5]) (.block 0 (.loop KN))) (.seq (.rg [⟨some 26, .mv (.v 1), none, [1]⟩, ⟨some 4, .mv (.v 26), none, [26]⟩] [4]) .ret))))) }
theorem Zi : QY Go.Proofs.Tryd.prog 17 Yy = true := by kernel_rfl
def KO : SCode := (.seq (.seq (.rg [⟨some 12, .mv (.v 5), none, []⟩, ⟨some 13, .mv (.v 0), none, []⟩, ⟨some 14, .lenL (.v 13), none, [13]⟩, ⟨some 15, .bin .lss (.v 12) (.v 14), none, [12, 14]⟩] [0, 1, 5, 15]) (.cond (.v 15) .skip (.exit 0))) (.seq (.block 1 (.seq (.rg [⟨some 18, .mv (.v 0), none, []⟩, ⟨some 19, .mv (.v 5), none, []⟩, ⟨some 20, .iaddr 2 (.v 18) (.v 19), none, [18, 19]⟩, ⟨some 21, .loadN 2 (.v 20), none, [20]⟩, ⟨some 22, .mv (.v 1), none, [1]⟩, ⟨some 23, .call 41 [.v 21, .v 22], none, [21, 22]⟩, ⟨some 1, .mv (.v 23), none, [23]⟩] [0, 1, 5]) (.seq (.rg [⟨some 24, .mv (.v 1), none, []⟩, ⟨some 25, .bin .lss (.v 24) (.c (.int .i64 0)), none, [24]⟩] [0, 1, 5, 25]) (.cond (.v 25) (.seq (.rg [⟨some 4, .mv (.c (.int .i64 (-1))), none, []⟩] [4]) .ret) .skip)))) (.rg [⟨some 16, .mv (.v 5), none, [5]⟩, ⟨some 17, .binN .add (.v 16) (.c (.int .i64 1)), none, [16]⟩, ⟨some 5, .mv (.v 17), none, [17]⟩] [0, 1, 5])))
/-- laws.szSkySectorS: function 18 -/
def Yz : SFun := { n := 27, res := [.t 4], body := (.seq (.rg [⟨some 4, .mv (.c (.int .i64 0)), none, [4]⟩] [0, 1]) (.seq (.rg [⟨some 6, .mv (.v 1), none, [1]⟩, ⟨some 7, .mv (.v 0), none, []⟩, ⟨some 8, .lenL (.v 7), none, [7]⟩, ⟨some 9, .binN .sub (.v 6) (.v 8), none, [6, 8]⟩, ⟨some 1, .mv (.v 9), none, [9]⟩] [0, 1]) (.seq (.seq (.rg [⟨some 10, .mv (.v 1), none, []⟩, ⟨some 11, .bin .lss (.v 10) (.c (.int .i64 0)), none, [10]⟩] [0, 1, 11]) (.cond (.v 11) (.seq (.rg [⟨some 4, .mv (.c (.int .i64 (-1))), none, []⟩] [4]) .ret) .skip)) (.seq (.seq (.rg [⟨some 5, .mv (.c (.int .i64 0)), none, []⟩] [0, 1, 5]) (.block 0 (.loop KO))) (.seq (.rg [⟨some 26, .mv (.v 1), none, [1]⟩, ⟨some 4, .mv (.v 26), none, [26]⟩] [4]) .ret))))) }
theorem Zj : QY Go.Proofs.Tryd.prog 18 Yz = true := by kernel_rfl
def KP : SCode := (.seq (.seq (.rg [⟨some 12, .mv (.v 5), none, []⟩, ⟨some 13, .mv (.v 0), none, []⟩, ⟨some 14, .lenL (.v 13), none, [13]⟩, ⟨some 15, .bin .lss (.v 12) (.v 14), none, [12, 14]⟩] [0, 1, 5, 15]) (.cond (.v 15) .skip (.exit 0))) (.seq (.block 1 (.seq (.rg [⟨some 18, .mv (.v 0), none, []⟩, ⟨some 19, .mv (.v 5), none, []⟩, ⟨some 20, .iaddr 4 (.v 18) (.v 19), none, [18, 19]⟩, ⟨some 21, .loadN 4 (.v 20), none, [20]⟩, ⟨some 22, .mv (.v 1), none, [1]⟩, ⟨some 23, .call 42 [.v 21, .v 22], none, [21, 22]⟩, ⟨some 1, .mv (.v 23), none, [23]⟩] [0, 1, 5]) (.seq (.rg [⟨some 24, .mv (.v 1), none, []⟩, ⟨some 25, .bin .lss (.v 24) (.c (.int .i64 0)), none, [24]⟩] [0, 1, 5, 25]) (.cond (.v 25) (.seq (.rg [⟨some 4, .mv (.c (.int .i64 (-1))), none, []⟩] [4]) .ret) .skip)))) (.rg [⟨some 16, .mv (.v 5), none, [5]⟩, ⟨some 17, .binN .add (.v 16) (.c (.int .i64 1)), none, [16]⟩, ⟨some 5, .mv (.v 17), none, [17]⟩] [0, 1, 5])))
/-- laws.szSkyRunwayS: function 19 -/
def YA : SFun := { n := 27, res := [.t 4], body := (.seq (.rg [⟨some 4, .mv (.c (.int .i64 0)), none, [4]⟩] [0, 1]) (.seq (.rg [⟨some 6, .mv (.v 1), none, [1]⟩, ⟨some 7, .mv (.v 0), none, []⟩, ⟨some 8, .lenL (.v 7), none, [7]⟩, ⟨some 9, .binN .sub (.v 6) (.v 8), none, [6, 8]⟩, ⟨some 1, .mv (.v 9), none, [9]⟩] [0, 1]) (.seq (.seq (.rg [⟨some 10, .mv (.v 1), none, []⟩, ⟨some 11, .bin .lss (.v 10) (.c (.int .i64 0)), none, [10]⟩] [0, 1, 11]) (.cond (.v 11) (.seq (.rg [⟨some 4, .mv (.c (.int .i64 (-1))), none, []⟩] [4]) .ret) .skip)) (.seq (.seq (.rg [⟨some 5, .mv (.c (.int .i64 0)), none, []⟩] [0, 1, 5]) (.block 0 (.loop KP))) (.seq (.rg [⟨some 26, .mv (.v 1), none, [1]⟩, ⟨some 4, .mv (.v 26), none, [26]⟩] [4]) .ret))))) }
theorem Zk : QY Go.Proofs.Tryd.prog 19 YA = true := by kernel_rfl
def Xt : SCode := (.seq (.seq (.rg [⟨some 7, .mv (.v 6), none, []⟩, ⟨some 8, .mv (.v 1), none, []⟩, ⟨some 9, .lenL (.v 8), none, [8]⟩, ⟨some 10, .bin .lss (.v 7) (.v 9), none, [7, 9]⟩] [1, 2, 5, 6, 10]) (.cond (.v 10) .skip (.exit 0))) (.seq (.block 1 (.rgd [⟨some 13, .mv (.v 5), none, []⟩, ⟨some 14, .loadN 7 (.v 2), none, []⟩, ⟨some 15, .mv (.v 1), none, []⟩, ⟨some 16, .mv (.v 6), none, []⟩, ⟨some 17, .binN .sub (.v 16) (.c (.int .i64 1)), none, []⟩, ⟨some 18, .iaddr 1 (.v 15) (.v 17), none, []⟩, ⟨some 19, .load1 (.v 18), none, []⟩, ⟨some 20, .mv (.v 1), none, []⟩, ⟨some 21, .mv (.v 6), none, []⟩, ⟨some 22, .iaddr 1 (.v 20) (.v 21), none, []⟩, ⟨some 23, .load1 (.v 22), none, []⟩, ⟨some 24, .call 43 [.v 14, .v 19, .v 23], none, []⟩, ⟨some 25, .binN .add (.v 13) (.v 24), none, []⟩, ⟨some 5, .mv (.v 25), none, []⟩] [1, 2, 5, 6] [none, none, none, none, none, none, none, none, none, none, none, none, none, none])) (.rg [⟨some 11, .mv (.v 6), none, [6]⟩, ⟨some 12, .binN .add (.v 11) (.c (.int .i64 1)), none, [11]⟩, ⟨some 6, .mv (.v 12), none, [12]⟩] [1, 2, 5, 6])))
/-- spec.l7Long: function 20 -/
def ZP : SFun := { n := 27, res := [.t 4], body := (.seq (.rg [⟨some 2, .box 102 (.v 0), none, [0]⟩, ⟨some 4, .mv (.c (.int .i64 0)), none, [4]⟩] [1, 2]) (.seq (.rg [⟨some 5, .mv (.c (.int .i64 0)), none, []⟩] [1, 2, 5]) (.seq (.seq (.rg [⟨some 6, .mv (.c (.int .i64 1)), none, []⟩] [1, 2, 5, 6]) (.block 0 (.loop Xt))) (.seq (.rg [⟨some 26, .mv (.v 5), none, [5]⟩, ⟨some 4, .mv (.v 26), none, [26]⟩] [4]) .ret)))) }
theorem QaT : QY Go.Proofs.Tryd.prog 20 ZP = true := by kernel_rfl
def K4 : SCode := (.seq (.seq (.rg [⟨some 8, .mv (.v 4), none, []⟩, ⟨some 9, .mv (.v 0), none, []⟩, ⟨some 10, .lenL (.v 9), none, [9]⟩, ⟨some 11, .bin .lss (.v 8) (.v 10), none, [8, 10]⟩] [0, 3, 4, 11]) (.cond (.v 11) .skip (.exit 0))) (.seq (.block 1 (.rg [⟨some 14, .mv (.v 3), none, []⟩, ⟨some 15, .mv (.v 4), none, []⟩, ⟨some 16, .mv (.v 0), none, []⟩, ⟨some 17, .mv (.v 4), none, []⟩, ⟨some 18, .iaddr 3 (.v 16) (.v 17), none, [16, 17]⟩, ⟨some 19, .loadN 3 (.v 18), none, [18]⟩, ⟨some 20, .call 44 [.v 19], none, [19]⟩, ⟨some 21, .iaddr 3 (.v 14) (.v 15), none, [14, 15]⟩, ⟨none, .store 3 (.v 21) (.v 20), none, [20, 21]⟩] [0, 3, 4])) (.rg [⟨some 12, .mv (.v 4), none, [4]⟩, ⟨some 13, .binN .add (.v 12) (.c (.int .i64 1)), none, [12]⟩, ⟨some 4, .mv (.v 13), none, [13]⟩] [0, 3, 4])))
/-- laws.toSkyPointS: function 21 -/
def YV : SFun := { n := 23, res := [.t 2], body := (.seq (.rg [⟨some 2, .mv (.c (.sl 0 3 [])), none, [2]⟩] [0]) (.seq (.rg [⟨some 5, .mv (.v 0), none, []⟩, ⟨some 6, .lenL (.v 5), none, [5]⟩, ⟨some 7, .mk 107 82 3 [.str ⟨#[]⟩, .int .i64 0, .int .i64 0] (.v 6), none, [6]⟩, ⟨some 3, .mv (.v 7), none, [7]⟩] [0, 3]) (.seq (.seq (.rg [⟨some 4, .mv (.c (.int .i64 0)), none, []⟩] [0, 3, 4]) (.block 0 (.loop K4))) (.seq (.rg [⟨some 22, .mv (.v 3), none, [3]⟩, ⟨some 2, .mv (.v 22), none, [22]⟩] [2]) (.gh (.frzE 2) .ret))))) }
theorem ZQ : QY Go.Proofs.Tryd.prog 21 YV = true := by kernel_rfl
def KQ : SCode := (.seq (.seq (.rg [⟨some 8, .mv (.v 4), none, []⟩, ⟨some 9, .mv (.v 0), none, []⟩, ⟨some 10, .lenL (.v 9), none, [9]⟩, ⟨some 11, .bin .lss (.v 8) (.v 10), none, [8, 10]⟩] [0, 3, 4, 11]) (.cond (.v 11) .skip (.exit 0))) (.seq (.block 1 (.rg [⟨some 14, .mv (.v 3), none, []⟩, ⟨some 15, .mv (.v 4), none, []⟩, ⟨some 16, .mv (.v 0), none, []⟩, ⟨some 17, .mv (.v 4), none, []⟩, ⟨some 18, .iaddr 2 (.v 16) (.v 17), none, [16, 17]⟩, ⟨some 19, .loadN 2 (.v 18), none, [18]⟩, ⟨some 20, .call 45 [.v 19], none, [19]⟩, ⟨some 21, .iaddr 2 (.v 14) (.v 15), none, [14, 15]⟩, ⟨none, .store 2 (.v 21) (.v 20), none, [20, 21]⟩] [0, 3, 4])) (.rg [⟨some 12, .mv (.v 4), none, [4]⟩, ⟨some 13, .binN .add (.v 12) (.c (.int .i64 1)), none, [12]⟩, ⟨some 4, .mv (.v 13), none, [13]⟩] [0, 3, 4])))
/-- laws.toSkyAirwayS: function 22 -/
def YB : SFun := { n := 23, res := [.t 2], body := (.seq (.rg [⟨some 2, .mv (.c (.sl 0 2 [])), none, [2]⟩] [0]) (.seq (.rg [⟨some 5, .mv (.v 0), none, []⟩, ⟨some 6, .lenL (.v 5), none, [5]⟩, ⟨some 7, .mk 107 84 2 [.str ⟨#[]⟩, .sl 0 1 []] (.v 6), none, [6]⟩, ⟨some 3, .mv (.v 7), none, [7]⟩] [0, 3]) (.seq (.seq (.rg [⟨some 4, .mv (.c (.int .i64 0)), none, []⟩] [0, 3, 4]) (.block 0 (.loop KQ))) (.seq (.rg [⟨some 22, .mv (.v 3), none, [3]⟩, ⟨some 2, .mv (.v 22), none, [22]⟩] [2]) (.gh (.frzE 2) .ret))))) }
theorem Zl : QY Go.Proofs.Tryd.prog 22 YB = true := by kernel_rfl
def KR : SCode := (.seq (.seq (.rg [⟨some 8, .mv (.v 4), none, []⟩, ⟨some 9, .mv (.v 0), none, []⟩, ⟨some 10, .lenL (.v 9), none, [9]⟩, ⟨some 11, .bin .lss (.v 8) (.v 10), none, [8, 10]⟩] [0, 3, 4, 11]) (.cond (.v 11) .skip (.exit 0))) (.seq (.block 1 (.rg [⟨some 14, .mv (.v 3), none, []⟩, ⟨some 15, .mv (.v 4), none, []⟩, ⟨some 16, .mv (.v 0), none, []⟩, ⟨some 17, .mv (.v 4), none, []⟩, ⟨some 18, .iaddr 2 (.v 16) (.v 17), none, [16, 17]⟩, ⟨some 19, .loadN 2 (.v 18), none, [18]⟩, ⟨some 20, .call 46 [.v 19], none, [19]⟩, ⟨some 21, .iaddr 2 (.v 14) (.v 15), none, [14, 15]⟩, ⟨none, .store 2 (.v 21) (.v 20), none, [20, 21]⟩] [0, 3, 4])) (.rg [⟨some 12, .mv (.v 4), none, [4]⟩, ⟨some 13, .binN .add (.v 12) (.c (.int .i64 1)), none, [12]⟩, ⟨some 4, .mv (.v 13), none, [13]⟩] [0, 3, 4])))
/-- laws.toSkySectorS: function 23 -/
def YC : SFun := { n := 23, res := [.t 2], body := (.seq (.rg [⟨some 2, .mv (.c (.sl 0 2 [])), none, [2]⟩] [0]) (.seq (.rg [⟨some 5, .mv (.v 0), none, []⟩, ⟨some 6, .lenL (.v 5), none, [5]⟩, ⟨some 7, .mk 107 88 2 [.str ⟨#[]⟩, .sl 0 6 []] (.v 6), none, [6]⟩, ⟨some 3, .mv (.v 7), none, [7]⟩] [0, 3]) (.seq (.seq (.rg [⟨some 4, .mv (.c (.int .i64 0)), none, []⟩] [0, 3, 4]) (.block 0 (.loop KR))) (.seq (.rg [⟨some 22, .mv (.v 3), none, [3]⟩, ⟨some 2, .mv (.v 22), none, [22]⟩] [2]) (.gh (.frzE 2) .ret))))) }
theorem Zm : QY Go.Proofs.Tryd.prog 23 YC = true := by kernel_rfl
def KS : SCode := (.seq (.seq (.rg [⟨some 8, .mv (.v 4), none, []⟩, ⟨some 9, .mv (.v 0), none, []⟩, ⟨some 10, .lenL (.v 9), none, [9]⟩, ⟨some 11, .bin .lss (.v 8) (.v 10), none, [8, 10]⟩] [0, 3, 4, 11]) (.cond (.v 11) .skip (.exit 0))) (.seq (.block 1 (.rg [⟨some 14, .mv (.v 3), none, []⟩, ⟨some 15, .mv (.v 4), none, []⟩, ⟨some 16, .mv (.v 0), none, []⟩, ⟨some 17, .mv (.v 4), none, []⟩, ⟨some 18, .iaddr 4 (.v 16) (.v 17), none, [16, 17]⟩, ⟨some 19, .loadN 4 (.v 18), none, [18]⟩, ⟨some 20, .call 47 [.v 19], none, [19]⟩, ⟨some 21, .iaddr 4 (.v 14) (.v 15), none, [14, 15]⟩, ⟨none, .store 4 (.v 21) (.v 20), none, [20, 21]⟩] [0, 3, 4])) (.rg [⟨some 12, .mv (.v 4), none, [4]⟩, ⟨some 13, .binN .add (.v 12) (.c (.int .i64 1)), none, [12]⟩, ⟨some 4, .mv (.v 13), none, [13]⟩] [0, 3, 4])))
/-- laws.toSkyRunwayS: function 24 -/
def YD : SFun := { n := 23, res := [.t 2], body := (.seq (.rg [⟨some 2, .mv (.c (.sl 0 4 [])), none, [2]⟩] [0]) (.seq (.rg [⟨some 5, .mv (.v 0), none, []⟩, ⟨some 6, .lenL (.v 5), none, [5]⟩, ⟨some 7, .mk 107 90 4 [.str ⟨#[]⟩, .int .i64 0, .int .i64 0, .int .i64 0] (.v 6), none, [6]⟩, ⟨some 3, .mv (.v 7), none, [7]⟩] [0, 3]) (.seq (.seq (.rg [⟨some 4, .mv (.c (.int .i64 0)), none, []⟩] [0, 3, 4]) (.block 0 (.loop KS))) (.seq (.rg [⟨some 22, .mv (.v 3), none, [3]⟩, ⟨some 2, .mv (.v 22), none, [22]⟩] [2]) (.gh (.frzE 2) .ret))))) }
theorem Zn : QY Go.Proofs.Tryd.prog 24 YD = true := by kernel_rfl
def Kw : SCode := (.rg [⟨some 24, .faddr 0 (.v 1), none, []⟩, ⟨some 25, .load1 (.v 24), none, [24]⟩, ⟨some 26, .call 48 [.v 25, .c (.int .i64 1), .c (.int .i64 16)], none, [25]⟩, ⟨some 27, .not (.v 26), none, [26]⟩, ⟨some 28, .mv (.v 27), none, [27]⟩, ⟨some 29, .faddr 1 (.v 1), some (28, false), []⟩, ⟨some 30, .load1 (.v 29), some (28, false), [29]⟩, ⟨some 31, .call 48 [.v 30, .c (.int .i64 1), .c (.int .i64 16)], some (28, false), [30]⟩, ⟨some 32, .not (.v 31), some (28, false), [31]⟩, ⟨some 33, .pick (.v 28) (.c (.bool true)) (.v 32), none, [28, 32]⟩, ⟨some 34, .mv (.v 33), none, [33]⟩, ⟨some 35, .faddr 2 (.v 1), some (34, false), []⟩, ⟨some 36, .load1 (.v 35), some (34, false), [35]⟩, ⟨some 37, .call 48 [.v 36, .c (.int .i64 1), .c (.int .i64 6)], some (34, false), [36]⟩, ⟨some 38, .not (.v 37), some (34, false), [37]⟩, ⟨some 39, .pick (.v 34) (.c (.bool true)) (.v 38), none, [34, 38]⟩, ⟨some 40, .mv (.v 39), none, [39]⟩, ⟨some 41, .faddr 3 (.v 1), some (40, false), []⟩, ⟨some 42, .load1 (.v 41), some (40, false), [41]⟩, ⟨some 43, .lenL (.v 42), some (40, false), [42]⟩, ⟨some 44, .bin .gtr (.v 43) (.c (.int .i64 16)), some (40, false), [43]⟩, ⟨some 45, .pick (.v 40) (.c (.bool true)) (.v 44), none, [40, 44]⟩, ⟨some 46, .mv (.v 45), none, [45]⟩, ⟨some 47, .faddr 4 (.v 1), some (46, false), []⟩, ⟨some 48, .load1 (.v 47), some (46, false), [47]⟩, ⟨some 49, .lenL (.v 48), some (46, false), [48]⟩, ⟨some 50, .bin .gtr (.v 49) (.c (.int .i64 8)), some (46, false), [49]⟩, ⟨some 51, .pick (.v 46) (.c (.bool true)) (.v 50), none, [46, 50]⟩, ⟨some 52, .mv (.v 51), none, [51]⟩, ⟨some 53, .faddr 5 (.v 1), some (52, false), []⟩, ⟨some 54, .load1 (.v 53), some (52, false), [53]⟩, ⟨some 55, .lenL (.v 54), some (52, false), [54]⟩, ⟨some 56, .bin .gtr (.v 55) (.c (.int .i64 6)), some (52, false), [55]⟩, ⟨some 57, .pick (.v 52) (.c (.bool true)) (.v 56), none, [52, 56]⟩, ⟨some 58, .mv (.v 57), none, [57]⟩, ⟨some 59, .faddr 6 (.v 1), some (58, false), []⟩, ⟨some 60, .load1 (.v 59), some (58, false), [59]⟩, ⟨some 61, .lenL (.v 60), some (58, false), [60]⟩, ⟨some 62, .bin .gtr (.v 61) (.c (.int .i64 4)), some (58, false), [61]⟩, ⟨some 63, .pick (.v 58) (.c (.bool true)) (.v 62), none, [58, 62]⟩] [1, 63])
def Kx : SCode := (.rgd [⟨some 79, .faddr 0 (.v 6), none, []⟩, ⟨some 80, .load1 (.v 79), none, []⟩, ⟨some 81, .call 49 [.v 80], none, []⟩, ⟨some 82, .not (.v 81), none, []⟩, ⟨some 83, .mv (.v 82), none, []⟩, ⟨some 84, .loadN 7 (.v 1), some (83, false), []⟩, ⟨some 85, .faddr 1 (.v 6), some (83, false), []⟩, ⟨some 86, .load1 (.v 85), some (83, false), []⟩, ⟨some 87, .faddr 2 (.v 6), some (83, false), []⟩, ⟨some 88, .load1 (.v 87), some (83, false), []⟩, ⟨some 89, .call 50 [.v 84, .v 86, .v 88], some (83, false), []⟩, ⟨some 90, .not (.v 89), some (83, false), []⟩, ⟨some 91, .pick (.v 83) (.c (.bool true)) (.v 90), none, []⟩, ⟨some 92, .mv (.v 91), none, []⟩, ⟨some 93, .mv (.v 4), some (92, false), []⟩, ⟨some 94, .loadN 2 (.v 7), some (92, false), []⟩, ⟨some 95, .look false 2 (.bool false) (.v 93) (.v 94), some (92, false), []⟩, ⟨some 96, .pick (.v 92) (.c (.bool true)) (.v 95), none, []⟩, ⟨some 97, .mv (.v 96), none, []⟩, ⟨some 98, .mv (.v 5), some (97, false), []⟩, ⟨some 99, .bin .gtr (.v 98) (.c (.int .i64 0)), some (97, false), []⟩, ⟨some 100, .mv (.v 99), some (97, false), []⟩, ⟨some 101, .faddr 0 (.v 6), some (100, true), []⟩, ⟨some 102, .load1 (.v 101), some (100, true), []⟩, ⟨some 103, .faddr 3 (.v 1), some (100, true), []⟩, ⟨some 104, .load1 (.v 103), some (100, true), []⟩, ⟨some 105, .mv (.v 5), some (100, true), []⟩, ⟨some 106, .binN .sub (.v 105) (.c (.int .i64 1)), some (100, true), []⟩, ⟨some 107, .iaddr 3 (.v 104) (.v 106), some (100, true), []⟩, ⟨some 108, .faddr 0 (.v 107), some (100, true), []⟩, ⟨some 109, .load1 (.v 108), some (100, true), []⟩, ⟨some 110, .bin .leq (.v 102) (.v 109), some (100, true), []⟩, ⟨some 111, .pick (.v 100) (.v 110) (.c (.bool false)), some (97, false), []⟩, ⟨some 112, .pick (.v 97) (.c (.bool true)) (.v 111), none, []⟩] [1, 3, 4, 6, 7, 67, 68, 69, 112] [none, none, none, none, none, none, none, none, none, none, none, none, none, none, none, none, none, none, none, none, none, none, none, none, none, none, none, none, none, none, none, none, none, none])
def Gx : SCode := (.seq (.rg [⟨some 70, .bin .lss (.v 69) (.v 68), none, []⟩] [1, 3, 4, 67, 68, 69, 70]) (.seq (.cond (.v 70) .skip (.exit 0)) (.seq (.block 1 (.seq (.rg [⟨some 71, .mv (.v 69), none, []⟩, ⟨some 72, .iaddr 3 (.v 67) (.v 69), none, []⟩, ⟨some 73, .loadN 3 (.v 72), none, [72]⟩, ⟨some 6, .alloc 106 [.str ⟨#[]⟩, .int .i64 0, .int .i64 0], none, []⟩, ⟨some 5, .mv (.v 71), none, [71]⟩, ⟨none, .store 3 (.v 6) (.v 73), none, [73]⟩] [1, 3, 4, 5, 6, 67, 68, 69]) (.seq (.rg [⟨some 74, .faddr 1 (.v 6), none, []⟩, ⟨some 75, .load1 (.v 74), none, [74]⟩, ⟨some 76, .faddr 2 (.v 6), none, []⟩, ⟨some 77, .load1 (.v 76), none, [76]⟩, ⟨some 78, .build [.int .i64 0, .int .i64 0] [(0, 1, .v 75), (1, 1, .v 77)], none, [75, 77]⟩, ⟨some 7, .alloc 107 [.int .i64 0, .int .i64 0], none, []⟩, ⟨none, .store 2 (.v 7) (.v 78), none, [78]⟩] [1, 3, 4, 5, 6, 7, 67, 68, 69]) (.seq (.seq Kx (.cond (.v 112) (.seq (.rg [⟨some 2, .mv (.c (.bool false)), none, []⟩] [2]) .ret) .skip)) (.seq (.rg [⟨some 113, .mv (.v 4), none, []⟩, ⟨some 114, .loadN 2 (.v 7), none, [7]⟩, ⟨none, .mset 2 (.v 113) (.v 114) (.c (.bool true)), none, [113, 114]⟩] [1, 3, 4, 6, 67, 68, 69]) (.rg [⟨some 115, .mv (.v 3), none, []⟩, ⟨some 116, .faddr 0 (.v 6), none, [6]⟩, ⟨some 117, .load1 (.v 116), none, [116]⟩, ⟨none, .mset 0 (.v 115) (.v 117) (.c (.bool true)), none, [115, 117]⟩] [1, 3, 4, 67, 68, 69])))))) (.rg [⟨some 118, .binN .add (.v 69) (.c (.int .i64 1)), none, [69]⟩, ⟨some 69, .mv (.v 118), none, [118]⟩] [1, 3, 4, 67, 68, 69]))))
def Ky : SCode := (.rgd [⟨some 127, .faddr 0 (.v 9), none, []⟩, ⟨some 128, .load1 (.v 127), none, []⟩, ⟨some 129, .call 49 [.v 128], none, []⟩, ⟨some 130, .not (.v 129), none, []⟩, ⟨some 131, .mv (.v 130), none, []⟩, ⟨some 132, .faddr 1 (.v 9), some (131, false), []⟩, ⟨some 133, .load1 (.v 132), some (131, false), []⟩, ⟨some 134, .lenL (.v 133), some (131, false), []⟩, ⟨some 135, .call 48 [.v 134, .c (.int .i64 2), .c (.int .i64 8)], some (131, false), []⟩, ⟨some 136, .not (.v 135), some (131, false), []⟩, ⟨some 137, .pick (.v 131) (.c (.bool true)) (.v 136), none, []⟩, ⟨some 138, .mv (.v 137), none, []⟩, ⟨some 139, .mv (.v 8), some (138, false), []⟩, ⟨some 140, .bin .gtr (.v 139) (.c (.int .i64 0)), some (138, false), []⟩, ⟨some 141, .mv (.v 140), some (138, false), []⟩, ⟨some 142, .faddr 0 (.v 9), some (141, true), []⟩, ⟨some 143, .load1 (.v 142), some (141, true), []⟩, ⟨some 144, .faddr 4 (.v 1), some (141, true), []⟩, ⟨some 145, .load1 (.v 144), some (141, true), []⟩, ⟨some 146, .mv (.v 8), some (141, true), []⟩, ⟨some 147, .binN .sub (.v 146) (.c (.int .i64 1)), some (141, true), []⟩, ⟨some 148, .iaddr 2 (.v 145) (.v 147), some (141, true), []⟩, ⟨some 149, .faddr 0 (.v 148), some (141, true), []⟩, ⟨some 150, .load1 (.v 149), some (141, true), []⟩, ⟨some 151, .bin .leq (.v 143) (.v 150), some (141, true), []⟩, ⟨some 152, .pick (.v 141) (.v 151) (.c (.bool false)), some (138, false), []⟩, ⟨some 153, .pick (.v 138) (.c (.bool true)) (.v 152), none, []⟩] [1, 3, 9, 120, 121, 122, 153] [none, none, none, none, none, none, none, none, none, none, none, none, none, none, none, none, none, none, none, none, none, none, none, none, none, none, none])
def Gy : SCode := (.seq (.rg [⟨some 159, .bin .lss (.v 158) (.v 157), none, []⟩] [1, 3, 10, 120, 121, 122, 156, 157, 158, 159]) (.seq (.cond (.v 159) .skip (.exit 4)) (.seq (.block 5 (.seq (.rg [⟨some 160, .iaddr 1 (.v 156) (.v 158), none, []⟩, ⟨some 161, .load1 (.v 160), none, [160]⟩, ⟨some 12, .mv (.v 161), none, [161]⟩] [1, 3, 10, 12, 120, 121, 122, 156, 157, 158]) (.seq (.seq (.rg [⟨some 162, .mv (.v 3), none, []⟩, ⟨some 163, .mv (.v 12), none, []⟩, ⟨some 164, .look false 0 (.bool false) (.v 162) (.v 163), none, [162, 163]⟩, ⟨some 165, .not (.v 164), none, [164]⟩, ⟨some 166, .mv (.v 165), none, [165]⟩, ⟨some 167, .mv (.v 10), some (166, false), []⟩, ⟨some 168, .mv (.v 12), some (166, false), []⟩, ⟨some 169, .look false 0 (.bool false) (.v 167) (.v 168), some (166, false), [167, 168]⟩, ⟨some 170, .pick (.v 166) (.c (.bool true)) (.v 169), none, [166, 169]⟩] [1, 3, 10, 12, 120, 121, 122, 156, 157, 158, 170]) (.cond (.v 170) (.seq (.rg [⟨some 2, .mv (.c (.bool false)), none, []⟩] [2]) .ret) .skip)) (.rg [⟨some 171, .mv (.v 10), none, []⟩, ⟨some 172, .mv (.v 12), none, [12]⟩, ⟨none, .mset 0 (.v 171) (.v 172) (.c (.bool true)), none, [171, 172]⟩] [1, 3, 10, 120, 121, 122, 156, 157, 158])))) (.rg [⟨some 173, .binN .add (.v 158) (.c (.int .i64 1)), none, [158]⟩, ⟨some 158, .mv (.v 173), none, [173]⟩] [1, 3, 10, 120, 121, 122, 156, 157, 158]))))
def Gz : SCode := (.seq (.rg [⟨some 123, .bin .lss (.v 122) (.v 121), none, []⟩] [1, 3, 120, 121, 122, 123]) (.seq (.cond (.v 123) .skip (.exit 2)) (.seq (.block 3 (.seq (.rg [⟨some 124, .mv (.v 122), none, []⟩, ⟨some 125, .iaddr 2 (.v 120) (.v 122), none, []⟩, ⟨some 126, .loadN 2 (.v 125), none, [125]⟩, ⟨some 9, .alloc 109 [.str ⟨#[]⟩, .sl 0 1 []], none, []⟩, ⟨some 8, .mv (.v 124), none, [124]⟩, ⟨none, .store 2 (.v 9) (.v 126), none, [126]⟩] [1, 3, 8, 9, 120, 121, 122]) (.seq (.seq Ky (.cond (.v 153) (.seq (.rg [⟨some 2, .mv (.c (.bool false)), none, []⟩] [2]) .ret) .skip)) (.seq (.rg [⟨some 154, .mkmap 254 0, none, []⟩, ⟨some 10, .mv (.v 154), none, [154]⟩] [1, 3, 9, 10, 120, 121, 122]) (.seq (.rg [⟨some 155, .faddr 1 (.v 9), none, [9]⟩, ⟨some 156, .load1 (.v 155), none, [155]⟩, ⟨some 157, .lenL (.v 156), none, []⟩, ⟨some 158, .mv (.c (.int .i64 0)), none, []⟩] [1, 3, 10, 120, 121, 122, 156, 157, 158]) (.block 4 (.loop Gy))))))) (.rg [⟨some 174, .binN .add (.v 122) (.c (.int .i64 1)), none, [122]⟩, ⟨some 122, .mv (.v 174), none, [174]⟩] [1, 3, 120, 121, 122]))))
def Kz : SCode := (.rgd [⟨some 183, .faddr 0 (.v 16), none, []⟩, ⟨some 184, .load1 (.v 183), none, []⟩, ⟨some 185, .call 49 [.v 184], none, []⟩, ⟨some 186, .not (.v 185), none, []⟩, ⟨some 187, .mv (.v 186), none, []⟩, ⟨some 188, .faddr 1 (.v 16), some (187, false), []⟩, ⟨some 189, .load1 (.v 188), some (187, false), []⟩, ⟨some 190, .lenL (.v 189), some (187, false), []⟩, ⟨some 191, .call 48 [.v 190, .c (.int .i64 1), .c (.int .i64 4)], some (187, false), []⟩, ⟨some 192, .not (.v 191), some (187, false), []⟩, ⟨some 193, .pick (.v 187) (.c (.bool true)) (.v 192), none, []⟩, ⟨some 194, .mv (.v 193), none, []⟩, ⟨some 195, .mv (.v 15), some (194, false), []⟩, ⟨some 196, .bin .gtr (.v 195) (.c (.int .i64 0)), some (194, false), []⟩, ⟨some 197, .mv (.v 196), some (194, false), []⟩, ⟨some 198, .faddr 0 (.v 16), some (197, true), []⟩, ⟨some 199, .load1 (.v 198), some (197, true), []⟩, ⟨some 200, .faddr 5 (.v 1), some (197, true), []⟩, ⟨some 201, .load1 (.v 200), some (197, true), []⟩, ⟨some 202, .mv (.v 15), some (197, true), []⟩, ⟨some 203, .binN .sub (.v 202) (.c (.int .i64 1)), some (197, true), []⟩, ⟨some 204, .iaddr 2 (.v 201) (.v 203), some (197, true), []⟩, ⟨some 205, .faddr 0 (.v 204), some (197, true), []⟩, ⟨some 206, .load1 (.v 205), some (197, true), []⟩, ⟨some 207, .bin .leq (.v 199) (.v 206), some (197, true), []⟩, ⟨some 208, .pick (.v 197) (.v 207) (.c (.bool false)), some (194, false), []⟩, ⟨some 209, .pick (.v 194) (.c (.bool true)) (.v 208), none, []⟩] [1, 13, 14, 16, 176, 177, 178, 209] [none, none, none, none, none, none, none, none, none, none, none, none, none, none, none, none, none, none, none, none, none, none, none, none, none, none, none])
def KA : SCode := (.rgd [⟨some 218, .loadN 7 (.v 1), none, []⟩, ⟨some 219, .loadN 6 (.v 18), none, []⟩, ⟨some 220, .call 51 [.v 218, .v 219], none, []⟩, ⟨some 221, .not (.v 220), none, []⟩, ⟨some 222, .mv (.v 221), none, []⟩, ⟨some 223, .mv (.v 17), some (222, false), []⟩, ⟨some 224, .bin .gtr (.v 223) (.c (.int .i64 0)), some (222, false), []⟩, ⟨some 225, .mv (.v 224), some (222, false), []⟩, ⟨some 226, .faddr 1 (.v 16), some (225, true), []⟩, ⟨some 227, .load1 (.v 226), some (225, true), []⟩, ⟨some 228, .mv (.v 17), some (225, true), []⟩, ⟨some 229, .binN .sub (.v 228) (.c (.int .i64 1)), some (225, true), []⟩, ⟨some 230, .iaddr 6 (.v 227) (.v 229), some (225, true), []⟩, ⟨some 231, .loadN 6 (.v 230), some (225, true), []⟩, ⟨some 232, .loadN 6 (.v 18), some (225, true), []⟩, ⟨some 233, .call 52 [.v 231, .v 232], some (225, true), []⟩, ⟨some 234, .not (.v 233), some (225, true), []⟩, ⟨some 235, .pick (.v 225) (.v 234) (.c (.bool false)), some (222, false), []⟩, ⟨some 236, .pick (.v 222) (.c (.bool true)) (.v 235), none, []⟩] [1, 13, 14, 16, 18, 176, 177, 178, 211, 212, 213, 236] [none, none, none, none, none, none, none, none, none, none, none, none, none, none, none, none, none, none, none])
def GA : SCode := (.seq (.rg [⟨some 240, .bin .lss (.v 239) (.v 238), none, []⟩] [1, 13, 14, 16, 18, 176, 177, 178, 211, 212, 213, 237, 238, 239, 240]) (.seq (.cond (.v 240) .skip (.exit 10)) (.seq (.block 11 (.seq (.rg [⟨some 241, .iaddr 6 (.v 237) (.v 239), none, []⟩, ⟨some 242, .loadN 6 (.v 241), none, [241]⟩, ⟨some 20, .alloc 120 [.int .i64 0, .int .i64 0, .int .i64 0, .int .i64 0, .int .i64 0, .int .i64 0], none, []⟩, ⟨none, .store 6 (.v 20) (.v 242), none, [242]⟩] [1, 13, 14, 16, 18, 20, 176, 177, 178, 211, 212, 213, 237, 238, 239]) (.seq (.rg [⟨some 243, .loadN 6 (.v 20), none, [20]⟩, ⟨some 244, .loadN 6 (.v 18), none, []⟩, ⟨some 245, .call 53 [.v 243, .v 244], none, [243, 244]⟩] [1, 13, 14, 16, 18, 176, 177, 178, 211, 212, 213, 237, 238, 239, 245]) (.cond (.v 245) (.seq (.rg [⟨some 2, .mv (.c (.bool false)), none, []⟩] [2]) .ret) .skip)))) (.rg [⟨some 246, .binN .add (.v 239) (.c (.int .i64 1)), none, [239]⟩, ⟨some 239, .mv (.v 246), none, [246]⟩] [1, 13, 14, 16, 18, 176, 177, 178, 211, 212, 213, 237, 238, 239]))))
def GB : SCode := (.seq (.rg [⟨some 214, .bin .lss (.v 213) (.v 212), none, []⟩] [1, 13, 14, 16, 176, 177, 178, 211, 212, 213, 214]) (.seq (.cond (.v 214) .skip (.exit 8)) (.seq (.block 9 (.seq (.rg [⟨some 215, .mv (.v 213), none, []⟩, ⟨some 216, .iaddr 6 (.v 211) (.v 213), none, []⟩, ⟨some 217, .loadN 6 (.v 216), none, [216]⟩, ⟨some 18, .alloc 118 [.int .i64 0, .int .i64 0, .int .i64 0, .int .i64 0, .int .i64 0, .int .i64 0], none, []⟩, ⟨some 17, .mv (.v 215), none, [215]⟩, ⟨none, .store 6 (.v 18) (.v 217), none, [217]⟩] [1, 13, 14, 16, 17, 18, 176, 177, 178, 211, 212, 213]) (.seq (.seq KA (.cond (.v 236) (.seq (.rg [⟨some 2, .mv (.c (.bool false)), none, []⟩] [2]) .ret) .skip)) (.seq (.seq (.rg [⟨some 237, .mv (.v 13), none, []⟩, ⟨some 238, .lenL (.v 237), none, []⟩, ⟨some 239, .mv (.c (.int .i64 0)), none, []⟩] [1, 13, 14, 16, 18, 176, 177, 178, 211, 212, 213, 237, 238, 239]) (.block 10 (.loop GA))) (.seq (.rg [⟨some 247, .mv (.v 13), none, [13]⟩, ⟨some 248, .loadN 6 (.v 18), none, []⟩, ⟨some 249, .lit 99 6 [.v 248], none, [248]⟩, ⟨some 250, .app 113 99 6 (.v 247) (.v 249), none, [247, 249]⟩, ⟨some 13, .mv (.v 250), none, [250]⟩] [1, 13, 14, 16, 18, 176, 177, 178, 211, 212, 213]) (.rg [⟨some 251, .mv (.v 14), none, [14]⟩, ⟨some 252, .loadN 6 (.v 18), none, [18]⟩, ⟨some 253, .call 54 [.v 252], none, [252]⟩, ⟨some 254, .binN .add (.v 251) (.v 253), none, [251, 253]⟩, ⟨some 14, .mv (.v 254), none, [254]⟩] [1, 13, 14, 16, 176, 177, 178, 211, 212, 213])))))) (.rg [⟨some 255, .binN .add (.v 213) (.c (.int .i64 1)), none, [213]⟩, ⟨some 213, .mv (.v 255), none, [255]⟩] [1, 13, 14, 16, 176, 177, 178, 211, 212, 213]))))
def GC : SCode := (.seq (.rg [⟨some 179, .bin .lss (.v 178) (.v 177), none, []⟩] [1, 13, 14, 176, 177, 178, 179]) (.seq (.cond (.v 179) .skip (.exit 6)) (.seq (.block 7 (.seq (.rg [⟨some 180, .mv (.v 178), none, []⟩, ⟨some 181, .iaddr 2 (.v 176) (.v 178), none, []⟩, ⟨some 182, .loadN 2 (.v 181), none, [181]⟩, ⟨some 16, .alloc 116 [.str ⟨#[]⟩, .sl 0 6 []], none, []⟩, ⟨some 15, .mv (.v 180), none, [180]⟩, ⟨none, .store 2 (.v 16) (.v 182), none, [182]⟩] [1, 13, 14, 15, 16, 176, 177, 178]) (.seq (.seq Kz (.cond (.v 209) (.seq (.rg [⟨some 2, .mv (.c (.bool false)), none, []⟩] [2]) .ret) .skip)) (.seq (.rg [⟨some 210, .faddr 1 (.v 16), none, []⟩, ⟨some 211, .load1 (.v 210), none, [210]⟩, ⟨some 212, .lenL (.v 211), none, []⟩, ⟨some 213, .mv (.c (.int .i64 0)), none, []⟩] [1, 13, 14, 16, 176, 177, 178, 211, 212, 213]) (.block 8 (.loop GB)))))) (.rg [⟨some 256, .binN .add (.v 178) (.c (.int .i64 1)), none, [178]⟩, ⟨some 178, .mv (.v 256), none, [256]⟩] [1, 13, 14, 176, 177, 178]))))
def KB : SCode := (.rg [⟨some 257, .mv (.v 14), none, [14]⟩, ⟨some 258, .faddr 0 (.v 1), none, []⟩, ⟨some 259, .load1 (.v 258), none, [258]⟩, ⟨some 260, .faddr 1 (.v 1), none, []⟩, ⟨some 261, .load1 (.v 260), none, [260]⟩, ⟨some 262, .binN .mul (.v 259) (.v 261), none, [259, 261]⟩, ⟨some 263, .faddr 2 (.v 1), none, []⟩, ⟨some 264, .load1 (.v 263), none, [263]⟩, ⟨some 265, .binN .mul (.v 262) (.v 264), none, [262, 264]⟩, ⟨some 266, .bin .neq (.v 257) (.v 265), none, [257, 265]⟩] [1, 266])
def KC : SCode := (.rgd [⟨some 281, .faddr 0 (.v 22), none, []⟩, ⟨some 282, .load1 (.v 281), none, []⟩, ⟨some 283, .call 49 [.v 282], none, []⟩, ⟨some 284, .not (.v 283), none, []⟩, ⟨some 285, .mv (.v 284), none, []⟩, ⟨some 286, .loadN 7 (.v 1), some (285, false), []⟩, ⟨some 287, .loadN 4 (.v 22), some (285, false), []⟩, ⟨some 288, .call 55 [.v 286, .v 287], some (285, false), []⟩, ⟨some 289, .not (.v 288), some (285, false), []⟩, ⟨some 290, .pick (.v 285) (.c (.bool true)) (.v 289), none, []⟩, ⟨some 291, .mv (.v 290), none, []⟩, ⟨some 292, .mv (.v 4), some (291, false), []⟩, ⟨some 293, .loadN 2 (.v 23), some (291, false), []⟩, ⟨some 294, .look false 2 (.bool false) (.v 292) (.v 293), some (291, false), []⟩, ⟨some 295, .pick (.v 291) (.c (.bool true)) (.v 294), none, []⟩, ⟨some 296, .mv (.v 295), none, []⟩, ⟨some 297, .mv (.v 21), some (296, false), []⟩, ⟨some 298, .bin .gtr (.v 297) (.c (.int .i64 0)), some (296, false), []⟩, ⟨some 299, .mv (.v 298), some (296, false), []⟩, ⟨some 300, .faddr 0 (.v 22), some (299, true), []⟩, ⟨some 301, .load1 (.v 300), some (299, true), []⟩, ⟨some 302, .faddr 6 (.v 1), some (299, true), []⟩, ⟨some 303, .load1 (.v 302), some (299, true), []⟩, ⟨some 304, .mv (.v 21), some (299, true), []⟩, ⟨some 305, .binN .sub (.v 304) (.c (.int .i64 1)), some (299, true), []⟩, ⟨some 306, .iaddr 4 (.v 303) (.v 305), some (299, true), []⟩, ⟨some 307, .faddr 0 (.v 306), some (299, true), []⟩, ⟨some 308, .load1 (.v 307), some (299, true), []⟩, ⟨some 309, .bin .leq (.v 301) (.v 308), some (299, true), []⟩, ⟨some 310, .pick (.v 299) (.v 309) (.c (.bool false)), some (296, false), []⟩, ⟨some 311, .pick (.v 296) (.c (.bool true)) (.v 310), none, []⟩] [1, 4, 23, 269, 270, 271, 311] [none, none, none, none, none, none, none, none, none, none, none, none, none, none, none, none, none, none, none, none, none, none, none, none, none, none, none, none, none, none, none])
def GD : SCode := (.seq (.rg [⟨some 272, .bin .lss (.v 271) (.v 270), none, []⟩] [1, 4, 269, 270, 271, 272]) (.seq (.cond (.v 272) .skip (.exit 12)) (.seq (.block 13 (.seq (.rg [⟨some 273, .mv (.v 271), none, []⟩, ⟨some 274, .iaddr 4 (.v 269) (.v 271), none, []⟩, ⟨some 275, .loadN 4 (.v 274), none, [274]⟩, ⟨some 22, .alloc 122 [.str ⟨#[]⟩, .int .i64 0, .int .i64 0, .int .i64 0], none, []⟩, ⟨some 21, .mv (.v 273), none, [273]⟩, ⟨none, .store 4 (.v 22) (.v 275), none, [275]⟩] [1, 4, 21, 22, 269, 270, 271]) (.seq (.rg [⟨some 276, .faddr 1 (.v 22), none, []⟩, ⟨some 277, .load1 (.v 276), none, [276]⟩, ⟨some 278, .faddr 2 (.v 22), none, []⟩, ⟨some 279, .load1 (.v 278), none, [278]⟩, ⟨some 280, .build [.int .i64 0, .int .i64 0] [(0, 1, .v 277), (1, 1, .v 279)], none, [277, 279]⟩, ⟨some 23, .alloc 123 [.int .i64 0, .int .i64 0], none, []⟩, ⟨none, .store 2 (.v 23) (.v 280), none, [280]⟩] [1, 4, 21, 22, 23, 269, 270, 271]) (.seq (.seq KC (.cond (.v 311) (.seq (.rg [⟨some 2, .mv (.c (.bool false)), none, []⟩] [2]) .ret) .skip)) (.rg [⟨some 312, .mv (.v 4), none, []⟩, ⟨some 313, .loadN 2 (.v 23), none, [23]⟩, ⟨none, .mset 2 (.v 312) (.v 313) (.c (.bool true)), none, [312, 313]⟩] [1, 4, 269, 270, 271]))))) (.rg [⟨some 314, .binN .add (.v 271) (.c (.int .i64 1)), none, [271]⟩, ⟨some 271, .mv (.v 314), none, [314]⟩] [1, 4, 269, 270, 271]))))
/-- impl.SkyValid: function 25 -/
def Xu : SFun := { n := 315, res := [.t 2], body := (.seq (.rg [⟨some 1, .box 101 (.v 0), none, [0]⟩, ⟨some 2, .mv (.c (.bool false)), none, [2]⟩] [1]) (.seq (.seq Kw (.cond (.v 63) (.seq (.rg [⟨some 2, .mv (.c (.bool false)), none, []⟩] [2]) .ret) .skip)) (.seq (.rg [⟨some 64, .mkmap 164 0, none, []⟩, ⟨some 3, .mv (.v 64), none, [64]⟩] [1, 3]) (.seq (.rg [⟨some 65, .mkmap 165 2, none, []⟩, ⟨some 4, .mv (.v 65), none, [65]⟩] [1, 3, 4]) (.seq (.seq (.rg [⟨some 66, .faddr 3 (.v 1), none, []⟩, ⟨some 67, .load1 (.v 66), none, [66]⟩, ⟨some 68, .lenL (.v 67), none, []⟩, ⟨some 69, .mv (.c (.int .i64 0)), none, []⟩] [1, 3, 4, 67, 68, 69]) (.block 0 (.loop Gx))) (.seq (.seq (.rg [⟨some 119, .faddr 4 (.v 1), none, []⟩, ⟨some 120, .load1 (.v 119), none, [119]⟩, ⟨some 121, .lenL (.v 120), none, []⟩, ⟨some 122, .mv (.c (.int .i64 0)), none, []⟩] [1, 3, 120, 121, 122]) (.block 2 (.loop Gz))) (.seq (.rg [⟨some 13, .newnil 113 99 6, none, []⟩] [1, 13]) (.seq (.rg [⟨some 14, .mv (.c (.int .i64 0)), none, []⟩] [1, 13, 14]) (.seq (.seq (.rg [⟨some 175, .faddr 5 (.v 1), none, []⟩, ⟨some 176, .load1 (.v 175), none, [175]⟩, ⟨some 177, .lenL (.v 176), none, []⟩, ⟨some 178, .mv (.c (.int .i64 0)), none, []⟩] [1, 13, 14, 176, 177, 178]) (.block 6 (.loop GC))) (.seq (.seq KB (.cond (.v 266) (.seq (.rg [⟨some 2, .mv (.c (.bool false)), none, []⟩] [2]) .ret) .skip)) (.seq (.rg [⟨some 267, .mkmap 367 2, none, []⟩, ⟨some 4, .mv (.v 267), none, [267]⟩] [1, 4]) (.seq (.seq (.rg [⟨some 268, .faddr 6 (.v 1), none, []⟩, ⟨some 269, .load1 (.v 268), none, [268]⟩, ⟨some 270, .lenL (.v 269), none, []⟩, ⟨some 271, .mv (.c (.int .i64 0)), none, []⟩] [1, 4, 269, 270, 271]) (.block 12 (.loop GD))) (.seq (.rg [⟨some 2, .mv (.c (.bool true)), none, []⟩] [2]) .ret))))))))))))) }
theorem Wa : QY Go.Proofs.Tryd.prog 25 Xu = true := by kernel_rfl
end Go.Ve

namespace Go.Ve
open Go.Proofs
set_option maxRecDepth 100000
/-- impl.Sky).point: function 26 -/
def G7 : SFun := { n := 9, res := [.t 4], body := (.seq (.rg [⟨some 2, .box 102 (.v 0), none, [0]⟩, ⟨some 3, .box 103 (.v 1), none, [1]⟩, ⟨some 4, .mv (.c (.int .i64 0)), none, [4]⟩] [2, 3]) (.seq (.rg [⟨some 5, .faddr 3 (.v 2), none, [2]⟩, ⟨some 6, .load1 (.v 5), none, [5]⟩, ⟨some 7, .clos 57 [.v 3], none, [3]⟩, ⟨some 8, .call 56 [.v 6, .v 7], none, [6, 7]⟩, ⟨some 4, .mv (.v 8), none, [8]⟩] [4]) .ret)) }
theorem U5 : QY Go.Proofs.Tryd.prog 26 G7 = true := by kernel_rfl
def K5 : SCode := (.seq (.seq (.rg [⟨some 11, .mv (.v 5), none, []⟩, ⟨some 12, .mv (.v 0), none, []⟩, ⟨some 13, .lenL (.v 12), none, [12]⟩, ⟨some 14, .bin .lss (.v 11) (.v 13), none, [11, 13]⟩] [0, 1, 5, 14]) (.cond (.v 14) .skip (.exit 0))) (.seq (.block 1 (.seq (.rgd [⟨some 17, .mv (.v 0), none, []⟩, ⟨some 18, .mv (.v 5), none, []⟩, ⟨some 19, .iaddr 3 (.v 17) (.v 18), none, []⟩, ⟨some 20, .loadN 3 (.v 19), none, []⟩, ⟨some 21, .mv (.v 1), none, []⟩, ⟨some 22, .mv (.v 5), none, []⟩, ⟨some 23, .iaddr 3 (.v 21) (.v 22), none, []⟩, ⟨some 24, .loadN 3 (.v 23), none, []⟩, ⟨some 25, .call 61 [.v 20, .v 24], none, []⟩, ⟨some 26, .not (.v 25), none, []⟩] [0, 1, 5, 26] [none, none, none, none, none, none, none, none, none, none]) (.cond (.v 26) (.seq (.rg [⟨some 4, .mv (.c (.bool false)), none, []⟩] [4]) .ret) .skip))) (.rg [⟨some 15, .mv (.v 5), none, [5]⟩, ⟨some 16, .binN .add (.v 15) (.c (.int .i64 1)), none, [15]⟩, ⟨some 5, .mv (.v 16), none, [16]⟩] [0, 1, 5])))
/-- laws.eqSkyPointS: function 28 -/
def YW : SFun := { n := 27, res := [.t 4], body := (.seq (.rg [⟨some 4, .mv (.c (.bool false)), none, [4]⟩] [0, 1]) (.seq (.seq (.rg [⟨some 6, .mv (.v 0), none, []⟩, ⟨some 7, .lenL (.v 6), none, [6]⟩, ⟨some 8, .mv (.v 1), none, []⟩, ⟨some 9, .lenL (.v 8), none, [8]⟩, ⟨some 10, .bin .neq (.v 7) (.v 9), none, [7, 9]⟩] [0, 1, 10]) (.cond (.v 10) (.seq (.rg [⟨some 4, .mv (.c (.bool false)), none, []⟩] [4]) .ret) .skip)) (.seq (.seq (.rg [⟨some 5, .mv (.c (.int .i64 0)), none, []⟩] [0, 1, 5]) (.block 0 (.loop K5))) (.seq (.rg [⟨some 4, .mv (.c (.bool true)), none, []⟩] [4]) .ret)))) }
theorem ZR : QY Go.Proofs.Tryd.prog 28 YW = true := by kernel_rfl
def KT : SCode := (.seq (.seq (.rg [⟨some 11, .mv (.v 5), none, []⟩, ⟨some 12, .mv (.v 0), none, []⟩, ⟨some 13, .lenL (.v 12), none, [12]⟩, ⟨some 14, .bin .lss (.v 11) (.v 13), none, [11, 13]⟩] [0, 1, 5, 14]) (.cond (.v 14) .skip (.exit 0))) (.seq (.block 1 (.seq (.rgd [⟨some 17, .mv (.v 0), none, []⟩, ⟨some 18, .mv (.v 5), none, []⟩, ⟨some 19, .iaddr 2 (.v 17) (.v 18), none, []⟩, ⟨some 20, .loadN 2 (.v 19), none, []⟩, ⟨some 21, .mv (.v 1), none, []⟩, ⟨some 22, .mv (.v 5), none, []⟩, ⟨some 23, .iaddr 2 (.v 21) (.v 22), none, []⟩, ⟨some 24, .loadN 2 (.v 23), none, []⟩, ⟨some 25, .call 62 [.v 20, .v 24], none, []⟩, ⟨some 26, .not (.v 25), none, []⟩] [0, 1, 5, 26] [none, none, none, none, none, none, none, none, none, none]) (.cond (.v 26) (.seq (.rg [⟨some 4, .mv (.c (.bool false)), none, []⟩] [4]) .ret) .skip))) (.rg [⟨some 15, .mv (.v 5), none, [5]⟩, ⟨some 16, .binN .add (.v 15) (.c (.int .i64 1)), none, [15]⟩, ⟨some 5, .mv (.v 16), none, [16]⟩] [0, 1, 5])))
/-- laws.eqSkyAirwayS: function 29 -/
def YE : SFun := { n := 27, res := [.t 4], body := (.seq (.rg [⟨some 4, .mv (.c (.bool false)), none, [4]⟩] [0, 1]) (.seq (.seq (.rg [⟨some 6, .mv (.v 0), none, []⟩, ⟨some 7, .lenL (.v 6), none, [6]⟩, ⟨some 8, .mv (.v 1), none, []⟩, ⟨some 9, .lenL (.v 8), none, [8]⟩, ⟨some 10, .bin .neq (.v 7) (.v 9), none, [7, 9]⟩] [0, 1, 10]) (.cond (.v 10) (.seq (.rg [⟨some 4, .mv (.c (.bool false)), none, []⟩] [4]) .ret) .skip)) (.seq (.seq (.rg [⟨some 5, .mv (.c (.int .i64 0)), none, []⟩] [0, 1, 5]) (.block 0 (.loop KT))) (.seq (.rg [⟨some 4, .mv (.c (.bool true)), none, []⟩] [4]) .ret)))) }
theorem Zo : QY Go.Proofs.Tryd.prog 29 YE = true := by kernel_rfl
def KU : SCode := (.seq (.seq (.rg [⟨some 11, .mv (.v 5), none, []⟩, ⟨some 12, .mv (.v 0), none, []⟩, ⟨some 13, .lenL (.v 12), none, [12]⟩, ⟨some 14, .bin .lss (.v 11) (.v 13), none, [11, 13]⟩] [0, 1, 5, 14]) (.cond (.v 14) .skip (.exit 0))) (.seq (.block 1 (.seq (.rgd [⟨some 17, .mv (.v 0), none, []⟩, ⟨some 18, .mv (.v 5), none, []⟩, ⟨some 19, .iaddr 2 (.v 17) (.v 18), none, []⟩, ⟨some 20, .loadN 2 (.v 19), none, []⟩, ⟨some 21, .mv (.v 1), none, []⟩, ⟨some 22, .mv (.v 5), none, []⟩, ⟨some 23, .iaddr 2 (.v 21) (.v 22), none, []⟩, ⟨some 24, .loadN 2 (.v 23), none, []⟩, ⟨some 25, .call 63 [.v 20, .v 24], none, []⟩, ⟨some 26, .not (.v 25), none, []⟩] [0, 1, 5, 26] [none, none, none, none, none, none, none, none, none, none]) (.cond (.v 26) (.seq (.rg [⟨some 4, .mv (.c (.bool false)), none, []⟩] [4]) .ret) .skip))) (.rg [⟨some 15, .mv (.v 5), none, [5]⟩, ⟨some 16, .binN .add (.v 15) (.c (.int .i64 1)), none, [15]⟩, ⟨some 5, .mv (.v 16), none, [16]⟩] [0, 1, 5])))
/-- laws.eqSkySectorS: function 30 -/
def YF : SFun := { n := 27, res := [.t 4], body := (.seq (.rg [⟨some 4, .mv (.c (.bool false)), none, [4]⟩] [0, 1]) (.seq (.seq (.rg [⟨some 6, .mv (.v 0), none, []⟩, ⟨some 7, .lenL (.v 6), none, [6]⟩, ⟨some 8, .mv (.v 1), none, []⟩, ⟨some 9, .lenL (.v 8), none, [8]⟩, ⟨some 10, .bin .neq (.v 7) (.v 9), none, [7, 9]⟩] [0, 1, 10]) (.cond (.v 10) (.seq (.rg [⟨some 4, .mv (.c (.bool false)), none, []⟩] [4]) .ret) .skip)) (.seq (.seq (.rg [⟨some 5, .mv (.c (.int .i64 0)), none, []⟩] [0, 1, 5]) (.block 0 (.loop KU))) (.seq (.rg [⟨some 4, .mv (.c (.bool true)), none, []⟩] [4]) .ret)))) }
theorem Zp : QY Go.Proofs.Tryd.prog 30 YF = true := by kernel_rfl
def KV : SCode := (.seq (.seq (.rg [⟨some 11, .mv (.v 5), none, []⟩, ⟨some 12, .mv (.v 0), none, []⟩, ⟨some 13, .lenL (.v 12), none, [12]⟩, ⟨some 14, .bin .lss (.v 11) (.v 13), none, [11, 13]⟩] [0, 1, 5, 14]) (.cond (.v 14) .skip (.exit 0))) (.seq (.block 1 (.seq (.rgd [⟨some 17, .mv (.v 0), none, []⟩, ⟨some 18, .mv (.v 5), none, []⟩, ⟨some 19, .iaddr 4 (.v 17) (.v 18), none, []⟩, ⟨some 20, .loadN 4 (.v 19), none, []⟩, ⟨some 21, .mv (.v 1), none, []⟩, ⟨some 22, .mv (.v 5), none, []⟩, ⟨some 23, .iaddr 4 (.v 21) (.v 22), none, []⟩, ⟨some 24, .loadN 4 (.v 23), none, []⟩, ⟨some 25, .call 64 [.v 20, .v 24], none, []⟩, ⟨some 26, .not (.v 25), none, []⟩] [0, 1, 5, 26] [none, none, none, none, none, none, none, none, none, none]) (.cond (.v 26) (.seq (.rg [⟨some 4, .mv (.c (.bool false)), none, []⟩] [4]) .ret) .skip))) (.rg [⟨some 15, .mv (.v 5), none, [5]⟩, ⟨some 16, .binN .add (.v 15) (.c (.int .i64 1)), none, [15]⟩, ⟨some 5, .mv (.v 16), none, [16]⟩] [0, 1, 5])))
/-- laws.eqSkyRunwayS: function 31 -/
def YG : SFun := { n := 27, res := [.t 4], body := (.seq (.rg [⟨some 4, .mv (.c (.bool false)), none, [4]⟩] [0, 1]) (.seq (.seq (.rg [⟨some 6, .mv (.v 0), none, []⟩, ⟨some 7, .lenL (.v 6), none, [6]⟩, ⟨some 8, .mv (.v 1), none, []⟩, ⟨some 9, .lenL (.v 8), none, [8]⟩, ⟨some 10, .bin .neq (.v 7) (.v 9), none, [7, 9]⟩] [0, 1, 10]) (.cond (.v 10) (.seq (.rg [⟨some 4, .mv (.c (.bool false)), none, []⟩] [4]) .ret) .skip)) (.seq (.seq (.rg [⟨some 5, .mv (.c (.int .i64 0)), none, []⟩] [0, 1, 5]) (.block 0 (.loop KV))) (.seq (.rg [⟨some 4, .mv (.c (.bool true)), none, []⟩] [4]) .ret)))) }
theorem Zq : QY Go.Proofs.Tryd.prog 31 YG = true := by kernel_rfl
/-- spec.SkyValid: function 32 -/
def Xv : SFun := { n := 37, res := [.t 2], body := (.seq (.rg [⟨some 1, .box 101 (.v 0), none, [0]⟩, ⟨some 2, .mv (.c (.bool false)), none, [2]⟩] [1]) (.seq (.seq (.rg [⟨some 3, .faddr 0 (.v 1), none, []⟩, ⟨some 4, .load1 (.v 3), none, [3]⟩, ⟨some 5, .call 65 [.v 4, .c (.int .i64 1), .c (.int .i64 16)], none, [4]⟩, ⟨some 6, .not (.v 5), none, [5]⟩, ⟨some 7, .mv (.v 6), none, [6]⟩, ⟨some 8, .faddr 1 (.v 1), some (7, false), []⟩, ⟨some 9, .load1 (.v 8), some (7, false), [8]⟩, ⟨some 10, .call 65 [.v 9, .c (.int .i64 1), .c (.int .i64 16)], some (7, false), [9]⟩, ⟨some 11, .not (.v 10), some (7, false), [10]⟩, ⟨some 12, .pick (.v 7) (.c (.bool true)) (.v 11), none, [7, 11]⟩, ⟨some 13, .mv (.v 12), none, [12]⟩, ⟨some 14, .faddr 2 (.v 1), some (13, false), []⟩, ⟨some 15, .load1 (.v 14), some (13, false), [14]⟩, ⟨some 16, .call 65 [.v 15, .c (.int .i64 1), .c (.int .i64 6)], some (13, false), [15]⟩, ⟨some 17, .not (.v 16), some (13, false), [16]⟩, ⟨some 18, .pick (.v 13) (.c (.bool true)) (.v 17), none, [13, 17]⟩] [1, 18]) (.cond (.v 18) (.seq (.rg [⟨some 2, .mv (.c (.bool false)), none, []⟩] [2]) .ret) .skip)) (.seq (.rg [⟨some 19, .loadN 7 (.v 1), none, []⟩, ⟨some 20, .call 66 [.v 19], none, [19]⟩, ⟨some 21, .mv (.v 20), none, [20]⟩, ⟨some 22, .loadN 7 (.v 1), some (21, true), []⟩, ⟨some 23, .call 67 [.v 22], some (21, true), [22]⟩, ⟨some 24, .pick (.v 21) (.v 23) (.c (.bool false)), none, [21, 23]⟩, ⟨some 25, .mv (.v 24), none, [24]⟩, ⟨some 26, .loadN 7 (.v 1), some (25, true), []⟩, ⟨some 27, .call 68 [.v 26], some (25, true), [26]⟩, ⟨some 28, .pick (.v 25) (.v 27) (.c (.bool false)), none, [25, 27]⟩, ⟨some 29, .mv (.v 28), none, [28]⟩, ⟨some 30, .loadN 7 (.v 1), some (29, true), []⟩, ⟨some 31, .call 69 [.v 30], some (29, true), [30]⟩, ⟨some 32, .pick (.v 29) (.v 31) (.c (.bool false)), none, [29, 31]⟩, ⟨some 33, .mv (.v 32), none, [32]⟩, ⟨some 34, .loadN 7 (.v 1), some (33, true), [1]⟩, ⟨some 35, .call 70 [.v 34], some (33, true), [34]⟩, ⟨some 36, .pick (.v 33) (.v 35) (.c (.bool false)), none, [33, 35]⟩, ⟨some 2, .mv (.v 36), none, [36]⟩] [2]) .ret))) }
theorem Wb : QY Go.Proofs.Tryd.prog 32 Xv = true := by kernel_rfl
/-- spec.l7Way: function 33 -/
def Xw : SFun := { n := 30, res := [.t 6], body := (.seq (.rg [⟨some 3, .box 103 (.v 0), none, [0]⟩, ⟨some 6, .mv (.c (.sl 0 1 [])), none, [6]⟩] [1, 2, 3]) (.seq (.rg [⟨some 8, .faddr 3 (.v 3), none, []⟩, ⟨some 9, .load1 (.v 8), none, [8]⟩, ⟨some 10, .mv (.v 1), none, [1]⟩, ⟨some 11, .call 71 [.v 9, .v 10], none, [9, 10]⟩, ⟨some 7, .mv (.v 11), none, [11]⟩] [2, 3, 7]) (.seq (.seq (.rg [⟨some 12, .mv (.v 7), none, []⟩, ⟨some 13, .bin .lss (.v 12) (.c (.int .i64 0)), none, [12]⟩, ⟨some 14, .mv (.v 13), none, [13]⟩, ⟨some 15, .faddr 3 (.v 3), some (14, false), []⟩, ⟨some 16, .load1 (.v 15), some (14, false), [15]⟩, ⟨some 17, .mv (.v 2), some (14, false), []⟩, ⟨some 18, .call 71 [.v 16, .v 17], some (14, false), [16, 17]⟩, ⟨some 19, .bin .lss (.v 18) (.c (.int .i64 0)), some (14, false), [18]⟩, ⟨some 20, .pick (.v 14) (.c (.bool true)) (.v 19), none, [14, 19]⟩] [2, 3, 7, 20]) (.cond (.v 20) (.seq (.rg [⟨some 21, .lit 9 1 [], none, []⟩, ⟨some 6, .mv (.v 21), none, [21]⟩] [6]) (.gh (.frzE 6) .ret)) .skip)) (.seq (.rg [⟨some 22, .litOwn 122 9 1 [], none, []⟩, ⟨some 23, .loadN 7 (.v 3), none, [3]⟩, ⟨some 24, .mv (.v 2), none, [2]⟩, ⟨some 25, .call 72 [.v 23, .v 24], none, [23, 24]⟩, ⟨some 26, .mv (.v 7), none, [7]⟩, ⟨some 27, .iaddr 1 (.v 25) (.v 26), none, [25, 26]⟩, ⟨some 28, .load1 (.v 27), none, [27]⟩, ⟨some 29, .app 122 9 1 (.v 22) (.v 28), none, [22, 28]⟩, ⟨some 6, .mv (.v 29), none, [29]⟩] [6]) (.gh (.frzE 6) .ret))))) }
theorem UU : QY Go.Proofs.Tryd.prog 33 Xw = true := by kernel_rfl
/-- laws.szSkyPoint: function 39 -/
def GE : SFun := { n := 13, res := [.t 4], body := (.seq (.rg [⟨some 2, .box 102 (.v 0), none, [0]⟩, ⟨some 4, .mv (.c (.int .i64 0)), none, [4]⟩] [1, 2]) (.seq (.rg [⟨some 5, .mv (.v 1), none, [1]⟩, ⟨some 6, .faddr 0 (.v 2), none, [2]⟩, ⟨some 7, .load1 (.v 6), none, [6]⟩, ⟨some 8, .lenS (.v 7), none, [7]⟩, ⟨some 9, .binN .sub (.v 5) (.v 8), none, [5, 8]⟩, ⟨some 1, .mv (.v 9), none, [9]⟩] [1]) (.seq (.seq (.rg [⟨some 10, .mv (.v 1), none, []⟩, ⟨some 11, .bin .lss (.v 10) (.c (.int .i64 0)), none, [10]⟩] [1, 11]) (.cond (.v 11) (.seq (.rg [⟨some 4, .mv (.c (.int .i64 (-1))), none, []⟩] [4]) .ret) .skip)) (.seq (.rg [⟨some 12, .mv (.v 1), none, [1]⟩, ⟨some 4, .mv (.v 12), none, [12]⟩] [4]) .ret)))) }
theorem UA : QY Go.Proofs.Tryd.prog 39 GE = true := by kernel_rfl
/-- laws.szSkyAirway: function 40 -/
def YX : SFun := { n := 19, res := [.t 4], body := (.seq (.rg [⟨some 2, .box 102 (.v 0), none, [0]⟩, ⟨some 4, .mv (.c (.int .i64 0)), none, [4]⟩] [1, 2]) (.seq (.rg [⟨some 5, .mv (.v 1), none, [1]⟩, ⟨some 6, .faddr 0 (.v 2), none, []⟩, ⟨some 7, .load1 (.v 6), none, [6]⟩, ⟨some 8, .lenS (.v 7), none, [7]⟩, ⟨some 9, .binN .sub (.v 5) (.v 8), none, [5, 8]⟩, ⟨some 1, .mv (.v 9), none, [9]⟩] [1, 2]) (.seq (.seq (.rg [⟨some 10, .mv (.v 1), none, []⟩, ⟨some 11, .bin .lss (.v 10) (.c (.int .i64 0)), none, [10]⟩] [1, 2, 11]) (.cond (.v 11) (.seq (.rg [⟨some 4, .mv (.c (.int .i64 (-1))), none, []⟩] [4]) .ret) .skip)) (.seq (.rg [⟨some 12, .faddr 1 (.v 2), none, [2]⟩, ⟨some 13, .load1 (.v 12), none, [12]⟩, ⟨some 14, .mv (.v 1), none, [1]⟩, ⟨some 15, .call 74 [.v 13, .v 14], none, [13, 14]⟩, ⟨some 1, .mv (.v 15), none, [15]⟩] [1]) (.seq (.seq (.rg [⟨some 16, .mv (.v 1), none, []⟩, ⟨some 17, .bin .lss (.v 16) (.c (.int .i64 0)), none, [16]⟩] [1, 17]) (.cond (.v 17) (.seq (.rg [⟨some 4, .mv (.c (.int .i64 (-1))), none, []⟩] [4]) .ret) .skip)) (.seq (.rg [⟨some 18, .mv (.v 1), none, [1]⟩, ⟨some 4, .mv (.v 18), none, [18]⟩] [4]) .ret)))))) }
theorem ZS : QY Go.Proofs.Tryd.prog 40 YX = true := by kernel_rfl
/-- laws.szSkySector: function 41 -/
def YY : SFun := { n := 19, res := [.t 4], body := (.seq (.rg [⟨some 2, .box 102 (.v 0), none, [0]⟩, ⟨some 4, .mv (.c (.int .i64 0)), none, [4]⟩] [1, 2]) (.seq (.rg [⟨some 5, .mv (.v 1), none, [1]⟩, ⟨some 6, .faddr 0 (.v 2), none, []⟩, ⟨some 7, .load1 (.v 6), none, [6]⟩, ⟨some 8, .lenS (.v 7), none, [7]⟩, ⟨some 9, .binN .sub (.v 5) (.v 8), none, [5, 8]⟩, ⟨some 1, .mv (.v 9), none, [9]⟩] [1, 2]) (.seq (.seq (.rg [⟨some 10, .mv (.v 1), none, []⟩, ⟨some 11, .bin .lss (.v 10) (.c (.int .i64 0)), none, [10]⟩] [1, 2, 11]) (.cond (.v 11) (.seq (.rg [⟨some 4, .mv (.c (.int .i64 (-1))), none, []⟩] [4]) .ret) .skip)) (.seq (.rg [⟨some 12, .faddr 1 (.v 2), none, [2]⟩, ⟨some 13, .load1 (.v 12), none, [12]⟩, ⟨some 14, .mv (.v 1), none, [1]⟩, ⟨some 15, .call 75 [.v 13, .v 14], none, [13, 14]⟩, ⟨some 1, .mv (.v 15), none, [15]⟩] [1]) (.seq (.seq (.rg [⟨some 16, .mv (.v 1), none, []⟩, ⟨some 17, .bin .lss (.v 16) (.c (.int .i64 0)), none, [16]⟩] [1, 17]) (.cond (.v 17) (.seq (.rg [⟨some 4, .mv (.c (.int .i64 (-1))), none, []⟩] [4]) .ret) .skip)) (.seq (.rg [⟨some 18, .mv (.v 1), none, [1]⟩, ⟨some 4, .mv (.v 18), none, [18]⟩] [4]) .ret)))))) }
theorem ZT : QY Go.Proofs.Tryd.prog 41 YY = true := by kernel_rfl
/-- laws.szSkyRunway: function 42 -/
def YZ : SFun := { n := 13, res := [.t 4], body := (.seq (.rg [⟨some 2, .box 102 (.v 0), none, [0]⟩, ⟨some 4, .mv (.c (.int .i64 0)), none, [4]⟩] [1, 2]) (.seq (.rg [⟨some 5, .mv (.v 1), none, [1]⟩, ⟨some 6, .faddr 0 (.v 2), none, [2]⟩, ⟨some 7, .load1 (.v 6), none, [6]⟩, ⟨some 8, .lenS (.v 7), none, [7]⟩, ⟨some 9, .binN .sub (.v 5) (.v 8), none, [5, 8]⟩, ⟨some 1, .mv (.v 9), none, [9]⟩] [1]) (.seq (.seq (.rg [⟨some 10, .mv (.v 1), none, []⟩, ⟨some 11, .bin .lss (.v 10) (.c (.int .i64 0)), none, [10]⟩] [1, 11]) (.cond (.v 11) (.seq (.rg [⟨some 4, .mv (.c (.int .i64 (-1))), none, []⟩] [4]) .ret) .skip)) (.seq (.rg [⟨some 12, .mv (.v 1), none, [1]⟩, ⟨some 4, .mv (.v 12), none, [12]⟩] [4]) .ret)))) }
theorem ZU : QY Go.Proofs.Tryd.prog 42 YZ = true := by kernel_rfl
/-- spec.l7Edge: function 43 -/
def ZV : SFun := { n := 14, res := [.t 6], body := (.seq (.rg [⟨some 3, .box 103 (.v 0), none, [0]⟩, ⟨some 6, .mv (.c (.int .i64 0)), none, [6]⟩] [1, 2, 3]) (.seq (.rgd [⟨some 7, .loadN 7 (.v 3), none, []⟩, ⟨some 8, .mv (.v 1), none, []⟩, ⟨some 9, .call 77 [.v 7, .v 8], none, []⟩, ⟨some 10, .loadN 7 (.v 3), none, []⟩, ⟨some 11, .mv (.v 2), none, []⟩, ⟨some 12, .call 77 [.v 10, .v 11], none, []⟩, ⟨some 13, .call 76 [.v 9, .v 12], none, []⟩, ⟨some 6, .mv (.v 13), none, []⟩] [6] [none, none, some [], some [0], none, none, none, none]) .ret)) }
theorem QaU : QY Go.Proofs.Tryd.prog 43 ZV = true := by kernel_rfl
/-- laws.toSkyPoint: function 44 -/
def GF : SFun := { n := 14, res := [.cN 2 3], body := (.seq (.rg [⟨some 1, .box 101 (.v 0), none, [0]⟩, ⟨some 2, .alloc 102 [.str ⟨#[]⟩, .int .i64 0, .int .i64 0], none, []⟩] [1, 2]) (.seq (.rg [⟨some 3, .alloc 103 [.str ⟨#[]⟩, .int .i64 0, .int .i64 0], none, []⟩] [1, 2, 3]) (.seq (.rg [⟨some 4, .faddr 0 (.v 1), none, []⟩, ⟨some 5, .load1 (.v 4), none, [4]⟩, ⟨some 6, .faddr 0 (.v 3), none, []⟩, ⟨none, .store 1 (.v 6) (.v 5), none, [5, 6]⟩] [1, 2, 3]) (.seq (.rg [⟨some 7, .faddr 1 (.v 1), none, []⟩, ⟨some 8, .load1 (.v 7), none, [7]⟩, ⟨some 9, .faddr 1 (.v 3), none, []⟩, ⟨none, .store 1 (.v 9) (.v 8), none, [8, 9]⟩] [1, 2, 3]) (.seq (.rg [⟨some 10, .faddr 2 (.v 1), none, [1]⟩, ⟨some 11, .load1 (.v 10), none, [10]⟩, ⟨some 12, .faddr 2 (.v 3), none, []⟩, ⟨none, .store 1 (.v 12) (.v 11), none, [11, 12]⟩] [2, 3]) (.seq (.rg [⟨some 13, .loadN 3 (.v 3), none, [3]⟩, ⟨none, .store 3 (.v 2) (.v 13), none, [13]⟩] [2]) .ret)))))) }
theorem UB : QY Go.Proofs.Tryd.prog 44 GF = true := by kernel_rfl
/-- laws.toSkyAirway: function 45 -/
def Y0 : SFun := { n := 12, res := [.cN 2 2], body := (.seq (.rg [⟨some 1, .box 101 (.v 0), none, [0]⟩, ⟨some 2, .alloc 102 [.str ⟨#[]⟩, .sl 0 1 []], none, []⟩] [1, 2]) (.seq (.rg [⟨some 3, .alloc 103 [.str ⟨#[]⟩, .sl 0 1 []], none, []⟩] [1, 2, 3]) (.seq (.rg [⟨some 4, .faddr 0 (.v 1), none, []⟩, ⟨some 5, .load1 (.v 4), none, [4]⟩, ⟨some 6, .faddr 0 (.v 3), none, []⟩, ⟨none, .store 1 (.v 6) (.v 5), none, [5, 6]⟩] [1, 2, 3]) (.seq (.rg [⟨some 7, .faddr 1 (.v 1), none, [1]⟩, ⟨some 8, .load1 (.v 7), none, [7]⟩, ⟨some 9, .call 78 [.v 8], none, [8]⟩, ⟨some 10, .faddr 1 (.v 3), none, []⟩, ⟨none, .store 1 (.v 10) (.v 9), none, [9, 10]⟩] [2, 3]) (.seq (.rg [⟨some 11, .loadN 2 (.v 3), none, [3]⟩, ⟨none, .store 2 (.v 2) (.v 11), none, [11]⟩] [2]) .ret))))) }
theorem ZW : QY Go.Proofs.Tryd.prog 45 Y0 = true := by kernel_rfl
/-- laws.toSkySector: function 46 -/
def Y1 : SFun := { n := 12, res := [.cN 2 2], body := (.seq (.rg [⟨some 1, .box 101 (.v 0), none, [0]⟩, ⟨some 2, .alloc 102 [.str ⟨#[]⟩, .sl 0 6 []], none, []⟩] [1, 2]) (.seq (.rg [⟨some 3, .alloc 103 [.str ⟨#[]⟩, .sl 0 6 []], none, []⟩] [1, 2, 3]) (.seq (.rg [⟨some 4, .faddr 0 (.v 1), none, []⟩, ⟨some 5, .load1 (.v 4), none, [4]⟩, ⟨some 6, .faddr 0 (.v 3), none, []⟩, ⟨none, .store 1 (.v 6) (.v 5), none, [5, 6]⟩] [1, 2, 3]) (.seq (.rg [⟨some 7, .faddr 1 (.v 1), none, [1]⟩, ⟨some 8, .load1 (.v 7), none, [7]⟩, ⟨some 9, .call 79 [.v 8], none, [8]⟩, ⟨some 10, .faddr 1 (.v 3), none, []⟩, ⟨none, .store 1 (.v 10) (.v 9), none, [9, 10]⟩] [2, 3]) (.seq (.rg [⟨some 11, .loadN 2 (.v 3), none, [3]⟩, ⟨none, .store 2 (.v 2) (.v 11), none, [11]⟩] [2]) .ret))))) }
theorem ZX : QY Go.Proofs.Tryd.prog 46 Y1 = true := by kernel_rfl
/-- laws.toSkyRunway: function 47 -/
def Y2 : SFun := { n := 17, res := [.cN 2 4], body := (.seq (.rg [⟨some 1, .box 101 (.v 0), none, [0]⟩, ⟨some 2, .alloc 102 [.str ⟨#[]⟩, .int .i64 0, .int .i64 0, .int .i64 0], none, []⟩] [1, 2]) (.seq (.rg [⟨some 3, .alloc 103 [.str ⟨#[]⟩, .int .i64 0, .int .i64 0, .int .i64 0], none, []⟩] [1, 2, 3]) (.seq (.rg [⟨some 4, .faddr 0 (.v 1), none, []⟩, ⟨some 5, .load1 (.v 4), none, [4]⟩, ⟨some 6, .faddr 0 (.v 3), none, []⟩, ⟨none, .store 1 (.v 6) (.v 5), none, [5, 6]⟩] [1, 2, 3]) (.seq (.rg [⟨some 7, .faddr 1 (.v 1), none, []⟩, ⟨some 8, .load1 (.v 7), none, [7]⟩, ⟨some 9, .faddr 1 (.v 3), none, []⟩, ⟨none, .store 1 (.v 9) (.v 8), none, [8, 9]⟩] [1, 2, 3]) (.seq (.rg [⟨some 10, .faddr 2 (.v 1), none, []⟩, ⟨some 11, .load1 (.v 10), none, [10]⟩, ⟨some 12, .faddr 2 (.v 3), none, []⟩, ⟨none, .store 1 (.v 12) (.v 11), none, [11, 12]⟩] [1, 2, 3]) (.seq (.rg [⟨some 13, .faddr 3 (.v 1), none, [1]⟩, ⟨some 14, .load1 (.v 13), none, [13]⟩, ⟨some 15, .faddr 3 (.v 3), none, []⟩, ⟨none, .store 1 (.v 15) (.v 14), none, [14, 15]⟩] [2, 3]) (.seq (.rg [⟨some 16, .loadN 4 (.v 3), none, [3]⟩, ⟨none, .store 4 (.v 2) (.v 16), none, [16]⟩] [2]) .ret))))))) }
theorem ZY : QY Go.Proofs.Tryd.prog 47 Y2 = true := by kernel_rfl
/-- impl.within: function 48 -/
def ZZ : SFun := { n := 15, res := [.t 6], body := (.seq (.rg [⟨some 6, .mv (.c (.bool false)), none, [6]⟩] [0, 1, 2]) (.seq (.rg [⟨some 7, .mv (.v 0), none, []⟩, ⟨some 8, .mv (.v 1), none, [1]⟩, ⟨some 9, .bin .geq (.v 7) (.v 8), none, [7, 8]⟩, ⟨some 10, .mv (.v 9), none, [9]⟩, ⟨some 11, .mv (.v 0), some (10, true), [0]⟩, ⟨some 12, .mv (.v 2), some (10, true), [2]⟩, ⟨some 13, .bin .leq (.v 11) (.v 12), some (10, true), [11, 12]⟩, ⟨some 14, .pick (.v 10) (.v 13) (.c (.bool false)), none, [10, 13]⟩, ⟨some 6, .mv (.v 14), none, [14]⟩] [6]) .ret)) }
theorem QaV : QY Go.Proofs.Tryd.prog 48 ZZ = true := by kernel_rfl
def Xx : SCode := (.seq (.seq (.rg [⟨some 13, .mv (.v 3), none, []⟩, ⟨some 14, .mv (.v 0), none, []⟩, ⟨some 15, .lenS (.v 14), none, [14]⟩, ⟨some 16, .bin .lss (.v 13) (.v 15), none, [13, 15]⟩] [0, 3, 16]) (.cond (.v 16) .skip (.exit 0))) (.seq (.block 1 (.seq (.rg [⟨some 19, .mv (.v 0), none, []⟩, ⟨some 20, .mv (.v 3), none, []⟩, ⟨some 21, .istr (.v 19) (.v 20), none, [19, 20]⟩, ⟨some 4, .mv (.v 21), none, [21]⟩] [0, 3, 4]) (.seq (.rg [⟨some 22, .mv (.v 4), none, []⟩, ⟨some 23, .bin .geq (.v 22) (.c (.int .u8 97)), none, [22]⟩, ⟨some 24, .mv (.v 23), none, [23]⟩, ⟨some 25, .mv (.v 4), some (24, true), []⟩, ⟨some 26, .bin .leq (.v 25) (.c (.int .u8 122)), some (24, true), [25]⟩, ⟨some 27, .pick (.v 24) (.v 26) (.c (.bool false)), none, [24, 26]⟩, ⟨some 28, .mv (.v 27), none, [27]⟩, ⟨some 29, .mv (.v 4), some (28, false), []⟩, ⟨some 30, .bin .geq (.v 29) (.c (.int .u8 48)), some (28, false), [29]⟩, ⟨some 31, .mv (.v 30), some (28, false), [30]⟩, ⟨some 32, .mv (.v 4), some (31, true), []⟩, ⟨some 33, .bin .leq (.v 32) (.c (.int .u8 57)), some (31, true), [32]⟩, ⟨some 34, .pick (.v 31) (.v 33) (.c (.bool false)), some (28, false), [31, 33]⟩, ⟨some 35, .pick (.v 28) (.c (.bool true)) (.v 34), none, [28, 34]⟩, ⟨some 36, .mv (.v 35), none, [35]⟩, ⟨some 37, .mv (.v 4), some (36, false), [4]⟩, ⟨some 38, .bin .eql (.v 37) (.c (.int .u8 45)), some (36, false), [37]⟩, ⟨some 39, .pick (.v 36) (.c (.bool true)) (.v 38), none, [36, 38]⟩, ⟨some 40, .not (.v 39), none, [39]⟩] [0, 3, 40]) (.cond (.v 40) (.seq (.rg [⟨some 2, .mv (.c (.bool false)), none, []⟩] [2]) .ret) .skip)))) (.rg [⟨some 17, .mv (.v 3), none, [3]⟩, ⟨some 18, .binN .add (.v 17) (.c (.int .i64 1)), none, [17]⟩, ⟨some 3, .mv (.v 18), none, [18]⟩] [0, 3])))
/-- impl.isName: function 49 -/
def Z0 : SFun := { n := 41, res := [.t 2], body := (.seq (.rg [⟨some 2, .mv (.c (.bool false)), none, [2]⟩] [0]) (.seq (.seq (.rg [⟨some 5, .mv (.v 0), none, []⟩, ⟨some 6, .lenS (.v 5), none, [5]⟩, ⟨some 7, .bin .lss (.v 6) (.c (.int .i64 1)), none, [6]⟩, ⟨some 8, .mv (.v 7), none, [7]⟩, ⟨some 9, .mv (.v 0), some (8, false), []⟩, ⟨some 10, .lenS (.v 9), some (8, false), [9]⟩, ⟨some 11, .bin .gtr (.v 10) (.c (.int .i64 8)), some (8, false), [10]⟩, ⟨some 12, .pick (.v 8) (.c (.bool true)) (.v 11), none, [8, 11]⟩] [0, 12]) (.cond (.v 12) (.seq (.rg [⟨some 2, .mv (.c (.bool false)), none, []⟩] [2]) .ret) .skip)) (.seq (.seq (.rg [⟨some 3, .mv (.c (.int .i64 0)), none, []⟩] [0, 3]) (.block 0 (.loop Xx))) (.seq (.rg [⟨some 2, .mv (.c (.bool true)), none, []⟩] [2]) .ret)))) }
theorem QaW : QY Go.Proofs.Tryd.prog 49 Z0 = true := by kernel_rfl
end Go.Ve

namespace Go.Ve
open Go.Proofs
set_option maxRecDepth 100000
/-- impl.Sky).cell: function 50 -/
def Xy : SFun := { n := 19, res := [.t 6], body := (.seq (.rg [⟨some 3, .box 103 (.v 0), none, [0]⟩, ⟨some 6, .mv (.c (.bool false)), none, [6]⟩] [1, 2, 3]) (.seq (.rg [⟨some 7, .mv (.v 1), none, [1]⟩, ⟨some 8, .faddr 0 (.v 3), none, []⟩, ⟨some 9, .load1 (.v 8), none, [8]⟩, ⟨some 10, .binN .sub (.v 9) (.c (.int .i64 1)), none, [9]⟩, ⟨some 11, .call 48 [.v 7, .c (.int .i64 0), .v 10], none, [7, 10]⟩, ⟨some 12, .mv (.v 11), none, [11]⟩, ⟨some 13, .mv (.v 2), some (12, true), [2]⟩, ⟨some 14, .faddr 1 (.v 3), some (12, true), [3]⟩, ⟨some 15, .load1 (.v 14), some (12, true), [14]⟩, ⟨some 16, .binN .sub (.v 15) (.c (.int .i64 1)), some (12, true), [15]⟩, ⟨some 17, .call 48 [.v 13, .c (.int .i64 0), .v 16], some (12, true), [13, 16]⟩, ⟨some 18, .pick (.v 12) (.v 17) (.c (.bool false)), none, [12, 17]⟩, ⟨some 6, .mv (.v 18), none, [18]⟩] [6]) .ret)) }
theorem Wc : QY Go.Proofs.Tryd.prog 50 Xy = true := by kernel_rfl
/-- impl.Sky).block: function 51 -/
def G8 : SFun := { n := 60, res := [.t 4], body := (.seq (.rg [⟨some 2, .box 102 (.v 0), none, [0]⟩, ⟨some 3, .box 103 (.v 1), none, [1]⟩, ⟨some 4, .mv (.c (.bool false)), none, [4]⟩] [2, 3]) (.seq (.rg [⟨some 5, .faddr 0 (.v 3), none, []⟩, ⟨some 6, .load1 (.v 5), none, [5]⟩, ⟨some 7, .bin .leq (.c (.int .i64 0)) (.v 6), none, [6]⟩, ⟨some 8, .mv (.v 7), none, [7]⟩, ⟨some 9, .faddr 0 (.v 3), some (8, true), []⟩, ⟨some 10, .load1 (.v 9), some (8, true), [9]⟩, ⟨some 11, .faddr 2 (.v 3), some (8, true), []⟩, ⟨some 12, .load1 (.v 11), some (8, true), [11]⟩, ⟨some 13, .bin .leq (.v 10) (.v 12), some (8, true), [10, 12]⟩, ⟨some 14, .pick (.v 8) (.v 13) (.c (.bool false)), none, [8, 13]⟩, ⟨some 15, .mv (.v 14), none, [14]⟩, ⟨some 16, .faddr 2 (.v 3), some (15, true), []⟩, ⟨some 17, .load1 (.v 16), some (15, true), [16]⟩, ⟨some 18, .faddr 0 (.v 2), some (15, true), []⟩, ⟨some 19, .load1 (.v 18), some (15, true), [18]⟩, ⟨some 20, .bin .lss (.v 17) (.v 19), some (15, true), [17, 19]⟩, ⟨some 21, .pick (.v 15) (.v 20) (.c (.bool false)), none, [15, 20]⟩, ⟨some 22, .mv (.v 21), none, [21]⟩, ⟨some 23, .faddr 1 (.v 3), some (22, true), []⟩, ⟨some 24, .load1 (.v 23), some (22, true), [23]⟩, ⟨some 25, .bin .leq (.c (.int .i64 0)) (.v 24), some (22, true), [24]⟩, ⟨some 26, .pick (.v 22) (.v 25) (.c (.bool false)), none, [22, 25]⟩, ⟨some 27, .mv (.v 26), none, [26]⟩, ⟨some 28, .faddr 1 (.v 3), some (27, true), []⟩, ⟨some 29, .load1 (.v 28), some (27, true), [28]⟩, ⟨some 30, .faddr 3 (.v 3), some (27, true), []⟩, ⟨some 31, .load1 (.v 30), some (27, true), [30]⟩, ⟨some 32, .bin .leq (.v 29) (.v 31), some (27, true), [29, 31]⟩, ⟨some 33, .pick (.v 27) (.v 32) (.c (.bool false)), none, [27, 32]⟩, ⟨some 34, .mv (.v 33), none, [33]⟩, ⟨some 35, .faddr 3 (.v 3), some (34, true), []⟩, ⟨some 36, .load1 (.v 35), some (34, true), [35]⟩, ⟨some 37, .faddr 1 (.v 2), some (34, true), []⟩, ⟨some 38, .load1 (.v 37), some (34, true), [37]⟩, ⟨some 39, .bin .lss (.v 36) (.v 38), some (34, true), [36, 38]⟩, ⟨some 40, .pick (.v 34) (.v 39) (.c (.bool false)), none, [34, 39]⟩, ⟨some 41, .mv (.v 40), none, [40]⟩, ⟨some 42, .faddr 4 (.v 3), some (41, true), []⟩, ⟨some 43, .load1 (.v 42), some (41, true), [42]⟩, ⟨some 44, .bin .leq (.c (.int .i64 1)) (.v 43), some (41, true), [43]⟩, ⟨some 45, .pick (.v 41) (.v 44) (.c (.bool false)), none, [41, 44]⟩, ⟨some 46, .mv (.v 45), none, [45]⟩, ⟨some 47, .faddr 4 (.v 3), some (46, true), []⟩, ⟨some 48, .load1 (.v 47), some (46, true), [47]⟩, ⟨some 49, .faddr 5 (.v 3), some (46, true), []⟩, ⟨some 50, .load1 (.v 49), some (46, true), [49]⟩, ⟨some 51, .bin .leq (.v 48) (.v 50), some (46, true), [48, 50]⟩, ⟨some 52, .pick (.v 46) (.v 51) (.c (.bool false)), none, [46, 51]⟩, ⟨some 53, .mv (.v 52), none, [52]⟩, ⟨some 54, .faddr 5 (.v 3), some (53, true), [3]⟩, ⟨some 55, .load1 (.v 54), some (53, true), [54]⟩, ⟨some 56, .faddr 2 (.v 2), some (53, true), [2]⟩, ⟨some 57, .load1 (.v 56), some (53, true), [56]⟩, ⟨some 58, .bin .leq (.v 55) (.v 57), some (53, true), [55, 57]⟩, ⟨some 59, .pick (.v 53) (.v 58) (.c (.bool false)), none, [53, 58]⟩, ⟨some 4, .mv (.v 59), none, [59]⟩] [4]) .ret)) }
theorem U6 : QY Go.Proofs.Tryd.prog 51 G8 = true := by kernel_rfl
/-- impl.blockLess: function 52 -/
def G9 : SFun := { n := 32, res := [.t 4], body := (.seq (.rg [⟨some 2, .box 102 (.v 0), none, [0]⟩, ⟨some 3, .box 103 (.v 1), none, [1]⟩, ⟨some 4, .mv (.c (.bool false)), none, [4]⟩] [2, 3]) (.seq (.block 0 (.seq (.rg [⟨some 6, .faddr 0 (.v 2), none, []⟩, ⟨some 7, .load1 (.v 6), none, [6]⟩, ⟨some 8, .faddr 0 (.v 3), none, []⟩, ⟨some 9, .load1 (.v 8), none, [8]⟩, ⟨some 10, .bin .neq (.v 7) (.v 9), none, [7, 9]⟩, ⟨some 5, .mv (.v 10), none, [10]⟩] [2, 3, 5]) (.cond (.v 5) (.seq (.rg [⟨some 11, .faddr 0 (.v 2), none, [2]⟩, ⟨some 12, .load1 (.v 11), none, [11]⟩, ⟨some 13, .faddr 0 (.v 3), none, [3]⟩, ⟨some 14, .load1 (.v 13), none, [13]⟩, ⟨some 15, .bin .lss (.v 12) (.v 14), none, [12, 14]⟩, ⟨some 4, .mv (.v 15), none, [15]⟩] [4]) .ret) (.seq (.rg [⟨some 17, .faddr 1 (.v 2), none, []⟩, ⟨some 18, .load1 (.v 17), none, [17]⟩, ⟨some 19, .faddr 1 (.v 3), none, []⟩, ⟨some 20, .load1 (.v 19), none, [19]⟩, ⟨some 21, .bin .neq (.v 18) (.v 20), none, [18, 20]⟩, ⟨some 16, .mv (.v 21), none, [21]⟩] [2, 3, 16]) (.cond (.v 16) (.seq (.rg [⟨some 22, .faddr 1 (.v 2), none, [2]⟩, ⟨some 23, .load1 (.v 22), none, [22]⟩, ⟨some 24, .faddr 1 (.v 3), none, [3]⟩, ⟨some 25, .load1 (.v 24), none, [24]⟩, ⟨some 26, .bin .lss (.v 23) (.v 25), none, [23, 25]⟩, ⟨some 4, .mv (.v 26), none, [26]⟩] [4]) .ret) .skip))))) (.seq (.rg [⟨some 27, .faddr 4 (.v 2), none, [2]⟩, ⟨some 28, .load1 (.v 27), none, [27]⟩, ⟨some 29, .faddr 4 (.v 3), none, [3]⟩, ⟨some 30, .load1 (.v 29), none, [29]⟩, ⟨some 31, .bin .lss (.v 28) (.v 30), none, [28, 30]⟩, ⟨some 4, .mv (.v 31), none, [31]⟩] [4]) .ret))) }
theorem U7 : QY Go.Proofs.Tryd.prog 52 G9 = true := by kernel_rfl
/-- impl.meets: function 53 -/
def UV : SFun := { n := 45, res := [.t 4], body := (.seq (.rg [⟨some 2, .box 102 (.v 0), none, [0]⟩, ⟨some 3, .box 103 (.v 1), none, [1]⟩, ⟨some 4, .mv (.c (.bool false)), none, [4]⟩] [2, 3]) (.seq (.rg [⟨some 5, .faddr 0 (.v 2), none, []⟩, ⟨some 6, .load1 (.v 5), none, [5]⟩, ⟨some 7, .faddr 2 (.v 3), none, []⟩, ⟨some 8, .load1 (.v 7), none, [7]⟩, ⟨some 9, .bin .leq (.v 6) (.v 8), none, [6, 8]⟩, ⟨some 10, .mv (.v 9), none, [9]⟩, ⟨some 11, .faddr 0 (.v 3), some (10, true), []⟩, ⟨some 12, .load1 (.v 11), some (10, true), [11]⟩, ⟨some 13, .faddr 2 (.v 2), some (10, true), []⟩, ⟨some 14, .load1 (.v 13), some (10, true), [13]⟩, ⟨some 15, .bin .leq (.v 12) (.v 14), some (10, true), [12, 14]⟩, ⟨some 16, .pick (.v 10) (.v 15) (.c (.bool false)), none, [10, 15]⟩, ⟨some 17, .mv (.v 16), none, [16]⟩, ⟨some 18, .faddr 1 (.v 2), some (17, true), []⟩, ⟨some 19, .load1 (.v 18), some (17, true), [18]⟩, ⟨some 20, .faddr 3 (.v 3), some (17, true), []⟩, ⟨some 21, .load1 (.v 20), some (17, true), [20]⟩, ⟨some 22, .bin .leq (.v 19) (.v 21), some (17, true), [19, 21]⟩, ⟨some 23, .pick (.v 17) (.v 22) (.c (.bool false)), none, [17, 22]⟩, ⟨some 24, .mv (.v 23), none, [23]⟩, ⟨some 25, .faddr 1 (.v 3), some (24, true), []⟩, ⟨some 26, .load1 (.v 25), some (24, true), [25]⟩, ⟨some 27, .faddr 3 (.v 2), some (24, true), []⟩, ⟨some 28, .load1 (.v 27), some (24, true), [27]⟩, ⟨some 29, .bin .leq (.v 26) (.v 28), some (24, true), [26, 28]⟩, ⟨some 30, .pick (.v 24) (.v 29) (.c (.bool false)), none, [24, 29]⟩, ⟨some 31, .mv (.v 30), none, [30]⟩, ⟨some 32, .faddr 4 (.v 2), some (31, true), []⟩, ⟨some 33, .load1 (.v 32), some (31, true), [32]⟩, ⟨some 34, .faddr 5 (.v 3), some (31, true), []⟩, ⟨some 35, .load1 (.v 34), some (31, true), [34]⟩, ⟨some 36, .bin .leq (.v 33) (.v 35), some (31, true), [33, 35]⟩, ⟨some 37, .pick (.v 31) (.v 36) (.c (.bool false)), none, [31, 36]⟩, ⟨some 38, .mv (.v 37), none, [37]⟩, ⟨some 39, .faddr 4 (.v 3), some (38, true), [3]⟩, ⟨some 40, .load1 (.v 39), some (38, true), [39]⟩, ⟨some 41, .faddr 5 (.v 2), some (38, true), [2]⟩, ⟨some 42, .load1 (.v 41), some (38, true), [41]⟩, ⟨some 43, .bin .leq (.v 40) (.v 42), some (38, true), [40, 42]⟩, ⟨some 44, .pick (.v 38) (.v 43) (.c (.bool false)), none, [38, 43]⟩, ⟨some 4, .mv (.v 44), none, [44]⟩] [4]) .ret)) }
theorem Qcg : QY Go.Proofs.Tryd.prog 53 UV = true := by kernel_rfl
/-- impl.SkyBlock).places: function 54 -/
def Kr : SFun := { n := 23, res := [.t 2], body := (.seq (.rg [⟨some 1, .box 101 (.v 0), none, [0]⟩, ⟨some 2, .mv (.c (.int .i64 0)), none, [2]⟩] [1]) (.seq (.rg [⟨some 3, .faddr 2 (.v 1), none, []⟩, ⟨some 4, .load1 (.v 3), none, [3]⟩, ⟨some 5, .faddr 0 (.v 1), none, []⟩, ⟨some 6, .load1 (.v 5), none, [5]⟩, ⟨some 7, .binN .sub (.v 4) (.v 6), none, [4, 6]⟩, ⟨some 8, .binN .add (.v 7) (.c (.int .i64 1)), none, [7]⟩, ⟨some 9, .faddr 3 (.v 1), none, []⟩, ⟨some 10, .load1 (.v 9), none, [9]⟩, ⟨some 11, .faddr 1 (.v 1), none, []⟩, ⟨some 12, .load1 (.v 11), none, [11]⟩, ⟨some 13, .binN .sub (.v 10) (.v 12), none, [10, 12]⟩, ⟨some 14, .binN .add (.v 13) (.c (.int .i64 1)), none, [13]⟩, ⟨some 15, .binN .mul (.v 8) (.v 14), none, [8, 14]⟩, ⟨some 16, .faddr 5 (.v 1), none, []⟩, ⟨some 17, .load1 (.v 16), none, [16]⟩, ⟨some 18, .faddr 4 (.v 1), none, [1]⟩, ⟨some 19, .load1 (.v 18), none, [18]⟩, ⟨some 20, .binN .sub (.v 17) (.v 19), none, [17, 19]⟩, ⟨some 21, .binN .add (.v 20) (.c (.int .i64 1)), none, [20]⟩, ⟨some 22, .binN .mul (.v 15) (.v 21), none, [15, 21]⟩, ⟨some 2, .mv (.v 22), none, [22]⟩] [2]) .ret)) }
theorem Xh : QY Go.Proofs.Tryd.prog 54 Kr = true := by kernel_rfl
/-- impl.Sky).runway: function 55 -/
def KD : SFun := { n := 34, res := [.t 4], body := (.seq (.rg [⟨some 2, .box 102 (.v 0), none, [0]⟩, ⟨some 3, .box 103 (.v 1), none, [1]⟩, ⟨some 4, .mv (.c (.bool false)), none, [4]⟩] [2, 3]) (.seq (.seq (.rg [⟨some 6, .faddr 3 (.v 3), none, []⟩, ⟨some 7, .load1 (.v 6), none, [6]⟩, ⟨some 8, .call 48 [.v 7, .c (.int .i64 1), .c (.int .i64 8)], none, [7]⟩, ⟨some 9, .not (.v 8), none, [8]⟩] [2, 3, 9]) (.cond (.v 9) (.seq (.rg [⟨some 4, .mv (.c (.bool false)), none, []⟩] [4]) .ret) .skip)) (.seq (.rg [⟨some 10, .faddr 3 (.v 3), none, []⟩, ⟨some 11, .load1 (.v 10), none, [10]⟩, ⟨some 12, .iaddrA 9 2 (.g 0) (.v 11), none, [11]⟩, ⟨some 13, .loadN 2 (.v 12), none, [12]⟩, ⟨some 5, .alloc 105 [.int .i64 0, .int .i64 0], none, []⟩, ⟨none, .store 2 (.v 5) (.v 13), none, [13]⟩] [2, 3, 5]) (.seq (.rg [⟨some 14, .loadN 7 (.v 2), none, []⟩, ⟨some 15, .faddr 1 (.v 3), none, []⟩, ⟨some 16, .load1 (.v 15), none, [15]⟩, ⟨some 17, .faddr 2 (.v 3), none, []⟩, ⟨some 18, .load1 (.v 17), none, [17]⟩, ⟨some 19, .call 50 [.v 14, .v 16, .v 18], none, [14, 16, 18]⟩, ⟨some 20, .mv (.v 19), none, [19]⟩, ⟨some 21, .loadN 7 (.v 2), some (20, true), [2]⟩, ⟨some 22, .faddr 1 (.v 3), some (20, true), []⟩, ⟨some 23, .load1 (.v 22), some (20, true), [22]⟩, ⟨some 24, .iaddrA 2 1 (.v 5) (.c (.int .i64 0)), some (20, true), []⟩, ⟨some 25, .load1 (.v 24), some (20, true), [24]⟩, ⟨some 26, .binN .sub (.v 23) (.v 25), some (20, true), [23, 25]⟩, ⟨some 27, .faddr 2 (.v 3), some (20, true), [3]⟩, ⟨some 28, .load1 (.v 27), some (20, true), [27]⟩, ⟨some 29, .iaddrA 2 1 (.v 5) (.c (.int .i64 1)), some (20, true), [5]⟩, ⟨some 30, .load1 (.v 29), some (20, true), [29]⟩, ⟨some 31, .binN .sub (.v 28) (.v 30), some (20, true), [28, 30]⟩, ⟨some 32, .call 50 [.v 21, .v 26, .v 31], some (20, true), [21, 26, 31]⟩, ⟨some 33, .pick (.v 20) (.v 32) (.c (.bool false)), none, [20, 32]⟩, ⟨some 4, .mv (.v 33), none, [33]⟩] [4]) .ret)))) }
theorem GG : QY Go.Proofs.Tryd.prog 55 KD = true := by kernel_rfl
def JH : SCode := (.seq (.rg [⟨some 9, .bin .lss (.v 8) (.v 7), none, []⟩] [0, 1, 7, 8, 9]) (.seq (.cond (.v 9) .skip (.exit 0)) (.seq (.block 1 (.seq (.rg [⟨some 10, .mv (.v 8), none, []⟩, ⟨some 5, .mv (.v 10), none, [10]⟩] [0, 1, 5, 7, 8]) (.seq (.rg [⟨some 11, .mv (.v 1), none, []⟩, ⟨some 12, .mv (.v 0), none, []⟩, ⟨some 13, .mv (.v 5), none, []⟩, ⟨some 14, .iaddr 3 (.v 12) (.v 13), none, [12, 13]⟩, ⟨some 15, .loadN 3 (.v 14), none, [14]⟩, ⟨some 16, .callV (.v 11) [.v 15], none, [11, 15]⟩] [0, 1, 5, 7, 8, 16]) (.cond (.v 16) (.seq (.rg [⟨some 17, .mv (.v 5), none, [5]⟩, ⟨some 4, .mv (.v 17), none, [17]⟩] [4]) .ret) .skip)))) (.rg [⟨some 18, .binN .add (.v 8) (.c (.int .i64 1)), none, [8]⟩, ⟨some 8, .mv (.v 18), none, [18]⟩] [0, 1, 7, 8]))))
/-- impl.SkyPoint]: function 56 -/
def JP : SFun := { n := 19, res := [.t 4], body := (.seq (.rg [⟨some 4, .mv (.c (.int .i64 0)), none, [4]⟩] [0, 1]) (.seq (.seq (.rg [⟨some 6, .mv (.v 0), none, []⟩, ⟨some 7, .lenL (.v 6), none, [6]⟩, ⟨some 8, .mv (.c (.int .i64 0)), none, []⟩] [0, 1, 7, 8]) (.block 0 (.loop JH))) (.seq (.rg [⟨some 4, .mv (.c (.int .i64 (-1))), none, []⟩] [4]) .ret))) }
theorem YH : QY Go.Proofs.Tryd.prog 56 JP = true := by kernel_rfl
/-- impl.Sky).point$1: function 57 -/
def Y3 : SFun := { n := 8, res := [.t 3], body := (.seq (.rg [⟨some 2, .box 102 (.v 0), none, [0]⟩, ⟨some 3, .mv (.c (.bool false)), none, [3]⟩] [1, 2]) (.seq (.rg [⟨some 4, .faddr 0 (.v 2), none, [2]⟩, ⟨some 5, .load1 (.v 4), none, [4]⟩, ⟨some 6, .load1 (.v 1), none, [1]⟩, ⟨some 7, .bin .eql (.v 5) (.v 6), none, [5, 6]⟩, ⟨some 3, .mv (.v 7), none, [7]⟩] [3]) .ret)) }
theorem Z1 : QY Go.Proofs.Tryd.prog 57 Y3 = true := by kernel_rfl
/-- impl.dist: function 58 -/
def Wd : SFun := { n := 14, res := [.t 4], body := (.seq (.rg [⟨some 4, .mv (.c (.int .i64 0)), none, [4]⟩] [0, 1]) (.seq (.seq (.rg [⟨some 5, .mv (.v 0), none, []⟩, ⟨some 6, .mv (.v 1), none, []⟩, ⟨some 7, .bin .gtr (.v 5) (.v 6), none, [5, 6]⟩] [0, 1, 7]) (.cond (.v 7) (.seq (.rg [⟨some 8, .mv (.v 0), none, [0]⟩, ⟨some 9, .mv (.v 1), none, [1]⟩, ⟨some 10, .binN .sub (.v 8) (.v 9), none, [8, 9]⟩, ⟨some 4, .mv (.v 10), none, [10]⟩] [4]) .ret) .skip)) (.seq (.rg [⟨some 11, .mv (.v 1), none, [1]⟩, ⟨some 12, .mv (.v 0), none, [0]⟩, ⟨some 13, .binN .sub (.v 11) (.v 12), none, [11, 12]⟩, ⟨some 4, .mv (.v 13), none, [13]⟩] [4]) .ret))) }
theorem Qdc : QY Go.Proofs.Tryd.prog 58 Wd = true := by kernel_rfl
/-- impl.skyWay).better: function 60 -/
def K6 : SFun := { n := 37, res := [.t 4], body := (.seq (.rg [⟨some 2, .box 102 (.v 0), none, [0]⟩, ⟨some 3, .box 103 (.v 1), none, [1]⟩, ⟨some 4, .mv (.c (.bool false)), none, [4]⟩] [2, 3]) (.seq (.block 0 (.seq (.rg [⟨some 6, .faddr 0 (.v 2), none, []⟩, ⟨some 7, .load1 (.v 6), none, [6]⟩, ⟨some 8, .faddr 0 (.v 3), none, []⟩, ⟨some 9, .load1 (.v 8), none, [8]⟩, ⟨some 10, .bin .neq (.v 7) (.v 9), none, [7, 9]⟩, ⟨some 5, .mv (.v 10), none, [10]⟩] [2, 3, 5]) (.cond (.v 5) (.seq (.rg [⟨some 11, .faddr 0 (.v 2), none, [2]⟩, ⟨some 12, .load1 (.v 11), none, [11]⟩, ⟨some 13, .faddr 0 (.v 3), none, [3]⟩, ⟨some 14, .load1 (.v 13), none, [13]⟩, ⟨some 15, .bin .lss (.v 12) (.v 14), none, [12, 14]⟩, ⟨some 4, .mv (.v 15), none, [15]⟩] [4]) .ret) (.seq (.rg [⟨some 17, .faddr 1 (.v 2), none, []⟩, ⟨some 18, .load1 (.v 17), none, [17]⟩, ⟨some 19, .lenL (.v 18), none, [18]⟩, ⟨some 20, .faddr 1 (.v 3), none, []⟩, ⟨some 21, .load1 (.v 20), none, [20]⟩, ⟨some 22, .lenL (.v 21), none, [21]⟩, ⟨some 23, .bin .neq (.v 19) (.v 22), none, [19, 22]⟩, ⟨some 16, .mv (.v 23), none, [23]⟩] [2, 3, 16]) (.cond (.v 16) (.seq (.rg [⟨some 24, .faddr 1 (.v 2), none, [2]⟩, ⟨some 25, .load1 (.v 24), none, [24]⟩, ⟨some 26, .lenL (.v 25), none, [25]⟩, ⟨some 27, .faddr 1 (.v 3), none, [3]⟩, ⟨some 28, .load1 (.v 27), none, [27]⟩, ⟨some 29, .lenL (.v 28), none, [28]⟩, ⟨some 30, .bin .lss (.v 26) (.v 29), none, [26, 29]⟩, ⟨some 4, .mv (.v 30), none, [30]⟩] [4]) .ret) .skip))))) (.seq (.rg [⟨some 31, .faddr 1 (.v 2), none, [2]⟩, ⟨some 32, .load1 (.v 31), none, [31]⟩, ⟨some 33, .faddr 1 (.v 3), none, [3]⟩, ⟨some 34, .load1 (.v 33), none, [33]⟩, ⟨some 35, .call 80 [.v 32, .v 34], none, [32, 34]⟩, ⟨some 36, .bin .lss (.v 35) (.c (.int .i64 0)), none, [35]⟩, ⟨some 4, .mv (.v 36), none, [36]⟩] [4]) .ret))) }
theorem XZ : QY Go.Proofs.Tryd.prog 60 K6 = true := by kernel_rfl
/-- laws.eqSkyPoint: function 61 -/
def GH : SFun := { n := 20, res := [.t 4], body := (.seq (.rg [⟨some 2, .box 102 (.v 0), none, [0]⟩, ⟨some 3, .box 103 (.v 1), none, [1]⟩, ⟨some 4, .mv (.c (.bool false)), none, [4]⟩] [2, 3]) (.seq (.seq (.rg [⟨some 5, .faddr 0 (.v 2), none, []⟩, ⟨some 6, .load1 (.v 5), none, [5]⟩, ⟨some 7, .faddr 0 (.v 3), none, []⟩, ⟨some 8, .load1 (.v 7), none, [7]⟩, ⟨some 9, .bin .neq (.v 6) (.v 8), none, [6, 8]⟩] [2, 3, 9]) (.cond (.v 9) (.seq (.rg [⟨some 4, .mv (.c (.bool false)), none, []⟩] [4]) .ret) .skip)) (.seq (.seq (.rg [⟨some 10, .faddr 1 (.v 2), none, []⟩, ⟨some 11, .load1 (.v 10), none, [10]⟩, ⟨some 12, .faddr 1 (.v 3), none, []⟩, ⟨some 13, .load1 (.v 12), none, [12]⟩, ⟨some 14, .bin .neq (.v 11) (.v 13), none, [11, 13]⟩] [2, 3, 14]) (.cond (.v 14) (.seq (.rg [⟨some 4, .mv (.c (.bool false)), none, []⟩] [4]) .ret) .skip)) (.seq (.seq (.rg [⟨some 15, .faddr 2 (.v 2), none, [2]⟩, ⟨some 16, .load1 (.v 15), none, [15]⟩, ⟨some 17, .faddr 2 (.v 3), none, [3]⟩, ⟨some 18, .load1 (.v 17), none, [17]⟩, ⟨some 19, .bin .neq (.v 16) (.v 18), none, [16, 18]⟩] [19]) (.cond (.v 19) (.seq (.rg [⟨some 4, .mv (.c (.bool false)), none, []⟩] [4]) .ret) .skip)) (.seq (.rg [⟨some 4, .mv (.c (.bool true)), none, []⟩] [4]) .ret))))) }
theorem UC : QY Go.Proofs.Tryd.prog 61 GH = true := by kernel_rfl
/-- laws.eqSkyAirway: function 62 -/
def Y4 : SFun := { n := 16, res := [.t 4], body := (.seq (.rg [⟨some 2, .box 102 (.v 0), none, [0]⟩, ⟨some 3, .box 103 (.v 1), none, [1]⟩, ⟨some 4, .mv (.c (.bool false)), none, [4]⟩] [2, 3]) (.seq (.seq (.rg [⟨some 5, .faddr 0 (.v 2), none, []⟩, ⟨some 6, .load1 (.v 5), none, [5]⟩, ⟨some 7, .faddr 0 (.v 3), none, []⟩, ⟨some 8, .load1 (.v 7), none, [7]⟩, ⟨some 9, .bin .neq (.v 6) (.v 8), none, [6, 8]⟩] [2, 3, 9]) (.cond (.v 9) (.seq (.rg [⟨some 4, .mv (.c (.bool false)), none, []⟩] [4]) .ret) .skip)) (.seq (.seq (.rg [⟨some 10, .faddr 1 (.v 2), none, [2]⟩, ⟨some 11, .load1 (.v 10), none, [10]⟩, ⟨some 12, .faddr 1 (.v 3), none, [3]⟩, ⟨some 13, .load1 (.v 12), none, [12]⟩, ⟨some 14, .call 12 [.v 11, .v 13], none, [11, 13]⟩, ⟨some 15, .not (.v 14), none, [14]⟩] [15]) (.cond (.v 15) (.seq (.rg [⟨some 4, .mv (.c (.bool false)), none, []⟩] [4]) .ret) .skip)) (.seq (.rg [⟨some 4, .mv (.c (.bool true)), none, []⟩] [4]) .ret)))) }
theorem Z2 : QY Go.Proofs.Tryd.prog 62 Y4 = true := by kernel_rfl
/-- laws.eqSkySector: function 63 -/
def Y5 : SFun := { n := 16, res := [.t 4], body := (.seq (.rg [⟨some 2, .box 102 (.v 0), none, [0]⟩, ⟨some 3, .box 103 (.v 1), none, [1]⟩, ⟨some 4, .mv (.c (.bool false)), none, [4]⟩] [2, 3]) (.seq (.seq (.rg [⟨some 5, .faddr 0 (.v 2), none, []⟩, ⟨some 6, .load1 (.v 5), none, [5]⟩, ⟨some 7, .faddr 0 (.v 3), none, []⟩, ⟨some 8, .load1 (.v 7), none, [7]⟩, ⟨some 9, .bin .neq (.v 6) (.v 8), none, [6, 8]⟩] [2, 3, 9]) (.cond (.v 9) (.seq (.rg [⟨some 4, .mv (.c (.bool false)), none, []⟩] [4]) .ret) .skip)) (.seq (.seq (.rg [⟨some 10, .faddr 1 (.v 2), none, [2]⟩, ⟨some 11, .load1 (.v 10), none, [10]⟩, ⟨some 12, .faddr 1 (.v 3), none, [3]⟩, ⟨some 13, .load1 (.v 12), none, [12]⟩, ⟨some 14, .call 81 [.v 11, .v 13], none, [11, 13]⟩, ⟨some 15, .not (.v 14), none, [14]⟩] [15]) (.cond (.v 15) (.seq (.rg [⟨some 4, .mv (.c (.bool false)), none, []⟩] [4]) .ret) .skip)) (.seq (.rg [⟨some 4, .mv (.c (.bool true)), none, []⟩] [4]) .ret)))) }
theorem Z3 : QY Go.Proofs.Tryd.prog 63 Y5 = true := by kernel_rfl
/-- laws.eqSkyRunway: function 64 -/
def Y6 : SFun := { n := 25, res := [.t 4], body := (.seq (.rg [⟨some 2, .box 102 (.v 0), none, [0]⟩, ⟨some 3, .box 103 (.v 1), none, [1]⟩, ⟨some 4, .mv (.c (.bool false)), none, [4]⟩] [2, 3]) (.seq (.seq (.rg [⟨some 5, .faddr 0 (.v 2), none, []⟩, ⟨some 6, .load1 (.v 5), none, [5]⟩, ⟨some 7, .faddr 0 (.v 3), none, []⟩, ⟨some 8, .load1 (.v 7), none, [7]⟩, ⟨some 9, .bin .neq (.v 6) (.v 8), none, [6, 8]⟩] [2, 3, 9]) (.cond (.v 9) (.seq (.rg [⟨some 4, .mv (.c (.bool false)), none, []⟩] [4]) .ret) .skip)) (.seq (.seq (.rg [⟨some 10, .faddr 1 (.v 2), none, []⟩, ⟨some 11, .load1 (.v 10), none, [10]⟩, ⟨some 12, .faddr 1 (.v 3), none, []⟩, ⟨some 13, .load1 (.v 12), none, [12]⟩, ⟨some 14, .bin .neq (.v 11) (.v 13), none, [11, 13]⟩] [2, 3, 14]) (.cond (.v 14) (.seq (.rg [⟨some 4, .mv (.c (.bool false)), none, []⟩] [4]) .ret) .skip)) (.seq (.seq (.rg [⟨some 15, .faddr 2 (.v 2), none, []⟩, ⟨some 16, .load1 (.v 15), none, [15]⟩, ⟨some 17, .faddr 2 (.v 3), none, []⟩, ⟨some 18, .load1 (.v 17), none, [17]⟩, ⟨some 19, .bin .neq (.v 16) (.v 18), none, [16, 18]⟩] [2, 3, 19]) (.cond (.v 19) (.seq (.rg [⟨some 4, .mv (.c (.bool false)), none, []⟩] [4]) .ret) .skip)) (.seq (.seq (.rg [⟨some 20, .faddr 3 (.v 2), none, [2]⟩, ⟨some 21, .load1 (.v 20), none, [20]⟩, ⟨some 22, .faddr 3 (.v 3), none, [3]⟩, ⟨some 23, .load1 (.v 22), none, [22]⟩, ⟨some 24, .bin .neq (.v 21) (.v 23), none, [21, 23]⟩] [24]) (.cond (.v 24) (.seq (.rg [⟨some 4, .mv (.c (.bool false)), none, []⟩] [4]) .ret) .skip)) (.seq (.rg [⟨some 4, .mv (.c (.bool true)), none, []⟩] [4]) .ret)))))) }
theorem Z4 : QY Go.Proofs.Tryd.prog 64 Y6 = true := by kernel_rfl
/-- spec.l1In: function 65 -/
def We : SFun := { n := 15, res := [.t 6], body := (.seq (.rg [⟨some 6, .mv (.c (.bool false)), none, [6]⟩] [0, 1, 2]) (.seq (.rg [⟨some 7, .mv (.v 0), none, []⟩, ⟨some 8, .mv (.v 1), none, [1]⟩, ⟨some 9, .bin .geq (.v 7) (.v 8), none, [7, 8]⟩, ⟨some 10, .mv (.v 9), none, [9]⟩, ⟨some 11, .mv (.v 0), some (10, true), [0]⟩, ⟨some 12, .mv (.v 2), some (10, true), [2]⟩, ⟨some 13, .bin .leq (.v 11) (.v 12), some (10, true), [11, 12]⟩, ⟨some 14, .pick (.v 10) (.v 13) (.c (.bool false)), none, [10, 13]⟩, ⟨some 6, .mv (.v 14), none, [14]⟩] [6]) .ret)) }
theorem Qdd : QY Go.Proofs.Tryd.prog 65 We = true := by kernel_rfl
def J8 : SCode := (.rgd [⟨some 22, .faddr 0 (.v 4), none, []⟩, ⟨some 23, .load1 (.v 22), none, []⟩, ⟨some 24, .call 82 [.v 23], none, []⟩, ⟨some 25, .not (.v 24), none, []⟩, ⟨some 26, .mv (.v 25), none, []⟩, ⟨some 27, .mv (.v 3), some (26, false), []⟩, ⟨some 28, .bin .gtr (.v 27) (.c (.int .i64 0)), some (26, false), []⟩, ⟨some 29, .mv (.v 28), some (26, false), []⟩, ⟨some 30, .faddr 3 (.v 1), some (29, true), []⟩, ⟨some 31, .load1 (.v 30), some (29, true), []⟩, ⟨some 32, .mv (.v 3), some (29, true), []⟩, ⟨some 33, .binN .sub (.v 32) (.c (.int .i64 1)), some (29, true), []⟩, ⟨some 34, .iaddr 3 (.v 31) (.v 33), some (29, true), []⟩, ⟨some 35, .faddr 0 (.v 34), some (29, true), []⟩, ⟨some 36, .load1 (.v 35), some (29, true), []⟩, ⟨some 37, .faddr 0 (.v 4), some (29, true), []⟩, ⟨some 38, .load1 (.v 37), some (29, true), []⟩, ⟨some 39, .bin .geq (.v 36) (.v 38), some (29, true), []⟩, ⟨some 40, .pick (.v 29) (.v 39) (.c (.bool false)), some (26, false), []⟩, ⟨some 41, .pick (.v 26) (.c (.bool true)) (.v 40), none, []⟩, ⟨some 42, .mv (.v 41), none, []⟩, ⟨some 43, .faddr 1 (.v 4), some (42, false), []⟩, ⟨some 44, .load1 (.v 43), some (42, false), []⟩, ⟨some 45, .faddr 0 (.v 1), some (42, false), []⟩, ⟨some 46, .load1 (.v 45), some (42, false), []⟩, ⟨some 47, .binN .sub (.v 46) (.c (.int .i64 1)), some (42, false), []⟩, ⟨some 48, .call 65 [.v 44, .c (.int .i64 0), .v 47], some (42, false), []⟩, ⟨some 49, .not (.v 48), some (42, false), []⟩, ⟨some 50, .pick (.v 42) (.c (.bool true)) (.v 49), none, []⟩, ⟨some 51, .mv (.v 50), none, []⟩, ⟨some 52, .faddr 2 (.v 4), some (51, false), []⟩, ⟨some 53, .load1 (.v 52), some (51, false), []⟩, ⟨some 54, .faddr 1 (.v 1), some (51, false), []⟩, ⟨some 55, .load1 (.v 54), some (51, false), []⟩, ⟨some 56, .binN .sub (.v 55) (.c (.int .i64 1)), some (51, false), []⟩, ⟨some 57, .call 65 [.v 53, .c (.int .i64 0), .v 56], some (51, false), []⟩, ⟨some 58, .not (.v 57), some (51, false), []⟩, ⟨some 59, .pick (.v 51) (.c (.bool true)) (.v 58), none, []⟩] [1, 3, 4, 59] [none, none, none, none, none, none, none, none, none, none, none, none, none, none, none, none, none, none, none, none, none, none, none, none, none, none, none, none, none, none, none, none, none, none, none, none, none, none])
def J9 : SCode := (.rgd [⟨some 65, .faddr 3 (.v 1), none, []⟩, ⟨some 66, .load1 (.v 65), none, []⟩, ⟨some 67, .mv (.v 5), none, []⟩, ⟨some 68, .iaddr 3 (.v 66) (.v 67), none, []⟩, ⟨some 69, .faddr 1 (.v 68), none, []⟩, ⟨some 70, .load1 (.v 69), none, []⟩, ⟨some 71, .faddr 1 (.v 4), none, []⟩, ⟨some 72, .load1 (.v 71), none, []⟩, ⟨some 73, .bin .eql (.v 70) (.v 72), none, []⟩, ⟨some 74, .mv (.v 73), none, []⟩, ⟨some 75, .faddr 3 (.v 1), some (74, true), []⟩, ⟨some 76, .load1 (.v 75), some (74, true), []⟩, ⟨some 77, .mv (.v 5), some (74, true), []⟩, ⟨some 78, .iaddr 3 (.v 76) (.v 77), some (74, true), []⟩, ⟨some 79, .faddr 2 (.v 78), some (74, true), []⟩, ⟨some 80, .load1 (.v 79), some (74, true), []⟩, ⟨some 81, .faddr 2 (.v 4), some (74, true), []⟩, ⟨some 82, .load1 (.v 81), some (74, true), []⟩, ⟨some 83, .bin .eql (.v 80) (.v 82), some (74, true), []⟩, ⟨some 84, .pick (.v 74) (.v 83) (.c (.bool false)), none, []⟩] [1, 3, 4, 5, 84] [none, none, none, none, none, none, none, none, none, none, none, none, none, none, none, none, none, none, none, none])
def YI : SCode := (.seq (.seq (.rg [⟨some 60, .mv (.v 5), none, []⟩, ⟨some 61, .mv (.v 3), none, []⟩, ⟨some 62, .bin .lss (.v 60) (.v 61), none, [60, 61]⟩] [1, 3, 4, 5, 62]) (.cond (.v 62) .skip (.exit 2))) (.seq (.block 3 (.seq J9 (.cond (.v 84) (.seq (.rg [⟨some 2, .mv (.c (.bool false)), none, []⟩] [2]) .ret) .skip))) (.rg [⟨some 63, .mv (.v 5), none, [5]⟩, ⟨some 64, .binN .add (.v 63) (.c (.int .i64 1)), none, [63]⟩, ⟨some 5, .mv (.v 64), none, [64]⟩] [1, 3, 4, 5])))
def YJ : SCode := (.seq (.seq (.rg [⟨some 10, .mv (.v 3), none, []⟩, ⟨some 11, .faddr 3 (.v 1), none, []⟩, ⟨some 12, .load1 (.v 11), none, [11]⟩, ⟨some 13, .lenL (.v 12), none, [12]⟩, ⟨some 14, .bin .lss (.v 10) (.v 13), none, [10, 13]⟩] [1, 3, 14]) (.cond (.v 14) .skip (.exit 0))) (.seq (.block 1 (.seq (.rg [⟨some 17, .faddr 3 (.v 1), none, []⟩, ⟨some 18, .load1 (.v 17), none, [17]⟩, ⟨some 19, .mv (.v 3), none, []⟩, ⟨some 20, .iaddr 3 (.v 18) (.v 19), none, [18, 19]⟩, ⟨some 21, .loadN 3 (.v 20), none, [20]⟩, ⟨some 4, .alloc 104 [.str ⟨#[]⟩, .int .i64 0, .int .i64 0], none, []⟩, ⟨none, .store 3 (.v 4) (.v 21), none, [21]⟩] [1, 3, 4]) (.seq (.seq J8 (.cond (.v 59) (.seq (.rg [⟨some 2, .mv (.c (.bool false)), none, []⟩] [2]) .ret) .skip)) (.seq (.rg [⟨some 5, .mv (.c (.int .i64 0)), none, []⟩] [1, 3, 4, 5]) (.block 2 (.loop YI)))))) (.rg [⟨some 15, .mv (.v 3), none, [3]⟩, ⟨some 16, .binN .add (.v 15) (.c (.int .i64 1)), none, [15]⟩, ⟨some 3, .mv (.v 16), none, [16]⟩] [1, 3])))
/-- spec.l2PointsOk: function 66 -/
def GI : SFun := { n := 85, res := [.t 2], body := (.seq (.rg [⟨some 1, .box 101 (.v 0), none, [0]⟩, ⟨some 2, .mv (.c (.bool false)), none, [2]⟩] [1]) (.seq (.seq (.rg [⟨some 6, .faddr 3 (.v 1), none, []⟩, ⟨some 7, .load1 (.v 6), none, [6]⟩, ⟨some 8, .lenL (.v 7), none, [7]⟩, ⟨some 9, .bin .gtr (.v 8) (.c (.int .i64 16)), none, [8]⟩] [1, 9]) (.cond (.v 9) (.seq (.rg [⟨some 2, .mv (.c (.bool false)), none, []⟩] [2]) .ret) .skip)) (.seq (.seq (.rg [⟨some 3, .mv (.c (.int .i64 0)), none, []⟩] [1, 3]) (.block 0 (.loop YJ))) (.seq (.rg [⟨some 2, .mv (.c (.bool true)), none, []⟩] [2]) .ret)))) }
theorem UD : QY Go.Proofs.Tryd.prog 66 GI = true := by kernel_rfl
def JU : SCode := (.rgd [⟨some 23, .faddr 0 (.v 4), none, []⟩, ⟨some 24, .load1 (.v 23), none, []⟩, ⟨some 25, .call 82 [.v 24], none, []⟩, ⟨some 26, .not (.v 25), none, []⟩, ⟨some 27, .mv (.v 26), none, []⟩, ⟨some 28, .mv (.v 3), some (27, false), []⟩, ⟨some 29, .bin .gtr (.v 28) (.c (.int .i64 0)), some (27, false), []⟩, ⟨some 30, .mv (.v 29), some (27, false), []⟩, ⟨some 31, .faddr 4 (.v 1), some (30, true), []⟩, ⟨some 32, .load1 (.v 31), some (30, true), []⟩, ⟨some 33, .mv (.v 3), some (30, true), []⟩, ⟨some 34, .binN .sub (.v 33) (.c (.int .i64 1)), some (30, true), []⟩, ⟨some 35, .iaddr 2 (.v 32) (.v 34), some (30, true), []⟩, ⟨some 36, .faddr 0 (.v 35), some (30, true), []⟩, ⟨some 37, .load1 (.v 36), some (30, true), []⟩, ⟨some 38, .faddr 0 (.v 4), some (30, true), []⟩, ⟨some 39, .load1 (.v 38), some (30, true), []⟩, ⟨some 40, .bin .geq (.v 37) (.v 39), some (30, true), []⟩, ⟨some 41, .pick (.v 30) (.v 40) (.c (.bool false)), some (27, false), []⟩, ⟨some 42, .pick (.v 27) (.c (.bool true)) (.v 41), none, []⟩, ⟨some 43, .mv (.v 42), none, []⟩, ⟨some 44, .faddr 1 (.v 4), some (43, false), []⟩, ⟨some 45, .load1 (.v 44), some (43, false), []⟩, ⟨some 46, .lenL (.v 45), some (43, false), []⟩, ⟨some 47, .call 65 [.v 46, .c (.int .i64 2), .c (.int .i64 8)], some (43, false), []⟩, ⟨some 48, .not (.v 47), some (43, false), []⟩, ⟨some 49, .pick (.v 43) (.c (.bool true)) (.v 48), none, []⟩] [1, 3, 4, 49] [none, none, none, none, none, none, none, none, none, none, none, none, none, none, none, none, none, none, none, none, none, none, none, none, none, none, none])
def K7 : SCode := (.seq (.seq (.rg [⟨some 66, .mv (.v 6), none, []⟩, ⟨some 67, .mv (.v 5), none, []⟩, ⟨some 68, .bin .lss (.v 66) (.v 67), none, [66, 67]⟩] [1, 3, 4, 5, 6, 68]) (.cond (.v 68) .skip (.exit 4))) (.seq (.block 5 (.seq (.rgd [⟨some 71, .faddr 1 (.v 4), none, []⟩, ⟨some 72, .load1 (.v 71), none, []⟩, ⟨some 73, .mv (.v 6), none, []⟩, ⟨some 74, .iaddr 1 (.v 72) (.v 73), none, []⟩, ⟨some 75, .load1 (.v 74), none, []⟩, ⟨some 76, .faddr 1 (.v 4), none, []⟩, ⟨some 77, .load1 (.v 76), none, []⟩, ⟨some 78, .mv (.v 5), none, []⟩, ⟨some 79, .iaddr 1 (.v 77) (.v 78), none, []⟩, ⟨some 80, .load1 (.v 79), none, []⟩, ⟨some 81, .bin .eql (.v 75) (.v 80), none, []⟩] [1, 3, 4, 5, 6, 81] [none, none, none, none, none, none, none, none, none, none, none]) (.cond (.v 81) (.seq (.rg [⟨some 2, .mv (.c (.bool false)), none, []⟩] [2]) .ret) .skip))) (.rg [⟨some 69, .mv (.v 6), none, [6]⟩, ⟨some 70, .binN .add (.v 69) (.c (.int .i64 1)), none, [69]⟩, ⟨some 6, .mv (.v 70), none, [70]⟩] [1, 3, 4, 5, 6])))
def K8 : SCode := (.seq (.seq (.rg [⟨some 50, .mv (.v 5), none, []⟩, ⟨some 51, .faddr 1 (.v 4), none, []⟩, ⟨some 52, .load1 (.v 51), none, [51]⟩, ⟨some 53, .lenL (.v 52), none, [52]⟩, ⟨some 54, .bin .lss (.v 50) (.v 53), none, [50, 53]⟩] [1, 3, 4, 5, 54]) (.cond (.v 54) .skip (.exit 2))) (.seq (.block 3 (.seq (.seq (.rgd [⟨some 57, .faddr 3 (.v 1), none, []⟩, ⟨some 58, .load1 (.v 57), none, []⟩, ⟨some 59, .faddr 1 (.v 4), none, []⟩, ⟨some 60, .load1 (.v 59), none, []⟩, ⟨some 61, .mv (.v 5), none, []⟩, ⟨some 62, .iaddr 1 (.v 60) (.v 61), none, []⟩, ⟨some 63, .load1 (.v 62), none, []⟩, ⟨some 64, .call 71 [.v 58, .v 63], none, []⟩, ⟨some 65, .bin .lss (.v 64) (.c (.int .i64 0)), none, []⟩] [1, 3, 4, 5, 65] [none, none, none, none, none, none, none, none, none]) (.cond (.v 65) (.seq (.rg [⟨some 2, .mv (.c (.bool false)), none, []⟩] [2]) .ret) .skip)) (.seq (.rg [⟨some 6, .mv (.c (.int .i64 0)), none, []⟩] [1, 3, 4, 5, 6]) (.block 4 (.loop K7))))) (.rg [⟨some 55, .mv (.v 5), none, [5]⟩, ⟨some 56, .binN .add (.v 55) (.c (.int .i64 1)), none, [55]⟩, ⟨some 5, .mv (.v 56), none, [56]⟩] [1, 3, 4, 5])))
def K9 : SCode := (.seq (.seq (.rg [⟨some 11, .mv (.v 3), none, []⟩, ⟨some 12, .faddr 4 (.v 1), none, []⟩, ⟨some 13, .load1 (.v 12), none, [12]⟩, ⟨some 14, .lenL (.v 13), none, [13]⟩, ⟨some 15, .bin .lss (.v 11) (.v 14), none, [11, 14]⟩] [1, 3, 15]) (.cond (.v 15) .skip (.exit 0))) (.seq (.block 1 (.seq (.rg [⟨some 18, .faddr 4 (.v 1), none, []⟩, ⟨some 19, .load1 (.v 18), none, [18]⟩, ⟨some 20, .mv (.v 3), none, []⟩, ⟨some 21, .iaddr 2 (.v 19) (.v 20), none, [19, 20]⟩, ⟨some 22, .loadN 2 (.v 21), none, [21]⟩, ⟨some 4, .alloc 104 [.str ⟨#[]⟩, .sl 0 1 []], none, []⟩, ⟨none, .store 2 (.v 4) (.v 22), none, [22]⟩] [1, 3, 4]) (.seq (.seq JU (.cond (.v 49) (.seq (.rg [⟨some 2, .mv (.c (.bool false)), none, []⟩] [2]) .ret) .skip)) (.seq (.rg [⟨some 5, .mv (.c (.int .i64 0)), none, []⟩] [1, 3, 4, 5]) (.block 2 (.loop K8)))))) (.rg [⟨some 16, .mv (.v 3), none, [3]⟩, ⟨some 17, .binN .add (.v 16) (.c (.int .i64 1)), none, [16]⟩, ⟨some 3, .mv (.v 17), none, [17]⟩] [1, 3])))
/-- spec.l2AirwaysOk: function 67 -/
def Y7 : SFun := { n := 82, res := [.t 2], body := (.seq (.rg [⟨some 1, .box 101 (.v 0), none, [0]⟩, ⟨some 2, .mv (.c (.bool false)), none, [2]⟩] [1]) (.seq (.seq (.rg [⟨some 7, .faddr 4 (.v 1), none, []⟩, ⟨some 8, .load1 (.v 7), none, [7]⟩, ⟨some 9, .lenL (.v 8), none, [8]⟩, ⟨some 10, .bin .gtr (.v 9) (.c (.int .i64 8)), none, [9]⟩] [1, 10]) (.cond (.v 10) (.seq (.rg [⟨some 2, .mv (.c (.bool false)), none, []⟩] [2]) .ret) .skip)) (.seq (.seq (.rg [⟨some 3, .mv (.c (.int .i64 0)), none, []⟩] [1, 3]) (.block 0 (.loop K9))) (.seq (.rg [⟨some 2, .mv (.c (.bool true)), none, []⟩] [2]) .ret)))) }
theorem Z5 : QY Go.Proofs.Tryd.prog 67 Y7 = true := by kernel_rfl
def JV : SCode := (.rgd [⟨some 22, .faddr 0 (.v 4), none, []⟩, ⟨some 23, .load1 (.v 22), none, []⟩, ⟨some 24, .call 82 [.v 23], none, []⟩, ⟨some 25, .not (.v 24), none, []⟩, ⟨some 26, .mv (.v 25), none, []⟩, ⟨some 27, .mv (.v 3), some (26, false), []⟩, ⟨some 28, .bin .gtr (.v 27) (.c (.int .i64 0)), some (26, false), []⟩, ⟨some 29, .mv (.v 28), some (26, false), []⟩, ⟨some 30, .faddr 5 (.v 1), some (29, true), []⟩, ⟨some 31, .load1 (.v 30), some (29, true), []⟩, ⟨some 32, .mv (.v 3), some (29, true), []⟩, ⟨some 33, .binN .sub (.v 32) (.c (.int .i64 1)), some (29, true), []⟩, ⟨some 34, .iaddr 2 (.v 31) (.v 33), some (29, true), []⟩, ⟨some 35, .faddr 0 (.v 34), some (29, true), []⟩, ⟨some 36, .load1 (.v 35), some (29, true), []⟩, ⟨some 37, .faddr 0 (.v 4), some (29, true), []⟩, ⟨some 38, .load1 (.v 37), some (29, true), []⟩, ⟨some 39, .bin .geq (.v 36) (.v 38), some (29, true), []⟩, ⟨some 40, .pick (.v 29) (.v 39) (.c (.bool false)), some (26, false), []⟩, ⟨some 41, .pick (.v 26) (.c (.bool true)) (.v 40), none, []⟩, ⟨some 42, .mv (.v 41), none, []⟩, ⟨some 43, .faddr 1 (.v 4), some (42, false), []⟩, ⟨some 44, .load1 (.v 43), some (42, false), []⟩, ⟨some 45, .lenL (.v 44), some (42, false), []⟩, ⟨some 46, .call 65 [.v 45, .c (.int .i64 1), .c (.int .i64 4)], some (42, false), []⟩, ⟨some 47, .not (.v 46), some (42, false), []⟩, ⟨some 48, .pick (.v 42) (.c (.bool true)) (.v 47), none, []⟩] [1, 3, 4, 48] [none, none, none, none, none, none, none, none, none, none, none, none, none, none, none, none, none, none, none, none, none, none, none, none, none, none, none])
def JW : SCode := (.rgd [⟨some 56, .loadN 7 (.v 1), none, []⟩, ⟨some 57, .faddr 1 (.v 4), none, []⟩, ⟨some 58, .load1 (.v 57), none, []⟩, ⟨some 59, .mv (.v 5), none, []⟩, ⟨some 60, .iaddr 6 (.v 58) (.v 59), none, []⟩, ⟨some 61, .loadN 6 (.v 60), none, []⟩, ⟨some 62, .call 83 [.v 56, .v 61], none, []⟩, ⟨some 63, .not (.v 62), none, []⟩, ⟨some 64, .mv (.v 63), none, []⟩, ⟨some 65, .mv (.v 5), some (64, false), []⟩, ⟨some 66, .bin .gtr (.v 65) (.c (.int .i64 0)), some (64, false), []⟩, ⟨some 67, .mv (.v 66), some (64, false), []⟩, ⟨some 68, .faddr 1 (.v 4), some (67, true), []⟩, ⟨some 69, .load1 (.v 68), some (67, true), []⟩, ⟨some 70, .mv (.v 5), some (67, true), []⟩, ⟨some 71, .binN .sub (.v 70) (.c (.int .i64 1)), some (67, true), []⟩, ⟨some 72, .iaddr 6 (.v 69) (.v 71), some (67, true), []⟩, ⟨some 73, .loadN 6 (.v 72), some (67, true), []⟩, ⟨some 74, .faddr 1 (.v 4), some (67, true), []⟩, ⟨some 75, .load1 (.v 74), some (67, true), []⟩, ⟨some 76, .mv (.v 5), some (67, true), []⟩, ⟨some 77, .iaddr 6 (.v 75) (.v 76), some (67, true), []⟩, ⟨some 78, .loadN 6 (.v 77), some (67, true), []⟩, ⟨some 79, .call 84 [.v 73, .v 78], some (67, true), []⟩, ⟨some 80, .not (.v 79), some (67, true), []⟩, ⟨some 81, .pick (.v 67) (.v 80) (.c (.bool false)), some (64, false), []⟩, ⟨some 82, .pick (.v 64) (.c (.bool true)) (.v 81), none, []⟩] [1, 3, 4, 5, 82] [none, none, none, none, none, none, none, none, none, none, none, none, none, none, none, none, none, none, none, none, none, none, none, none, none, none, none])
def Ya : SCode := (.seq (.seq (.rg [⟨some 49, .mv (.v 5), none, []⟩, ⟨some 50, .faddr 1 (.v 4), none, []⟩, ⟨some 51, .load1 (.v 50), none, [50]⟩, ⟨some 52, .lenL (.v 51), none, [51]⟩, ⟨some 53, .bin .lss (.v 49) (.v 52), none, [49, 52]⟩] [1, 3, 4, 5, 53]) (.cond (.v 53) .skip (.exit 2))) (.seq (.block 3 (.seq JW (.cond (.v 82) (.seq (.rg [⟨some 2, .mv (.c (.bool false)), none, []⟩] [2]) .ret) .skip))) (.rg [⟨some 54, .mv (.v 5), none, [5]⟩, ⟨some 55, .binN .add (.v 54) (.c (.int .i64 1)), none, [54]⟩, ⟨some 5, .mv (.v 55), none, [55]⟩] [1, 3, 4, 5])))
def Yb : SCode := (.seq (.seq (.rg [⟨some 10, .mv (.v 3), none, []⟩, ⟨some 11, .faddr 5 (.v 1), none, []⟩, ⟨some 12, .load1 (.v 11), none, [11]⟩, ⟨some 13, .lenL (.v 12), none, [12]⟩, ⟨some 14, .bin .lss (.v 10) (.v 13), none, [10, 13]⟩] [1, 3, 14]) (.cond (.v 14) .skip (.exit 0))) (.seq (.block 1 (.seq (.rg [⟨some 17, .faddr 5 (.v 1), none, []⟩, ⟨some 18, .load1 (.v 17), none, [17]⟩, ⟨some 19, .mv (.v 3), none, []⟩, ⟨some 20, .iaddr 2 (.v 18) (.v 19), none, [18, 19]⟩, ⟨some 21, .loadN 2 (.v 20), none, [20]⟩, ⟨some 4, .alloc 104 [.str ⟨#[]⟩, .sl 0 6 []], none, []⟩, ⟨none, .store 2 (.v 4) (.v 21), none, [21]⟩] [1, 3, 4]) (.seq (.seq JV (.cond (.v 48) (.seq (.rg [⟨some 2, .mv (.c (.bool false)), none, []⟩] [2]) .ret) .skip)) (.seq (.rg [⟨some 5, .mv (.c (.int .i64 0)), none, []⟩] [1, 3, 4, 5]) (.block 2 (.loop Ya)))))) (.rg [⟨some 15, .mv (.v 3), none, [3]⟩, ⟨some 16, .binN .add (.v 15) (.c (.int .i64 1)), none, [15]⟩, ⟨some 3, .mv (.v 16), none, [16]⟩] [1, 3])))
/-- spec.l2SectorsOk: function 68 -/
def Y8 : SFun := { n := 83, res := [.t 2], body := (.seq (.rg [⟨some 1, .box 101 (.v 0), none, [0]⟩, ⟨some 2, .mv (.c (.bool false)), none, [2]⟩] [1]) (.seq (.seq (.rg [⟨some 6, .faddr 5 (.v 1), none, []⟩, ⟨some 7, .load1 (.v 6), none, [6]⟩, ⟨some 8, .lenL (.v 7), none, [7]⟩, ⟨some 9, .bin .gtr (.v 8) (.c (.int .i64 6)), none, [8]⟩] [1, 9]) (.cond (.v 9) (.seq (.rg [⟨some 2, .mv (.c (.bool false)), none, []⟩] [2]) .ret) .skip)) (.seq (.seq (.rg [⟨some 3, .mv (.c (.int .i64 0)), none, []⟩] [1, 3]) (.block 0 (.loop Yb))) (.seq (.rg [⟨some 2, .mv (.c (.bool true)), none, []⟩] [2]) .ret)))) }
theorem Z6 : QY Go.Proofs.Tryd.prog 68 Y8 = true := by kernel_rfl
def GJ : SCode := (.seq (.seq (.rg [⟨some 42, .mv (.v 7), none, []⟩, ⟨some 43, .mv (.v 5), none, []⟩, ⟨some 44, .bin .lss (.v 42) (.v 43), none, [42, 43]⟩] [1, 3, 4, 5, 6, 7, 44]) (.cond (.v 44) .skip (.exit 2))) (.seq (.block 3 (.seq (.rgd [⟨some 47, .mv (.v 3), none, []⟩, ⟨some 48, .mv (.v 7), none, []⟩, ⟨some 49, .iaddr 6 (.v 47) (.v 48), none, []⟩, ⟨some 50, .loadN 6 (.v 49), none, []⟩, ⟨some 51, .loadN 6 (.v 6), none, []⟩, ⟨some 52, .call 86 [.v 50, .v 51], none, []⟩] [1, 3, 4, 5, 6, 7, 52] [none, none, none, none, none, none]) (.cond (.v 52) (.seq (.rg [⟨some 2, .mv (.c (.bool false)), none, []⟩] [2]) .ret) .skip))) (.rg [⟨some 45, .mv (.v 7), none, [7]⟩, ⟨some 46, .binN .add (.v 45) (.c (.int .i64 1)), none, [45]⟩, ⟨some 7, .mv (.v 46), none, [46]⟩] [1, 3, 4, 5, 6, 7])))
def GK : SCode := (.seq (.seq (.rg [⟨some 10, .mv (.v 5), none, []⟩, ⟨some 11, .mv (.v 3), none, []⟩, ⟨some 12, .lenL (.v 11), none, [11]⟩, ⟨some 13, .bin .lss (.v 10) (.v 12), none, [10, 12]⟩] [1, 3, 4, 5, 13]) (.cond (.v 13) .skip (.exit 0))) (.seq (.block 1 (.seq (.rg [⟨some 16, .mv (.v 3), none, []⟩, ⟨some 17, .mv (.v 5), none, []⟩, ⟨some 18, .iaddr 6 (.v 16) (.v 17), none, [16, 17]⟩, ⟨some 19, .loadN 6 (.v 18), none, [18]⟩, ⟨some 6, .alloc 106 [.int .i64 0, .int .i64 0, .int .i64 0, .int .i64 0, .int .i64 0, .int .i64 0], none, []⟩, ⟨none, .store 6 (.v 6) (.v 19), none, [19]⟩] [1, 3, 4, 5, 6]) (.seq (.rg [⟨some 20, .mv (.v 4), none, [4]⟩, ⟨some 21, .faddr 2 (.v 6), none, []⟩, ⟨some 22, .load1 (.v 21), none, [21]⟩, ⟨some 23, .faddr 0 (.v 6), none, []⟩, ⟨some 24, .load1 (.v 23), none, [23]⟩, ⟨some 25, .binN .sub (.v 22) (.v 24), none, [22, 24]⟩, ⟨some 26, .binN .add (.v 25) (.c (.int .i64 1)), none, [25]⟩, ⟨some 27, .faddr 3 (.v 6), none, []⟩, ⟨some 28, .load1 (.v 27), none, [27]⟩, ⟨some 29, .faddr 1 (.v 6), none, []⟩, ⟨some 30, .load1 (.v 29), none, [29]⟩, ⟨some 31, .binN .sub (.v 28) (.v 30), none, [28, 30]⟩, ⟨some 32, .binN .add (.v 31) (.c (.int .i64 1)), none, [31]⟩, ⟨some 33, .binN .mul (.v 26) (.v 32), none, [26, 32]⟩, ⟨some 34, .faddr 5 (.v 6), none, []⟩, ⟨some 35, .load1 (.v 34), none, [34]⟩, ⟨some 36, .faddr 4 (.v 6), none, []⟩, ⟨some 37, .load1 (.v 36), none, [36]⟩, ⟨some 38, .binN .sub (.v 35) (.v 37), none, [35, 37]⟩, ⟨some 39, .binN .add (.v 38) (.c (.int .i64 1)), none, [38]⟩, ⟨some 40, .binN .mul (.v 33) (.v 39), none, [33, 39]⟩, ⟨some 41, .binN .add (.v 20) (.v 40), none, [20, 40]⟩, ⟨some 4, .mv (.v 41), none, [41]⟩] [1, 3, 4, 5, 6]) (.seq (.rg [⟨some 7, .mv (.c (.int .i64 0)), none, []⟩] [1, 3, 4, 5, 6, 7]) (.block 2 (.loop GJ)))))) (.rg [⟨some 14, .mv (.v 5), none, [5]⟩, ⟨some 15, .binN .add (.v 14) (.c (.int .i64 1)), none, [14]⟩, ⟨some 5, .mv (.v 15), none, [15]⟩] [1, 3, 4, 5])))
/-- spec.l2Covers: function 69 -/
def Xz : SFun := { n := 63, res := [.t 2], body := (.seq (.rg [⟨some 1, .box 101 (.v 0), none, [0]⟩, ⟨some 2, .mv (.c (.bool false)), none, [2]⟩] [1]) (.seq (.rg [⟨some 8, .loadN 7 (.v 1), none, []⟩, ⟨some 9, .call 85 [.v 8], none, [8]⟩, ⟨some 3, .mv (.v 9), none, [9]⟩] [1, 3]) (.seq (.rg [⟨some 4, .mv (.c (.int .i64 0)), none, []⟩] [1, 3, 4]) (.seq (.seq (.rg [⟨some 5, .mv (.c (.int .i64 0)), none, []⟩] [1, 3, 4, 5]) (.block 0 (.loop GK))) (.seq (.rg [⟨some 53, .mv (.v 4), none, [4]⟩, ⟨some 54, .faddr 0 (.v 1), none, []⟩, ⟨some 55, .load1 (.v 54), none, [54]⟩, ⟨some 56, .faddr 1 (.v 1), none, []⟩, ⟨some 57, .load1 (.v 56), none, [56]⟩, ⟨some 58, .binN .mul (.v 55) (.v 57), none, [55, 57]⟩, ⟨some 59, .faddr 2 (.v 1), none, [1]⟩, ⟨some 60, .load1 (.v 59), none, [59]⟩, ⟨some 61, .binN .mul (.v 58) (.v 60), none, [58, 60]⟩, ⟨some 62, .bin .eql (.v 53) (.v 61), none, [53, 61]⟩, ⟨some 2, .mv (.v 62), none, [62]⟩] [2]) .ret))))) }
theorem Wf : QY Go.Proofs.Tryd.prog 69 Xz = true := by kernel_rfl
def JX : SCode := (.rgd [⟨some 22, .faddr 0 (.v 4), none, []⟩, ⟨some 23, .load1 (.v 22), none, []⟩, ⟨some 24, .call 82 [.v 23], none, []⟩, ⟨some 25, .not (.v 24), none, []⟩, ⟨some 26, .mv (.v 25), none, []⟩, ⟨some 27, .mv (.v 3), some (26, false), []⟩, ⟨some 28, .bin .gtr (.v 27) (.c (.int .i64 0)), some (26, false), []⟩, ⟨some 29, .mv (.v 28), some (26, false), []⟩, ⟨some 30, .faddr 6 (.v 1), some (29, true), []⟩, ⟨some 31, .load1 (.v 30), some (29, true), []⟩, ⟨some 32, .mv (.v 3), some (29, true), []⟩, ⟨some 33, .binN .sub (.v 32) (.c (.int .i64 1)), some (29, true), []⟩, ⟨some 34, .iaddr 4 (.v 31) (.v 33), some (29, true), []⟩, ⟨some 35, .faddr 0 (.v 34), some (29, true), []⟩, ⟨some 36, .load1 (.v 35), some (29, true), []⟩, ⟨some 37, .faddr 0 (.v 4), some (29, true), []⟩, ⟨some 38, .load1 (.v 37), some (29, true), []⟩, ⟨some 39, .bin .geq (.v 36) (.v 38), some (29, true), []⟩, ⟨some 40, .pick (.v 29) (.v 39) (.c (.bool false)), some (26, false), []⟩, ⟨some 41, .pick (.v 26) (.c (.bool true)) (.v 40), none, []⟩, ⟨some 42, .mv (.v 41), none, []⟩, ⟨some 43, .faddr 1 (.v 4), some (42, false), []⟩, ⟨some 44, .load1 (.v 43), some (42, false), []⟩, ⟨some 45, .faddr 0 (.v 1), some (42, false), []⟩, ⟨some 46, .load1 (.v 45), some (42, false), []⟩, ⟨some 47, .binN .sub (.v 46) (.c (.int .i64 1)), some (42, false), []⟩, ⟨some 48, .call 65 [.v 44, .c (.int .i64 0), .v 47], some (42, false), []⟩, ⟨some 49, .not (.v 48), some (42, false), []⟩, ⟨some 50, .pick (.v 42) (.c (.bool true)) (.v 49), none, []⟩, ⟨some 51, .mv (.v 50), none, []⟩, ⟨some 52, .faddr 2 (.v 4), some (51, false), []⟩, ⟨some 53, .load1 (.v 52), some (51, false), []⟩, ⟨some 54, .faddr 1 (.v 1), some (51, false), []⟩, ⟨some 55, .load1 (.v 54), some (51, false), []⟩, ⟨some 56, .binN .sub (.v 55) (.c (.int .i64 1)), some (51, false), []⟩, ⟨some 57, .call 65 [.v 53, .c (.int .i64 0), .v 56], some (51, false), []⟩, ⟨some 58, .not (.v 57), some (51, false), []⟩, ⟨some 59, .pick (.v 51) (.c (.bool true)) (.v 58), none, []⟩, ⟨some 60, .mv (.v 59), none, []⟩, ⟨some 61, .faddr 3 (.v 4), some (60, false), []⟩, ⟨some 62, .load1 (.v 61), some (60, false), []⟩, ⟨some 63, .call 65 [.v 62, .c (.int .i64 1), .c (.int .i64 8)], some (60, false), []⟩, ⟨some 64, .not (.v 63), some (60, false), []⟩, ⟨some 65, .pick (.v 60) (.c (.bool true)) (.v 64), none, []⟩] [1, 3, 4, 65] [none, none, none, none, none, none, none, none, none, none, none, none, none, none, none, none, none, none, none, none, none, none, none, none, none, none, none, none, none, none, none, none, none, none, none, none, none, none, none, none, none, none, none, none])
def JY : SCode := (.rgd [⟨some 66, .faddr 1 (.v 4), none, []⟩, ⟨some 67, .load1 (.v 66), none, []⟩, ⟨some 68, .faddr 3 (.v 4), none, []⟩, ⟨some 69, .load1 (.v 68), none, []⟩, ⟨some 70, .call 87 [.v 69], none, []⟩, ⟨some 71, .binN .sub (.v 67) (.v 70), none, []⟩, ⟨some 72, .faddr 0 (.v 1), none, []⟩, ⟨some 73, .load1 (.v 72), none, []⟩, ⟨some 74, .binN .sub (.v 73) (.c (.int .i64 1)), none, []⟩, ⟨some 75, .call 65 [.v 71, .c (.int .i64 0), .v 74], none, []⟩, ⟨some 76, .not (.v 75), none, []⟩, ⟨some 77, .mv (.v 76), none, []⟩, ⟨some 78, .faddr 2 (.v 4), some (77, false), []⟩, ⟨some 79, .load1 (.v 78), some (77, false), []⟩, ⟨some 80, .faddr 3 (.v 4), some (77, false), []⟩, ⟨some 81, .load1 (.v 80), some (77, false), []⟩, ⟨some 82, .call 88 [.v 81], some (77, false), []⟩, ⟨some 83, .binN .sub (.v 79) (.v 82), some (77, false), []⟩, ⟨some 84, .faddr 1 (.v 1), some (77, false), []⟩, ⟨some 85, .load1 (.v 84), some (77, false), []⟩, ⟨some 86, .binN .sub (.v 85) (.c (.int .i64 1)), some (77, false), []⟩, ⟨some 87, .call 65 [.v 83, .c (.int .i64 0), .v 86], some (77, false), []⟩, ⟨some 88, .not (.v 87), some (77, false), []⟩, ⟨some 89, .pick (.v 77) (.c (.bool true)) (.v 88), none, []⟩] [1, 3, 4, 89] [some [], some [], none, none, some [3, 2], none, some [1], some [2], none, none, none, none, some [], some [], none, none, some [3, 2], none, some [1], some [2], none, none, none, none])
def JZ : SCode := (.rgd [⟨some 95, .faddr 6 (.v 1), none, []⟩, ⟨some 96, .load1 (.v 95), none, []⟩, ⟨some 97, .mv (.v 5), none, []⟩, ⟨some 98, .iaddr 4 (.v 96) (.v 97), none, []⟩, ⟨some 99, .faddr 1 (.v 98), none, []⟩, ⟨some 100, .load1 (.v 99), none, []⟩, ⟨some 101, .faddr 1 (.v 4), none, []⟩, ⟨some 102, .load1 (.v 101), none, []⟩, ⟨some 103, .bin .eql (.v 100) (.v 102), none, []⟩, ⟨some 104, .mv (.v 103), none, []⟩, ⟨some 105, .faddr 6 (.v 1), some (104, true), []⟩, ⟨some 106, .load1 (.v 105), some (104, true), []⟩, ⟨some 107, .mv (.v 5), some (104, true), []⟩, ⟨some 108, .iaddr 4 (.v 106) (.v 107), some (104, true), []⟩, ⟨some 109, .faddr 2 (.v 108), some (104, true), []⟩, ⟨some 110, .load1 (.v 109), some (104, true), []⟩, ⟨some 111, .faddr 2 (.v 4), some (104, true), []⟩, ⟨some 112, .load1 (.v 111), some (104, true), []⟩, ⟨some 113, .bin .eql (.v 110) (.v 112), some (104, true), []⟩, ⟨some 114, .pick (.v 104) (.v 113) (.c (.bool false)), none, []⟩] [1, 3, 4, 5, 114] [none, none, none, none, none, none, none, none, none, none, none, none, none, none, none, none, none, none, none, none])
def Yc : SCode := (.seq (.seq (.rg [⟨some 90, .mv (.v 5), none, []⟩, ⟨some 91, .mv (.v 3), none, []⟩, ⟨some 92, .bin .lss (.v 90) (.v 91), none, [90, 91]⟩] [1, 3, 4, 5, 92]) (.cond (.v 92) .skip (.exit 2))) (.seq (.block 3 (.seq JZ (.cond (.v 114) (.seq (.rg [⟨some 2, .mv (.c (.bool false)), none, []⟩] [2]) .ret) .skip))) (.rg [⟨some 93, .mv (.v 5), none, [5]⟩, ⟨some 94, .binN .add (.v 93) (.c (.int .i64 1)), none, [93]⟩, ⟨some 5, .mv (.v 94), none, [94]⟩] [1, 3, 4, 5])))
def Yd : SCode := (.seq (.seq (.rg [⟨some 10, .mv (.v 3), none, []⟩, ⟨some 11, .faddr 6 (.v 1), none, []⟩, ⟨some 12, .load1 (.v 11), none, [11]⟩, ⟨some 13, .lenL (.v 12), none, [12]⟩, ⟨some 14, .bin .lss (.v 10) (.v 13), none, [10, 13]⟩] [1, 3, 14]) (.cond (.v 14) .skip (.exit 0))) (.seq (.block 1 (.seq (.rg [⟨some 17, .faddr 6 (.v 1), none, []⟩, ⟨some 18, .load1 (.v 17), none, [17]⟩, ⟨some 19, .mv (.v 3), none, []⟩, ⟨some 20, .iaddr 4 (.v 18) (.v 19), none, [18, 19]⟩, ⟨some 21, .loadN 4 (.v 20), none, [20]⟩, ⟨some 4, .alloc 104 [.str ⟨#[]⟩, .int .i64 0, .int .i64 0, .int .i64 0], none, []⟩, ⟨none, .store 4 (.v 4) (.v 21), none, [21]⟩] [1, 3, 4]) (.seq (.seq JX (.cond (.v 65) (.seq (.rg [⟨some 2, .mv (.c (.bool false)), none, []⟩] [2]) .ret) .skip)) (.seq (.seq JY (.cond (.v 89) (.seq (.rg [⟨some 2, .mv (.c (.bool false)), none, []⟩] [2]) .ret) .skip)) (.seq (.rg [⟨some 5, .mv (.c (.int .i64 0)), none, []⟩] [1, 3, 4, 5]) (.block 2 (.loop Yc))))))) (.rg [⟨some 15, .mv (.v 3), none, [3]⟩, ⟨some 16, .binN .add (.v 15) (.c (.int .i64 1)), none, [15]⟩, ⟨some 3, .mv (.v 16), none, [16]⟩] [1, 3])))
/-- spec.l2RunwaysOk: function 70 -/
def Y9 : SFun := { n := 115, res := [.t 2], body := (.seq (.rg [⟨some 1, .box 101 (.v 0), none, [0]⟩, ⟨some 2, .mv (.c (.bool false)), none, [2]⟩] [1]) (.seq (.seq (.rg [⟨some 6, .faddr 6 (.v 1), none, []⟩, ⟨some 7, .load1 (.v 6), none, [6]⟩, ⟨some 8, .lenL (.v 7), none, [7]⟩, ⟨some 9, .bin .gtr (.v 8) (.c (.int .i64 4)), none, [8]⟩] [1, 9]) (.cond (.v 9) (.seq (.rg [⟨some 2, .mv (.c (.bool false)), none, []⟩] [2]) .ret) .skip)) (.seq (.seq (.rg [⟨some 3, .mv (.c (.int .i64 0)), none, []⟩] [1, 3]) (.block 0 (.loop Yd))) (.seq (.rg [⟨some 2, .mv (.c (.bool true)), none, []⟩] [2]) .ret)))) }
theorem Z7 : QY Go.Proofs.Tryd.prog 70 Y9 = true := by kernel_rfl
end Go.Ve

namespace Go.Ve
open Go.Proofs
set_option maxRecDepth 100000
def Xa : SCode := (.seq (.seq (.rg [⟨some 6, .mv (.v 5), none, []⟩, ⟨some 7, .mv (.v 0), none, []⟩, ⟨some 8, .lenL (.v 7), none, [7]⟩, ⟨some 9, .bin .lss (.v 6) (.v 8), none, [6, 8]⟩] [0, 1, 5, 9]) (.cond (.v 9) .skip (.exit 0))) (.seq (.block 1 (.seq (.rg [⟨some 12, .mv (.v 0), none, []⟩, ⟨some 13, .mv (.v 5), none, []⟩, ⟨some 14, .iaddr 3 (.v 12) (.v 13), none, [12, 13]⟩, ⟨some 15, .faddr 0 (.v 14), none, [14]⟩, ⟨some 16, .load1 (.v 15), none, [15]⟩, ⟨some 17, .mv (.v 1), none, []⟩, ⟨some 18, .bin .eql (.v 16) (.v 17), none, [16, 17]⟩] [0, 1, 5, 18]) (.cond (.v 18) (.seq (.rg [⟨some 19, .mv (.v 5), none, [5]⟩, ⟨some 4, .mv (.v 19), none, [19]⟩] [4]) .ret) .skip))) (.rg [⟨some 10, .mv (.v 5), none, [5]⟩, ⟨some 11, .binN .add (.v 10) (.c (.int .i64 1)), none, [10]⟩, ⟨some 5, .mv (.v 11), none, [11]⟩] [0, 1, 5])))
/-- spec.l2Point: function 71 -/
def X4 : SFun := { n := 20, res := [.t 4], body := (.seq (.rg [⟨some 4, .mv (.c (.int .i64 0)), none, [4]⟩] [0, 1]) (.seq (.seq (.rg [⟨some 5, .mv (.c (.int .i64 0)), none, []⟩] [0, 1, 5]) (.block 0 (.loop Xa))) (.seq (.rg [⟨some 4, .mv (.c (.int .i64 (-1))), none, []⟩] [4]) .ret))) }
theorem WF : QY Go.Proofs.Tryd.prog 71 X4 = true := by kernel_rfl
def Ga : SCode := (.seq (.seq (.rg [⟨some 12, .mv (.v 5), none, []⟩, ⟨some 13, .mv (.v 0), none, []⟩, ⟨some 14, .lenL (.v 13), none, [13]⟩, ⟨some 15, .bin .lss (.v 12) (.v 14), none, [12, 14]⟩] [0, 1, 5, 15]) (.cond (.v 15) .skip (.exit 0))) (.seq (.block 1 (.seq (.rg [⟨some 18, .mv (.v 1), none, [1]⟩, ⟨some 19, .mv (.v 0), none, []⟩, ⟨some 20, .mv (.v 5), none, []⟩, ⟨some 21, .iaddr 1 (.v 19) (.v 20), none, [19, 20]⟩, ⟨some 22, .load1 (.v 21), none, [21]⟩, ⟨some 23, .lenS (.v 22), none, [22]⟩, ⟨some 24, .binN .sub (.v 18) (.v 23), none, [18, 23]⟩, ⟨some 1, .mv (.v 24), none, [24]⟩] [0, 1, 5]) (.seq (.rg [⟨some 25, .mv (.v 1), none, []⟩, ⟨some 26, .bin .lss (.v 25) (.c (.int .i64 0)), none, [25]⟩] [0, 1, 5, 26]) (.cond (.v 26) (.seq (.rg [⟨some 4, .mv (.c (.int .i64 (-1))), none, []⟩] [4]) .ret) .skip)))) (.rg [⟨some 16, .mv (.v 5), none, [5]⟩, ⟨some 17, .binN .add (.v 16) (.c (.int .i64 1)), none, [16]⟩, ⟨some 5, .mv (.v 17), none, [17]⟩] [0, 1, 5])))
/-- laws.szStringS: function 74 -/
def Xb : SFun := { n := 28, res := [.t 4], body := (.seq (.rg [⟨some 4, .mv (.c (.int .i64 0)), none, [4]⟩] [0, 1]) (.seq (.rg [⟨some 6, .mv (.v 1), none, [1]⟩, ⟨some 7, .mv (.v 0), none, []⟩, ⟨some 8, .lenL (.v 7), none, [7]⟩, ⟨some 9, .binN .sub (.v 6) (.v 8), none, [6, 8]⟩, ⟨some 1, .mv (.v 9), none, [9]⟩] [0, 1]) (.seq (.seq (.rg [⟨some 10, .mv (.v 1), none, []⟩, ⟨some 11, .bin .lss (.v 10) (.c (.int .i64 0)), none, [10]⟩] [0, 1, 11]) (.cond (.v 11) (.seq (.rg [⟨some 4, .mv (.c (.int .i64 (-1))), none, []⟩] [4]) .ret) .skip)) (.seq (.seq (.rg [⟨some 5, .mv (.c (.int .i64 0)), none, []⟩] [0, 1, 5]) (.block 0 (.loop Ga))) (.seq (.rg [⟨some 27, .mv (.v 1), none, [1]⟩, ⟨some 4, .mv (.v 27), none, [27]⟩] [4]) .ret))))) }
theorem U8 : QY Go.Proofs.Tryd.prog 74 Xb = true := by kernel_rfl
/-- laws.szSkyBlockS: function 75 -/
def Gb : SFun := { n := 12, res := [.t 4], body := (.seq (.rg [⟨some 4, .mv (.c (.int .i64 0)), none, [4]⟩] [0, 1]) (.seq (.rg [⟨some 5, .mv (.v 1), none, [1]⟩, ⟨some 6, .mv (.v 0), none, [0]⟩, ⟨some 7, .lenL (.v 6), none, [6]⟩, ⟨some 8, .binN .sub (.v 5) (.v 7), none, [5, 7]⟩, ⟨some 1, .mv (.v 8), none, [8]⟩] [1]) (.seq (.seq (.rg [⟨some 9, .mv (.v 1), none, []⟩, ⟨some 10, .bin .lss (.v 9) (.c (.int .i64 0)), none, [9]⟩] [1, 10]) (.cond (.v 10) (.seq (.rg [⟨some 4, .mv (.c (.int .i64 (-1))), none, []⟩] [4]) .ret) .skip)) (.seq (.rg [⟨some 11, .mv (.v 1), none, [1]⟩, ⟨some 4, .mv (.v 11), none, [11]⟩] [4]) .ret)))) }
theorem Z8 : QY Go.Proofs.Tryd.prog 75 Gb = true := by kernel_rfl
/-- spec.l6Steps: function 76 -/
def X5 : SFun := { n := 24, res := [.t 4], body := (.seq (.rg [⟨some 2, .box 102 (.v 0), none, [0]⟩, ⟨some 3, .box 103 (.v 1), none, [1]⟩, ⟨some 4, .mv (.c (.int .i64 0)), none, [4]⟩] [2, 3]) (.seq (.rg [⟨some 7, .faddr 0 (.v 2), none, []⟩, ⟨some 8, .load1 (.v 7), none, [7]⟩, ⟨some 9, .faddr 0 (.v 3), none, []⟩, ⟨some 10, .load1 (.v 9), none, [9]⟩, ⟨some 11, .binN .sub (.v 8) (.v 10), none, [8, 10]⟩, ⟨some 12, .call 92 [.v 11], none, [11]⟩, ⟨some 5, .mv (.v 12), none, [12]⟩] [2, 3, 5]) (.seq (.rg [⟨some 13, .faddr 1 (.v 2), none, [2]⟩, ⟨some 14, .load1 (.v 13), none, [13]⟩, ⟨some 15, .faddr 1 (.v 3), none, [3]⟩, ⟨some 16, .load1 (.v 15), none, [15]⟩, ⟨some 17, .binN .sub (.v 14) (.v 16), none, [14, 16]⟩, ⟨some 18, .call 92 [.v 17], none, [17]⟩, ⟨some 6, .mv (.v 18), none, [18]⟩] [5, 6]) (.seq (.seq (.rg [⟨some 19, .mv (.v 5), none, []⟩, ⟨some 20, .mv (.v 6), none, []⟩, ⟨some 21, .bin .gtr (.v 19) (.v 20), none, [19, 20]⟩] [5, 6, 21]) (.cond (.v 21) (.seq (.rg [⟨some 22, .mv (.v 5), none, [5]⟩, ⟨some 4, .mv (.v 22), none, [22]⟩] [4]) .ret) .skip)) (.seq (.rg [⟨some 23, .mv (.v 6), none, [6]⟩, ⟨some 4, .mv (.v 23), none, [23]⟩] [4]) .ret))))) }
theorem WG : QY Go.Proofs.Tryd.prog 76 X5 = true := by kernel_rfl
/-- spec.l6At: function 77 -/
def Wg : SFun := { n := 19, res := [.cN 4 2], body := (.seq (.rg [⟨some 2, .box 102 (.v 0), none, [0]⟩, ⟨some 4, .alloc 104 [.int .i64 0, .int .i64 0], none, []⟩] [1, 2, 4]) (.seq (.rgd [⟨some 6, .faddr 3 (.v 2), none, []⟩, ⟨some 7, .load1 (.v 6), none, []⟩, ⟨some 8, .faddr 3 (.v 2), none, []⟩, ⟨some 9, .load1 (.v 8), none, []⟩, ⟨some 10, .mv (.v 1), none, []⟩, ⟨some 11, .call 71 [.v 9, .v 10], none, []⟩, ⟨some 12, .iaddr 3 (.v 7) (.v 11), none, []⟩, ⟨some 13, .loadN 3 (.v 12), none, []⟩, ⟨some 5, .alloc 105 [.str ⟨#[]⟩, .int .i64 0, .int .i64 0], none, []⟩, ⟨none, .store 3 (.v 5) (.v 13), none, []⟩] [4, 5] [some [], some [], some [], some [], none, some [4, 3], some [], some [], some [7, 6, 5, 4, 2, 1, 0], none]) (.seq (.rg [⟨some 14, .faddr 1 (.v 5), none, []⟩, ⟨some 15, .load1 (.v 14), none, [14]⟩, ⟨some 16, .faddr 2 (.v 5), none, [5]⟩, ⟨some 17, .load1 (.v 16), none, [16]⟩, ⟨some 18, .build [.int .i64 0, .int .i64 0] [(0, 1, .v 15), (1, 1, .v 17)], none, [15, 17]⟩, ⟨none, .store 2 (.v 4) (.v 18), none, [18]⟩] [4]) .ret))) }
theorem Qde : QY Go.Proofs.Tryd.prog 77 Wg = true := by kernel_rfl
def Gc : SCode := (.seq (.seq (.rg [⟨some 8, .mv (.v 4), none, []⟩, ⟨some 9, .mv (.v 0), none, []⟩, ⟨some 10, .lenL (.v 9), none, [9]⟩, ⟨some 11, .bin .lss (.v 8) (.v 10), none, [8, 10]⟩] [0, 3, 4, 11]) (.cond (.v 11) .skip (.exit 0))) (.seq (.block 1 (.rg [⟨some 14, .mv (.v 3), none, []⟩, ⟨some 15, .mv (.v 4), none, []⟩, ⟨some 16, .mv (.v 0), none, []⟩, ⟨some 17, .mv (.v 4), none, []⟩, ⟨some 18, .iaddr 1 (.v 16) (.v 17), none, [16, 17]⟩, ⟨some 19, .load1 (.v 18), none, [18]⟩, ⟨some 20, .iaddr 1 (.v 14) (.v 15), none, [14, 15]⟩, ⟨none, .store 1 (.v 20) (.v 19), none, [19, 20]⟩] [0, 3, 4])) (.rg [⟨some 12, .mv (.v 4), none, [4]⟩, ⟨some 13, .binN .add (.v 12) (.c (.int .i64 1)), none, [12]⟩, ⟨some 4, .mv (.v 13), none, [13]⟩] [0, 3, 4])))
/-- laws.toStringS: function 78 -/
def Xc : SFun := { n := 22, res := [.t 2], body := (.seq (.rg [⟨some 2, .mv (.c (.sl 0 1 [])), none, [2]⟩] [0]) (.seq (.rg [⟨some 5, .mv (.v 0), none, []⟩, ⟨some 6, .lenL (.v 5), none, [5]⟩, ⟨some 7, .mk 107 9 1 [.str ⟨#[]⟩] (.v 6), none, [6]⟩, ⟨some 3, .mv (.v 7), none, [7]⟩] [0, 3]) (.seq (.seq (.rg [⟨some 4, .mv (.c (.int .i64 0)), none, []⟩] [0, 3, 4]) (.block 0 (.loop Gc))) (.seq (.rg [⟨some 21, .mv (.v 3), none, [3]⟩, ⟨some 2, .mv (.v 21), none, [21]⟩] [2]) (.gh (.frzE 2) .ret))))) }
theorem U9 : QY Go.Proofs.Tryd.prog 78 Xc = true := by kernel_rfl
def Ye : SCode := (.seq (.seq (.rg [⟨some 8, .mv (.v 4), none, []⟩, ⟨some 9, .mv (.v 0), none, []⟩, ⟨some 10, .lenL (.v 9), none, [9]⟩, ⟨some 11, .bin .lss (.v 8) (.v 10), none, [8, 10]⟩] [0, 3, 4, 11]) (.cond (.v 11) .skip (.exit 0))) (.seq (.block 1 (.rg [⟨some 14, .mv (.v 3), none, []⟩, ⟨some 15, .mv (.v 4), none, []⟩, ⟨some 16, .mv (.v 0), none, []⟩, ⟨some 17, .mv (.v 4), none, []⟩, ⟨some 18, .iaddr 6 (.v 16) (.v 17), none, [16, 17]⟩, ⟨some 19, .loadN 6 (.v 18), none, [18]⟩, ⟨some 20, .call 93 [.v 19], none, [19]⟩, ⟨some 21, .iaddr 6 (.v 14) (.v 15), none, [14, 15]⟩, ⟨none, .store 6 (.v 21) (.v 20), none, [20, 21]⟩] [0, 3, 4])) (.rg [⟨some 12, .mv (.v 4), none, [4]⟩, ⟨some 13, .binN .add (.v 12) (.c (.int .i64 1)), none, [12]⟩, ⟨some 4, .mv (.v 13), none, [13]⟩] [0, 3, 4])))
/-- laws.toSkyBlockS: function 79 -/
def Gd : SFun := { n := 23, res := [.t 2], body := (.seq (.rg [⟨some 2, .mv (.c (.sl 0 6 [])), none, [2]⟩] [0]) (.seq (.rg [⟨some 5, .mv (.v 0), none, []⟩, ⟨some 6, .lenL (.v 5), none, [5]⟩, ⟨some 7, .mk 107 99 6 [.int .i64 0, .int .i64 0, .int .i64 0, .int .i64 0, .int .i64 0, .int .i64 0] (.v 6), none, [6]⟩, ⟨some 3, .mv (.v 7), none, [7]⟩] [0, 3]) (.seq (.seq (.rg [⟨some 4, .mv (.c (.int .i64 0)), none, []⟩] [0, 3, 4]) (.block 0 (.loop Ye))) (.seq (.rg [⟨some 22, .mv (.v 3), none, [3]⟩, ⟨some 2, .mv (.v 22), none, [22]⟩] [2]) (.gh (.frzE 2) .ret))))) }
theorem Z9 : QY Go.Proofs.Tryd.prog 79 Gd = true := by kernel_rfl
def J1 : SCode := (.seq (.rg [⟨some 12, .bin .lss (.v 11) (.v 10), none, []⟩] [0, 1, 9, 10, 11, 12]) (.seq (.cond (.v 12) .skip (.exit 0)) (.seq (.block 1 (.seq (.rg [⟨some 13, .mv (.v 11), none, []⟩, ⟨some 14, .iaddr 1 (.v 9) (.v 11), none, []⟩, ⟨some 15, .load1 (.v 14), none, [14]⟩, ⟨some 5, .mv (.v 13), none, [13]⟩, ⟨some 6, .mv (.v 15), none, [15]⟩] [0, 1, 5, 6, 9, 10, 11]) (.seq (.seq (.rg [⟨some 16, .mv (.v 5), none, []⟩, ⟨some 17, .mv (.v 1), none, []⟩, ⟨some 18, .lenL (.v 17), none, [17]⟩, ⟨some 19, .bin .geq (.v 16) (.v 18), none, [16, 18]⟩] [0, 1, 5, 6, 9, 10, 11, 19]) (.cond (.v 19) (.seq (.rg [⟨some 4, .mv (.c (.int .i64 1)), none, []⟩] [4]) .ret) .skip)) (.seq (.rg [⟨some 20, .mv (.v 1), none, []⟩, ⟨some 21, .mv (.v 5), none, [5]⟩, ⟨some 22, .iaddr 1 (.v 20) (.v 21), none, [20, 21]⟩, ⟨some 23, .load1 (.v 22), none, [22]⟩, ⟨some 7, .mv (.v 23), none, [23]⟩] [0, 1, 6, 7, 9, 10, 11]) (.seq (.rg [⟨some 24, .mv (.v 6), none, [6]⟩, ⟨some 25, .mv (.v 7), none, [7]⟩, ⟨some 26, .call 94 [.v 24, .v 25], none, [24, 25]⟩, ⟨some 8, .mv (.v 26), none, [26]⟩] [0, 1, 8, 9, 10, 11]) (.seq (.rg [⟨some 27, .mv (.v 8), none, []⟩, ⟨some 28, .bin .neq (.v 27) (.c (.int .i64 0)), none, [27]⟩] [0, 1, 8, 9, 10, 11, 28]) (.cond (.v 28) (.seq (.rg [⟨some 29, .mv (.v 8), none, [8]⟩, ⟨some 4, .mv (.v 29), none, [29]⟩] [4]) .ret) .skip))))))) (.rg [⟨some 30, .binN .add (.v 11) (.c (.int .i64 1)), none, [11]⟩, ⟨some 11, .mv (.v 30), none, [30]⟩] [0, 1, 9, 10, 11]))))
/-- slices.Compare[[]string,string]: function 80 -/
def Kg : SFun := { n := 36, res := [.t 4], body := (.seq (.rg [⟨some 4, .mv (.c (.int .i64 0)), none, [4]⟩] [0, 1]) (.seq (.seq (.rg [⟨some 9, .mv (.v 0), none, []⟩, ⟨some 10, .lenL (.v 9), none, []⟩, ⟨some 11, .mv (.c (.int .i64 0)), none, []⟩] [0, 1, 9, 10, 11]) (.block 0 (.loop J1))) (.seq (.seq (.rg [⟨some 31, .mv (.v 0), none, [0]⟩, ⟨some 32, .lenL (.v 31), none, [31]⟩, ⟨some 33, .mv (.v 1), none, [1]⟩, ⟨some 34, .lenL (.v 33), none, [33]⟩, ⟨some 35, .bin .lss (.v 32) (.v 34), none, [32, 34]⟩] [35]) (.cond (.v 35) (.seq (.rg [⟨some 4, .mv (.c (.int .i64 (-1))), none, []⟩] [4]) .ret) .skip)) (.seq (.rg [⟨some 4, .mv (.c (.int .i64 0)), none, []⟩] [4]) .ret)))) }
theorem GX : QY Go.Proofs.Tryd.prog 80 Kg = true := by kernel_rfl
def Yf : SCode := (.seq (.seq (.rg [⟨some 11, .mv (.v 5), none, []⟩, ⟨some 12, .mv (.v 0), none, []⟩, ⟨some 13, .lenL (.v 12), none, [12]⟩, ⟨some 14, .bin .lss (.v 11) (.v 13), none, [11, 13]⟩] [0, 1, 5, 14]) (.cond (.v 14) .skip (.exit 0))) (.seq (.block 1 (.seq (.rgd [⟨some 17, .mv (.v 0), none, []⟩, ⟨some 18, .mv (.v 5), none, []⟩, ⟨some 19, .iaddr 6 (.v 17) (.v 18), none, []⟩, ⟨some 20, .loadN 6 (.v 19), none, []⟩, ⟨some 21, .mv (.v 1), none, []⟩, ⟨some 22, .mv (.v 5), none, []⟩, ⟨some 23, .iaddr 6 (.v 21) (.v 22), none, []⟩, ⟨some 24, .loadN 6 (.v 23), none, []⟩, ⟨some 25, .call 95 [.v 20, .v 24], none, []⟩, ⟨some 26, .not (.v 25), none, []⟩] [0, 1, 5, 26] [none, none, none, none, none, none, none, none, none, none]) (.cond (.v 26) (.seq (.rg [⟨some 4, .mv (.c (.bool false)), none, []⟩] [4]) .ret) .skip))) (.rg [⟨some 15, .mv (.v 5), none, [5]⟩, ⟨some 16, .binN .add (.v 15) (.c (.int .i64 1)), none, [15]⟩, ⟨some 5, .mv (.v 16), none, [16]⟩] [0, 1, 5])))
/-- laws.eqSkyBlockS: function 81 -/
def Ge : SFun := { n := 27, res := [.t 4], body := (.seq (.rg [⟨some 4, .mv (.c (.bool false)), none, [4]⟩] [0, 1]) (.seq (.seq (.rg [⟨some 6, .mv (.v 0), none, []⟩, ⟨some 7, .lenL (.v 6), none, [6]⟩, ⟨some 8, .mv (.v 1), none, []⟩, ⟨some 9, .lenL (.v 8), none, [8]⟩, ⟨some 10, .bin .neq (.v 7) (.v 9), none, [7, 9]⟩] [0, 1, 10]) (.cond (.v 10) (.seq (.rg [⟨some 4, .mv (.c (.bool false)), none, []⟩] [4]) .ret) .skip)) (.seq (.seq (.rg [⟨some 5, .mv (.c (.int .i64 0)), none, []⟩] [0, 1, 5]) (.block 0 (.loop Yf))) (.seq (.rg [⟨some 4, .mv (.c (.bool true)), none, []⟩] [4]) .ret)))) }
theorem Ua : QY Go.Proofs.Tryd.prog 81 Ge = true := by kernel_rfl
def GL : SCode := (.seq (.seq (.rg [⟨some 9, .mv (.v 3), none, []⟩, ⟨some 10, .mv (.v 0), none, []⟩, ⟨some 11, .lenS (.v 10), none, [10]⟩, ⟨some 12, .bin .lss (.v 9) (.v 11), none, [9, 11]⟩] [0, 3, 12]) (.cond (.v 12) .skip (.exit 0))) (.seq (.block 1 (.seq (.rg [⟨some 15, .mv (.v 0), none, []⟩, ⟨some 16, .mv (.v 3), none, []⟩, ⟨some 17, .istr (.v 15) (.v 16), none, [15, 16]⟩, ⟨some 4, .mv (.v 17), none, [17]⟩] [0, 3, 4]) (.seq (.rg [⟨some 18, .mv (.v 4), none, []⟩, ⟨some 19, .bin .geq (.v 18) (.c (.int .u8 97)), none, [18]⟩, ⟨some 20, .mv (.v 19), none, [19]⟩, ⟨some 21, .mv (.v 4), some (20, true), []⟩, ⟨some 22, .bin .leq (.v 21) (.c (.int .u8 122)), some (20, true), [21]⟩, ⟨some 23, .pick (.v 20) (.v 22) (.c (.bool false)), none, [20, 22]⟩, ⟨some 24, .mv (.v 23), none, [23]⟩, ⟨some 25, .mv (.v 4), some (24, false), []⟩, ⟨some 26, .bin .geq (.v 25) (.c (.int .u8 48)), some (24, false), [25]⟩, ⟨some 27, .mv (.v 26), some (24, false), [26]⟩, ⟨some 28, .mv (.v 4), some (27, true), []⟩, ⟨some 29, .bin .leq (.v 28) (.c (.int .u8 57)), some (27, true), [28]⟩, ⟨some 30, .pick (.v 27) (.v 29) (.c (.bool false)), some (24, false), [27, 29]⟩, ⟨some 31, .pick (.v 24) (.c (.bool true)) (.v 30), none, [24, 30]⟩, ⟨some 32, .mv (.v 31), none, [31]⟩, ⟨some 33, .mv (.v 4), some (32, false), [4]⟩, ⟨some 34, .bin .eql (.v 33) (.c (.int .u8 45)), some (32, false), [33]⟩, ⟨some 35, .pick (.v 32) (.c (.bool true)) (.v 34), none, [32, 34]⟩, ⟨some 36, .not (.v 35), none, [35]⟩] [0, 3, 36]) (.cond (.v 36) (.seq (.rg [⟨some 2, .mv (.c (.bool false)), none, []⟩] [2]) .ret) .skip)))) (.rg [⟨some 13, .mv (.v 3), none, [3]⟩, ⟨some 14, .binN .add (.v 13) (.c (.int .i64 1)), none, [13]⟩, ⟨some 3, .mv (.v 14), none, [14]⟩] [0, 3])))
/-- spec.l2NameOk: function 82 -/
def XA : SFun := { n := 37, res := [.t 2], body := (.seq (.rg [⟨some 2, .mv (.c (.bool false)), none, [2]⟩] [0]) (.seq (.seq (.rg [⟨some 5, .mv (.v 0), none, []⟩, ⟨some 6, .lenS (.v 5), none, [5]⟩, ⟨some 7, .call 65 [.v 6, .c (.int .i64 1), .c (.int .i64 8)], none, [6]⟩, ⟨some 8, .not (.v 7), none, [7]⟩] [0, 8]) (.cond (.v 8) (.seq (.rg [⟨some 2, .mv (.c (.bool false)), none, []⟩] [2]) .ret) .skip)) (.seq (.seq (.rg [⟨some 3, .mv (.c (.int .i64 0)), none, []⟩] [0, 3]) (.block 0 (.loop GL))) (.seq (.rg [⟨some 2, .mv (.c (.bool true)), none, []⟩] [2]) .ret)))) }
theorem Wh : QY Go.Proofs.Tryd.prog 82 XA = true := by kernel_rfl
/-- spec.l2BlockOk: function 83 -/
def Xd : SFun := { n := 45, res := [.t 4], body := (.seq (.rg [⟨some 2, .box 102 (.v 0), none, [0]⟩, ⟨some 3, .box 103 (.v 1), none, [1]⟩, ⟨some 4, .mv (.c (.bool false)), none, [4]⟩] [2, 3]) (.seq (.rg [⟨some 5, .faddr 0 (.v 3), none, []⟩, ⟨some 6, .load1 (.v 5), none, [5]⟩, ⟨some 7, .faddr 2 (.v 3), none, []⟩, ⟨some 8, .load1 (.v 7), none, [7]⟩, ⟨some 9, .call 65 [.v 6, .c (.int .i64 0), .v 8], none, [6, 8]⟩, ⟨some 10, .mv (.v 9), none, [9]⟩, ⟨some 11, .faddr 2 (.v 3), some (10, true), []⟩, ⟨some 12, .load1 (.v 11), some (10, true), [11]⟩, ⟨some 13, .faddr 0 (.v 2), some (10, true), []⟩, ⟨some 14, .load1 (.v 13), some (10, true), [13]⟩, ⟨some 15, .bin .lss (.v 12) (.v 14), some (10, true), [12, 14]⟩, ⟨some 16, .pick (.v 10) (.v 15) (.c (.bool false)), none, [10, 15]⟩, ⟨some 17, .mv (.v 16), none, [16]⟩, ⟨some 18, .faddr 1 (.v 3), some (17, true), []⟩, ⟨some 19, .load1 (.v 18), some (17, true), [18]⟩, ⟨some 20, .faddr 3 (.v 3), some (17, true), []⟩, ⟨some 21, .load1 (.v 20), some (17, true), [20]⟩, ⟨some 22, .call 65 [.v 19, .c (.int .i64 0), .v 21], some (17, true), [19, 21]⟩, ⟨some 23, .pick (.v 17) (.v 22) (.c (.bool false)), none, [17, 22]⟩, ⟨some 24, .mv (.v 23), none, [23]⟩, ⟨some 25, .faddr 3 (.v 3), some (24, true), []⟩, ⟨some 26, .load1 (.v 25), some (24, true), [25]⟩, ⟨some 27, .faddr 1 (.v 2), some (24, true), []⟩, ⟨some 28, .load1 (.v 27), some (24, true), [27]⟩, ⟨some 29, .bin .lss (.v 26) (.v 28), some (24, true), [26, 28]⟩, ⟨some 30, .pick (.v 24) (.v 29) (.c (.bool false)), none, [24, 29]⟩, ⟨some 31, .mv (.v 30), none, [30]⟩, ⟨some 32, .faddr 4 (.v 3), some (31, true), []⟩, ⟨some 33, .load1 (.v 32), some (31, true), [32]⟩, ⟨some 34, .faddr 5 (.v 3), some (31, true), []⟩, ⟨some 35, .load1 (.v 34), some (31, true), [34]⟩, ⟨some 36, .call 65 [.v 33, .c (.int .i64 1), .v 35], some (31, true), [33, 35]⟩, ⟨some 37, .pick (.v 31) (.v 36) (.c (.bool false)), none, [31, 36]⟩, ⟨some 38, .mv (.v 37), none, [37]⟩, ⟨some 39, .faddr 5 (.v 3), some (38, true), [3]⟩, ⟨some 40, .load1 (.v 39), some (38, true), [39]⟩, ⟨some 41, .faddr 2 (.v 2), some (38, true), [2]⟩, ⟨some 42, .load1 (.v 41), some (38, true), [41]⟩, ⟨some 43, .bin .leq (.v 40) (.v 42), some (38, true), [40, 42]⟩, ⟨some 44, .pick (.v 38) (.v 43) (.c (.bool false)), none, [38, 43]⟩, ⟨some 4, .mv (.v 44), none, [44]⟩] [4]) .ret)) }
theorem Va : QY Go.Proofs.Tryd.prog 83 Xd = true := by kernel_rfl
/-- spec.l2Less: function 84 -/
def Ub : SFun := { n := 30, res := [.t 4], body := (.seq (.rg [⟨some 2, .box 102 (.v 0), none, [0]⟩, ⟨some 3, .box 103 (.v 1), none, [1]⟩, ⟨some 4, .mv (.c (.bool false)), none, [4]⟩] [2, 3]) (.seq (.seq (.rg [⟨some 5, .faddr 0 (.v 2), none, []⟩, ⟨some 6, .load1 (.v 5), none, [5]⟩, ⟨some 7, .faddr 0 (.v 3), none, []⟩, ⟨some 8, .load1 (.v 7), none, [7]⟩, ⟨some 9, .bin .neq (.v 6) (.v 8), none, [6, 8]⟩] [2, 3, 9]) (.cond (.v 9) (.seq (.rg [⟨some 10, .faddr 0 (.v 2), none, [2]⟩, ⟨some 11, .load1 (.v 10), none, [10]⟩, ⟨some 12, .faddr 0 (.v 3), none, [3]⟩, ⟨some 13, .load1 (.v 12), none, [12]⟩, ⟨some 14, .bin .lss (.v 11) (.v 13), none, [11, 13]⟩, ⟨some 4, .mv (.v 14), none, [14]⟩] [4]) .ret) .skip)) (.seq (.seq (.rg [⟨some 15, .faddr 1 (.v 2), none, []⟩, ⟨some 16, .load1 (.v 15), none, [15]⟩, ⟨some 17, .faddr 1 (.v 3), none, []⟩, ⟨some 18, .load1 (.v 17), none, [17]⟩, ⟨some 19, .bin .neq (.v 16) (.v 18), none, [16, 18]⟩] [2, 3, 19]) (.cond (.v 19) (.seq (.rg [⟨some 20, .faddr 1 (.v 2), none, [2]⟩, ⟨some 21, .load1 (.v 20), none, [20]⟩, ⟨some 22, .faddr 1 (.v 3), none, [3]⟩, ⟨some 23, .load1 (.v 22), none, [22]⟩, ⟨some 24, .bin .lss (.v 21) (.v 23), none, [21, 23]⟩, ⟨some 4, .mv (.v 24), none, [24]⟩] [4]) .ret) .skip)) (.seq (.rg [⟨some 25, .faddr 4 (.v 2), none, [2]⟩, ⟨some 26, .load1 (.v 25), none, [25]⟩, ⟨some 27, .faddr 4 (.v 3), none, [3]⟩, ⟨some 28, .load1 (.v 27), none, [27]⟩, ⟨some 29, .bin .lss (.v 26) (.v 28), none, [26, 28]⟩, ⟨some 4, .mv (.v 29), none, [29]⟩] [4]) .ret)))) }
theorem QaX : QY Go.Proofs.Tryd.prog 84 Ub = true := by kernel_rfl
def GM : SCode := (.seq (.seq (.rg [⟨some 6, .mv (.v 4), none, []⟩, ⟨some 7, .faddr 5 (.v 1), none, []⟩, ⟨some 8, .load1 (.v 7), none, [7]⟩, ⟨some 9, .lenL (.v 8), none, [8]⟩, ⟨some 10, .bin .lss (.v 6) (.v 9), none, [6, 9]⟩] [1, 3, 4, 10]) (.cond (.v 10) .skip (.exit 0))) (.seq (.block 1 (.rg [⟨some 13, .mv (.v 3), none, [3]⟩, ⟨some 14, .faddr 5 (.v 1), none, []⟩, ⟨some 15, .load1 (.v 14), none, [14]⟩, ⟨some 16, .mv (.v 4), none, []⟩, ⟨some 17, .iaddr 2 (.v 15) (.v 16), none, [15, 16]⟩, ⟨some 18, .faddr 1 (.v 17), none, [17]⟩, ⟨some 19, .load1 (.v 18), none, [18]⟩, ⟨some 20, .app 105 99 6 (.v 13) (.v 19), none, [13, 19]⟩, ⟨some 3, .mv (.v 20), none, [20]⟩] [1, 3, 4])) (.rg [⟨some 11, .mv (.v 4), none, [4]⟩, ⟨some 12, .binN .add (.v 11) (.c (.int .i64 1)), none, [11]⟩, ⟨some 4, .mv (.v 12), none, [12]⟩] [1, 3, 4])))
/-- spec.l2Blocks: function 85 -/
def XB : SFun := { n := 22, res := [.t 2], body := (.seq (.rg [⟨some 1, .box 101 (.v 0), none, [0]⟩, ⟨some 2, .mv (.c (.sl 0 6 [])), none, [2]⟩] [1]) (.seq (.rg [⟨some 5, .litOwn 105 99 6 [], none, []⟩, ⟨some 3, .mv (.v 5), none, [5]⟩] [1, 3]) (.seq (.seq (.rg [⟨some 4, .mv (.c (.int .i64 0)), none, []⟩] [1, 3, 4]) (.block 0 (.loop GM))) (.seq (.rg [⟨some 21, .mv (.v 3), none, [3]⟩, ⟨some 2, .mv (.v 21), none, [21]⟩] [2]) (.gh (.frzE 2) .ret))))) }
theorem Wi : QY Go.Proofs.Tryd.prog 85 XB = true := by kernel_rfl
/-- spec.l2Shares: function 86 -/
def XC : SFun := { n := 45, res := [.t 4], body := (.seq (.rg [⟨some 2, .box 102 (.v 0), none, [0]⟩, ⟨some 3, .box 103 (.v 1), none, [1]⟩, ⟨some 4, .mv (.c (.bool false)), none, [4]⟩] [2, 3]) (.seq (.rg [⟨some 5, .faddr 0 (.v 2), none, []⟩, ⟨some 6, .load1 (.v 5), none, [5]⟩, ⟨some 7, .faddr 2 (.v 3), none, []⟩, ⟨some 8, .load1 (.v 7), none, [7]⟩, ⟨some 9, .bin .leq (.v 6) (.v 8), none, [6, 8]⟩, ⟨some 10, .mv (.v 9), none, [9]⟩, ⟨some 11, .faddr 0 (.v 3), some (10, true), []⟩, ⟨some 12, .load1 (.v 11), some (10, true), [11]⟩, ⟨some 13, .faddr 2 (.v 2), some (10, true), []⟩, ⟨some 14, .load1 (.v 13), some (10, true), [13]⟩, ⟨some 15, .bin .leq (.v 12) (.v 14), some (10, true), [12, 14]⟩, ⟨some 16, .pick (.v 10) (.v 15) (.c (.bool false)), none, [10, 15]⟩, ⟨some 17, .mv (.v 16), none, [16]⟩, ⟨some 18, .faddr 1 (.v 2), some (17, true), []⟩, ⟨some 19, .load1 (.v 18), some (17, true), [18]⟩, ⟨some 20, .faddr 3 (.v 3), some (17, true), []⟩, ⟨some 21, .load1 (.v 20), some (17, true), [20]⟩, ⟨some 22, .bin .leq (.v 19) (.v 21), some (17, true), [19, 21]⟩, ⟨some 23, .pick (.v 17) (.v 22) (.c (.bool false)), none, [17, 22]⟩, ⟨some 24, .mv (.v 23), none, [23]⟩, ⟨some 25, .faddr 1 (.v 3), some (24, true), []⟩, ⟨some 26, .load1 (.v 25), some (24, true), [25]⟩, ⟨some 27, .faddr 3 (.v 2), some (24, true), []⟩, ⟨some 28, .load1 (.v 27), some (24, true), [27]⟩, ⟨some 29, .bin .leq (.v 26) (.v 28), some (24, true), [26, 28]⟩, ⟨some 30, .pick (.v 24) (.v 29) (.c (.bool false)), none, [24, 29]⟩, ⟨some 31, .mv (.v 30), none, [30]⟩, ⟨some 32, .faddr 4 (.v 2), some (31, true), []⟩, ⟨some 33, .load1 (.v 32), some (31, true), [32]⟩, ⟨some 34, .faddr 5 (.v 3), some (31, true), []⟩, ⟨some 35, .load1 (.v 34), some (31, true), [34]⟩, ⟨some 36, .bin .leq (.v 33) (.v 35), some (31, true), [33, 35]⟩, ⟨some 37, .pick (.v 31) (.v 36) (.c (.bool false)), none, [31, 36]⟩, ⟨some 38, .mv (.v 37), none, [37]⟩, ⟨some 39, .faddr 4 (.v 3), some (38, true), [3]⟩, ⟨some 40, .load1 (.v 39), some (38, true), [39]⟩, ⟨some 41, .faddr 5 (.v 2), some (38, true), [2]⟩, ⟨some 42, .load1 (.v 41), some (38, true), [41]⟩, ⟨some 43, .bin .leq (.v 40) (.v 42), some (38, true), [40, 42]⟩, ⟨some 44, .pick (.v 38) (.v 43) (.c (.bool false)), none, [38, 43]⟩, ⟨some 4, .mv (.v 44), none, [44]⟩] [4]) .ret)) }
theorem Wj : QY Go.Proofs.Tryd.prog 86 XC = true := by kernel_rfl
/-- spec.l2Dx: function 87 -/
def Wl : SFun := { n := 12, res := [.t 2], body := (.seq (.rg [⟨some 2, .mv (.c (.int .i64 0)), none, [2]⟩] [0]) (.seq (.seq (.rg [⟨some 3, .mv (.v 0), none, [0]⟩] [3]) (.block 0 (.seq (.seq (.rg [⟨some 5, .bin .eql (.v 3) (.c (.int .i64 2)), none, []⟩, ⟨some 4, .mv (.v 5), none, [5]⟩] [3, 4]) (.cond (.v 4) .skip (.seq (.rg [⟨some 6, .bin .eql (.v 3) (.c (.int .i64 3)), none, []⟩, ⟨some 4, .mv (.v 6), none, [6]⟩] [3, 4]) (.cond (.v 4) .skip (.rg [⟨some 7, .bin .eql (.v 3) (.c (.int .i64 4)), none, []⟩, ⟨some 4, .mv (.v 7), none, [7]⟩] [3, 4]))))) (.cond (.v 4) (.seq (.rg [⟨some 2, .mv (.c (.int .i64 1)), none, []⟩] [2]) .ret) (.seq (.seq (.rg [⟨some 9, .bin .eql (.v 3) (.c (.int .i64 6)), none, []⟩, ⟨some 8, .mv (.v 9), none, [9]⟩] [3, 8]) (.cond (.v 8) .skip (.seq (.rg [⟨some 10, .bin .eql (.v 3) (.c (.int .i64 7)), none, []⟩, ⟨some 8, .mv (.v 10), none, [10]⟩] [3, 8]) (.cond (.v 8) .skip (.rg [⟨some 11, .bin .eql (.v 3) (.c (.int .i64 8)), none, [3]⟩, ⟨some 8, .mv (.v 11), none, [11]⟩] [8]))))) (.cond (.v 8) (.seq (.rg [⟨some 2, .mv (.c (.int .i64 (-1))), none, []⟩] [2]) .ret) .skip)))))) (.seq (.rg [⟨some 2, .mv (.c (.int .i64 0)), none, []⟩] [2]) .ret))) }
theorem Qdf : QY Go.Proofs.Tryd.prog 87 Wl = true := by kernel_rfl
/-- spec.l2Dy: function 88 -/
def Wm : SFun := { n := 12, res := [.t 2], body := (.seq (.rg [⟨some 2, .mv (.c (.int .i64 0)), none, [2]⟩] [0]) (.seq (.seq (.rg [⟨some 3, .mv (.v 0), none, [0]⟩] [3]) (.block 0 (.seq (.seq (.rg [⟨some 5, .bin .eql (.v 3) (.c (.int .i64 1)), none, []⟩, ⟨some 4, .mv (.v 5), none, [5]⟩] [3, 4]) (.cond (.v 4) .skip (.seq (.rg [⟨some 6, .bin .eql (.v 3) (.c (.int .i64 2)), none, []⟩, ⟨some 4, .mv (.v 6), none, [6]⟩] [3, 4]) (.cond (.v 4) .skip (.rg [⟨some 7, .bin .eql (.v 3) (.c (.int .i64 8)), none, []⟩, ⟨some 4, .mv (.v 7), none, [7]⟩] [3, 4]))))) (.cond (.v 4) (.seq (.rg [⟨some 2, .mv (.c (.int .i64 1)), none, []⟩] [2]) .ret) (.seq (.seq (.rg [⟨some 9, .bin .eql (.v 3) (.c (.int .i64 4)), none, []⟩, ⟨some 8, .mv (.v 9), none, [9]⟩] [3, 8]) (.cond (.v 8) .skip (.seq (.rg [⟨some 10, .bin .eql (.v 3) (.c (.int .i64 5)), none, []⟩, ⟨some 8, .mv (.v 10), none, [10]⟩] [3, 8]) (.cond (.v 8) .skip (.rg [⟨some 11, .bin .eql (.v 3) (.c (.int .i64 6)), none, [3]⟩, ⟨some 8, .mv (.v 11), none, [11]⟩] [8]))))) (.cond (.v 8) (.seq (.rg [⟨some 2, .mv (.c (.int .i64 (-1))), none, []⟩] [2]) .ret) .skip)))))) (.seq (.rg [⟨some 2, .mv (.c (.int .i64 0)), none, []⟩] [2]) .ret))) }
theorem Qdg : QY Go.Proofs.Tryd.prog 88 Wm = true := by kernel_rfl
def XD : SCode := (.seq (.seq (.rg [⟨some 23, .mv (.v 9), none, []⟩, ⟨some 24, .mv (.v 8), none, []⟩, ⟨some 25, .lenL (.v 24), none, [24]⟩, ⟨some 26, .bin .lss (.v 23) (.v 25), none, [23, 25]⟩] [1, 2, 3, 7, 8, 9, 26]) (.cond (.v 26) .skip (.exit 2))) (.seq (.block 3 (.seq (.rg [⟨some 29, .mv (.v 8), none, []⟩, ⟨some 30, .mv (.v 9), none, []⟩, ⟨some 31, .binN .sub (.v 30) (.c (.int .i64 1)), none, [30]⟩, ⟨some 32, .iaddr 1 (.v 29) (.v 31), none, [29, 31]⟩, ⟨some 33, .load1 (.v 32), none, [32]⟩, ⟨some 34, .mv (.v 1), none, []⟩, ⟨some 35, .bin .eql (.v 33) (.v 34), none, [33, 34]⟩, ⟨some 36, .mv (.v 35), none, [35]⟩, ⟨some 37, .mv (.v 8), some (36, true), []⟩, ⟨some 38, .mv (.v 9), some (36, true), []⟩, ⟨some 39, .iaddr 1 (.v 37) (.v 38), some (36, true), [37, 38]⟩, ⟨some 40, .load1 (.v 39), some (36, true), [39]⟩, ⟨some 41, .mv (.v 2), some (36, true), []⟩, ⟨some 42, .bin .eql (.v 40) (.v 41), some (36, true), [40, 41]⟩, ⟨some 43, .pick (.v 36) (.v 42) (.c (.bool false)), none, [36, 42]⟩, ⟨some 44, .mv (.v 43), none, [43]⟩, ⟨some 45, .mv (.v 8), some (44, false), []⟩, ⟨some 46, .mv (.v 9), some (44, false), []⟩, ⟨some 47, .binN .sub (.v 46) (.c (.int .i64 1)), some (44, false), [46]⟩, ⟨some 48, .iaddr 1 (.v 45) (.v 47), some (44, false), [45, 47]⟩, ⟨some 49, .load1 (.v 48), some (44, false), [48]⟩, ⟨some 50, .mv (.v 2), some (44, false), []⟩, ⟨some 51, .bin .eql (.v 49) (.v 50), some (44, false), [49, 50]⟩, ⟨some 52, .mv (.v 51), some (44, false), [51]⟩, ⟨some 53, .mv (.v 8), some (52, true), []⟩, ⟨some 54, .mv (.v 9), some (52, true), []⟩, ⟨some 55, .iaddr 1 (.v 53) (.v 54), some (52, true), [53, 54]⟩, ⟨some 56, .load1 (.v 55), some (52, true), [55]⟩, ⟨some 57, .mv (.v 1), some (52, true), []⟩, ⟨some 58, .bin .eql (.v 56) (.v 57), some (52, true), [56, 57]⟩, ⟨some 59, .pick (.v 52) (.v 58) (.c (.bool false)), some (44, false), [52, 58]⟩, ⟨some 60, .pick (.v 44) (.c (.bool true)) (.v 59), none, [44, 59]⟩] [1, 2, 3, 7, 8, 9, 60]) (.cond (.v 60) (.seq (.rg [⟨some 6, .mv (.c (.bool true)), none, []⟩] [6]) .ret) .skip))) (.rg [⟨some 27, .mv (.v 9), none, [9]⟩, ⟨some 28, .binN .add (.v 27) (.c (.int .i64 1)), none, [27]⟩, ⟨some 9, .mv (.v 28), none, [28]⟩] [1, 2, 3, 7, 8, 9])))
def XE : SCode := (.seq (.seq (.rg [⟨some 10, .mv (.v 7), none, []⟩, ⟨some 11, .faddr 4 (.v 3), none, []⟩, ⟨some 12, .load1 (.v 11), none, [11]⟩, ⟨some 13, .lenL (.v 12), none, [12]⟩, ⟨some 14, .bin .lss (.v 10) (.v 13), none, [10, 13]⟩] [1, 2, 3, 7, 14]) (.cond (.v 14) .skip (.exit 0))) (.seq (.block 1 (.seq (.rg [⟨some 17, .faddr 4 (.v 3), none, []⟩, ⟨some 18, .load1 (.v 17), none, [17]⟩, ⟨some 19, .mv (.v 7), none, []⟩, ⟨some 20, .iaddr 2 (.v 18) (.v 19), none, [18, 19]⟩, ⟨some 21, .faddr 1 (.v 20), none, [20]⟩, ⟨some 22, .load1 (.v 21), none, [21]⟩, ⟨some 8, .mv (.v 22), none, [22]⟩] [1, 2, 3, 7, 8]) (.seq (.rg [⟨some 9, .mv (.c (.int .i64 1)), none, []⟩] [1, 2, 3, 7, 8, 9]) (.block 2 (.loop XD))))) (.rg [⟨some 15, .mv (.v 7), none, [7]⟩, ⟨some 16, .binN .add (.v 15) (.c (.int .i64 1)), none, [15]⟩, ⟨some 7, .mv (.v 16), none, [16]⟩] [1, 2, 3, 7])))
/-- spec.l7Next: function 89 -/
def Uc : SFun := { n := 61, res := [.t 6], body := (.seq (.rg [⟨some 3, .box 103 (.v 0), none, [0]⟩, ⟨some 6, .mv (.c (.bool false)), none, [6]⟩] [1, 2, 3]) (.seq (.seq (.rg [⟨some 7, .mv (.c (.int .i64 0)), none, []⟩] [1, 2, 3, 7]) (.block 0 (.loop XE))) (.seq (.rg [⟨some 6, .mv (.c (.bool false)), none, []⟩] [6]) .ret))) }
theorem QaY : QY Go.Proofs.Tryd.prog 89 Uc = true := by kernel_rfl
def X6 : SCode := (.seq (.seq (.rg [⟨some 6, .mv (.v 5), none, []⟩, ⟨some 7, .mv (.v 0), none, []⟩, ⟨some 8, .lenL (.v 7), none, [7]⟩, ⟨some 9, .bin .lss (.v 6) (.v 8), none, [6, 8]⟩] [0, 1, 5, 9]) (.cond (.v 9) .skip (.exit 0))) (.seq (.block 1 (.seq (.rg [⟨some 12, .mv (.v 0), none, []⟩, ⟨some 13, .mv (.v 5), none, []⟩, ⟨some 14, .iaddr 1 (.v 12) (.v 13), none, [12, 13]⟩, ⟨some 15, .load1 (.v 14), none, [14]⟩, ⟨some 16, .mv (.v 1), none, []⟩, ⟨some 17, .bin .eql (.v 15) (.v 16), none, [15, 16]⟩] [0, 1, 5, 17]) (.cond (.v 17) (.seq (.rg [⟨some 4, .mv (.c (.bool true)), none, []⟩] [4]) .ret) .skip))) (.rg [⟨some 10, .mv (.v 5), none, [5]⟩, ⟨some 11, .binN .add (.v 10) (.c (.int .i64 1)), none, [10]⟩, ⟨some 5, .mv (.v 11), none, [11]⟩] [0, 1, 5])))
/-- spec.l7Has: function 90 -/
def UW : SFun := { n := 18, res := [.t 4], body := (.seq (.rg [⟨some 4, .mv (.c (.bool false)), none, [4]⟩] [0, 1]) (.seq (.seq (.rg [⟨some 5, .mv (.c (.int .i64 0)), none, []⟩] [0, 1, 5]) (.block 0 (.loop X6))) (.seq (.rg [⟨some 4, .mv (.c (.bool false)), none, []⟩] [4]) .ret))) }
theorem Qch : QY Go.Proofs.Tryd.prog 90 UW = true := by kernel_rfl
def GN : SCode := (.seq (.seq (.rg [⟨some 35, .mv (.v 7), none, []⟩, ⟨some 36, .mv (.v 1), none, []⟩, ⟨some 37, .lenL (.v 36), none, [36]⟩, ⟨some 38, .bin .lss (.v 35) (.v 37), none, [35, 37]⟩] [1, 2, 7, 38]) (.cond (.v 38) .skip (.exit 0))) (.seq (.block 1 (.seq (.rgd [⟨some 41, .mv (.v 1), none, []⟩, ⟨some 42, .mv (.v 7), none, []⟩, ⟨some 43, .iaddr 1 (.v 41) (.v 42), none, []⟩, ⟨some 44, .load1 (.v 43), none, []⟩, ⟨some 45, .mv (.v 2), none, []⟩, ⟨some 46, .mv (.v 7), none, []⟩, ⟨some 47, .iaddr 1 (.v 45) (.v 46), none, []⟩, ⟨some 48, .load1 (.v 47), none, []⟩, ⟨some 49, .bin .neq (.v 44) (.v 48), none, []⟩] [1, 2, 7, 49] [none, none, none, none, none, none, none, none, none]) (.cond (.v 49) (.seq (.rgd [⟨some 50, .mv (.v 1), none, []⟩, ⟨some 51, .mv (.v 7), none, []⟩, ⟨some 52, .iaddr 1 (.v 50) (.v 51), none, []⟩, ⟨some 53, .load1 (.v 52), none, []⟩, ⟨some 54, .mv (.v 2), none, []⟩, ⟨some 55, .mv (.v 7), none, []⟩, ⟨some 56, .iaddr 1 (.v 54) (.v 55), none, []⟩, ⟨some 57, .load1 (.v 56), none, []⟩, ⟨some 58, .bin .lss (.v 53) (.v 57), none, []⟩, ⟨some 6, .mv (.v 58), none, []⟩] [6] [none, none, none, none, none, none, none, none, none, none]) .ret) .skip))) (.rg [⟨some 39, .mv (.v 7), none, [7]⟩, ⟨some 40, .binN .add (.v 39) (.c (.int .i64 1)), none, [39]⟩, ⟨some 7, .mv (.v 40), none, [40]⟩] [1, 2, 7])))
/-- spec.l7Better: function 91 -/
def XF : SFun := { n := 59, res := [.t 6], body := (.seq (.rg [⟨some 3, .box 103 (.v 0), none, [0]⟩, ⟨some 6, .mv (.c (.bool false)), none, [6]⟩] [1, 2, 3]) (.seq (.seq (.rg [⟨some 8, .mv (.v 2), none, []⟩, ⟨some 9, .lenL (.v 8), none, [8]⟩, ⟨some 10, .bin .eql (.v 9) (.c (.int .i64 0)), none, [9]⟩] [1, 2, 3, 10]) (.cond (.v 10) (.seq (.rg [⟨some 6, .mv (.c (.bool true)), none, []⟩] [6]) .ret) .skip)) (.seq (.seq (.rgd [⟨some 11, .loadN 7 (.v 3), none, []⟩, ⟨some 12, .mv (.v 1), none, []⟩, ⟨some 13, .call 20 [.v 11, .v 12], none, []⟩, ⟨some 14, .loadN 7 (.v 3), none, []⟩, ⟨some 15, .mv (.v 2), none, []⟩, ⟨some 16, .call 20 [.v 14, .v 15], none, []⟩, ⟨some 17, .bin .neq (.v 13) (.v 16), none, []⟩] [1, 2, 3, 17] [none, none, some [], some [0], none, none, none]) (.cond (.v 17) (.seq (.rgd [⟨some 18, .loadN 7 (.v 3), none, []⟩, ⟨some 19, .mv (.v 1), none, []⟩, ⟨some 20, .call 20 [.v 18, .v 19], none, []⟩, ⟨some 21, .loadN 7 (.v 3), none, []⟩, ⟨some 22, .mv (.v 2), none, []⟩, ⟨some 23, .call 20 [.v 21, .v 22], none, []⟩, ⟨some 24, .bin .lss (.v 20) (.v 23), none, []⟩, ⟨some 6, .mv (.v 24), none, []⟩] [6] [none, none, some [], some [0], none, none, none, none]) .ret) .skip)) (.seq (.seq (.rg [⟨some 25, .mv (.v 1), none, []⟩, ⟨some 26, .lenL (.v 25), none, [25]⟩, ⟨some 27, .mv (.v 2), none, []⟩, ⟨some 28, .lenL (.v 27), none, [27]⟩, ⟨some 29, .bin .neq (.v 26) (.v 28), none, [26, 28]⟩] [1, 2, 29]) (.cond (.v 29) (.seq (.rg [⟨some 30, .mv (.v 1), none, [1]⟩, ⟨some 31, .lenL (.v 30), none, [30]⟩, ⟨some 32, .mv (.v 2), none, [2]⟩, ⟨some 33, .lenL (.v 32), none, [32]⟩, ⟨some 34, .bin .lss (.v 31) (.v 33), none, [31, 33]⟩, ⟨some 6, .mv (.v 34), none, [34]⟩] [6]) .ret) .skip)) (.seq (.seq (.rg [⟨some 7, .mv (.c (.int .i64 0)), none, []⟩] [1, 2, 7]) (.block 0 (.loop GN))) (.seq (.rg [⟨some 6, .mv (.c (.bool false)), none, []⟩] [6]) .ret)))))) }
theorem Wn : QY Go.Proofs.Tryd.prog 91 XF = true := by kernel_rfl
/-- spec.l6Abs: function 92 -/
def UX : SFun := { n := 8, res := [.t 2], body := (.seq (.rg [⟨some 2, .mv (.c (.int .i64 0)), none, [2]⟩] [0]) (.seq (.seq (.rg [⟨some 3, .mv (.v 0), none, []⟩, ⟨some 4, .bin .lss (.v 3) (.c (.int .i64 0)), none, [3]⟩] [0, 4]) (.cond (.v 4) (.seq (.rg [⟨some 5, .mv (.v 0), none, [0]⟩, ⟨some 6, .neg (.v 5), none, [5]⟩, ⟨some 2, .mv (.v 6), none, [6]⟩] [2]) .ret) .skip)) (.seq (.rg [⟨some 7, .mv (.v 0), none, [0]⟩, ⟨some 2, .mv (.v 7), none, [7]⟩] [2]) .ret))) }
theorem Qci : QY Go.Proofs.Tryd.prog 92 UX = true := by kernel_rfl
/-- laws.toSkyBlock: function 93 -/
def GO : SFun := { n := 23, res := [.cN 2 6], body := (.seq (.rg [⟨some 1, .box 101 (.v 0), none, [0]⟩, ⟨some 2, .alloc 102 [.int .i64 0, .int .i64 0, .int .i64 0, .int .i64 0, .int .i64 0, .int .i64 0], none, []⟩] [1, 2]) (.seq (.rg [⟨some 3, .alloc 103 [.int .i64 0, .int .i64 0, .int .i64 0, .int .i64 0, .int .i64 0, .int .i64 0], none, []⟩] [1, 2, 3]) (.seq (.rg [⟨some 4, .faddr 0 (.v 1), none, []⟩, ⟨some 5, .load1 (.v 4), none, [4]⟩, ⟨some 6, .faddr 0 (.v 3), none, []⟩, ⟨none, .store 1 (.v 6) (.v 5), none, [5, 6]⟩] [1, 2, 3]) (.seq (.rg [⟨some 7, .faddr 1 (.v 1), none, []⟩, ⟨some 8, .load1 (.v 7), none, [7]⟩, ⟨some 9, .faddr 1 (.v 3), none, []⟩, ⟨none, .store 1 (.v 9) (.v 8), none, [8, 9]⟩] [1, 2, 3]) (.seq (.rg [⟨some 10, .faddr 2 (.v 1), none, []⟩, ⟨some 11, .load1 (.v 10), none, [10]⟩, ⟨some 12, .faddr 2 (.v 3), none, []⟩, ⟨none, .store 1 (.v 12) (.v 11), none, [11, 12]⟩] [1, 2, 3]) (.seq (.rg [⟨some 13, .faddr 3 (.v 1), none, []⟩, ⟨some 14, .load1 (.v 13), none, [13]⟩, ⟨some 15, .faddr 3 (.v 3), none, []⟩, ⟨none, .store 1 (.v 15) (.v 14), none, [14, 15]⟩] [1, 2, 3]) (.seq (.rg [⟨some 16, .faddr 4 (.v 1), none, []⟩, ⟨some 17, .load1 (.v 16), none, [16]⟩, ⟨some 18, .faddr 4 (.v 3), none, []⟩, ⟨none, .store 1 (.v 18) (.v 17), none, [17, 18]⟩] [1, 2, 3]) (.seq (.rg [⟨some 19, .faddr 5 (.v 1), none, [1]⟩, ⟨some 20, .load1 (.v 19), none, [19]⟩, ⟨some 21, .faddr 5 (.v 3), none, []⟩, ⟨none, .store 1 (.v 21) (.v 20), none, [20, 21]⟩] [2, 3]) (.seq (.rg [⟨some 22, .loadN 6 (.v 3), none, [3]⟩, ⟨none, .store 6 (.v 2) (.v 22), none, [22]⟩] [2]) .ret))))))))) }
theorem UE : QY Go.Proofs.Tryd.prog 93 GO = true := by kernel_rfl
/-- cmp.Compare[string]: function 94 -/
def Yg : SFun := { n := 20, res := [.t 4], body := (.seq (.rg [⟨some 4, .mv (.c (.int .i64 0)), none, [4]⟩] [0, 1]) (.seq (.rg [⟨some 7, .mv (.v 0), none, []⟩, ⟨some 8, .call 96 [.v 7], none, [7]⟩, ⟨some 5, .mv (.v 8), none, [8]⟩] [0, 1, 5]) (.seq (.rg [⟨some 9, .mv (.v 1), none, []⟩, ⟨some 10, .call 96 [.v 9], none, [9]⟩, ⟨some 6, .mv (.v 10), none, [10]⟩] [0, 1, 5, 6]) (.seq (.seq (.rg [⟨some 11, .mv (.v 5), none, [5]⟩] [0, 1, 6, 11]) (.cond (.v 11) (.seq (.seq (.rg [⟨some 12, .mv (.v 6), none, [6]⟩] [12]) (.cond (.v 12) (.seq (.rg [⟨some 4, .mv (.c (.int .i64 0)), none, []⟩] [4]) .ret) .skip)) (.seq (.rg [⟨some 4, .mv (.c (.int .i64 (-1))), none, []⟩] [4]) .ret)) .skip)) (.seq (.seq (.rg [⟨some 13, .mv (.v 6), none, [6]⟩] [0, 1, 13]) (.cond (.v 13) (.seq (.rg [⟨some 4, .mv (.c (.int .i64 1)), none, []⟩] [4]) .ret) .skip)) (.seq (.seq (.rg [⟨some 14, .mv (.v 0), none, []⟩, ⟨some 15, .mv (.v 1), none, []⟩, ⟨some 16, .bin .lss (.v 14) (.v 15), none, [14, 15]⟩] [0, 1, 16]) (.cond (.v 16) (.seq (.rg [⟨some 4, .mv (.c (.int .i64 (-1))), none, []⟩] [4]) .ret) .skip)) (.seq (.seq (.rg [⟨some 17, .mv (.v 0), none, [0]⟩, ⟨some 18, .mv (.v 1), none, [1]⟩, ⟨some 19, .bin .gtr (.v 17) (.v 18), none, [17, 18]⟩] [19]) (.cond (.v 19) (.seq (.rg [⟨some 4, .mv (.c (.int .i64 1)), none, []⟩] [4]) .ret) .skip)) (.seq (.rg [⟨some 4, .mv (.c (.int .i64 0)), none, []⟩] [4]) .ret)))))))) }
theorem X0 : QY Go.Proofs.Tryd.prog 94 Yg = true := by kernel_rfl
/-- laws.eqSkyBlock: function 95 -/
def GP : SFun := { n := 35, res := [.t 4], body := (.seq (.rg [⟨some 2, .box 102 (.v 0), none, [0]⟩, ⟨some 3, .box 103 (.v 1), none, [1]⟩, ⟨some 4, .mv (.c (.bool false)), none, [4]⟩] [2, 3]) (.seq (.seq (.rg [⟨some 5, .faddr 0 (.v 2), none, []⟩, ⟨some 6, .load1 (.v 5), none, [5]⟩, ⟨some 7, .faddr 0 (.v 3), none, []⟩, ⟨some 8, .load1 (.v 7), none, [7]⟩, ⟨some 9, .bin .neq (.v 6) (.v 8), none, [6, 8]⟩] [2, 3, 9]) (.cond (.v 9) (.seq (.rg [⟨some 4, .mv (.c (.bool false)), none, []⟩] [4]) .ret) .skip)) (.seq (.seq (.rg [⟨some 10, .faddr 1 (.v 2), none, []⟩, ⟨some 11, .load1 (.v 10), none, [10]⟩, ⟨some 12, .faddr 1 (.v 3), none, []⟩, ⟨some 13, .load1 (.v 12), none, [12]⟩, ⟨some 14, .bin .neq (.v 11) (.v 13), none, [11, 13]⟩] [2, 3, 14]) (.cond (.v 14) (.seq (.rg [⟨some 4, .mv (.c (.bool false)), none, []⟩] [4]) .ret) .skip)) (.seq (.seq (.rg [⟨some 15, .faddr 2 (.v 2), none, []⟩, ⟨some 16, .load1 (.v 15), none, [15]⟩, ⟨some 17, .faddr 2 (.v 3), none, []⟩, ⟨some 18, .load1 (.v 17), none, [17]⟩, ⟨some 19, .bin .neq (.v 16) (.v 18), none, [16, 18]⟩] [2, 3, 19]) (.cond (.v 19) (.seq (.rg [⟨some 4, .mv (.c (.bool false)), none, []⟩] [4]) .ret) .skip)) (.seq (.seq (.rg [⟨some 20, .faddr 3 (.v 2), none, []⟩, ⟨some 21, .load1 (.v 20), none, [20]⟩, ⟨some 22, .faddr 3 (.v 3), none, []⟩, ⟨some 23, .load1 (.v 22), none, [22]⟩, ⟨some 24, .bin .neq (.v 21) (.v 23), none, [21, 23]⟩] [2, 3, 24]) (.cond (.v 24) (.seq (.rg [⟨some 4, .mv (.c (.bool false)), none, []⟩] [4]) .ret) .skip)) (.seq (.seq (.rg [⟨some 25, .faddr 4 (.v 2), none, []⟩, ⟨some 26, .load1 (.v 25), none, [25]⟩, ⟨some 27, .faddr 4 (.v 3), none, []⟩, ⟨some 28, .load1 (.v 27), none, [27]⟩, ⟨some 29, .bin .neq (.v 26) (.v 28), none, [26, 28]⟩] [2, 3, 29]) (.cond (.v 29) (.seq (.rg [⟨some 4, .mv (.c (.bool false)), none, []⟩] [4]) .ret) .skip)) (.seq (.seq (.rg [⟨some 30, .faddr 5 (.v 2), none, [2]⟩, ⟨some 31, .load1 (.v 30), none, [30]⟩, ⟨some 32, .faddr 5 (.v 3), none, [3]⟩, ⟨some 33, .load1 (.v 32), none, [32]⟩, ⟨some 34, .bin .neq (.v 31) (.v 33), none, [31, 33]⟩] [34]) (.cond (.v 34) (.seq (.rg [⟨some 4, .mv (.c (.bool false)), none, []⟩] [4]) .ret) .skip)) (.seq (.rg [⟨some 4, .mv (.c (.bool true)), none, []⟩] [4]) .ret)))))))) }
theorem UF : QY Go.Proofs.Tryd.prog 95 GP = true := by kernel_rfl
/-- cmp.isNaN[string]: function 96 -/
def Gf : SFun := { n := 6, res := [.t 2], body := (.seq (.rg [⟨some 2, .mv (.c (.bool false)), none, [2]⟩] [0]) (.seq (.rg [⟨some 3, .mv (.v 0), none, []⟩, ⟨some 4, .mv (.v 0), none, [0]⟩, ⟨some 5, .bin .neq (.v 3) (.v 4), none, [3, 4]⟩, ⟨some 2, .mv (.v 5), none, [5]⟩] [2]) .ret)) }
theorem Ud : QY Go.Proofs.Tryd.prog 96 Gf = true := by kernel_rfl
end Go.Ve

namespace Go.Ve
open Go.Proofs
set_option linter.unusedSimpArgs false
set_option linter.unusedVariables false
set_option maxRecDepth 100000
noncomputable abbrev P := Go.Proofs.Tryd.prog
theorem hm : P.follows .mixedOrders = true := by kernel_rfl
theorem Qh1 (n lo hi : Int) (hp : True) : Contract P 48 [.int .i64 n, .int .i64 lo, .int .i64 hi] [] (.bool (decide (lo ≤ n ∧ n ≤ hi))) [] := by
  refine Qs (Env.nil P) hm QaV (Nat.le_of_ble_eq_true rfl) rfl ?_
  unfold ZZ
  simp only [QdL, QlH, Qhg, Qhh, QdM, Qai, QdN, QdO, Qhi, QlI, Qhj, Qhk, Qhl, Qhm, Qhn, Qho, Qhp, Qhq, Qhr, Qhs, Qht, Qaj, Qak, Qal, QdP, QdQ, QdR, Qam, Qan, Qao, Qap, Qaq, Qar, QdS, QdT, QdU, QdV, QdW, Vl, ZG, Qhf, Qaf, Qag, QdI, Qah, QdJ, QdK, Qae, Vk, QdF, QdG, Qhc, QdH, Qhd, Qhe, Qau, Qav, Qw, Qx, Vp, Vq, Qay, Qaz, Qaw, Qax, Qy, Qz, QlT, QlU, Qd0, Qd1, Qhv, QdX, QdY, QdZ, Qec, Qed, Qee, Vm, Vn, Vo, QlJ, QlK, QlL, QlM, Qas, Qat, QlO, QlN, QlP, Vr, Qd2, Qhw, Qd3, Qhx, Qhy, Qhz, QhA, Qd4, QaA, QhB, QaB, QaC, QaD, QaE, QaF, Vs, Vt, QaG, Qd5, QaH, Qd6, Qd7, Qd8, QlQ, QlR, QhC, QaI, QhD, Vu, Qc7, Qd9, Gp, QlS, QaJ, QhE, Qea, QhF, QhG, QlV, QhH, QhI, QlW, QhJ, Qeb, QhK, QlX, QhL, QhM, QlY, QlZ, Ql0, QhN, eff, Kd, J6, Qef, QhO, Qeg, Qeh, Qei, Ql1, Ql2, YO, Kq, QaK, Ql3, Ql4, Ql5, U0, pur, List.map, List.drop, List.take, List.length, List.foldl, List.append_eq, List.nil_append, List.cons_append, List.getD_cons_zero, List.getD_cons_succ, reduceIte, Nat.reduceEqDiff, Nat.reduceAdd, Nat.reduceLeDiff, true_and, and_true, Bool.not_true, Bool.not_false, Bool.and_true, Bool.true_and, Bool.and_self, reduceCtorEq, true_implies, false_implies, implies_true, decide_eq_true_eq, Option.map_some, Qe1, fpX, SOp.xs, oX, refs, KL, dom, QcJ, List.all_nil, List.all_cons, List.contains_cons, List.contains_nil, Nat.reduceBEq, Bool.or_false, Bool.false_or, List.append_nil, Bool.not_false, Bool.not_true, List.forall_mem_cons, fm0, List.set, Nat.reduceLT, Nat.reduceMod, ne_eq, not_false_eq_true, not_true_eq_false
, Ql6, QhP, QhQ, QhR, Qej, QaL, Qek, QhS, Qel, Qem, Ql7, Ql8, Ql9, QhT, QhU, QhV, QaM, QaN, decide_true, AV.bool.injEq, AV.int.injEq, Nat.reduceLeDiff, Bool.true_eq, Bool.false_eq, decide_eq_true_eq, decide_eq_false_iff_not]
  repeat' (first | apply And.intro | intro _)
  all_goals (first | trivial | omega | (simp_all; done) | (simp_all; omega))
def QG : List AV → Option (Prop × AV)
  | [.int .i64 n, .int .i64 lo, .int .i64 hi] => some (True, .bool (decide (lo ≤ n ∧ n ≤ hi)))
  | _ => none
theorem Kh : ∀ args p v, QG args = some (p, v) → p → Contract P 48 args [] v [] ∧ noref v = true ∧ No99 v := by
  intro args p v h1 h2
  unfold QG at h1
  split at h1
  · cases h1; exact ⟨Qh1 _ _ _ h2, rfl, trivial⟩
  · cases h1
theorem Qk1 (n lo hi : Int) (hp : True) : Contract P 65 [.int .i64 n, .int .i64 lo, .int .i64 hi] [] (.bool (decide (lo ≤ n ∧ n ≤ hi))) [] := by
  refine Qs (Env.nil P) hm Qdd (Nat.le_of_ble_eq_true rfl) rfl ?_
  unfold We
  simp only [QdL, QlH, Qhg, Qhh, QdM, Qai, QdN, QdO, Qhi, QlI, Qhj, Qhk, Qhl, Qhm, Qhn, Qho, Qhp, Qhq, Qhr, Qhs, Qht, Qaj, Qak, Qal, QdP, QdQ, QdR, Qam, Qan, Qao, Qap, Qaq, Qar, QdS, QdT, QdU, QdV, QdW, Vl, ZG, Qhf, Qaf, Qag, QdI, Qah, QdJ, QdK, Qae, Vk, QdF, QdG, Qhc, QdH, Qhd, Qhe, Qau, Qav, Qw, Qx, Vp, Vq, Qay, Qaz, Qaw, Qax, Qy, Qz, QlT, QlU, Qd0, Qd1, Qhv, QdX, QdY, QdZ, Qec, Qed, Qee, Vm, Vn, Vo, QlJ, QlK, QlL, QlM, Qas, Qat, QlO, QlN, QlP, Vr, Qd2, Qhw, Qd3, Qhx, Qhy, Qhz, QhA, Qd4, QaA, QhB, QaB, QaC, QaD, QaE, QaF, Vs, Vt, QaG, Qd5, QaH, Qd6, Qd7, Qd8, QlQ, QlR, QhC, QaI, QhD, Vu, Qc7, Qd9, Gp, QlS, QaJ, QhE, Qea, QhF, QhG, QlV, QhH, QhI, QlW, QhJ, Qeb, QhK, QlX, QhL, QhM, QlY, QlZ, Ql0, QhN, eff, Kd, J6, Qef, QhO, Qeg, Qeh, Qei, Ql1, Ql2, YO, Kq, QaK, Ql3, Ql4, Ql5, U0, pur, List.map, List.drop, List.take, List.length, List.foldl, List.append_eq, List.nil_append, List.cons_append, List.getD_cons_zero, List.getD_cons_succ, reduceIte, Nat.reduceEqDiff, Nat.reduceAdd, Nat.reduceLeDiff, true_and, and_true, Bool.not_true, Bool.not_false, Bool.and_true, Bool.true_and, Bool.and_self, reduceCtorEq, true_implies, false_implies, implies_true, decide_eq_true_eq, Option.map_some, Qe1, fpX, SOp.xs, oX, refs, KL, dom, QcJ, List.all_nil, List.all_cons, List.contains_cons, List.contains_nil, Nat.reduceBEq, Bool.or_false, Bool.false_or, List.append_nil, Bool.not_false, Bool.not_true, List.forall_mem_cons, fm0, List.set, Nat.reduceLT, Nat.reduceMod, ne_eq, not_false_eq_true, not_true_eq_false
, Ql6, QhP, QhQ, QhR, Qej, QaL, Qek, QhS, Qel, Qem, Ql7, Ql8, Ql9, QhT, QhU, QhV, QaM, QaN, decide_true, AV.bool.injEq, AV.int.injEq, Nat.reduceLeDiff, Bool.true_eq, Bool.false_eq, decide_eq_true_eq, decide_eq_false_iff_not]
  repeat' (first | apply And.intro | intro _)
  all_goals (first | trivial | omega | (simp_all; done) | (simp_all; omega))
def QZ : List AV → Option (Prop × AV)
  | [.int .i64 n, .int .i64 lo, .int .i64 hi] => some (True, .bool (decide (lo ≤ n ∧ n ≤ hi)))
  | _ => none
theorem YK : ∀ args p v, QZ args = some (p, v) → p → Contract P 65 args [] v [] ∧ noref v = true ∧ No99 v := by
  intro args p v h1 h2
  unfold QZ at h1
  split at h1
  · cases h1; exact ⟨Qk1 _ _ _ h2, rfl, trivial⟩
  · cases h1
theorem Qk2 (a b : Int) (hp : -9223372036854775808 ≤ a - b ∧ a - b ≤ 9223372036854775807 ∧ -9223372036854775808 ≤ b - a ∧ b - a ≤ 9223372036854775807) : Contract P 58 [.int .i64 a, .int .i64 b] [] (.int .i64 (max (a - b) (b - a))) [] := by
  refine Qs (Env.nil P) hm Qdc (Nat.le_of_ble_eq_true rfl) rfl ?_
  unfold Wd
  simp only [QdL, QlH, Qhg, Qhh, QdM, Qai, QdN, QdO, Qhi, QlI, Qhj, Qhk, Qhl, Qhm, Qhn, Qho, Qhp, Qhq, Qhr, Qhs, Qht, Qaj, Qak, Qal, QdP, QdQ, QdR, Qam, Qan, Qao, Qap, Qaq, Qar, QdS, QdT, QdU, QdV, QdW, Vl, ZG, Qhf, Qaf, Qag, QdI, Qah, QdJ, QdK, Qae, Vk, QdF, QdG, Qhc, QdH, Qhd, Qhe, Qau, Qav, Qw, Qx, Vp, Vq, Qay, Qaz, Qaw, Qax, Qy, Qz, QlT, QlU, Qd0, Qd1, Qhv, QdX, QdY, QdZ, Qec, Qed, Qee, Vm, Vn, Vo, QlJ, QlK, QlL, QlM, Qas, Qat, QlO, QlN, QlP, Vr, Qd2, Qhw, Qd3, Qhx, Qhy, Qhz, QhA, Qd4, QaA, QhB, QaB, QaC, QaD, QaE, QaF, Vs, Vt, QaG, Qd5, QaH, Qd6, Qd7, Qd8, QlQ, QlR, QhC, QaI, QhD, Vu, Qc7, Qd9, Gp, QlS, QaJ, QhE, Qea, QhF, QhG, QlV, QhH, QhI, QlW, QhJ, Qeb, QhK, QlX, QhL, QhM, QlY, QlZ, Ql0, QhN, eff, Kd, J6, Qef, QhO, Qeg, Qeh, Qei, Ql1, Ql2, YO, Kq, QaK, Ql3, Ql4, Ql5, U0, pur, List.map, List.drop, List.take, List.length, List.foldl, List.append_eq, List.nil_append, List.cons_append, List.getD_cons_zero, List.getD_cons_succ, reduceIte, Nat.reduceEqDiff, Nat.reduceAdd, Nat.reduceLeDiff, true_and, and_true, Bool.not_true, Bool.not_false, Bool.and_true, Bool.true_and, Bool.and_self, reduceCtorEq, true_implies, false_implies, implies_true, decide_eq_true_eq, Option.map_some, Qe1, fpX, SOp.xs, oX, refs, KL, dom, QcJ, List.all_nil, List.all_cons, List.contains_cons, List.contains_nil, Nat.reduceBEq, Bool.or_false, Bool.false_or, List.append_nil, Bool.not_false, Bool.not_true, List.forall_mem_cons, fm0, List.set, Nat.reduceLT, Nat.reduceMod, ne_eq, not_false_eq_true, not_true_eq_false
, Ql6, QhP, QhQ, QhR, Qej, QaL, Qek, QhS, Qel, Qem, Ql7, Ql8, Ql9, QhT, QhU, QhV, QaM, QaN, decide_true, AV.bool.injEq, AV.int.injEq, Nat.reduceLeDiff, Bool.true_eq, Bool.false_eq, decide_eq_true_eq, decide_eq_false_iff_not]
  repeat' (first | apply And.intro | intro _)
  all_goals (first | trivial | omega | (simp_all; done) | (simp_all; omega))
def Yh : List AV → Option (Prop × AV)
  | [.int .i64 a, .int .i64 b] => some (-9223372036854775808 ≤ a - b ∧ a - b ≤ 9223372036854775807 ∧ -9223372036854775808 ≤ b - a ∧ b - a ≤ 9223372036854775807, .int .i64 (max (a - b) (b - a)))
  | _ => none
theorem Qk3 : ∀ args p v, Yh args = some (p, v) → p → Contract P 58 args [] v [] ∧ noref v = true ∧ No99 v := by
  intro args p v h1 h2
  unfold Yh at h1
  split at h1
  · cases h1; exact ⟨Qk2 _ _ h2, rfl, trivial⟩
  · cases h1
structure Box6 where
  x : Int
  y : Int
  l : Int
  h : Int
  i : Int
  o : Int
  deriving Inhabited
def Box6.row (b : Box6) : List AV := [.int .i64 b.x, .int .i64 b.y, .int .i64 b.l, .int .i64 b.h, .int .i64 b.i, .int .i64 b.o]
def Box6.ok (b : Box6) : Prop := (0 ≤ b.x ∧ b.x ≤ 15) ∧ (0 ≤ b.y ∧ b.y ≤ 15) ∧ 0 ≤ b.l ∧ b.l ≤ b.h ∧ b.h ≤ 6 ∧ 0 ≤ b.i ∧ b.i ≤ b.o ∧ b.o ≤ 10000
instance (b : Box6) : Decidable b.ok := by unfold Box6.ok; infer_instance
structure Stp7 where
  x : Int
  y : Int
  l : Int
  h : Int
  f : Int
  b : Int
  hold : Bool
  deriving Inhabited
def Stp7.row (s : Stp7) : List AV := [.int .i64 s.x, .int .i64 s.y, .int .i64 s.l, .int .i64 s.h, .int .i64 s.f, .int .i64 s.b, .bool s.hold]
def Stp7.ok (s : Stp7) : Prop := (0 ≤ s.x ∧ s.x ≤ 15) ∧ (0 ≤ s.y ∧ s.y ≤ 15) ∧ 0 ≤ s.l ∧ s.l ≤ s.h ∧ s.h ≤ 6 ∧ 0 ≤ s.f ∧ s.f ≤ s.b ∧ s.b ≤ 10000
instance (s : Stp7) : Decidable s.ok := by unfold Stp7.ok; infer_instance
def Stp7.nb (a s : Stp7) : Prop := (-1 ≤ a.x - s.x ∧ a.x - s.x ≤ 1) ∧ (-1 ≤ a.y - s.y ∧ a.y - s.y ≤ 1) ∧ ¬ (a.x = s.x ∧ a.y = s.y) ∧ a.l ≤ s.h ∧ s.l ≤ a.h
instance (a s : Stp7) : Decidable (a.nb s) := by unfold Stp7.nb; infer_instance
end Go.Ve

namespace Go.Ve
open Go.Proofs
set_option linter.unusedSimpArgs false
set_option linter.unusedVariables false
set_option maxRecDepth 100000
theorem Qa (i : Nat) : ((i : Int) - 1).toNat = i - 1 := by omega
def Wo (q s : Int) (l : List Stp7) (f b : Int) : Prop :=
  (1 ≤ q ∧ q ≤ s ∧ s ≤ 50) ∧ (1 ≤ l.length ∧ l.length ≤ 40) ∧ (0 ≤ f ∧ f ≤ b ∧ b ≤ 10000) ∧ ∀ i, i < l.length → (l.getD i default).ok ∧ (0 < i → Stp7.nb (l.getD (i - 1) default) (l.getD i default))
instance (q s : Int) (l : List Stp7) (f b : Int) : Decidable (Wo q s l f b) := by unfold Wo; infer_instance
end Go.Ve

namespace Go.Ve
open Go.Proofs
set_option linter.unusedSimpArgs false
set_option linter.unusedVariables false
set_option maxRecDepth 100000
end Go.Ve

namespace Go.Ve
open Go.Proofs
set_option linter.unusedSimpArgs false
set_option linter.unusedVariables false
set_option maxRecDepth 100000
structure Path5 where
  q : Int
  s : Int
  l : List Stp7
  f : Int
  b : Int
  deriving Inhabited
def Qjy (l : List Box6) (i : Nat) : Stp7 := ⟨(l.getD i default).x, (l.getD i default).y, (l.getD i default).l, (l.getD i default).h, (l.getD i default).i, if 0 < i then min (l.getD i default).o ((l.getD (i - 1) default).o + 1) else (l.getD i default).o, false⟩
def Qmr (l : List Box6) (i : Nat) : Int := if 0 < i then (l.getD (i - 1) default).i else 0
def Qms (l : List Box6) (i : Nat) : Int := if 0 < i then (l.getD (i - 1) default).o + 1 else 0
def Qmi (q s : Int) (l : List Box6) (i : Nat) : Path5 := ⟨q, s, (List.range i).map (Qjy l), Qmr l i, Qms l i⟩
def Qk4 (q s : Int) (l : List Box6) : Prop := (∀ i, i < l.length → (l.getD i default).ok) ∧ Wo q s (Qmi q s l l.length).l (Qmr l l.length) (Qms l l.length)
instance (q s : Int) (l : List Box6) : Decidable (Qk4 q s l) := by unfold Qk4; infer_instance
end Go.Ve

namespace Go.Ve
open Go.Proofs
set_option linter.unusedSimpArgs false
set_option linter.unusedVariables false
set_option maxRecDepth 100000
def Path5.low (p : Path5) (k : Nat) : Int := if k < p.l.length then (p.l.getD k default).f else p.f
def Path5.high (p : Path5) (k : Nat) : Int := if k < p.l.length then (p.l.getD k default).b else p.b
def Path5.most (p : Path5) (k : Nat) : Int := if (p.l.getD k default).hold then 10000 else p.s
structure Span2 where
  lo : Int
  hi : Int
  deriving Inhabited
def Span2.row (s : Span2) : List AV := [.int .i64 s.lo, .int .i64 s.hi]
/-- Ahead: the earliest and the latest, from the first step on. -/
def Path5.fwd (p : Path5) : Nat → Span2
  | 0 => ⟨p.low 0, p.high 0⟩
  | k + 1 => ⟨max (p.low (k + 1)) ((p.fwd k).lo + p.q), min (p.high (k + 1)) ((p.fwd k).hi + p.most k)⟩
/-- Back again, from the last one. -/
def Path5.bwd (p : Path5) : Nat → Span2
  | 0 => p.fwd p.l.length
  | d + 1 => ⟨max (p.fwd (p.l.length - (d + 1))).lo ((p.bwd d).lo - p.most (p.l.length - (d + 1))), min (p.fwd (p.l.length - (d + 1))).hi ((p.bwd d).hi - p.q)⟩
def Path5.span (p : Path5) (k : Nat) : Span2 := p.bwd (p.l.length - k)
def Path5.can (p : Path5) : Prop := ∀ k, k < p.l.length + 1 → (p.span k).lo ≤ (p.span k).hi
instance (p : Path5) : Decidable p.can := by unfold Path5.can; infer_instance
def Path5.spans (p : Path5) : List Span2 := if p.can then (List.range (p.l.length + 1)).map p.span else []
/-- What the passes ask of the numbers. -/
structure Path5.calm (p : Path5) : Prop where
  q : 0 ≤ p.q ∧ p.q ≤ 50
  s : 0 ≤ p.s ∧ p.s ≤ 50
  n : p.l.length ≤ 1048576
  lo : ∀ k, k ≤ p.l.length → 0 ≤ p.low k
  hi : ∀ k, k ≤ p.l.length → p.high k ≤ 10000
theorem Path5.calm.most {p : Path5} (h : p.calm) (k : Nat) : 0 ≤ p.most k ∧ p.most k ≤ 10000 := by
  unfold Path5.most
  have := h.s
  split <;> omega
end Go.Ve

namespace Go.Ve
open Go.Proofs
set_option linter.unusedSimpArgs false
set_option linter.unusedVariables false
set_option maxRecDepth 100000
def QS (n : Int) : List AV := [.int .i64 n]
def unI : List AV → Int
  | [.int _ n] => n
  | _ => 0
theorem QU (l : List Int) : (l.map QS).map unI = l := by
  rw [List.map_map]; exact List.map_id'' (fun s => rfl) l
/-- What the program starts from. -/
def Path5.ini (p : Path5) (bg : List Int) (k : Nat) : Span2 := if k < bg.length then ⟨max (p.low k) (bg.getD k default), min (p.high k) (bg.getD k default)⟩ else ⟨p.low k, p.high k⟩
/-- Ahead, as the program does it. -/
def Path5.wf (p : Path5) (bg : List Int) : Nat → Span2
  | 0 => p.ini bg 0
  | k + 1 => ⟨max (p.ini bg (k + 1)).lo (IntKind.i64.wrap ((p.wf bg k).lo + p.q)), if (p.l.getD k default).hold then (p.ini bg (k + 1)).hi else min (p.ini bg (k + 1)).hi (IntKind.i64.wrap ((p.wf bg k).hi + p.s))⟩
/-- Back again, as the program does it. -/
def Path5.wb (p : Path5) (bg : List Int) : Nat → Span2
  | 0 => p.wf bg p.l.length
  | d + 1 => ⟨if (p.l.getD (p.l.length - (d + 1)) default).hold then (p.wf bg (p.l.length - (d + 1))).lo else max (p.wf bg (p.l.length - (d + 1))).lo (IntKind.i64.wrap ((p.wb bg d).lo - p.s)), min (p.wf bg (p.l.length - (d + 1))).hi (IntKind.i64.wrap ((p.wb bg d).hi - p.q))⟩
def Path5.wsp (p : Path5) (bg : List Int) (j : Nat) : Span2 := p.wb bg (p.l.length - j)
def Path5.wcan (p : Path5) (bg : List Int) : Prop := ∀ k, k < p.l.length + 1 → (p.wsp bg k).lo ≤ (p.wsp bg k).hi
instance (p : Path5) (bg : List Int) : Decidable (p.wcan bg) := by unfold Path5.wcan; infer_instance
end Go.Ve

namespace Go.Ve
open Go.Proofs
set_option linter.unusedSimpArgs false
set_option linter.unusedVariables false
set_option maxRecDepth 100000
def Qh2 (p : Path5) (bg : List Int) (k j : Nat) : Stp7 := if j < k then { p.l.getD j default with f := max (p.l.getD j default).f (bg.getD j default), b := min (p.l.getD j default).b (bg.getD j default) } else p.l.getD j default
def Path5.held (p : Path5) (bg : List Int) : Path5 := ⟨p.q, p.s, (List.range p.l.length).map (Qh2 p bg bg.length), p.f, p.b⟩
end Go.Ve

namespace Go.Ve
open Go.Proofs
set_option linter.unusedSimpArgs false
set_option linter.unusedVariables false
set_option maxRecDepth 100000
def Path5.begun (p : Path5) (bg : List Int) : Prop := Wo p.q p.s p.l p.f p.b ∧ bg.length ≤ p.l.length ∧ (p.held bg).can
instance (p : Path5) (bg : List Int) : Decidable (p.begun bg) := by unfold Path5.begun; infer_instance
def Path5.next (p : Path5) (bg : List Int) : Span2 := if p.begun bg then (p.held bg).span bg.length else ⟨0, 0⟩
end Go.Ve

namespace Go.Ve
set_option linter.unusedSimpArgs false
set_option linter.unusedVariables false
/-! The program's passes and the reference's come to the same. -/
section
variable {p : Path5} {bg : List Int}
end
end Go.Ve

namespace Go.Ve
open Go.Proofs
set_option linter.unusedSimpArgs false
set_option linter.unusedVariables false
set_option maxRecDepth 100000
end Go.Ve

namespace Go.Ve
open Go.Proofs
set_option linter.unusedSimpArgs false
set_option linter.unusedVariables false
set_option maxRecDepth 100000
def Path5.fit (p : Path5) : Prop := Wo p.q p.s p.l p.f p.b ∧ p.can
instance (p : Path5) : Decidable p.fit := by unfold Path5.fit; infer_instance
end Go.Ve

namespace Go.Ve
open Go.Proofs
set_option linter.unusedSimpArgs false
set_option linter.unusedVariables false
set_option maxRecDepth 100000
end Go.Ve

namespace Go.Ve
open Go.Proofs
set_option linter.unusedSimpArgs false
set_option linter.unusedVariables false
set_option maxRecDepth 100000
theorem WZ {α : Type} [Inhabited α] {a b : List α} (hl : a.length = b.length) (h : ∀ j, j < a.length → a.getD j default = b.getD j default) : a = b := by
  refine List.ext_getElem hl fun j h1 h2 => ?_
  have := h j h1
  simpa [h1, h2] using this
end Go.Ve

namespace Go.Ve
open Go.Proofs
set_option linter.unusedSimpArgs false
set_option linter.unusedVariables false
set_option maxRecDepth 100000
end Go.Ve

namespace Go.Ve
open Go.Proofs
set_option linter.unusedSimpArgs false
set_option linter.unusedVariables false
set_option maxRecDepth 100000
def Path5.tail (p : Path5) (k : Nat) : Path5 := { p with l := p.l.drop k }
def Path5.after (p : Path5) (now : Int) : Path5 := if 1 < p.l.length then { p with l := p.l.set 1 { p.l.getD 1 default with f := max (p.l.getD 1 default).f (now + 1) } } else { p with f := max p.f (now + 1) }
end Go.Ve

namespace Go.Ve
set_option linter.unusedSimpArgs false
set_option linter.unusedVariables false
/-! The spans are those of flights. -/
section
variable {p : Path5}
end

/-! A path begun later, or at a later step. -/
/-- The first step's ticks set anew. -/
def Path5.first (p : Path5) (f b : Int) : Path5 := { p with l := p.l.set 0 { p.l.getD 0 default with f := f, b := b } }
def Path5.rest (p : Path5) (k : Nat) (f b now : Int) : Path5 := ((p.tail k).first f b).after now
section
variable {p : Path5} {k : Nat} {f b now : Int}
end
/-! Waiting ahead of the first step. -/
def Path5.wait (p : Path5) (now : Int) : Path5 := { p with l := p.l.set 0 { p.l.getD 0 default with f := max (p.l.getD 0 default).f (now + 1) } }
end Go.Ve

namespace Go.Ve
open Go.Proofs
set_option linter.unusedSimpArgs false
set_option linter.unusedVariables false
set_option maxRecDepth 100000
def Path5.restAt (p : Path5) (k e now : Int) : Path5 := p.rest k.toNat (max (p.l.getD k.toNat default).f e) (min (p.l.getD k.toNat default).b e) now
def Path5.goes (p : Path5) (k e now : Int) : Prop := Wo p.q p.s p.l p.f p.b ∧ (0 ≤ k ∧ k < p.l.length) ∧ (0 ≤ e ∧ e ≤ now ∧ now ≤ 10000) ∧ (p.restAt k e now).can
instance (p : Path5) (k e now : Int) : Decidable (p.goes k e now) := by unfold Path5.goes; infer_instance
end Go.Ve

namespace Go.Ve
open Go.Proofs
set_option linter.unusedSimpArgs false
set_option linter.unusedVariables false
set_option maxRecDepth 100000
end Go.Ve

namespace Go.Ve
open Go.Proofs
set_option linter.unusedSimpArgs false
set_option linter.unusedVariables false
set_option maxRecDepth 100000
/-- The aircraft can stay where it is behind now. -/
def Path5.stays (p : Path5) (bg : List Int) (now : Int) : Prop := if bg.length = 0 then Wo p.q p.s p.l p.f p.b ∧ (p.wait now).can else p.goes ((bg.length : Int) - 1) (bg.getD (bg.length - 1) default) now
instance (p : Path5) (bg : List Int) (now : Int) : Decidable (p.stays bg now) := by unfold Path5.stays; infer_instance
end Go.Ve

namespace Go.Ve
open Go.Proofs
set_option linter.unusedSimpArgs false
set_option linter.unusedVariables false
set_option maxRecDepth 100000
def Path5.must (p : Path5) (bg : List Int) (now : Int) : Prop := p.begun bg ∧ ((p.next bg).lo ≤ now ∧ now ≤ (p.next bg).hi) ∧ ¬ p.stays bg now
instance (p : Path5) (bg : List Int) (now : Int) : Decidable (p.must bg now) := by unfold Path5.must; infer_instance
end Go.Ve

namespace Go.Ve
open Go.Proofs
set_option linter.unusedSimpArgs false
set_option linter.unusedVariables false
set_option maxRecDepth 100000
def Xk (a : Int) (n : Nat) : Int := if a - n < 0 then -1 else a - n
theorem Box6.eq_iff (a b : Box6) : a = b ↔ a.x = b.x ∧ a.y = b.y ∧ a.l = b.l ∧ a.h = b.h ∧ a.i = b.i ∧ a.o = b.o := ⟨fun h => by subst h; exact ⟨rfl, rfl, rfl, rfl, rfl, rfl⟩, fun h => by
  cases a; cases b; simp only at h; simp only [Box6.mk.injEq]; exact h⟩
instance : DecidableEq Box6 := fun a b => decidable_of_iff _ (Box6.eq_iff a b).symm
end Go.Ve

namespace Go.Ve
open Go.Proofs
set_option linter.unusedSimpArgs false
set_option linter.unusedVariables false
set_option maxRecDepth 100000
structure Kind2 where
  q : Int
  s : Int
  deriving Inhabited
theorem Xe (l : List Int) : Jt (l.map QS) := by
  induction l with
  | nil => trivial
  | cons x l ih => exact ⟨⟨trivial, trivial⟩, ih⟩
theorem J3 (l : List Box6) : Jt (l.map Box6.row) := by
  induction l with
  | nil => trivial
  | cons x l ih => exact ⟨⟨trivial, trivial, trivial, trivial, trivial, trivial, trivial⟩, ih⟩
theorem Kind2.eq_iff (a b : Kind2) : a = b ↔ a.q = b.q ∧ a.s = b.s := ⟨fun h => by subst h; exact ⟨rfl, rfl⟩, fun h => by
  cases a; cases b; simp only at h; simp only [Kind2.mk.injEq]; exact h⟩
instance : DecidableEq Kind2 := fun a b => decidable_of_iff _ (Kind2.eq_iff a b).symm
end Go.Ve

namespace Go.Ve
noncomputable section
open Go.Proofs
set_option linter.unusedSimpArgs false
set_option linter.unusedVariables false
set_option maxRecDepth 100000
structure Zone where
  nm : ByteArray
  x0 : Int
  y0 : Int
  x1 : Int
  y1 : Int
  deriving Inhabited, DecidableEq
def Zone.row (s : Zone) : List AV := [.str s.nm, .int .i64 s.x0, .int .i64 s.y0, .int .i64 s.x1, .int .i64 s.y1]
def Qf8 : List AV → Zone
  | [.str vnm, .int .i64 vx0, .int .i64 vy0, .int .i64 vx1, .int .i64 vy1] => (Zone.mk vnm vx0 vy0 vx1 vy1)
  | _ => default
theorem Qfc (s : Zone) : Qf8 (Zone.row s) = s := by
  cases s; simp only [Zone.row, Qf8]
theorem Qo (l : List Zone) : (l.map Zone.row).map Qf8 = l := by
  rw [List.map_map]; exact List.map_id'' (fun s => Qfc s) l
theorem Qe (s : Zone) : (Zone.mk s.nm s.x0 s.y0 s.x1 s.y1) = s := (rfl)
structure Word where
  kd : Int
  fr : ByteArray
  dst : ByteArray
  fl : ByteArray
  nr : Int
  la : Int
  tn : Int
  tu : List Box6
  deriving Inhabited, DecidableEq
def Word.row (t : Nat) (s : Word) : List AV := [.int .i64 s.kd, .str s.fr, .str s.dst, .str s.fl, .int .i64 s.nr, .int .i64 s.la, .int .i64 s.tn, .sl t 6 (s.tu.map Box6.row)]
structure Own where
  fl : ByteArray
  st : Int
  tn : Int
  dst : ByteArray
  la : Int
  nr : Int
  tu : List Box6
  wi : Int
  nx : List Box6
  gr : List ByteArray
  sent : Bool
  deriving Inhabited, DecidableEq
def Own.row (t : Nat) (s : Own) : List AV := [.str s.fl, .int .i64 s.st, .int .i64 s.tn, .str s.dst, .int .i64 s.la, .int .i64 s.nr, .sl t 6 (s.tu.map Box6.row), .int .i64 s.wi, .sl t 6 (s.nx.map Box6.row), .sl t 1 (s.gr.map QF), .bool s.sent]
structure Part where
  fl : ByteArray
  nr : Int
  bx : List Box6
  deriving Inhabited, DecidableEq
def Part.row (t : Nat) (s : Part) : List AV := [.str s.fl, .int .i64 s.nr, .sl t 6 (s.bx.map Box6.row)]
structure Seen where
  fl : ByteArray
  nr : Int
  deriving Inhabited, DecidableEq
def Seen.row (s : Seen) : List AV := [.str s.fl, .int .i64 s.nr]
structure Book where
  own : List Own
  parts : List Part
  seen : List Seen
  deriving Inhabited, DecidableEq
def Book.row (t : Nat) (s : Book) : List AV := [.sl t 11 (s.own.map (Own.row t)), .sl t 3 (s.parts.map (Part.row t)), .sl t 2 (s.seen.map Seen.row)]
structure Sector where
  up : Bool
  mo : List Own
  mp : List Part
  ms : List Seen
  dn : List Own
  dp : List Part
  ds : List Seen
  ot : List Word
  deriving Inhabited, DecidableEq
def Sector.row (t : Nat) (s : Sector) : List AV := [.bool s.up, .sl t 11 (s.mo.map (Own.row t)), .sl t 3 (s.mp.map (Part.row t)), .sl t 2 (s.ms.map Seen.row), .sl t 11 (s.dn.map (Own.row t)), .sl t 3 (s.dp.map (Part.row t)), .sl t 2 (s.ds.map Seen.row), .sl t 8 (s.ot.map (Word.row t))]
structure HCraft where
  nm : ByteArray
  nr : Int
  no : Int
  tu : List Box6
  deriving Inhabited, DecidableEq
def HCraft.row (t : Nat) (s : HCraft) : List AV := [.str s.nm, .int .i64 s.nr, .int .i64 s.no, .sl t 6 (s.tu.map Box6.row)]
structure World where
  zones : List Zone
  secs : List Sector
  crafts : List HCraft
  radio : List Word
  deriving Inhabited, DecidableEq
def World.row (t : Nat) (s : World) : List AV := [.sl t 5 (s.zones.map Zone.row), .sl t 8 (s.secs.map (Sector.row t)), .sl t 4 (s.crafts.map (HCraft.row t)), .sl t 8 (s.radio.map (Word.row t))]
theorem Qh3 (s : ByteArray) : Contract P 49 [.str s] [] (.bool (decide (JJ s))) [] := by
  refine Qs (Env.nil P) hm QaW (Nat.le_of_ble_eq_true rfl) rfl ?_; unfold Z0; simp (config := { maxSteps := 2000000 }) only [bitvec_to_nat, reduceIte, Nat.reduceEqDiff, Nat.reduceAdd, Nat.reduceLeDiff, reduceCtorEq, Nat.reduceBEq, Nat.reduceLT, Nat.reduceMod, List.forall_mem_cons]
  refine ⟨fun h1 => ?_, fun h1 => ⟨fun h2 => ?_, fun h2 => ?_⟩⟩
  · grind [JJ]
  · grind [JJ]
  · refine QP (fun i : Nat => [(3, .int .i64 i)]) (fun _ => []) (fun i => i ≤ s.toList.length ∧ ∀ j, j < i → V3 (s.toList.getD j 0)) (fun i => s.toList.length - i) (0) (by simp only [Jz, JA, JB, JC, Qw, Qx, Qy, Qz, reduceIte, Nat.reduceEqDiff]; exact ⟨by repeat' (first | exact trivial | refine ⟨.inr rfl, ?_⟩), by repeat' (first | exact trivial | refine ⟨rfl, ?_⟩), by first | rfl | simp [closedB, Qr, Qp, Qt, dom, Qf, *], by first | rfl | simp [keepB, dom]⟩) ?_ ?_
    · exact ⟨Nat.zero_le _, by intro j hj; omega⟩
    intro i hi NX hN
    unfold Xx; simp (config := { maxSteps := 2000000 }) only [bitvec_to_nat, reduceIte, Nat.reduceEqDiff, Nat.reduceAdd, Nat.reduceLeDiff, reduceCtorEq, Nat.reduceBEq, Nat.reduceLT, Nat.reduceMod, List.forall_mem_cons]
    repeat' (first | apply And.intro | intro _)
    all_goals first
      | omega
      | (refine hN (i + 1) _ (by simp only [Jz, JA, JB, JC, Qw, Qx, Qy, Qz, reduceIte, Nat.reduceEqDiff]; exact ⟨by repeat' (first | exact trivial | refine ⟨.inr rfl, ?_⟩), by repeat' (first | exact trivial | refine ⟨rfl, ?_⟩), by first | rfl | simp [closedB, Qr, Qp, Qt, dom, Qf, *], by first | rfl | simp [keepB, dom]⟩) ?_ ?_
         · exact ⟨by omega, Ja hi.2 (by grind [V3])⟩
         · omega)
      | grind [JJ, V3]
end
end Go.Ve

namespace Go.Ve
noncomputable section
open Go.Proofs
set_option linter.unusedSimpArgs false
set_option linter.unusedVariables false
set_option maxRecDepth 100000
theorem Qh {α : Type} {f : α → List AV} {l : List α} {n : Nat} : List.take n (List.map f l) = List.map f (List.take n l) := (List.map_take).symm
theorem Qj {α : Type} {f : α → List AV} {l : List α} {n : Nat} : List.drop n (List.map f l) = List.map f (List.drop n l) := (List.map_drop).symm
def QI : List AV → Option (Prop × AV)
  | [.str s] => some ((True) ∧ (True), .bool (decide (JJ s)))
  | _ => none
theorem Gg : ∀ args p v, QI args = some (p, v) → p → Contract P 49 args [] v [] ∧ noref v = true ∧ No99 v := by
  intro args p v h1 h2
  unfold QI at h1
  split at h1
  · rename_i s
    cases h1
    obtain ⟨_, HP⟩ := h2
    have := Qh3 s
    exact ⟨this, rfl, trivial⟩
  · cases h1
def Zone.ok (z : Zone) : Prop := JJ z.nm ∧ (0 ≤ z.x0 ∧ z.x0 ≤ z.x1 ∧ z.x1 < 16) ∧ (0 ≤ z.y0 ∧ z.y0 ≤ z.y1 ∧ z.y1 < 16)
def Zone.meet (o z : Zone) : Prop := o.x0 ≤ z.x1 ∧ z.x0 ≤ o.x1 ∧ o.y0 ≤ z.y1 ∧ z.y0 ≤ o.y1
def Qk5 (zs : List Zone) (i : Nat) : Prop := (zs.getD i default).ok ∧ (0 < i → slt (zs.getD (i - 1) default).nm (zs.getD i default).nm) ∧ ∀ k, k < i → ¬ (zs.getD k default).meet (zs.getD i default)
def Qjz (zs : List Zone) : Prop := (1 ≤ zs.length ∧ zs.length ≤ 4) ∧ ∀ i, i < zs.length → Qk5 zs i
noncomputable instance (zs : List Zone) : Decidable (Qjz zs) := Classical.propDecidable _
end
end Go.Ve

namespace Go.Ve
noncomputable section
open Go.Proofs
set_option linter.unusedSimpArgs false
set_option linter.unusedVariables false
set_option maxRecDepth 100000
structure Pt where
  nm : ByteArray
  x : Int
  y : Int
  deriving Inhabited, DecidableEq
def Pt.row (s : Pt) : List AV := [.str s.nm, .int .i64 s.x, .int .i64 s.y]
def QO : List AV → Pt
  | [.str vnm, .int .i64 vx, .int .i64 vy] => (Pt.mk vnm vx vy)
  | _ => default
theorem Qh4 (s : Pt) : QO (Pt.row s) = s := by
  cases s; simp only [Pt.row, QO]
theorem Qu (l : List Pt) : (l.map Pt.row).map QO = l := by
  rw [List.map_map]; exact List.map_id'' (fun s => Qh4 s) l
theorem Qi (s : Pt) : (Pt.mk s.nm s.x s.y) = s := (rfl)
theorem Qk6 (s : Pt) : (Pt.row s).length = 3 := (rfl)
theorem Qmj (s : Pt) : Q0 (Pt.row s) = true := (rfl)
theorem KE (l : List Pt) : Jt (l.map Pt.row) := by
  induction l with
  | nil => simp [Jt]
  | cons x l ih => simp only [List.map_cons, Jt]; exact ⟨by simp [Pt.row, JR, No99], ih⟩
theorem QjA (s : Pt) : List.take 3 (Pt.row s) = Pt.row s := (rfl)
structure Aw where
  nm : ByteArray
  pts : List ByteArray
  deriving Inhabited, DecidableEq
def Aw.row (t : Nat) (s : Aw) : List AV := [.str s.nm, .sl t 1 (s.pts.map QF)]
def QR : List AV → Aw
  | [.str vnm, .sl _ 1 vpts] => (Aw.mk vnm (vpts.map unS))
  | _ => default
theorem Qh5 (t : Nat) (s : Aw) : QR (Aw.row t s) = s := by
  cases s; simp only [Aw.row, QR, QQ]
theorem QA (t : Nat) (l : List Aw) : (l.map (Aw.row t)).map QR = l := by
  rw [List.map_map]; exact List.map_id'' (fun s => Qh5 t s) l
theorem Qm (s : Aw) : (Aw.mk s.nm s.pts) = s := (rfl)
theorem KF (l : List Aw) : Jt (l.map (Aw.row 0)) := by
  induction l with
  | nil => simp [Jt]
  | cons x l ih => simp only [List.map_cons, Jt]; exact ⟨by simp [Aw.row, JR, No99, Jv], ih⟩
structure Blk where
  x0 : Int
  y0 : Int
  x1 : Int
  y1 : Int
  lo : Int
  hi : Int
  deriving Inhabited, DecidableEq
def Blk.row (s : Blk) : List AV := [.int .i64 s.x0, .int .i64 s.y0, .int .i64 s.x1, .int .i64 s.y1, .int .i64 s.lo, .int .i64 s.hi]
def Kc : List AV → Blk
  | [.int .i64 vx0, .int .i64 vy0, .int .i64 vx1, .int .i64 vy1, .int .i64 vlo, .int .i64 vhi] => (Blk.mk vx0 vy0 vx1 vy1 vlo vhi)
  | _ => default
theorem Qf9 (s : Blk) : Kc (Blk.row s) = s := by
  cases s; simp only [Blk.row, Kc]
theorem Qk (l : List Blk) : (l.map Blk.row).map Kc = l := by
  rw [List.map_map]; exact List.map_id'' (fun s => Qf9 s) l
theorem Qb (s : Blk) : (Blk.mk s.x0 s.y0 s.x1 s.y1 s.lo s.hi) = s := (rfl)
theorem JK (l : List Blk) : Jt (l.map Blk.row) := by
  induction l with
  | nil => simp [Jt]
  | cons x l ih => simp only [List.map_cons, Jt]; exact ⟨by simp [Blk.row, JR, No99], ih⟩
structure Sec where
  nm : ByteArray
  bl : List Blk
  deriving Inhabited, DecidableEq
def Sec.row (t : Nat) (s : Sec) : List AV := [.str s.nm, .sl t 6 (s.bl.map Blk.row)]
def Qv : List AV → Sec
  | [.str vnm, .sl _ 6 vbl] => (Sec.mk vnm (vbl.map Kc))
  | _ => default
theorem Qga (t : Nat) (s : Sec) : Qv (Sec.row t s) = s := by
  cases s; simp only [Sec.row, Qv, Qk]
theorem Ql (t : Nat) (l : List Sec) : (l.map (Sec.row t)).map Qv = l := by
  rw [List.map_map]; exact List.map_id'' (fun s => Qga t s) l
theorem Qc (s : Sec) : (Sec.mk s.nm s.bl) = s := (rfl)
theorem JT (l : List Sec) : Jt (l.map (Sec.row 0)) := by
  induction l with
  | nil => simp [Jt]
  | cons x l ih => simp only [List.map_cons, Jt]; exact ⟨by simp [Sec.row, JR, No99, JK], ih⟩
structure Rw where
  nm : ByteArray
  x : Int
  y : Int
  tn : Int
  deriving Inhabited, DecidableEq
def Rw.row (s : Rw) : List AV := [.str s.nm, .int .i64 s.x, .int .i64 s.y, .int .i64 s.tn]
def QT : List AV → Rw
  | [.str vnm, .int .i64 vx, .int .i64 vy, .int .i64 vtn] => (Rw.mk vnm vx vy vtn)
  | _ => default
theorem Qh6 (s : Rw) : QT (Rw.row s) = s := by
  cases s; simp only [Rw.row, QT]
theorem QB (l : List Rw) : (l.map Rw.row).map QT = l := by
  rw [List.map_map]; exact List.map_id'' (fun s => Qh6 s) l
theorem Qn (s : Rw) : (Rw.mk s.nm s.x s.y s.tn) = s := (rfl)
theorem KG (l : List Rw) : Jt (l.map Rw.row) := by
  induction l with
  | nil => simp [Jt]
  | cons x l ih => simp only [List.map_cons, Jt]; exact ⟨by simp [Rw.row, JR, No99], ih⟩
structure Sky where
  w : Int
  h : Int
  lv : Int
  pts : List Pt
  aws : List Aw
  secs : List Sec
  rws : List Rw
  deriving Inhabited, DecidableEq
def Sky.row (t : Nat) (s : Sky) : List AV := [.int .i64 s.w, .int .i64 s.h, .int .i64 s.lv, .sl t 3 (s.pts.map Pt.row), .sl t 2 (s.aws.map (Aw.row t)), .sl t 2 (s.secs.map (Sec.row t)), .sl t 4 (s.rws.map Rw.row)]
def QjB : List AV → Sky
  | [.int .i64 vw, .int .i64 vh, .int .i64 vlv, .sl _ 3 vpts, .sl _ 2 vaws, .sl _ 2 vsecs, .sl _ 4 vrws] => (Sky.mk vw vh vlv (vpts.map QO) (vaws.map QR) (vsecs.map Qv) (vrws.map QT))
  | _ => default
theorem Qgb (t : Nat) (s : Sky) : QjB (Sky.row t s) = s := by
  cases s; simp only [Sky.row, QjB, Qu, QA, Ql, QB]
theorem Q5 (t : Nat) (l : List Sky) : (l.map (Sky.row t)).map QjB = l := by
  rw [List.map_map]; exact List.map_id'' (fun s => Qgb t s) l
theorem Qd (s : Sky) : (Sky.mk s.w s.h s.lv s.pts s.aws s.secs s.rws) = s := (rfl)
theorem J4 (l : List Sky) : Jt (l.map (Sky.row 0)) := by
  induction l with
  | nil => simp [Jt]
  | cons x l ih => simp only [List.map_cons, Jt]; exact ⟨by simp [Sky.row, JR, No99, KE, KF, JT, KG], ih⟩
def J0 (w h x y : Int) : Prop := (0 ≤ x ∧ x ≤ w - 1) ∧ (0 ≤ y ∧ y ≤ h - 1)
instance (w h x y : Int) : Decidable (J0 w h x y) := by unfold J0; infer_instance
def QjC (w h : Int) (l : List Pt) (i : Nat) : Prop := JJ (l.getD i default).nm ∧ (0 < i → slt (l.getD (i - 1) default).nm (l.getD i default).nm) ∧ J0 w h (l.getD i default).x (l.getD i default).y ∧
  ∀ k, k < i → ¬ ((l.getD k default).x = (l.getD i default).x ∧ (l.getD k default).y = (l.getD i default).y)
def Qgc (w h : Int) (l : List Pt) : Prop := l.length ≤ 16 ∧ ∀ i, i < l.length → QjC w h l i
noncomputable instance (w h : Int) (l : List Pt) : Decidable (Qgc w h l) := Classical.propDecidable _
def JD (l : List Pt) (s : ByteArray) : Int := Qfa (fun p => decide (p.nm = s)) l
def Qmk (ps : List Pt) (l : List ByteArray) (k : Nat) : Prop := 0 ≤ JD ps (l.getD k default) ∧ ∀ j, j < k → l.getD j default ≠ l.getD k default
def QjD (ps : List Pt) (l : List Aw) (i : Nat) : Prop := JJ (l.getD i default).nm ∧ (0 < i → slt (l.getD (i - 1) default).nm (l.getD i default).nm) ∧ (2 ≤ (l.getD i default).pts.length ∧ (l.getD i default).pts.length ≤ 8) ∧ ∀ k, k < (l.getD i default).pts.length → Qmk ps (l.getD i default).pts k
def Qgd (ps : List Pt) (l : List Aw) : Prop := l.length ≤ 8 ∧ ∀ i, i < l.length → QjD ps l i
noncomputable instance (ps : List Pt) (l : List Aw) : Decidable (Qgd ps l) := Classical.propDecidable _
def Blk.ok (w h lv : Int) (b : Blk) : Prop := (0 ≤ b.x0 ∧ b.x0 ≤ b.x1 ∧ b.x1 < w) ∧ (0 ≤ b.y0 ∧ b.y0 ≤ b.y1 ∧ b.y1 < h) ∧ (1 ≤ b.lo ∧ b.lo ≤ b.hi ∧ b.hi ≤ lv)
instance (w h lv : Int) (b : Blk) : Decidable (b.ok w h lv) := by unfold Blk.ok; infer_instance
def Blk.meet (a b : Blk) : Prop := (a.x0 ≤ b.x1 ∧ b.x0 ≤ a.x1) ∧ (a.y0 ≤ b.y1 ∧ b.y0 ≤ a.y1) ∧ (a.lo ≤ b.hi ∧ b.lo ≤ a.hi)
instance (a b : Blk) : Decidable (a.meet b) := by unfold Blk.meet; infer_instance
def Blk.less (a b : Blk) : Prop := (a.x0 ≠ b.x0 → a.x0 < b.x0) ∧ (a.x0 = b.x0 → (a.y0 ≠ b.y0 → a.y0 < b.y0) ∧ (a.y0 = b.y0 → a.lo < b.lo))
instance (a b : Blk) : Decidable (a.less b) := by unfold Blk.less; infer_instance
def Blk.vol (b : Blk) : Int := (b.x1 - b.x0 + 1) * (b.y1 - b.y0 + 1) * (b.hi - b.lo + 1)
def Vb (w h lv : Int) (l : List Blk) (k : Nat) : Prop := (l.getD k default).ok w h lv ∧ (0 < k → (l.getD (k - 1) default).less (l.getD k default))
def Qcj (w h lv : Int) (l : List Sec) (i : Nat) : Prop := JJ (l.getD i default).nm ∧ (0 < i → slt (l.getD (i - 1) default).nm (l.getD i default).nm) ∧ (1 ≤ (l.getD i default).bl.length ∧ (l.getD i default).bl.length ≤ 4) ∧ ∀ k, k < (l.getD i default).bl.length → Vb w h lv (l.getD i default).bl k
def X7 (w h lv : Int) (l : List Sec) : Prop := l.length ≤ 6 ∧ ∀ i, i < l.length → Qcj w h lv l i
noncomputable instance (w h lv : Int) (l : List Sec) : Decidable (X7 w h lv l) := Classical.propDecidable _
def Q6 (l : List Sec) : List Blk := l.flatMap (·.bl)
def Qew (l : List Blk) : Int := (l.map Blk.vol).sum
def QaZ (l : List Blk) (i : Nat) : Prop := ∀ k, k < i → ¬ (l.getD k default).meet (l.getD i default)
def Qex (w h lv : Int) (l : List Sec) : Prop := (∀ i, i < (Q6 l).length → QaZ (Q6 l) i) ∧ Qew (Q6 l) = w * h * lv
noncomputable instance (w h lv : Int) (l : List Sec) : Decidable (Qex w h lv l) := Classical.propDecidable _
def dX (t : Int) : Int := if t = 2 ∨ t = 3 ∨ t = 4 then 1 else if t = 6 ∨ t = 7 ∨ t = 8 then -1 else 0
def dY (t : Int) : Int := if t = 1 ∨ t = 2 ∨ t = 8 then 1 else if t = 4 ∨ t = 5 ∨ t = 6 then -1 else 0
def Rw.ok (w h : Int) (r : Rw) : Prop := (1 ≤ r.tn ∧ r.tn ≤ 8) ∧ J0 w h r.x r.y ∧ J0 w h (r.x - dX r.tn) (r.y - dY r.tn)
instance (w h : Int) (r : Rw) : Decidable (r.ok w h) := by unfold Rw.ok; infer_instance
def QjE (w h : Int) (l : List Rw) (i : Nat) : Prop := JJ (l.getD i default).nm ∧ (0 < i → slt (l.getD (i - 1) default).nm (l.getD i default).nm) ∧ (l.getD i default).ok w h ∧ ∀ k, k < i → ¬ ((l.getD k default).x = (l.getD i default).x ∧ (l.getD k default).y = (l.getD i default).y)
def Qge (w h : Int) (l : List Rw) : Prop := l.length ≤ 4 ∧ ∀ i, i < l.length → QjE w h l i
noncomputable instance (w h : Int) (l : List Rw) : Decidable (Qge w h l) := Classical.propDecidable _
def KY (w h lv : Int) : Prop := (1 ≤ w ∧ w ≤ 16) ∧ (1 ≤ h ∧ h ≤ 16) ∧ (1 ≤ lv ∧ lv ≤ 6)
instance (w h lv : Int) : Decidable (KY w h lv) := by unfold KY; infer_instance
def Sky.valid (s : Sky) : Prop := KY s.w s.h s.lv ∧ Qgc s.w s.h s.pts ∧ Qgd s.pts s.aws ∧ X7 s.w s.h s.lv s.secs ∧ Qex s.w s.h s.lv s.secs ∧ Qge s.w s.h s.rws
noncomputable instance (s : Sky) : Decidable s.valid := Classical.propDecidable _
/-- Lists that are not too long for a machine. -/
def Aw.small (a : Aw) : Prop := a.pts.length ≤ 1048576
def Sec.small (a : Sec) : Prop := a.bl.length ≤ 1048576
def Sky.small (s : Sky) : Prop := s.pts.length ≤ 1048576 ∧ (s.aws.length ≤ 1048576 ∧ ∀ y ∈ s.aws, y.small) ∧ (s.secs.length ≤ 1048576 ∧ ∀ y ∈ s.secs, y.small) ∧ s.rws.length ≤ 1048576
theorem Sky.small_aw {s : Sky} (h : s.small) {i : Nat} (hi : i < s.aws.length) : (s.aws.getD i default).pts.length ≤ 1048576 := h.2.1.2 _ (by simp [hi])
theorem Sky.small_sec {s : Sky} (h : s.small) {i : Nat} (hi : i < s.secs.length) : (s.secs.getD i default).bl.length ≤ 1048576 := h.2.2.1.2 _ (by simp [hi])
theorem Qk7 (t : Int) : -1 ≤ dX t ∧ dX t ≤ 1 := by unfold dX; split <;> (try split) <;> omega
theorem Qk8 (t : Int) : -1 ≤ dY t ∧ dY t ≤ 1 := by unfold dY; split <;> (try split) <;> omega
theorem Qh7 (s : ByteArray) (hp : True) : Contract P 82 [.str s] [] (.bool (decide (JJ s))) [] := by
  refine Qs ((Env.nil P).add 65 QZ YK) hm Wh (Nat.le_of_ble_eq_true rfl) rfl ?_; unfold XA; simp (config := { maxSteps := 2000000 }) only [bitvec_to_nat, reduceIte, Nat.reduceEqDiff, Nat.reduceAdd, Nat.reduceLeDiff, reduceCtorEq, Nat.reduceBEq, Nat.reduceLT, Nat.reduceMod, List.forall_mem_cons, QZ]
  refine ⟨fun h1 => ?_, fun h1 => ?_⟩
  · refine QP (fun i : Nat => [(3, .int .i64 i)]) (fun _ => []) (fun i => i ≤ s.toList.length ∧ ∀ j, j < i → V3 (s.toList.getD j 0)) (fun i => s.toList.length - i) (0) (by simp only [Jz, JA, JB, JC, Qw, Qx, Qy, Qz, reduceIte, Nat.reduceEqDiff]; exact ⟨by repeat' (first | exact trivial | refine ⟨.inr rfl, ?_⟩), by repeat' (first | exact trivial | refine ⟨rfl, ?_⟩), by first | rfl | simp [closedB, Qr, Qp, Qt, dom, Qf, *], by first | rfl | simp [keepB, dom]⟩) ?_ ?_
    · exact ⟨Nat.zero_le _, by intro j hj; omega⟩
    intro i hi NX hN
    unfold GL; simp (config := { maxSteps := 2000000 }) only [bitvec_to_nat, reduceIte, Nat.reduceEqDiff, Nat.reduceAdd, Nat.reduceLeDiff, reduceCtorEq, Nat.reduceBEq, Nat.reduceLT, Nat.reduceMod, List.forall_mem_cons]
    repeat' (first | with_reducible apply And.intro | with_reducible intro _)
    all_goals first
      | exact trivial
      | omega
      | (refine hN (i + 1) _ (by simp only [Jz, JA, JB, JC, Qw, Qx, Qy, Qz, reduceIte, Nat.reduceEqDiff]; exact ⟨by repeat' (first | exact trivial | refine ⟨.inr rfl, ?_⟩), by repeat' (first | exact trivial | refine ⟨rfl, ?_⟩), by first | rfl | simp [closedB, Qr, Qp, Qt, dom, Qf, *], by first | rfl | simp [keepB, dom]⟩) ?_ ?_
         · exact ⟨by omega, Ja hi.2 (by grind [JJ, V3])⟩
         · omega)
      | grind [JJ, V3]
  · grind [JJ]
def QE : List AV → Option (Prop × AV)
  | [.str s] => some ((True) ∧ (True), .bool (decide (JJ s)))
  | _ => none
theorem J5 : ∀ args p v, QE args = some (p, v) → p → Contract P 82 args [] v [] ∧ noref v = true ∧ No99 v := by
  intro args p v h1 h2
  unfold QE at h1
  split at h1
  · rename_i s
    cases h1
    obtain ⟨_, HP⟩ := h2
    have := Qh7 s HP
    exact ⟨this, rfl, trivial⟩
  · cases h1
theorem Qgf (t : Nat) (ps : List Pt) (s : ByteArray) (hl : ps.length ≤ 4611686018427387904) : Contract P 71 [.sl t 3 (ps.map Pt.row), .str s] [] (.int .i64 (JD ps s)) [] := by
  refine Qs (Env.nil P) hm WF (Nat.le_of_ble_eq_true rfl) rfl ?_; unfold X4; simp (config := { maxSteps := 2000000 }) only [bitvec_to_nat, reduceIte, Nat.reduceEqDiff, Nat.reduceAdd, Nat.reduceLeDiff, reduceCtorEq, Nat.reduceBEq, Nat.reduceLT, Nat.reduceMod, List.forall_mem_cons, Qh, Qj, Qa, QN, Qg, List.take_length, List.length_cons, List.length_nil, Nat.zero_add, QF, QS, QQ, QU, Zone.row, Qe, Qo, Pt.row, Qi, Qu, Aw.row, Qm, QA, Blk.row, Qb, Qk, Sec.row, Qc, Ql, Rw.row, Qn, QB, Qd]
  refine QP (fun i : Nat => [(5, .int .i64 i)]) (fun _ => []) (fun i => i ≤ ps.length ∧ ∀ j, j < i → decide ((ps.getD j default).nm = s) = false) (fun i => ps.length - i) (0) (by simp only [Jz, JA, JB, JC, Qw, Qx, Qy, Qz, reduceIte, Nat.reduceEqDiff]; exact ⟨by repeat' (first | exact trivial | refine ⟨.inr rfl, ?_⟩), by repeat' (first | exact trivial | refine ⟨rfl, ?_⟩), by first | rfl | simp [closedB, Qr, Qp, Qt, dom, Qf, *], by first | rfl | simp [keepB, dom]⟩) ?_ ?_
  · exact ⟨Nat.zero_le _, by intro j hj; omega⟩
  intro i hi NX hN
  unfold Xa; simp (config := { maxSteps := 2000000 }) only [bitvec_to_nat, reduceIte, Nat.reduceEqDiff, Nat.reduceAdd, Nat.reduceLeDiff, reduceCtorEq, Nat.reduceBEq, Nat.reduceLT, Nat.reduceMod, List.forall_mem_cons, Qh, Qj, Qa, QN, Qg, List.take_length, List.length_cons, List.length_nil, Nat.zero_add, QF, QS, QQ, QU, Zone.row, Qe, Qo, Pt.row, Qi, Qu, Aw.row, Qm, QA, Blk.row, Qb, Qk, Sec.row, Qc, Ql, Rw.row, Qn, QB, Qd]
  
  repeat' (first | with_reducible apply And.intro | with_reducible intro _)
  all_goals first
    | omega
    | (refine hN (i + 1) _ (by simp only [Jz, JA, JB, JC, Qw, Qx, Qy, Qz, reduceIte, Nat.reduceEqDiff]; exact ⟨by repeat' (first | exact trivial | refine ⟨.inr rfl, ?_⟩), by repeat' (first | exact trivial | refine ⟨rfl, ?_⟩), by first | rfl | simp [closedB, Qr, Qp, Qt, dom, Qf, *], by first | rfl | simp [keepB, dom]⟩) ?_ ?_
       · exact ⟨by omega, Ja hi.2 (by simpa using ‹¬ _›)⟩
       · omega)
    | (unfold JD; rw [QfX (i := i) (by omega) (by simpa using ‹_›) hi.2])
    | (unfold JD; rw [Qb0 fun j hj => hi.2 j (by omega)])
def Q2 : List AV → Option (Prop × AV)
  | [.sl pst 3 psx, .str s] => some ((((psx.map QO).map Pt.row = psx)) ∧ ((psx.map QO).length ≤ 4611686018427387904), .int .i64 (JD (psx.map QO) s))
  | _ => none
theorem GQ : ∀ args p v, Q2 args = some (p, v) → p → Contract P 71 args [] v [] ∧ noref v = true ∧ No99 v := by
  intro args p v h1 h2
  unfold Q2 at h1
  split at h1
  · rename_i pst psx s
    cases h1
    obtain ⟨e0, HP⟩ := h2
    have := Qgf pst (psx.map QO) s HP
    exact ⟨by simpa only [e0] using this, rfl, trivial⟩
  · cases h1
set_option maxHeartbeats 400000 in
theorem X1 (s : Sky) (i : Nat) {Q : XT → St → Prop} (hi : i < s.pts.length) (hl : s.pts.length ≤ 1048576) (hd : KY s.w s.h s.lv) (hQ : ∀ bv : Bool, (bv = true ↔ ¬ (JJ (s.pts.getD i default).nm ∧ (0 < i → slt (s.pts.getD (i - 1) default).nm (s.pts.getD i default).nm) ∧ J0 s.w s.h (s.pts.getD i default).x (s.pts.getD i default).y)) → Q .normal ⟨[(1, .ptr 101 0), (3, .int .i64 i), (4, .ptr 104 0), (59, .bool bv)], [(101, .box [.int .i64 s.w, .int .i64 s.h, .int .i64 s.lv, .sl 0 3 (s.pts.map Pt.row), .sl 0 2 (s.aws.map (Aw.row 0)), .sl 0 2 (s.secs.map (Sec.row 0)), .sl 0 4 (s.rws.map Rw.row)]), (104, .box [.str (s.pts.getD i default).nm, .int .i64 (s.pts.getD i default).x, .int .i64 (s.pts.getD i default).y])]⟩) : SCode.wp (((Env.nil P).add 65 QZ YK).add 82 QE J5) J8 Q ⟨[(1, .ptr 101 0), (3, .int .i64 i), (4, .ptr 104 0)], [(101, .box [.int .i64 s.w, .int .i64 s.h, .int .i64 s.lv, .sl 0 3 (s.pts.map Pt.row), .sl 0 2 (s.aws.map (Aw.row 0)), .sl 0 2 (s.secs.map (Sec.row 0)), .sl 0 4 (s.rws.map Rw.row)]), (104, .box [.str (s.pts.getD i default).nm, .int .i64 (s.pts.getD i default).x, .int .i64 (s.pts.getD i default).y])]⟩ := by
  all_goals (unfold J8; simp (config := { maxSteps := 2000000 }) only [bitvec_to_nat, reduceIte, Nat.reduceEqDiff, Nat.reduceAdd, Nat.reduceLeDiff, reduceCtorEq, Nat.reduceBEq, Nat.reduceLT, Nat.reduceMod, List.forall_mem_cons, QZ, QE, Qh, Qj, Qa, QN, Qg, List.take_length, List.length_cons, List.length_nil, Nat.zero_add, QF, QS, QQ, QU, Zone.row, Qe, Qo, Pt.row, Qi, Qu, Aw.row, Qm, QA, Blk.row, Qb, Qk, Sec.row, Qc, Ql, Rw.row, Qn, QB, Qd])
  repeat' (first | with_reducible apply And.intro | with_reducible intro _)
  all_goals first
    | omega
    | (refine hQ _ ?_
       first
         | grind [J0, KY]
         | (simp; grind [J0, KY]))
    | grind [J0, KY]
set_option maxHeartbeats 400000 in
theorem X2 (s : Sky) (i : Nat) (k : Nat) {w62 : AV} {Q : XT → St → Prop} (hi : i < s.pts.length) (hk : k < i) (hl : s.pts.length ≤ 1048576) (hQ : ∀ bv : Bool, (bv = true ↔ ((s.pts.getD k default).x = (s.pts.getD i default).x ∧ (s.pts.getD k default).y = (s.pts.getD i default).y)) → Q .normal ⟨[(1, .ptr 101 0), (3, .int .i64 i), (4, .ptr 104 0), (5, .int .i64 k), (84, .bool bv)], [(101, .box [.int .i64 s.w, .int .i64 s.h, .int .i64 s.lv, .sl 0 3 (s.pts.map Pt.row), .sl 0 2 (s.aws.map (Aw.row 0)), .sl 0 2 (s.secs.map (Sec.row 0)), .sl 0 4 (s.rws.map Rw.row)]), (104, .box [.str (s.pts.getD i default).nm, .int .i64 (s.pts.getD i default).x, .int .i64 (s.pts.getD i default).y])]⟩) : SCode.wp (((Env.nil P).add 65 QZ YK).add 82 QE J5) J9 Q ⟨[(1, .ptr 101 0), (3, .int .i64 i), (4, .ptr 104 0), (5, .int .i64 k), (62, w62)], [(101, .box [.int .i64 s.w, .int .i64 s.h, .int .i64 s.lv, .sl 0 3 (s.pts.map Pt.row), .sl 0 2 (s.aws.map (Aw.row 0)), .sl 0 2 (s.secs.map (Sec.row 0)), .sl 0 4 (s.rws.map Rw.row)]), (104, .box [.str (s.pts.getD i default).nm, .int .i64 (s.pts.getD i default).x, .int .i64 (s.pts.getD i default).y])]⟩ := by
  all_goals (unfold J9; simp (config := { maxSteps := 2000000 }) only [bitvec_to_nat, reduceIte, Nat.reduceEqDiff, Nat.reduceAdd, Nat.reduceLeDiff, reduceCtorEq, Nat.reduceBEq, Nat.reduceLT, Nat.reduceMod, List.forall_mem_cons, QZ, QE, Qh, Qj, Qa, QN, Qg, List.take_length, List.length_cons, List.length_nil, Nat.zero_add, QF, QS, QQ, QU, Zone.row, Qe, Qo, Pt.row, Qi, Qu, Aw.row, Qm, QA, Blk.row, Qb, Qk, Sec.row, Qc, Ql, Rw.row, Qn, QB, Qd])
  repeat' (first | with_reducible apply And.intro | with_reducible intro _)
  all_goals first
    | omega
    | (refine hQ _ ?_
       first
         | grind []
         | (simp; grind []))
    | grind []
theorem Qck (s : Sky) (hd : KY s.w s.h s.lv) (hs : s.small) : Contract P 66 [.agg (s.row 0)] [] (.bool (decide (Qgc s.w s.h s.pts))) [] := by
  have hl : s.pts.length ≤ 1048576 := hs.1
  simp only [Sky.row]
  refine Qs (((Env.nil P).add 65 QZ YK).add 82 QE J5) hm UD (Nat.le_of_ble_eq_true rfl) rfl ?_; unfold GI; simp (config := { maxSteps := 2000000 }) only [bitvec_to_nat, reduceIte, Nat.reduceEqDiff, Nat.reduceAdd, Nat.reduceLeDiff, reduceCtorEq, Nat.reduceBEq, Nat.reduceLT, Nat.reduceMod, List.forall_mem_cons, QZ, QE, Qh, Qj, Qa, QN, Qg, List.take_length, List.length_cons, List.length_nil, Nat.zero_add, QF, QS, QQ, QU, Zone.row, Qe, Qo, Pt.row, Qi, Qu, Aw.row, Qm, QA, Blk.row, Qb, Qk, Sec.row, Qc, Ql, Rw.row, Qn, QB, Qd]
  refine ⟨fun h1 => by intro h; have := h.1; omega, fun h1 => ?_⟩
  refine QP (fun i : Nat => [(3, .int .i64 i)]) (fun _ => []) (fun i => i ≤ s.pts.length ∧ ∀ j, j < i → QjC s.w s.h s.pts j) (fun i => s.pts.length - i) (0) (by simp only [Jz, JA, JB, JC, Qw, Qx, Qy, Qz, reduceIte, Nat.reduceEqDiff]; exact ⟨by repeat' (first | exact trivial | refine ⟨.inr rfl, ?_⟩), by repeat' (first | exact trivial | refine ⟨rfl, ?_⟩), by first | rfl | simp [closedB, Qr, Qp, Qt, dom, Qf, *], by first | rfl | simp [keepB, dom]⟩) ?_ ?_
  · exact ⟨Nat.zero_le _, by intro j hj; omega⟩
  intro i hi NX hN
  unfold YJ; simp (config := { maxSteps := 2000000 }) only [bitvec_to_nat, reduceIte, Nat.reduceEqDiff, Nat.reduceAdd, Nat.reduceLeDiff, reduceCtorEq, Nat.reduceBEq, Nat.reduceLT, Nat.reduceMod, List.forall_mem_cons, QZ, QE, Qh, Qj, Qa, QN, Qg, List.take_length, List.length_cons, List.length_nil, Nat.zero_add, QF, QS, QQ, QU, Zone.row, Qe, Qo, Pt.row, Qi, Qu, Aw.row, Qm, QA, Blk.row, Qb, Qk, Sec.row, Qc, Ql, Rw.row, Qn, QB, Qd]
  refine ⟨fun g1 => ⟨by omega, by omega, ?_⟩, fun g1 => ?_⟩
  · have A : Qgc s.w s.h s.pts → QjC s.w s.h s.pts i := fun h => h.2 i (by omega)
    unfold QjC at A
    refine X1 s i (by omega) hl hd fun bv hbv => ?_
    cases bv
    case true =>
      simp (config := { maxSteps := 2000000 }) only [bitvec_to_nat, reduceIte, Nat.reduceEqDiff, Nat.reduceAdd, Nat.reduceLeDiff, reduceCtorEq, Nat.reduceBEq, Nat.reduceLT, Nat.reduceMod, List.forall_mem_cons, QZ, QE, Qh, Qj, Qa, QN, Qg, List.take_length, List.length_cons, List.length_nil, Nat.zero_add, QF, QS, QQ, QU, Zone.row, Qe, Qo, Pt.row, Qi, Qu, Aw.row, Qm, QA, Blk.row, Qb, Qk, Sec.row, Qc, Ql, Rw.row, Qn, QB, Qd]
      exact fun hq => (hbv.1 rfl) ⟨(A hq).1, (A hq).2.1, (A hq).2.2.1⟩
    have o1 := Classical.not_not.1 fun h => Bool.noConfusion (hbv.2 h)
    simp (config := { maxSteps := 2000000 }) only [bitvec_to_nat, reduceIte, Nat.reduceEqDiff, Nat.reduceAdd, Nat.reduceLeDiff, reduceCtorEq, Nat.reduceBEq, Nat.reduceLT, Nat.reduceMod, List.forall_mem_cons, QZ, QE, Qh, Qj, Qa, QN, Qg, List.take_length, List.length_cons, List.length_nil, Nat.zero_add, QF, QS, QQ, QU, Zone.row, Qe, Qo, Pt.row, Qi, Qu, Aw.row, Qm, QA, Blk.row, Qb, Qk, Sec.row, Qc, Ql, Rw.row, Qn, QB, Qd]
    refine QP (fun k : Nat => [(5, .int .i64 k)]) (fun _ => []) (fun k => k ≤ i ∧ ∀ j, j < k → ¬ ((s.pts.getD j default).x = (s.pts.getD i default).x ∧ (s.pts.getD j default).y = (s.pts.getD i default).y)) (fun k => i - k) (0) (by simp only [Jz, JA, JB, JC, Qw, Qx, Qy, Qz, reduceIte, Nat.reduceEqDiff]; exact ⟨by repeat' (first | exact trivial | refine ⟨.inr rfl, ?_⟩), by repeat' (first | exact trivial | refine ⟨rfl, ?_⟩), by first | rfl | simp [closedB, Qr, Qp, Qt, dom, Qf, *], by first | rfl | simp [keepB, dom]⟩) ?_ ?_
    · exact ⟨Nat.zero_le _, by intro j hj; omega⟩
    intro k hk NX2 hN2
    unfold YI; simp (config := { maxSteps := 2000000 }) only [bitvec_to_nat, reduceIte, Nat.reduceEqDiff, Nat.reduceAdd, Nat.reduceLeDiff, reduceCtorEq, Nat.reduceBEq, Nat.reduceLT, Nat.reduceMod, List.forall_mem_cons, QZ, QE, Qh, Qj, Qa, QN, Qg, List.take_length, List.length_cons, List.length_nil, Nat.zero_add, QF, QS, QQ, QU, Zone.row, Qe, Qo, Pt.row, Qi, Qu, Aw.row, Qm, QA, Blk.row, Qb, Qk, Sec.row, Qc, Ql, Rw.row, Qn, QB, Qd]
    refine ⟨fun g2 => ?_, fun g2 => ?_⟩
    · refine X2 s i k (by omega) (by omega) hl fun bv hbv => ?_
      cases bv
      case true =>
        simp (config := { maxSteps := 2000000 }) only [bitvec_to_nat, reduceIte, Nat.reduceEqDiff, Nat.reduceAdd, Nat.reduceLeDiff, reduceCtorEq, Nat.reduceBEq, Nat.reduceLT, Nat.reduceMod, List.forall_mem_cons, QZ, QE, Qh, Qj, Qa, QN, Qg, List.take_length, List.length_cons, List.length_nil, Nat.zero_add, QF, QS, QQ, QU, Zone.row, Qe, Qo, Pt.row, Qi, Qu, Aw.row, Qm, QA, Blk.row, Qb, Qk, Sec.row, Qc, Ql, Rw.row, Qn, QB, Qd]
        exact fun hq => (A hq).2.2.2 k (by omega) (hbv.1 rfl)
      have o2 : ¬ _ := fun h => Bool.noConfusion (hbv.2 h)
      simp (config := { maxSteps := 2000000 }) only [bitvec_to_nat, reduceIte, Nat.reduceEqDiff, Nat.reduceAdd, Nat.reduceLeDiff, reduceCtorEq, Nat.reduceBEq, Nat.reduceLT, Nat.reduceMod, List.forall_mem_cons, QZ, QE, Qh, Qj, Qa, QN, Qg, List.take_length, List.length_cons, List.length_nil, Nat.zero_add, QF, QS, QQ, QU, Zone.row, Qe, Qo, Pt.row, Qi, Qu, Aw.row, Qm, QA, Blk.row, Qb, Qk, Sec.row, Qc, Ql, Rw.row, Qn, QB, Qd]
      refine ⟨by omega, ?_⟩
      refine hN2 (k + 1) _ (by simp only [Jz, JA, JB, JC, Qw, Qx, Qy, Qz, reduceIte, Nat.reduceEqDiff]; exact ⟨by repeat' (first | exact trivial | refine ⟨.inr rfl, ?_⟩), by repeat' (first | exact trivial | refine ⟨rfl, ?_⟩), by first | rfl | simp [closedB, Qr, Qp, Qt, dom, Qf, *], by first | rfl | simp [keepB, dom]⟩) ?_ ?_
      · exact ⟨by omega, Ja hk.2 o2⟩
      · omega
    · refine ⟨by omega, ?_⟩
      refine hN (i + 1) _ (by simp only [Jz, JA, JB, JC, Qw, Qx, Qy, Qz, reduceIte, Nat.reduceEqDiff]; exact ⟨by repeat' (first | exact trivial | refine ⟨.inr rfl, ?_⟩), by repeat' (first | exact trivial | refine ⟨rfl, ?_⟩), by first | rfl | simp [closedB, Qr, Qp, Qt, dom, Qf, *], by first | rfl | simp [keepB, dom]⟩) ?_ ?_
      · exact ⟨by omega, Ja hi.2 ⟨o1.1, o1.2.1, o1.2.2, fun k hk2 => hk.2 k (by omega)⟩⟩
      · omega
  · exact ⟨by omega, fun j hj => hi.2 j (by omega)⟩
end
end Go.Ve

namespace Go.Ve
noncomputable section
open Go.Proofs
set_option linter.unusedSimpArgs false
set_option linter.unusedVariables false
set_option maxRecDepth 100000
def Gi : List AV → Option (Prop × AV)
  | [.agg [.int .i64 s_w, .int .i64 s_h, .int .i64 s_lv, .sl 0 3 s_pts, .sl 0 2 s_aws, .sl 0 2 s_secs, .sl 0 4 s_rws]] => some ((((s_pts.map QO).map Pt.row = s_pts) ∧ ((s_aws.map QR).map (Aw.row 0) = s_aws) ∧ ((s_secs.map Qv).map (Sec.row 0) = s_secs) ∧ ((s_rws.map QT).map Rw.row = s_rws)) ∧ (KY (Sky.mk s_w s_h s_lv (s_pts.map QO) (s_aws.map QR) (s_secs.map Qv) (s_rws.map QT)).w (Sky.mk s_w s_h s_lv (s_pts.map QO) (s_aws.map QR) (s_secs.map Qv) (s_rws.map QT)).h (Sky.mk s_w s_h s_lv (s_pts.map QO) (s_aws.map QR) (s_secs.map Qv) (s_rws.map QT)).lv ∧ (Sky.mk s_w s_h s_lv (s_pts.map QO) (s_aws.map QR) (s_secs.map Qv) (s_rws.map QT)).small), .bool (decide (Qgc (Sky.mk s_w s_h s_lv (s_pts.map QO) (s_aws.map QR) (s_secs.map Qv) (s_rws.map QT)).w (Sky.mk s_w s_h s_lv (s_pts.map QO) (s_aws.map QR) (s_secs.map Qv) (s_rws.map QT)).h (Sky.mk s_w s_h s_lv (s_pts.map QO) (s_aws.map QR) (s_secs.map Qv) (s_rws.map QT)).pts)))
  | _ => none
theorem Qcl : ∀ args p v, Gi args = some (p, v) → p → Contract P 66 args [] v [] ∧ noref v = true ∧ No99 v := by
  intro args p v h1 h2
  unfold Gi at h1
  split at h1
  · rename_i s_w s_h s_lv s_pts s_aws s_secs s_rws
    cases h1
    obtain ⟨⟨e0, e1, e2, e3⟩, HP⟩ := h2
    have := Qck (Sky.mk s_w s_h s_lv (s_pts.map QO) (s_aws.map QR) (s_secs.map Qv) (s_rws.map QT)) HP.1 HP.2
    exact ⟨by simpa only [e0, e1, e2, e3, Sky.row] using this, rfl, trivial⟩
  · cases h1
set_option maxHeartbeats 400000 in
theorem XG (s : Sky) (i : Nat) {Q : XT → St → Prop} (hi : i < s.aws.length) (hl : s.aws.length ≤ 1048576) (hQ : ∀ bv : Bool, (bv = true ↔ ¬ (JJ (s.aws.getD i default).nm ∧ (0 < i → slt (s.aws.getD (i - 1) default).nm (s.aws.getD i default).nm) ∧ 2 ≤ (s.aws.getD i default).pts.length ∧ (s.aws.getD i default).pts.length ≤ 8)) → Q .normal ⟨[(1, .ptr 101 0), (3, .int .i64 i), (4, .ptr 104 0), (49, .bool bv)], [(101, .box [.int .i64 s.w, .int .i64 s.h, .int .i64 s.lv, .sl 0 3 (s.pts.map Pt.row), .sl 0 2 (s.aws.map (Aw.row 0)), .sl 0 2 (s.secs.map (Sec.row 0)), .sl 0 4 (s.rws.map Rw.row)]), (104, .box [.str (s.aws.getD i default).nm, .sl 0 1 ((s.aws.getD i default).pts.map QF)])]⟩) : SCode.wp ((((Env.nil P).add 65 QZ YK).add 82 QE J5).add 71 Q2 GQ) JU Q ⟨[(1, .ptr 101 0), (3, .int .i64 i), (4, .ptr 104 0)], [(101, .box [.int .i64 s.w, .int .i64 s.h, .int .i64 s.lv, .sl 0 3 (s.pts.map Pt.row), .sl 0 2 (s.aws.map (Aw.row 0)), .sl 0 2 (s.secs.map (Sec.row 0)), .sl 0 4 (s.rws.map Rw.row)]), (104, .box [.str (s.aws.getD i default).nm, .sl 0 1 ((s.aws.getD i default).pts.map QF)])]⟩ := by
  all_goals (unfold JU; simp (config := { maxSteps := 2000000 }) only [bitvec_to_nat, reduceIte, Nat.reduceEqDiff, Nat.reduceAdd, Nat.reduceLeDiff, reduceCtorEq, Nat.reduceBEq, Nat.reduceLT, Nat.reduceMod, List.forall_mem_cons, QZ, QE, Q2, Qh, Qj, Qa, QN, Qg, List.take_length, List.length_cons, List.length_nil, Nat.zero_add, QF, QS, QQ, QU, Zone.row, Qe, Qo, Pt.row, Qi, Qu, Aw.row, Qm, QA, Blk.row, Qb, Qk, Sec.row, Qc, Ql, Rw.row, Qn, QB, Qd])
  repeat' (first | with_reducible apply And.intro | with_reducible intro _)
  all_goals first
    | omega
    | (refine hQ _ ?_
       first
         | grind []
         | (simp; grind []))
    | grind []
theorem Qa0 (s : Sky) (hs : s.small) : Contract P 67 [.agg (s.row 0)] [] (.bool (decide (Qgd s.pts s.aws))) [] := by
  have hl : s.aws.length ≤ 1048576 := hs.2.1.1
  have hp : s.pts.length ≤ 1048576 := hs.1
  simp only [Sky.row]
  refine Qs ((((Env.nil P).add 65 QZ YK).add 82 QE J5).add 71 Q2 GQ) hm Z5 (Nat.le_of_ble_eq_true rfl) rfl ?_; unfold Y7; simp (config := { maxSteps := 2000000 }) only [bitvec_to_nat, reduceIte, Nat.reduceEqDiff, Nat.reduceAdd, Nat.reduceLeDiff, reduceCtorEq, Nat.reduceBEq, Nat.reduceLT, Nat.reduceMod, List.forall_mem_cons, QZ, QE, Q2, Qh, Qj, Qa, QN, Qg, List.take_length, List.length_cons, List.length_nil, Nat.zero_add, QF, QS, QQ, QU, Zone.row, Qe, Qo, Pt.row, Qi, Qu, Aw.row, Qm, QA, Blk.row, Qb, Qk, Sec.row, Qc, Ql, Rw.row, Qn, QB, Qd]
  refine ⟨fun h1 => by intro h; have := h.1; omega, fun h1 => ?_⟩
  refine QP (fun i : Nat => [(3, .int .i64 i)]) (fun _ => []) (fun i => i ≤ s.aws.length ∧ ∀ j, j < i → QjD s.pts s.aws j) (fun i => s.aws.length - i) (0) (by simp only [Jz, JA, JB, JC, Qw, Qx, Qy, Qz, reduceIte, Nat.reduceEqDiff]; exact ⟨by repeat' (first | exact trivial | refine ⟨.inr rfl, ?_⟩), by repeat' (first | exact trivial | refine ⟨rfl, ?_⟩), by first | rfl | simp [closedB, Qr, Qp, Qt, dom, Qf, *], by first | rfl | simp [keepB, dom]⟩) ?_ ?_
  · exact ⟨Nat.zero_le _, by intro j hj; omega⟩
  intro i hi NX hN
  unfold K9; simp (config := { maxSteps := 2000000 }) only [bitvec_to_nat, reduceIte, Nat.reduceEqDiff, Nat.reduceAdd, Nat.reduceLeDiff, reduceCtorEq, Nat.reduceBEq, Nat.reduceLT, Nat.reduceMod, List.forall_mem_cons, QZ, QE, Q2, Qh, Qj, Qa, QN, Qg, List.take_length, List.length_cons, List.length_nil, Nat.zero_add, QF, QS, QQ, QU, Zone.row, Qe, Qo, Pt.row, Qi, Qu, Aw.row, Qm, QA, Blk.row, Qb, Qk, Sec.row, Qc, Ql, Rw.row, Qn, QB, Qd]
  refine ⟨fun g1 => ⟨by omega, by omega, ?_⟩, fun g1 => ?_⟩
  · have hq4 := Sky.small_aw hs (i := i) (by omega)
    have A : Qgd s.pts s.aws → QjD s.pts s.aws i := fun h => h.2 i (by omega)
    unfold QjD at A
    refine XG s i (by omega) hl fun bv hbv => ?_
    cases bv
    case true =>
      simp (config := { maxSteps := 2000000 }) only [bitvec_to_nat, reduceIte, Nat.reduceEqDiff, Nat.reduceAdd, Nat.reduceLeDiff, reduceCtorEq, Nat.reduceBEq, Nat.reduceLT, Nat.reduceMod, List.forall_mem_cons, QZ, QE, Q2, Qh, Qj, Qa, QN, Qg, List.take_length, List.length_cons, List.length_nil, Nat.zero_add, QF, QS, QQ, QU, Zone.row, Qe, Qo, Pt.row, Qi, Qu, Aw.row, Qm, QA, Blk.row, Qb, Qk, Sec.row, Qc, Ql, Rw.row, Qn, QB, Qd]
      exact fun hq => (hbv.1 rfl) ⟨(A hq).1, (A hq).2.1, (A hq).2.2.1⟩
    have o1 := Classical.not_not.1 fun h => Bool.noConfusion (hbv.2 h)
    simp (config := { maxSteps := 2000000 }) only [bitvec_to_nat, reduceIte, Nat.reduceEqDiff, Nat.reduceAdd, Nat.reduceLeDiff, reduceCtorEq, Nat.reduceBEq, Nat.reduceLT, Nat.reduceMod, List.forall_mem_cons, QZ, QE, Q2, Qh, Qj, Qa, QN, Qg, List.take_length, List.length_cons, List.length_nil, Nat.zero_add, QF, QS, QQ, QU, Zone.row, Qe, Qo, Pt.row, Qi, Qu, Aw.row, Qm, QA, Blk.row, Qb, Qk, Sec.row, Qc, Ql, Rw.row, Qn, QB, Qd]
    refine QP (fun k : Nat => [(5, .int .i64 k)]) (fun _ => []) (fun k => k ≤ (s.aws.getD i default).pts.length ∧ ∀ j, j < k → Qmk s.pts (s.aws.getD i default).pts j) (fun k => (s.aws.getD i default).pts.length - k) (0) (by simp only [Jz, JA, JB, JC, Qw, Qx, Qy, Qz, reduceIte, Nat.reduceEqDiff]; exact ⟨by repeat' (first | exact trivial | refine ⟨.inr rfl, ?_⟩), by repeat' (first | exact trivial | refine ⟨rfl, ?_⟩), by first | rfl | simp [closedB, Qr, Qp, Qt, dom, Qf, *], by first | rfl | simp [keepB, dom]⟩) ?_ ?_
    · exact ⟨Nat.zero_le _, by intro j hj; omega⟩
    intro k hk NX2 hN2
    unfold K8; simp (config := { maxSteps := 2000000 }) only [bitvec_to_nat, reduceIte, Nat.reduceEqDiff, Nat.reduceAdd, Nat.reduceLeDiff, reduceCtorEq, Nat.reduceBEq, Nat.reduceLT, Nat.reduceMod, List.forall_mem_cons, QZ, QE, Q2, Qh, Qj, Qa, QN, Qg, List.take_length, List.length_cons, List.length_nil, Nat.zero_add, QF, QS, QQ, QU, Zone.row, Qe, Qo, Pt.row, Qi, Qu, Aw.row, Qm, QA, Blk.row, Qb, Qk, Sec.row, Qc, Ql, Rw.row, Qn, QB, Qd]
    refine ⟨fun g2 => ⟨by omega, by omega, by omega, fun g3 => ?_, fun g3 => ?_⟩, fun g2 => ?_⟩
    · intro hq; have := ((A hq).2.2.2 k (by omega)).1; omega
    · refine QP (fun j : Nat => [(6, .int .i64 j)]) (fun _ => []) (fun j => j ≤ k ∧ ∀ q, q < j → (s.aws.getD i default).pts.getD q default ≠ (s.aws.getD i default).pts.getD k default) (fun j => k - j) (0) (by simp only [Jz, JA, JB, JC, Qw, Qx, Qy, Qz, reduceIte, Nat.reduceEqDiff]; exact ⟨by repeat' (first | exact trivial | refine ⟨.inr rfl, ?_⟩), by repeat' (first | exact trivial | refine ⟨rfl, ?_⟩), by first | rfl | simp [closedB, Qr, Qp, Qt, dom, Qf, *], by first | rfl | simp [keepB, dom]⟩) ?_ ?_
      · exact ⟨Nat.zero_le _, by intro j hj; omega⟩
      intro j hj NX3 hN3
      unfold K7; simp (config := { maxSteps := 2000000 }) only [bitvec_to_nat, reduceIte, Nat.reduceEqDiff, Nat.reduceAdd, Nat.reduceLeDiff, reduceCtorEq, Nat.reduceBEq, Nat.reduceLT, Nat.reduceMod, List.forall_mem_cons, QZ, QE, Q2, Qh, Qj, Qa, QN, Qg, List.take_length, List.length_cons, List.length_nil, Nat.zero_add, QF, QS, QQ, QU, Zone.row, Qe, Qo, Pt.row, Qi, Qu, Aw.row, Qm, QA, Blk.row, Qb, Qk, Sec.row, Qc, Ql, Rw.row, Qn, QB, Qd]
      refine ⟨fun g4 => ⟨by omega, by omega, by omega, by omega, fun g5 => ?_, fun g5 => ⟨by omega, ?_⟩⟩, fun g4 => ⟨by omega, ?_⟩⟩
      · exact fun hq => ((A hq).2.2.2 k (by omega)).2 j (by omega) g5
      · refine hN3 (j + 1) _ (by simp only [Jz, JA, JB, JC, Qw, Qx, Qy, Qz, reduceIte, Nat.reduceEqDiff]; exact ⟨by repeat' (first | exact trivial | refine ⟨.inr rfl, ?_⟩), by repeat' (first | exact trivial | refine ⟨rfl, ?_⟩), by first | rfl | simp [closedB, Qr, Qp, Qt, dom, Qf, *], by first | rfl | simp [keepB, dom]⟩) ?_ ?_
        · exact ⟨by omega, Ja hj.2 g5⟩
        · omega
      · refine hN2 (k + 1) _ (by simp only [Jz, JA, JB, JC, Qw, Qx, Qy, Qz, reduceIte, Nat.reduceEqDiff]; exact ⟨by repeat' (first | exact trivial | refine ⟨.inr rfl, ?_⟩), by repeat' (first | exact trivial | refine ⟨rfl, ?_⟩), by first | rfl | simp [closedB, Qr, Qp, Qt, dom, Qf, *], by first | rfl | simp [keepB, dom]⟩) ?_ ?_
        · exact ⟨by omega, Ja hk.2 ⟨by omega, fun q hq => hj.2 q (by omega)⟩⟩
        · omega
    · refine ⟨by omega, ?_⟩
      refine hN (i + 1) _ (by simp only [Jz, JA, JB, JC, Qw, Qx, Qy, Qz, reduceIte, Nat.reduceEqDiff]; exact ⟨by repeat' (first | exact trivial | refine ⟨.inr rfl, ?_⟩), by repeat' (first | exact trivial | refine ⟨rfl, ?_⟩), by first | rfl | simp [closedB, Qr, Qp, Qt, dom, Qf, *], by first | rfl | simp [keepB, dom]⟩) ?_ ?_
      · exact ⟨by omega, Ja hi.2 ⟨o1.1, o1.2.1, o1.2.2, fun k hk2 => hk.2 k (by omega)⟩⟩
      · omega
  · exact ⟨by omega, fun j hj => hi.2 j (by omega)⟩
def Yk : List AV → Option (Prop × AV)
  | [.agg [.int .i64 s_w, .int .i64 s_h, .int .i64 s_lv, .sl 0 3 s_pts, .sl 0 2 s_aws, .sl 0 2 s_secs, .sl 0 4 s_rws]] => some ((((s_pts.map QO).map Pt.row = s_pts) ∧ ((s_aws.map QR).map (Aw.row 0) = s_aws) ∧ ((s_secs.map Qv).map (Sec.row 0) = s_secs) ∧ ((s_rws.map QT).map Rw.row = s_rws)) ∧ ((Sky.mk s_w s_h s_lv (s_pts.map QO) (s_aws.map QR) (s_secs.map Qv) (s_rws.map QT)).small), .bool (decide (Qgd (Sky.mk s_w s_h s_lv (s_pts.map QO) (s_aws.map QR) (s_secs.map Qv) (s_rws.map QT)).pts (Sky.mk s_w s_h s_lv (s_pts.map QO) (s_aws.map QR) (s_secs.map Qv) (s_rws.map QT)).aws)))
  | _ => none
theorem Qa1 : ∀ args p v, Yk args = some (p, v) → p → Contract P 67 args [] v [] ∧ noref v = true ∧ No99 v := by
  intro args p v h1 h2
  unfold Yk at h1
  split at h1
  · rename_i s_w s_h s_lv s_pts s_aws s_secs s_rws
    cases h1
    obtain ⟨⟨e0, e1, e2, e3⟩, HP⟩ := h2
    have := Qa0 (Sky.mk s_w s_h s_lv (s_pts.map QO) (s_aws.map QR) (s_secs.map Qv) (s_rws.map QT)) HP
    exact ⟨by simpa only [e0, e1, e2, e3, Sky.row] using this, rfl, trivial⟩
  · cases h1
theorem Qdh (s : Sky) (b : Blk) : Contract P 83 [.agg (s.row 0), .agg b.row] [] (.bool (decide (b.ok s.w s.h s.lv))) [] := by
  simp only [Sky.row, Blk.row]
  refine Qs ((Env.nil P).add 65 QZ YK) hm Va (Nat.le_of_ble_eq_true rfl) rfl ?_; unfold Xd; simp (config := { maxSteps := 2000000 }) only [bitvec_to_nat, reduceIte, Nat.reduceEqDiff, Nat.reduceAdd, Nat.reduceLeDiff, reduceCtorEq, Nat.reduceBEq, Nat.reduceLT, Nat.reduceMod, List.forall_mem_cons, QZ, Qh, Qj, Qa, QN, Qg, List.take_length, List.length_cons, List.length_nil, Nat.zero_add, QF, QS, QQ, QU, Zone.row, Qe, Qo, Pt.row, Qi, Qu, Aw.row, Qm, QA, Blk.row, Qb, Qk, Sec.row, Qc, Ql, Rw.row, Qn, QB, Qd]
  repeat' (first | with_reducible apply And.intro | with_reducible intro _)
  all_goals first | omega | grind [Blk.ok]
def Jf : List AV → Option (Prop × AV)
  | [.agg [.int .i64 s_w, .int .i64 s_h, .int .i64 s_lv, .sl 0 3 s_pts, .sl 0 2 s_aws, .sl 0 2 s_secs, .sl 0 4 s_rws], .agg [.int .i64 b_x0, .int .i64 b_y0, .int .i64 b_x1, .int .i64 b_y1, .int .i64 b_lo, .int .i64 b_hi]] => some ((((s_pts.map QO).map Pt.row = s_pts) ∧ ((s_aws.map QR).map (Aw.row 0) = s_aws) ∧ ((s_secs.map Qv).map (Sec.row 0) = s_secs) ∧ ((s_rws.map QT).map Rw.row = s_rws)) ∧ (True), .bool (decide ((Blk.mk b_x0 b_y0 b_x1 b_y1 b_lo b_hi).ok (Sky.mk s_w s_h s_lv (s_pts.map QO) (s_aws.map QR) (s_secs.map Qv) (s_rws.map QT)).w (Sky.mk s_w s_h s_lv (s_pts.map QO) (s_aws.map QR) (s_secs.map Qv) (s_rws.map QT)).h (Sky.mk s_w s_h s_lv (s_pts.map QO) (s_aws.map QR) (s_secs.map Qv) (s_rws.map QT)).lv)))
  | _ => none
theorem Zr : ∀ args p v, Jf args = some (p, v) → p → Contract P 83 args [] v [] ∧ noref v = true ∧ No99 v := by
  intro args p v h1 h2
  unfold Jf at h1
  split at h1
  · rename_i s_w s_h s_lv s_pts s_aws s_secs s_rws b_x0 b_y0 b_x1 b_y1 b_lo b_hi
    cases h1
    obtain ⟨⟨e0, e1, e2, e3⟩, HP⟩ := h2
    have := Qdh (Sky.mk s_w s_h s_lv (s_pts.map QO) (s_aws.map QR) (s_secs.map Qv) (s_rws.map QT)) (Blk.mk b_x0 b_y0 b_x1 b_y1 b_lo b_hi)
    exact ⟨by simpa only [e0, e1, e2, e3, Sky.row, Blk.row] using this, rfl, trivial⟩
  · cases h1
theorem Qh8 (a b : Blk) : Contract P 84 [.agg a.row, .agg b.row] [] (.bool (decide (a.less b))) [] := by
  simp only [Blk.row]
  refine Qs (Env.nil P) hm QaX (Nat.le_of_ble_eq_true rfl) rfl ?_; unfold Ub; simp (config := { maxSteps := 2000000 }) only [bitvec_to_nat, reduceIte, Nat.reduceEqDiff, Nat.reduceAdd, Nat.reduceLeDiff, reduceCtorEq, Nat.reduceBEq, Nat.reduceLT, Nat.reduceMod, List.forall_mem_cons, Qh, Qj, Qa, QN, Qg, List.take_length, List.length_cons, List.length_nil, Nat.zero_add, QF, QS, QQ, QU, Zone.row, Qe, Qo, Pt.row, Qi, Qu, Aw.row, Qm, QA, Blk.row, Qb, Qk, Sec.row, Qc, Ql, Rw.row, Qn, QB, Qd]
  repeat' (first | with_reducible apply And.intro | with_reducible intro _)
  all_goals first | omega | grind [Blk.less]
def JL : List AV → Option (Prop × AV)
  | [.agg [.int .i64 a_x0, .int .i64 a_y0, .int .i64 a_x1, .int .i64 a_y1, .int .i64 a_lo, .int .i64 a_hi], .agg [.int .i64 b_x0, .int .i64 b_y0, .int .i64 b_x1, .int .i64 b_y1, .int .i64 b_lo, .int .i64 b_hi]] => some ((True) ∧ (True), .bool (decide ((Blk.mk a_x0 a_y0 a_x1 a_y1 a_lo a_hi).less (Blk.mk b_x0 b_y0 b_x1 b_y1 b_lo b_hi))))
  | _ => none
theorem Qa2 : ∀ args p v, JL args = some (p, v) → p → Contract P 84 args [] v [] ∧ noref v = true ∧ No99 v := by
  intro args p v h1 h2
  unfold JL at h1
  split at h1
  · rename_i a_x0 a_y0 a_x1 a_y1 a_lo a_hi b_x0 b_y0 b_x1 b_y1 b_lo b_hi
    cases h1
    obtain ⟨_, HP⟩ := h2
    have := Qh8 (Blk.mk a_x0 a_y0 a_x1 a_y1 a_lo a_hi) (Blk.mk b_x0 b_y0 b_x1 b_y1 b_lo b_hi)
    exact ⟨by simpa only [Blk.row, Blk.row] using this, rfl, trivial⟩
  · cases h1
theorem Qfd (a b : Blk) : Contract P 86 [.agg a.row, .agg b.row] [] (.bool (decide (a.meet b))) [] := by
  simp only [Blk.row]
  refine Qs (Env.nil P) hm Wj (Nat.le_of_ble_eq_true rfl) rfl ?_; unfold XC; simp (config := { maxSteps := 2000000 }) only [bitvec_to_nat, reduceIte, Nat.reduceEqDiff, Nat.reduceAdd, Nat.reduceLeDiff, reduceCtorEq, Nat.reduceBEq, Nat.reduceLT, Nat.reduceMod, List.forall_mem_cons, Qh, Qj, Qa, QN, Qg, List.take_length, List.length_cons, List.length_nil, Nat.zero_add, QF, QS, QQ, QU, Zone.row, Qe, Qo, Pt.row, Qi, Qu, Aw.row, Qm, QA, Blk.row, Qb, Qk, Sec.row, Qc, Ql, Rw.row, Qn, QB, Qd]
  repeat' (first | with_reducible apply And.intro | with_reducible intro _)
  all_goals first | omega | grind [Blk.meet]
def Yq : List AV → Option (Prop × AV)
  | [.agg [.int .i64 a_x0, .int .i64 a_y0, .int .i64 a_x1, .int .i64 a_y1, .int .i64 a_lo, .int .i64 a_hi], .agg [.int .i64 b_x0, .int .i64 b_y0, .int .i64 b_x1, .int .i64 b_y1, .int .i64 b_lo, .int .i64 b_hi]] => some ((True) ∧ (True), .bool (decide ((Blk.mk a_x0 a_y0 a_x1 a_y1 a_lo a_hi).meet (Blk.mk b_x0 b_y0 b_x1 b_y1 b_lo b_hi))))
  | _ => none
theorem Qfe : ∀ args p v, Yq args = some (p, v) → p → Contract P 86 args [] v [] ∧ noref v = true ∧ No99 v := by
  intro args p v h1 h2
  unfold Yq at h1
  split at h1
  · rename_i a_x0 a_y0 a_x1 a_y1 a_lo a_hi b_x0 b_y0 b_x1 b_y1 b_lo b_hi
    cases h1
    obtain ⟨_, HP⟩ := h2
    have := Qfd (Blk.mk a_x0 a_y0 a_x1 a_y1 a_lo a_hi) (Blk.mk b_x0 b_y0 b_x1 b_y1 b_lo b_hi)
    exact ⟨by simpa only [Blk.row, Blk.row] using this, rfl, trivial⟩
  · cases h1
set_option maxHeartbeats 400000 in
theorem XH (s : Sky) (i : Nat) {Q : XT → St → Prop} (hi : i < s.secs.length) (hl : s.secs.length ≤ 1048576) (hQ : ∀ bv : Bool, (bv = true ↔ ¬ (JJ (s.secs.getD i default).nm ∧ (0 < i → slt (s.secs.getD (i - 1) default).nm (s.secs.getD i default).nm) ∧ 1 ≤ (s.secs.getD i default).bl.length ∧ (s.secs.getD i default).bl.length ≤ 4)) → Q .normal ⟨[(1, .ptr 101 0), (3, .int .i64 i), (4, .ptr 104 0), (48, .bool bv)], [(101, .box [.int .i64 s.w, .int .i64 s.h, .int .i64 s.lv, .sl 0 3 (s.pts.map Pt.row), .sl 0 2 (s.aws.map (Aw.row 0)), .sl 0 2 (s.secs.map (Sec.row 0)), .sl 0 4 (s.rws.map Rw.row)]), (104, .box [.str (s.secs.getD i default).nm, .sl 0 6 ((s.secs.getD i default).bl.map Blk.row)])]⟩) : SCode.wp (((((Env.nil P).add 65 QZ YK).add 82 QE J5).add 83 Jf Zr).add 84 JL Qa2) JV Q ⟨[(1, .ptr 101 0), (3, .int .i64 i), (4, .ptr 104 0)], [(101, .box [.int .i64 s.w, .int .i64 s.h, .int .i64 s.lv, .sl 0 3 (s.pts.map Pt.row), .sl 0 2 (s.aws.map (Aw.row 0)), .sl 0 2 (s.secs.map (Sec.row 0)), .sl 0 4 (s.rws.map Rw.row)]), (104, .box [.str (s.secs.getD i default).nm, .sl 0 6 ((s.secs.getD i default).bl.map Blk.row)])]⟩ := by
  all_goals (unfold JV; simp (config := { maxSteps := 2000000 }) only [bitvec_to_nat, reduceIte, Nat.reduceEqDiff, Nat.reduceAdd, Nat.reduceLeDiff, reduceCtorEq, Nat.reduceBEq, Nat.reduceLT, Nat.reduceMod, List.forall_mem_cons, QZ, QE, Jf, JL, Qh, Qj, Qa, QN, Qg, List.take_length, List.length_cons, List.length_nil, Nat.zero_add, QF, QS, QQ, QU, Zone.row, Qe, Qo, Pt.row, Qi, Qu, Aw.row, Qm, QA, Blk.row, Qb, Qk, Sec.row, Qc, Ql, Rw.row, Qn, QB, Qd])
  repeat' (first | with_reducible apply And.intro | with_reducible intro _)
  all_goals first
    | omega
    | (refine hQ _ ?_
       first
         | grind []
         | (simp; grind []))
    | grind []
set_option maxHeartbeats 400000 in
theorem XI (s : Sky) (i k : Nat) {w53 : AV} {Q : XT → St → Prop} (hk : k < (s.secs.getD i default).bl.length) (hl : (s.secs.getD i default).bl.length ≤ 1048576) (hQ : ∀ bv : Bool, (bv = true ↔ ¬ Vb s.w s.h s.lv (s.secs.getD i default).bl k) → Q .normal ⟨[(1, .ptr 101 0), (3, .int .i64 i), (4, .ptr 104 0), (5, .int .i64 k), (82, .bool bv)], [(101, .box [.int .i64 s.w, .int .i64 s.h, .int .i64 s.lv, .sl 0 3 (s.pts.map Pt.row), .sl 0 2 (s.aws.map (Aw.row 0)), .sl 0 2 (s.secs.map (Sec.row 0)), .sl 0 4 (s.rws.map Rw.row)]), (104, .box [.str (s.secs.getD i default).nm, .sl 0 6 ((s.secs.getD i default).bl.map Blk.row)])]⟩) : SCode.wp (((((Env.nil P).add 65 QZ YK).add 82 QE J5).add 83 Jf Zr).add 84 JL Qa2) JW Q ⟨[(1, .ptr 101 0), (3, .int .i64 i), (4, .ptr 104 0), (5, .int .i64 k), (53, w53)], [(101, .box [.int .i64 s.w, .int .i64 s.h, .int .i64 s.lv, .sl 0 3 (s.pts.map Pt.row), .sl 0 2 (s.aws.map (Aw.row 0)), .sl 0 2 (s.secs.map (Sec.row 0)), .sl 0 4 (s.rws.map Rw.row)]), (104, .box [.str (s.secs.getD i default).nm, .sl 0 6 ((s.secs.getD i default).bl.map Blk.row)])]⟩ := by
  all_goals (unfold JW; simp (config := { maxSteps := 2000000 }) only [bitvec_to_nat, reduceIte, Nat.reduceEqDiff, Nat.reduceAdd, Nat.reduceLeDiff, reduceCtorEq, Nat.reduceBEq, Nat.reduceLT, Nat.reduceMod, List.forall_mem_cons, QZ, QE, Jf, JL, Qh, Qj, Qa, QN, Qg, List.take_length, List.length_cons, List.length_nil, Nat.zero_add, QF, QS, QQ, QU, Zone.row, Qe, Qo, Pt.row, Qi, Qu, Aw.row, Qm, QA, Blk.row, Qb, Qk, Sec.row, Qc, Ql, Rw.row, Qn, QB, Qd])
  repeat' (first | with_reducible apply And.intro | with_reducible intro _)
  all_goals first
    | omega
    | (refine hQ _ ?_
       first
         | grind [Vb]
         | (simp; grind [Vb]))
    | grind [Vb]
theorem Qa3 (s : Sky) (hs : s.small) : Contract P 68 [.agg (s.row 0)] [] (.bool (decide (X7 s.w s.h s.lv s.secs))) [] := by
  have hl : s.secs.length ≤ 1048576 := hs.2.2.1.1
  simp only [Sky.row]
  refine Qs (((((Env.nil P).add 65 QZ YK).add 82 QE J5).add 83 Jf Zr).add 84 JL Qa2) hm Z6 (Nat.le_of_ble_eq_true rfl) rfl ?_; unfold Y8; simp (config := { maxSteps := 2000000 }) only [bitvec_to_nat, reduceIte, Nat.reduceEqDiff, Nat.reduceAdd, Nat.reduceLeDiff, reduceCtorEq, Nat.reduceBEq, Nat.reduceLT, Nat.reduceMod, List.forall_mem_cons, QZ, QE, Jf, JL, Qh, Qj, Qa, QN, Qg, List.take_length, List.length_cons, List.length_nil, Nat.zero_add, QF, QS, QQ, QU, Zone.row, Qe, Qo, Pt.row, Qi, Qu, Aw.row, Qm, QA, Blk.row, Qb, Qk, Sec.row, Qc, Ql, Rw.row, Qn, QB, Qd]
  refine ⟨fun h1 => by intro h; have := h.1; omega, fun h1 => ?_⟩
  refine QP (fun i : Nat => [(3, .int .i64 i)]) (fun _ => []) (fun i => i ≤ s.secs.length ∧ ∀ j, j < i → Qcj s.w s.h s.lv s.secs j) (fun i => s.secs.length - i) (0) (by simp only [Jz, JA, JB, JC, Qw, Qx, Qy, Qz, reduceIte, Nat.reduceEqDiff]; exact ⟨by repeat' (first | exact trivial | refine ⟨.inr rfl, ?_⟩), by repeat' (first | exact trivial | refine ⟨rfl, ?_⟩), by first | rfl | simp [closedB, Qr, Qp, Qt, dom, Qf, *], by first | rfl | simp [keepB, dom]⟩) ?_ ?_
  · exact ⟨Nat.zero_le _, by intro j hj; omega⟩
  intro i hi NX hN
  unfold Yb; simp (config := { maxSteps := 2000000 }) only [bitvec_to_nat, reduceIte, Nat.reduceEqDiff, Nat.reduceAdd, Nat.reduceLeDiff, reduceCtorEq, Nat.reduceBEq, Nat.reduceLT, Nat.reduceMod, List.forall_mem_cons, QZ, QE, Jf, JL, Qh, Qj, Qa, QN, Qg, List.take_length, List.length_cons, List.length_nil, Nat.zero_add, QF, QS, QQ, QU, Zone.row, Qe, Qo, Pt.row, Qi, Qu, Aw.row, Qm, QA, Blk.row, Qb, Qk, Sec.row, Qc, Ql, Rw.row, Qn, QB, Qd]
  refine ⟨fun g1 => ⟨by omega, by omega, ?_⟩, fun g1 => ?_⟩
  · have hq4 := Sky.small_sec hs (i := i) (by omega)
    have A : X7 s.w s.h s.lv s.secs → Qcj s.w s.h s.lv s.secs i := fun h => h.2 i (by omega)
    unfold Qcj at A
    refine XH s i (by omega) hl fun bv hbv => ?_
    cases bv
    case true =>
      simp (config := { maxSteps := 2000000 }) only [bitvec_to_nat, reduceIte, Nat.reduceEqDiff, Nat.reduceAdd, Nat.reduceLeDiff, reduceCtorEq, Nat.reduceBEq, Nat.reduceLT, Nat.reduceMod, List.forall_mem_cons, QZ, QE, Jf, JL, Qh, Qj, Qa, QN, Qg, List.take_length, List.length_cons, List.length_nil, Nat.zero_add, QF, QS, QQ, QU, Zone.row, Qe, Qo, Pt.row, Qi, Qu, Aw.row, Qm, QA, Blk.row, Qb, Qk, Sec.row, Qc, Ql, Rw.row, Qn, QB, Qd]
      exact fun hq => (hbv.1 rfl) ⟨(A hq).1, (A hq).2.1, (A hq).2.2.1⟩
    have o1 := Classical.not_not.1 fun h => Bool.noConfusion (hbv.2 h)
    simp (config := { maxSteps := 2000000 }) only [bitvec_to_nat, reduceIte, Nat.reduceEqDiff, Nat.reduceAdd, Nat.reduceLeDiff, reduceCtorEq, Nat.reduceBEq, Nat.reduceLT, Nat.reduceMod, List.forall_mem_cons, QZ, QE, Jf, JL, Qh, Qj, Qa, QN, Qg, List.take_length, List.length_cons, List.length_nil, Nat.zero_add, QF, QS, QQ, QU, Zone.row, Qe, Qo, Pt.row, Qi, Qu, Aw.row, Qm, QA, Blk.row, Qb, Qk, Sec.row, Qc, Ql, Rw.row, Qn, QB, Qd]
    refine QP (fun k : Nat => [(5, .int .i64 k)]) (fun _ => []) (fun k => k ≤ (s.secs.getD i default).bl.length ∧ ∀ j, j < k → Vb s.w s.h s.lv (s.secs.getD i default).bl j) (fun k => (s.secs.getD i default).bl.length - k) (0) (by simp only [Jz, JA, JB, JC, Qw, Qx, Qy, Qz, reduceIte, Nat.reduceEqDiff]; exact ⟨by repeat' (first | exact trivial | refine ⟨.inr rfl, ?_⟩), by repeat' (first | exact trivial | refine ⟨rfl, ?_⟩), by first | rfl | simp [closedB, Qr, Qp, Qt, dom, Qf, *], by first | rfl | simp [keepB, dom]⟩) ?_ ?_
    · exact ⟨Nat.zero_le _, by intro j hj; omega⟩
    intro k hk NX2 hN2
    unfold Ya; simp (config := { maxSteps := 2000000 }) only [bitvec_to_nat, reduceIte, Nat.reduceEqDiff, Nat.reduceAdd, Nat.reduceLeDiff, reduceCtorEq, Nat.reduceBEq, Nat.reduceLT, Nat.reduceMod, List.forall_mem_cons, QZ, QE, Jf, JL, Qh, Qj, Qa, QN, Qg, List.take_length, List.length_cons, List.length_nil, Nat.zero_add, QF, QS, QQ, QU, Zone.row, Qe, Qo, Pt.row, Qi, Qu, Aw.row, Qm, QA, Blk.row, Qb, Qk, Sec.row, Qc, Ql, Rw.row, Qn, QB, Qd]
    refine ⟨fun g2 => ?_, fun g2 => ?_⟩
    · refine XI s i k (by omega) hq4 fun bv hbv => ?_
      cases bv
      case true =>
        simp (config := { maxSteps := 2000000 }) only [bitvec_to_nat, reduceIte, Nat.reduceEqDiff, Nat.reduceAdd, Nat.reduceLeDiff, reduceCtorEq, Nat.reduceBEq, Nat.reduceLT, Nat.reduceMod, List.forall_mem_cons, QZ, QE, Jf, JL, Qh, Qj, Qa, QN, Qg, List.take_length, List.length_cons, List.length_nil, Nat.zero_add, QF, QS, QQ, QU, Zone.row, Qe, Qo, Pt.row, Qi, Qu, Aw.row, Qm, QA, Blk.row, Qb, Qk, Sec.row, Qc, Ql, Rw.row, Qn, QB, Qd]
        exact fun hq => (hbv.1 rfl) ((A hq).2.2.2 k (by omega))
      have o2 := Classical.not_not.1 fun h => Bool.noConfusion (hbv.2 h)
      simp (config := { maxSteps := 2000000 }) only [bitvec_to_nat, reduceIte, Nat.reduceEqDiff, Nat.reduceAdd, Nat.reduceLeDiff, reduceCtorEq, Nat.reduceBEq, Nat.reduceLT, Nat.reduceMod, List.forall_mem_cons, QZ, QE, Jf, JL, Qh, Qj, Qa, QN, Qg, List.take_length, List.length_cons, List.length_nil, Nat.zero_add, QF, QS, QQ, QU, Zone.row, Qe, Qo, Pt.row, Qi, Qu, Aw.row, Qm, QA, Blk.row, Qb, Qk, Sec.row, Qc, Ql, Rw.row, Qn, QB, Qd]
      refine ⟨by omega, ?_⟩
      refine hN2 (k + 1) _ (by simp only [Jz, JA, JB, JC, Qw, Qx, Qy, Qz, reduceIte, Nat.reduceEqDiff]; exact ⟨by repeat' (first | exact trivial | refine ⟨.inr rfl, ?_⟩), by repeat' (first | exact trivial | refine ⟨rfl, ?_⟩), by first | rfl | simp [closedB, Qr, Qp, Qt, dom, Qf, *], by first | rfl | simp [keepB, dom]⟩) ?_ ?_
      · exact ⟨by omega, Ja hk.2 o2⟩
      · omega
    · refine ⟨by omega, ?_⟩
      refine hN (i + 1) _ (by simp only [Jz, JA, JB, JC, Qw, Qx, Qy, Qz, reduceIte, Nat.reduceEqDiff]; exact ⟨by repeat' (first | exact trivial | refine ⟨.inr rfl, ?_⟩), by repeat' (first | exact trivial | refine ⟨rfl, ?_⟩), by first | rfl | simp [closedB, Qr, Qp, Qt, dom, Qf, *], by first | rfl | simp [keepB, dom]⟩) ?_ ?_
      · exact ⟨by omega, Ja hi.2 ⟨o1.1, o1.2.1, o1.2.2, fun k hk2 => hk.2 k (by omega)⟩⟩
      · omega
  · exact ⟨by omega, fun j hj => hi.2 j (by omega)⟩
def Yl : List AV → Option (Prop × AV)
  | [.agg [.int .i64 s_w, .int .i64 s_h, .int .i64 s_lv, .sl 0 3 s_pts, .sl 0 2 s_aws, .sl 0 2 s_secs, .sl 0 4 s_rws]] => some ((((s_pts.map QO).map Pt.row = s_pts) ∧ ((s_aws.map QR).map (Aw.row 0) = s_aws) ∧ ((s_secs.map Qv).map (Sec.row 0) = s_secs) ∧ ((s_rws.map QT).map Rw.row = s_rws)) ∧ ((Sky.mk s_w s_h s_lv (s_pts.map QO) (s_aws.map QR) (s_secs.map Qv) (s_rws.map QT)).small), .bool (decide (X7 (Sky.mk s_w s_h s_lv (s_pts.map QO) (s_aws.map QR) (s_secs.map Qv) (s_rws.map QT)).w (Sky.mk s_w s_h s_lv (s_pts.map QO) (s_aws.map QR) (s_secs.map Qv) (s_rws.map QT)).h (Sky.mk s_w s_h s_lv (s_pts.map QO) (s_aws.map QR) (s_secs.map Qv) (s_rws.map QT)).lv (Sky.mk s_w s_h s_lv (s_pts.map QO) (s_aws.map QR) (s_secs.map Qv) (s_rws.map QT)).secs)))
  | _ => none
theorem Qa4 : ∀ args p v, Yl args = some (p, v) → p → Contract P 68 args [] v [] ∧ noref v = true ∧ No99 v := by
  intro args p v h1 h2
  unfold Yl at h1
  split at h1
  · rename_i s_w s_h s_lv s_pts s_aws s_secs s_rws
    cases h1
    obtain ⟨⟨e0, e1, e2, e3⟩, HP⟩ := h2
    have := Qa3 (Sky.mk s_w s_h s_lv (s_pts.map QO) (s_aws.map QR) (s_secs.map Qv) (s_rws.map QT)) HP
    exact ⟨by simpa only [e0, e1, e2, e3, Sky.row] using this, rfl, trivial⟩
  · cases h1
theorem Qmu (t : Int) : Contract P 87 [.int .i64 t] [] (.int .i64 (dX t)) [] := by
  refine Qs (Env.nil P) hm Qdf (Nat.le_of_ble_eq_true rfl) rfl ?_; unfold Wl; simp (config := { maxSteps := 2000000 }) only [bitvec_to_nat, reduceIte, Nat.reduceEqDiff, Nat.reduceAdd, Nat.reduceLeDiff, reduceCtorEq, Nat.reduceBEq, Nat.reduceLT, Nat.reduceMod, List.forall_mem_cons, Qh, Qj, Qa, QN, Qg, List.take_length, List.length_cons, List.length_nil, Nat.zero_add, QF, QS, QQ, QU, Zone.row, Qe, Qo, Pt.row, Qi, Qu, Aw.row, Qm, QA, Blk.row, Qb, Qk, Sec.row, Qc, Ql, Rw.row, Qn, QB, Qd]
  repeat' (first | with_reducible apply And.intro | with_reducible intro _)
  all_goals first | omega | (unfold dX; grind)
def Qbw : List AV → Option (Prop × AV)
  | [.int .i64 t] => some ((True) ∧ (True), .int .i64 (dX t))
  | _ => none
theorem Qmb : ∀ args p v, Qbw args = some (p, v) → p → Contract P 87 args [] v [] ∧ noref v = true ∧ No99 v := by
  intro args p v h1 h2
  unfold Qbw at h1
  split at h1
  · rename_i t
    cases h1
    obtain ⟨_, HP⟩ := h2
    have := Qmu t
    exact ⟨this, rfl, trivial⟩
  · cases h1
theorem Qmv (t : Int) : Contract P 88 [.int .i64 t] [] (.int .i64 (dY t)) [] := by
  refine Qs (Env.nil P) hm Qdg (Nat.le_of_ble_eq_true rfl) rfl ?_; unfold Wm; simp (config := { maxSteps := 2000000 }) only [bitvec_to_nat, reduceIte, Nat.reduceEqDiff, Nat.reduceAdd, Nat.reduceLeDiff, reduceCtorEq, Nat.reduceBEq, Nat.reduceLT, Nat.reduceMod, List.forall_mem_cons, Qh, Qj, Qa, QN, Qg, List.take_length, List.length_cons, List.length_nil, Nat.zero_add, QF, QS, QQ, QU, Zone.row, Qe, Qo, Pt.row, Qi, Qu, Aw.row, Qm, QA, Blk.row, Qb, Qk, Sec.row, Qc, Ql, Rw.row, Qn, QB, Qd]
  repeat' (first | with_reducible apply And.intro | with_reducible intro _)
  all_goals first | omega | (unfold dY; grind)
def Qbx : List AV → Option (Prop × AV)
  | [.int .i64 t] => some ((True) ∧ (True), .int .i64 (dY t))
  | _ => none
theorem Qmc : ∀ args p v, Qbx args = some (p, v) → p → Contract P 88 args [] v [] ∧ noref v = true ∧ No99 v := by
  intro args p v h1 h2
  unfold Qbx at h1
  split at h1
  · rename_i t
    cases h1
    obtain ⟨_, HP⟩ := h2
    have := Qmv t
    exact ⟨this, rfl, trivial⟩
  · cases h1
set_option maxHeartbeats 400000 in
theorem XJ (s : Sky) (i : Nat) {Q : XT → St → Prop} (hi : i < s.rws.length) (hl : s.rws.length ≤ 1048576) (hd : KY s.w s.h s.lv) (hQ : ∀ bv : Bool, (bv = true ↔ ¬ (JJ (s.rws.getD i default).nm ∧ (0 < i → slt (s.rws.getD (i - 1) default).nm (s.rws.getD i default).nm) ∧ J0 s.w s.h (s.rws.getD i default).x (s.rws.getD i default).y ∧ 1 ≤ (s.rws.getD i default).tn ∧ (s.rws.getD i default).tn ≤ 8)) → Q .normal ⟨[(1, .ptr 101 0), (3, .int .i64 i), (4, .ptr 104 0), (65, .bool bv)], [(101, .box [.int .i64 s.w, .int .i64 s.h, .int .i64 s.lv, .sl 0 3 (s.pts.map Pt.row), .sl 0 2 (s.aws.map (Aw.row 0)), .sl 0 2 (s.secs.map (Sec.row 0)), .sl 0 4 (s.rws.map Rw.row)]), (104, .box [.str (s.rws.getD i default).nm, .int .i64 (s.rws.getD i default).x, .int .i64 (s.rws.getD i default).y, .int .i64 (s.rws.getD i default).tn])]⟩) : SCode.wp (((((Env.nil P).add 65 QZ YK).add 82 QE J5).add 87 Qbw Qmb).add 88 Qbx Qmc) JX Q ⟨[(1, .ptr 101 0), (3, .int .i64 i), (4, .ptr 104 0)], [(101, .box [.int .i64 s.w, .int .i64 s.h, .int .i64 s.lv, .sl 0 3 (s.pts.map Pt.row), .sl 0 2 (s.aws.map (Aw.row 0)), .sl 0 2 (s.secs.map (Sec.row 0)), .sl 0 4 (s.rws.map Rw.row)]), (104, .box [.str (s.rws.getD i default).nm, .int .i64 (s.rws.getD i default).x, .int .i64 (s.rws.getD i default).y, .int .i64 (s.rws.getD i default).tn])]⟩ := by
  all_goals (unfold JX; simp (config := { maxSteps := 2000000 }) only [bitvec_to_nat, reduceIte, Nat.reduceEqDiff, Nat.reduceAdd, Nat.reduceLeDiff, reduceCtorEq, Nat.reduceBEq, Nat.reduceLT, Nat.reduceMod, List.forall_mem_cons, QZ, QE, Qbw, Qbx, Qh, Qj, Qa, QN, Qg, List.take_length, List.length_cons, List.length_nil, Nat.zero_add, QF, QS, QQ, QU, Zone.row, Qe, Qo, Pt.row, Qi, Qu, Aw.row, Qm, QA, Blk.row, Qb, Qk, Sec.row, Qc, Ql, Rw.row, Qn, QB, Qd])
  repeat' (first | with_reducible apply And.intro | with_reducible intro _)
  all_goals first
    | omega
    | (refine hQ _ ?_
       first
         | grind [J0, KY]
         | (simp; grind [J0, KY]))
    | grind [J0, KY]
set_option maxHeartbeats 400000 in
theorem XK (s : Sky) (i : Nat) {w65 : AV} {Q : XT → St → Prop} (hd : KY s.w s.h s.lv) (hc : J0 s.w s.h (s.rws.getD i default).x (s.rws.getD i default).y) (d1 : -1 ≤ dX (s.rws.getD i default).tn ∧ dX (s.rws.getD i default).tn ≤ 1) (d2 : -1 ≤ dY (s.rws.getD i default).tn ∧ dY (s.rws.getD i default).tn ≤ 1) (hQ : ∀ bv : Bool, (bv = true ↔ ¬ J0 s.w s.h ((s.rws.getD i default).x - dX (s.rws.getD i default).tn) ((s.rws.getD i default).y - dY (s.rws.getD i default).tn)) → Q .normal ⟨[(1, .ptr 101 0), (3, .int .i64 i), (4, .ptr 104 0), (89, .bool bv)], [(101, .box [.int .i64 s.w, .int .i64 s.h, .int .i64 s.lv, .sl 0 3 (s.pts.map Pt.row), .sl 0 2 (s.aws.map (Aw.row 0)), .sl 0 2 (s.secs.map (Sec.row 0)), .sl 0 4 (s.rws.map Rw.row)]), (104, .box [.str (s.rws.getD i default).nm, .int .i64 (s.rws.getD i default).x, .int .i64 (s.rws.getD i default).y, .int .i64 (s.rws.getD i default).tn])]⟩) : SCode.wp (((((Env.nil P).add 65 QZ YK).add 82 QE J5).add 87 Qbw Qmb).add 88 Qbx Qmc) JY Q ⟨[(1, .ptr 101 0), (3, .int .i64 i), (4, .ptr 104 0), (65, w65)], [(101, .box [.int .i64 s.w, .int .i64 s.h, .int .i64 s.lv, .sl 0 3 (s.pts.map Pt.row), .sl 0 2 (s.aws.map (Aw.row 0)), .sl 0 2 (s.secs.map (Sec.row 0)), .sl 0 4 (s.rws.map Rw.row)]), (104, .box [.str (s.rws.getD i default).nm, .int .i64 (s.rws.getD i default).x, .int .i64 (s.rws.getD i default).y, .int .i64 (s.rws.getD i default).tn])]⟩ := by
  all_goals (unfold JY; simp (config := { maxSteps := 2000000 }) only [bitvec_to_nat, reduceIte, Nat.reduceEqDiff, Nat.reduceAdd, Nat.reduceLeDiff, reduceCtorEq, Nat.reduceBEq, Nat.reduceLT, Nat.reduceMod, List.forall_mem_cons, QZ, QE, Qbw, Qbx, Qh, Qj, Qa, QN, Qg, List.take_length, List.length_cons, List.length_nil, Nat.zero_add, QF, QS, QQ, QU, Zone.row, Qe, Qo, Pt.row, Qi, Qu, Aw.row, Qm, QA, Blk.row, Qb, Qk, Sec.row, Qc, Ql, Rw.row, Qn, QB, Qd])
  repeat' (first | with_reducible apply And.intro | with_reducible intro _)
  all_goals first
    | omega
    | (refine hQ _ ?_
       first
         | grind [J0, KY]
         | (simp; grind [J0, KY]))
    | grind [J0, KY]
set_option maxHeartbeats 400000 in
theorem XL (s : Sky) (i k : Nat) {w92 : AV} {Q : XT → St → Prop} (hi : i < s.rws.length) (hk : k < i) (hl : s.rws.length ≤ 1048576) (hQ : ∀ bv : Bool, (bv = true ↔ ((s.rws.getD k default).x = (s.rws.getD i default).x ∧ (s.rws.getD k default).y = (s.rws.getD i default).y)) → Q .normal ⟨[(1, .ptr 101 0), (3, .int .i64 i), (4, .ptr 104 0), (5, .int .i64 k), (114, .bool bv)], [(101, .box [.int .i64 s.w, .int .i64 s.h, .int .i64 s.lv, .sl 0 3 (s.pts.map Pt.row), .sl 0 2 (s.aws.map (Aw.row 0)), .sl 0 2 (s.secs.map (Sec.row 0)), .sl 0 4 (s.rws.map Rw.row)]), (104, .box [.str (s.rws.getD i default).nm, .int .i64 (s.rws.getD i default).x, .int .i64 (s.rws.getD i default).y, .int .i64 (s.rws.getD i default).tn])]⟩) : SCode.wp (((((Env.nil P).add 65 QZ YK).add 82 QE J5).add 87 Qbw Qmb).add 88 Qbx Qmc) JZ Q ⟨[(1, .ptr 101 0), (3, .int .i64 i), (4, .ptr 104 0), (5, .int .i64 k), (92, w92)], [(101, .box [.int .i64 s.w, .int .i64 s.h, .int .i64 s.lv, .sl 0 3 (s.pts.map Pt.row), .sl 0 2 (s.aws.map (Aw.row 0)), .sl 0 2 (s.secs.map (Sec.row 0)), .sl 0 4 (s.rws.map Rw.row)]), (104, .box [.str (s.rws.getD i default).nm, .int .i64 (s.rws.getD i default).x, .int .i64 (s.rws.getD i default).y, .int .i64 (s.rws.getD i default).tn])]⟩ := by
  all_goals (unfold JZ; simp (config := { maxSteps := 2000000 }) only [bitvec_to_nat, reduceIte, Nat.reduceEqDiff, Nat.reduceAdd, Nat.reduceLeDiff, reduceCtorEq, Nat.reduceBEq, Nat.reduceLT, Nat.reduceMod, List.forall_mem_cons, QZ, QE, Qbw, Qbx, Qh, Qj, Qa, QN, Qg, List.take_length, List.length_cons, List.length_nil, Nat.zero_add, QF, QS, QQ, QU, Zone.row, Qe, Qo, Pt.row, Qi, Qu, Aw.row, Qm, QA, Blk.row, Qb, Qk, Sec.row, Qc, Ql, Rw.row, Qn, QB, Qd])
  repeat' (first | with_reducible apply And.intro | with_reducible intro _)
  all_goals first
    | omega
    | (refine hQ _ ?_
       first
         | grind []
         | (simp; grind []))
    | grind []
theorem Qa5 (s : Sky) (hd : KY s.w s.h s.lv) (hs : s.small) : Contract P 70 [.agg (s.row 0)] [] (.bool (decide (Qge s.w s.h s.rws))) [] := by
  have hl : s.rws.length ≤ 1048576 := hs.2.2.2
  simp only [Sky.row]
  refine Qs (((((Env.nil P).add 65 QZ YK).add 82 QE J5).add 87 Qbw Qmb).add 88 Qbx Qmc) hm Z7 (Nat.le_of_ble_eq_true rfl) rfl ?_; unfold Y9; simp (config := { maxSteps := 2000000 }) only [bitvec_to_nat, reduceIte, Nat.reduceEqDiff, Nat.reduceAdd, Nat.reduceLeDiff, reduceCtorEq, Nat.reduceBEq, Nat.reduceLT, Nat.reduceMod, List.forall_mem_cons, QZ, QE, Qbw, Qbx, Qh, Qj, Qa, QN, Qg, List.take_length, List.length_cons, List.length_nil, Nat.zero_add, QF, QS, QQ, QU, Zone.row, Qe, Qo, Pt.row, Qi, Qu, Aw.row, Qm, QA, Blk.row, Qb, Qk, Sec.row, Qc, Ql, Rw.row, Qn, QB, Qd]
  refine ⟨fun h1 => by intro h; have := h.1; omega, fun h1 => ?_⟩
  refine QP (fun i : Nat => [(3, .int .i64 i)]) (fun _ => []) (fun i => i ≤ s.rws.length ∧ ∀ j, j < i → QjE s.w s.h s.rws j) (fun i => s.rws.length - i) (0) (by simp only [Jz, JA, JB, JC, Qw, Qx, Qy, Qz, reduceIte, Nat.reduceEqDiff]; exact ⟨by repeat' (first | exact trivial | refine ⟨.inr rfl, ?_⟩), by repeat' (first | exact trivial | refine ⟨rfl, ?_⟩), by first | rfl | simp [closedB, Qr, Qp, Qt, dom, Qf, *], by first | rfl | simp [keepB, dom]⟩) ?_ ?_
  · exact ⟨Nat.zero_le _, by intro j hj; omega⟩
  intro i hi NX hN
  unfold Yd; simp (config := { maxSteps := 2000000 }) only [bitvec_to_nat, reduceIte, Nat.reduceEqDiff, Nat.reduceAdd, Nat.reduceLeDiff, reduceCtorEq, Nat.reduceBEq, Nat.reduceLT, Nat.reduceMod, List.forall_mem_cons, QZ, QE, Qbw, Qbx, Qh, Qj, Qa, QN, Qg, List.take_length, List.length_cons, List.length_nil, Nat.zero_add, QF, QS, QQ, QU, Zone.row, Qe, Qo, Pt.row, Qi, Qu, Aw.row, Qm, QA, Blk.row, Qb, Qk, Sec.row, Qc, Ql, Rw.row, Qn, QB, Qd]
  refine ⟨fun g1 => ⟨by omega, by omega, ?_⟩, fun g1 => ?_⟩
  · have A : Qge s.w s.h s.rws → QjE s.w s.h s.rws i := fun h => h.2 i (by omega)
    unfold QjE Rw.ok at A
    refine XJ s i (by omega) hl hd fun bv hbv => ?_
    cases bv
    case true =>
      simp (config := { maxSteps := 2000000 }) only [bitvec_to_nat, reduceIte, Nat.reduceEqDiff, Nat.reduceAdd, Nat.reduceLeDiff, reduceCtorEq, Nat.reduceBEq, Nat.reduceLT, Nat.reduceMod, List.forall_mem_cons, QZ, QE, Qbw, Qbx, Qh, Qj, Qa, QN, Qg, List.take_length, List.length_cons, List.length_nil, Nat.zero_add, QF, QS, QQ, QU, Zone.row, Qe, Qo, Pt.row, Qi, Qu, Aw.row, Qm, QA, Blk.row, Qb, Qk, Sec.row, Qc, Ql, Rw.row, Qn, QB, Qd]
      exact fun hq => (hbv.1 rfl) ⟨(A hq).1, (A hq).2.1, (A hq).2.2.1.2.1, (A hq).2.2.1.1⟩
    have o1 := Classical.not_not.1 fun h => Bool.noConfusion (hbv.2 h)
    simp (config := { maxSteps := 2000000 }) only [bitvec_to_nat, reduceIte, Nat.reduceEqDiff, Nat.reduceAdd, Nat.reduceLeDiff, reduceCtorEq, Nat.reduceBEq, Nat.reduceLT, Nat.reduceMod, List.forall_mem_cons, QZ, QE, Qbw, Qbx, Qh, Qj, Qa, QN, Qg, List.take_length, List.length_cons, List.length_nil, Nat.zero_add, QF, QS, QQ, QU, Zone.row, Qe, Qo, Pt.row, Qi, Qu, Aw.row, Qm, QA, Blk.row, Qb, Qk, Sec.row, Qc, Ql, Rw.row, Qn, QB, Qd]
    refine XK s i hd o1.2.2.1 (Qk7 _) (Qk8 _) fun bv hbv => ?_
    cases bv
    case true =>
      simp (config := { maxSteps := 2000000 }) only [bitvec_to_nat, reduceIte, Nat.reduceEqDiff, Nat.reduceAdd, Nat.reduceLeDiff, reduceCtorEq, Nat.reduceBEq, Nat.reduceLT, Nat.reduceMod, List.forall_mem_cons, QZ, QE, Qbw, Qbx, Qh, Qj, Qa, QN, Qg, List.take_length, List.length_cons, List.length_nil, Nat.zero_add, QF, QS, QQ, QU, Zone.row, Qe, Qo, Pt.row, Qi, Qu, Aw.row, Qm, QA, Blk.row, Qb, Qk, Sec.row, Qc, Ql, Rw.row, Qn, QB, Qd]
      exact fun hq => (hbv.1 rfl) (A hq).2.2.1.2.2
    have o2 := Classical.not_not.1 fun h => Bool.noConfusion (hbv.2 h)
    simp (config := { maxSteps := 2000000 }) only [bitvec_to_nat, reduceIte, Nat.reduceEqDiff, Nat.reduceAdd, Nat.reduceLeDiff, reduceCtorEq, Nat.reduceBEq, Nat.reduceLT, Nat.reduceMod, List.forall_mem_cons, QZ, QE, Qbw, Qbx, Qh, Qj, Qa, QN, Qg, List.take_length, List.length_cons, List.length_nil, Nat.zero_add, QF, QS, QQ, QU, Zone.row, Qe, Qo, Pt.row, Qi, Qu, Aw.row, Qm, QA, Blk.row, Qb, Qk, Sec.row, Qc, Ql, Rw.row, Qn, QB, Qd]
    refine QP (fun k : Nat => [(5, .int .i64 k)]) (fun _ => []) (fun k => k ≤ i ∧ ∀ j, j < k → ¬ ((s.rws.getD j default).x = (s.rws.getD i default).x ∧ (s.rws.getD j default).y = (s.rws.getD i default).y)) (fun k => i - k) (0) (by simp only [Jz, JA, JB, JC, Qw, Qx, Qy, Qz, reduceIte, Nat.reduceEqDiff]; exact ⟨by repeat' (first | exact trivial | refine ⟨.inr rfl, ?_⟩), by repeat' (first | exact trivial | refine ⟨rfl, ?_⟩), by first | rfl | simp [closedB, Qr, Qp, Qt, dom, Qf, *], by first | rfl | simp [keepB, dom]⟩) ?_ ?_
    · exact ⟨Nat.zero_le _, by intro j hj; omega⟩
    intro k hk NX2 hN2
    unfold Yc; simp (config := { maxSteps := 2000000 }) only [bitvec_to_nat, reduceIte, Nat.reduceEqDiff, Nat.reduceAdd, Nat.reduceLeDiff, reduceCtorEq, Nat.reduceBEq, Nat.reduceLT, Nat.reduceMod, List.forall_mem_cons, QZ, QE, Qbw, Qbx, Qh, Qj, Qa, QN, Qg, List.take_length, List.length_cons, List.length_nil, Nat.zero_add, QF, QS, QQ, QU, Zone.row, Qe, Qo, Pt.row, Qi, Qu, Aw.row, Qm, QA, Blk.row, Qb, Qk, Sec.row, Qc, Ql, Rw.row, Qn, QB, Qd]
    refine ⟨fun g2 => ?_, fun g2 => ?_⟩
    · refine XL s i k (by omega) (by omega) hl fun bv hbv => ?_
      cases bv
      case true =>
        simp (config := { maxSteps := 2000000 }) only [bitvec_to_nat, reduceIte, Nat.reduceEqDiff, Nat.reduceAdd, Nat.reduceLeDiff, reduceCtorEq, Nat.reduceBEq, Nat.reduceLT, Nat.reduceMod, List.forall_mem_cons, QZ, QE, Qbw, Qbx, Qh, Qj, Qa, QN, Qg, List.take_length, List.length_cons, List.length_nil, Nat.zero_add, QF, QS, QQ, QU, Zone.row, Qe, Qo, Pt.row, Qi, Qu, Aw.row, Qm, QA, Blk.row, Qb, Qk, Sec.row, Qc, Ql, Rw.row, Qn, QB, Qd]
        exact fun hq => (A hq).2.2.2 k (by omega) (hbv.1 rfl)
      have o3 : ¬ _ := fun h => Bool.noConfusion (hbv.2 h)
      simp (config := { maxSteps := 2000000 }) only [bitvec_to_nat, reduceIte, Nat.reduceEqDiff, Nat.reduceAdd, Nat.reduceLeDiff, reduceCtorEq, Nat.reduceBEq, Nat.reduceLT, Nat.reduceMod, List.forall_mem_cons, QZ, QE, Qbw, Qbx, Qh, Qj, Qa, QN, Qg, List.take_length, List.length_cons, List.length_nil, Nat.zero_add, QF, QS, QQ, QU, Zone.row, Qe, Qo, Pt.row, Qi, Qu, Aw.row, Qm, QA, Blk.row, Qb, Qk, Sec.row, Qc, Ql, Rw.row, Qn, QB, Qd]
      refine ⟨by omega, ?_⟩
      refine hN2 (k + 1) _ (by simp only [Jz, JA, JB, JC, Qw, Qx, Qy, Qz, reduceIte, Nat.reduceEqDiff]; exact ⟨by repeat' (first | exact trivial | refine ⟨.inr rfl, ?_⟩), by repeat' (first | exact trivial | refine ⟨rfl, ?_⟩), by first | rfl | simp [closedB, Qr, Qp, Qt, dom, Qf, *], by first | rfl | simp [keepB, dom]⟩) ?_ ?_
      · exact ⟨by omega, Ja hk.2 o3⟩
      · omega
    · refine ⟨by omega, ?_⟩
      refine hN (i + 1) _ (by simp only [Jz, JA, JB, JC, Qw, Qx, Qy, Qz, reduceIte, Nat.reduceEqDiff]; exact ⟨by repeat' (first | exact trivial | refine ⟨.inr rfl, ?_⟩), by repeat' (first | exact trivial | refine ⟨rfl, ?_⟩), by first | rfl | simp [closedB, Qr, Qp, Qt, dom, Qf, *], by first | rfl | simp [keepB, dom]⟩) ?_ ?_
      · exact ⟨by omega, Ja hi.2 ⟨o1.1, o1.2.1, ⟨o1.2.2.2, o1.2.2.1, o2⟩, fun k hk2 => hk.2 k (by omega)⟩⟩
      · omega
  · exact ⟨by omega, fun j hj => hi.2 j (by omega)⟩
def Ym : List AV → Option (Prop × AV)
  | [.agg [.int .i64 s_w, .int .i64 s_h, .int .i64 s_lv, .sl 0 3 s_pts, .sl 0 2 s_aws, .sl 0 2 s_secs, .sl 0 4 s_rws]] => some ((((s_pts.map QO).map Pt.row = s_pts) ∧ ((s_aws.map QR).map (Aw.row 0) = s_aws) ∧ ((s_secs.map Qv).map (Sec.row 0) = s_secs) ∧ ((s_rws.map QT).map Rw.row = s_rws)) ∧ (KY (Sky.mk s_w s_h s_lv (s_pts.map QO) (s_aws.map QR) (s_secs.map Qv) (s_rws.map QT)).w (Sky.mk s_w s_h s_lv (s_pts.map QO) (s_aws.map QR) (s_secs.map Qv) (s_rws.map QT)).h (Sky.mk s_w s_h s_lv (s_pts.map QO) (s_aws.map QR) (s_secs.map Qv) (s_rws.map QT)).lv ∧ (Sky.mk s_w s_h s_lv (s_pts.map QO) (s_aws.map QR) (s_secs.map Qv) (s_rws.map QT)).small), .bool (decide (Qge (Sky.mk s_w s_h s_lv (s_pts.map QO) (s_aws.map QR) (s_secs.map Qv) (s_rws.map QT)).w (Sky.mk s_w s_h s_lv (s_pts.map QO) (s_aws.map QR) (s_secs.map Qv) (s_rws.map QT)).h (Sky.mk s_w s_h s_lv (s_pts.map QO) (s_aws.map QR) (s_secs.map Qv) (s_rws.map QT)).rws)))
  | _ => none
theorem Qa6 : ∀ args p v, Ym args = some (p, v) → p → Contract P 70 args [] v [] ∧ noref v = true ∧ No99 v := by
  intro args p v h1 h2
  unfold Ym at h1
  split at h1
  · rename_i s_w s_h s_lv s_pts s_aws s_secs s_rws
    cases h1
    obtain ⟨⟨e0, e1, e2, e3⟩, HP⟩ := h2
    have := Qa5 (Sky.mk s_w s_h s_lv (s_pts.map QO) (s_aws.map QR) (s_secs.map Qv) (s_rws.map QT)) HP.1 HP.2
    exact ⟨by simpa only [e0, e1, e2, e3, Sky.row] using this, rfl, trivial⟩
  · cases h1
end
end Go.Ve

