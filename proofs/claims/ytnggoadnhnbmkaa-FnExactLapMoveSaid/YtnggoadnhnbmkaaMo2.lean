/- Part 2 of the proof: laws and contracts of functions, each proved; they are joined in the last part. No conditions beyond those that the theorems state. -/
import Derived.Test.YtnggoadnhnbmkaaProg
import Derived.Test.YtnggoadnhnbmkaaMo1
set_option linter.all false
namespace Go.Ve
open Go.Proofs
/-- spec.l21In: function 57 -/
def s_spec_l21In : SFun := { n := 15, res := [.t 6], body := (.seq (.rg [⟨some 6, .mv (.c (.bool false)), none, [6]⟩] [0, 1, 2]) (.seq (.rg [⟨some 7, .mv (.v 0), none, []⟩, ⟨some 8, .mv (.v 1), none, [1]⟩, ⟨some 9, .bin .geq (.v 7) (.v 8), none, [7, 8]⟩, ⟨some 10, .mv (.v 9), none, [9]⟩, ⟨some 11, .mv (.v 0), some (10, true), [0]⟩, ⟨some 12, .mv (.v 2), some (10, true), [2]⟩, ⟨some 13, .bin .leq (.v 11) (.v 12), some (10, true), [11, 12]⟩, ⟨some 14, .pick (.v 10) (.v 13) (.c (.bool false)), none, [10, 13]⟩, ⟨some 6, .mv (.v 14), none, [14]⟩] [6]) .ret)) }
theorem k_spec_l21In : okFun Go.Proofs.Try.prog 57 s_spec_l21In = true := by kernel_rfl
/-- spec.l1In: function 105 -/
def s_spec_l1In : SFun := { n := 15, res := [.t 6], body := (.seq (.rg [⟨some 6, .mv (.c (.bool false)), none, [6]⟩] [0, 1, 2]) (.seq (.rg [⟨some 7, .mv (.v 0), none, []⟩, ⟨some 8, .mv (.v 1), none, [1]⟩, ⟨some 9, .bin .geq (.v 7) (.v 8), none, [7, 8]⟩, ⟨some 10, .mv (.v 9), none, [9]⟩, ⟨some 11, .mv (.v 0), some (10, true), [0]⟩, ⟨some 12, .mv (.v 2), some (10, true), [2]⟩, ⟨some 13, .bin .leq (.v 11) (.v 12), some (10, true), [11, 12]⟩, ⟨some 14, .pick (.v 10) (.v 13) (.c (.bool false)), none, [10, 13]⟩, ⟨some 6, .mv (.v 14), none, [14]⟩] [6]) .ret)) }
theorem k_spec_l1In : okFun Go.Proofs.Try.prog 105 s_spec_l1In = true := by kernel_rfl
/-- spec.l31In: function 118 -/
def s_spec_l31In : SFun := { n := 15, res := [.t 6], body := (.seq (.rg [⟨some 6, .mv (.c (.bool false)), none, [6]⟩] [0, 1, 2]) (.seq (.rg [⟨some 7, .mv (.v 0), none, []⟩, ⟨some 8, .mv (.v 1), none, [1]⟩, ⟨some 9, .bin .geq (.v 7) (.v 8), none, [7, 8]⟩, ⟨some 10, .mv (.v 9), none, [9]⟩, ⟨some 11, .mv (.v 0), some (10, true), [0]⟩, ⟨some 12, .mv (.v 2), some (10, true), [2]⟩, ⟨some 13, .bin .leq (.v 11) (.v 12), some (10, true), [11, 12]⟩, ⟨some 14, .pick (.v 10) (.v 13) (.c (.bool false)), none, [10, 13]⟩, ⟨some 6, .mv (.v 14), none, [14]⟩] [6]) .ret)) }
theorem k_spec_l31In : okFun Go.Proofs.Try.prog 118 s_spec_l31In = true := by kernel_rfl
/-- spec.l21Min: function 83 -/
def s_spec_l21Min : SFun := { n := 10, res := [.t 4], body := (.seq (.rg [⟨some 4, .mv (.c (.int .i64 0)), none, [4]⟩] [0, 1]) (.seq (.seq (.rg [⟨some 5, .mv (.v 0), none, []⟩, ⟨some 6, .mv (.v 1), none, []⟩, ⟨some 7, .bin .lss (.v 5) (.v 6), none, [5, 6]⟩] [0, 1, 7]) (.cond (.v 7) (.seq (.rg [⟨some 8, .mv (.v 0), none, [0]⟩, ⟨some 4, .mv (.v 8), none, [8]⟩] [4]) .ret) .skip)) (.seq (.rg [⟨some 9, .mv (.v 1), none, [1]⟩, ⟨some 4, .mv (.v 9), none, [9]⟩] [4]) .ret))) }
theorem k_spec_l21Min : okFun Go.Proofs.Try.prog 83 s_spec_l21Min = true := by kernel_rfl
/-- spec.l21Max: function 84 -/
def s_spec_l21Max : SFun := { n := 10, res := [.t 4], body := (.seq (.rg [⟨some 4, .mv (.c (.int .i64 0)), none, [4]⟩] [0, 1]) (.seq (.seq (.rg [⟨some 5, .mv (.v 0), none, []⟩, ⟨some 6, .mv (.v 1), none, []⟩, ⟨some 7, .bin .gtr (.v 5) (.v 6), none, [5, 6]⟩] [0, 1, 7]) (.cond (.v 7) (.seq (.rg [⟨some 8, .mv (.v 0), none, [0]⟩, ⟨some 4, .mv (.v 8), none, [8]⟩] [4]) .ret) .skip)) (.seq (.rg [⟨some 9, .mv (.v 1), none, [1]⟩, ⟨some 4, .mv (.v 9), none, [9]⟩] [4]) .ret))) }
theorem k_spec_l21Max : okFun Go.Proofs.Try.prog 84 s_spec_l21Max = true := by kernel_rfl
/-- impl.FlyKindOk: function 85 -/
def s_impl_FlyKindOk : SFun := { n := 18, res := [.t 2], body := (.seq (.rg [⟨some 1, .box 101 (.v 0), none, [0]⟩, ⟨some 2, .mv (.c (.bool false)), none, [2]⟩] [1]) (.seq (.rg [⟨some 3, .faddr 0 (.v 1), none, []⟩, ⟨some 4, .load1 (.v 3), none, [3]⟩, ⟨some 5, .bin .leq (.c (.int .i64 1)) (.v 4), none, [4]⟩, ⟨some 6, .mv (.v 5), none, [5]⟩, ⟨some 7, .faddr 0 (.v 1), some (6, true), []⟩, ⟨some 8, .load1 (.v 7), some (6, true), [7]⟩, ⟨some 9, .faddr 1 (.v 1), some (6, true), []⟩, ⟨some 10, .load1 (.v 9), some (6, true), [9]⟩, ⟨some 11, .bin .leq (.v 8) (.v 10), some (6, true), [8, 10]⟩, ⟨some 12, .pick (.v 6) (.v 11) (.c (.bool false)), none, [6, 11]⟩, ⟨some 13, .mv (.v 12), none, [12]⟩, ⟨some 14, .faddr 1 (.v 1), some (13, true), [1]⟩, ⟨some 15, .load1 (.v 14), some (13, true), [14]⟩, ⟨some 16, .bin .leq (.v 15) (.c (.int .i64 50)), some (13, true), [15]⟩, ⟨some 17, .pick (.v 13) (.v 16) (.c (.bool false)), none, [13, 16]⟩, ⟨some 2, .mv (.v 17), none, [17]⟩] [2]) .ret)) }
theorem k_impl_FlyKindOk : okFun Go.Proofs.Try.prog 85 s_impl_FlyKindOk = true := by kernel_rfl
/-- spec.FlyKindOk: function 88 -/
def s_spec_FlyKindOk : SFun := { n := 13, res := [.t 2], body := (.seq (.rg [⟨some 1, .box 101 (.v 0), none, [0]⟩, ⟨some 2, .mv (.c (.bool false)), none, [2]⟩] [1]) (.seq (.rg [⟨some 3, .faddr 0 (.v 1), none, []⟩, ⟨some 4, .load1 (.v 3), none, [3]⟩, ⟨some 5, .faddr 1 (.v 1), none, []⟩, ⟨some 6, .load1 (.v 5), none, [5]⟩, ⟨some 7, .call 57 [.v 4, .c (.int .i64 1), .v 6], none, [4, 6]⟩, ⟨some 8, .mv (.v 7), none, [7]⟩, ⟨some 9, .faddr 1 (.v 1), some (8, true), [1]⟩, ⟨some 10, .load1 (.v 9), some (8, true), [9]⟩, ⟨some 11, .bin .leq (.v 10) (.c (.int .i64 50)), some (8, true), [10]⟩, ⟨some 12, .pick (.v 8) (.v 11) (.c (.bool false)), none, [8, 11]⟩, ⟨some 2, .mv (.v 12), none, [12]⟩] [2]) .ret)) }
theorem k_spec_FlyKindOk : okFun Go.Proofs.Try.prog 88 s_spec_FlyKindOk = true := by kernel_rfl
/-- impl.within: function 56 -/
def s_impl_within : SFun := { n := 15, res := [.t 6], body := (.seq (.rg [⟨some 6, .mv (.c (.bool false)), none, [6]⟩] [0, 1, 2]) (.seq (.rg [⟨some 7, .mv (.v 0), none, []⟩, ⟨some 8, .mv (.v 1), none, [1]⟩, ⟨some 9, .bin .geq (.v 7) (.v 8), none, [7, 8]⟩, ⟨some 10, .mv (.v 9), none, [9]⟩, ⟨some 11, .mv (.v 0), some (10, true), [0]⟩, ⟨some 12, .mv (.v 2), some (10, true), [2]⟩, ⟨some 13, .bin .leq (.v 11) (.v 12), some (10, true), [11, 12]⟩, ⟨some 14, .pick (.v 10) (.v 13) (.c (.bool false)), none, [10, 13]⟩, ⟨some 6, .mv (.v 14), none, [14]⟩] [6]) .ret)) }
theorem k_impl_within : okFun Go.Proofs.Try.prog 56 s_impl_within = true := by kernel_rfl
/-- impl.window: function 86 -/
def s_impl_window : SFun := { n := 16, res := [.t 4], body := (.seq (.rg [⟨some 4, .mv (.c (.bool false)), none, [4]⟩] [0, 1]) (.seq (.rg [⟨some 5, .mv (.v 0), none, []⟩, ⟨some 6, .bin .leq (.c (.int .i64 0)) (.v 5), none, [5]⟩, ⟨some 7, .mv (.v 6), none, [6]⟩, ⟨some 8, .mv (.v 0), some (7, true), [0]⟩, ⟨some 9, .mv (.v 1), some (7, true), []⟩, ⟨some 10, .bin .leq (.v 8) (.v 9), some (7, true), [8, 9]⟩, ⟨some 11, .pick (.v 7) (.v 10) (.c (.bool false)), none, [7, 10]⟩, ⟨some 12, .mv (.v 11), none, [11]⟩, ⟨some 13, .mv (.v 1), some (12, true), [1]⟩, ⟨some 14, .bin .leq (.v 13) (.c (.int .i64 10000)), some (12, true), [13]⟩, ⟨some 15, .pick (.v 12) (.v 14) (.c (.bool false)), none, [12, 14]⟩, ⟨some 4, .mv (.v 15), none, [15]⟩] [4]) .ret)) }
theorem k_impl_window : okFun Go.Proofs.Try.prog 86 s_impl_window = true := by kernel_rfl
/-- impl.dist: function 87 -/
def s_impl_dist : SFun := { n := 14, res := [.t 4], body := (.seq (.rg [⟨some 4, .mv (.c (.int .i64 0)), none, [4]⟩] [0, 1]) (.seq (.seq (.rg [⟨some 5, .mv (.v 0), none, []⟩, ⟨some 6, .mv (.v 1), none, []⟩, ⟨some 7, .bin .gtr (.v 5) (.v 6), none, [5, 6]⟩] [0, 1, 7]) (.cond (.v 7) (.seq (.rg [⟨some 8, .mv (.v 0), none, [0]⟩, ⟨some 9, .mv (.v 1), none, [1]⟩, ⟨some 10, .binN .sub (.v 8) (.v 9), none, [8, 9]⟩, ⟨some 4, .mv (.v 10), none, [10]⟩] [4]) .ret) .skip)) (.seq (.rg [⟨some 11, .mv (.v 1), none, [1]⟩, ⟨some 12, .mv (.v 0), none, [0]⟩, ⟨some 13, .binN .sub (.v 11) (.v 12), none, [11, 12]⟩, ⟨some 4, .mv (.v 13), none, [13]⟩] [4]) .ret))) }
theorem k_impl_dist : okFun Go.Proofs.Try.prog 87 s_impl_dist = true := by kernel_rfl
/-- impl.handBox: function 119 -/
def s_impl_handBox : SFun := { n := 45, res := [.t 2], body := (.seq (.rg [⟨some 1, .box 101 (.v 0), none, [0]⟩, ⟨some 2, .mv (.c (.bool false)), none, [2]⟩] [1]) (.seq (.rg [⟨some 3, .faddr 0 (.v 1), none, []⟩, ⟨some 4, .load1 (.v 3), none, [3]⟩, ⟨some 5, .call 56 [.v 4, .c (.int .i64 0), .c (.int .i64 15)], none, [4]⟩, ⟨some 6, .mv (.v 5), none, [5]⟩, ⟨some 7, .faddr 1 (.v 1), some (6, true), []⟩, ⟨some 8, .load1 (.v 7), some (6, true), [7]⟩, ⟨some 9, .call 56 [.v 8, .c (.int .i64 0), .c (.int .i64 15)], some (6, true), [8]⟩, ⟨some 10, .pick (.v 6) (.v 9) (.c (.bool false)), none, [6, 9]⟩, ⟨some 11, .mv (.v 10), none, [10]⟩, ⟨some 12, .faddr 2 (.v 1), some (11, true), []⟩, ⟨some 13, .load1 (.v 12), some (11, true), [12]⟩, ⟨some 14, .bin .leq (.c (.int .i64 0)) (.v 13), some (11, true), [13]⟩, ⟨some 15, .pick (.v 11) (.v 14) (.c (.bool false)), none, [11, 14]⟩, ⟨some 16, .mv (.v 15), none, [15]⟩, ⟨some 17, .faddr 2 (.v 1), some (16, true), []⟩, ⟨some 18, .load1 (.v 17), some (16, true), [17]⟩, ⟨some 19, .faddr 3 (.v 1), some (16, true), []⟩, ⟨some 20, .load1 (.v 19), some (16, true), [19]⟩, ⟨some 21, .bin .leq (.v 18) (.v 20), some (16, true), [18, 20]⟩, ⟨some 22, .pick (.v 16) (.v 21) (.c (.bool false)), none, [16, 21]⟩, ⟨some 23, .mv (.v 22), none, [22]⟩, ⟨some 24, .faddr 3 (.v 1), some (23, true), []⟩, ⟨some 25, .load1 (.v 24), some (23, true), [24]⟩, ⟨some 26, .bin .leq (.v 25) (.c (.int .i64 6)), some (23, true), [25]⟩, ⟨some 27, .pick (.v 23) (.v 26) (.c (.bool false)), none, [23, 26]⟩, ⟨some 28, .mv (.v 27), none, [27]⟩, ⟨some 29, .faddr 4 (.v 1), some (28, true), []⟩, ⟨some 30, .load1 (.v 29), some (28, true), [29]⟩, ⟨some 31, .bin .leq (.c (.int .i64 0)) (.v 30), some (28, true), [30]⟩, ⟨some 32, .pick (.v 28) (.v 31) (.c (.bool false)), none, [28, 31]⟩, ⟨some 33, .mv (.v 32), none, [32]⟩, ⟨some 34, .faddr 4 (.v 1), some (33, true), []⟩, ⟨some 35, .load1 (.v 34), some (33, true), [34]⟩, ⟨some 36, .faddr 5 (.v 1), some (33, true), []⟩, ⟨some 37, .load1 (.v 36), some (33, true), [36]⟩, ⟨some 38, .bin .leq (.v 35) (.v 37), some (33, true), [35, 37]⟩, ⟨some 39, .pick (.v 33) (.v 38) (.c (.bool false)), none, [33, 38]⟩, ⟨some 40, .mv (.v 39), none, [39]⟩, ⟨some 41, .faddr 5 (.v 1), some (40, true), [1]⟩, ⟨some 42, .load1 (.v 41), some (40, true), [41]⟩, ⟨some 43, .bin .leq (.v 42) (.c (.int .i64 10000)), some (40, true), [42]⟩, ⟨some 44, .pick (.v 40) (.v 43) (.c (.bool false)), none, [40, 43]⟩, ⟨some 2, .mv (.v 44), none, [44]⟩] [2]) .ret)) }
theorem k_impl_handBox : okFun Go.Proofs.Try.prog 119 s_impl_handBox = true := by kernel_rfl
/-- spec.l31BoxOk: function 104 -/
def s_spec_l31BoxOk : SFun := { n := 35, res := [.t 2], body := (.seq (.rg [⟨some 1, .box 101 (.v 0), none, [0]⟩, ⟨some 2, .mv (.c (.bool false)), none, [2]⟩] [1]) (.seq (.rg [⟨some 3, .faddr 0 (.v 1), none, []⟩, ⟨some 4, .load1 (.v 3), none, [3]⟩, ⟨some 5, .call 118 [.v 4, .c (.int .i64 0), .c (.int .i64 15)], none, [4]⟩, ⟨some 6, .mv (.v 5), none, [5]⟩, ⟨some 7, .faddr 1 (.v 1), some (6, true), []⟩, ⟨some 8, .load1 (.v 7), some (6, true), [7]⟩, ⟨some 9, .call 118 [.v 8, .c (.int .i64 0), .c (.int .i64 15)], some (6, true), [8]⟩, ⟨some 10, .pick (.v 6) (.v 9) (.c (.bool false)), none, [6, 9]⟩, ⟨some 11, .mv (.v 10), none, [10]⟩, ⟨some 12, .faddr 2 (.v 1), some (11, true), []⟩, ⟨some 13, .load1 (.v 12), some (11, true), [12]⟩, ⟨some 14, .faddr 3 (.v 1), some (11, true), []⟩, ⟨some 15, .load1 (.v 14), some (11, true), [14]⟩, ⟨some 16, .call 118 [.v 13, .c (.int .i64 0), .v 15], some (11, true), [13, 15]⟩, ⟨some 17, .pick (.v 11) (.v 16) (.c (.bool false)), none, [11, 16]⟩, ⟨some 18, .mv (.v 17), none, [17]⟩, ⟨some 19, .faddr 3 (.v 1), some (18, true), []⟩, ⟨some 20, .load1 (.v 19), some (18, true), [19]⟩, ⟨some 21, .bin .leq (.v 20) (.c (.int .i64 6)), some (18, true), [20]⟩, ⟨some 22, .pick (.v 18) (.v 21) (.c (.bool false)), none, [18, 21]⟩, ⟨some 23, .mv (.v 22), none, [22]⟩, ⟨some 24, .faddr 4 (.v 1), some (23, true), []⟩, ⟨some 25, .load1 (.v 24), some (23, true), [24]⟩, ⟨some 26, .faddr 5 (.v 1), some (23, true), []⟩, ⟨some 27, .load1 (.v 26), some (23, true), [26]⟩, ⟨some 28, .call 118 [.v 25, .c (.int .i64 0), .v 27], some (23, true), [25, 27]⟩, ⟨some 29, .pick (.v 23) (.v 28) (.c (.bool false)), none, [23, 28]⟩, ⟨some 30, .mv (.v 29), none, [29]⟩, ⟨some 31, .faddr 5 (.v 1), some (30, true), [1]⟩, ⟨some 32, .load1 (.v 31), some (30, true), [31]⟩, ⟨some 33, .bin .leq (.v 32) (.c (.int .i64 10000)), some (30, true), [32]⟩, ⟨some 34, .pick (.v 30) (.v 33) (.c (.bool false)), none, [30, 33]⟩, ⟨some 2, .mv (.v 34), none, [34]⟩] [2]) .ret)) }
theorem k_spec_l31BoxOk : okFun Go.Proofs.Try.prog 104 s_spec_l31BoxOk = true := by kernel_rfl
/-- spec.l22StepOk: function 89 -/
def s_spec_l22StepOk : SFun := { n := 35, res := [.t 2], body := (.seq (.rg [⟨some 1, .box 101 (.v 0), none, [0]⟩, ⟨some 2, .mv (.c (.bool false)), none, [2]⟩] [1]) (.seq (.rg [⟨some 3, .faddr 0 (.v 1), none, []⟩, ⟨some 4, .load1 (.v 3), none, [3]⟩, ⟨some 5, .call 57 [.v 4, .c (.int .i64 0), .c (.int .i64 15)], none, [4]⟩, ⟨some 6, .mv (.v 5), none, [5]⟩, ⟨some 7, .faddr 1 (.v 1), some (6, true), []⟩, ⟨some 8, .load1 (.v 7), some (6, true), [7]⟩, ⟨some 9, .call 57 [.v 8, .c (.int .i64 0), .c (.int .i64 15)], some (6, true), [8]⟩, ⟨some 10, .pick (.v 6) (.v 9) (.c (.bool false)), none, [6, 9]⟩, ⟨some 11, .mv (.v 10), none, [10]⟩, ⟨some 12, .faddr 2 (.v 1), some (11, true), []⟩, ⟨some 13, .load1 (.v 12), some (11, true), [12]⟩, ⟨some 14, .faddr 3 (.v 1), some (11, true), []⟩, ⟨some 15, .load1 (.v 14), some (11, true), [14]⟩, ⟨some 16, .call 57 [.v 13, .c (.int .i64 0), .v 15], some (11, true), [13, 15]⟩, ⟨some 17, .pick (.v 11) (.v 16) (.c (.bool false)), none, [11, 16]⟩, ⟨some 18, .mv (.v 17), none, [17]⟩, ⟨some 19, .faddr 3 (.v 1), some (18, true), []⟩, ⟨some 20, .load1 (.v 19), some (18, true), [19]⟩, ⟨some 21, .bin .leq (.v 20) (.c (.int .i64 6)), some (18, true), [20]⟩, ⟨some 22, .pick (.v 18) (.v 21) (.c (.bool false)), none, [18, 21]⟩, ⟨some 23, .mv (.v 22), none, [22]⟩, ⟨some 24, .faddr 4 (.v 1), some (23, true), []⟩, ⟨some 25, .load1 (.v 24), some (23, true), [24]⟩, ⟨some 26, .faddr 5 (.v 1), some (23, true), []⟩, ⟨some 27, .load1 (.v 26), some (23, true), [26]⟩, ⟨some 28, .call 57 [.v 25, .c (.int .i64 0), .v 27], some (23, true), [25, 27]⟩, ⟨some 29, .pick (.v 23) (.v 28) (.c (.bool false)), none, [23, 28]⟩, ⟨some 30, .mv (.v 29), none, [29]⟩, ⟨some 31, .faddr 5 (.v 1), some (30, true), [1]⟩, ⟨some 32, .load1 (.v 31), some (30, true), [31]⟩, ⟨some 33, .bin .leq (.v 32) (.c (.int .i64 10000)), some (30, true), [32]⟩, ⟨some 34, .pick (.v 30) (.v 33) (.c (.bool false)), none, [30, 33]⟩, ⟨some 2, .mv (.v 34), none, [34]⟩] [2]) .ret)) }
theorem k_spec_l22StepOk : okFun Go.Proofs.Try.prog 89 s_spec_l22StepOk = true := by kernel_rfl
/-- spec.l22Next: function 90 -/
def s_spec_l22Next : SFun := { n := 47, res := [.t 4], body := (.seq (.rg [⟨some 2, .box 102 (.v 0), none, [0]⟩, ⟨some 3, .box 103 (.v 1), none, [1]⟩, ⟨some 4, .mv (.c (.bool false)), none, [4]⟩] [2, 3]) (.seq (.rg [⟨some 5, .faddr 0 (.v 2), none, []⟩, ⟨some 6, .load1 (.v 5), none, [5]⟩, ⟨some 7, .faddr 0 (.v 3), none, []⟩, ⟨some 8, .load1 (.v 7), none, [7]⟩, ⟨some 9, .binN .sub (.v 6) (.v 8), none, [6, 8]⟩, ⟨some 10, .call 57 [.v 9, .c (.int .i64 (-1)), .c (.int .i64 1)], none, [9]⟩, ⟨some 11, .mv (.v 10), none, [10]⟩, ⟨some 12, .faddr 1 (.v 2), some (11, true), []⟩, ⟨some 13, .load1 (.v 12), some (11, true), [12]⟩, ⟨some 14, .faddr 1 (.v 3), some (11, true), []⟩, ⟨some 15, .load1 (.v 14), some (11, true), [14]⟩, ⟨some 16, .binN .sub (.v 13) (.v 15), some (11, true), [13, 15]⟩, ⟨some 17, .call 57 [.v 16, .c (.int .i64 (-1)), .c (.int .i64 1)], some (11, true), [16]⟩, ⟨some 18, .pick (.v 11) (.v 17) (.c (.bool false)), none, [11, 17]⟩, ⟨some 19, .mv (.v 18), none, [18]⟩, ⟨some 20, .faddr 0 (.v 2), some (19, true), []⟩, ⟨some 21, .load1 (.v 20), some (19, true), [20]⟩, ⟨some 22, .faddr 0 (.v 3), some (19, true), []⟩, ⟨some 23, .load1 (.v 22), some (19, true), [22]⟩, ⟨some 24, .bin .neq (.v 21) (.v 23), some (19, true), [21, 23]⟩, ⟨some 25, .mv (.v 24), some (19, true), [24]⟩, ⟨some 26, .faddr 1 (.v 2), some (25, false), []⟩, ⟨some 27, .load1 (.v 26), some (25, false), [26]⟩, ⟨some 28, .faddr 1 (.v 3), some (25, false), []⟩, ⟨some 29, .load1 (.v 28), some (25, false), [28]⟩, ⟨some 30, .bin .neq (.v 27) (.v 29), some (25, false), [27, 29]⟩, ⟨some 31, .pick (.v 25) (.c (.bool true)) (.v 30), some (19, true), [25, 30]⟩, ⟨some 32, .pick (.v 19) (.v 31) (.c (.bool false)), none, [19, 31]⟩, ⟨some 33, .mv (.v 32), none, [32]⟩, ⟨some 34, .faddr 2 (.v 2), some (33, true), []⟩, ⟨some 35, .load1 (.v 34), some (33, true), [34]⟩, ⟨some 36, .faddr 3 (.v 3), some (33, true), []⟩, ⟨some 37, .load1 (.v 36), some (33, true), [36]⟩, ⟨some 38, .bin .leq (.v 35) (.v 37), some (33, true), [35, 37]⟩, ⟨some 39, .pick (.v 33) (.v 38) (.c (.bool false)), none, [33, 38]⟩, ⟨some 40, .mv (.v 39), none, [39]⟩, ⟨some 41, .faddr 2 (.v 3), some (40, true), [3]⟩, ⟨some 42, .load1 (.v 41), some (40, true), [41]⟩, ⟨some 43, .faddr 3 (.v 2), some (40, true), [2]⟩, ⟨some 44, .load1 (.v 43), some (40, true), [43]⟩, ⟨some 45, .bin .leq (.v 42) (.v 44), some (40, true), [42, 44]⟩, ⟨some 46, .pick (.v 40) (.v 45) (.c (.bool false)), none, [40, 45]⟩, ⟨some 4, .mv (.v 46), none, [46]⟩] [4]) .ret)) }
theorem k_spec_l22Next : okFun Go.Proofs.Try.prog 90 s_spec_l22Next = true := by kernel_rfl
def l_spec_FlyPathOk_0 : SCode := (.seq (.seq (.rg [⟨some 28, .mv (.v 3), none, []⟩, ⟨some 29, .faddr 2 (.v 1), none, []⟩, ⟨some 30, .load1 (.v 29), none, [29]⟩, ⟨some 31, .lenL (.v 30), none, [30]⟩, ⟨some 32, .bin .lss (.v 28) (.v 31), none, [28, 31]⟩] [1, 3, 32]) (.cond (.v 32) .skip (.exit 0))) (.seq (.block 1 (.seq (.rgd [⟨some 35, .faddr 2 (.v 1), none, []⟩, ⟨some 36, .load1 (.v 35), none, []⟩, ⟨some 37, .mv (.v 3), none, []⟩, ⟨some 38, .iaddr 7 (.v 36) (.v 37), none, []⟩, ⟨some 39, .loadN 7 (.v 38), none, []⟩, ⟨some 40, .call 89 [.v 39], none, []⟩, ⟨some 41, .not (.v 40), none, []⟩, ⟨some 42, .mv (.v 41), none, []⟩, ⟨some 43, .mv (.v 3), some (42, false), []⟩, ⟨some 44, .bin .gtr (.v 43) (.c (.int .i64 0)), some (42, false), []⟩, ⟨some 45, .mv (.v 44), some (42, false), []⟩, ⟨some 46, .faddr 2 (.v 1), some (45, true), []⟩, ⟨some 47, .load1 (.v 46), some (45, true), []⟩, ⟨some 48, .mv (.v 3), some (45, true), []⟩, ⟨some 49, .binN .sub (.v 48) (.c (.int .i64 1)), some (45, true), []⟩, ⟨some 50, .iaddr 7 (.v 47) (.v 49), some (45, true), []⟩, ⟨some 51, .loadN 7 (.v 50), some (45, true), []⟩, ⟨some 52, .faddr 2 (.v 1), some (45, true), []⟩, ⟨some 53, .load1 (.v 52), some (45, true), []⟩, ⟨some 54, .mv (.v 3), some (45, true), []⟩, ⟨some 55, .iaddr 7 (.v 53) (.v 54), some (45, true), []⟩, ⟨some 56, .loadN 7 (.v 55), some (45, true), []⟩, ⟨some 57, .call 90 [.v 51, .v 56], some (45, true), []⟩, ⟨some 58, .not (.v 57), some (45, true), []⟩, ⟨some 59, .pick (.v 45) (.v 58) (.c (.bool false)), some (42, false), []⟩, ⟨some 60, .pick (.v 42) (.c (.bool true)) (.v 59), none, []⟩] [1, 3, 60] [none, none, none, none, none, none, none, none, none, none, none, none, none, none, none, none, none, none, none, none, none, none, none, none, none, none]) (.cond (.v 60) (.seq (.rg [⟨some 2, .mv (.c (.bool false)), none, []⟩] [2]) .ret) .skip))) (.rg [⟨some 33, .mv (.v 3), none, [3]⟩, ⟨some 34, .binN .add (.v 33) (.c (.int .i64 1)), none, [33]⟩, ⟨some 3, .mv (.v 34), none, [34]⟩] [1, 3])))
/-- spec.FlyPathOk: function 33 -/
def s_spec_FlyPathOk : SFun := { n := 61, res := [.t 2], body := (.seq (.rg [⟨some 1, .box 101 (.v 0), none, [0]⟩, ⟨some 2, .mv (.c (.bool false)), none, [2]⟩] [1]) (.seq (.seq (.rg [⟨some 4, .faddr 0 (.v 1), none, []⟩, ⟨some 5, .loadN 2 (.v 4), none, [4]⟩, ⟨some 6, .call 88 [.v 5], none, [5]⟩, ⟨some 7, .not (.v 6), none, [6]⟩, ⟨some 8, .mv (.v 7), none, [7]⟩, ⟨some 9, .faddr 2 (.v 1), some (8, false), []⟩, ⟨some 10, .load1 (.v 9), some (8, false), [9]⟩, ⟨some 11, .lenL (.v 10), some (8, false), [10]⟩, ⟨some 12, .call 57 [.v 11, .c (.int .i64 1), .c (.int .i64 40)], some (8, false), [11]⟩, ⟨some 13, .not (.v 12), some (8, false), [12]⟩, ⟨some 14, .pick (.v 8) (.c (.bool true)) (.v 13), none, [8, 13]⟩, ⟨some 15, .mv (.v 14), none, [14]⟩, ⟨some 16, .faddr 3 (.v 1), some (15, false), []⟩, ⟨some 17, .load1 (.v 16), some (15, false), [16]⟩, ⟨some 18, .faddr 4 (.v 1), some (15, false), []⟩, ⟨some 19, .load1 (.v 18), some (15, false), [18]⟩, ⟨some 20, .call 57 [.v 17, .c (.int .i64 0), .v 19], some (15, false), [17, 19]⟩, ⟨some 21, .not (.v 20), some (15, false), [20]⟩, ⟨some 22, .pick (.v 15) (.c (.bool true)) (.v 21), none, [15, 21]⟩, ⟨some 23, .mv (.v 22), none, [22]⟩, ⟨some 24, .faddr 4 (.v 1), some (23, false), []⟩, ⟨some 25, .load1 (.v 24), some (23, false), [24]⟩, ⟨some 26, .bin .gtr (.v 25) (.c (.int .i64 10000)), some (23, false), [25]⟩, ⟨some 27, .pick (.v 23) (.c (.bool true)) (.v 26), none, [23, 26]⟩] [1, 27]) (.cond (.v 27) (.seq (.rg [⟨some 2, .mv (.c (.bool false)), none, []⟩] [2]) .ret) .skip)) (.seq (.seq (.rg [⟨some 3, .mv (.c (.int .i64 0)), none, []⟩] [1, 3]) (.block 0 (.loop l_spec_FlyPathOk_0))) (.seq (.rg [⟨some 2, .mv (.c (.bool true)), none, []⟩] [2]) .ret)))) }
theorem k_spec_FlyPathOk : okFun Go.Proofs.Try.prog 33 s_spec_FlyPathOk = true := by kernel_rfl
def l_impl_FlyPathOk_0 : SCode := (.seq (.rg [⟨some 29, .bin .lss (.v 28) (.v 27), none, []⟩] [1, 26, 27, 28, 29]) (.seq (.cond (.v 29) .skip (.exit 0)) (.seq (.block 1 (.seq (.rg [⟨some 30, .mv (.v 28), none, []⟩, ⟨some 31, .iaddr 7 (.v 26) (.v 28), none, []⟩, ⟨some 32, .loadN 7 (.v 31), none, [31]⟩, ⟨some 4, .alloc 104 [.int .i64 0, .int .i64 0, .int .i64 0, .int .i64 0, .int .i64 0, .int .i64 0, .bool false], none, []⟩, ⟨some 3, .mv (.v 30), none, [30]⟩, ⟨none, .store 7 (.v 4) (.v 32), none, [32]⟩] [1, 3, 4, 26, 27, 28]) (.seq (.seq (.rg [⟨some 33, .faddr 0 (.v 4), none, []⟩, ⟨some 34, .load1 (.v 33), none, [33]⟩, ⟨some 35, .call 56 [.v 34, .c (.int .i64 0), .c (.int .i64 15)], none, [34]⟩, ⟨some 36, .not (.v 35), none, [35]⟩, ⟨some 37, .mv (.v 36), none, [36]⟩, ⟨some 38, .faddr 1 (.v 4), some (37, false), []⟩, ⟨some 39, .load1 (.v 38), some (37, false), [38]⟩, ⟨some 40, .call 56 [.v 39, .c (.int .i64 0), .c (.int .i64 15)], some (37, false), [39]⟩, ⟨some 41, .not (.v 40), some (37, false), [40]⟩, ⟨some 42, .pick (.v 37) (.c (.bool true)) (.v 41), none, [37, 41]⟩, ⟨some 43, .mv (.v 42), none, [42]⟩, ⟨some 44, .faddr 2 (.v 4), some (43, false), []⟩, ⟨some 45, .load1 (.v 44), some (43, false), [44]⟩, ⟨some 46, .bin .leq (.c (.int .i64 0)) (.v 45), some (43, false), [45]⟩, ⟨some 47, .mv (.v 46), some (43, false), [46]⟩, ⟨some 48, .faddr 2 (.v 4), some (47, true), []⟩, ⟨some 49, .load1 (.v 48), some (47, true), [48]⟩, ⟨some 50, .faddr 3 (.v 4), some (47, true), []⟩, ⟨some 51, .load1 (.v 50), some (47, true), [50]⟩, ⟨some 52, .bin .leq (.v 49) (.v 51), some (47, true), [49, 51]⟩, ⟨some 53, .pick (.v 47) (.v 52) (.c (.bool false)), some (43, false), [47, 52]⟩, ⟨some 54, .mv (.v 53), some (43, false), [53]⟩, ⟨some 55, .faddr 3 (.v 4), some (54, true), []⟩, ⟨some 56, .load1 (.v 55), some (54, true), [55]⟩, ⟨some 57, .bin .leq (.v 56) (.c (.int .i64 6)), some (54, true), [56]⟩, ⟨some 58, .pick (.v 54) (.v 57) (.c (.bool false)), some (43, false), [54, 57]⟩, ⟨some 59, .not (.v 58), some (43, false), [58]⟩, ⟨some 60, .pick (.v 43) (.c (.bool true)) (.v 59), none, [43, 59]⟩, ⟨some 61, .mv (.v 60), none, [60]⟩, ⟨some 62, .faddr 4 (.v 4), some (61, false), []⟩, ⟨some 63, .load1 (.v 62), some (61, false), [62]⟩, ⟨some 64, .faddr 5 (.v 4), some (61, false), []⟩, ⟨some 65, .load1 (.v 64), some (61, false), [64]⟩, ⟨some 66, .call 86 [.v 63, .v 65], some (61, false), [63, 65]⟩, ⟨some 67, .not (.v 66), some (61, false), [66]⟩, ⟨some 68, .pick (.v 61) (.c (.bool true)) (.v 67), none, [61, 67]⟩] [1, 3, 4, 26, 27, 28, 68]) (.cond (.v 68) (.seq (.rg [⟨some 2, .mv (.c (.bool false)), none, []⟩] [2]) .ret) .skip)) (.seq (.seq (.rg [⟨some 69, .mv (.v 3), none, []⟩, ⟨some 70, .bin .eql (.v 69) (.c (.int .i64 0)), none, [69]⟩] [1, 3, 4, 26, 27, 28, 70]) (.cond (.v 70) (.exit 1) .skip)) (.seq (.rg [⟨some 71, .faddr 2 (.v 1), none, []⟩, ⟨some 72, .load1 (.v 71), none, [71]⟩, ⟨some 73, .mv (.v 3), none, [3]⟩, ⟨some 74, .binN .sub (.v 73) (.c (.int .i64 1)), none, [73]⟩, ⟨some 75, .iaddr 7 (.v 72) (.v 74), none, [72, 74]⟩, ⟨some 76, .loadN 7 (.v 75), none, [75]⟩, ⟨some 5, .alloc 105 [.int .i64 0, .int .i64 0, .int .i64 0, .int .i64 0, .int .i64 0, .int .i64 0, .bool false], none, []⟩, ⟨none, .store 7 (.v 5) (.v 76), none, [76]⟩] [1, 4, 5, 26, 27, 28]) (.seq (.rg [⟨some 77, .faddr 0 (.v 5), none, []⟩, ⟨some 78, .load1 (.v 77), none, [77]⟩, ⟨some 79, .faddr 0 (.v 4), none, []⟩, ⟨some 80, .load1 (.v 79), none, [79]⟩, ⟨some 81, .bin .eql (.v 78) (.v 80), none, [78, 80]⟩, ⟨some 82, .mv (.v 81), none, [81]⟩, ⟨some 83, .faddr 1 (.v 5), some (82, true), []⟩, ⟨some 84, .load1 (.v 83), some (82, true), [83]⟩, ⟨some 85, .faddr 1 (.v 4), some (82, true), []⟩, ⟨some 86, .load1 (.v 85), some (82, true), [85]⟩, ⟨some 87, .bin .eql (.v 84) (.v 86), some (82, true), [84, 86]⟩, ⟨some 88, .pick (.v 82) (.v 87) (.c (.bool false)), none, [82, 87]⟩, ⟨some 89, .mv (.v 88), none, [88]⟩, ⟨some 90, .faddr 0 (.v 5), some (89, false), []⟩, ⟨some 91, .load1 (.v 90), some (89, false), [90]⟩, ⟨some 92, .faddr 0 (.v 4), some (89, false), []⟩, ⟨some 93, .load1 (.v 92), some (89, false), [92]⟩, ⟨some 94, .call 87 [.v 91, .v 93], some (89, false), [91, 93]⟩, ⟨some 95, .bin .gtr (.v 94) (.c (.int .i64 1)), some (89, false), [94]⟩, ⟨some 96, .pick (.v 89) (.c (.bool true)) (.v 95), none, [89, 95]⟩, ⟨some 97, .mv (.v 96), none, [96]⟩, ⟨some 98, .faddr 1 (.v 5), some (97, false), []⟩, ⟨some 99, .load1 (.v 98), some (97, false), [98]⟩, ⟨some 100, .faddr 1 (.v 4), some (97, false), []⟩, ⟨some 101, .load1 (.v 100), some (97, false), [100]⟩, ⟨some 102, .call 87 [.v 99, .v 101], some (97, false), [99, 101]⟩, ⟨some 103, .bin .gtr (.v 102) (.c (.int .i64 1)), some (97, false), [102]⟩, ⟨some 104, .pick (.v 97) (.c (.bool true)) (.v 103), none, [97, 103]⟩, ⟨some 105, .mv (.v 104), none, [104]⟩, ⟨some 106, .faddr 2 (.v 5), some (105, false), []⟩, ⟨some 107, .load1 (.v 106), some (105, false), [106]⟩, ⟨some 108, .faddr 3 (.v 4), some (105, false), []⟩, ⟨some 109, .load1 (.v 108), some (105, false), [108]⟩, ⟨some 110, .bin .gtr (.v 107) (.v 109), some (105, false), [107, 109]⟩, ⟨some 111, .pick (.v 105) (.c (.bool true)) (.v 110), none, [105, 110]⟩, ⟨some 112, .mv (.v 111), none, [111]⟩, ⟨some 113, .faddr 2 (.v 4), some (112, false), [4]⟩, ⟨some 114, .load1 (.v 113), some (112, false), [113]⟩, ⟨some 115, .faddr 3 (.v 5), some (112, false), [5]⟩, ⟨some 116, .load1 (.v 115), some (112, false), [115]⟩, ⟨some 117, .bin .gtr (.v 114) (.v 116), some (112, false), [114, 116]⟩, ⟨some 118, .pick (.v 112) (.c (.bool true)) (.v 117), none, [112, 117]⟩] [1, 26, 27, 28, 118]) (.cond (.v 118) (.seq (.rg [⟨some 2, .mv (.c (.bool false)), none, []⟩] [2]) .ret) .skip))))))) (.rg [⟨some 119, .binN .add (.v 28) (.c (.int .i64 1)), none, [28]⟩, ⟨some 28, .mv (.v 119), none, [119]⟩] [1, 26, 27, 28]))))
/-- impl.FlyPathOk: function 32 -/
def s_impl_FlyPathOk : SFun := { n := 120, res := [.t 2], body := (.seq (.rg [⟨some 1, .box 101 (.v 0), none, [0]⟩, ⟨some 2, .mv (.c (.bool false)), none, [2]⟩] [1]) (.seq (.seq (.rg [⟨some 6, .faddr 0 (.v 1), none, []⟩, ⟨some 7, .loadN 2 (.v 6), none, [6]⟩, ⟨some 8, .call 85 [.v 7], none, [7]⟩, ⟨some 9, .not (.v 8), none, [8]⟩, ⟨some 10, .mv (.v 9), none, [9]⟩, ⟨some 11, .faddr 2 (.v 1), some (10, false), []⟩, ⟨some 12, .load1 (.v 11), some (10, false), [11]⟩, ⟨some 13, .lenL (.v 12), some (10, false), [12]⟩, ⟨some 14, .call 56 [.v 13, .c (.int .i64 1), .c (.int .i64 40)], some (10, false), [13]⟩, ⟨some 15, .not (.v 14), some (10, false), [14]⟩, ⟨some 16, .pick (.v 10) (.c (.bool true)) (.v 15), none, [10, 15]⟩, ⟨some 17, .mv (.v 16), none, [16]⟩, ⟨some 18, .faddr 3 (.v 1), some (17, false), []⟩, ⟨some 19, .load1 (.v 18), some (17, false), [18]⟩, ⟨some 20, .faddr 4 (.v 1), some (17, false), []⟩, ⟨some 21, .load1 (.v 20), some (17, false), [20]⟩, ⟨some 22, .call 86 [.v 19, .v 21], some (17, false), [19, 21]⟩, ⟨some 23, .not (.v 22), some (17, false), [22]⟩, ⟨some 24, .pick (.v 17) (.c (.bool true)) (.v 23), none, [17, 23]⟩] [1, 24]) (.cond (.v 24) (.seq (.rg [⟨some 2, .mv (.c (.bool false)), none, []⟩] [2]) .ret) .skip)) (.seq (.seq (.rg [⟨some 25, .faddr 2 (.v 1), none, []⟩, ⟨some 26, .load1 (.v 25), none, [25]⟩, ⟨some 27, .lenL (.v 26), none, []⟩, ⟨some 28, .mv (.c (.int .i64 0)), none, []⟩] [1, 26, 27, 28]) (.block 0 (.loop l_impl_FlyPathOk_0))) (.seq (.rg [⟨some 2, .mv (.c (.bool true)), none, []⟩] [2]) .ret)))) }
theorem k_impl_FlyPathOk : okFun Go.Proofs.Try.prog 32 s_impl_FlyPathOk = true := by kernel_rfl
def l_spec_LapPath_0 : SCode := (.seq (.seq (.rg [⟨some 14, .mv (.v 7), none, []⟩, ⟨some 15, .mv (.v 6), none, []⟩, ⟨some 16, .bin .lss (.v 14) (.v 15), none, [14, 15]⟩] [1, 4, 5, 6, 7, 16]) (.cond (.v 16) .skip (.exit 0))) (.seq (.block 1 (.seq (.rg [⟨some 19, .mv (.v 1), none, []⟩, ⟨some 20, .mv (.v 7), none, []⟩, ⟨some 21, .iaddr 6 (.v 19) (.v 20), none, [19, 20]⟩, ⟨some 22, .loadN 6 (.v 21), none, [21]⟩, ⟨some 8, .alloc 108 [.int .i64 0, .int .i64 0, .int .i64 0, .int .i64 0, .int .i64 0, .int .i64 0], none, []⟩, ⟨none, .store 6 (.v 8) (.v 22), none, [22]⟩] [1, 4, 5, 6, 7, 8]) (.seq (.seq (.rg [⟨some 23, .loadN 6 (.v 8), none, []⟩, ⟨some 24, .call 104 [.v 23], none, [23]⟩, ⟨some 25, .not (.v 24), none, [24]⟩] [1, 4, 5, 6, 7, 8, 25]) (.cond (.v 25) (.seq (.rg [⟨some 26, .build [.int .i64 0, .int .i64 0, .sl 0 7 [], .int .i64 0, .int .i64 0] [], none, []⟩, ⟨none, .store 5 (.v 4) (.v 26), none, [26]⟩] [4]) (.gh (.frzB 104 2) .ret)) .skip)) (.seq (.rg [⟨some 27, .faddr 0 (.v 8), none, []⟩, ⟨some 28, .load1 (.v 27), none, [27]⟩, ⟨some 29, .faddr 1 (.v 8), none, []⟩, ⟨some 30, .load1 (.v 29), none, [29]⟩, ⟨some 31, .faddr 2 (.v 8), none, []⟩, ⟨some 32, .load1 (.v 31), none, [31]⟩, ⟨some 33, .faddr 3 (.v 8), none, []⟩, ⟨some 34, .load1 (.v 33), none, [33]⟩, ⟨some 35, .faddr 4 (.v 8), none, []⟩, ⟨some 36, .load1 (.v 35), none, [35]⟩, ⟨some 37, .faddr 5 (.v 8), none, []⟩, ⟨some 38, .load1 (.v 37), none, [37]⟩, ⟨some 39, .build [.int .i64 0, .int .i64 0, .int .i64 0, .int .i64 0, .int .i64 0, .int .i64 0, .bool false] [(0, 1, .v 28), (1, 1, .v 30), (2, 1, .v 32), (3, 1, .v 34), (4, 1, .v 36), (5, 1, .v 38)], none, [28, 30, 32, 34, 36, 38]⟩, ⟨some 9, .alloc 109 [.int .i64 0, .int .i64 0, .int .i64 0, .int .i64 0, .int .i64 0, .int .i64 0, .bool false], none, []⟩, ⟨none, .store 7 (.v 9) (.v 39), none, [39]⟩] [1, 4, 5, 6, 7, 8, 9]) (.seq (.seq (.rg [⟨some 40, .mv (.v 7), none, []⟩, ⟨some 41, .bin .gtr (.v 40) (.c (.int .i64 0)), none, [40]⟩] [1, 4, 5, 6, 7, 8, 9, 41]) (.cond (.v 41) (.rgd [⟨some 42, .mv (.v 1), none, []⟩, ⟨some 43, .mv (.v 7), none, []⟩, ⟨some 44, .binN .sub (.v 43) (.c (.int .i64 1)), none, []⟩, ⟨some 45, .iaddr 6 (.v 42) (.v 44), none, []⟩, ⟨some 46, .faddr 5 (.v 45), none, []⟩, ⟨some 47, .load1 (.v 46), none, []⟩, ⟨some 48, .binN .add (.v 47) (.c (.int .i64 1)), none, []⟩, ⟨some 49, .faddr 5 (.v 8), none, []⟩, ⟨some 50, .load1 (.v 49), none, []⟩, ⟨some 51, .call 83 [.v 48, .v 50], none, []⟩, ⟨some 52, .faddr 5 (.v 9), none, []⟩, ⟨none, .store 1 (.v 52) (.v 51), none, []⟩] [1, 4, 5, 6, 7, 8, 9] [none, none, none, none, none, none, none, none, none, none, none, none]) .skip)) (.seq (.rg [⟨some 53, .faddr 2 (.v 5), none, []⟩, ⟨some 54, .load1 (.v 53), none, [53]⟩, ⟨some 55, .loadN 7 (.v 9), none, [9]⟩, ⟨some 56, .lit 64 7 [.v 55], none, [55]⟩, ⟨some 57, .app 157 64 7 (.v 54) (.v 56), none, [54, 56]⟩, ⟨some 58, .faddr 2 (.v 5), none, []⟩, ⟨none, .store 1 (.v 58) (.v 57), none, [57, 58]⟩] [1, 4, 5, 6, 7, 8]) (.seq (.rg [⟨some 59, .faddr 4 (.v 8), none, []⟩, ⟨some 60, .load1 (.v 59), none, [59]⟩, ⟨some 61, .faddr 3 (.v 5), none, []⟩, ⟨none, .store 1 (.v 61) (.v 60), none, [60, 61]⟩] [1, 4, 5, 6, 7, 8]) (.rg [⟨some 62, .faddr 5 (.v 8), none, [8]⟩, ⟨some 63, .load1 (.v 62), none, [62]⟩, ⟨some 64, .binN .add (.v 63) (.c (.int .i64 1)), none, [63]⟩, ⟨some 65, .faddr 4 (.v 5), none, []⟩, ⟨none, .store 1 (.v 65) (.v 64), none, [64, 65]⟩] [1, 4, 5, 6, 7])))))))) (.rg [⟨some 17, .mv (.v 7), none, [7]⟩, ⟨some 18, .binN .add (.v 17) (.c (.int .i64 1)), none, [17]⟩, ⟨some 7, .mv (.v 18), none, [18]⟩] [1, 4, 5, 6, 7])))
/-- spec.LapPath: function 63 -/
def s_spec_LapPath : SFun := { n := 71, res := [.cN 4 5], body := (.seq (.rg [⟨some 2, .box 102 (.v 0), none, [0]⟩, ⟨some 4, .alloc 104 [.int .i64 0, .int .i64 0, .sl 0 7 [], .int .i64 0, .int .i64 0], none, []⟩] [1, 2, 4]) (.seq (.rg [⟨some 10, .loadN 2 (.v 2), none, [2]⟩, ⟨some 11, .build [.int .i64 0, .int .i64 0, .sl 98 7 [], .int .i64 0, .int .i64 0] [(0, 2, .v 10)], none, [10]⟩, ⟨some 5, .alloc 105 [.int .i64 0, .int .i64 0, .sl 0 7 [], .int .i64 0, .int .i64 0], none, []⟩, ⟨none, .store 5 (.v 5) (.v 11), none, [11]⟩] [1, 4, 5]) (.seq (.rg [⟨some 12, .mv (.v 1), none, []⟩, ⟨some 13, .lenL (.v 12), none, [12]⟩, ⟨some 6, .mv (.v 13), none, [13]⟩] [1, 4, 5, 6]) (.seq (.seq (.rg [⟨some 7, .mv (.c (.int .i64 0)), none, []⟩] [1, 4, 5, 6, 7]) (.block 0 (.gh (.nilB 105 2 157 64) (.loop l_spec_LapPath_0)))) (.seq (.seq (.rg [⟨some 66, .loadN 5 (.v 5), none, []⟩, ⟨some 67, .call 33 [.v 66], none, [66]⟩, ⟨some 68, .not (.v 67), none, [67]⟩] [4, 5, 68]) (.cond (.v 68) (.seq (.rg [⟨some 69, .build [.int .i64 0, .int .i64 0, .sl 0 7 [], .int .i64 0, .int .i64 0] [], none, []⟩, ⟨none, .store 5 (.v 4) (.v 69), none, [69]⟩] [4]) (.gh (.frzB 104 2) .ret)) .skip)) (.seq (.rg [⟨some 70, .loadN 5 (.v 5), none, [5]⟩, ⟨none, .store 5 (.v 4) (.v 70), none, [70]⟩] [4]) (.gh (.frzB 104 2) .ret))))))) }
theorem k_spec_LapPath : okFun Go.Proofs.Try.prog 63 s_spec_LapPath = true := by kernel_rfl
def l_impl_LapPath_0 : SCode := (.seq (.rg [⟨some 14, .bin .lss (.v 13) (.v 12), none, []⟩] [1, 4, 5, 11, 12, 13, 14]) (.seq (.cond (.v 14) .skip (.exit 0)) (.seq (.block 1 (.seq (.rg [⟨some 15, .mv (.v 13), none, []⟩, ⟨some 16, .iaddr 6 (.v 11) (.v 13), none, []⟩, ⟨some 17, .loadN 6 (.v 16), none, [16]⟩, ⟨some 7, .alloc 107 [.int .i64 0, .int .i64 0, .int .i64 0, .int .i64 0, .int .i64 0, .int .i64 0], none, []⟩, ⟨some 6, .mv (.v 15), none, [15]⟩, ⟨none, .store 6 (.v 7) (.v 17), none, [17]⟩] [1, 4, 5, 6, 7, 11, 12, 13]) (.seq (.seq (.rg [⟨some 18, .loadN 6 (.v 7), none, []⟩, ⟨some 19, .call 119 [.v 18], none, [18]⟩, ⟨some 20, .not (.v 19), none, [19]⟩] [1, 4, 5, 6, 7, 11, 12, 13, 20]) (.cond (.v 20) (.seq (.rg [⟨some 21, .build [.int .i64 0, .int .i64 0, .sl 0 7 [], .int .i64 0, .int .i64 0] [], none, []⟩, ⟨none, .store 5 (.v 4) (.v 21), none, [21]⟩] [4]) (.gh (.frzB 104 2) .ret)) .skip)) (.seq (.rg [⟨some 22, .faddr 5 (.v 7), none, []⟩, ⟨some 23, .load1 (.v 22), none, [22]⟩, ⟨some 8, .mv (.v 23), none, [23]⟩] [1, 4, 5, 6, 7, 8, 11, 12, 13]) (.seq (.seq (.rg [⟨some 24, .mv (.v 6), none, []⟩, ⟨some 25, .bin .gtr (.v 24) (.c (.int .i64 0)), none, [24]⟩] [1, 4, 5, 6, 7, 8, 11, 12, 13, 25]) (.cond (.v 25) (.rg [⟨some 26, .mv (.v 8), none, [8]⟩, ⟨some 27, .mv (.v 1), none, []⟩, ⟨some 28, .mv (.v 6), none, [6]⟩, ⟨some 29, .binN .sub (.v 28) (.c (.int .i64 1)), none, [28]⟩, ⟨some 30, .iaddr 6 (.v 27) (.v 29), none, [27, 29]⟩, ⟨some 31, .faddr 5 (.v 30), none, [30]⟩, ⟨some 32, .load1 (.v 31), none, [31]⟩, ⟨some 33, .binN .add (.v 32) (.c (.int .i64 1)), none, [32]⟩, ⟨some 34, .mn (.v 26) (.v 33), none, [26, 33]⟩, ⟨some 8, .mv (.v 34), none, [34]⟩] [1, 4, 5, 7, 8, 11, 12, 13]) .skip)) (.seq (.rg [⟨some 35, .faddr 2 (.v 5), none, []⟩, ⟨some 36, .load1 (.v 35), none, [35]⟩, ⟨some 37, .faddr 0 (.v 7), none, []⟩, ⟨some 38, .load1 (.v 37), none, [37]⟩, ⟨some 39, .faddr 1 (.v 7), none, []⟩, ⟨some 40, .load1 (.v 39), none, [39]⟩, ⟨some 41, .faddr 2 (.v 7), none, []⟩, ⟨some 42, .load1 (.v 41), none, [41]⟩, ⟨some 43, .faddr 3 (.v 7), none, []⟩, ⟨some 44, .load1 (.v 43), none, [43]⟩, ⟨some 45, .faddr 4 (.v 7), none, []⟩, ⟨some 46, .load1 (.v 45), none, [45]⟩, ⟨some 47, .mv (.v 8), none, [8]⟩, ⟨some 48, .build [.int .i64 0, .int .i64 0, .int .i64 0, .int .i64 0, .int .i64 0, .int .i64 0, .bool false] [(0, 1, .v 38), (1, 1, .v 40), (2, 1, .v 42), (3, 1, .v 44), (4, 1, .v 46), (5, 1, .v 47)], none, [38, 40, 42, 44, 46, 47]⟩, ⟨some 49, .lit 64 7 [.v 48], none, [48]⟩, ⟨some 50, .app 150 64 7 (.v 36) (.v 49), none, [36, 49]⟩, ⟨some 51, .faddr 2 (.v 5), none, []⟩, ⟨none, .store 1 (.v 51) (.v 50), none, [50, 51]⟩] [1, 4, 5, 7, 11, 12, 13]) (.rgd [⟨some 52, .faddr 4 (.v 7), none, []⟩, ⟨some 53, .load1 (.v 52), none, []⟩, ⟨some 54, .faddr 5 (.v 7), none, []⟩, ⟨some 55, .load1 (.v 54), none, []⟩, ⟨some 56, .binN .add (.v 55) (.c (.int .i64 1)), none, []⟩, ⟨some 57, .faddr 3 (.v 5), none, []⟩, ⟨none, .store 1 (.v 57) (.v 53), none, []⟩, ⟨some 58, .faddr 4 (.v 5), none, []⟩, ⟨none, .store 1 (.v 58) (.v 56), none, []⟩] [1, 4, 5, 11, 12, 13] [none, none, some [], some [], none, none, some [3, 2], none, none]))))))) (.rg [⟨some 59, .binN .add (.v 13) (.c (.int .i64 1)), none, [13]⟩, ⟨some 13, .mv (.v 59), none, [59]⟩] [1, 4, 5, 11, 12, 13]))))
/-- impl.LapPath: function 108 -/
def s_impl_LapPath : SFun := { n := 65, res := [.cN 4 5], body := (.seq (.rg [⟨some 2, .box 102 (.v 0), none, [0]⟩, ⟨some 4, .alloc 104 [.int .i64 0, .int .i64 0, .sl 0 7 [], .int .i64 0, .int .i64 0], none, []⟩] [1, 2, 4]) (.seq (.rg [⟨some 9, .loadN 2 (.v 2), none, [2]⟩, ⟨some 10, .build [.int .i64 0, .int .i64 0, .sl 98 7 [], .int .i64 0, .int .i64 0] [(0, 2, .v 9)], none, [9]⟩, ⟨some 5, .alloc 105 [.int .i64 0, .int .i64 0, .sl 0 7 [], .int .i64 0, .int .i64 0], none, []⟩, ⟨none, .store 5 (.v 5) (.v 10), none, [10]⟩] [1, 4, 5]) (.seq (.seq (.rg [⟨some 11, .mv (.v 1), none, []⟩, ⟨some 12, .lenL (.v 11), none, []⟩, ⟨some 13, .mv (.c (.int .i64 0)), none, []⟩] [1, 4, 5, 11, 12, 13]) (.block 0 (.gh (.nilB 105 2 150 64) (.loop l_impl_LapPath_0)))) (.seq (.seq (.rg [⟨some 60, .loadN 5 (.v 5), none, []⟩, ⟨some 61, .call 32 [.v 60], none, [60]⟩, ⟨some 62, .not (.v 61), none, [61]⟩] [4, 5, 62]) (.cond (.v 62) (.seq (.rg [⟨some 63, .build [.int .i64 0, .int .i64 0, .sl 0 7 [], .int .i64 0, .int .i64 0] [], none, []⟩, ⟨none, .store 5 (.v 4) (.v 63), none, [63]⟩] [4]) (.gh (.frzB 104 2) .ret)) .skip)) (.seq (.rg [⟨some 64, .loadN 5 (.v 5), none, [5]⟩, ⟨none, .store 5 (.v 4) (.v 64), none, [64]⟩] [4]) (.gh (.frzB 104 2) .ret)))))) }
theorem k_impl_LapPath : okFun Go.Proofs.Try.prog 108 s_impl_LapPath = true := by kernel_rfl
/-- spec.l23Low: function 58 -/
def s_spec_l23Low : SFun := { n := 18, res := [.t 4], body := (.seq (.rg [⟨some 2, .box 102 (.v 0), none, [0]⟩, ⟨some 4, .mv (.c (.int .i64 0)), none, [4]⟩] [1, 2]) (.seq (.seq (.rg [⟨some 5, .mv (.v 1), none, []⟩, ⟨some 6, .faddr 2 (.v 2), none, []⟩, ⟨some 7, .load1 (.v 6), none, [6]⟩, ⟨some 8, .lenL (.v 7), none, [7]⟩, ⟨some 9, .bin .lss (.v 5) (.v 8), none, [5, 8]⟩] [1, 2, 9]) (.cond (.v 9) (.seq (.rg [⟨some 10, .faddr 2 (.v 2), none, [2]⟩, ⟨some 11, .load1 (.v 10), none, [10]⟩, ⟨some 12, .mv (.v 1), none, [1]⟩, ⟨some 13, .iaddr 7 (.v 11) (.v 12), none, [11, 12]⟩, ⟨some 14, .faddr 4 (.v 13), none, [13]⟩, ⟨some 15, .load1 (.v 14), none, [14]⟩, ⟨some 4, .mv (.v 15), none, [15]⟩] [4]) .ret) .skip)) (.seq (.rg [⟨some 16, .faddr 3 (.v 2), none, [2]⟩, ⟨some 17, .load1 (.v 16), none, [16]⟩, ⟨some 4, .mv (.v 17), none, [17]⟩] [4]) .ret))) }
theorem k_spec_l23Low : okFun Go.Proofs.Try.prog 58 s_spec_l23Low = true := by kernel_rfl
/-- spec.l23High: function 59 -/
def s_spec_l23High : SFun := { n := 18, res := [.t 4], body := (.seq (.rg [⟨some 2, .box 102 (.v 0), none, [0]⟩, ⟨some 4, .mv (.c (.int .i64 0)), none, [4]⟩] [1, 2]) (.seq (.seq (.rg [⟨some 5, .mv (.v 1), none, []⟩, ⟨some 6, .faddr 2 (.v 2), none, []⟩, ⟨some 7, .load1 (.v 6), none, [6]⟩, ⟨some 8, .lenL (.v 7), none, [7]⟩, ⟨some 9, .bin .lss (.v 5) (.v 8), none, [5, 8]⟩] [1, 2, 9]) (.cond (.v 9) (.seq (.rg [⟨some 10, .faddr 2 (.v 2), none, [2]⟩, ⟨some 11, .load1 (.v 10), none, [10]⟩, ⟨some 12, .mv (.v 1), none, [1]⟩, ⟨some 13, .iaddr 7 (.v 11) (.v 12), none, [11, 12]⟩, ⟨some 14, .faddr 5 (.v 13), none, [13]⟩, ⟨some 15, .load1 (.v 14), none, [14]⟩, ⟨some 4, .mv (.v 15), none, [15]⟩] [4]) .ret) .skip)) (.seq (.rg [⟨some 16, .faddr 4 (.v 2), none, [2]⟩, ⟨some 17, .load1 (.v 16), none, [16]⟩, ⟨some 4, .mv (.v 17), none, [17]⟩] [4]) .ret))) }
theorem k_spec_l23High : okFun Go.Proofs.Try.prog 59 s_spec_l23High = true := by kernel_rfl
/-- spec.l23Most: function 60 -/
def s_spec_l23Most : SFun := { n := 14, res := [.t 4], body := (.seq (.rg [⟨some 2, .box 102 (.v 0), none, [0]⟩, ⟨some 4, .mv (.c (.int .i64 0)), none, [4]⟩] [1, 2]) (.seq (.seq (.rg [⟨some 5, .faddr 2 (.v 2), none, []⟩, ⟨some 6, .load1 (.v 5), none, [5]⟩, ⟨some 7, .mv (.v 1), none, [1]⟩, ⟨some 8, .iaddr 7 (.v 6) (.v 7), none, [6, 7]⟩, ⟨some 9, .faddr 6 (.v 8), none, [8]⟩, ⟨some 10, .load1 (.v 9), none, [9]⟩] [2, 10]) (.cond (.v 10) (.seq (.rg [⟨some 4, .mv (.c (.int .i64 10000)), none, []⟩] [4]) .ret) .skip)) (.seq (.rg [⟨some 11, .faddr 0 (.v 2), none, [2]⟩, ⟨some 12, .faddr 1 (.v 11), none, [11]⟩, ⟨some 13, .load1 (.v 12), none, [12]⟩, ⟨some 4, .mv (.v 13), none, [13]⟩] [4]) .ret))) }
theorem k_spec_l23Most : okFun Go.Proofs.Try.prog 60 s_spec_l23Most = true := by kernel_rfl
def l_spec_l24Spans_0 : SCode := (.seq (.seq (.rg [⟨some 13, .mv (.v 6), none, []⟩, ⟨some 14, .mv (.v 5), none, []⟩, ⟨some 15, .bin .leq (.v 13) (.v 14), none, [13, 14]⟩] [1, 4, 5, 6, 15]) (.cond (.v 15) .skip (.exit 0))) (.seq (.block 1 (.seq (.rgd [⟨some 18, .loadN 5 (.v 1), none, []⟩, ⟨some 19, .mv (.v 6), none, []⟩, ⟨some 20, .call 58 [.v 18, .v 19], none, []⟩, ⟨some 21, .loadN 5 (.v 1), none, []⟩, ⟨some 22, .mv (.v 6), none, []⟩, ⟨some 23, .call 59 [.v 21, .v 22], none, []⟩, ⟨some 24, .build [.int .i64 0, .int .i64 0] [(0, 1, .v 20), (1, 1, .v 23)], none, []⟩, ⟨some 7, .alloc 107 [.int .i64 0, .int .i64 0], none, []⟩, ⟨none, .store 2 (.v 7) (.v 24), none, []⟩] [1, 4, 5, 6, 7] [some [], none, some [], some [0], none, some [], none, some [6, 4, 3, 1], none]) (.seq (.seq (.rg [⟨some 25, .mv (.v 6), none, []⟩, ⟨some 26, .bin .gtr (.v 25) (.c (.int .i64 0)), none, [25]⟩] [1, 4, 5, 6, 7, 26]) (.cond (.v 26) (.seq (.rgd [⟨some 27, .faddr 0 (.v 7), none, []⟩, ⟨some 28, .load1 (.v 27), none, []⟩, ⟨some 29, .mv (.v 4), none, []⟩, ⟨some 30, .mv (.v 6), none, []⟩, ⟨some 31, .binN .sub (.v 30) (.c (.int .i64 1)), none, []⟩, ⟨some 32, .iaddr 2 (.v 29) (.v 31), none, []⟩, ⟨some 33, .faddr 0 (.v 32), none, []⟩, ⟨some 34, .load1 (.v 33), none, []⟩, ⟨some 35, .faddr 0 (.v 1), none, []⟩, ⟨some 36, .faddr 0 (.v 35), none, []⟩, ⟨some 37, .load1 (.v 36), none, []⟩, ⟨some 38, .binN .add (.v 34) (.v 37), none, []⟩, ⟨some 39, .call 84 [.v 28, .v 38], none, []⟩, ⟨some 40, .faddr 0 (.v 7), none, []⟩, ⟨none, .store 1 (.v 40) (.v 39), none, []⟩] [1, 4, 5, 6, 7] [none, none, none, none, none, none, none, none, none, none, none, none, none, none, none]) (.rgd [⟨some 41, .faddr 1 (.v 7), none, []⟩, ⟨some 42, .load1 (.v 41), none, []⟩, ⟨some 43, .mv (.v 4), none, []⟩, ⟨some 44, .mv (.v 6), none, []⟩, ⟨some 45, .binN .sub (.v 44) (.c (.int .i64 1)), none, []⟩, ⟨some 46, .iaddr 2 (.v 43) (.v 45), none, []⟩, ⟨some 47, .faddr 1 (.v 46), none, []⟩, ⟨some 48, .load1 (.v 47), none, []⟩, ⟨some 49, .loadN 5 (.v 1), none, []⟩, ⟨some 50, .mv (.v 6), none, []⟩, ⟨some 51, .binN .sub (.v 50) (.c (.int .i64 1)), none, []⟩, ⟨some 52, .call 60 [.v 49, .v 51], none, []⟩, ⟨some 53, .binN .add (.v 48) (.v 52), none, []⟩, ⟨some 54, .call 83 [.v 42, .v 53], none, []⟩, ⟨some 55, .faddr 1 (.v 7), none, []⟩, ⟨none, .store 1 (.v 55) (.v 54), none, []⟩] [1, 4, 5, 6, 7] [some [], some [], none, none, none, some [], some [], some [], none, none, none, some [10, 9, 5, 4, 3], none, none, none, none])) .skip)) (.seq (.seq (.rg [⟨some 56, .faddr 0 (.v 7), none, []⟩, ⟨some 57, .load1 (.v 56), none, [56]⟩, ⟨some 58, .faddr 1 (.v 7), none, []⟩, ⟨some 59, .load1 (.v 58), none, [58]⟩, ⟨some 60, .bin .gtr (.v 57) (.v 59), none, [57, 59]⟩] [1, 4, 5, 6, 7, 60]) (.cond (.v 60) (.seq (.rg [⟨some 61, .lit 38 2 [], none, []⟩, ⟨some 2, .mv (.v 61), none, [61]⟩, ⟨some 3, .mv (.c (.bool false)), none, []⟩] [2, 3]) (.gh (.frzE 2) .ret)) .skip)) (.rg [⟨some 62, .mv (.v 4), none, [4]⟩, ⟨some 63, .loadN 2 (.v 7), none, [7]⟩, ⟨some 64, .lit 38 2 [.v 63], none, [63]⟩, ⟨some 65, .app 165 38 2 (.v 62) (.v 64), none, [62, 64]⟩, ⟨some 4, .mv (.v 65), none, [65]⟩] [1, 4, 5, 6]))))) (.rg [⟨some 16, .mv (.v 6), none, [6]⟩, ⟨some 17, .binN .add (.v 16) (.c (.int .i64 1)), none, [16]⟩, ⟨some 6, .mv (.v 17), none, [17]⟩] [1, 4, 5, 6])))
def l_spec_l24Spans_1 : SCode := (.seq (.seq (.rg [⟨some 68, .mv (.v 8), none, []⟩, ⟨some 69, .bin .geq (.v 68) (.c (.int .i64 0)), none, [68]⟩] [1, 4, 8, 69]) (.cond (.v 69) .skip (.exit 2))) (.seq (.block 3 (.seq (.rgd [⟨some 72, .mv (.v 4), none, []⟩, ⟨some 73, .mv (.v 8), none, []⟩, ⟨some 74, .mv (.v 4), none, []⟩, ⟨some 75, .mv (.v 8), none, []⟩, ⟨some 76, .iaddr 2 (.v 74) (.v 75), none, []⟩, ⟨some 77, .faddr 0 (.v 76), none, []⟩, ⟨some 78, .load1 (.v 77), none, []⟩, ⟨some 79, .mv (.v 4), none, []⟩, ⟨some 80, .mv (.v 8), none, []⟩, ⟨some 81, .binN .add (.v 80) (.c (.int .i64 1)), none, []⟩, ⟨some 82, .iaddr 2 (.v 79) (.v 81), none, []⟩, ⟨some 83, .faddr 0 (.v 82), none, []⟩, ⟨some 84, .load1 (.v 83), none, []⟩, ⟨some 85, .loadN 5 (.v 1), none, []⟩, ⟨some 86, .mv (.v 8), none, []⟩, ⟨some 87, .call 60 [.v 85, .v 86], none, []⟩, ⟨some 88, .binN .sub (.v 84) (.v 87), none, []⟩, ⟨some 89, .call 84 [.v 78, .v 88], none, []⟩, ⟨some 90, .iaddr 2 (.v 72) (.v 73), none, []⟩, ⟨some 91, .faddr 0 (.v 90), none, []⟩, ⟨none, .store 1 (.v 91) (.v 89), none, []⟩] [1, 4, 8] [none, none, none, none, some [], some [], some [], none, none, none, some [], some [], some [], none, none, some [10, 9, 8, 4, 3, 2], none, none, none, none, none]) (.seq (.rgd [⟨some 92, .mv (.v 4), none, []⟩, ⟨some 93, .mv (.v 8), none, []⟩, ⟨some 94, .mv (.v 4), none, []⟩, ⟨some 95, .mv (.v 8), none, []⟩, ⟨some 96, .iaddr 2 (.v 94) (.v 95), none, []⟩, ⟨some 97, .faddr 1 (.v 96), none, []⟩, ⟨some 98, .load1 (.v 97), none, []⟩, ⟨some 99, .mv (.v 4), none, []⟩, ⟨some 100, .mv (.v 8), none, []⟩, ⟨some 101, .binN .add (.v 100) (.c (.int .i64 1)), none, []⟩, ⟨some 102, .iaddr 2 (.v 99) (.v 101), none, []⟩, ⟨some 103, .faddr 1 (.v 102), none, []⟩, ⟨some 104, .load1 (.v 103), none, []⟩, ⟨some 105, .faddr 0 (.v 1), none, []⟩, ⟨some 106, .faddr 0 (.v 105), none, []⟩, ⟨some 107, .load1 (.v 106), none, []⟩, ⟨some 108, .binN .sub (.v 104) (.v 107), none, []⟩, ⟨some 109, .call 83 [.v 98, .v 108], none, []⟩, ⟨some 110, .iaddr 2 (.v 92) (.v 93), none, []⟩, ⟨some 111, .faddr 1 (.v 110), none, []⟩, ⟨none, .store 1 (.v 111) (.v 109), none, []⟩] [1, 4, 8] [none, none, none, none, none, none, none, none, none, none, none, none, none, none, none, none, none, none, none, none, none]) (.seq (.rgd [⟨some 112, .mv (.v 4), none, []⟩, ⟨some 113, .mv (.v 8), none, []⟩, ⟨some 114, .iaddr 2 (.v 112) (.v 113), none, []⟩, ⟨some 115, .faddr 0 (.v 114), none, []⟩, ⟨some 116, .load1 (.v 115), none, []⟩, ⟨some 117, .mv (.v 4), none, []⟩, ⟨some 118, .mv (.v 8), none, []⟩, ⟨some 119, .iaddr 2 (.v 117) (.v 118), none, []⟩, ⟨some 120, .faddr 1 (.v 119), none, []⟩, ⟨some 121, .load1 (.v 120), none, []⟩, ⟨some 122, .bin .gtr (.v 116) (.v 121), none, []⟩] [1, 4, 8, 122] [none, none, none, none, none, none, none, none, none, none, none]) (.cond (.v 122) (.seq (.rg [⟨some 123, .lit 38 2 [], none, []⟩, ⟨some 2, .mv (.v 123), none, [123]⟩, ⟨some 3, .mv (.c (.bool false)), none, []⟩] [2, 3]) (.gh (.frzE 2) .ret)) .skip))))) (.rg [⟨some 70, .mv (.v 8), none, [8]⟩, ⟨some 71, .binN .sub (.v 70) (.c (.int .i64 1)), none, [70]⟩, ⟨some 8, .mv (.v 71), none, [71]⟩] [1, 4, 8])))
/-- spec.l24Spans: function 54 -/
def s_spec_l24Spans : SFun := { n := 125, res := [.t 2, .t 3], body := (.seq (.rg [⟨some 1, .box 101 (.v 0), none, [0]⟩, ⟨some 2, .mv (.c (.sl 0 2 [])), none, [2]⟩, ⟨some 3, .mv (.c (.bool false)), none, [3]⟩] [1]) (.seq (.rg [⟨some 9, .litOwn 165 38 2 [], none, []⟩, ⟨some 4, .mv (.v 9), none, [9]⟩] [1, 4]) (.seq (.rg [⟨some 10, .faddr 2 (.v 1), none, []⟩, ⟨some 11, .load1 (.v 10), none, [10]⟩, ⟨some 12, .lenL (.v 11), none, [11]⟩, ⟨some 5, .mv (.v 12), none, [12]⟩] [1, 4, 5]) (.seq (.seq (.rg [⟨some 6, .mv (.c (.int .i64 0)), none, []⟩] [1, 4, 5, 6]) (.block 0 (.loop l_spec_l24Spans_0))) (.seq (.seq (.rg [⟨some 66, .mv (.v 5), none, [5]⟩, ⟨some 67, .binN .sub (.v 66) (.c (.int .i64 1)), none, [66]⟩, ⟨some 8, .mv (.v 67), none, [67]⟩] [1, 4, 8]) (.block 2 (.loop l_spec_l24Spans_1))) (.seq (.rg [⟨some 124, .mv (.v 4), none, [4]⟩, ⟨some 2, .mv (.v 124), none, [124]⟩, ⟨some 3, .mv (.c (.bool true)), none, []⟩] [2, 3]) (.gh (.frzE 2) .ret))))))) }
theorem k_spec_l24Spans : okFun Go.Proofs.Try.prog 54 s_spec_l24Spans = true := by kernel_rfl
/-- impl.FlyPath).bound: function 55 -/
def s_impl_FlyPath_bound : SFun := { n := 27, res := [.t 4, .t 5], body := (.seq (.rg [⟨some 2, .box 102 (.v 0), none, [0]⟩, ⟨some 4, .mv (.c (.int .i64 0)), none, [4]⟩, ⟨some 5, .mv (.c (.int .i64 0)), none, [5]⟩] [1, 2]) (.seq (.seq (.rg [⟨some 6, .mv (.v 1), none, []⟩, ⟨some 7, .faddr 2 (.v 2), none, []⟩, ⟨some 8, .load1 (.v 7), none, [7]⟩, ⟨some 9, .lenL (.v 8), none, [8]⟩, ⟨some 10, .bin .eql (.v 6) (.v 9), none, [6, 9]⟩] [1, 2, 10]) (.cond (.v 10) (.seq (.rgd [⟨some 11, .faddr 3 (.v 2), none, []⟩, ⟨some 12, .load1 (.v 11), none, []⟩, ⟨some 13, .faddr 4 (.v 2), none, []⟩, ⟨some 14, .load1 (.v 13), none, []⟩, ⟨some 4, .mv (.v 12), none, []⟩, ⟨some 5, .mv (.v 14), none, []⟩] [4, 5] [none, none, none, none, none, none]) .ret) .skip)) (.seq (.rgd [⟨some 15, .faddr 2 (.v 2), none, []⟩, ⟨some 16, .load1 (.v 15), none, []⟩, ⟨some 17, .mv (.v 1), none, []⟩, ⟨some 18, .iaddr 7 (.v 16) (.v 17), none, []⟩, ⟨some 19, .faddr 4 (.v 18), none, []⟩, ⟨some 20, .load1 (.v 19), none, []⟩, ⟨some 21, .faddr 2 (.v 2), none, []⟩, ⟨some 22, .load1 (.v 21), none, []⟩, ⟨some 23, .mv (.v 1), none, []⟩, ⟨some 24, .iaddr 7 (.v 22) (.v 23), none, []⟩, ⟨some 25, .faddr 5 (.v 24), none, []⟩, ⟨some 26, .load1 (.v 25), none, []⟩, ⟨some 4, .mv (.v 20), none, []⟩, ⟨some 5, .mv (.v 26), none, []⟩] [4, 5] [none, none, none, none, none, none, none, none, none, none, none, none, none, none]) .ret))) }
theorem k_impl_FlyPath_bound : okFun Go.Proofs.Try.prog 55 s_impl_FlyPath_bound = true := by kernel_rfl
def l_impl_FlyPath_spans_0 : SCode := (.seq (.rg [⟨some 22, .bin .lss (.v 21) (.v 20), none, []⟩] [1, 2, 6, 7, 20, 21, 22]) (.seq (.cond (.v 22) .skip (.exit 0)) (.seq (.block 1 (.seq (.rg [⟨some 23, .mv (.v 21), none, []⟩, ⟨some 8, .mv (.v 23), none, [23]⟩] [1, 2, 6, 7, 8, 20, 21]) (.seq (.rg [⟨some 25, .mv (.v 7), none, []⟩, ⟨some 26, .mv (.v 8), none, []⟩, ⟨some 27, .mv (.v 7), none, []⟩, ⟨some 28, .mv (.v 8), none, []⟩, ⟨some 29, .loadN 5 (.v 2), none, []⟩, ⟨some 30, .mv (.v 8), none, []⟩, ⟨some 31, .call 55 [.v 29, .v 30], none, [29, 30]⟩, ⟨some 24, .mv (.v 31), none, [31]⟩, ⟨some 32, .ext 0 (.v 24), none, []⟩, ⟨some 33, .ext 1 (.v 24), none, [24]⟩, ⟨some 34, .iaddr 2 (.v 25) (.v 26), none, [25, 26]⟩, ⟨some 35, .faddr 0 (.v 34), none, [34]⟩, ⟨none, .store 1 (.v 35) (.v 32), none, [32, 35]⟩, ⟨some 36, .iaddr 2 (.v 27) (.v 28), none, [27, 28]⟩, ⟨some 37, .faddr 1 (.v 36), none, [36]⟩, ⟨none, .store 1 (.v 37) (.v 33), none, [33, 37]⟩] [1, 2, 6, 7, 8, 20, 21]) (.seq (.rg [⟨some 38, .mv (.v 8), none, []⟩, ⟨some 39, .mv (.v 1), none, []⟩, ⟨some 40, .lenL (.v 39), none, [39]⟩, ⟨some 41, .bin .lss (.v 38) (.v 40), none, [38, 40]⟩] [1, 2, 6, 7, 8, 20, 21, 41]) (.cond (.v 41) (.rgd [⟨some 42, .mv (.v 7), none, []⟩, ⟨some 43, .mv (.v 8), none, []⟩, ⟨some 44, .mv (.v 7), none, []⟩, ⟨some 45, .mv (.v 8), none, []⟩, ⟨some 46, .mv (.v 7), none, []⟩, ⟨some 47, .mv (.v 8), none, []⟩, ⟨some 48, .iaddr 2 (.v 46) (.v 47), none, []⟩, ⟨some 49, .faddr 0 (.v 48), none, []⟩, ⟨some 50, .load1 (.v 49), none, []⟩, ⟨some 51, .mv (.v 1), none, []⟩, ⟨some 52, .mv (.v 8), none, []⟩, ⟨some 53, .iaddr 1 (.v 51) (.v 52), none, []⟩, ⟨some 54, .load1 (.v 53), none, []⟩, ⟨some 55, .mx (.v 50) (.v 54), none, []⟩, ⟨some 56, .mv (.v 7), none, []⟩, ⟨some 57, .mv (.v 8), none, []⟩, ⟨some 58, .iaddr 2 (.v 56) (.v 57), none, []⟩, ⟨some 59, .faddr 1 (.v 58), none, []⟩, ⟨some 60, .load1 (.v 59), none, []⟩, ⟨some 61, .mv (.v 1), none, []⟩, ⟨some 62, .mv (.v 8), none, []⟩, ⟨some 63, .iaddr 1 (.v 61) (.v 62), none, []⟩, ⟨some 64, .load1 (.v 63), none, []⟩, ⟨some 65, .mn (.v 60) (.v 64), none, []⟩, ⟨some 66, .iaddr 2 (.v 42) (.v 43), none, []⟩, ⟨some 67, .faddr 0 (.v 66), none, []⟩, ⟨none, .store 1 (.v 67) (.v 55), none, []⟩, ⟨some 68, .iaddr 2 (.v 44) (.v 45), none, []⟩, ⟨some 69, .faddr 1 (.v 68), none, []⟩, ⟨none, .store 1 (.v 69) (.v 65), none, []⟩] [1, 2, 6, 7, 20, 21] [none, none, none, none, none, none, none, none, none, none, none, none, none, none, none, none, none, none, none, none, none, none, none, none, none, none, none, none, none, none]) .skip))))) (.rg [⟨some 70, .binN .add (.v 21) (.c (.int .i64 1)), none, [21]⟩, ⟨some 21, .mv (.v 70), none, [70]⟩] [1, 2, 6, 7, 20, 21]))))
def l_impl_FlyPath_spans_1 : SCode := (.seq (.seq (.rg [⟨some 71, .mv (.v 9), none, []⟩, ⟨some 72, .mv (.v 6), none, []⟩, ⟨some 73, .bin .leq (.v 71) (.v 72), none, [71, 72]⟩] [2, 6, 7, 9, 73]) (.cond (.v 73) .skip (.exit 2))) (.seq (.block 3 (.seq (.rgd [⟨some 76, .mv (.v 7), none, []⟩, ⟨some 77, .mv (.v 9), none, []⟩, ⟨some 78, .mv (.v 7), none, []⟩, ⟨some 79, .mv (.v 9), none, []⟩, ⟨some 80, .iaddr 2 (.v 78) (.v 79), none, []⟩, ⟨some 81, .faddr 0 (.v 80), none, []⟩, ⟨some 82, .load1 (.v 81), none, []⟩, ⟨some 83, .mv (.v 7), none, []⟩, ⟨some 84, .mv (.v 9), none, []⟩, ⟨some 85, .binN .sub (.v 84) (.c (.int .i64 1)), none, []⟩, ⟨some 86, .iaddr 2 (.v 83) (.v 85), none, []⟩, ⟨some 87, .faddr 0 (.v 86), none, []⟩, ⟨some 88, .load1 (.v 87), none, []⟩, ⟨some 89, .faddr 0 (.v 2), none, []⟩, ⟨some 90, .faddr 0 (.v 89), none, []⟩, ⟨some 91, .load1 (.v 90), none, []⟩, ⟨some 92, .bin .add (.v 88) (.v 91), none, []⟩, ⟨some 93, .mx (.v 82) (.v 92), none, []⟩, ⟨some 94, .iaddr 2 (.v 76) (.v 77), none, []⟩, ⟨some 95, .faddr 0 (.v 94), none, []⟩, ⟨none, .store 1 (.v 95) (.v 93), none, []⟩] [2, 6, 7, 9] [none, none, none, none, none, none, none, none, none, none, none, none, none, none, none, none, none, none, none, none, none]) (.seq (.rg [⟨some 96, .faddr 2 (.v 2), none, []⟩, ⟨some 97, .load1 (.v 96), none, [96]⟩, ⟨some 98, .mv (.v 9), none, []⟩, ⟨some 99, .binN .sub (.v 98) (.c (.int .i64 1)), none, [98]⟩, ⟨some 100, .iaddr 7 (.v 97) (.v 99), none, [97, 99]⟩, ⟨some 101, .faddr 6 (.v 100), none, [100]⟩, ⟨some 102, .load1 (.v 101), none, [101]⟩, ⟨some 103, .not (.v 102), none, [102]⟩] [2, 6, 7, 9, 103]) (.cond (.v 103) (.rgd [⟨some 104, .mv (.v 7), none, []⟩, ⟨some 105, .mv (.v 9), none, []⟩, ⟨some 106, .mv (.v 7), none, []⟩, ⟨some 107, .mv (.v 9), none, []⟩, ⟨some 108, .iaddr 2 (.v 106) (.v 107), none, []⟩, ⟨some 109, .faddr 1 (.v 108), none, []⟩, ⟨some 110, .load1 (.v 109), none, []⟩, ⟨some 111, .mv (.v 7), none, []⟩, ⟨some 112, .mv (.v 9), none, []⟩, ⟨some 113, .binN .sub (.v 112) (.c (.int .i64 1)), none, []⟩, ⟨some 114, .iaddr 2 (.v 111) (.v 113), none, []⟩, ⟨some 115, .faddr 1 (.v 114), none, []⟩, ⟨some 116, .load1 (.v 115), none, []⟩, ⟨some 117, .faddr 0 (.v 2), none, []⟩, ⟨some 118, .faddr 1 (.v 117), none, []⟩, ⟨some 119, .load1 (.v 118), none, []⟩, ⟨some 120, .bin .add (.v 116) (.v 119), none, []⟩, ⟨some 121, .mn (.v 110) (.v 120), none, []⟩, ⟨some 122, .iaddr 2 (.v 104) (.v 105), none, []⟩, ⟨some 123, .faddr 1 (.v 122), none, []⟩, ⟨none, .store 1 (.v 123) (.v 121), none, []⟩] [2, 6, 7, 9] [none, none, none, none, none, none, none, none, none, none, none, none, none, none, none, none, none, none, none, none, none]) .skip)))) (.rg [⟨some 74, .mv (.v 9), none, [9]⟩, ⟨some 75, .binN .add (.v 74) (.c (.int .i64 1)), none, [74]⟩, ⟨some 9, .mv (.v 75), none, [75]⟩] [2, 6, 7, 9])))
def l_impl_FlyPath_spans_2 : SCode := (.seq (.seq (.rg [⟨some 126, .mv (.v 10), none, []⟩, ⟨some 127, .bin .geq (.v 126) (.c (.int .i64 0)), none, [126]⟩] [2, 7, 10, 127]) (.cond (.v 127) .skip (.exit 4))) (.seq (.block 5 (.seq (.rgd [⟨some 130, .mv (.v 7), none, []⟩, ⟨some 131, .mv (.v 10), none, []⟩, ⟨some 132, .mv (.v 7), none, []⟩, ⟨some 133, .mv (.v 10), none, []⟩, ⟨some 134, .iaddr 2 (.v 132) (.v 133), none, []⟩, ⟨some 135, .faddr 1 (.v 134), none, []⟩, ⟨some 136, .load1 (.v 135), none, []⟩, ⟨some 137, .mv (.v 7), none, []⟩, ⟨some 138, .mv (.v 10), none, []⟩, ⟨some 139, .binN .add (.v 138) (.c (.int .i64 1)), none, []⟩, ⟨some 140, .iaddr 2 (.v 137) (.v 139), none, []⟩, ⟨some 141, .faddr 1 (.v 140), none, []⟩, ⟨some 142, .load1 (.v 141), none, []⟩, ⟨some 143, .faddr 0 (.v 2), none, []⟩, ⟨some 144, .faddr 0 (.v 143), none, []⟩, ⟨some 145, .load1 (.v 144), none, []⟩, ⟨some 146, .bin .sub (.v 142) (.v 145), none, []⟩, ⟨some 147, .mn (.v 136) (.v 146), none, []⟩, ⟨some 148, .iaddr 2 (.v 130) (.v 131), none, []⟩, ⟨some 149, .faddr 1 (.v 148), none, []⟩, ⟨none, .store 1 (.v 149) (.v 147), none, []⟩] [2, 7, 10] [none, none, none, none, none, none, none, none, none, none, none, none, none, none, none, none, none, none, none, none, none]) (.seq (.rg [⟨some 150, .faddr 2 (.v 2), none, []⟩, ⟨some 151, .load1 (.v 150), none, [150]⟩, ⟨some 152, .mv (.v 10), none, []⟩, ⟨some 153, .iaddr 7 (.v 151) (.v 152), none, [151, 152]⟩, ⟨some 154, .faddr 6 (.v 153), none, [153]⟩, ⟨some 155, .load1 (.v 154), none, [154]⟩, ⟨some 156, .not (.v 155), none, [155]⟩] [2, 7, 10, 156]) (.cond (.v 156) (.rgd [⟨some 157, .mv (.v 7), none, []⟩, ⟨some 158, .mv (.v 10), none, []⟩, ⟨some 159, .mv (.v 7), none, []⟩, ⟨some 160, .mv (.v 10), none, []⟩, ⟨some 161, .iaddr 2 (.v 159) (.v 160), none, []⟩, ⟨some 162, .faddr 0 (.v 161), none, []⟩, ⟨some 163, .load1 (.v 162), none, []⟩, ⟨some 164, .mv (.v 7), none, []⟩, ⟨some 165, .mv (.v 10), none, []⟩, ⟨some 166, .binN .add (.v 165) (.c (.int .i64 1)), none, []⟩, ⟨some 167, .iaddr 2 (.v 164) (.v 166), none, []⟩, ⟨some 168, .faddr 0 (.v 167), none, []⟩, ⟨some 169, .load1 (.v 168), none, []⟩, ⟨some 170, .faddr 0 (.v 2), none, []⟩, ⟨some 171, .faddr 1 (.v 170), none, []⟩, ⟨some 172, .load1 (.v 171), none, []⟩, ⟨some 173, .bin .sub (.v 169) (.v 172), none, []⟩, ⟨some 174, .mx (.v 163) (.v 173), none, []⟩, ⟨some 175, .iaddr 2 (.v 157) (.v 158), none, []⟩, ⟨some 176, .faddr 0 (.v 175), none, []⟩, ⟨none, .store 1 (.v 176) (.v 174), none, []⟩] [2, 7, 10] [none, none, none, none, none, none, none, none, none, none, none, none, none, none, none, none, none, none, none, none, none]) .skip)))) (.rg [⟨some 128, .mv (.v 10), none, [10]⟩, ⟨some 129, .binN .sub (.v 128) (.c (.int .i64 1)), none, [128]⟩, ⟨some 10, .mv (.v 129), none, [129]⟩] [2, 7, 10])))
def l_impl_FlyPath_spans_3 : SCode := (.seq (.rg [⟨some 180, .bin .lss (.v 179) (.v 178), none, []⟩] [7, 177, 178, 179, 180]) (.seq (.cond (.v 180) .skip (.exit 6)) (.seq (.block 7 (.seq (.rg [⟨some 181, .iaddr 2 (.v 177) (.v 179), none, []⟩, ⟨some 182, .loadN 2 (.v 181), none, [181]⟩, ⟨some 12, .alloc 112 [.int .i64 0, .int .i64 0], none, []⟩, ⟨none, .store 2 (.v 12) (.v 182), none, [182]⟩] [7, 12, 177, 178, 179]) (.seq (.rg [⟨some 183, .faddr 0 (.v 12), none, []⟩, ⟨some 184, .load1 (.v 183), none, [183]⟩, ⟨some 185, .faddr 1 (.v 12), none, [12]⟩, ⟨some 186, .load1 (.v 185), none, [185]⟩, ⟨some 187, .bin .gtr (.v 184) (.v 186), none, [184, 186]⟩] [7, 177, 178, 179, 187]) (.cond (.v 187) (.seq (.rg [⟨some 4, .mv (.c (.sl 0 2 [])), none, []⟩, ⟨some 5, .mv (.c (.bool false)), none, []⟩] [4, 5]) (.gh (.frzE 4) .ret)) .skip)))) (.rg [⟨some 188, .binN .add (.v 179) (.c (.int .i64 1)), none, [179]⟩, ⟨some 179, .mv (.v 188), none, [188]⟩] [7, 177, 178, 179]))))
/-- impl.FlyPath).spans: function 53 -/
def s_impl_FlyPath_spans : SFun := { n := 190, res := [.t 4, .t 5], body := (.seq (.rg [⟨some 2, .box 102 (.v 0), none, [0]⟩, ⟨some 4, .mv (.c (.sl 0 2 [])), none, [4]⟩, ⟨some 5, .mv (.c (.bool false)), none, [5]⟩] [1, 2]) (.seq (.rg [⟨some 13, .faddr 2 (.v 2), none, []⟩, ⟨some 14, .load1 (.v 13), none, [13]⟩, ⟨some 15, .lenL (.v 14), none, [14]⟩, ⟨some 6, .mv (.v 15), none, [15]⟩] [1, 2, 6]) (.seq (.rg [⟨some 16, .mv (.v 6), none, []⟩, ⟨some 17, .binN .add (.v 16) (.c (.int .i64 1)), none, [16]⟩, ⟨some 18, .mk 118 38 2 [.int .i64 0, .int .i64 0] (.v 17), none, [17]⟩, ⟨some 7, .mv (.v 18), none, [18]⟩] [1, 2, 6, 7]) (.seq (.seq (.rg [⟨some 19, .mv (.v 7), none, []⟩, ⟨some 20, .lenL (.v 19), none, [19]⟩, ⟨some 21, .mv (.c (.int .i64 0)), none, []⟩] [1, 2, 6, 7, 20, 21]) (.block 0 (.loop l_impl_FlyPath_spans_0))) (.seq (.seq (.rg [⟨some 9, .mv (.c (.int .i64 1)), none, []⟩] [2, 6, 7, 9]) (.block 2 (.loop l_impl_FlyPath_spans_1))) (.seq (.seq (.rg [⟨some 124, .mv (.v 6), none, [6]⟩, ⟨some 125, .binN .sub (.v 124) (.c (.int .i64 1)), none, [124]⟩, ⟨some 10, .mv (.v 125), none, [125]⟩] [2, 7, 10]) (.block 4 (.loop l_impl_FlyPath_spans_2))) (.seq (.seq (.rg [⟨some 177, .mv (.v 7), none, []⟩, ⟨some 178, .lenL (.v 177), none, []⟩, ⟨some 179, .mv (.c (.int .i64 0)), none, []⟩] [7, 177, 178, 179]) (.block 6 (.loop l_impl_FlyPath_spans_3))) (.seq (.rg [⟨some 189, .mv (.v 7), none, [7]⟩, ⟨some 4, .mv (.v 189), none, [189]⟩, ⟨some 5, .mv (.c (.bool true)), none, []⟩] [4, 5]) (.gh (.frzE 4) .ret))))))))) }
theorem k_impl_FlyPath_spans : okFun Go.Proofs.Try.prog 53 s_impl_FlyPath_spans = true := by kernel_rfl
/-- spec.l22Copy: function 112 -/
def s_spec_l22Copy : SFun := { n := 9, res := [.cN 2 5], body := (.seq (.rg [⟨some 1, .box 101 (.v 0), none, [0]⟩, ⟨some 2, .alloc 102 [.int .i64 0, .int .i64 0, .sl 0 7 [], .int .i64 0, .int .i64 0], none, []⟩] [1, 2]) (.seq (.rg [⟨some 3, .litOwn 106 64 7 [], none, []⟩, ⟨some 4, .faddr 2 (.v 1), none, []⟩, ⟨some 5, .load1 (.v 4), none, [4]⟩, ⟨some 6, .app 106 64 7 (.v 3) (.v 5), none, [3, 5]⟩, ⟨some 7, .faddr 2 (.v 1), none, []⟩, ⟨none, .store 1 (.v 7) (.v 6), none, [6, 7]⟩] [1, 2]) (.seq (.rg [⟨some 8, .loadN 5 (.v 1), none, [1]⟩, ⟨none, .store 5 (.v 2) (.v 8), none, [8]⟩] [2]) .ret))) }
theorem k_spec_l22Copy : okFun Go.Proofs.Try.prog 112 s_spec_l22Copy = true := by kernel_rfl
def l_spec_l26Held_0 : SCode := (.seq (.seq (.rg [⟨some 9, .mv (.v 6), none, []⟩, ⟨some 10, .mv (.v 1), none, []⟩, ⟨some 11, .lenL (.v 10), none, [10]⟩, ⟨some 12, .bin .lss (.v 9) (.v 11), none, [9, 11]⟩] [1, 4, 5, 6, 12]) (.cond (.v 12) .skip (.exit 0))) (.seq (.block 1 (.seq (.seq (.rg [⟨some 15, .mv (.v 6), none, []⟩, ⟨some 16, .faddr 2 (.v 5), none, []⟩, ⟨some 17, .load1 (.v 16), none, [16]⟩, ⟨some 18, .lenL (.v 17), none, [17]⟩, ⟨some 19, .bin .lss (.v 15) (.v 18), none, [15, 18]⟩] [1, 4, 5, 6, 19]) (.cond (.v 19) (.seq (.rgd [⟨some 20, .faddr 2 (.v 5), none, []⟩, ⟨some 21, .load1 (.v 20), none, []⟩, ⟨some 22, .mv (.v 6), none, []⟩, ⟨some 23, .faddr 2 (.v 5), none, []⟩, ⟨some 24, .load1 (.v 23), none, []⟩, ⟨some 25, .mv (.v 6), none, []⟩, ⟨some 26, .iaddr 7 (.v 24) (.v 25), none, []⟩, ⟨some 27, .faddr 4 (.v 26), none, []⟩, ⟨some 28, .load1 (.v 27), none, []⟩, ⟨some 29, .mv (.v 1), none, []⟩, ⟨some 30, .mv (.v 6), none, []⟩, ⟨some 31, .iaddr 1 (.v 29) (.v 30), none, []⟩, ⟨some 32, .load1 (.v 31), none, []⟩, ⟨some 33, .call 84 [.v 28, .v 32], none, []⟩, ⟨some 34, .iaddr 7 (.v 21) (.v 22), none, []⟩, ⟨some 35, .faddr 4 (.v 34), none, []⟩, ⟨none, .store 1 (.v 35) (.v 33), none, []⟩] [1, 4, 5, 6] [some [], some [], none, none, none, none, none, none, none, none, none, none, none, some [12, 11], none, none, none]) (.seq (.rgd [⟨some 36, .faddr 2 (.v 5), none, []⟩, ⟨some 37, .load1 (.v 36), none, []⟩, ⟨some 38, .mv (.v 6), none, []⟩, ⟨some 39, .faddr 2 (.v 5), none, []⟩, ⟨some 40, .load1 (.v 39), none, []⟩, ⟨some 41, .mv (.v 6), none, []⟩, ⟨some 42, .iaddr 7 (.v 40) (.v 41), none, []⟩, ⟨some 43, .faddr 5 (.v 42), none, []⟩, ⟨some 44, .load1 (.v 43), none, []⟩, ⟨some 45, .mv (.v 1), none, []⟩, ⟨some 46, .mv (.v 6), none, []⟩, ⟨some 47, .iaddr 1 (.v 45) (.v 46), none, []⟩, ⟨some 48, .load1 (.v 47), none, []⟩, ⟨some 49, .call 83 [.v 44, .v 48], none, []⟩, ⟨some 50, .iaddr 7 (.v 37) (.v 38), none, []⟩, ⟨some 51, .faddr 5 (.v 50), none, []⟩, ⟨none, .store 1 (.v 51) (.v 49), none, []⟩] [1, 4, 5, 6] [some [], some [], none, none, none, none, none, none, none, none, none, none, none, some [12, 11], none, none, none]) (.exit 1))) .skip)) (.seq (.rgd [⟨some 52, .faddr 3 (.v 5), none, []⟩, ⟨some 53, .load1 (.v 52), none, []⟩, ⟨some 54, .mv (.v 1), none, []⟩, ⟨some 55, .mv (.v 6), none, []⟩, ⟨some 56, .iaddr 1 (.v 54) (.v 55), none, []⟩, ⟨some 57, .load1 (.v 56), none, []⟩, ⟨some 58, .call 84 [.v 53, .v 57], none, []⟩, ⟨some 59, .faddr 3 (.v 5), none, []⟩, ⟨none, .store 1 (.v 59) (.v 58), none, []⟩] [1, 4, 5, 6] [none, none, none, none, none, none, none, none, none]) (.rgd [⟨some 60, .faddr 4 (.v 5), none, []⟩, ⟨some 61, .load1 (.v 60), none, []⟩, ⟨some 62, .mv (.v 1), none, []⟩, ⟨some 63, .mv (.v 6), none, []⟩, ⟨some 64, .iaddr 1 (.v 62) (.v 63), none, []⟩, ⟨some 65, .load1 (.v 64), none, []⟩, ⟨some 66, .call 83 [.v 61, .v 65], none, []⟩, ⟨some 67, .faddr 4 (.v 5), none, []⟩, ⟨none, .store 1 (.v 67) (.v 66), none, []⟩] [1, 4, 5, 6] [none, none, none, none, none, none, none, none, none])))) (.rg [⟨some 13, .mv (.v 6), none, [6]⟩, ⟨some 14, .binN .add (.v 13) (.c (.int .i64 1)), none, [13]⟩, ⟨some 6, .mv (.v 14), none, [14]⟩] [1, 4, 5, 6])))
/-- spec.l26Held: function 94 -/
def s_spec_l26Held : SFun := { n := 69, res := [.cN 4 5], body := (.seq (.rg [⟨some 2, .box 102 (.v 0), none, [0]⟩, ⟨some 4, .alloc 104 [.int .i64 0, .int .i64 0, .sl 0 7 [], .int .i64 0, .int .i64 0], none, []⟩] [1, 2, 4]) (.seq (.rg [⟨some 7, .loadN 5 (.v 2), none, [2]⟩, ⟨some 8, .call 112 [.v 7], none, [7]⟩, ⟨some 5, .alloc 105 [.int .i64 0, .int .i64 0, .sl 0 7 [], .int .i64 0, .int .i64 0], none, []⟩, ⟨none, .store 5 (.v 5) (.v 8), none, [8]⟩] [1, 4, 5]) (.seq (.seq (.rg [⟨some 6, .mv (.c (.int .i64 0)), none, []⟩] [1, 4, 5, 6]) (.block 0 (.loop l_spec_l26Held_0))) (.seq (.rg [⟨some 68, .loadN 5 (.v 5), none, [5]⟩, ⟨none, .store 5 (.v 4) (.v 68), none, [68]⟩] [4]) (.gh (.frzB 104 2) .ret))))) }
theorem k_spec_l26Held : okFun Go.Proofs.Try.prog 94 s_spec_l26Held = true := by kernel_rfl
/-- spec.l43Begun: function 64 -/
def s_spec_l43Begun : SFun := { n := 26, res := [.t 4], body := (.seq (.rg [⟨some 2, .box 102 (.v 0), none, [0]⟩, ⟨some 4, .mv (.c (.bool false)), none, [4]⟩] [1, 2]) (.seq (.seq (.rg [⟨some 7, .loadN 5 (.v 2), none, []⟩, ⟨some 8, .call 33 [.v 7], none, [7]⟩, ⟨some 9, .not (.v 8), none, [8]⟩, ⟨some 10, .mv (.v 9), none, [9]⟩, ⟨some 11, .mv (.v 1), some (10, false), []⟩, ⟨some 12, .lenL (.v 11), some (10, false), [11]⟩, ⟨some 13, .faddr 2 (.v 2), some (10, false), []⟩, ⟨some 14, .load1 (.v 13), some (10, false), [13]⟩, ⟨some 15, .lenL (.v 14), some (10, false), [14]⟩, ⟨some 16, .bin .gtr (.v 12) (.v 15), some (10, false), [12, 15]⟩, ⟨some 17, .pick (.v 10) (.c (.bool true)) (.v 16), none, [10, 16]⟩] [1, 2, 17]) (.cond (.v 17) (.seq (.rg [⟨some 4, .mv (.c (.bool false)), none, []⟩] [4]) .ret) .skip)) (.seq (.rg [⟨some 19, .loadN 5 (.v 2), none, [2]⟩, ⟨some 20, .mv (.v 1), none, [1]⟩, ⟨some 21, .call 94 [.v 19, .v 20], none, [19, 20]⟩, ⟨some 22, .call 54 [.v 21], none, [21]⟩, ⟨some 18, .mv (.v 22), none, [22]⟩, ⟨some 23, .ext 0 (.v 18), none, []⟩, ⟨some 24, .ext 1 (.v 18), none, [18]⟩, ⟨some 5, .mv (.v 23), none, [5, 23]⟩, ⟨some 6, .mv (.v 24), none, [24]⟩] [6]) (.seq (.rg [⟨some 25, .mv (.v 6), none, [6]⟩, ⟨some 4, .mv (.v 25), none, [25]⟩] [4]) .ret)))) }
theorem k_spec_l43Begun : okFun Go.Proofs.Try.prog 64 s_spec_l43Begun = true := by kernel_rfl
/-- spec.FlyNext: function 82 -/
def s_spec_FlyNext : SFun := { n := 35, res := [.cN 4 2, .t 5], body := (.seq (.rg [⟨some 2, .box 102 (.v 0), none, [0]⟩, ⟨some 4, .alloc 104 [.int .i64 0, .int .i64 0], none, []⟩, ⟨some 5, .mv (.c (.bool false)), none, [5]⟩] [1, 2, 4]) (.seq (.seq (.rg [⟨some 8, .loadN 5 (.v 2), none, []⟩, ⟨some 9, .call 33 [.v 8], none, [8]⟩, ⟨some 10, .not (.v 9), none, [9]⟩, ⟨some 11, .mv (.v 10), none, [10]⟩, ⟨some 12, .mv (.v 1), some (11, false), []⟩, ⟨some 13, .lenL (.v 12), some (11, false), [12]⟩, ⟨some 14, .faddr 2 (.v 2), some (11, false), []⟩, ⟨some 15, .load1 (.v 14), some (11, false), [14]⟩, ⟨some 16, .lenL (.v 15), some (11, false), [15]⟩, ⟨some 17, .bin .gtr (.v 13) (.v 16), some (11, false), [13, 16]⟩, ⟨some 18, .pick (.v 11) (.c (.bool true)) (.v 17), none, [11, 17]⟩] [1, 2, 4, 18]) (.cond (.v 18) (.seq (.rg [⟨some 19, .build [.int .i64 0, .int .i64 0] [], none, []⟩, ⟨none, .store 2 (.v 4) (.v 19), none, [19]⟩, ⟨some 5, .mv (.c (.bool false)), none, []⟩] [4, 5]) .ret) .skip)) (.seq (.rg [⟨some 21, .loadN 5 (.v 2), none, [2]⟩, ⟨some 22, .mv (.v 1), none, []⟩, ⟨some 23, .call 94 [.v 21, .v 22], none, [21, 22]⟩, ⟨some 24, .call 54 [.v 23], none, [23]⟩, ⟨some 20, .mv (.v 24), none, [24]⟩, ⟨some 25, .ext 0 (.v 20), none, []⟩, ⟨some 26, .ext 1 (.v 20), none, [20]⟩, ⟨some 6, .mv (.v 25), none, [25]⟩, ⟨some 7, .mv (.v 26), none, [26]⟩] [1, 4, 6, 7]) (.seq (.seq (.rg [⟨some 27, .mv (.v 7), none, [7]⟩, ⟨some 28, .not (.v 27), none, [27]⟩] [1, 4, 6, 28]) (.cond (.v 28) (.seq (.rg [⟨some 29, .build [.int .i64 0, .int .i64 0] [], none, []⟩, ⟨none, .store 2 (.v 4) (.v 29), none, [29]⟩, ⟨some 5, .mv (.c (.bool false)), none, []⟩] [4, 5]) .ret) .skip)) (.seq (.rg [⟨some 30, .mv (.v 6), none, [6]⟩, ⟨some 31, .mv (.v 1), none, [1]⟩, ⟨some 32, .lenL (.v 31), none, [31]⟩, ⟨some 33, .iaddr 2 (.v 30) (.v 32), none, [30, 32]⟩, ⟨some 34, .loadN 2 (.v 33), none, [33]⟩, ⟨none, .store 2 (.v 4) (.v 34), none, [34]⟩, ⟨some 5, .mv (.c (.bool true)), none, []⟩] [4, 5]) .ret))))) }
theorem k_spec_FlyNext : okFun Go.Proofs.Try.prog 82 s_spec_FlyNext = true := by kernel_rfl
/-- impl.FlyNext: function 81 -/
def s_impl_FlyNext : SFun := { n := 34, res := [.cN 4 2, .t 5], body := (.seq (.rg [⟨some 2, .box 102 (.v 0), none, [0]⟩, ⟨some 4, .alloc 104 [.int .i64 0, .int .i64 0], none, []⟩, ⟨some 5, .mv (.c (.bool false)), none, [5]⟩] [1, 2, 4]) (.seq (.seq (.rg [⟨some 8, .loadN 5 (.v 2), none, []⟩, ⟨some 9, .call 32 [.v 8], none, [8]⟩, ⟨some 10, .not (.v 9), none, [9]⟩, ⟨some 11, .mv (.v 10), none, [10]⟩, ⟨some 12, .mv (.v 1), some (11, false), []⟩, ⟨some 13, .lenL (.v 12), some (11, false), [12]⟩, ⟨some 14, .faddr 2 (.v 2), some (11, false), []⟩, ⟨some 15, .load1 (.v 14), some (11, false), [14]⟩, ⟨some 16, .lenL (.v 15), some (11, false), [15]⟩, ⟨some 17, .bin .gtr (.v 13) (.v 16), some (11, false), [13, 16]⟩, ⟨some 18, .pick (.v 11) (.c (.bool true)) (.v 17), none, [11, 17]⟩] [1, 2, 4, 18]) (.cond (.v 18) (.seq (.rg [⟨some 19, .build [.int .i64 0, .int .i64 0] [], none, []⟩, ⟨none, .store 2 (.v 4) (.v 19), none, [19]⟩, ⟨some 5, .mv (.c (.bool false)), none, []⟩] [4, 5]) .ret) .skip)) (.seq (.rg [⟨some 21, .loadN 5 (.v 2), none, [2]⟩, ⟨some 22, .mv (.v 1), none, []⟩, ⟨some 23, .call 53 [.v 21, .v 22], none, [21, 22]⟩, ⟨some 20, .mv (.v 23), none, [23]⟩, ⟨some 24, .ext 0 (.v 20), none, []⟩, ⟨some 25, .ext 1 (.v 20), none, [20]⟩, ⟨some 6, .mv (.v 24), none, [24]⟩, ⟨some 7, .mv (.v 25), none, [25]⟩] [1, 4, 6, 7]) (.seq (.seq (.rg [⟨some 26, .mv (.v 7), none, [7]⟩, ⟨some 27, .not (.v 26), none, [26]⟩] [1, 4, 6, 27]) (.cond (.v 27) (.seq (.rg [⟨some 28, .build [.int .i64 0, .int .i64 0] [], none, []⟩, ⟨none, .store 2 (.v 4) (.v 28), none, [28]⟩, ⟨some 5, .mv (.c (.bool false)), none, []⟩] [4, 5]) .ret) .skip)) (.seq (.rg [⟨some 29, .mv (.v 6), none, [6]⟩, ⟨some 30, .mv (.v 1), none, [1]⟩, ⟨some 31, .lenL (.v 30), none, [30]⟩, ⟨some 32, .iaddr 2 (.v 29) (.v 31), none, [29, 31]⟩, ⟨some 33, .loadN 2 (.v 32), none, [32]⟩, ⟨none, .store 2 (.v 4) (.v 33), none, [33]⟩, ⟨some 5, .mv (.c (.bool true)), none, []⟩] [4, 5]) .ret))))) }
theorem k_impl_FlyNext : okFun Go.Proofs.Try.prog 81 s_impl_FlyNext = true := by kernel_rfl
/-- spec.l43Next: function 65 -/
def s_spec_l43Next : SFun := { n := 27, res := [.t 4], body := (.seq (.rg [⟨some 2, .box 102 (.v 0), none, [0]⟩, ⟨some 4, .mv (.c (.bool false)), none, [4]⟩] [1, 2]) (.seq (.rgd [⟨some 8, .faddr 1 (.v 2), none, []⟩, ⟨some 9, .loadN 2 (.v 8), none, []⟩, ⟨some 10, .faddr 5 (.v 2), none, []⟩, ⟨some 11, .load1 (.v 10), none, []⟩, ⟨some 12, .call 63 [.v 9, .v 11], none, []⟩, ⟨some 13, .faddr 6 (.v 2), none, []⟩, ⟨some 14, .load1 (.v 13), none, []⟩, ⟨some 15, .call 82 [.v 12, .v 14], none, []⟩, ⟨some 7, .mv (.v 15), none, []⟩, ⟨some 16, .ext 0 (.v 7), none, []⟩, ⟨some 17, .ext 1 (.v 7), none, []⟩, ⟨some 5, .alloc 105 [.int .i64 0, .int .i64 0], none, []⟩, ⟨none, .store 2 (.v 5) (.v 16), none, []⟩, ⟨some 6, .mv (.v 17), none, []⟩] [1, 5, 6] [some [], some [], some [], some [], some [], some [0], some [1], some [], none, none, none, some [10, 9, 8, 7, 6, 5, 4, 3], none, none]) (.seq (.rg [⟨some 18, .mv (.v 6), none, [6]⟩, ⟨some 19, .mv (.v 18), none, [18]⟩, ⟨some 20, .mv (.v 1), some (19, true), [1]⟩, ⟨some 21, .faddr 0 (.v 5), some (19, true), []⟩, ⟨some 22, .load1 (.v 21), some (19, true), [21]⟩, ⟨some 23, .faddr 1 (.v 5), some (19, true), [5]⟩, ⟨some 24, .load1 (.v 23), some (19, true), [23]⟩, ⟨some 25, .call 105 [.v 20, .v 22, .v 24], some (19, true), [20, 22, 24]⟩, ⟨some 26, .pick (.v 19) (.v 25) (.c (.bool false)), none, [19, 25]⟩, ⟨some 4, .mv (.v 26), none, [26]⟩] [4]) .ret))) }
theorem k_spec_l43Next : okFun Go.Proofs.Try.prog 65 s_spec_l43Next = true := by kernel_rfl
/-- impl.LapCraft).next: function 70 -/
def s_impl_LapCraft_next : SFun := { n := 23, res := [.cN 2 5, .cN 3 2, .t 4], body := (.seq (.rg [⟨some 1, .box 101 (.v 0), none, [0]⟩, ⟨some 2, .alloc 102 [.int .i64 0, .int .i64 0, .sl 0 7 [], .int .i64 0, .int .i64 0], none, []⟩, ⟨some 3, .alloc 103 [.int .i64 0, .int .i64 0], none, []⟩, ⟨some 4, .mv (.c (.bool false)), none, [4]⟩] [1, 2, 3]) (.seq (.rg [⟨some 8, .faddr 1 (.v 1), none, []⟩, ⟨some 9, .loadN 2 (.v 8), none, [8]⟩, ⟨some 10, .faddr 5 (.v 1), none, []⟩, ⟨some 11, .load1 (.v 10), none, [10]⟩, ⟨some 12, .call 108 [.v 9, .v 11], none, [9, 11]⟩, ⟨some 5, .alloc 105 [.int .i64 0, .int .i64 0, .sl 0 7 [], .int .i64 0, .int .i64 0], none, []⟩, ⟨none, .store 5 (.v 5) (.v 12), none, [12]⟩] [1, 2, 3, 5]) (.seq (.rg [⟨some 14, .loadN 5 (.v 5), none, []⟩, ⟨some 15, .faddr 6 (.v 1), none, [1]⟩, ⟨some 16, .load1 (.v 15), none, [15]⟩, ⟨some 17, .call 81 [.v 14, .v 16], none, [14, 16]⟩, ⟨some 13, .mv (.v 17), none, [17]⟩, ⟨some 18, .ext 0 (.v 13), none, []⟩, ⟨some 19, .ext 1 (.v 13), none, [13]⟩, ⟨some 6, .alloc 106 [.int .i64 0, .int .i64 0], none, []⟩, ⟨none, .store 2 (.v 6) (.v 18), none, [18]⟩, ⟨some 7, .mv (.v 19), none, [19]⟩] [2, 3, 5, 6, 7]) (.seq (.rgd [⟨some 20, .loadN 5 (.v 5), none, []⟩, ⟨some 21, .loadN 2 (.v 6), none, []⟩, ⟨some 22, .mv (.v 7), none, []⟩, ⟨none, .store 5 (.v 2) (.v 20), none, []⟩, ⟨none, .store 2 (.v 3) (.v 21), none, []⟩, ⟨some 4, .mv (.v 22), none, []⟩] [2, 3, 4] [none, some [], none, some [1], none, none]) .ret)))) }
theorem k_impl_LapCraft_next : okFun Go.Proofs.Try.prog 70 s_impl_LapCraft_next = true := by kernel_rfl
def l_laws_eqIntS_0 : SCode := (.seq (.seq (.rg [⟨some 11, .mv (.v 5), none, []⟩, ⟨some 12, .mv (.v 0), none, []⟩, ⟨some 13, .lenL (.v 12), none, [12]⟩, ⟨some 14, .bin .lss (.v 11) (.v 13), none, [11, 13]⟩] [0, 1, 5, 14]) (.cond (.v 14) .skip (.exit 0))) (.seq (.block 1 (.seq (.rgd [⟨some 17, .mv (.v 0), none, []⟩, ⟨some 18, .mv (.v 5), none, []⟩, ⟨some 19, .iaddr 1 (.v 17) (.v 18), none, []⟩, ⟨some 20, .load1 (.v 19), none, []⟩, ⟨some 21, .mv (.v 1), none, []⟩, ⟨some 22, .mv (.v 5), none, []⟩, ⟨some 23, .iaddr 1 (.v 21) (.v 22), none, []⟩, ⟨some 24, .load1 (.v 23), none, []⟩, ⟨some 25, .bin .neq (.v 20) (.v 24), none, []⟩] [0, 1, 5, 25] [none, none, none, none, none, none, none, none, none]) (.cond (.v 25) (.seq (.rg [⟨some 4, .mv (.c (.bool false)), none, []⟩] [4]) .ret) .skip))) (.rg [⟨some 15, .mv (.v 5), none, [5]⟩, ⟨some 16, .binN .add (.v 15) (.c (.int .i64 1)), none, [15]⟩, ⟨some 5, .mv (.v 16), none, [16]⟩] [0, 1, 5])))
/-- laws.eqIntS: function 74 -/
def s_laws_eqIntS : SFun := { n := 26, res := [.t 4], body := (.seq (.rg [⟨some 4, .mv (.c (.bool false)), none, [4]⟩] [0, 1]) (.seq (.seq (.rg [⟨some 6, .mv (.v 0), none, []⟩, ⟨some 7, .lenL (.v 6), none, [6]⟩, ⟨some 8, .mv (.v 1), none, []⟩, ⟨some 9, .lenL (.v 8), none, [8]⟩, ⟨some 10, .bin .neq (.v 7) (.v 9), none, [7, 9]⟩] [0, 1, 10]) (.cond (.v 10) (.seq (.rg [⟨some 4, .mv (.c (.bool false)), none, []⟩] [4]) .ret) .skip)) (.seq (.seq (.rg [⟨some 5, .mv (.c (.int .i64 0)), none, []⟩] [0, 1, 5]) (.block 0 (.loop l_laws_eqIntS_0))) (.seq (.rg [⟨some 4, .mv (.c (.bool true)), none, []⟩] [4]) .ret)))) }
theorem k_laws_eqIntS : okFun Go.Proofs.Try.prog 74 s_laws_eqIntS = true := by kernel_rfl
def l_laws_toIntS_0 : SCode := (.seq (.seq (.rg [⟨some 8, .mv (.v 4), none, []⟩, ⟨some 9, .mv (.v 0), none, []⟩, ⟨some 10, .lenL (.v 9), none, [9]⟩, ⟨some 11, .bin .lss (.v 8) (.v 10), none, [8, 10]⟩] [0, 3, 4, 11]) (.cond (.v 11) .skip (.exit 0))) (.seq (.block 1 (.rg [⟨some 14, .mv (.v 3), none, []⟩, ⟨some 15, .mv (.v 4), none, []⟩, ⟨some 16, .mv (.v 0), none, []⟩, ⟨some 17, .mv (.v 4), none, []⟩, ⟨some 18, .iaddr 1 (.v 16) (.v 17), none, [16, 17]⟩, ⟨some 19, .load1 (.v 18), none, [18]⟩, ⟨some 20, .iaddr 1 (.v 14) (.v 15), none, [14, 15]⟩, ⟨none, .store 1 (.v 20) (.v 19), none, [19, 20]⟩] [0, 3, 4])) (.rg [⟨some 12, .mv (.v 4), none, [4]⟩, ⟨some 13, .binN .add (.v 12) (.c (.int .i64 1)), none, [12]⟩, ⟨some 4, .mv (.v 13), none, [13]⟩] [0, 3, 4])))
/-- laws.toIntS: function 69 -/
def s_laws_toIntS : SFun := { n := 22, res := [.t 2], body := (.seq (.rg [⟨some 2, .mv (.c (.sl 0 1 [])), none, [2]⟩] [0]) (.seq (.rg [⟨some 5, .mv (.v 0), none, []⟩, ⟨some 6, .lenL (.v 5), none, [5]⟩, ⟨some 7, .mk 107 3 1 [.int .i64 0] (.v 6), none, [6]⟩, ⟨some 3, .mv (.v 7), none, [7]⟩] [0, 3]) (.seq (.seq (.rg [⟨some 4, .mv (.c (.int .i64 0)), none, []⟩] [0, 3, 4]) (.block 0 (.loop l_laws_toIntS_0))) (.seq (.rg [⟨some 21, .mv (.v 3), none, [3]⟩, ⟨some 2, .mv (.v 21), none, [21]⟩] [2]) (.gh (.frzE 2) .ret))))) }
theorem k_laws_toIntS : okFun Go.Proofs.Try.prog 69 s_laws_toIntS = true := by kernel_rfl
end Go.Ve

namespace Go.Ve
open Go.Proofs
set_option linter.unusedSimpArgs false
set_option linter.unusedVariables false
set_option maxRecDepth 100000
noncomputable abbrev P := Go.Proofs.Try.prog
theorem hm : P.follows .mixedOrders = true := by kernel_rfl
theorem c_within (n lo hi : Int) (hp : True) : Contract P 56 [.int .i64 n, .int .i64 lo, .int .i64 hi] [] (.bool (decide (lo ≤ n ∧ n ≤ hi))) [] := by
  refine fn_sound (Env.nil P) hm k_impl_within (Nat.le_of_ble_eq_true rfl) rfl ?_
  unfold s_impl_within
  simp only [w_skip, w_rg, w_rgd, w_seq, w_cond, w_block, w_loop, w_exit, w_ret, w_gh, w_rg0, w_rg1, w_rgT, w_rgF, w_run, w_psd, w_und, w_dr0, w_dr1, w_drT, w_drF, w_drRun, w_drPsd, w_drUnd, w_drKn, w_drKs, w_putK, w_trimK, w_thenN, w_thenE, w_thenR, w_scope, w_label, w_blkN, w_blkE, w_blkR, w_call, w_effK, brU_true, brU_false, brU_u, brU_not, brU_and, brU_or, brU_dec, brU_eq, brU_ne, br_true, br_false, br_not, br_and, br_or, br_dec, br_eq, br_ne, w_getE0, w_getE1, w_setE0, w_setE1, w_dropE0, w_dropE1, w_drop0, w_drop1, w_getM0, w_getM1, w_setM0, w_setM1, ev_v, ev_c, w_putS, w_putN, w_lit, w_apU0, w_apU1, w_apU2, w_trim, enumE0, enumE1, w_callWp, w_callA0, w_callA1, w_R0, w_R1, w_R2, w_T2, w_callL, w_callT, w_T1, w_T0, o_mv, o_newnil, o_pick, o_bin, o_binN, o_neg, o_not, o_eqB, o_eqS, o_conv, o_alloc, o_box, o_load1, o_loadN, o_store, o_nilck, o_faddr, o_field1, o_fieldN, o_iaddr, o_istr, o_slStr, o_slSl, o_lenS, o_lenL, o_mx, o_mn, o_ext, o_build, o_lit, o_litOwn, o_app, o_mk, o_mvfrz, l_int, l_bool, l_str, l_agg, l_sl, l_own, l_ptr, l_pp, i_int, i_bool, i_str, i_sl, i_own, i_ptr, i_pp, all0, all1, e_ok1, eff, effBin, effBinN, ld_ptr, ld_pp, ld_elt, ia_own, ia_arr, el_1, el_N, load1K, faddrE, r_iaddr, sg_S, sg_c, sg_n, purL, pur, List.map, List.drop, List.take, List.length, List.foldl, List.append_eq, List.nil_append, List.cons_append, List.getD_cons_zero, List.getD_cons_succ, reduceIte, Nat.reduceEqDiff, Nat.reduceAdd, Nat.reduceLeDiff, true_and, and_true, Bool.not_true, Bool.not_false, Bool.and_true, Bool.true_and, Bool.and_self, reduceCtorEq, true_implies, false_implies, implies_true, decide_eq_true_eq, Option.map_some, fpOf, fpX, SOp.xs, oX, refs, refsL, dom, disj, List.all_nil, List.all_cons, List.contains_cons, List.contains_nil, Nat.reduceBEq, Bool.or_false, Bool.false_or, List.append_nil, Bool.not_false, Bool.not_true, List.forall_mem_cons, fm0, List.set, Nat.reduceLT, ne_eq, not_false_eq_true, not_true_eq_false
, ret1, ret1N, keep0, keep1, rf_int, rf_bool, rf_str, rf_sl, rf_agg, rf_tup, rfL0, rfL1, re_t, re_cN, re_L0, re_L1, ret_tup, ret_one, decide_true, AV.bool.injEq, AV.int.injEq, Nat.reduceLeDiff, Bool.true_eq, Bool.false_eq, decide_eq_true_eq, decide_eq_false_iff_not]
  repeat' (first | apply And.intro | intro _)
  all_goals (first | trivial | omega | (simp_all; done) | (simp_all; omega))
def t_within : List AV → Option (Prop × AV)
  | [.int .i64 n, .int .i64 lo, .int .i64 hi] => some (True, .bool (decide (lo ≤ n ∧ n ≤ hi)))
  | _ => none
theorem h_within : ∀ args p v, t_within args = some (p, v) → p → Contract P 56 args [] v [] ∧ noref v = true ∧ No99 v := by
  intro args p v h1 h2
  unfold t_within at h1
  split at h1
  · cases h1; exact ⟨c_within _ _ _ h2, rfl, trivial⟩
  · cases h1
theorem c_l21In (n lo hi : Int) (hp : True) : Contract P 57 [.int .i64 n, .int .i64 lo, .int .i64 hi] [] (.bool (decide (lo ≤ n ∧ n ≤ hi))) [] := by
  refine fn_sound (Env.nil P) hm k_spec_l21In (Nat.le_of_ble_eq_true rfl) rfl ?_
  unfold s_spec_l21In
  simp only [w_skip, w_rg, w_rgd, w_seq, w_cond, w_block, w_loop, w_exit, w_ret, w_gh, w_rg0, w_rg1, w_rgT, w_rgF, w_run, w_psd, w_und, w_dr0, w_dr1, w_drT, w_drF, w_drRun, w_drPsd, w_drUnd, w_drKn, w_drKs, w_putK, w_trimK, w_thenN, w_thenE, w_thenR, w_scope, w_label, w_blkN, w_blkE, w_blkR, w_call, w_effK, brU_true, brU_false, brU_u, brU_not, brU_and, brU_or, brU_dec, brU_eq, brU_ne, br_true, br_false, br_not, br_and, br_or, br_dec, br_eq, br_ne, w_getE0, w_getE1, w_setE0, w_setE1, w_dropE0, w_dropE1, w_drop0, w_drop1, w_getM0, w_getM1, w_setM0, w_setM1, ev_v, ev_c, w_putS, w_putN, w_lit, w_apU0, w_apU1, w_apU2, w_trim, enumE0, enumE1, w_callWp, w_callA0, w_callA1, w_R0, w_R1, w_R2, w_T2, w_callL, w_callT, w_T1, w_T0, o_mv, o_newnil, o_pick, o_bin, o_binN, o_neg, o_not, o_eqB, o_eqS, o_conv, o_alloc, o_box, o_load1, o_loadN, o_store, o_nilck, o_faddr, o_field1, o_fieldN, o_iaddr, o_istr, o_slStr, o_slSl, o_lenS, o_lenL, o_mx, o_mn, o_ext, o_build, o_lit, o_litOwn, o_app, o_mk, o_mvfrz, l_int, l_bool, l_str, l_agg, l_sl, l_own, l_ptr, l_pp, i_int, i_bool, i_str, i_sl, i_own, i_ptr, i_pp, all0, all1, e_ok1, eff, effBin, effBinN, ld_ptr, ld_pp, ld_elt, ia_own, ia_arr, el_1, el_N, load1K, faddrE, r_iaddr, sg_S, sg_c, sg_n, purL, pur, List.map, List.drop, List.take, List.length, List.foldl, List.append_eq, List.nil_append, List.cons_append, List.getD_cons_zero, List.getD_cons_succ, reduceIte, Nat.reduceEqDiff, Nat.reduceAdd, Nat.reduceLeDiff, true_and, and_true, Bool.not_true, Bool.not_false, Bool.and_true, Bool.true_and, Bool.and_self, reduceCtorEq, true_implies, false_implies, implies_true, decide_eq_true_eq, Option.map_some, fpOf, fpX, SOp.xs, oX, refs, refsL, dom, disj, List.all_nil, List.all_cons, List.contains_cons, List.contains_nil, Nat.reduceBEq, Bool.or_false, Bool.false_or, List.append_nil, Bool.not_false, Bool.not_true, List.forall_mem_cons, fm0, List.set, Nat.reduceLT, ne_eq, not_false_eq_true, not_true_eq_false
, ret1, ret1N, keep0, keep1, rf_int, rf_bool, rf_str, rf_sl, rf_agg, rf_tup, rfL0, rfL1, re_t, re_cN, re_L0, re_L1, ret_tup, ret_one, decide_true, AV.bool.injEq, AV.int.injEq, Nat.reduceLeDiff, Bool.true_eq, Bool.false_eq, decide_eq_true_eq, decide_eq_false_iff_not]
  repeat' (first | apply And.intro | intro _)
  all_goals (first | trivial | omega | (simp_all; done) | (simp_all; omega))
def t_l21In : List AV → Option (Prop × AV)
  | [.int .i64 n, .int .i64 lo, .int .i64 hi] => some (True, .bool (decide (lo ≤ n ∧ n ≤ hi)))
  | _ => none
theorem h_l21In : ∀ args p v, t_l21In args = some (p, v) → p → Contract P 57 args [] v [] ∧ noref v = true ∧ No99 v := by
  intro args p v h1 h2
  unfold t_l21In at h1
  split at h1
  · cases h1; exact ⟨c_l21In _ _ _ h2, rfl, trivial⟩
  · cases h1
theorem c_l1In (n lo hi : Int) (hp : True) : Contract P 105 [.int .i64 n, .int .i64 lo, .int .i64 hi] [] (.bool (decide (lo ≤ n ∧ n ≤ hi))) [] := by
  refine fn_sound (Env.nil P) hm k_spec_l1In (Nat.le_of_ble_eq_true rfl) rfl ?_
  unfold s_spec_l1In
  simp only [w_skip, w_rg, w_rgd, w_seq, w_cond, w_block, w_loop, w_exit, w_ret, w_gh, w_rg0, w_rg1, w_rgT, w_rgF, w_run, w_psd, w_und, w_dr0, w_dr1, w_drT, w_drF, w_drRun, w_drPsd, w_drUnd, w_drKn, w_drKs, w_putK, w_trimK, w_thenN, w_thenE, w_thenR, w_scope, w_label, w_blkN, w_blkE, w_blkR, w_call, w_effK, brU_true, brU_false, brU_u, brU_not, brU_and, brU_or, brU_dec, brU_eq, brU_ne, br_true, br_false, br_not, br_and, br_or, br_dec, br_eq, br_ne, w_getE0, w_getE1, w_setE0, w_setE1, w_dropE0, w_dropE1, w_drop0, w_drop1, w_getM0, w_getM1, w_setM0, w_setM1, ev_v, ev_c, w_putS, w_putN, w_lit, w_apU0, w_apU1, w_apU2, w_trim, enumE0, enumE1, w_callWp, w_callA0, w_callA1, w_R0, w_R1, w_R2, w_T2, w_callL, w_callT, w_T1, w_T0, o_mv, o_newnil, o_pick, o_bin, o_binN, o_neg, o_not, o_eqB, o_eqS, o_conv, o_alloc, o_box, o_load1, o_loadN, o_store, o_nilck, o_faddr, o_field1, o_fieldN, o_iaddr, o_istr, o_slStr, o_slSl, o_lenS, o_lenL, o_mx, o_mn, o_ext, o_build, o_lit, o_litOwn, o_app, o_mk, o_mvfrz, l_int, l_bool, l_str, l_agg, l_sl, l_own, l_ptr, l_pp, i_int, i_bool, i_str, i_sl, i_own, i_ptr, i_pp, all0, all1, e_ok1, eff, effBin, effBinN, ld_ptr, ld_pp, ld_elt, ia_own, ia_arr, el_1, el_N, load1K, faddrE, r_iaddr, sg_S, sg_c, sg_n, purL, pur, List.map, List.drop, List.take, List.length, List.foldl, List.append_eq, List.nil_append, List.cons_append, List.getD_cons_zero, List.getD_cons_succ, reduceIte, Nat.reduceEqDiff, Nat.reduceAdd, Nat.reduceLeDiff, true_and, and_true, Bool.not_true, Bool.not_false, Bool.and_true, Bool.true_and, Bool.and_self, reduceCtorEq, true_implies, false_implies, implies_true, decide_eq_true_eq, Option.map_some, fpOf, fpX, SOp.xs, oX, refs, refsL, dom, disj, List.all_nil, List.all_cons, List.contains_cons, List.contains_nil, Nat.reduceBEq, Bool.or_false, Bool.false_or, List.append_nil, Bool.not_false, Bool.not_true, List.forall_mem_cons, fm0, List.set, Nat.reduceLT, ne_eq, not_false_eq_true, not_true_eq_false
, ret1, ret1N, keep0, keep1, rf_int, rf_bool, rf_str, rf_sl, rf_agg, rf_tup, rfL0, rfL1, re_t, re_cN, re_L0, re_L1, ret_tup, ret_one, decide_true, AV.bool.injEq, AV.int.injEq, Nat.reduceLeDiff, Bool.true_eq, Bool.false_eq, decide_eq_true_eq, decide_eq_false_iff_not]
  repeat' (first | apply And.intro | intro _)
  all_goals (first | trivial | omega | (simp_all; done) | (simp_all; omega))
def t_l1In : List AV → Option (Prop × AV)
  | [.int .i64 n, .int .i64 lo, .int .i64 hi] => some (True, .bool (decide (lo ≤ n ∧ n ≤ hi)))
  | _ => none
theorem h_l1In : ∀ args p v, t_l1In args = some (p, v) → p → Contract P 105 args [] v [] ∧ noref v = true ∧ No99 v := by
  intro args p v h1 h2
  unfold t_l1In at h1
  split at h1
  · cases h1; exact ⟨c_l1In _ _ _ h2, rfl, trivial⟩
  · cases h1
theorem c_l31In (n lo hi : Int) (hp : True) : Contract P 118 [.int .i64 n, .int .i64 lo, .int .i64 hi] [] (.bool (decide (lo ≤ n ∧ n ≤ hi))) [] := by
  refine fn_sound (Env.nil P) hm k_spec_l31In (Nat.le_of_ble_eq_true rfl) rfl ?_
  unfold s_spec_l31In
  simp only [w_skip, w_rg, w_rgd, w_seq, w_cond, w_block, w_loop, w_exit, w_ret, w_gh, w_rg0, w_rg1, w_rgT, w_rgF, w_run, w_psd, w_und, w_dr0, w_dr1, w_drT, w_drF, w_drRun, w_drPsd, w_drUnd, w_drKn, w_drKs, w_putK, w_trimK, w_thenN, w_thenE, w_thenR, w_scope, w_label, w_blkN, w_blkE, w_blkR, w_call, w_effK, brU_true, brU_false, brU_u, brU_not, brU_and, brU_or, brU_dec, brU_eq, brU_ne, br_true, br_false, br_not, br_and, br_or, br_dec, br_eq, br_ne, w_getE0, w_getE1, w_setE0, w_setE1, w_dropE0, w_dropE1, w_drop0, w_drop1, w_getM0, w_getM1, w_setM0, w_setM1, ev_v, ev_c, w_putS, w_putN, w_lit, w_apU0, w_apU1, w_apU2, w_trim, enumE0, enumE1, w_callWp, w_callA0, w_callA1, w_R0, w_R1, w_R2, w_T2, w_callL, w_callT, w_T1, w_T0, o_mv, o_newnil, o_pick, o_bin, o_binN, o_neg, o_not, o_eqB, o_eqS, o_conv, o_alloc, o_box, o_load1, o_loadN, o_store, o_nilck, o_faddr, o_field1, o_fieldN, o_iaddr, o_istr, o_slStr, o_slSl, o_lenS, o_lenL, o_mx, o_mn, o_ext, o_build, o_lit, o_litOwn, o_app, o_mk, o_mvfrz, l_int, l_bool, l_str, l_agg, l_sl, l_own, l_ptr, l_pp, i_int, i_bool, i_str, i_sl, i_own, i_ptr, i_pp, all0, all1, e_ok1, eff, effBin, effBinN, ld_ptr, ld_pp, ld_elt, ia_own, ia_arr, el_1, el_N, load1K, faddrE, r_iaddr, sg_S, sg_c, sg_n, purL, pur, List.map, List.drop, List.take, List.length, List.foldl, List.append_eq, List.nil_append, List.cons_append, List.getD_cons_zero, List.getD_cons_succ, reduceIte, Nat.reduceEqDiff, Nat.reduceAdd, Nat.reduceLeDiff, true_and, and_true, Bool.not_true, Bool.not_false, Bool.and_true, Bool.true_and, Bool.and_self, reduceCtorEq, true_implies, false_implies, implies_true, decide_eq_true_eq, Option.map_some, fpOf, fpX, SOp.xs, oX, refs, refsL, dom, disj, List.all_nil, List.all_cons, List.contains_cons, List.contains_nil, Nat.reduceBEq, Bool.or_false, Bool.false_or, List.append_nil, Bool.not_false, Bool.not_true, List.forall_mem_cons, fm0, List.set, Nat.reduceLT, ne_eq, not_false_eq_true, not_true_eq_false
, ret1, ret1N, keep0, keep1, rf_int, rf_bool, rf_str, rf_sl, rf_agg, rf_tup, rfL0, rfL1, re_t, re_cN, re_L0, re_L1, ret_tup, ret_one, decide_true, AV.bool.injEq, AV.int.injEq, Nat.reduceLeDiff, Bool.true_eq, Bool.false_eq, decide_eq_true_eq, decide_eq_false_iff_not]
  repeat' (first | apply And.intro | intro _)
  all_goals (first | trivial | omega | (simp_all; done) | (simp_all; omega))
def t_l31In : List AV → Option (Prop × AV)
  | [.int .i64 n, .int .i64 lo, .int .i64 hi] => some (True, .bool (decide (lo ≤ n ∧ n ≤ hi)))
  | _ => none
theorem h_l31In : ∀ args p v, t_l31In args = some (p, v) → p → Contract P 118 args [] v [] ∧ noref v = true ∧ No99 v := by
  intro args p v h1 h2
  unfold t_l31In at h1
  split at h1
  · cases h1; exact ⟨c_l31In _ _ _ h2, rfl, trivial⟩
  · cases h1
theorem c_l21Min (a b : Int) (hp : True) : Contract P 83 [.int .i64 a, .int .i64 b] [] (.int .i64 (min a b)) [] := by
  refine fn_sound (Env.nil P) hm k_spec_l21Min (Nat.le_of_ble_eq_true rfl) rfl ?_
  unfold s_spec_l21Min
  simp only [w_skip, w_rg, w_rgd, w_seq, w_cond, w_block, w_loop, w_exit, w_ret, w_gh, w_rg0, w_rg1, w_rgT, w_rgF, w_run, w_psd, w_und, w_dr0, w_dr1, w_drT, w_drF, w_drRun, w_drPsd, w_drUnd, w_drKn, w_drKs, w_putK, w_trimK, w_thenN, w_thenE, w_thenR, w_scope, w_label, w_blkN, w_blkE, w_blkR, w_call, w_effK, brU_true, brU_false, brU_u, brU_not, brU_and, brU_or, brU_dec, brU_eq, brU_ne, br_true, br_false, br_not, br_and, br_or, br_dec, br_eq, br_ne, w_getE0, w_getE1, w_setE0, w_setE1, w_dropE0, w_dropE1, w_drop0, w_drop1, w_getM0, w_getM1, w_setM0, w_setM1, ev_v, ev_c, w_putS, w_putN, w_lit, w_apU0, w_apU1, w_apU2, w_trim, enumE0, enumE1, w_callWp, w_callA0, w_callA1, w_R0, w_R1, w_R2, w_T2, w_callL, w_callT, w_T1, w_T0, o_mv, o_newnil, o_pick, o_bin, o_binN, o_neg, o_not, o_eqB, o_eqS, o_conv, o_alloc, o_box, o_load1, o_loadN, o_store, o_nilck, o_faddr, o_field1, o_fieldN, o_iaddr, o_istr, o_slStr, o_slSl, o_lenS, o_lenL, o_mx, o_mn, o_ext, o_build, o_lit, o_litOwn, o_app, o_mk, o_mvfrz, l_int, l_bool, l_str, l_agg, l_sl, l_own, l_ptr, l_pp, i_int, i_bool, i_str, i_sl, i_own, i_ptr, i_pp, all0, all1, e_ok1, eff, effBin, effBinN, ld_ptr, ld_pp, ld_elt, ia_own, ia_arr, el_1, el_N, load1K, faddrE, r_iaddr, sg_S, sg_c, sg_n, purL, pur, List.map, List.drop, List.take, List.length, List.foldl, List.append_eq, List.nil_append, List.cons_append, List.getD_cons_zero, List.getD_cons_succ, reduceIte, Nat.reduceEqDiff, Nat.reduceAdd, Nat.reduceLeDiff, true_and, and_true, Bool.not_true, Bool.not_false, Bool.and_true, Bool.true_and, Bool.and_self, reduceCtorEq, true_implies, false_implies, implies_true, decide_eq_true_eq, Option.map_some, fpOf, fpX, SOp.xs, oX, refs, refsL, dom, disj, List.all_nil, List.all_cons, List.contains_cons, List.contains_nil, Nat.reduceBEq, Bool.or_false, Bool.false_or, List.append_nil, Bool.not_false, Bool.not_true, List.forall_mem_cons, fm0, List.set, Nat.reduceLT, ne_eq, not_false_eq_true, not_true_eq_false
, ret1, ret1N, keep0, keep1, rf_int, rf_bool, rf_str, rf_sl, rf_agg, rf_tup, rfL0, rfL1, re_t, re_cN, re_L0, re_L1, ret_tup, ret_one, decide_true, AV.bool.injEq, AV.int.injEq, Nat.reduceLeDiff, Bool.true_eq, Bool.false_eq, decide_eq_true_eq, decide_eq_false_iff_not]
  repeat' (first | apply And.intro | intro _)
  all_goals (first | trivial | omega | (simp_all; done) | (simp_all; omega))
def t_l21Min : List AV → Option (Prop × AV)
  | [.int .i64 a, .int .i64 b] => some (True, .int .i64 (min a b))
  | _ => none
theorem h_l21Min : ∀ args p v, t_l21Min args = some (p, v) → p → Contract P 83 args [] v [] ∧ noref v = true ∧ No99 v := by
  intro args p v h1 h2
  unfold t_l21Min at h1
  split at h1
  · cases h1; exact ⟨c_l21Min _ _ h2, rfl, trivial⟩
  · cases h1
theorem c_l21Max (a b : Int) (hp : True) : Contract P 84 [.int .i64 a, .int .i64 b] [] (.int .i64 (max a b)) [] := by
  refine fn_sound (Env.nil P) hm k_spec_l21Max (Nat.le_of_ble_eq_true rfl) rfl ?_
  unfold s_spec_l21Max
  simp only [w_skip, w_rg, w_rgd, w_seq, w_cond, w_block, w_loop, w_exit, w_ret, w_gh, w_rg0, w_rg1, w_rgT, w_rgF, w_run, w_psd, w_und, w_dr0, w_dr1, w_drT, w_drF, w_drRun, w_drPsd, w_drUnd, w_drKn, w_drKs, w_putK, w_trimK, w_thenN, w_thenE, w_thenR, w_scope, w_label, w_blkN, w_blkE, w_blkR, w_call, w_effK, brU_true, brU_false, brU_u, brU_not, brU_and, brU_or, brU_dec, brU_eq, brU_ne, br_true, br_false, br_not, br_and, br_or, br_dec, br_eq, br_ne, w_getE0, w_getE1, w_setE0, w_setE1, w_dropE0, w_dropE1, w_drop0, w_drop1, w_getM0, w_getM1, w_setM0, w_setM1, ev_v, ev_c, w_putS, w_putN, w_lit, w_apU0, w_apU1, w_apU2, w_trim, enumE0, enumE1, w_callWp, w_callA0, w_callA1, w_R0, w_R1, w_R2, w_T2, w_callL, w_callT, w_T1, w_T0, o_mv, o_newnil, o_pick, o_bin, o_binN, o_neg, o_not, o_eqB, o_eqS, o_conv, o_alloc, o_box, o_load1, o_loadN, o_store, o_nilck, o_faddr, o_field1, o_fieldN, o_iaddr, o_istr, o_slStr, o_slSl, o_lenS, o_lenL, o_mx, o_mn, o_ext, o_build, o_lit, o_litOwn, o_app, o_mk, o_mvfrz, l_int, l_bool, l_str, l_agg, l_sl, l_own, l_ptr, l_pp, i_int, i_bool, i_str, i_sl, i_own, i_ptr, i_pp, all0, all1, e_ok1, eff, effBin, effBinN, ld_ptr, ld_pp, ld_elt, ia_own, ia_arr, el_1, el_N, load1K, faddrE, r_iaddr, sg_S, sg_c, sg_n, purL, pur, List.map, List.drop, List.take, List.length, List.foldl, List.append_eq, List.nil_append, List.cons_append, List.getD_cons_zero, List.getD_cons_succ, reduceIte, Nat.reduceEqDiff, Nat.reduceAdd, Nat.reduceLeDiff, true_and, and_true, Bool.not_true, Bool.not_false, Bool.and_true, Bool.true_and, Bool.and_self, reduceCtorEq, true_implies, false_implies, implies_true, decide_eq_true_eq, Option.map_some, fpOf, fpX, SOp.xs, oX, refs, refsL, dom, disj, List.all_nil, List.all_cons, List.contains_cons, List.contains_nil, Nat.reduceBEq, Bool.or_false, Bool.false_or, List.append_nil, Bool.not_false, Bool.not_true, List.forall_mem_cons, fm0, List.set, Nat.reduceLT, ne_eq, not_false_eq_true, not_true_eq_false
, ret1, ret1N, keep0, keep1, rf_int, rf_bool, rf_str, rf_sl, rf_agg, rf_tup, rfL0, rfL1, re_t, re_cN, re_L0, re_L1, ret_tup, ret_one, decide_true, AV.bool.injEq, AV.int.injEq, Nat.reduceLeDiff, Bool.true_eq, Bool.false_eq, decide_eq_true_eq, decide_eq_false_iff_not]
  repeat' (first | apply And.intro | intro _)
  all_goals (first | trivial | omega | (simp_all; done) | (simp_all; omega))
def t_l21Max : List AV → Option (Prop × AV)
  | [.int .i64 a, .int .i64 b] => some (True, .int .i64 (max a b))
  | _ => none
theorem h_l21Max : ∀ args p v, t_l21Max args = some (p, v) → p → Contract P 84 args [] v [] ∧ noref v = true ∧ No99 v := by
  intro args p v h1 h2
  unfold t_l21Max at h1
  split at h1
  · cases h1; exact ⟨c_l21Max _ _ h2, rfl, trivial⟩
  · cases h1
theorem c_iKindOk (q s : Int) (hp : True) : Contract P 85 [.agg [.int .i64 q, .int .i64 s]] [] (.bool (decide (1 ≤ q ∧ q ≤ s ∧ s ≤ 50))) [] := by
  refine fn_sound (Env.nil P) hm k_impl_FlyKindOk (Nat.le_of_ble_eq_true rfl) rfl ?_
  unfold s_impl_FlyKindOk
  simp only [w_skip, w_rg, w_rgd, w_seq, w_cond, w_block, w_loop, w_exit, w_ret, w_gh, w_rg0, w_rg1, w_rgT, w_rgF, w_run, w_psd, w_und, w_dr0, w_dr1, w_drT, w_drF, w_drRun, w_drPsd, w_drUnd, w_drKn, w_drKs, w_putK, w_trimK, w_thenN, w_thenE, w_thenR, w_scope, w_label, w_blkN, w_blkE, w_blkR, w_call, w_effK, brU_true, brU_false, brU_u, brU_not, brU_and, brU_or, brU_dec, brU_eq, brU_ne, br_true, br_false, br_not, br_and, br_or, br_dec, br_eq, br_ne, w_getE0, w_getE1, w_setE0, w_setE1, w_dropE0, w_dropE1, w_drop0, w_drop1, w_getM0, w_getM1, w_setM0, w_setM1, ev_v, ev_c, w_putS, w_putN, w_lit, w_apU0, w_apU1, w_apU2, w_trim, enumE0, enumE1, w_callWp, w_callA0, w_callA1, w_R0, w_R1, w_R2, w_T2, w_callL, w_callT, w_T1, w_T0, o_mv, o_newnil, o_pick, o_bin, o_binN, o_neg, o_not, o_eqB, o_eqS, o_conv, o_alloc, o_box, o_load1, o_loadN, o_store, o_nilck, o_faddr, o_field1, o_fieldN, o_iaddr, o_istr, o_slStr, o_slSl, o_lenS, o_lenL, o_mx, o_mn, o_ext, o_build, o_lit, o_litOwn, o_app, o_mk, o_mvfrz, l_int, l_bool, l_str, l_agg, l_sl, l_own, l_ptr, l_pp, i_int, i_bool, i_str, i_sl, i_own, i_ptr, i_pp, all0, all1, e_ok1, eff, effBin, effBinN, ld_ptr, ld_pp, ld_elt, ia_own, ia_arr, el_1, el_N, load1K, faddrE, r_iaddr, sg_S, sg_c, sg_n, purL, pur, List.map, List.drop, List.take, List.length, List.foldl, List.append_eq, List.nil_append, List.cons_append, List.getD_cons_zero, List.getD_cons_succ, reduceIte, Nat.reduceEqDiff, Nat.reduceAdd, Nat.reduceLeDiff, true_and, and_true, Bool.not_true, Bool.not_false, Bool.and_true, Bool.true_and, Bool.and_self, reduceCtorEq, true_implies, false_implies, implies_true, decide_eq_true_eq, Option.map_some, fpOf, fpX, SOp.xs, oX, refs, refsL, dom, disj, List.all_nil, List.all_cons, List.contains_cons, List.contains_nil, Nat.reduceBEq, Bool.or_false, Bool.false_or, List.append_nil, Bool.not_false, Bool.not_true, List.forall_mem_cons, fm0, List.set, Nat.reduceLT, ne_eq, not_false_eq_true, not_true_eq_false
, ret1, ret1N, keep0, keep1, rf_int, rf_bool, rf_str, rf_sl, rf_agg, rf_tup, rfL0, rfL1, re_t, re_cN, re_L0, re_L1, ret_tup, ret_one, decide_true, AV.bool.injEq, AV.int.injEq, Nat.reduceLeDiff, Bool.true_eq, Bool.false_eq, decide_eq_true_eq, decide_eq_false_iff_not]
  repeat' (first | apply And.intro | intro _)
  all_goals (first | trivial | omega | (simp_all; done) | (simp_all; omega))
def t_iKindOk : List AV → Option (Prop × AV)
  | [.agg [.int .i64 q, .int .i64 s]] => some (True, .bool (decide (1 ≤ q ∧ q ≤ s ∧ s ≤ 50)))
  | _ => none
theorem h_iKindOk : ∀ args p v, t_iKindOk args = some (p, v) → p → Contract P 85 args [] v [] ∧ noref v = true ∧ No99 v := by
  intro args p v h1 h2
  unfold t_iKindOk at h1
  split at h1
  · cases h1; exact ⟨c_iKindOk _ _ h2, rfl, trivial⟩
  · cases h1
theorem c_sKindOk (q s : Int) (hp : True) : Contract P 88 [.agg [.int .i64 q, .int .i64 s]] [] (.bool (decide (1 ≤ q ∧ q ≤ s ∧ s ≤ 50))) [] := by
  refine fn_sound ((Env.nil P).add 57 t_l21In h_l21In) hm k_spec_FlyKindOk (Nat.le_of_ble_eq_true rfl) rfl ?_
  unfold s_spec_FlyKindOk
  simp only [w_skip, w_rg, w_rgd, w_seq, w_cond, w_block, w_loop, w_exit, w_ret, w_gh, w_rg0, w_rg1, w_rgT, w_rgF, w_run, w_psd, w_und, w_dr0, w_dr1, w_drT, w_drF, w_drRun, w_drPsd, w_drUnd, w_drKn, w_drKs, w_putK, w_trimK, w_thenN, w_thenE, w_thenR, w_scope, w_label, w_blkN, w_blkE, w_blkR, w_call, w_effK, brU_true, brU_false, brU_u, brU_not, brU_and, brU_or, brU_dec, brU_eq, brU_ne, br_true, br_false, br_not, br_and, br_or, br_dec, br_eq, br_ne, w_getE0, w_getE1, w_setE0, w_setE1, w_dropE0, w_dropE1, w_drop0, w_drop1, w_getM0, w_getM1, w_setM0, w_setM1, ev_v, ev_c, w_putS, w_putN, w_lit, w_apU0, w_apU1, w_apU2, w_trim, enumE0, enumE1, w_callWp, w_callA0, w_callA1, w_R0, w_R1, w_R2, w_T2, w_callL, w_callT, w_T1, w_T0, o_mv, o_newnil, o_pick, o_bin, o_binN, o_neg, o_not, o_eqB, o_eqS, o_conv, o_alloc, o_box, o_load1, o_loadN, o_store, o_nilck, o_faddr, o_field1, o_fieldN, o_iaddr, o_istr, o_slStr, o_slSl, o_lenS, o_lenL, o_mx, o_mn, o_ext, o_build, o_lit, o_litOwn, o_app, o_mk, o_mvfrz, l_int, l_bool, l_str, l_agg, l_sl, l_own, l_ptr, l_pp, i_int, i_bool, i_str, i_sl, i_own, i_ptr, i_pp, all0, all1, e_ok1, eff, effBin, effBinN, ld_ptr, ld_pp, ld_elt, ia_own, ia_arr, el_1, el_N, load1K, faddrE, r_iaddr, sg_S, sg_c, sg_n, purL, pur, List.map, List.drop, List.take, List.length, List.foldl, List.append_eq, List.nil_append, List.cons_append, List.getD_cons_zero, List.getD_cons_succ, reduceIte, Nat.reduceEqDiff, Nat.reduceAdd, Nat.reduceLeDiff, true_and, and_true, Bool.not_true, Bool.not_false, Bool.and_true, Bool.true_and, Bool.and_self, reduceCtorEq, true_implies, false_implies, implies_true, decide_eq_true_eq, Option.map_some, fpOf, fpX, SOp.xs, oX, refs, refsL, dom, disj, List.all_nil, List.all_cons, List.contains_cons, List.contains_nil, Nat.reduceBEq, Bool.or_false, Bool.false_or, List.append_nil, Bool.not_false, Bool.not_true, List.forall_mem_cons, fm0, List.set, Nat.reduceLT, ne_eq, not_false_eq_true, not_true_eq_false
, ret1, ret1N, keep0, keep1, rf_int, rf_bool, rf_str, rf_sl, rf_agg, rf_tup, rfL0, rfL1, re_t, re_cN, re_L0, re_L1, ret_tup, ret_one, decide_true, AV.bool.injEq, AV.int.injEq, Nat.reduceLeDiff, Bool.true_eq, Bool.false_eq, decide_eq_true_eq, decide_eq_false_iff_not, t_l21In]
  repeat' (first | apply And.intro | intro _)
  all_goals (first | trivial | omega | (simp_all; done) | (simp_all; omega))
def t_sKindOk : List AV → Option (Prop × AV)
  | [.agg [.int .i64 q, .int .i64 s]] => some (True, .bool (decide (1 ≤ q ∧ q ≤ s ∧ s ≤ 50)))
  | _ => none
theorem h_sKindOk : ∀ args p v, t_sKindOk args = some (p, v) → p → Contract P 88 args [] v [] ∧ noref v = true ∧ No99 v := by
  intro args p v h1 h2
  unfold t_sKindOk at h1
  split at h1
  · cases h1; exact ⟨c_sKindOk _ _ h2, rfl, trivial⟩
  · cases h1
theorem c_window (f b : Int) (hp : True) : Contract P 86 [.int .i64 f, .int .i64 b] [] (.bool (decide (0 ≤ f ∧ f ≤ b ∧ b ≤ 10000))) [] := by
  refine fn_sound (Env.nil P) hm k_impl_window (Nat.le_of_ble_eq_true rfl) rfl ?_
  unfold s_impl_window
  simp only [w_skip, w_rg, w_rgd, w_seq, w_cond, w_block, w_loop, w_exit, w_ret, w_gh, w_rg0, w_rg1, w_rgT, w_rgF, w_run, w_psd, w_und, w_dr0, w_dr1, w_drT, w_drF, w_drRun, w_drPsd, w_drUnd, w_drKn, w_drKs, w_putK, w_trimK, w_thenN, w_thenE, w_thenR, w_scope, w_label, w_blkN, w_blkE, w_blkR, w_call, w_effK, brU_true, brU_false, brU_u, brU_not, brU_and, brU_or, brU_dec, brU_eq, brU_ne, br_true, br_false, br_not, br_and, br_or, br_dec, br_eq, br_ne, w_getE0, w_getE1, w_setE0, w_setE1, w_dropE0, w_dropE1, w_drop0, w_drop1, w_getM0, w_getM1, w_setM0, w_setM1, ev_v, ev_c, w_putS, w_putN, w_lit, w_apU0, w_apU1, w_apU2, w_trim, enumE0, enumE1, w_callWp, w_callA0, w_callA1, w_R0, w_R1, w_R2, w_T2, w_callL, w_callT, w_T1, w_T0, o_mv, o_newnil, o_pick, o_bin, o_binN, o_neg, o_not, o_eqB, o_eqS, o_conv, o_alloc, o_box, o_load1, o_loadN, o_store, o_nilck, o_faddr, o_field1, o_fieldN, o_iaddr, o_istr, o_slStr, o_slSl, o_lenS, o_lenL, o_mx, o_mn, o_ext, o_build, o_lit, o_litOwn, o_app, o_mk, o_mvfrz, l_int, l_bool, l_str, l_agg, l_sl, l_own, l_ptr, l_pp, i_int, i_bool, i_str, i_sl, i_own, i_ptr, i_pp, all0, all1, e_ok1, eff, effBin, effBinN, ld_ptr, ld_pp, ld_elt, ia_own, ia_arr, el_1, el_N, load1K, faddrE, r_iaddr, sg_S, sg_c, sg_n, purL, pur, List.map, List.drop, List.take, List.length, List.foldl, List.append_eq, List.nil_append, List.cons_append, List.getD_cons_zero, List.getD_cons_succ, reduceIte, Nat.reduceEqDiff, Nat.reduceAdd, Nat.reduceLeDiff, true_and, and_true, Bool.not_true, Bool.not_false, Bool.and_true, Bool.true_and, Bool.and_self, reduceCtorEq, true_implies, false_implies, implies_true, decide_eq_true_eq, Option.map_some, fpOf, fpX, SOp.xs, oX, refs, refsL, dom, disj, List.all_nil, List.all_cons, List.contains_cons, List.contains_nil, Nat.reduceBEq, Bool.or_false, Bool.false_or, List.append_nil, Bool.not_false, Bool.not_true, List.forall_mem_cons, fm0, List.set, Nat.reduceLT, ne_eq, not_false_eq_true, not_true_eq_false
, ret1, ret1N, keep0, keep1, rf_int, rf_bool, rf_str, rf_sl, rf_agg, rf_tup, rfL0, rfL1, re_t, re_cN, re_L0, re_L1, ret_tup, ret_one, decide_true, AV.bool.injEq, AV.int.injEq, Nat.reduceLeDiff, Bool.true_eq, Bool.false_eq, decide_eq_true_eq, decide_eq_false_iff_not]
  repeat' (first | apply And.intro | intro _)
  all_goals (first | trivial | omega | (simp_all; done) | (simp_all; omega))
def t_window : List AV → Option (Prop × AV)
  | [.int .i64 f, .int .i64 b] => some (True, .bool (decide (0 ≤ f ∧ f ≤ b ∧ b ≤ 10000)))
  | _ => none
theorem h_window : ∀ args p v, t_window args = some (p, v) → p → Contract P 86 args [] v [] ∧ noref v = true ∧ No99 v := by
  intro args p v h1 h2
  unfold t_window at h1
  split at h1
  · cases h1; exact ⟨c_window _ _ h2, rfl, trivial⟩
  · cases h1
theorem c_dist (a b : Int) (hp : -9223372036854775808 ≤ a - b ∧ a - b ≤ 9223372036854775807 ∧ -9223372036854775808 ≤ b - a ∧ b - a ≤ 9223372036854775807) : Contract P 87 [.int .i64 a, .int .i64 b] [] (.int .i64 (max (a - b) (b - a))) [] := by
  refine fn_sound (Env.nil P) hm k_impl_dist (Nat.le_of_ble_eq_true rfl) rfl ?_
  unfold s_impl_dist
  simp only [w_skip, w_rg, w_rgd, w_seq, w_cond, w_block, w_loop, w_exit, w_ret, w_gh, w_rg0, w_rg1, w_rgT, w_rgF, w_run, w_psd, w_und, w_dr0, w_dr1, w_drT, w_drF, w_drRun, w_drPsd, w_drUnd, w_drKn, w_drKs, w_putK, w_trimK, w_thenN, w_thenE, w_thenR, w_scope, w_label, w_blkN, w_blkE, w_blkR, w_call, w_effK, brU_true, brU_false, brU_u, brU_not, brU_and, brU_or, brU_dec, brU_eq, brU_ne, br_true, br_false, br_not, br_and, br_or, br_dec, br_eq, br_ne, w_getE0, w_getE1, w_setE0, w_setE1, w_dropE0, w_dropE1, w_drop0, w_drop1, w_getM0, w_getM1, w_setM0, w_setM1, ev_v, ev_c, w_putS, w_putN, w_lit, w_apU0, w_apU1, w_apU2, w_trim, enumE0, enumE1, w_callWp, w_callA0, w_callA1, w_R0, w_R1, w_R2, w_T2, w_callL, w_callT, w_T1, w_T0, o_mv, o_newnil, o_pick, o_bin, o_binN, o_neg, o_not, o_eqB, o_eqS, o_conv, o_alloc, o_box, o_load1, o_loadN, o_store, o_nilck, o_faddr, o_field1, o_fieldN, o_iaddr, o_istr, o_slStr, o_slSl, o_lenS, o_lenL, o_mx, o_mn, o_ext, o_build, o_lit, o_litOwn, o_app, o_mk, o_mvfrz, l_int, l_bool, l_str, l_agg, l_sl, l_own, l_ptr, l_pp, i_int, i_bool, i_str, i_sl, i_own, i_ptr, i_pp, all0, all1, e_ok1, eff, effBin, effBinN, ld_ptr, ld_pp, ld_elt, ia_own, ia_arr, el_1, el_N, load1K, faddrE, r_iaddr, sg_S, sg_c, sg_n, purL, pur, List.map, List.drop, List.take, List.length, List.foldl, List.append_eq, List.nil_append, List.cons_append, List.getD_cons_zero, List.getD_cons_succ, reduceIte, Nat.reduceEqDiff, Nat.reduceAdd, Nat.reduceLeDiff, true_and, and_true, Bool.not_true, Bool.not_false, Bool.and_true, Bool.true_and, Bool.and_self, reduceCtorEq, true_implies, false_implies, implies_true, decide_eq_true_eq, Option.map_some, fpOf, fpX, SOp.xs, oX, refs, refsL, dom, disj, List.all_nil, List.all_cons, List.contains_cons, List.contains_nil, Nat.reduceBEq, Bool.or_false, Bool.false_or, List.append_nil, Bool.not_false, Bool.not_true, List.forall_mem_cons, fm0, List.set, Nat.reduceLT, ne_eq, not_false_eq_true, not_true_eq_false
, ret1, ret1N, keep0, keep1, rf_int, rf_bool, rf_str, rf_sl, rf_agg, rf_tup, rfL0, rfL1, re_t, re_cN, re_L0, re_L1, ret_tup, ret_one, decide_true, AV.bool.injEq, AV.int.injEq, Nat.reduceLeDiff, Bool.true_eq, Bool.false_eq, decide_eq_true_eq, decide_eq_false_iff_not]
  repeat' (first | apply And.intro | intro _)
  all_goals (first | trivial | omega | (simp_all; done) | (simp_all; omega))
def t_dist : List AV → Option (Prop × AV)
  | [.int .i64 a, .int .i64 b] => some (-9223372036854775808 ≤ a - b ∧ a - b ≤ 9223372036854775807 ∧ -9223372036854775808 ≤ b - a ∧ b - a ≤ 9223372036854775807, .int .i64 (max (a - b) (b - a)))
  | _ => none
theorem h_dist : ∀ args p v, t_dist args = some (p, v) → p → Contract P 87 args [] v [] ∧ noref v = true ∧ No99 v := by
  intro args p v h1 h2
  unfold t_dist at h1
  split at h1
  · cases h1; exact ⟨c_dist _ _ h2, rfl, trivial⟩
  · cases h1
structure Box6 where
  x : Int
  y : Int
  l : Int
  h : Int
  i : Int
  o : Int
  deriving Inhabited
def Box6.row (b : Box6) : List AV := [.int .i64 b.x, .int .i64 b.y, .int .i64 b.l, .int .i64 b.h, .int .i64 b.i, .int .i64 b.o]
def Box6.ok (b : Box6) : Prop := (0 ≤ b.x ∧ b.x ≤ 15) ∧ (0 ≤ b.y ∧ b.y ≤ 15) ∧ 0 ≤ b.l ∧ b.l ≤ b.h ∧ b.h ≤ 6 ∧ 0 ≤ b.i ∧ b.i ≤ b.o ∧ b.o ≤ 10000
instance (b : Box6) : Decidable b.ok := by unfold Box6.ok; infer_instance
structure Stp7 where
  x : Int
  y : Int
  l : Int
  h : Int
  f : Int
  b : Int
  hold : Bool
  deriving Inhabited
def Stp7.row (s : Stp7) : List AV := [.int .i64 s.x, .int .i64 s.y, .int .i64 s.l, .int .i64 s.h, .int .i64 s.f, .int .i64 s.b, .bool s.hold]
def Stp7.ok (s : Stp7) : Prop := (0 ≤ s.x ∧ s.x ≤ 15) ∧ (0 ≤ s.y ∧ s.y ≤ 15) ∧ 0 ≤ s.l ∧ s.l ≤ s.h ∧ s.h ≤ 6 ∧ 0 ≤ s.f ∧ s.f ≤ s.b ∧ s.b ≤ 10000
instance (s : Stp7) : Decidable s.ok := by unfold Stp7.ok; infer_instance
def Stp7.nb (a s : Stp7) : Prop := (-1 ≤ a.x - s.x ∧ a.x - s.x ≤ 1) ∧ (-1 ≤ a.y - s.y ∧ a.y - s.y ≤ 1) ∧ ¬ (a.x = s.x ∧ a.y = s.y) ∧ a.l ≤ s.h ∧ s.l ≤ a.h
instance (a s : Stp7) : Decidable (a.nb s) := by unfold Stp7.nb; infer_instance
theorem c_handBox (x y l h i o : Int) (hp : True) : Contract P 119 [.agg [.int .i64 x, .int .i64 y, .int .i64 l, .int .i64 h, .int .i64 i, .int .i64 o]] [] (.bool (decide (Box6.ok ⟨x, y, l, h, i, o⟩))) [] := by
  refine fn_sound ((Env.nil P).add 56 t_within h_within) hm k_impl_handBox (Nat.le_of_ble_eq_true rfl) rfl ?_
  unfold s_impl_handBox
  simp only [w_skip, w_rg, w_rgd, w_seq, w_cond, w_block, w_loop, w_exit, w_ret, w_gh, w_rg0, w_rg1, w_rgT, w_rgF, w_run, w_psd, w_und, w_dr0, w_dr1, w_drT, w_drF, w_drRun, w_drPsd, w_drUnd, w_drKn, w_drKs, w_putK, w_trimK, w_thenN, w_thenE, w_thenR, w_scope, w_label, w_blkN, w_blkE, w_blkR, w_call, w_effK, brU_true, brU_false, brU_u, brU_not, brU_and, brU_or, brU_dec, brU_eq, brU_ne, br_true, br_false, br_not, br_and, br_or, br_dec, br_eq, br_ne, w_getE0, w_getE1, w_setE0, w_setE1, w_dropE0, w_dropE1, w_drop0, w_drop1, w_getM0, w_getM1, w_setM0, w_setM1, ev_v, ev_c, w_putS, w_putN, w_lit, w_apU0, w_apU1, w_apU2, w_trim, enumE0, enumE1, w_callWp, w_callA0, w_callA1, w_R0, w_R1, w_R2, w_T2, w_callL, w_callT, w_T1, w_T0, o_mv, o_newnil, o_pick, o_bin, o_binN, o_neg, o_not, o_eqB, o_eqS, o_conv, o_alloc, o_box, o_load1, o_loadN, o_store, o_nilck, o_faddr, o_field1, o_fieldN, o_iaddr, o_istr, o_slStr, o_slSl, o_lenS, o_lenL, o_mx, o_mn, o_ext, o_build, o_lit, o_litOwn, o_app, o_mk, o_mvfrz, l_int, l_bool, l_str, l_agg, l_sl, l_own, l_ptr, l_pp, i_int, i_bool, i_str, i_sl, i_own, i_ptr, i_pp, all0, all1, e_ok1, eff, effBin, effBinN, ld_ptr, ld_pp, ld_elt, ia_own, ia_arr, el_1, el_N, load1K, faddrE, r_iaddr, sg_S, sg_c, sg_n, purL, pur, List.map, List.drop, List.take, List.length, List.foldl, List.append_eq, List.nil_append, List.cons_append, List.getD_cons_zero, List.getD_cons_succ, reduceIte, Nat.reduceEqDiff, Nat.reduceAdd, Nat.reduceLeDiff, true_and, and_true, Bool.not_true, Bool.not_false, Bool.and_true, Bool.true_and, Bool.and_self, reduceCtorEq, true_implies, false_implies, implies_true, decide_eq_true_eq, Option.map_some, fpOf, fpX, SOp.xs, oX, refs, refsL, dom, disj, List.all_nil, List.all_cons, List.contains_cons, List.contains_nil, Nat.reduceBEq, Bool.or_false, Bool.false_or, List.append_nil, Bool.not_false, Bool.not_true, List.forall_mem_cons, fm0, List.set, Nat.reduceLT, ne_eq, not_false_eq_true, not_true_eq_false
, ret1, ret1N, keep0, keep1, rf_int, rf_bool, rf_str, rf_sl, rf_agg, rf_tup, rfL0, rfL1, re_t, re_cN, re_L0, re_L1, ret_tup, ret_one, decide_true, AV.bool.injEq, AV.int.injEq, Nat.reduceLeDiff, Bool.true_eq, Bool.false_eq, decide_eq_true_eq, decide_eq_false_iff_not, t_within]
  simp only [Box6.ok]
  repeat' (first | apply And.intro | intro _)
  all_goals (first | trivial | omega | (simp_all; done) | (simp_all; omega))
def t_handBox : List AV → Option (Prop × AV)
  | [.agg [.int .i64 x, .int .i64 y, .int .i64 l, .int .i64 h, .int .i64 i, .int .i64 o]] => some (True, .bool (decide (Box6.ok ⟨x, y, l, h, i, o⟩)))
  | _ => none
theorem h_handBox : ∀ args p v, t_handBox args = some (p, v) → p → Contract P 119 args [] v [] ∧ noref v = true ∧ No99 v := by
  intro args p v h1 h2
  unfold t_handBox at h1
  split at h1
  · cases h1; exact ⟨c_handBox _ _ _ _ _ _ h2, rfl, trivial⟩
  · cases h1
theorem c_l31BoxOk (x y l h i o : Int) (hp : True) : Contract P 104 [.agg [.int .i64 x, .int .i64 y, .int .i64 l, .int .i64 h, .int .i64 i, .int .i64 o]] [] (.bool (decide (Box6.ok ⟨x, y, l, h, i, o⟩))) [] := by
  refine fn_sound ((Env.nil P).add 118 t_l31In h_l31In) hm k_spec_l31BoxOk (Nat.le_of_ble_eq_true rfl) rfl ?_
  unfold s_spec_l31BoxOk
  simp only [w_skip, w_rg, w_rgd, w_seq, w_cond, w_block, w_loop, w_exit, w_ret, w_gh, w_rg0, w_rg1, w_rgT, w_rgF, w_run, w_psd, w_und, w_dr0, w_dr1, w_drT, w_drF, w_drRun, w_drPsd, w_drUnd, w_drKn, w_drKs, w_putK, w_trimK, w_thenN, w_thenE, w_thenR, w_scope, w_label, w_blkN, w_blkE, w_blkR, w_call, w_effK, brU_true, brU_false, brU_u, brU_not, brU_and, brU_or, brU_dec, brU_eq, brU_ne, br_true, br_false, br_not, br_and, br_or, br_dec, br_eq, br_ne, w_getE0, w_getE1, w_setE0, w_setE1, w_dropE0, w_dropE1, w_drop0, w_drop1, w_getM0, w_getM1, w_setM0, w_setM1, ev_v, ev_c, w_putS, w_putN, w_lit, w_apU0, w_apU1, w_apU2, w_trim, enumE0, enumE1, w_callWp, w_callA0, w_callA1, w_R0, w_R1, w_R2, w_T2, w_callL, w_callT, w_T1, w_T0, o_mv, o_newnil, o_pick, o_bin, o_binN, o_neg, o_not, o_eqB, o_eqS, o_conv, o_alloc, o_box, o_load1, o_loadN, o_store, o_nilck, o_faddr, o_field1, o_fieldN, o_iaddr, o_istr, o_slStr, o_slSl, o_lenS, o_lenL, o_mx, o_mn, o_ext, o_build, o_lit, o_litOwn, o_app, o_mk, o_mvfrz, l_int, l_bool, l_str, l_agg, l_sl, l_own, l_ptr, l_pp, i_int, i_bool, i_str, i_sl, i_own, i_ptr, i_pp, all0, all1, e_ok1, eff, effBin, effBinN, ld_ptr, ld_pp, ld_elt, ia_own, ia_arr, el_1, el_N, load1K, faddrE, r_iaddr, sg_S, sg_c, sg_n, purL, pur, List.map, List.drop, List.take, List.length, List.foldl, List.append_eq, List.nil_append, List.cons_append, List.getD_cons_zero, List.getD_cons_succ, reduceIte, Nat.reduceEqDiff, Nat.reduceAdd, Nat.reduceLeDiff, true_and, and_true, Bool.not_true, Bool.not_false, Bool.and_true, Bool.true_and, Bool.and_self, reduceCtorEq, true_implies, false_implies, implies_true, decide_eq_true_eq, Option.map_some, fpOf, fpX, SOp.xs, oX, refs, refsL, dom, disj, List.all_nil, List.all_cons, List.contains_cons, List.contains_nil, Nat.reduceBEq, Bool.or_false, Bool.false_or, List.append_nil, Bool.not_false, Bool.not_true, List.forall_mem_cons, fm0, List.set, Nat.reduceLT, ne_eq, not_false_eq_true, not_true_eq_false
, ret1, ret1N, keep0, keep1, rf_int, rf_bool, rf_str, rf_sl, rf_agg, rf_tup, rfL0, rfL1, re_t, re_cN, re_L0, re_L1, ret_tup, ret_one, decide_true, AV.bool.injEq, AV.int.injEq, Nat.reduceLeDiff, Bool.true_eq, Bool.false_eq, decide_eq_true_eq, decide_eq_false_iff_not, t_l31In]
  simp only [Box6.ok]
  repeat' (first | apply And.intro | intro _)
  all_goals (first | trivial | omega | (simp_all; done) | (simp_all; omega))
def t_l31BoxOk : List AV → Option (Prop × AV)
  | [.agg [.int .i64 x, .int .i64 y, .int .i64 l, .int .i64 h, .int .i64 i, .int .i64 o]] => some (True, .bool (decide (Box6.ok ⟨x, y, l, h, i, o⟩)))
  | _ => none
theorem h_l31BoxOk : ∀ args p v, t_l31BoxOk args = some (p, v) → p → Contract P 104 args [] v [] ∧ noref v = true ∧ No99 v := by
  intro args p v h1 h2
  unfold t_l31BoxOk at h1
  split at h1
  · cases h1; exact ⟨c_l31BoxOk _ _ _ _ _ _ h2, rfl, trivial⟩
  · cases h1
theorem c_l22StepOk (x y l h f b : Int) (hd : Bool) (hp : True) : Contract P 89 [.agg [.int .i64 x, .int .i64 y, .int .i64 l, .int .i64 h, .int .i64 f, .int .i64 b, .bool hd]] [] (.bool (decide (Stp7.ok ⟨x, y, l, h, f, b, hd⟩))) [] := by
  refine fn_sound ((Env.nil P).add 57 t_l21In h_l21In) hm k_spec_l22StepOk (Nat.le_of_ble_eq_true rfl) rfl ?_
  unfold s_spec_l22StepOk
  simp only [w_skip, w_rg, w_rgd, w_seq, w_cond, w_block, w_loop, w_exit, w_ret, w_gh, w_rg0, w_rg1, w_rgT, w_rgF, w_run, w_psd, w_und, w_dr0, w_dr1, w_drT, w_drF, w_drRun, w_drPsd, w_drUnd, w_drKn, w_drKs, w_putK, w_trimK, w_thenN, w_thenE, w_thenR, w_scope, w_label, w_blkN, w_blkE, w_blkR, w_call, w_effK, brU_true, brU_false, brU_u, brU_not, brU_and, brU_or, brU_dec, brU_eq, brU_ne, br_true, br_false, br_not, br_and, br_or, br_dec, br_eq, br_ne, w_getE0, w_getE1, w_setE0, w_setE1, w_dropE0, w_dropE1, w_drop0, w_drop1, w_getM0, w_getM1, w_setM0, w_setM1, ev_v, ev_c, w_putS, w_putN, w_lit, w_apU0, w_apU1, w_apU2, w_trim, enumE0, enumE1, w_callWp, w_callA0, w_callA1, w_R0, w_R1, w_R2, w_T2, w_callL, w_callT, w_T1, w_T0, o_mv, o_newnil, o_pick, o_bin, o_binN, o_neg, o_not, o_eqB, o_eqS, o_conv, o_alloc, o_box, o_load1, o_loadN, o_store, o_nilck, o_faddr, o_field1, o_fieldN, o_iaddr, o_istr, o_slStr, o_slSl, o_lenS, o_lenL, o_mx, o_mn, o_ext, o_build, o_lit, o_litOwn, o_app, o_mk, o_mvfrz, l_int, l_bool, l_str, l_agg, l_sl, l_own, l_ptr, l_pp, i_int, i_bool, i_str, i_sl, i_own, i_ptr, i_pp, all0, all1, e_ok1, eff, effBin, effBinN, ld_ptr, ld_pp, ld_elt, ia_own, ia_arr, el_1, el_N, load1K, faddrE, r_iaddr, sg_S, sg_c, sg_n, purL, pur, List.map, List.drop, List.take, List.length, List.foldl, List.append_eq, List.nil_append, List.cons_append, List.getD_cons_zero, List.getD_cons_succ, reduceIte, Nat.reduceEqDiff, Nat.reduceAdd, Nat.reduceLeDiff, true_and, and_true, Bool.not_true, Bool.not_false, Bool.and_true, Bool.true_and, Bool.and_self, reduceCtorEq, true_implies, false_implies, implies_true, decide_eq_true_eq, Option.map_some, fpOf, fpX, SOp.xs, oX, refs, refsL, dom, disj, List.all_nil, List.all_cons, List.contains_cons, List.contains_nil, Nat.reduceBEq, Bool.or_false, Bool.false_or, List.append_nil, Bool.not_false, Bool.not_true, List.forall_mem_cons, fm0, List.set, Nat.reduceLT, ne_eq, not_false_eq_true, not_true_eq_false
, ret1, ret1N, keep0, keep1, rf_int, rf_bool, rf_str, rf_sl, rf_agg, rf_tup, rfL0, rfL1, re_t, re_cN, re_L0, re_L1, ret_tup, ret_one, decide_true, AV.bool.injEq, AV.int.injEq, Nat.reduceLeDiff, Bool.true_eq, Bool.false_eq, decide_eq_true_eq, decide_eq_false_iff_not, t_l21In]
  simp only [Stp7.ok]
  repeat' (first | apply And.intro | intro _)
  all_goals (first | trivial | omega | (simp_all; done) | (simp_all; omega))
def t_l22StepOk : List AV → Option (Prop × AV)
  | [.agg [.int .i64 x, .int .i64 y, .int .i64 l, .int .i64 h, .int .i64 f, .int .i64 b, .bool hd]] => some (True, .bool (decide (Stp7.ok ⟨x, y, l, h, f, b, hd⟩)))
  | _ => none
theorem h_l22StepOk : ∀ args p v, t_l22StepOk args = some (p, v) → p → Contract P 89 args [] v [] ∧ noref v = true ∧ No99 v := by
  intro args p v h1 h2
  unfold t_l22StepOk at h1
  split at h1
  · cases h1; exact ⟨c_l22StepOk _ _ _ _ _ _ _ h2, rfl, trivial⟩
  · cases h1
theorem c_l22Next (x y l h f b : Int) (hd : Bool) (x' y' l' h' f' b' : Int) (hd' : Bool) (hp : (0 ≤ x ∧ x ≤ 15) ∧ (0 ≤ y ∧ y ≤ 15) ∧ (0 ≤ x' ∧ x' ≤ 15) ∧ (0 ≤ y' ∧ y' ≤ 15)) : Contract P 90 [.agg [.int .i64 x, .int .i64 y, .int .i64 l, .int .i64 h, .int .i64 f, .int .i64 b, .bool hd], .agg [.int .i64 x', .int .i64 y', .int .i64 l', .int .i64 h', .int .i64 f', .int .i64 b', .bool hd']] [] (.bool (decide (Stp7.nb ⟨x, y, l, h, f, b, hd⟩ ⟨x', y', l', h', f', b', hd'⟩))) [] := by
  refine fn_sound ((Env.nil P).add 57 t_l21In h_l21In) hm k_spec_l22Next (Nat.le_of_ble_eq_true rfl) rfl ?_
  unfold s_spec_l22Next
  simp only [w_skip, w_rg, w_rgd, w_seq, w_cond, w_block, w_loop, w_exit, w_ret, w_gh, w_rg0, w_rg1, w_rgT, w_rgF, w_run, w_psd, w_und, w_dr0, w_dr1, w_drT, w_drF, w_drRun, w_drPsd, w_drUnd, w_drKn, w_drKs, w_putK, w_trimK, w_thenN, w_thenE, w_thenR, w_scope, w_label, w_blkN, w_blkE, w_blkR, w_call, w_effK, brU_true, brU_false, brU_u, brU_not, brU_and, brU_or, brU_dec, brU_eq, brU_ne, br_true, br_false, br_not, br_and, br_or, br_dec, br_eq, br_ne, w_getE0, w_getE1, w_setE0, w_setE1, w_dropE0, w_dropE1, w_drop0, w_drop1, w_getM0, w_getM1, w_setM0, w_setM1, ev_v, ev_c, w_putS, w_putN, w_lit, w_apU0, w_apU1, w_apU2, w_trim, enumE0, enumE1, w_callWp, w_callA0, w_callA1, w_R0, w_R1, w_R2, w_T2, w_callL, w_callT, w_T1, w_T0, o_mv, o_newnil, o_pick, o_bin, o_binN, o_neg, o_not, o_eqB, o_eqS, o_conv, o_alloc, o_box, o_load1, o_loadN, o_store, o_nilck, o_faddr, o_field1, o_fieldN, o_iaddr, o_istr, o_slStr, o_slSl, o_lenS, o_lenL, o_mx, o_mn, o_ext, o_build, o_lit, o_litOwn, o_app, o_mk, o_mvfrz, l_int, l_bool, l_str, l_agg, l_sl, l_own, l_ptr, l_pp, i_int, i_bool, i_str, i_sl, i_own, i_ptr, i_pp, all0, all1, e_ok1, eff, effBin, effBinN, ld_ptr, ld_pp, ld_elt, ia_own, ia_arr, el_1, el_N, load1K, faddrE, r_iaddr, sg_S, sg_c, sg_n, purL, pur, List.map, List.drop, List.take, List.length, List.foldl, List.append_eq, List.nil_append, List.cons_append, List.getD_cons_zero, List.getD_cons_succ, reduceIte, Nat.reduceEqDiff, Nat.reduceAdd, Nat.reduceLeDiff, true_and, and_true, Bool.not_true, Bool.not_false, Bool.and_true, Bool.true_and, Bool.and_self, reduceCtorEq, true_implies, false_implies, implies_true, decide_eq_true_eq, Option.map_some, fpOf, fpX, SOp.xs, oX, refs, refsL, dom, disj, List.all_nil, List.all_cons, List.contains_cons, List.contains_nil, Nat.reduceBEq, Bool.or_false, Bool.false_or, List.append_nil, Bool.not_false, Bool.not_true, List.forall_mem_cons, fm0, List.set, Nat.reduceLT, ne_eq, not_false_eq_true, not_true_eq_false
, ret1, ret1N, keep0, keep1, rf_int, rf_bool, rf_str, rf_sl, rf_agg, rf_tup, rfL0, rfL1, re_t, re_cN, re_L0, re_L1, ret_tup, ret_one, decide_true, AV.bool.injEq, AV.int.injEq, Nat.reduceLeDiff, Bool.true_eq, Bool.false_eq, decide_eq_true_eq, decide_eq_false_iff_not, t_l21In]
  simp only [Stp7.nb]
  repeat' (first | apply And.intro | intro _)
  all_goals (first | trivial | omega | (simp_all; done) | (simp_all; omega))
def t_l22Next : List AV → Option (Prop × AV)
  | [.agg [.int .i64 x, .int .i64 y, .int .i64 l, .int .i64 h, .int .i64 f, .int .i64 b, .bool hd], .agg [.int .i64 x', .int .i64 y', .int .i64 l', .int .i64 h', .int .i64 f', .int .i64 b', .bool hd']] => some ((0 ≤ x ∧ x ≤ 15) ∧ (0 ≤ y ∧ y ≤ 15) ∧ (0 ≤ x' ∧ x' ≤ 15) ∧ (0 ≤ y' ∧ y' ≤ 15), .bool (decide (Stp7.nb ⟨x, y, l, h, f, b, hd⟩ ⟨x', y', l', h', f', b', hd'⟩)))
  | _ => none
theorem h_l22Next : ∀ args p v, t_l22Next args = some (p, v) → p → Contract P 90 args [] v [] ∧ noref v = true ∧ No99 v := by
  intro args p v h1 h2
  unfold t_l22Next at h1
  split at h1
  · cases h1; exact ⟨c_l22Next _ _ _ _ _ _ _ _ _ _ _ _ _ _ h2, rfl, trivial⟩
  · cases h1
end Go.Ve

namespace Go.Ve
open Go.Proofs
set_option linter.unusedSimpArgs false
set_option linter.unusedVariables false
set_option maxRecDepth 100000
def unStp : List AV → Stp7
  | [.int _ x, .int _ y, .int _ l, .int _ h, .int _ f, .int _ b, .bool hd] => ⟨x, y, l, h, f, b, hd⟩
  | _ => default
theorem un_stp (l : List Stp7) : (l.map Stp7.row).map unStp = l := by
  rw [List.map_map]; exact List.map_id'' (fun s => rfl) l
theorem stp_eta (s : Stp7) : (⟨s.x, s.y, s.l, s.h, s.f, s.b, s.hold⟩ : Stp7) = s := (rfl)
theorem toNat_pred (i : Nat) : ((i : Int) - 1).toNat = i - 1 := by omega
def pathOk (q s : Int) (l : List Stp7) (f b : Int) : Prop :=
  (1 ≤ q ∧ q ≤ s ∧ s ≤ 50) ∧ (1 ≤ l.length ∧ l.length ≤ 40) ∧ (0 ≤ f ∧ f ≤ b ∧ b ≤ 10000) ∧ ∀ i, i < l.length → (l.getD i default).ok ∧ (0 < i → Stp7.nb (l.getD (i - 1) default) (l.getD i default))
instance (q s : Int) (l : List Stp7) (f b : Int) : Decidable (pathOk q s l f b) := by unfold pathOk; infer_instance
def F_sPathOk (q s : Int) (t : Nat) (l : List Stp7) (f b : Int) (i : Nat) : St := ⟨[(1, .ptr 101 0), (3, .int .i64 i)], [(101, .box [.int .i64 q, .int .i64 s, .sl t 7 (l.map Stp7.row), .int .i64 f, .int .i64 b])]⟩
def G_sPathOk (l : List Stp7) (i : Nat) : Prop := i ≤ l.length ∧ ∀ j, j < i → (l.getD j default).ok ∧ (0 < j → Stp7.nb (l.getD (j - 1) default) (l.getD j default))
theorem c_sPathOk (q s : Int) (t : Nat) (l : List Stp7) (f b : Int) : Contract P 33 [.agg [.int .i64 q, .int .i64 s, .sl t 7 (l.map Stp7.row), .int .i64 f, .int .i64 b]] [] (.bool (decide (pathOk q s l f b))) [] := by
  refine fn_sound (((((Env.nil P).add 57 t_l21In h_l21In).add 88 t_sKindOk h_sKindOk).add 89 t_l22StepOk h_l22StepOk).add 90 t_l22Next h_l22Next) hm k_spec_FlyPathOk (Nat.le_of_ble_eq_true rfl) rfl ?_
  unfold s_spec_FlyPathOk
  simp only [w_skip, w_rg, w_rgd, w_seq, w_cond, w_block, w_loop, w_exit, w_ret, w_gh, w_rg0, w_rg1, w_rgT, w_rgF, w_run, w_psd, w_und, w_dr0, w_dr1, w_drT, w_drF, w_drRun, w_drPsd, w_drUnd, w_drKn, w_drKs, w_putK, w_trimK, w_thenN, w_thenE, w_thenR, w_scope, w_label, w_blkN, w_blkE, w_blkR, w_call, w_effK, brU_true, brU_false, brU_u, brU_not, brU_and, brU_or, brU_dec, brU_eq, brU_ne, br_true, br_false, br_not, br_and, br_or, br_dec, br_eq, br_ne, w_getE0, w_getE1, w_setE0, w_setE1, w_dropE0, w_dropE1, w_drop0, w_drop1, w_getM0, w_getM1, w_setM0, w_setM1, ev_v, ev_c, w_putS, w_putN, w_lit, w_apU0, w_apU1, w_apU2, w_trim, enumE0, enumE1, w_callWp, w_callA0, w_callA1, w_R0, w_R1, w_R2, w_T2, w_callL, w_callT, w_T1, w_T0, o_mv, o_newnil, o_pick, o_bin, o_binN, o_neg, o_not, o_eqB, o_eqS, o_conv, o_alloc, o_box, o_load1, o_loadN, o_store, o_nilck, o_faddr, o_field1, o_fieldN, o_iaddr, o_istr, o_slStr, o_slSl, o_lenS, o_lenL, o_mx, o_mn, o_ext, o_build, o_lit, o_litOwn, o_app, o_mk, o_mvfrz, l_int, l_bool, l_str, l_agg, l_sl, l_own, l_ptr, l_pp, i_int, i_bool, i_str, i_sl, i_own, i_ptr, i_pp, all0, all1, e_ok1, eff, effBin, effBinN, ld_ptr, ld_pp, ld_elt, ia_own, ia_arr, el_1, el_N, load1K, faddrE, r_iaddr, sg_S, sg_c, sg_n, purL, pur, List.map, List.drop, List.take, List.length, List.foldl, List.append_eq, List.nil_append, List.cons_append, List.getD_cons_zero, List.getD_cons_succ, reduceIte, Nat.reduceEqDiff, Nat.reduceAdd, Nat.reduceLeDiff, true_and, and_true, Bool.not_true, Bool.not_false, Bool.and_true, Bool.true_and, Bool.and_self, reduceCtorEq, true_implies, false_implies, implies_true, decide_eq_true_eq, Option.map_some, fpOf, fpX, SOp.xs, oX, refs, refsL, dom, disj, List.all_nil, List.all_cons, List.contains_cons, List.contains_nil, Nat.reduceBEq, Bool.or_false, Bool.false_or, List.append_nil, Bool.not_false, Bool.not_true, List.forall_mem_cons, fm0, List.set, Nat.reduceLT, ne_eq, not_false_eq_true, not_true_eq_false
, ret1, ret1N, keep0, keep1, rf_int, rf_bool, rf_str, rf_sl, rf_agg, rf_tup, rfL0, rfL1, re_t, re_cN, re_L0, re_L1, ret_tup, ret_one, decide_true, AV.bool.injEq, AV.int.injEq, Nat.reduceLeDiff, Bool.true_eq, Bool.false_eq, decide_eq_true_eq, decide_eq_false_iff_not, t_l21In, t_sKindOk, t_l22StepOk, t_l22Next, List.length_map, Stp7.row, stp_eta, Int.toNat_natCast, toNat_pred]
  refine ⟨fun h1 => ⟨fun h2 => ⟨fun h3 => ⟨fun h4 => ?_, fun h4 => ?_⟩, fun h3 => ?_⟩, fun h2 => ?_⟩, fun h1 => ?_⟩
  · intro h; have := h.2.2.1; omega
  · refine loop_of (F_sPathOk q s t l f b) (G_sPathOk l) (fun i => l.length - i) 0 ⟨⟨.inr rfl, .inr rfl, trivial⟩, ⟨rfl, trivial⟩, rfl, rfl⟩ ⟨Nat.zero_le _, fun j hj => by omega⟩ ?_
    intro i hg
    unfold l_spec_FlyPathOk_0 F_sPathOk
    simp only [w_skip, w_rg, w_rgd, w_seq, w_cond, w_block, w_loop, w_exit, w_ret, w_gh, w_rg0, w_rg1, w_rgT, w_rgF, w_run, w_psd, w_und, w_dr0, w_dr1, w_drT, w_drF, w_drRun, w_drPsd, w_drUnd, w_drKn, w_drKs, w_putK, w_trimK, w_thenN, w_thenE, w_thenR, w_scope, w_label, w_blkN, w_blkE, w_blkR, w_call, w_effK, brU_true, brU_false, brU_u, brU_not, brU_and, brU_or, brU_dec, brU_eq, brU_ne, br_true, br_false, br_not, br_and, br_or, br_dec, br_eq, br_ne, w_getE0, w_getE1, w_setE0, w_setE1, w_dropE0, w_dropE1, w_drop0, w_drop1, w_getM0, w_getM1, w_setM0, w_setM1, ev_v, ev_c, w_putS, w_putN, w_lit, w_apU0, w_apU1, w_apU2, w_trim, enumE0, enumE1, w_callWp, w_callA0, w_callA1, w_R0, w_R1, w_R2, w_T2, w_callL, w_callT, w_T1, w_T0, o_mv, o_newnil, o_pick, o_bin, o_binN, o_neg, o_not, o_eqB, o_eqS, o_conv, o_alloc, o_box, o_load1, o_loadN, o_store, o_nilck, o_faddr, o_field1, o_fieldN, o_iaddr, o_istr, o_slStr, o_slSl, o_lenS, o_lenL, o_mx, o_mn, o_ext, o_build, o_lit, o_litOwn, o_app, o_mk, o_mvfrz, l_int, l_bool, l_str, l_agg, l_sl, l_own, l_ptr, l_pp, i_int, i_bool, i_str, i_sl, i_own, i_ptr, i_pp, all0, all1, e_ok1, eff, effBin, effBinN, ld_ptr, ld_pp, ld_elt, ia_own, ia_arr, el_1, el_N, load1K, faddrE, r_iaddr, sg_S, sg_c, sg_n, purL, pur, List.map, List.drop, List.take, List.length, List.foldl, List.append_eq, List.nil_append, List.cons_append, List.getD_cons_zero, List.getD_cons_succ, reduceIte, Nat.reduceEqDiff, Nat.reduceAdd, Nat.reduceLeDiff, true_and, and_true, Bool.not_true, Bool.not_false, Bool.and_true, Bool.true_and, Bool.and_self, reduceCtorEq, true_implies, false_implies, implies_true, decide_eq_true_eq, Option.map_some, fpOf, fpX, SOp.xs, oX, refs, refsL, dom, disj, List.all_nil, List.all_cons, List.contains_cons, List.contains_nil, Nat.reduceBEq, Bool.or_false, Bool.false_or, List.append_nil, Bool.not_false, Bool.not_true, List.forall_mem_cons, fm0, List.set, Nat.reduceLT, ne_eq, not_false_eq_true, not_true_eq_false
, ret1, ret1N, keep0, keep1, rf_int, rf_bool, rf_str, rf_sl, rf_agg, rf_tup, rfL0, rfL1, re_t, re_cN, re_L0, re_L1, ret_tup, ret_one, decide_true, AV.bool.injEq, AV.int.injEq, Nat.reduceLeDiff, Bool.true_eq, Bool.false_eq, decide_eq_true_eq, decide_eq_false_iff_not, t_l21In, t_sKindOk, t_l22StepOk, t_l22Next, List.length_map, Stp7.row, stp_eta, Int.toNat_natCast, toNat_pred]
    have hok : ∀ {j}, j < i → (l.getD j default).ok := fun h => (hg.2 _ h).1
    have go : ∀ (_ : i < l.length) (_ : (l.getD i default).ok) (_ : 0 < i → Stp7.nb (l.getD (i - 1) default) (l.getD i default)), loopK (fun m st => ∃ a, st = F_sPathOk q s t l f b a ∧ G_sPathOk l a ∧ l.length - a = m) (l.length - i) ⟨[(1, .ptr 101 0), (3, .int .i64 ((i : Int) + 1))], [(101, .box [.int .i64 q, .int .i64 s, .sl t 7 (l.map Stp7.row), .int .i64 f, .int .i64 b])]⟩ := by
      intro h1 h2 h3
      refine loopK_of (i + 1) ⟨⟨.inr rfl, .inr rfl, trivial⟩, ⟨rfl, trivial⟩, rfl, rfl⟩ ⟨h1, fun j hj => ?_⟩ (by omega)
      by_cases e : j = i
      · subst e; exact ⟨h2, h3⟩
      · exact hg.2 j (by omega)
    refine ⟨fun h5 => ⟨by omega, h5, fun h6 => ⟨fun h7 => ⟨by omega, by omega, by omega, by omega, h5, ⟨?_, fun h8 => ⟨by omega, go (by omega) h6 fun _ => h8⟩, fun h8 hp => h8 ((hp.2.2.2 i (by omega)).2 (by omega))⟩⟩, fun h7 => ⟨by omega, go (by omega) h6 fun h => absurd h (by omega)⟩⟩, fun h6 hp => h6 (hp.2.2.2 i (by omega)).1⟩, fun h5 => ?_⟩
    · have h9 := hok (j := i - 1) (by omega)
      exact ⟨h9.1, h9.2.1, h6.1, h6.2.1⟩
    · exact ⟨h1, by omega, by omega, fun j hj => hg.2 j (by have := hg.1; omega)⟩
  · intro h; have := h.2.2.1; omega
  · intro h; have := h.2.1; omega
  · intro h; have := h.1; omega
end Go.Ve

namespace Go.Ve
open Go.Proofs
set_option linter.unusedSimpArgs false
set_option linter.unusedVariables false
set_option maxRecDepth 100000
def F_iPathOk (q s : Int) (t : Nat) (l : List Stp7) (f b : Int) (i : Nat) : St := ⟨[(1, .ptr 101 0), (26, .sl t 7 (l.map Stp7.row)), (27, .int .i64 l.length), (28, .int .i64 i)], [(101, .box [.int .i64 q, .int .i64 s, .sl t 7 (l.map Stp7.row), .int .i64 f, .int .i64 b])]⟩
theorem c_iPathOk (q s : Int) (t : Nat) (l : List Stp7) (f b : Int) : Contract P 32 [.agg [.int .i64 q, .int .i64 s, .sl t 7 (l.map Stp7.row), .int .i64 f, .int .i64 b]] [] (.bool (decide (pathOk q s l f b))) [] := by
  refine fn_sound (((((Env.nil P).add 56 t_within h_within).add 85 t_iKindOk h_iKindOk).add 86 t_window h_window).add 87 t_dist h_dist) hm k_impl_FlyPathOk (Nat.le_of_ble_eq_true rfl) rfl ?_
  unfold s_impl_FlyPathOk
  simp only [w_skip, w_rg, w_rgd, w_seq, w_cond, w_block, w_loop, w_exit, w_ret, w_gh, w_rg0, w_rg1, w_rgT, w_rgF, w_run, w_psd, w_und, w_dr0, w_dr1, w_drT, w_drF, w_drRun, w_drPsd, w_drUnd, w_drKn, w_drKs, w_putK, w_trimK, w_thenN, w_thenE, w_thenR, w_scope, w_label, w_blkN, w_blkE, w_blkR, w_call, w_effK, brU_true, brU_false, brU_u, brU_not, brU_and, brU_or, brU_dec, brU_eq, brU_ne, br_true, br_false, br_not, br_and, br_or, br_dec, br_eq, br_ne, w_getE0, w_getE1, w_setE0, w_setE1, w_dropE0, w_dropE1, w_drop0, w_drop1, w_getM0, w_getM1, w_setM0, w_setM1, ev_v, ev_c, w_putS, w_putN, w_lit, w_apU0, w_apU1, w_apU2, w_trim, enumE0, enumE1, w_callWp, w_callA0, w_callA1, w_R0, w_R1, w_R2, w_T2, w_callL, w_callT, w_T1, w_T0, o_mv, o_newnil, o_pick, o_bin, o_binN, o_neg, o_not, o_eqB, o_eqS, o_conv, o_alloc, o_box, o_load1, o_loadN, o_store, o_nilck, o_faddr, o_field1, o_fieldN, o_iaddr, o_istr, o_slStr, o_slSl, o_lenS, o_lenL, o_mx, o_mn, o_ext, o_build, o_lit, o_litOwn, o_app, o_mk, o_mvfrz, l_int, l_bool, l_str, l_agg, l_sl, l_own, l_ptr, l_pp, i_int, i_bool, i_str, i_sl, i_own, i_ptr, i_pp, all0, all1, e_ok1, eff, effBin, effBinN, ld_ptr, ld_pp, ld_elt, ia_own, ia_arr, el_1, el_N, load1K, faddrE, r_iaddr, sg_S, sg_c, sg_n, purL, pur, List.map, List.drop, List.take, List.length, List.foldl, List.append_eq, List.nil_append, List.cons_append, List.getD_cons_zero, List.getD_cons_succ, reduceIte, Nat.reduceEqDiff, Nat.reduceAdd, Nat.reduceLeDiff, true_and, and_true, Bool.not_true, Bool.not_false, Bool.and_true, Bool.true_and, Bool.and_self, reduceCtorEq, true_implies, false_implies, implies_true, decide_eq_true_eq, Option.map_some, fpOf, fpX, SOp.xs, oX, refs, refsL, dom, disj, List.all_nil, List.all_cons, List.contains_cons, List.contains_nil, Nat.reduceBEq, Bool.or_false, Bool.false_or, List.append_nil, Bool.not_false, Bool.not_true, List.forall_mem_cons, fm0, List.set, Nat.reduceLT, ne_eq, not_false_eq_true, not_true_eq_false
, ret1, ret1N, keep0, keep1, rf_int, rf_bool, rf_str, rf_sl, rf_agg, rf_tup, rfL0, rfL1, re_t, re_cN, re_L0, re_L1, ret_tup, ret_one, decide_true, AV.bool.injEq, AV.int.injEq, Nat.reduceLeDiff, Bool.true_eq, Bool.false_eq, decide_eq_true_eq, decide_eq_false_iff_not, t_within, t_iKindOk, t_window, t_dist, List.length_map, Stp7.row, stp_eta, Int.toNat_natCast, toNat_pred]
  refine ⟨fun h1 => ⟨fun h2 => ⟨fun h3 => ?_, fun h3 => ?_⟩, fun h2 => ?_⟩, fun h1 => ?_⟩
  · refine loop_of (F_iPathOk q s t l f b) (G_sPathOk l) (fun i => l.length - i) 0 ⟨⟨.inr rfl, .inr rfl, .inr rfl, .inr rfl, trivial⟩, ⟨rfl, trivial⟩, rfl, rfl⟩ ⟨Nat.zero_le _, fun j hj => by omega⟩ ?_
    intro i hg
    unfold l_impl_FlyPathOk_0 F_iPathOk
    simp only [w_skip, w_rg, w_rgd, w_seq, w_cond, w_block, w_loop, w_exit, w_ret, w_gh, w_rg0, w_rg1, w_rgT, w_rgF, w_run, w_psd, w_und, w_dr0, w_dr1, w_drT, w_drF, w_drRun, w_drPsd, w_drUnd, w_drKn, w_drKs, w_putK, w_trimK, w_thenN, w_thenE, w_thenR, w_scope, w_label, w_blkN, w_blkE, w_blkR, w_call, w_effK, brU_true, brU_false, brU_u, brU_not, brU_and, brU_or, brU_dec, brU_eq, brU_ne, br_true, br_false, br_not, br_and, br_or, br_dec, br_eq, br_ne, w_getE0, w_getE1, w_setE0, w_setE1, w_dropE0, w_dropE1, w_drop0, w_drop1, w_getM0, w_getM1, w_setM0, w_setM1, ev_v, ev_c, w_putS, w_putN, w_lit, w_apU0, w_apU1, w_apU2, w_trim, enumE0, enumE1, w_callWp, w_callA0, w_callA1, w_R0, w_R1, w_R2, w_T2, w_callL, w_callT, w_T1, w_T0, o_mv, o_newnil, o_pick, o_bin, o_binN, o_neg, o_not, o_eqB, o_eqS, o_conv, o_alloc, o_box, o_load1, o_loadN, o_store, o_nilck, o_faddr, o_field1, o_fieldN, o_iaddr, o_istr, o_slStr, o_slSl, o_lenS, o_lenL, o_mx, o_mn, o_ext, o_build, o_lit, o_litOwn, o_app, o_mk, o_mvfrz, l_int, l_bool, l_str, l_agg, l_sl, l_own, l_ptr, l_pp, i_int, i_bool, i_str, i_sl, i_own, i_ptr, i_pp, all0, all1, e_ok1, eff, effBin, effBinN, ld_ptr, ld_pp, ld_elt, ia_own, ia_arr, el_1, el_N, load1K, faddrE, r_iaddr, sg_S, sg_c, sg_n, purL, pur, List.map, List.drop, List.take, List.length, List.foldl, List.append_eq, List.nil_append, List.cons_append, List.getD_cons_zero, List.getD_cons_succ, reduceIte, Nat.reduceEqDiff, Nat.reduceAdd, Nat.reduceLeDiff, true_and, and_true, Bool.not_true, Bool.not_false, Bool.and_true, Bool.true_and, Bool.and_self, reduceCtorEq, true_implies, false_implies, implies_true, decide_eq_true_eq, Option.map_some, fpOf, fpX, SOp.xs, oX, refs, refsL, dom, disj, List.all_nil, List.all_cons, List.contains_cons, List.contains_nil, Nat.reduceBEq, Bool.or_false, Bool.false_or, List.append_nil, Bool.not_false, Bool.not_true, List.forall_mem_cons, fm0, List.set, Nat.reduceLT, ne_eq, not_false_eq_true, not_true_eq_false
, ret1, ret1N, keep0, keep1, rf_int, rf_bool, rf_str, rf_sl, rf_agg, rf_tup, rfL0, rfL1, re_t, re_cN, re_L0, re_L1, ret_tup, ret_one, decide_true, AV.bool.injEq, AV.int.injEq, Nat.reduceLeDiff, Bool.true_eq, Bool.false_eq, decide_eq_true_eq, decide_eq_false_iff_not, t_within, t_iKindOk, t_window, t_dist, List.length_map, Stp7.row, stp_eta, Int.toNat_natCast, toNat_pred]
    have A : pathOk q s l f b → i < l.length → (l.getD i default).ok ∧ (0 < i → Stp7.nb (l.getD (i - 1) default) (l.getD i default)) := fun hp h => hp.2.2.2 i h
    have B : 0 < i → (l.getD (i - 1) default).ok := fun h => (hg.2 (i - 1) (by omega)).1
    have N : i < l.length → (l.getD i default).ok → (0 < i → Stp7.nb (l.getD (i - 1) default) (l.getD i default)) → G_sPathOk l (i + 1) := fun h2 h3 h4 => ⟨h2, fun j hj => by
      by_cases e : j = i
      · subst e; exact ⟨h3, h4⟩
      · exact hg.2 j (by omega)⟩
    have Z : ¬ (i : Int) < l.length → pathOk q s l f b := fun h => ⟨h1, by omega, h3, fun j hj => hg.2 j (by have := hg.1; omega)⟩
    generalize hP : pathOk q s l f b = PP at *
    have hlen := hg.1
    simp only [Stp7.ok, Stp7.nb] at A B N
    repeat' (first | apply And.intro | intro _)
    all_goals first
      | omega
      | (exact Z (by assumption))
      | (refine loopK_of (i + 1) ⟨⟨.inr rfl, .inr rfl, .inr rfl, .inr rfl, trivial⟩, ⟨rfl, trivial⟩, rfl, rfl⟩ (N (by omega) (by omega) (by omega)) (by omega))
      | (rename_i hp; have := A hp (by omega); omega)
  · intro h; have := h.2.2.1; omega
  · intro h; have := h.2.1; omega
  · intro h; have := h.1; omega
end Go.Ve

namespace Go.Ve
open Go.Proofs
set_option linter.unusedSimpArgs false
set_option linter.unusedVariables false
set_option maxRecDepth 100000
structure Path5 where
  q : Int
  s : Int
  l : List Stp7
  f : Int
  b : Int
  deriving Inhabited
def Path5.av (p : Path5) : AV := .agg [.int .i64 p.q, .int .i64 p.s, .sl 0 7 (p.l.map Stp7.row), .int .i64 p.f, .int .i64 p.b]
def lapStep (l : List Box6) (i : Nat) : Stp7 := ⟨(l.getD i default).x, (l.getD i default).y, (l.getD i default).l, (l.getD i default).h, (l.getD i default).i, if 0 < i then min (l.getD i default).o ((l.getD (i - 1) default).o + 1) else (l.getD i default).o, false⟩
def lapF (l : List Box6) (i : Nat) : Int := if 0 < i then (l.getD (i - 1) default).i else 0
def lapB (l : List Box6) (i : Nat) : Int := if 0 < i then (l.getD (i - 1) default).o + 1 else 0
def lapTo (q s : Int) (l : List Box6) (i : Nat) : Path5 := ⟨q, s, (List.range i).map (lapStep l), lapF l i, lapB l i⟩
def lapOk (q s : Int) (l : List Box6) : Prop := (∀ i, i < l.length → (l.getD i default).ok) ∧ pathOk q s (lapTo q s l l.length).l (lapF l l.length) (lapB l l.length)
instance (q s : Int) (l : List Box6) : Decidable (lapOk q s l) := by unfold lapOk; infer_instance
def lapPath (q s : Int) (l : List Box6) : Path5 := if lapOk q s l then lapTo q s l l.length else ⟨0, 0, [], 0, 0⟩
theorem min_if (a b : Int) : (if b < a then b else a) = min a b := by omega
theorem box_eta (s : Box6) : (⟨s.x, s.y, s.l, s.h, s.i, s.o⟩ : Box6) = s := (rfl)
def t_sPathOk : List AV → Option (Prop × AV)
  | [.agg [.int .i64 q, .int .i64 s, .sl _ 7 xs, .int .i64 f, .int .i64 b]] => some ((xs.map unStp).map Stp7.row = xs, .bool (decide (pathOk q s (xs.map unStp) f b)))
  | _ => none
theorem h_sPathOk : ∀ args p v, t_sPathOk args = some (p, v) → p → Contract P 33 args [] v [] ∧ noref v = true ∧ No99 v := by
  intro args p v h1 h2
  unfold t_sPathOk at h1
  split at h1
  · rename_i q s t xs f b
    cases h1
    have := c_sPathOk q s t (xs.map unStp) f b
    rw [h2] at this
    exact ⟨this, rfl, trivial⟩
  · cases h1
theorem h_iPathOk : ∀ args p v, t_sPathOk args = some (p, v) → p → Contract P 32 args [] v [] ∧ noref v = true ∧ No99 v := by
  intro args p v h1 h2
  unfold t_sPathOk at h1
  split at h1
  · rename_i q s t xs f b
    cases h1
    have := c_iPathOk q s t (xs.map unStp) f b
    rw [h2] at this
    exact ⟨this, rfl, trivial⟩
  · cases h1
abbrev t_iPathOk := t_sPathOk
def F_sLapPath (q s : Int) (t : Nat) (l : List Box6) (i : Nat) : St := ⟨[(1, .sl t 6 (l.map Box6.row)), (4, .ptr 104 0), (5, .ptr 105 0), (6, .int .i64 l.length), (7, .int .i64 i)],
  [(104, .box [.int .i64 0, .int .i64 0, .sl 0 7 [], .int .i64 0, .int .i64 0]), (105, .box [.int .i64 q, .int .i64 s, .own 157 i 0 i, .int .i64 (lapF l i), .int .i64 (lapB l i)]), (157, .arr 64 i 7 (((List.range i).map (lapStep l)).map Stp7.row))]⟩
def G_LapPath (l : List Box6) (i : Nat) : Prop := i ≤ l.length ∧ ∀ j, j < i → (l.getD j default).ok
theorem c_sLapPath (q s : Int) (t : Nat) (l : List Box6) (hl : l.length ≤ 1048576) : Contract P 63 [.agg [.int .i64 q, .int .i64 s], .sl t 6 (l.map Box6.row)] [] (lapPath q s l).av [] := by
  refine fn_sound ((((Env.nil P).add 104 t_l31BoxOk h_l31BoxOk).add 83 t_l21Min h_l21Min).add 33 t_sPathOk h_sPathOk) hm k_spec_LapPath (Nat.le_of_ble_eq_true rfl) rfl ?_
  unfold s_spec_LapPath
  simp only [w_skip, w_rg, w_rgd, w_seq, w_cond, w_block, w_loop, w_exit, w_ret, w_gh, w_rg0, w_rg1, w_rgT, w_rgF, w_run, w_psd, w_und, w_dr0, w_dr1, w_drT, w_drF, w_drRun, w_drPsd, w_drUnd, w_drKn, w_drKs, w_putK, w_trimK, w_thenN, w_thenE, w_thenR, w_scope, w_label, w_blkN, w_blkE, w_blkR, w_call, w_effK, brU_true, brU_false, brU_u, brU_not, brU_and, brU_or, brU_dec, brU_eq, brU_ne, br_true, br_false, br_not, br_and, br_or, br_dec, br_eq, br_ne, w_getE0, w_getE1, w_setE0, w_setE1, w_dropE0, w_dropE1, w_drop0, w_drop1, w_getM0, w_getM1, w_setM0, w_setM1, ev_v, ev_c, w_putS, w_putN, w_lit, w_apU0, w_apU1, w_apU2, w_trim, enumE0, enumE1, w_callWp, w_callA0, w_callA1, w_R0, w_R1, w_R2, w_T2, w_callL, w_callT, w_T1, w_T0, o_mv, o_newnil, o_pick, o_bin, o_binN, o_neg, o_not, o_eqB, o_eqS, o_conv, o_alloc, o_box, o_load1, o_loadN, o_store, o_nilck, o_faddr, o_field1, o_fieldN, o_iaddr, o_istr, o_slStr, o_slSl, o_lenS, o_lenL, o_mx, o_mn, o_ext, o_build, o_lit, o_litOwn, o_app, o_mk, o_mvfrz, l_int, l_bool, l_str, l_agg, l_sl, l_own, l_ptr, l_pp, i_int, i_bool, i_str, i_sl, i_own, i_ptr, i_pp, all0, all1, e_ok1, eff, effBin, effBinN, ld_ptr, ld_pp, ld_elt, ia_own, ia_arr, el_1, el_N, load1K, faddrE, r_iaddr, sg_S, sg_c, sg_n, purL, pur, List.map, List.drop, List.take, List.length, List.foldl, List.append_eq, List.nil_append, List.cons_append, List.getD_cons_zero, List.getD_cons_succ, reduceIte, Nat.reduceEqDiff, Nat.reduceAdd, Nat.reduceLeDiff, true_and, and_true, Bool.not_true, Bool.not_false, Bool.and_true, Bool.true_and, Bool.and_self, reduceCtorEq, true_implies, false_implies, implies_true, decide_eq_true_eq, Option.map_some, fpOf, fpX, SOp.xs, oX, refs, refsL, dom, disj, List.all_nil, List.all_cons, List.contains_cons, List.contains_nil, Nat.reduceBEq, Bool.or_false, Bool.false_or, List.append_nil, Bool.not_false, Bool.not_true, List.forall_mem_cons, fm0, List.set, Nat.reduceLT, ne_eq, not_false_eq_true, not_true_eq_false
, ret1, ret1N, keep0, keep1, rf_int, rf_bool, rf_str, rf_sl, rf_agg, rf_tup, rfL0, rfL1, re_t, re_cN, re_L0, re_L1, ret_tup, ret_one, decide_true, AV.bool.injEq, AV.int.injEq, Nat.reduceLeDiff, Bool.true_eq, Bool.false_eq, decide_eq_true_eq, decide_eq_false_iff_not, t_l31BoxOk, t_l21Min, t_sPathOk, List.length_map, Box6.row, box_eta, Int.toNat_natCast, toNat_pred, ghost, appE, rowsOf, un_stp, take_rr, flatOk, noref]


  refine loop_of (F_sLapPath q s t l) (G_LapPath l) (fun i => l.length - i) 0 ⟨⟨.inr rfl, .inr rfl, .inr rfl, .inr rfl, .inr rfl, trivial⟩, ⟨rfl, rfl, rfl, trivial⟩, rfl, rfl⟩ ⟨Nat.zero_le _, fun j hj => by omega⟩ ?_
  intro i hg
  unfold l_spec_LapPath_0 F_sLapPath
  simp only [w_skip, w_rg, w_rgd, w_seq, w_cond, w_block, w_loop, w_exit, w_ret, w_gh, w_rg0, w_rg1, w_rgT, w_rgF, w_run, w_psd, w_und, w_dr0, w_dr1, w_drT, w_drF, w_drRun, w_drPsd, w_drUnd, w_drKn, w_drKs, w_putK, w_trimK, w_thenN, w_thenE, w_thenR, w_scope, w_label, w_blkN, w_blkE, w_blkR, w_call, w_effK, brU_true, brU_false, brU_u, brU_not, brU_and, brU_or, brU_dec, brU_eq, brU_ne, br_true, br_false, br_not, br_and, br_or, br_dec, br_eq, br_ne, w_getE0, w_getE1, w_setE0, w_setE1, w_dropE0, w_dropE1, w_drop0, w_drop1, w_getM0, w_getM1, w_setM0, w_setM1, ev_v, ev_c, w_putS, w_putN, w_lit, w_apU0, w_apU1, w_apU2, w_trim, enumE0, enumE1, w_callWp, w_callA0, w_callA1, w_R0, w_R1, w_R2, w_T2, w_callL, w_callT, w_T1, w_T0, o_mv, o_newnil, o_pick, o_bin, o_binN, o_neg, o_not, o_eqB, o_eqS, o_conv, o_alloc, o_box, o_load1, o_loadN, o_store, o_nilck, o_faddr, o_field1, o_fieldN, o_iaddr, o_istr, o_slStr, o_slSl, o_lenS, o_lenL, o_mx, o_mn, o_ext, o_build, o_lit, o_litOwn, o_app, o_mk, o_mvfrz, l_int, l_bool, l_str, l_agg, l_sl, l_own, l_ptr, l_pp, i_int, i_bool, i_str, i_sl, i_own, i_ptr, i_pp, all0, all1, e_ok1, eff, effBin, effBinN, ld_ptr, ld_pp, ld_elt, ia_own, ia_arr, el_1, el_N, load1K, faddrE, r_iaddr, sg_S, sg_c, sg_n, purL, pur, List.map, List.drop, List.take, List.length, List.foldl, List.append_eq, List.nil_append, List.cons_append, List.getD_cons_zero, List.getD_cons_succ, reduceIte, Nat.reduceEqDiff, Nat.reduceAdd, Nat.reduceLeDiff, true_and, and_true, Bool.not_true, Bool.not_false, Bool.and_true, Bool.true_and, Bool.and_self, reduceCtorEq, true_implies, false_implies, implies_true, decide_eq_true_eq, Option.map_some, fpOf, fpX, SOp.xs, oX, refs, refsL, dom, disj, List.all_nil, List.all_cons, List.contains_cons, List.contains_nil, Nat.reduceBEq, Bool.or_false, Bool.false_or, List.append_nil, Bool.not_false, Bool.not_true, List.forall_mem_cons, fm0, List.set, Nat.reduceLT, ne_eq, not_false_eq_true, not_true_eq_false
, ret1, ret1N, keep0, keep1, rf_int, rf_bool, rf_str, rf_sl, rf_agg, rf_tup, rfL0, rfL1, re_t, re_cN, re_L0, re_L1, ret_tup, ret_one, decide_true, AV.bool.injEq, AV.int.injEq, Nat.reduceLeDiff, Bool.true_eq, Bool.false_eq, decide_eq_true_eq, decide_eq_false_iff_not, t_l31BoxOk, t_l21Min, t_sPathOk, List.length_map, Box6.row, box_eta, Int.toNat_natCast, toNat_pred, ghost, appE, rowsOf, un_stp, take_rr, flatOk, noref]

  have e1 : lapF l (i + 1) = (l.getD i default).i := by simp [lapF]
  have e2 : lapB l (i + 1) = (l.getD i default).o + 1 := by simp [lapB]
  have e3 : List.map Stp7.row (List.map (lapStep l) (List.range (i + 1))) = List.map Stp7.row (List.map (lapStep l) (List.range i)) ++ [(lapStep l i).row] := by simp [List.range_succ]
  have hb : ∀ j, j < i → (l.getD j default).ok := hg.2
  have e4 : l.length = i → (lapOk q s l ↔ pathOk q s (List.map (lapStep l) (List.range i)) (lapF l i) (lapB l i)) := by
    intro e
    unfold lapOk lapTo
    rw [e]
    exact ⟨fun h => h.2, fun h => ⟨hb, h⟩⟩
  have N : (l.getD i default).ok → i < l.length → G_LapPath l (i + 1) := fun h h2 => ⟨h2, fun j hj => by
    by_cases e : j = i
    · subst e; exact h
    · exact hb j (by omega)⟩
  refine ⟨fun h1 => ⟨by omega, h1, fun h2 => ⟨fun h3 => ?_, fun h3 => ?_⟩, fun h2 => ?_⟩, fun h1 => ?_⟩
  · have h4 := hb (i - 1) (by omega)
    have h5 := h2
    unfold Box6.ok at h4 h5
    refine ⟨by omega, by omega, by omega, by omega, by omega, by omega, by omega, ?_⟩
    refine loopK_of (i + 1) ⟨⟨.inr rfl, .inr rfl, .inr rfl, .inr rfl, .inr rfl, trivial⟩, ?_, rfl, rfl⟩ (N h2 (by omega)) (by omega)
    simp only [F_sLapPath, e1, e2, e3]
    refine ⟨rfl, rfl, ?_, trivial⟩
    simp only [w_getM1, reduceIte, Nat.reduceEqDiff, lapStep, Stp7.row, if_pos (show 0 < i by omega), Int.min_comm]
  · have h5 := h2
    unfold Box6.ok at h5
    refine ⟨by omega, by omega, by omega, ?_⟩
    refine loopK_of (i + 1) ⟨⟨.inr rfl, .inr rfl, .inr rfl, .inr rfl, .inr rfl, trivial⟩, ?_, rfl, rfl⟩ (N h2 (by omega)) (by omega)
    simp only [F_sLapPath, e1, e2, e3]
    refine ⟨rfl, rfl, ?_, trivial⟩
    simp only [w_getM1, reduceIte, Nat.reduceEqDiff, lapStep, Stp7.row, if_neg (show ¬ 0 < i by omega)]
  · have : lapPath q s l = ⟨0, 0, [], 0, 0⟩ := if_neg fun h => h2 (h.1 i (by omega))
    rw [this]; exact ⟨rfl, rfl⟩
  · have hi : i = l.length := by have := hg.1; omega
    subst hi
    have e5 := e4 rfl
    refine ⟨fun h2 => ?_, fun h2 => ?_⟩
    · have : lapPath q s l = lapTo q s l l.length := if_pos (e5.2 h2)
      rw [this]; exact ⟨rfl, rfl⟩
    · have : lapPath q s l = ⟨0, 0, [], 0, 0⟩ := if_neg fun h => h2 (e5.1 h)
      rw [this]; exact ⟨rfl, rfl⟩

def F_iLapPath (q s : Int) (t : Nat) (l : List Box6) (i : Nat) : St := ⟨[(1, .sl t 6 (l.map Box6.row)), (4, .ptr 104 0), (5, .ptr 105 0), (11, .sl t 6 (l.map Box6.row)), (12, .int .i64 l.length), (13, .int .i64 i)],
  [(104, .box [.int .i64 0, .int .i64 0, .sl 0 7 [], .int .i64 0, .int .i64 0]), (105, .box [.int .i64 q, .int .i64 s, .own 150 i 0 i, .int .i64 (lapF l i), .int .i64 (lapB l i)]), (150, .arr 64 i 7 (((List.range i).map (lapStep l)).map Stp7.row))]⟩
theorem c_iLapPath (q s : Int) (t : Nat) (l : List Box6) (hl : l.length ≤ 1048576) : Contract P 108 [.agg [.int .i64 q, .int .i64 s], .sl t 6 (l.map Box6.row)] [] (lapPath q s l).av [] := by
  refine fn_sound (((Env.nil P).add 119 t_handBox h_handBox).add 32 t_iPathOk h_iPathOk) hm k_impl_LapPath (Nat.le_of_ble_eq_true rfl) rfl ?_
  unfold s_impl_LapPath
  simp only [w_skip, w_rg, w_rgd, w_seq, w_cond, w_block, w_loop, w_exit, w_ret, w_gh, w_rg0, w_rg1, w_rgT, w_rgF, w_run, w_psd, w_und, w_dr0, w_dr1, w_drT, w_drF, w_drRun, w_drPsd, w_drUnd, w_drKn, w_drKs, w_putK, w_trimK, w_thenN, w_thenE, w_thenR, w_scope, w_label, w_blkN, w_blkE, w_blkR, w_call, w_effK, brU_true, brU_false, brU_u, brU_not, brU_and, brU_or, brU_dec, brU_eq, brU_ne, br_true, br_false, br_not, br_and, br_or, br_dec, br_eq, br_ne, w_getE0, w_getE1, w_setE0, w_setE1, w_dropE0, w_dropE1, w_drop0, w_drop1, w_getM0, w_getM1, w_setM0, w_setM1, ev_v, ev_c, w_putS, w_putN, w_lit, w_apU0, w_apU1, w_apU2, w_trim, enumE0, enumE1, w_callWp, w_callA0, w_callA1, w_R0, w_R1, w_R2, w_T2, w_callL, w_callT, w_T1, w_T0, o_mv, o_newnil, o_pick, o_bin, o_binN, o_neg, o_not, o_eqB, o_eqS, o_conv, o_alloc, o_box, o_load1, o_loadN, o_store, o_nilck, o_faddr, o_field1, o_fieldN, o_iaddr, o_istr, o_slStr, o_slSl, o_lenS, o_lenL, o_mx, o_mn, o_ext, o_build, o_lit, o_litOwn, o_app, o_mk, o_mvfrz, l_int, l_bool, l_str, l_agg, l_sl, l_own, l_ptr, l_pp, i_int, i_bool, i_str, i_sl, i_own, i_ptr, i_pp, all0, all1, e_ok1, eff, effBin, effBinN, ld_ptr, ld_pp, ld_elt, ia_own, ia_arr, el_1, el_N, load1K, faddrE, r_iaddr, sg_S, sg_c, sg_n, purL, pur, List.map, List.drop, List.take, List.length, List.foldl, List.append_eq, List.nil_append, List.cons_append, List.getD_cons_zero, List.getD_cons_succ, reduceIte, Nat.reduceEqDiff, Nat.reduceAdd, Nat.reduceLeDiff, true_and, and_true, Bool.not_true, Bool.not_false, Bool.and_true, Bool.true_and, Bool.and_self, reduceCtorEq, true_implies, false_implies, implies_true, decide_eq_true_eq, Option.map_some, fpOf, fpX, SOp.xs, oX, refs, refsL, dom, disj, List.all_nil, List.all_cons, List.contains_cons, List.contains_nil, Nat.reduceBEq, Bool.or_false, Bool.false_or, List.append_nil, Bool.not_false, Bool.not_true, List.forall_mem_cons, fm0, List.set, Nat.reduceLT, ne_eq, not_false_eq_true, not_true_eq_false
, ret1, ret1N, keep0, keep1, rf_int, rf_bool, rf_str, rf_sl, rf_agg, rf_tup, rfL0, rfL1, re_t, re_cN, re_L0, re_L1, ret_tup, ret_one, decide_true, AV.bool.injEq, AV.int.injEq, Nat.reduceLeDiff, Bool.true_eq, Bool.false_eq, decide_eq_true_eq, decide_eq_false_iff_not, t_handBox, t_iPathOk, List.length_map, Box6.row, box_eta, Int.toNat_natCast, toNat_pred, ghost, appE, rowsOf, un_stp, take_rr, flatOk, noref, min_if, t_sPathOk]


  refine loop_of (F_iLapPath q s t l) (G_LapPath l) (fun i => l.length - i) 0 ⟨⟨.inr rfl, .inr rfl, .inr rfl, .inr rfl, .inr rfl, .inr rfl, trivial⟩, ⟨rfl, rfl, rfl, trivial⟩, rfl, rfl⟩ ⟨Nat.zero_le _, fun j hj => by omega⟩ ?_
  intro i hg
  unfold l_impl_LapPath_0 F_iLapPath
  simp only [w_skip, w_rg, w_rgd, w_seq, w_cond, w_block, w_loop, w_exit, w_ret, w_gh, w_rg0, w_rg1, w_rgT, w_rgF, w_run, w_psd, w_und, w_dr0, w_dr1, w_drT, w_drF, w_drRun, w_drPsd, w_drUnd, w_drKn, w_drKs, w_putK, w_trimK, w_thenN, w_thenE, w_thenR, w_scope, w_label, w_blkN, w_blkE, w_blkR, w_call, w_effK, brU_true, brU_false, brU_u, brU_not, brU_and, brU_or, brU_dec, brU_eq, brU_ne, br_true, br_false, br_not, br_and, br_or, br_dec, br_eq, br_ne, w_getE0, w_getE1, w_setE0, w_setE1, w_dropE0, w_dropE1, w_drop0, w_drop1, w_getM0, w_getM1, w_setM0, w_setM1, ev_v, ev_c, w_putS, w_putN, w_lit, w_apU0, w_apU1, w_apU2, w_trim, enumE0, enumE1, w_callWp, w_callA0, w_callA1, w_R0, w_R1, w_R2, w_T2, w_callL, w_callT, w_T1, w_T0, o_mv, o_newnil, o_pick, o_bin, o_binN, o_neg, o_not, o_eqB, o_eqS, o_conv, o_alloc, o_box, o_load1, o_loadN, o_store, o_nilck, o_faddr, o_field1, o_fieldN, o_iaddr, o_istr, o_slStr, o_slSl, o_lenS, o_lenL, o_mx, o_mn, o_ext, o_build, o_lit, o_litOwn, o_app, o_mk, o_mvfrz, l_int, l_bool, l_str, l_agg, l_sl, l_own, l_ptr, l_pp, i_int, i_bool, i_str, i_sl, i_own, i_ptr, i_pp, all0, all1, e_ok1, eff, effBin, effBinN, ld_ptr, ld_pp, ld_elt, ia_own, ia_arr, el_1, el_N, load1K, faddrE, r_iaddr, sg_S, sg_c, sg_n, purL, pur, List.map, List.drop, List.take, List.length, List.foldl, List.append_eq, List.nil_append, List.cons_append, List.getD_cons_zero, List.getD_cons_succ, reduceIte, Nat.reduceEqDiff, Nat.reduceAdd, Nat.reduceLeDiff, true_and, and_true, Bool.not_true, Bool.not_false, Bool.and_true, Bool.true_and, Bool.and_self, reduceCtorEq, true_implies, false_implies, implies_true, decide_eq_true_eq, Option.map_some, fpOf, fpX, SOp.xs, oX, refs, refsL, dom, disj, List.all_nil, List.all_cons, List.contains_cons, List.contains_nil, Nat.reduceBEq, Bool.or_false, Bool.false_or, List.append_nil, Bool.not_false, Bool.not_true, List.forall_mem_cons, fm0, List.set, Nat.reduceLT, ne_eq, not_false_eq_true, not_true_eq_false
, ret1, ret1N, keep0, keep1, rf_int, rf_bool, rf_str, rf_sl, rf_agg, rf_tup, rfL0, rfL1, re_t, re_cN, re_L0, re_L1, ret_tup, ret_one, decide_true, AV.bool.injEq, AV.int.injEq, Nat.reduceLeDiff, Bool.true_eq, Bool.false_eq, decide_eq_true_eq, decide_eq_false_iff_not, t_handBox, t_iPathOk, List.length_map, Box6.row, box_eta, Int.toNat_natCast, toNat_pred, ghost, appE, rowsOf, un_stp, take_rr, flatOk, noref, min_if, t_sPathOk]

  have e1 : lapF l (i + 1) = (l.getD i default).i := by simp [lapF]
  have e2 : lapB l (i + 1) = (l.getD i default).o + 1 := by simp [lapB]
  have e3 : List.map Stp7.row (List.map (lapStep l) (List.range (i + 1))) = List.map Stp7.row (List.map (lapStep l) (List.range i)) ++ [(lapStep l i).row] := by simp [List.range_succ]
  have hb : ∀ j, j < i → (l.getD j default).ok := hg.2
  have e4 : l.length = i → (lapOk q s l ↔ pathOk q s (List.map (lapStep l) (List.range i)) (lapF l i) (lapB l i)) := by
    intro e
    unfold lapOk lapTo
    rw [e]
    exact ⟨fun h => h.2, fun h => ⟨hb, h⟩⟩
  have N : (l.getD i default).ok → i < l.length → G_LapPath l (i + 1) := fun h h2 => ⟨h2, fun j hj => by
    by_cases e : j = i
    · subst e; exact h
    · exact hb j (by omega)⟩
  refine ⟨fun h1 => ⟨by omega, h1, fun h2 => ⟨fun h3 => ?_, fun h3 => ?_⟩, fun h2 => ?_⟩, fun h1 => ?_⟩
  · have h4 := hb (i - 1) (by omega)
    have h5 := h2
    unfold Box6.ok at h4 h5
    refine ⟨by omega, by omega, by omega, by omega, by omega, by omega, by omega, ?_⟩
    refine loopK_of (i + 1) ⟨⟨.inr rfl, .inr rfl, .inr rfl, .inr rfl, .inr rfl, .inr rfl, trivial⟩, ?_, rfl, rfl⟩ (N h2 (by omega)) (by omega)
    simp only [F_iLapPath, e1, e2, e3]
    refine ⟨rfl, rfl, ?_, trivial⟩
    simp only [w_getM1, reduceIte, Nat.reduceEqDiff, lapStep, Stp7.row, if_pos (show 0 < i by omega), Int.min_comm]
  · have h5 := h2
    unfold Box6.ok at h5
    refine ⟨by omega, by omega, by omega, ?_⟩
    refine loopK_of (i + 1) ⟨⟨.inr rfl, .inr rfl, .inr rfl, .inr rfl, .inr rfl, .inr rfl, trivial⟩, ?_, rfl, rfl⟩ (N h2 (by omega)) (by omega)
    simp only [F_iLapPath, e1, e2, e3]
    refine ⟨rfl, rfl, ?_, trivial⟩
    simp only [w_getM1, reduceIte, Nat.reduceEqDiff, lapStep, Stp7.row, if_neg (show ¬ 0 < i by omega)]
  · have : lapPath q s l = ⟨0, 0, [], 0, 0⟩ := if_neg fun h => h2 (h.1 i (by omega))
    rw [this]; exact ⟨rfl, rfl⟩
  · have hi : i = l.length := by have := hg.1; omega
    subst hi
    have e5 := e4 rfl
    refine ⟨fun h2 => ?_, fun h2 => ?_⟩
    · have : lapPath q s l = lapTo q s l l.length := if_pos (e5.2 h2)
      rw [this]; exact ⟨rfl, rfl⟩
    · have : lapPath q s l = ⟨0, 0, [], 0, 0⟩ := if_neg fun h => h2 (e5.1 h)
      rw [this]; exact ⟨rfl, rfl⟩
end Go.Ve

namespace Go.Ve
open Go.Proofs
set_option linter.unusedSimpArgs false
set_option linter.unusedVariables false
set_option maxRecDepth 100000
def Path5.low (p : Path5) (k : Nat) : Int := if k < p.l.length then (p.l.getD k default).f else p.f
def Path5.high (p : Path5) (k : Nat) : Int := if k < p.l.length then (p.l.getD k default).b else p.b
def Path5.most (p : Path5) (k : Nat) : Int := if (p.l.getD k default).hold then 10000 else p.s
structure Span2 where
  lo : Int
  hi : Int
  deriving Inhabited
def Span2.row (s : Span2) : List AV := [.int .i64 s.lo, .int .i64 s.hi]
theorem path_eta (p : Path5) : (⟨p.q, p.s, p.l, p.f, p.b⟩ : Path5) = p := (rfl)
theorem span_eta (s : Span2) : (⟨s.lo, s.hi⟩ : Span2) = s := (rfl)
theorem c_l23Low (q s : Int) (t : Nat) (l : List Stp7) (f b k : Int) (hp : 0 ≤ k) : Contract P 58 [.agg [.int .i64 q, .int .i64 s, .sl t 7 (l.map Stp7.row), .int .i64 f, .int .i64 b], .int .i64 k] [] (.int .i64 (Path5.low ⟨q, s, l, f, b⟩ k.toNat)) [] := by
  refine fn_sound (Env.nil P) hm k_spec_l23Low (Nat.le_of_ble_eq_true rfl) rfl ?_
  unfold s_spec_l23Low
  simp only [w_skip, w_rg, w_rgd, w_seq, w_cond, w_block, w_loop, w_exit, w_ret, w_gh, w_rg0, w_rg1, w_rgT, w_rgF, w_run, w_psd, w_und, w_dr0, w_dr1, w_drT, w_drF, w_drRun, w_drPsd, w_drUnd, w_drKn, w_drKs, w_putK, w_trimK, w_thenN, w_thenE, w_thenR, w_scope, w_label, w_blkN, w_blkE, w_blkR, w_call, w_effK, brU_true, brU_false, brU_u, brU_not, brU_and, brU_or, brU_dec, brU_eq, brU_ne, br_true, br_false, br_not, br_and, br_or, br_dec, br_eq, br_ne, w_getE0, w_getE1, w_setE0, w_setE1, w_dropE0, w_dropE1, w_drop0, w_drop1, w_getM0, w_getM1, w_setM0, w_setM1, ev_v, ev_c, w_putS, w_putN, w_lit, w_apU0, w_apU1, w_apU2, w_trim, enumE0, enumE1, w_callWp, w_callA0, w_callA1, w_R0, w_R1, w_R2, w_T2, w_callL, w_callT, w_T1, w_T0, o_mv, o_newnil, o_pick, o_bin, o_binN, o_neg, o_not, o_eqB, o_eqS, o_conv, o_alloc, o_box, o_load1, o_loadN, o_store, o_nilck, o_faddr, o_field1, o_fieldN, o_iaddr, o_istr, o_slStr, o_slSl, o_lenS, o_lenL, o_mx, o_mn, o_ext, o_build, o_lit, o_litOwn, o_app, o_mk, o_mvfrz, l_int, l_bool, l_str, l_agg, l_sl, l_own, l_ptr, l_pp, i_int, i_bool, i_str, i_sl, i_own, i_ptr, i_pp, all0, all1, e_ok1, eff, effBin, effBinN, ld_ptr, ld_pp, ld_elt, ia_own, ia_arr, el_1, el_N, load1K, faddrE, r_iaddr, sg_S, sg_c, sg_n, purL, pur, List.map, List.drop, List.take, List.length, List.foldl, List.append_eq, List.nil_append, List.cons_append, List.getD_cons_zero, List.getD_cons_succ, reduceIte, Nat.reduceEqDiff, Nat.reduceAdd, Nat.reduceLeDiff, true_and, and_true, Bool.not_true, Bool.not_false, Bool.and_true, Bool.true_and, Bool.and_self, reduceCtorEq, true_implies, false_implies, implies_true, decide_eq_true_eq, Option.map_some, fpOf, fpX, SOp.xs, oX, refs, refsL, dom, disj, List.all_nil, List.all_cons, List.contains_cons, List.contains_nil, Nat.reduceBEq, Bool.or_false, Bool.false_or, List.append_nil, Bool.not_false, Bool.not_true, List.forall_mem_cons, fm0, List.set, Nat.reduceLT, ne_eq, not_false_eq_true, not_true_eq_false
, ret1, ret1N, keep0, keep1, rf_int, rf_bool, rf_str, rf_sl, rf_agg, rf_tup, rfL0, rfL1, re_t, re_cN, re_L0, re_L1, ret_tup, ret_one, decide_true, AV.bool.injEq, AV.int.injEq, Nat.reduceLeDiff, Bool.true_eq, Bool.false_eq, decide_eq_true_eq, decide_eq_false_iff_not, List.length_map, Stp7.row]
  simp only [Path5.low]
  refine ⟨fun h1 => ?_, fun h1 => ?_⟩
  · refine ⟨by omega, by omega, ?_⟩
    rw [if_pos (by omega)]
  · rw [if_neg (by omega)]
def t_l23Low : List AV → Option (Prop × AV)
  | [.agg [.int .i64 q, .int .i64 s, .sl t 7 xs, .int .i64 f, .int .i64 b], .int .i64 k] => some ((xs.map unStp).map Stp7.row = xs ∧ (let l := xs.map unStp; 0 ≤ k), let l := xs.map unStp; .int .i64 (Path5.low ⟨q, s, l, f, b⟩ k.toNat))
  | _ => none
theorem h_l23Low : ∀ args p v, t_l23Low args = some (p, v) → p → Contract P 58 args [] v [] ∧ noref v = true ∧ No99 v := by
  intro args p v h1 h2
  unfold t_l23Low at h1
  split at h1
  · rename_i q s t xs f b k
    cases h1
    have := c_l23Low q s t (xs.map unStp) f b k h2.2
    rw [h2.1] at this
    exact ⟨this, rfl, trivial⟩
  · cases h1
theorem c_l23High (q s : Int) (t : Nat) (l : List Stp7) (f b k : Int) (hp : 0 ≤ k) : Contract P 59 [.agg [.int .i64 q, .int .i64 s, .sl t 7 (l.map Stp7.row), .int .i64 f, .int .i64 b], .int .i64 k] [] (.int .i64 (Path5.high ⟨q, s, l, f, b⟩ k.toNat)) [] := by
  refine fn_sound (Env.nil P) hm k_spec_l23High (Nat.le_of_ble_eq_true rfl) rfl ?_
  unfold s_spec_l23High
  simp only [w_skip, w_rg, w_rgd, w_seq, w_cond, w_block, w_loop, w_exit, w_ret, w_gh, w_rg0, w_rg1, w_rgT, w_rgF, w_run, w_psd, w_und, w_dr0, w_dr1, w_drT, w_drF, w_drRun, w_drPsd, w_drUnd, w_drKn, w_drKs, w_putK, w_trimK, w_thenN, w_thenE, w_thenR, w_scope, w_label, w_blkN, w_blkE, w_blkR, w_call, w_effK, brU_true, brU_false, brU_u, brU_not, brU_and, brU_or, brU_dec, brU_eq, brU_ne, br_true, br_false, br_not, br_and, br_or, br_dec, br_eq, br_ne, w_getE0, w_getE1, w_setE0, w_setE1, w_dropE0, w_dropE1, w_drop0, w_drop1, w_getM0, w_getM1, w_setM0, w_setM1, ev_v, ev_c, w_putS, w_putN, w_lit, w_apU0, w_apU1, w_apU2, w_trim, enumE0, enumE1, w_callWp, w_callA0, w_callA1, w_R0, w_R1, w_R2, w_T2, w_callL, w_callT, w_T1, w_T0, o_mv, o_newnil, o_pick, o_bin, o_binN, o_neg, o_not, o_eqB, o_eqS, o_conv, o_alloc, o_box, o_load1, o_loadN, o_store, o_nilck, o_faddr, o_field1, o_fieldN, o_iaddr, o_istr, o_slStr, o_slSl, o_lenS, o_lenL, o_mx, o_mn, o_ext, o_build, o_lit, o_litOwn, o_app, o_mk, o_mvfrz, l_int, l_bool, l_str, l_agg, l_sl, l_own, l_ptr, l_pp, i_int, i_bool, i_str, i_sl, i_own, i_ptr, i_pp, all0, all1, e_ok1, eff, effBin, effBinN, ld_ptr, ld_pp, ld_elt, ia_own, ia_arr, el_1, el_N, load1K, faddrE, r_iaddr, sg_S, sg_c, sg_n, purL, pur, List.map, List.drop, List.take, List.length, List.foldl, List.append_eq, List.nil_append, List.cons_append, List.getD_cons_zero, List.getD_cons_succ, reduceIte, Nat.reduceEqDiff, Nat.reduceAdd, Nat.reduceLeDiff, true_and, and_true, Bool.not_true, Bool.not_false, Bool.and_true, Bool.true_and, Bool.and_self, reduceCtorEq, true_implies, false_implies, implies_true, decide_eq_true_eq, Option.map_some, fpOf, fpX, SOp.xs, oX, refs, refsL, dom, disj, List.all_nil, List.all_cons, List.contains_cons, List.contains_nil, Nat.reduceBEq, Bool.or_false, Bool.false_or, List.append_nil, Bool.not_false, Bool.not_true, List.forall_mem_cons, fm0, List.set, Nat.reduceLT, ne_eq, not_false_eq_true, not_true_eq_false
, ret1, ret1N, keep0, keep1, rf_int, rf_bool, rf_str, rf_sl, rf_agg, rf_tup, rfL0, rfL1, re_t, re_cN, re_L0, re_L1, ret_tup, ret_one, decide_true, AV.bool.injEq, AV.int.injEq, Nat.reduceLeDiff, Bool.true_eq, Bool.false_eq, decide_eq_true_eq, decide_eq_false_iff_not, List.length_map, Stp7.row]
  simp only [Path5.high]
  refine ⟨fun h1 => ?_, fun h1 => ?_⟩
  · refine ⟨by omega, by omega, ?_⟩
    rw [if_pos (by omega)]
  · rw [if_neg (by omega)]
def t_l23High : List AV → Option (Prop × AV)
  | [.agg [.int .i64 q, .int .i64 s, .sl t 7 xs, .int .i64 f, .int .i64 b], .int .i64 k] => some ((xs.map unStp).map Stp7.row = xs ∧ (let l := xs.map unStp; 0 ≤ k), let l := xs.map unStp; .int .i64 (Path5.high ⟨q, s, l, f, b⟩ k.toNat))
  | _ => none
theorem h_l23High : ∀ args p v, t_l23High args = some (p, v) → p → Contract P 59 args [] v [] ∧ noref v = true ∧ No99 v := by
  intro args p v h1 h2
  unfold t_l23High at h1
  split at h1
  · rename_i q s t xs f b k
    cases h1
    have := c_l23High q s t (xs.map unStp) f b k h2.2
    rw [h2.1] at this
    exact ⟨this, rfl, trivial⟩
  · cases h1
theorem c_l23Most (q s : Int) (t : Nat) (l : List Stp7) (f b k : Int) (hp : 0 ≤ k ∧ k < l.length) : Contract P 60 [.agg [.int .i64 q, .int .i64 s, .sl t 7 (l.map Stp7.row), .int .i64 f, .int .i64 b], .int .i64 k] [] (.int .i64 (Path5.most ⟨q, s, l, f, b⟩ k.toNat)) [] := by
  refine fn_sound (Env.nil P) hm k_spec_l23Most (Nat.le_of_ble_eq_true rfl) rfl ?_
  unfold s_spec_l23Most
  simp only [w_skip, w_rg, w_rgd, w_seq, w_cond, w_block, w_loop, w_exit, w_ret, w_gh, w_rg0, w_rg1, w_rgT, w_rgF, w_run, w_psd, w_und, w_dr0, w_dr1, w_drT, w_drF, w_drRun, w_drPsd, w_drUnd, w_drKn, w_drKs, w_putK, w_trimK, w_thenN, w_thenE, w_thenR, w_scope, w_label, w_blkN, w_blkE, w_blkR, w_call, w_effK, brU_true, brU_false, brU_u, brU_not, brU_and, brU_or, brU_dec, brU_eq, brU_ne, br_true, br_false, br_not, br_and, br_or, br_dec, br_eq, br_ne, w_getE0, w_getE1, w_setE0, w_setE1, w_dropE0, w_dropE1, w_drop0, w_drop1, w_getM0, w_getM1, w_setM0, w_setM1, ev_v, ev_c, w_putS, w_putN, w_lit, w_apU0, w_apU1, w_apU2, w_trim, enumE0, enumE1, w_callWp, w_callA0, w_callA1, w_R0, w_R1, w_R2, w_T2, w_callL, w_callT, w_T1, w_T0, o_mv, o_newnil, o_pick, o_bin, o_binN, o_neg, o_not, o_eqB, o_eqS, o_conv, o_alloc, o_box, o_load1, o_loadN, o_store, o_nilck, o_faddr, o_field1, o_fieldN, o_iaddr, o_istr, o_slStr, o_slSl, o_lenS, o_lenL, o_mx, o_mn, o_ext, o_build, o_lit, o_litOwn, o_app, o_mk, o_mvfrz, l_int, l_bool, l_str, l_agg, l_sl, l_own, l_ptr, l_pp, i_int, i_bool, i_str, i_sl, i_own, i_ptr, i_pp, all0, all1, e_ok1, eff, effBin, effBinN, ld_ptr, ld_pp, ld_elt, ia_own, ia_arr, el_1, el_N, load1K, faddrE, r_iaddr, sg_S, sg_c, sg_n, purL, pur, List.map, List.drop, List.take, List.length, List.foldl, List.append_eq, List.nil_append, List.cons_append, List.getD_cons_zero, List.getD_cons_succ, reduceIte, Nat.reduceEqDiff, Nat.reduceAdd, Nat.reduceLeDiff, true_and, and_true, Bool.not_true, Bool.not_false, Bool.and_true, Bool.true_and, Bool.and_self, reduceCtorEq, true_implies, false_implies, implies_true, decide_eq_true_eq, Option.map_some, fpOf, fpX, SOp.xs, oX, refs, refsL, dom, disj, List.all_nil, List.all_cons, List.contains_cons, List.contains_nil, Nat.reduceBEq, Bool.or_false, Bool.false_or, List.append_nil, Bool.not_false, Bool.not_true, List.forall_mem_cons, fm0, List.set, Nat.reduceLT, ne_eq, not_false_eq_true, not_true_eq_false
, ret1, ret1N, keep0, keep1, rf_int, rf_bool, rf_str, rf_sl, rf_agg, rf_tup, rfL0, rfL1, re_t, re_cN, re_L0, re_L1, ret_tup, ret_one, decide_true, AV.bool.injEq, AV.int.injEq, Nat.reduceLeDiff, Bool.true_eq, Bool.false_eq, decide_eq_true_eq, decide_eq_false_iff_not, List.length_map, Stp7.row]
  refine ⟨hp.1, hp.2, ?_⟩
  cases hh : (l.getD k.toNat default).hold <;> simp only [w_skip, w_rg, w_rgd, w_seq, w_cond, w_block, w_loop, w_exit, w_ret, w_gh, w_rg0, w_rg1, w_rgT, w_rgF, w_run, w_psd, w_und, w_dr0, w_dr1, w_drT, w_drF, w_drRun, w_drPsd, w_drUnd, w_drKn, w_drKs, w_putK, w_trimK, w_thenN, w_thenE, w_thenR, w_scope, w_label, w_blkN, w_blkE, w_blkR, w_call, w_effK, brU_true, brU_false, brU_u, brU_not, brU_and, brU_or, brU_dec, brU_eq, brU_ne, br_true, br_false, br_not, br_and, br_or, br_dec, br_eq, br_ne, w_getE0, w_getE1, w_setE0, w_setE1, w_dropE0, w_dropE1, w_drop0, w_drop1, w_getM0, w_getM1, w_setM0, w_setM1, ev_v, ev_c, w_putS, w_putN, w_lit, w_apU0, w_apU1, w_apU2, w_trim, enumE0, enumE1, w_callWp, w_callA0, w_callA1, w_R0, w_R1, w_R2, w_T2, w_callL, w_callT, w_T1, w_T0, o_mv, o_newnil, o_pick, o_bin, o_binN, o_neg, o_not, o_eqB, o_eqS, o_conv, o_alloc, o_box, o_load1, o_loadN, o_store, o_nilck, o_faddr, o_field1, o_fieldN, o_iaddr, o_istr, o_slStr, o_slSl, o_lenS, o_lenL, o_mx, o_mn, o_ext, o_build, o_lit, o_litOwn, o_app, o_mk, o_mvfrz, l_int, l_bool, l_str, l_agg, l_sl, l_own, l_ptr, l_pp, i_int, i_bool, i_str, i_sl, i_own, i_ptr, i_pp, all0, all1, e_ok1, eff, effBin, effBinN, ld_ptr, ld_pp, ld_elt, ia_own, ia_arr, el_1, el_N, load1K, faddrE, r_iaddr, sg_S, sg_c, sg_n, purL, pur, List.map, List.drop, List.take, List.length, List.foldl, List.append_eq, List.nil_append, List.cons_append, List.getD_cons_zero, List.getD_cons_succ, reduceIte, Nat.reduceEqDiff, Nat.reduceAdd, Nat.reduceLeDiff, true_and, and_true, Bool.not_true, Bool.not_false, Bool.and_true, Bool.true_and, Bool.and_self, reduceCtorEq, true_implies, false_implies, implies_true, decide_eq_true_eq, Option.map_some, fpOf, fpX, SOp.xs, oX, refs, refsL, dom, disj, List.all_nil, List.all_cons, List.contains_cons, List.contains_nil, Nat.reduceBEq, Bool.or_false, Bool.false_or, List.append_nil, Bool.not_false, Bool.not_true, List.forall_mem_cons, fm0, List.set, Nat.reduceLT, ne_eq, not_false_eq_true, not_true_eq_false
, ret1, ret1N, keep0, keep1, rf_int, rf_bool, rf_str, rf_sl, rf_agg, rf_tup, rfL0, rfL1, re_t, re_cN, re_L0, re_L1, ret_tup, ret_one, decide_true, AV.bool.injEq, AV.int.injEq, Nat.reduceLeDiff, Bool.true_eq, Bool.false_eq, decide_eq_true_eq, decide_eq_false_iff_not, List.length_map, Stp7.row] <;> simp only [Path5.most, hh] <;> rfl
def t_l23Most : List AV → Option (Prop × AV)
  | [.agg [.int .i64 q, .int .i64 s, .sl t 7 xs, .int .i64 f, .int .i64 b], .int .i64 k] => some ((xs.map unStp).map Stp7.row = xs ∧ (let l := xs.map unStp; 0 ≤ k ∧ k < l.length), let l := xs.map unStp; .int .i64 (Path5.most ⟨q, s, l, f, b⟩ k.toNat))
  | _ => none
theorem h_l23Most : ∀ args p v, t_l23Most args = some (p, v) → p → Contract P 60 args [] v [] ∧ noref v = true ∧ No99 v := by
  intro args p v h1 h2
  unfold t_l23Most at h1
  split at h1
  · rename_i q s t xs f b k
    cases h1
    have := c_l23Most q s t (xs.map unStp) f b k h2.2
    rw [h2.1] at this
    exact ⟨this, rfl, trivial⟩
  · cases h1
/-- Ahead: the earliest and the latest, from the first step on. -/
def Path5.fwd (p : Path5) : Nat → Span2
  | 0 => ⟨p.low 0, p.high 0⟩
  | k + 1 => ⟨max (p.low (k + 1)) ((p.fwd k).lo + p.q), min (p.high (k + 1)) ((p.fwd k).hi + p.most k)⟩
/-- Back again, from the last one. -/
def Path5.bwd (p : Path5) : Nat → Span2
  | 0 => p.fwd p.l.length
  | d + 1 => ⟨max (p.fwd (p.l.length - (d + 1))).lo ((p.bwd d).lo - p.most (p.l.length - (d + 1))), min (p.fwd (p.l.length - (d + 1))).hi ((p.bwd d).hi - p.q)⟩
def Path5.span (p : Path5) (k : Nat) : Span2 := p.bwd (p.l.length - k)
def Path5.can (p : Path5) : Prop := ∀ k, k < p.l.length + 1 → (p.span k).lo ≤ (p.span k).hi
instance (p : Path5) : Decidable p.can := by unfold Path5.can; infer_instance
def Path5.spans (p : Path5) : List Span2 := if p.can then (List.range (p.l.length + 1)).map p.span else []
/-- What the passes ask of the numbers. -/
structure Path5.calm (p : Path5) : Prop where
  q : 0 ≤ p.q ∧ p.q ≤ 50
  s : 0 ≤ p.s ∧ p.s ≤ 50
  n : p.l.length ≤ 1048576
  lo : ∀ k, k ≤ p.l.length → 0 ≤ p.low k
  hi : ∀ k, k ≤ p.l.length → p.high k ≤ 10000
theorem Path5.calm.most {p : Path5} (h : p.calm) (k : Nat) : 0 ≤ p.most k ∧ p.most k ≤ 10000 := by
  unfold Path5.most
  have := h.s
  split <;> omega
theorem Path5.fwd_lo {p : Path5} (h : p.calm) : ∀ k, k ≤ p.l.length → 0 ≤ (p.fwd k).lo
  | 0, hk => h.lo 0 hk
  | k + 1, hk => by have := h.lo (k + 1) hk; simp only [Path5.fwd]; omega
theorem Path5.fwd_hi {p : Path5} (h : p.calm) : ∀ k, k ≤ p.l.length → (p.fwd k).hi ≤ 10000
  | 0, hk => h.hi 0 hk
  | k + 1, hk => by have := h.hi (k + 1) hk; simp only [Path5.fwd]; omega
theorem Path5.bwd_lo (p : Path5) : ∀ d, d ≤ p.l.length → (p.fwd (p.l.length - d)).lo ≤ (p.bwd d).lo
  | 0, _ => by simp [Path5.bwd]
  | d + 1, _ => by simp only [Path5.bwd]; omega
theorem Path5.bwd_hi (p : Path5) : ∀ d, d ≤ p.l.length → (p.bwd d).hi ≤ (p.fwd (p.l.length - d)).hi
  | 0, _ => by simp [Path5.bwd]
  | d + 1, _ => by simp only [Path5.bwd]; omega
theorem Path5.can_fwd {p : Path5} (h : p.can) {k : Nat} (hk : k ≤ p.l.length) : (p.fwd k).lo ≤ (p.fwd k).hi := by
  have h1 := p.bwd_lo (p.l.length - k) (by omega)
  have h2 := p.bwd_hi (p.l.length - k) (by omega)
  have h3 := h k (by omega)
  unfold Path5.span at h3
  have e : p.l.length - (p.l.length - k) = k := by omega
  rw [e] at h1 h2
  omega
def Path5.mid (p : Path5) (d j : Nat) : Span2 := if p.l.length - d ≤ j then p.span j else p.fwd j
def Path5.mids (p : Path5) (d : Nat) : List Span2 := (List.range (p.l.length + 1)).map (p.mid d)
theorem set_lo {l : List Span2} {i : Nat} {v : Int} : (l.map Span2.row).set i (setSeg ((l.map Span2.row).getD i []) 0 [.int .i64 v]) = (l.set i ⟨v, (l.getD i default).hi⟩).map Span2.row :=
  set_rows (α := Span2) (f := Span2.row) (fun s => ⟨v, s.hi⟩) fun x => by simp [Span2.row, setSeg]
theorem set_hi {l : List Span2} {i : Nat} {v : Int} : (l.map Span2.row).set i (setSeg ((l.map Span2.row).getD i []) 1 [.int .i64 v]) = (l.set i ⟨(l.getD i default).lo, v⟩).map Span2.row :=
  set_rows (α := Span2) (f := Span2.row) (fun s => ⟨s.lo, v⟩) fun x => by simp [Span2.row, setSeg]
theorem toNat_succ (i : Nat) : ((i : Int) + 1).toNat = i + 1 := by omega
def F_l24b (p : Path5) (t : Nat) (d : Nat) : St := ⟨[(1, .ptr 101 0), (4, .own 165 (p.l.length + 1) 0 (p.l.length + 1)), (8, .int .i64 ((p.l.length : Int) - 1 - d))],
  [(101, .box [.int .i64 p.q, .int .i64 p.s, .sl t 7 (p.l.map Stp7.row), .int .i64 p.f, .int .i64 p.b]), (165, .arr 38 (p.l.length + 1) 2 ((p.mids d).map Span2.row))]⟩
def G_l24b (p : Path5) (d : Nat) : Prop := d ≤ p.l.length ∧ ∀ j, p.l.length - d ≤ j → j < p.l.length + 1 → (p.span j).lo ≤ (p.span j).hi
def F_l24a (p : Path5) (t : Nat) (i : Nat) : St := ⟨[(1, .ptr 101 0), (4, .own 165 i 0 i), (5, .int .i64 p.l.length), (6, .int .i64 i)],
  [(101, .box [.int .i64 p.q, .int .i64 p.s, .sl t 7 (p.l.map Stp7.row), .int .i64 p.f, .int .i64 p.b]), (165, .arr 38 i 2 (((List.range i).map p.fwd).map Span2.row))]⟩
def G_l24a (p : Path5) (i : Nat) : Prop := i ≤ p.l.length + 1 ∧ ∀ j, j < i → (p.fwd j).lo ≤ (p.fwd j).hi
theorem c_l24Spans (p : Path5) (t : Nat) (hc : p.calm) : Contract P 54 [.agg [.int .i64 p.q, .int .i64 p.s, .sl t 7 (p.l.map Stp7.row), .int .i64 p.f, .int .i64 p.b]] [] (.tup [.sl 0 2 (p.spans.map Span2.row), .bool (decide p.can)]) [] := by
  refine fn_sound ((((((Env.nil P).add 58 t_l23Low h_l23Low).add 59 t_l23High h_l23High).add 60 t_l23Most h_l23Most).add 83 t_l21Min h_l21Min).add 84 t_l21Max h_l21Max) hm k_spec_l24Spans (Nat.le_of_ble_eq_true rfl) rfl ?_
  unfold s_spec_l24Spans
  simp only [w_skip, w_rg, w_rgd, w_seq, w_cond, w_block, w_loop, w_exit, w_ret, w_gh, w_rg0, w_rg1, w_rgT, w_rgF, w_run, w_psd, w_und, w_dr0, w_dr1, w_drT, w_drF, w_drRun, w_drPsd, w_drUnd, w_drKn, w_drKs, w_putK, w_trimK, w_thenN, w_thenE, w_thenR, w_scope, w_label, w_blkN, w_blkE, w_blkR, w_call, w_effK, brU_true, brU_false, brU_u, brU_not, brU_and, brU_or, brU_dec, brU_eq, brU_ne, br_true, br_false, br_not, br_and, br_or, br_dec, br_eq, br_ne, w_getE0, w_getE1, w_setE0, w_setE1, w_dropE0, w_dropE1, w_drop0, w_drop1, w_getM0, w_getM1, w_setM0, w_setM1, ev_v, ev_c, w_putS, w_putN, w_lit, w_apU0, w_apU1, w_apU2, w_trim, enumE0, enumE1, w_callWp, w_callA0, w_callA1, w_R0, w_R1, w_R2, w_T2, w_callL, w_callT, w_T1, w_T0, o_mv, o_newnil, o_pick, o_bin, o_binN, o_neg, o_not, o_eqB, o_eqS, o_conv, o_alloc, o_box, o_load1, o_loadN, o_store, o_nilck, o_faddr, o_field1, o_fieldN, o_iaddr, o_istr, o_slStr, o_slSl, o_lenS, o_lenL, o_mx, o_mn, o_ext, o_build, o_lit, o_litOwn, o_app, o_mk, o_mvfrz, l_int, l_bool, l_str, l_agg, l_sl, l_own, l_ptr, l_pp, i_int, i_bool, i_str, i_sl, i_own, i_ptr, i_pp, all0, all1, e_ok1, eff, effBin, effBinN, ld_ptr, ld_pp, ld_elt, ia_own, ia_arr, el_1, el_N, load1K, faddrE, r_iaddr, sg_S, sg_c, sg_n, purL, pur, List.map, List.drop, List.take, List.length, List.foldl, List.append_eq, List.nil_append, List.cons_append, List.getD_cons_zero, List.getD_cons_succ, reduceIte, Nat.reduceEqDiff, Nat.reduceAdd, Nat.reduceLeDiff, true_and, and_true, Bool.not_true, Bool.not_false, Bool.and_true, Bool.true_and, Bool.and_self, reduceCtorEq, true_implies, false_implies, implies_true, decide_eq_true_eq, Option.map_some, fpOf, fpX, SOp.xs, oX, refs, refsL, dom, disj, List.all_nil, List.all_cons, List.contains_cons, List.contains_nil, Nat.reduceBEq, Bool.or_false, Bool.false_or, List.append_nil, Bool.not_false, Bool.not_true, List.forall_mem_cons, fm0, List.set, Nat.reduceLT, ne_eq, not_false_eq_true, not_true_eq_false
, ret1, ret1N, keep0, keep1, rf_int, rf_bool, rf_str, rf_sl, rf_agg, rf_tup, rfL0, rfL1, re_t, re_cN, re_L0, re_L1, ret_tup, ret_one, decide_true, AV.bool.injEq, AV.int.injEq, Nat.reduceLeDiff, Bool.true_eq, Bool.false_eq, decide_eq_true_eq, decide_eq_false_iff_not, t_l23Low, t_l23High, t_l23Most, t_l21Min, t_l21Max, List.length_map, Stp7.row, Span2.row, span_eta, Int.toNat_natCast, toNat_pred, un_stp, take_rr, flatOk, noref, appE, rowsOf, ghost, path_eta, List.length_range, Nat.zero_add, Nat.sub_zero, set_lo, set_hi, toNat_succ, List.length_set]
  refine loop_of (F_l24a p t) (G_l24a p) (fun i => p.l.length + 1 - i) 0 ⟨⟨.inr rfl, .inr rfl, .inr rfl, .inr rfl, trivial⟩, ⟨rfl, rfl, trivial⟩, rfl, rfl⟩ ⟨by omega, fun j hj => by omega⟩ ?_
  intro i hg
  unfold l_spec_l24Spans_0 F_l24a
  simp only [w_skip, w_rg, w_rgd, w_seq, w_cond, w_block, w_loop, w_exit, w_ret, w_gh, w_rg0, w_rg1, w_rgT, w_rgF, w_run, w_psd, w_und, w_dr0, w_dr1, w_drT, w_drF, w_drRun, w_drPsd, w_drUnd, w_drKn, w_drKs, w_putK, w_trimK, w_thenN, w_thenE, w_thenR, w_scope, w_label, w_blkN, w_blkE, w_blkR, w_call, w_effK, brU_true, brU_false, brU_u, brU_not, brU_and, brU_or, brU_dec, brU_eq, brU_ne, br_true, br_false, br_not, br_and, br_or, br_dec, br_eq, br_ne, w_getE0, w_getE1, w_setE0, w_setE1, w_dropE0, w_dropE1, w_drop0, w_drop1, w_getM0, w_getM1, w_setM0, w_setM1, ev_v, ev_c, w_putS, w_putN, w_lit, w_apU0, w_apU1, w_apU2, w_trim, enumE0, enumE1, w_callWp, w_callA0, w_callA1, w_R0, w_R1, w_R2, w_T2, w_callL, w_callT, w_T1, w_T0, o_mv, o_newnil, o_pick, o_bin, o_binN, o_neg, o_not, o_eqB, o_eqS, o_conv, o_alloc, o_box, o_load1, o_loadN, o_store, o_nilck, o_faddr, o_field1, o_fieldN, o_iaddr, o_istr, o_slStr, o_slSl, o_lenS, o_lenL, o_mx, o_mn, o_ext, o_build, o_lit, o_litOwn, o_app, o_mk, o_mvfrz, l_int, l_bool, l_str, l_agg, l_sl, l_own, l_ptr, l_pp, i_int, i_bool, i_str, i_sl, i_own, i_ptr, i_pp, all0, all1, e_ok1, eff, effBin, effBinN, ld_ptr, ld_pp, ld_elt, ia_own, ia_arr, el_1, el_N, load1K, faddrE, r_iaddr, sg_S, sg_c, sg_n, purL, pur, List.map, List.drop, List.take, List.length, List.foldl, List.append_eq, List.nil_append, List.cons_append, List.getD_cons_zero, List.getD_cons_succ, reduceIte, Nat.reduceEqDiff, Nat.reduceAdd, Nat.reduceLeDiff, true_and, and_true, Bool.not_true, Bool.not_false, Bool.and_true, Bool.true_and, Bool.and_self, reduceCtorEq, true_implies, false_implies, implies_true, decide_eq_true_eq, Option.map_some, fpOf, fpX, SOp.xs, oX, refs, refsL, dom, disj, List.all_nil, List.all_cons, List.contains_cons, List.contains_nil, Nat.reduceBEq, Bool.or_false, Bool.false_or, List.append_nil, Bool.not_false, Bool.not_true, List.forall_mem_cons, fm0, List.set, Nat.reduceLT, ne_eq, not_false_eq_true, not_true_eq_false
, ret1, ret1N, keep0, keep1, rf_int, rf_bool, rf_str, rf_sl, rf_agg, rf_tup, rfL0, rfL1, re_t, re_cN, re_L0, re_L1, ret_tup, ret_one, decide_true, AV.bool.injEq, AV.int.injEq, Nat.reduceLeDiff, Bool.true_eq, Bool.false_eq, decide_eq_true_eq, decide_eq_false_iff_not, t_l23Low, t_l23High, t_l23Most, t_l21Min, t_l21Max, List.length_map, Stp7.row, Span2.row, span_eta, Int.toNat_natCast, toNat_pred, un_stp, take_rr, flatOk, noref, appE, rowsOf, ghost, path_eta, List.length_range, Nat.zero_add, Nat.sub_zero, set_lo, set_hi, toNat_succ, List.length_set]
  have no : ∀ k, k ≤ p.l.length → ¬ (p.fwd k).lo ≤ (p.fwd k).hi → AV.sl 0 2 [] = AV.sl 0 2 (List.map Span2.row p.spans) ∧ ¬ p.can := by
    intro k hk h
    have hn : ¬ p.can := fun hq => h (Path5.can_fwd hq hk)
    exact ⟨by rw [Path5.spans, if_neg hn]; rfl, hn⟩
  have e3 : List.map Span2.row (List.map p.fwd (List.range (i + 1))) = List.map Span2.row (List.map p.fwd (List.range i)) ++ [(p.fwd i).row] := by simp [List.range_succ]
  have N : i ≤ p.l.length → (p.fwd i).lo ≤ (p.fwd i).hi → G_l24a p (i + 1) := fun h h2 => ⟨by omega, fun j hj => by
    by_cases e : j = i
    · subst e; exact h2
    · exact hg.2 j (by omega)⟩
  refine ⟨fun h1 => ⟨by omega, by omega, fun h2 => ?_, fun h2 => ?_⟩, fun h1 => ?_⟩
  · obtain ⟨k, rfl⟩ : ∃ k, i = k + 1 := ⟨i - 1, by omega⟩
    have eg : ((List.range (k + 1)).map p.fwd).getD k default = p.fwd k := by simp
    have A := hg.2 k (by omega)
    have l1 := Path5.fwd_lo hc k (by omega)
    have l2 := Path5.fwd_hi hc k (by omega)
    have l3 := hc.most k
    have l4 := hc.q
    have l5 := hc.n
    have l6 := no (k + 1) (by omega)
    have l7 := N (by omega)
    simp only [Nat.add_sub_cancel, eg]
    simp only [Path5.fwd] at l6 l7 e3
    refine ⟨by omega, by omega, by omega, by omega, by omega, by omega, by omega, by omega, by omega, by omega, fun h3 => l6 (by omega), fun h3 => ⟨by omega, by omega, ?_⟩⟩
    refine loopK_of (k + 1 + 1) ⟨⟨.inr rfl, .inr rfl, .inr rfl, .inr rfl, trivial⟩, ?_, rfl, rfl⟩ (l7 (by omega)) (by omega)
    simp only [F_l24a, e3]
    exact ⟨rfl, rfl, trivial⟩
  · have e0 : i = 0 := by omega
    subst e0
    have l6 := no 0 (by omega)
    have l7 := N (by omega)
    simp only [Path5.fwd] at l6 l7 e3
    refine ⟨fun h3 => l6 (by omega), fun h3 => ⟨by omega, by omega, ?_⟩⟩
    refine loopK_of 1 ⟨⟨.inr rfl, .inr rfl, .inr rfl, .inr rfl, trivial⟩, ?_, rfl, rfl⟩ (l7 (by omega)) (by omega)
    simp only [F_l24a]
    exact ⟨rfl, rfl, trivial⟩
  · have hi : i = p.l.length + 1 := by have := hg.1; omega
    subst hi
    have hn := hc.n
    refine ⟨by omega, ?_⟩
    have m0 : p.mids 0 = (List.range (p.l.length + 1)).map p.fwd := by
      refine List.map_congr_left fun j hj => ?_
      have := List.mem_range.1 hj
      unfold Path5.mid
      split
      · have e : j = p.l.length := by omega
        subst e
        simp [Path5.span, Path5.bwd]
      · rfl
    refine loop_of (F_l24b p t) (G_l24b p) (fun d => p.l.length - d) 0 ⟨⟨.inr rfl, .inr rfl, .inr (by simp [w_getE1]), trivial⟩, ⟨rfl, by rw [m0]; rfl, trivial⟩, rfl, rfl⟩ ⟨by omega, fun j h1 h2 => ?_⟩ ?_
    · have e : j = p.l.length := by omega
      subst e
      have := hg.2 p.l.length (by omega)
      simpa [Path5.span, Path5.bwd] using this
    intro d hd
    unfold l_spec_l24Spans_1 F_l24b
    by_cases hdn : d < p.l.length
    · obtain ⟨k, hk⟩ : ∃ k, p.l.length = k + 1 + d := ⟨p.l.length - 1 - d, by omega⟩
      have e8 : (p.l.length : Int) - 1 - d = k := by omega
      rw [e8]
      simp only [w_skip, w_rg, w_rgd, w_seq, w_cond, w_block, w_loop, w_exit, w_ret, w_gh, w_rg0, w_rg1, w_rgT, w_rgF, w_run, w_psd, w_und, w_dr0, w_dr1, w_drT, w_drF, w_drRun, w_drPsd, w_drUnd, w_drKn, w_drKs, w_putK, w_trimK, w_thenN, w_thenE, w_thenR, w_scope, w_label, w_blkN, w_blkE, w_blkR, w_call, w_effK, brU_true, brU_false, brU_u, brU_not, brU_and, brU_or, brU_dec, brU_eq, brU_ne, br_true, br_false, br_not, br_and, br_or, br_dec, br_eq, br_ne, w_getE0, w_getE1, w_setE0, w_setE1, w_dropE0, w_dropE1, w_drop0, w_drop1, w_getM0, w_getM1, w_setM0, w_setM1, ev_v, ev_c, w_putS, w_putN, w_lit, w_apU0, w_apU1, w_apU2, w_trim, enumE0, enumE1, w_callWp, w_callA0, w_callA1, w_R0, w_R1, w_R2, w_T2, w_callL, w_callT, w_T1, w_T0, o_mv, o_newnil, o_pick, o_bin, o_binN, o_neg, o_not, o_eqB, o_eqS, o_conv, o_alloc, o_box, o_load1, o_loadN, o_store, o_nilck, o_faddr, o_field1, o_fieldN, o_iaddr, o_istr, o_slStr, o_slSl, o_lenS, o_lenL, o_mx, o_mn, o_ext, o_build, o_lit, o_litOwn, o_app, o_mk, o_mvfrz, l_int, l_bool, l_str, l_agg, l_sl, l_own, l_ptr, l_pp, i_int, i_bool, i_str, i_sl, i_own, i_ptr, i_pp, all0, all1, e_ok1, eff, effBin, effBinN, ld_ptr, ld_pp, ld_elt, ia_own, ia_arr, el_1, el_N, load1K, faddrE, r_iaddr, sg_S, sg_c, sg_n, purL, pur, List.map, List.drop, List.take, List.length, List.foldl, List.append_eq, List.nil_append, List.cons_append, List.getD_cons_zero, List.getD_cons_succ, reduceIte, Nat.reduceEqDiff, Nat.reduceAdd, Nat.reduceLeDiff, true_and, and_true, Bool.not_true, Bool.not_false, Bool.and_true, Bool.true_and, Bool.and_self, reduceCtorEq, true_implies, false_implies, implies_true, decide_eq_true_eq, Option.map_some, fpOf, fpX, SOp.xs, oX, refs, refsL, dom, disj, List.all_nil, List.all_cons, List.contains_cons, List.contains_nil, Nat.reduceBEq, Bool.or_false, Bool.false_or, List.append_nil, Bool.not_false, Bool.not_true, List.forall_mem_cons, fm0, List.set, Nat.reduceLT, ne_eq, not_false_eq_true, not_true_eq_false
, ret1, ret1N, keep0, keep1, rf_int, rf_bool, rf_str, rf_sl, rf_agg, rf_tup, rfL0, rfL1, re_t, re_cN, re_L0, re_L1, ret_tup, ret_one, decide_true, AV.bool.injEq, AV.int.injEq, Nat.reduceLeDiff, Bool.true_eq, Bool.false_eq, decide_eq_true_eq, decide_eq_false_iff_not, t_l23Low, t_l23High, t_l23Most, t_l21Min, t_l21Max, List.length_map, Stp7.row, Span2.row, span_eta, Int.toNat_natCast, toNat_pred, un_stp, take_rr, flatOk, noref, appE, rowsOf, ghost, path_eta, List.length_range, Nat.zero_add, Nat.sub_zero, set_lo, set_hi, toNat_succ, List.length_set]
      have len : (p.mids d).length = p.l.length + 1 := by simp [Path5.mids]
      have gk : (p.mids d).getD k default = p.fwd k := by
        simp [Path5.mids, Path5.mid, show k < p.l.length + 1 by omega]
        omega
      have gk1 : (p.mids d).getD (k + 1) default = p.span (k + 1) := by
        simp [Path5.mids, Path5.mid, show k + 1 < p.l.length + 1 by omega]
        omega
      have s1 : ∀ x, ((p.mids d).set k x).getD (k + 1) default = p.span (k + 1) := fun x => by
        rw [← gk1]; simp [List.getD_eq_getElem?_getD, List.getElem?_set_ne]
      have s2 : ∀ x, ((p.mids d).set k x).getD k default = x := fun x => by
        simp [List.getD_eq_getElem?_getD, len, show k < p.l.length + 1 by omega]
      have sp : p.span k = ⟨max (p.fwd k).lo ((p.span (k + 1)).lo - p.most k), min (p.fwd k).hi ((p.span (k + 1)).hi - p.q)⟩ := by
        have h1 : p.l.length - k = d + 1 := by omega
        have h2 : p.l.length - (k + 1) = d := by omega
        have h3 : p.l.length - (d + 1) = k := by omega
        simp only [Path5.span, h1, h2, Path5.bwd, h3]
      have fin : (p.mids d).set k (p.span k) = p.mids (d + 1) := by
        refine List.ext_getElem (by simp [Path5.mids]) fun j h1 h2 => ?_
        simp only [Path5.mids, List.length_map, List.length_range] at h2
        by_cases e : j = k
        · subst e
          simp [Path5.mids, Path5.mid, show p.l.length - (d + 1) ≤ j by omega]
        · simp [Path5.mids, Path5.mid, List.getElem_set_ne (Ne.symm e)]
          have h3 : p.l.length ≤ j + d ↔ p.l.length ≤ j + (d + 1) := by omega
          simp only [h3]
      have l1 := Path5.fwd_lo hc k (by omega)
      have l2 := Path5.fwd_hi hc k (by omega)
      have l3 := hc.most k
      have l4 := hc.q
      have b1 := hd.2 (k + 1) (by omega) (by omega)
      have b2 := p.bwd_lo d (by omega)
      have b3 := p.bwd_hi d (by omega)
      rw [show p.l.length - d = k + 1 by omega] at b2 b3
      have b4 := Path5.fwd_lo hc (k + 1) (by omega)
      have b5 := Path5.fwd_hi hc (k + 1) (by omega)
      have hs1 : p.span (k + 1) = p.bwd d := by simp only [Path5.span]; rw [show p.l.length - (k + 1) = d by omega]
      rw [hs1] at b1
      simp only [gk, gk1, s1, s2, List.set_set, len]
      rw [← sp, fin]
      rw [hs1]
      rw [hs1] at sp
      have e9 : (p.l.length : Int) - 1 - ((d + 1 : Nat) : Int) = (k : Int) - 1 := by omega
      refine ⟨fun _ => ⟨by omega, by omega, by omega, by omega, by omega, by omega, by omega, by omega, by omega, by omega, by omega, by omega, by omega, by omega, by omega, by omega, by omega, by omega, by omega, fun h3 => ?_, fun h3 => ⟨by omega, ?_⟩⟩, fun h => absurd (by omega) h⟩
      · have hq : ¬ p.can := fun hq => by have := hq k (by omega); rw [sp] at this; simp only at this; omega
        exact ⟨by rw [Path5.spans, if_neg hq]; rfl, hq⟩
      · refine loopK_of (d + 1) ⟨⟨.inr rfl, .inr rfl, .inr (by rw [e9]; rfl), trivial⟩, ⟨rfl, rfl, trivial⟩, rfl, rfl⟩ ⟨by omega, fun j h4 h5 => ?_⟩ (by omega)
        by_cases e : j = k
        · subst e; rw [sp]; simp only; omega
        · exact hd.2 j (by omega) h5
    · have e8 : (p.l.length : Int) - 1 - d = -1 := by have := hd.1; omega
      rw [e8]
      simp only [w_skip, w_rg, w_rgd, w_seq, w_cond, w_block, w_loop, w_exit, w_ret, w_gh, w_rg0, w_rg1, w_rgT, w_rgF, w_run, w_psd, w_und, w_dr0, w_dr1, w_drT, w_drF, w_drRun, w_drPsd, w_drUnd, w_drKn, w_drKs, w_putK, w_trimK, w_thenN, w_thenE, w_thenR, w_scope, w_label, w_blkN, w_blkE, w_blkR, w_call, w_effK, brU_true, brU_false, brU_u, brU_not, brU_and, brU_or, brU_dec, brU_eq, brU_ne, br_true, br_false, br_not, br_and, br_or, br_dec, br_eq, br_ne, w_getE0, w_getE1, w_setE0, w_setE1, w_dropE0, w_dropE1, w_drop0, w_drop1, w_getM0, w_getM1, w_setM0, w_setM1, ev_v, ev_c, w_putS, w_putN, w_lit, w_apU0, w_apU1, w_apU2, w_trim, enumE0, enumE1, w_callWp, w_callA0, w_callA1, w_R0, w_R1, w_R2, w_T2, w_callL, w_callT, w_T1, w_T0, o_mv, o_newnil, o_pick, o_bin, o_binN, o_neg, o_not, o_eqB, o_eqS, o_conv, o_alloc, o_box, o_load1, o_loadN, o_store, o_nilck, o_faddr, o_field1, o_fieldN, o_iaddr, o_istr, o_slStr, o_slSl, o_lenS, o_lenL, o_mx, o_mn, o_ext, o_build, o_lit, o_litOwn, o_app, o_mk, o_mvfrz, l_int, l_bool, l_str, l_agg, l_sl, l_own, l_ptr, l_pp, i_int, i_bool, i_str, i_sl, i_own, i_ptr, i_pp, all0, all1, e_ok1, eff, effBin, effBinN, ld_ptr, ld_pp, ld_elt, ia_own, ia_arr, el_1, el_N, load1K, faddrE, r_iaddr, sg_S, sg_c, sg_n, purL, pur, List.map, List.drop, List.take, List.length, List.foldl, List.append_eq, List.nil_append, List.cons_append, List.getD_cons_zero, List.getD_cons_succ, reduceIte, Nat.reduceEqDiff, Nat.reduceAdd, Nat.reduceLeDiff, true_and, and_true, Bool.not_true, Bool.not_false, Bool.and_true, Bool.true_and, Bool.and_self, reduceCtorEq, true_implies, false_implies, implies_true, decide_eq_true_eq, Option.map_some, fpOf, fpX, SOp.xs, oX, refs, refsL, dom, disj, List.all_nil, List.all_cons, List.contains_cons, List.contains_nil, Nat.reduceBEq, Bool.or_false, Bool.false_or, List.append_nil, Bool.not_false, Bool.not_true, List.forall_mem_cons, fm0, List.set, Nat.reduceLT, ne_eq, not_false_eq_true, not_true_eq_false
, ret1, ret1N, keep0, keep1, rf_int, rf_bool, rf_str, rf_sl, rf_agg, rf_tup, rfL0, rfL1, re_t, re_cN, re_L0, re_L1, ret_tup, ret_one, decide_true, AV.bool.injEq, AV.int.injEq, Nat.reduceLeDiff, Bool.true_eq, Bool.false_eq, decide_eq_true_eq, decide_eq_false_iff_not, t_l23Low, t_l23High, t_l23Most, t_l21Min, t_l21Max, List.length_map, Stp7.row, Span2.row, span_eta, Int.toNat_natCast, toNat_pred, un_stp, take_rr, flatOk, noref, appE, rowsOf, ghost, path_eta, List.length_range, Nat.zero_add, Nat.sub_zero, set_lo, set_hi, toNat_succ, List.length_set]
      have hcan : p.can := fun j hj => hd.2 j (by omega) hj
      have hmm : p.mids d = (List.range (p.l.length + 1)).map p.span := List.map_congr_left fun j hj => if_pos (by omega)
      exact ⟨fun h => absurd h (by decide), fun _ => ⟨by rw [Path5.spans, if_pos hcan, hmm, List.take_of_length_le (by simp)], hcan⟩⟩
end Go.Ve

namespace Go.Ve
open Go.Proofs
set_option linter.unusedSimpArgs false
set_option linter.unusedVariables false
set_option maxRecDepth 100000
theorem c_bound (q s : Int) (t : Nat) (l : List Stp7) (f b k : Int) (hp : 0 ≤ k ∧ k ≤ l.length) : Contract P 55 [.agg [.int .i64 q, .int .i64 s, .sl t 7 (l.map Stp7.row), .int .i64 f, .int .i64 b], .int .i64 k] [] (.tup [.int .i64 (Path5.low ⟨q, s, l, f, b⟩ k.toNat), .int .i64 (Path5.high ⟨q, s, l, f, b⟩ k.toNat)]) [] := by
  refine fn_sound (Env.nil P) hm k_impl_FlyPath_bound (Nat.le_of_ble_eq_true rfl) rfl ?_
  unfold s_impl_FlyPath_bound
  simp only [w_skip, w_rg, w_rgd, w_seq, w_cond, w_block, w_loop, w_exit, w_ret, w_gh, w_rg0, w_rg1, w_rgT, w_rgF, w_run, w_psd, w_und, w_dr0, w_dr1, w_drT, w_drF, w_drRun, w_drPsd, w_drUnd, w_drKn, w_drKs, w_putK, w_trimK, w_thenN, w_thenE, w_thenR, w_scope, w_label, w_blkN, w_blkE, w_blkR, w_call, w_effK, brU_true, brU_false, brU_u, brU_not, brU_and, brU_or, brU_dec, brU_eq, brU_ne, br_true, br_false, br_not, br_and, br_or, br_dec, br_eq, br_ne, w_getE0, w_getE1, w_setE0, w_setE1, w_dropE0, w_dropE1, w_drop0, w_drop1, w_getM0, w_getM1, w_setM0, w_setM1, ev_v, ev_c, w_putS, w_putN, w_lit, w_apU0, w_apU1, w_apU2, w_trim, enumE0, enumE1, w_callWp, w_callA0, w_callA1, w_R0, w_R1, w_R2, w_T2, w_callL, w_callT, w_T1, w_T0, o_mv, o_newnil, o_pick, o_bin, o_binN, o_neg, o_not, o_eqB, o_eqS, o_conv, o_alloc, o_box, o_load1, o_loadN, o_store, o_nilck, o_faddr, o_field1, o_fieldN, o_iaddr, o_istr, o_slStr, o_slSl, o_lenS, o_lenL, o_mx, o_mn, o_ext, o_build, o_lit, o_litOwn, o_app, o_mk, o_mvfrz, l_int, l_bool, l_str, l_agg, l_sl, l_own, l_ptr, l_pp, i_int, i_bool, i_str, i_sl, i_own, i_ptr, i_pp, all0, all1, e_ok1, eff, effBin, effBinN, ld_ptr, ld_pp, ld_elt, ia_own, ia_arr, el_1, el_N, load1K, faddrE, r_iaddr, sg_S, sg_c, sg_n, purL, pur, List.map, List.drop, List.take, List.length, List.foldl, List.append_eq, List.nil_append, List.cons_append, List.getD_cons_zero, List.getD_cons_succ, reduceIte, Nat.reduceEqDiff, Nat.reduceAdd, Nat.reduceLeDiff, true_and, and_true, Bool.not_true, Bool.not_false, Bool.and_true, Bool.true_and, Bool.and_self, reduceCtorEq, true_implies, false_implies, implies_true, decide_eq_true_eq, Option.map_some, fpOf, fpX, SOp.xs, oX, refs, refsL, dom, disj, List.all_nil, List.all_cons, List.contains_cons, List.contains_nil, Nat.reduceBEq, Bool.or_false, Bool.false_or, List.append_nil, Bool.not_false, Bool.not_true, List.forall_mem_cons, fm0, List.set, Nat.reduceLT, ne_eq, not_false_eq_true, not_true_eq_false
, ret1, ret1N, keep0, keep1, rf_int, rf_bool, rf_str, rf_sl, rf_agg, rf_tup, rfL0, rfL1, re_t, re_cN, re_L0, re_L1, ret_tup, ret_one, decide_true, AV.bool.injEq, AV.int.injEq, Nat.reduceLeDiff, Bool.true_eq, Bool.false_eq, decide_eq_true_eq, decide_eq_false_iff_not, List.length_map, Stp7.row]
  simp only [Path5.low, Path5.high]
  refine ⟨fun h => ?_, fun h => ?_⟩
  · rw [if_neg (by omega), if_neg (by omega)]; exact ⟨rfl, rfl⟩
  · rw [if_pos (by omega), if_pos (by omega)]; exact ⟨by omega, by omega, by omega, by omega, rfl, rfl⟩
def t_bound : List AV → Option (Prop × AV)
  | [.agg [.int .i64 q, .int .i64 s, .sl t 7 xs, .int .i64 f, .int .i64 b], .int .i64 k] => some ((xs.map unStp).map Stp7.row = xs ∧ (let l := xs.map unStp; 0 ≤ k ∧ k ≤ l.length), let l := xs.map unStp; .tup [.int .i64 (Path5.low ⟨q, s, l, f, b⟩ k.toNat), .int .i64 (Path5.high ⟨q, s, l, f, b⟩ k.toNat)])
  | _ => none
theorem h_bound : ∀ args p v, t_bound args = some (p, v) → p → Contract P 55 args [] v [] ∧ noref v = true ∧ No99 v := by
  intro args p v h1 h2
  unfold t_bound at h1
  split at h1
  · rename_i q s t xs f b k
    cases h1
    have := c_bound q s t (xs.map unStp) f b k h2.2
    rw [h2.1] at this
    exact ⟨this, rfl, trivial, trivial, trivial⟩
  · cases h1
def irow (n : Int) : List AV := [.int .i64 n]
def unI : List AV → Int
  | [.int _ n] => n
  | _ => 0
theorem un_i (l : List Int) : (l.map irow).map unI = l := by
  rw [List.map_map]; exact List.map_id'' (fun s => rfl) l
theorem getD_range {g : Nat → Span2} {m k : Nat} (h : k < m) : ((List.range m).map g).getD k default = g k := by simp [h]
theorem set_range {g : Nat → Span2} {m k : Nat} {x : Span2} : ((List.range m).map g).set k x = (List.range m).map fun j => if j = k then x else g j := by
  refine List.ext_getElem (by simp) fun j h1 h2 => ?_
  by_cases e : j = k
  · subst e; simp
  · simp [e, List.getElem_set_ne (Ne.symm e)]
/-- What the program starts from. -/
def Path5.ini (p : Path5) (bg : List Int) (k : Nat) : Span2 := if k < bg.length then ⟨max (p.low k) (bg.getD k default), min (p.high k) (bg.getD k default)⟩ else ⟨p.low k, p.high k⟩
def sp0 (p : Path5) (bg : List Int) (k j : Nat) : Span2 := if j < k then p.ini bg j else ⟨0, 0⟩
def F_sp0 (p : Path5) (t t' : Nat) (bg : List Int) (k : Nat) : St := ⟨[(1, .sl t' 1 (bg.map irow)), (2, .ptr 102 0), (6, .int .i64 p.l.length), (7, .own 118 0 0 (p.l.length + 1)), (20, .int .i64 ((p.l.length + 1 : Nat) : Int)), (21, .int .i64 k)],
  [(102, .box [.int .i64 p.q, .int .i64 p.s, .sl t 7 (p.l.map Stp7.row), .int .i64 p.f, .int .i64 p.b]), (118, .arr 38 0 2 (((List.range (p.l.length + 1)).map (sp0 p bg k)).map Span2.row))]⟩
theorem br_hold {s : Stp7} {A B : St → Prop} {sa sb : St} : br (.bool s.hold) A sa B sb = ((s.hold = true → A sa) ∧ (s.hold = false → B sb)) := (rfl)
/-- Ahead, as the program does it. -/
def Path5.wf (p : Path5) (bg : List Int) : Nat → Span2
  | 0 => p.ini bg 0
  | k + 1 => ⟨max (p.ini bg (k + 1)).lo (IntKind.i64.wrap ((p.wf bg k).lo + p.q)), if (p.l.getD k default).hold then (p.ini bg (k + 1)).hi else min (p.ini bg (k + 1)).hi (IntKind.i64.wrap ((p.wf bg k).hi + p.s))⟩
def sp1 (p : Path5) (bg : List Int) (k j : Nat) : Span2 := if j < k then p.wf bg j else p.ini bg j
def F_sp1 (p : Path5) (t : Nat) (bg : List Int) (k : Nat) : St := ⟨[(2, .ptr 102 0), (6, .int .i64 p.l.length), (7, .own 118 0 0 (p.l.length + 1)), (9, .int .i64 k)],
  [(102, .box [.int .i64 p.q, .int .i64 p.s, .sl t 7 (p.l.map Stp7.row), .int .i64 p.f, .int .i64 p.b]), (118, .arr 38 0 2 (((List.range (p.l.length + 1)).map (sp1 p bg k)).map Span2.row))]⟩
/-- Back again, as the program does it. -/
def Path5.wb (p : Path5) (bg : List Int) : Nat → Span2
  | 0 => p.wf bg p.l.length
  | d + 1 => ⟨if (p.l.getD (p.l.length - (d + 1)) default).hold then (p.wf bg (p.l.length - (d + 1))).lo else max (p.wf bg (p.l.length - (d + 1))).lo (IntKind.i64.wrap ((p.wb bg d).lo - p.s)), min (p.wf bg (p.l.length - (d + 1))).hi (IntKind.i64.wrap ((p.wb bg d).hi - p.q))⟩
def Path5.wsp (p : Path5) (bg : List Int) (j : Nat) : Span2 := p.wb bg (p.l.length - j)
def Path5.wcan (p : Path5) (bg : List Int) : Prop := ∀ k, k < p.l.length + 1 → (p.wsp bg k).lo ≤ (p.wsp bg k).hi
instance (p : Path5) (bg : List Int) : Decidable (p.wcan bg) := by unfold Path5.wcan; infer_instance
def Path5.wspans (p : Path5) (bg : List Int) : List Span2 := if p.wcan bg then (List.range (p.l.length + 1)).map (p.wsp bg) else []
def F_sp3 (p : Path5) (t : Nat) (bg : List Int) (k : Nat) : St := ⟨[(7, .own 118 0 0 (p.l.length + 1)), (177, .own 118 0 0 (p.l.length + 1)), (178, .int .i64 ((p.l.length + 1 : Nat) : Int)), (179, .int .i64 k)],
  [(118, .arr 38 0 2 (((List.range (p.l.length + 1)).map (p.wsp bg)).map Span2.row))]⟩
def sp2 (p : Path5) (bg : List Int) (d j : Nat) : Span2 := if p.l.length - d ≤ j then p.wsp bg j else p.wf bg j
def F_sp2 (p : Path5) (t : Nat) (bg : List Int) (d : Nat) : St := ⟨[(2, .ptr 102 0), (7, .own 118 0 0 (p.l.length + 1)), (10, .int .i64 ((p.l.length : Int) - 1 - d))],
  [(102, .box [.int .i64 p.q, .int .i64 p.s, .sl t 7 (p.l.map Stp7.row), .int .i64 p.f, .int .i64 p.b]), (118, .arr 38 0 2 (((List.range (p.l.length + 1)).map (sp2 p bg d)).map Span2.row))]⟩
theorem max_if (a b : Int) : (if b > a then b else a) = max a b := by omega
theorem c_spans (p : Path5) (t t' : Nat) (bg : List Int) (hn : p.l.length ≤ 40) (hb : bg.length ≤ p.l.length) : Contract P 53 [.agg [.int .i64 p.q, .int .i64 p.s, .sl t 7 (p.l.map Stp7.row), .int .i64 p.f, .int .i64 p.b], .sl t' 1 (bg.map irow)] [] (.tup [.sl 0 2 ((p.wspans bg).map Span2.row), .bool (decide (p.wcan bg))]) [] := by
  refine fn_sound ((Env.nil P).add 55 t_bound h_bound) hm k_impl_FlyPath_spans (Nat.le_of_ble_eq_true rfl) rfl ?_
  unfold s_impl_FlyPath_spans
  simp only [w_skip, w_rg, w_rgd, w_seq, w_cond, w_block, w_loop, w_exit, w_ret, w_gh, w_rg0, w_rg1, w_rgT, w_rgF, w_run, w_psd, w_und, w_dr0, w_dr1, w_drT, w_drF, w_drRun, w_drPsd, w_drUnd, w_drKn, w_drKs, w_putK, w_trimK, w_thenN, w_thenE, w_thenR, w_scope, w_label, w_blkN, w_blkE, w_blkR, w_call, w_effK, brU_true, brU_false, brU_u, brU_not, brU_and, brU_or, brU_dec, brU_eq, brU_ne, br_true, br_false, br_not, br_and, br_or, br_dec, br_eq, br_ne, w_getE0, w_getE1, w_setE0, w_setE1, w_dropE0, w_dropE1, w_drop0, w_drop1, w_getM0, w_getM1, w_setM0, w_setM1, ev_v, ev_c, w_putS, w_putN, w_lit, w_apU0, w_apU1, w_apU2, w_trim, enumE0, enumE1, w_callWp, w_callA0, w_callA1, w_R0, w_R1, w_R2, w_T2, w_callL, w_callT, w_T1, w_T0, o_mv, o_newnil, o_pick, o_bin, o_binN, o_neg, o_not, o_eqB, o_eqS, o_conv, o_alloc, o_box, o_load1, o_loadN, o_store, o_nilck, o_faddr, o_field1, o_fieldN, o_iaddr, o_istr, o_slStr, o_slSl, o_lenS, o_lenL, o_mx, o_mn, o_ext, o_build, o_lit, o_litOwn, o_app, o_mk, o_mvfrz, l_int, l_bool, l_str, l_agg, l_sl, l_own, l_ptr, l_pp, i_int, i_bool, i_str, i_sl, i_own, i_ptr, i_pp, all0, all1, e_ok1, eff, effBin, effBinN, ld_ptr, ld_pp, ld_elt, ia_own, ia_arr, el_1, el_N, load1K, faddrE, r_iaddr, sg_S, sg_c, sg_n, purL, pur, List.map, List.drop, List.take, List.length, List.foldl, List.append_eq, List.nil_append, List.cons_append, List.getD_cons_zero, List.getD_cons_succ, reduceIte, Nat.reduceEqDiff, Nat.reduceAdd, Nat.reduceLeDiff, true_and, and_true, Bool.not_true, Bool.not_false, Bool.and_true, Bool.true_and, Bool.and_self, reduceCtorEq, true_implies, false_implies, implies_true, decide_eq_true_eq, Option.map_some, fpOf, fpX, SOp.xs, oX, refs, refsL, dom, disj, List.all_nil, List.all_cons, List.contains_cons, List.contains_nil, Nat.reduceBEq, Bool.or_false, Bool.false_or, List.append_nil, Bool.not_false, Bool.not_true, List.forall_mem_cons, fm0, List.set, Nat.reduceLT, ne_eq, not_false_eq_true, not_true_eq_false
, ret1, ret1N, keep0, keep1, rf_int, rf_bool, rf_str, rf_sl, rf_agg, rf_tup, rfL0, rfL1, re_t, re_cN, re_L0, re_L1, ret_tup, ret_one, decide_true, AV.bool.injEq, AV.int.injEq, Nat.reduceLeDiff, Bool.true_eq, Bool.false_eq, decide_eq_true_eq, decide_eq_false_iff_not, t_bound, List.length_map, Stp7.row, Span2.row, irow, span_eta, path_eta, Int.toNat_natCast, toNat_pred, toNat_succ, un_stp, flatOk, noref, ghost, List.length_range, Nat.zero_add, Nat.sub_zero, set_lo, set_hi, List.length_set, min_if, max_if, br_hold]
  have i0 : List.replicate (p.l.length + 1) [AV.int .i64 0, AV.int .i64 0] = ((List.range (p.l.length + 1)).map (sp0 p bg 0)).map Span2.row := by
    refine List.ext_getElem (by simp) fun j h1 h2 => by simp [sp0, Span2.row]
  refine ⟨by omega, by omega, loop_of (F_sp0 p t t' bg) (fun k => k ≤ p.l.length + 1) (fun k => p.l.length + 1 - k) 0 ⟨⟨.inr rfl, .inr rfl, .inr rfl, .inr rfl, .inr rfl, .inr rfl, trivial⟩, ⟨rfl, by rw [← i0]; rfl, trivial⟩, rfl, rfl⟩ (Nat.zero_le _) ?_⟩
  intro k hk
  unfold l_impl_FlyPath_spans_0 F_sp0
  simp only [w_skip, w_rg, w_rgd, w_seq, w_cond, w_block, w_loop, w_exit, w_ret, w_gh, w_rg0, w_rg1, w_rgT, w_rgF, w_run, w_psd, w_und, w_dr0, w_dr1, w_drT, w_drF, w_drRun, w_drPsd, w_drUnd, w_drKn, w_drKs, w_putK, w_trimK, w_thenN, w_thenE, w_thenR, w_scope, w_label, w_blkN, w_blkE, w_blkR, w_call, w_effK, brU_true, brU_false, brU_u, brU_not, brU_and, brU_or, brU_dec, brU_eq, brU_ne, br_true, br_false, br_not, br_and, br_or, br_dec, br_eq, br_ne, w_getE0, w_getE1, w_setE0, w_setE1, w_dropE0, w_dropE1, w_drop0, w_drop1, w_getM0, w_getM1, w_setM0, w_setM1, ev_v, ev_c, w_putS, w_putN, w_lit, w_apU0, w_apU1, w_apU2, w_trim, enumE0, enumE1, w_callWp, w_callA0, w_callA1, w_R0, w_R1, w_R2, w_T2, w_callL, w_callT, w_T1, w_T0, o_mv, o_newnil, o_pick, o_bin, o_binN, o_neg, o_not, o_eqB, o_eqS, o_conv, o_alloc, o_box, o_load1, o_loadN, o_store, o_nilck, o_faddr, o_field1, o_fieldN, o_iaddr, o_istr, o_slStr, o_slSl, o_lenS, o_lenL, o_mx, o_mn, o_ext, o_build, o_lit, o_litOwn, o_app, o_mk, o_mvfrz, l_int, l_bool, l_str, l_agg, l_sl, l_own, l_ptr, l_pp, i_int, i_bool, i_str, i_sl, i_own, i_ptr, i_pp, all0, all1, e_ok1, eff, effBin, effBinN, ld_ptr, ld_pp, ld_elt, ia_own, ia_arr, el_1, el_N, load1K, faddrE, r_iaddr, sg_S, sg_c, sg_n, purL, pur, List.map, List.drop, List.take, List.length, List.foldl, List.append_eq, List.nil_append, List.cons_append, List.getD_cons_zero, List.getD_cons_succ, reduceIte, Nat.reduceEqDiff, Nat.reduceAdd, Nat.reduceLeDiff, true_and, and_true, Bool.not_true, Bool.not_false, Bool.and_true, Bool.true_and, Bool.and_self, reduceCtorEq, true_implies, false_implies, implies_true, decide_eq_true_eq, Option.map_some, fpOf, fpX, SOp.xs, oX, refs, refsL, dom, disj, List.all_nil, List.all_cons, List.contains_cons, List.contains_nil, Nat.reduceBEq, Bool.or_false, Bool.false_or, List.append_nil, Bool.not_false, Bool.not_true, List.forall_mem_cons, fm0, List.set, Nat.reduceLT, ne_eq, not_false_eq_true, not_true_eq_false
, ret1, ret1N, keep0, keep1, rf_int, rf_bool, rf_str, rf_sl, rf_agg, rf_tup, rfL0, rfL1, re_t, re_cN, re_L0, re_L1, ret_tup, ret_one, decide_true, AV.bool.injEq, AV.int.injEq, Nat.reduceLeDiff, Bool.true_eq, Bool.false_eq, decide_eq_true_eq, decide_eq_false_iff_not, t_bound, List.length_map, Stp7.row, Span2.row, irow, span_eta, path_eta, Int.toNat_natCast, toNat_pred, toNat_succ, un_stp, flatOk, noref, ghost, List.length_range, Nat.zero_add, Nat.sub_zero, set_lo, set_hi, List.length_set, min_if, max_if, br_hold]
  refine ⟨fun h1 => ?_, fun h1 => ?_⟩
  · have h1' : k < p.l.length + 1 := by omega
    have rw0 : ∀ (g : Nat → Span2), g = sp0 p bg (k + 1) → some (AObj.arr 38 0 2 (List.map Span2.row (List.map g (List.range (p.l.length + 1))))) = some (AObj.arr 38 0 2 (List.map Span2.row (List.map (sp0 p bg (k + 1)) (List.range (p.l.length + 1))))) := fun g h => by rw [h]
    simp only [set_range, getD_range h1', reduceIte]
    refine ⟨by omega, by omega, by omega, fun h2 => ⟨by omega, by omega, by omega, by omega, by omega, by omega, by omega, by omega, by omega, by omega, by omega, loopK_of (k + 1) ⟨⟨.inr rfl, .inr rfl, .inr rfl, .inr rfl, .inr rfl, .inr rfl, trivial⟩, ⟨rfl, rw0 _ (funext fun j => ?_), trivial⟩, rfl, rfl⟩ h1' (by omega)⟩, fun h2 => ⟨by omega, loopK_of (k + 1) ⟨⟨.inr rfl, .inr rfl, .inr rfl, .inr rfl, .inr rfl, .inr rfl, trivial⟩, ⟨rfl, rw0 _ (funext fun j => ?_), trivial⟩, rfl, rfl⟩ h1' (by omega)⟩⟩
    · by_cases e : j = k
      · subst e; simp only [reduceIte, sp0, Path5.ini, if_pos (show j < j + 1 by omega), if_pos (show j < bg.length by omega)]
      · simp only [if_neg e, sp0, show (j < k + 1) = (j < k) from propext (by omega)]
    · by_cases e : j = k
      · subst e; simp only [reduceIte, sp0, Path5.ini, if_pos (show j < j + 1 by omega), if_neg (show ¬ j < bg.length by omega)]
      · simp only [if_neg e, sp0, show (j < k + 1) = (j < k) from propext (by omega)]
  · have hkn : k = p.l.length + 1 := by omega
    subst hkn
    refine loop_of (F_sp1 p t bg) (fun k => 1 ≤ k ∧ k ≤ p.l.length + 1) (fun k => p.l.length + 1 - k) 1 ⟨⟨.inr rfl, .inr rfl, .inr rfl, .inr rfl, trivial⟩, ⟨rfl, congrArg (fun g => some (AObj.arr 38 0 2 (List.map Span2.row g))) (List.map_congr_left fun j hj => ?_), trivial⟩, rfl, rfl⟩ ⟨by omega, by omega⟩ ?_
    · have := List.mem_range.1 hj
      by_cases e : j = 0
      · subst e; simp [sp0, sp1, Path5.wf]
      · simp only [sp0, sp1, if_pos this, if_neg (show ¬ j < 1 by omega)]
    intro k hk
    unfold l_impl_FlyPath_spans_1 F_sp1
    simp only [w_skip, w_rg, w_rgd, w_seq, w_cond, w_block, w_loop, w_exit, w_ret, w_gh, w_rg0, w_rg1, w_rgT, w_rgF, w_run, w_psd, w_und, w_dr0, w_dr1, w_drT, w_drF, w_drRun, w_drPsd, w_drUnd, w_drKn, w_drKs, w_putK, w_trimK, w_thenN, w_thenE, w_thenR, w_scope, w_label, w_blkN, w_blkE, w_blkR, w_call, w_effK, brU_true, brU_false, brU_u, brU_not, brU_and, brU_or, brU_dec, brU_eq, brU_ne, br_true, br_false, br_not, br_and, br_or, br_dec, br_eq, br_ne, w_getE0, w_getE1, w_setE0, w_setE1, w_dropE0, w_dropE1, w_drop0, w_drop1, w_getM0, w_getM1, w_setM0, w_setM1, ev_v, ev_c, w_putS, w_putN, w_lit, w_apU0, w_apU1, w_apU2, w_trim, enumE0, enumE1, w_callWp, w_callA0, w_callA1, w_R0, w_R1, w_R2, w_T2, w_callL, w_callT, w_T1, w_T0, o_mv, o_newnil, o_pick, o_bin, o_binN, o_neg, o_not, o_eqB, o_eqS, o_conv, o_alloc, o_box, o_load1, o_loadN, o_store, o_nilck, o_faddr, o_field1, o_fieldN, o_iaddr, o_istr, o_slStr, o_slSl, o_lenS, o_lenL, o_mx, o_mn, o_ext, o_build, o_lit, o_litOwn, o_app, o_mk, o_mvfrz, l_int, l_bool, l_str, l_agg, l_sl, l_own, l_ptr, l_pp, i_int, i_bool, i_str, i_sl, i_own, i_ptr, i_pp, all0, all1, e_ok1, eff, effBin, effBinN, ld_ptr, ld_pp, ld_elt, ia_own, ia_arr, el_1, el_N, load1K, faddrE, r_iaddr, sg_S, sg_c, sg_n, purL, pur, List.map, List.drop, List.take, List.length, List.foldl, List.append_eq, List.nil_append, List.cons_append, List.getD_cons_zero, List.getD_cons_succ, reduceIte, Nat.reduceEqDiff, Nat.reduceAdd, Nat.reduceLeDiff, true_and, and_true, Bool.not_true, Bool.not_false, Bool.and_true, Bool.true_and, Bool.and_self, reduceCtorEq, true_implies, false_implies, implies_true, decide_eq_true_eq, Option.map_some, fpOf, fpX, SOp.xs, oX, refs, refsL, dom, disj, List.all_nil, List.all_cons, List.contains_cons, List.contains_nil, Nat.reduceBEq, Bool.or_false, Bool.false_or, List.append_nil, Bool.not_false, Bool.not_true, List.forall_mem_cons, fm0, List.set, Nat.reduceLT, ne_eq, not_false_eq_true, not_true_eq_false
, ret1, ret1N, keep0, keep1, rf_int, rf_bool, rf_str, rf_sl, rf_agg, rf_tup, rfL0, rfL1, re_t, re_cN, re_L0, re_L1, ret_tup, ret_one, decide_true, AV.bool.injEq, AV.int.injEq, Nat.reduceLeDiff, Bool.true_eq, Bool.false_eq, decide_eq_true_eq, decide_eq_false_iff_not, t_bound, List.length_map, Stp7.row, Span2.row, irow, span_eta, path_eta, Int.toNat_natCast, toNat_pred, toNat_succ, un_stp, flatOk, noref, ghost, List.length_range, Nat.zero_add, Nat.sub_zero, set_lo, set_hi, List.length_set, min_if, max_if, br_hold]
    refine ⟨fun h1 => ?_, fun h1 => ?_⟩
    · obtain ⟨i, rfl⟩ : ∃ i, k = i + 1 := ⟨k - 1, by omega⟩
      have h1' : i + 1 < p.l.length + 1 := by omega
      have h2' : i < p.l.length + 1 := by omega
      have ne : ¬ i = i + 1 := by omega
      have rw0 : ∀ (g : Nat → Span2), g = sp1 p bg (i + 1 + 1) → some (AObj.arr 38 0 2 (List.map Span2.row (List.map g (List.range (p.l.length + 1))))) = some (AObj.arr 38 0 2 (List.map Span2.row (List.map (sp1 p bg (i + 1 + 1)) (List.range (p.l.length + 1))))) := fun g h => by rw [h]
      simp only [Nat.add_sub_cancel, set_range, getD_range h1', getD_range h2', reduceIte, if_neg ne]
      refine ⟨by omega, by omega, by omega, by omega, by omega, by omega, by omega, by omega, by omega, fun h2 => ⟨by omega, loopK_of (i + 1 + 1) ⟨⟨.inr rfl, .inr rfl, .inr rfl, .inr rfl, trivial⟩, ⟨rfl, rw0 _ (funext fun j => ?_), trivial⟩, rfl, rfl⟩ (by omega) (by omega)⟩,
        fun h2 => ⟨by omega, by omega, by omega, by omega, by omega, by omega, by omega, loopK_of (i + 1 + 1) ⟨⟨.inr rfl, .inr rfl, .inr rfl, .inr rfl, trivial⟩, ⟨rfl, rw0 _ (funext fun j => ?_), trivial⟩, rfl, rfl⟩ (by omega) (by omega)⟩⟩
      · by_cases e : j = i + 1
        · subst e; simp only [reduceIte, sp1, if_pos (show i + 1 < i + 1 + 1 by omega), if_pos (show i < i + 1 by omega), if_neg (show ¬ i + 1 < i + 1 by omega), Path5.wf, h2]
        · simp only [if_neg e, sp1, show (j < i + 1 + 1) = (j < i + 1) from propext (by omega)]
      · by_cases e : j = i + 1
        · subst e; simp only [reduceIte, sp1, if_pos (show i + 1 < i + 1 + 1 by omega), if_pos (show i < i + 1 by omega), if_neg (show ¬ i + 1 < i + 1 by omega), Path5.wf, h2, Bool.false_eq_true]
        · simp only [if_neg e, sp1, show (j < i + 1 + 1) = (j < i + 1) from propext (by omega)]
    · have hkn : k = p.l.length + 1 := by omega
      subst hkn
      have m0 : (List.range (p.l.length + 1)).map (sp1 p bg (p.l.length + 1)) = (List.range (p.l.length + 1)).map (sp2 p bg 0) := by
        refine List.map_congr_left fun j hj => ?_
        have := List.mem_range.1 hj
        simp only [sp1, if_pos this, sp2]
        by_cases e : j = p.l.length
        · subst e; simp [Path5.wsp, Path5.wb]
        · rw [if_neg (by omega)]
      refine ⟨by omega, loop_of (F_sp2 p t bg) (fun d => d ≤ p.l.length) (fun d => p.l.length - d) 0 ⟨⟨.inr rfl, .inr rfl, .inr (by simp [w_getE1]), trivial⟩, ⟨rfl, congrArg (fun g => some (AObj.arr 38 0 2 (List.map Span2.row g))) m0, trivial⟩, rfl, rfl⟩ (Nat.zero_le _) ?_⟩
      intro d hd
      unfold l_impl_FlyPath_spans_2 F_sp2
      by_cases hdn : d < p.l.length
      · obtain ⟨k, hk'⟩ : ∃ k, p.l.length = k + 1 + d := ⟨p.l.length - 1 - d, by omega⟩
        have e8 : (p.l.length : Int) - 1 - d = k := by omega
        have e9 : (p.l.length : Int) - 1 - ((d + 1 : Nat) : Int) = (k : Int) - 1 := by omega
        have h1' : k + 1 < p.l.length + 1 := by omega
        have h2' : k < p.l.length + 1 := by omega
        have ne : ¬ k + 1 = k := by omega
        rw [e8]
        simp only [w_skip, w_rg, w_rgd, w_seq, w_cond, w_block, w_loop, w_exit, w_ret, w_gh, w_rg0, w_rg1, w_rgT, w_rgF, w_run, w_psd, w_und, w_dr0, w_dr1, w_drT, w_drF, w_drRun, w_drPsd, w_drUnd, w_drKn, w_drKs, w_putK, w_trimK, w_thenN, w_thenE, w_thenR, w_scope, w_label, w_blkN, w_blkE, w_blkR, w_call, w_effK, brU_true, brU_false, brU_u, brU_not, brU_and, brU_or, brU_dec, brU_eq, brU_ne, br_true, br_false, br_not, br_and, br_or, br_dec, br_eq, br_ne, w_getE0, w_getE1, w_setE0, w_setE1, w_dropE0, w_dropE1, w_drop0, w_drop1, w_getM0, w_getM1, w_setM0, w_setM1, ev_v, ev_c, w_putS, w_putN, w_lit, w_apU0, w_apU1, w_apU2, w_trim, enumE0, enumE1, w_callWp, w_callA0, w_callA1, w_R0, w_R1, w_R2, w_T2, w_callL, w_callT, w_T1, w_T0, o_mv, o_newnil, o_pick, o_bin, o_binN, o_neg, o_not, o_eqB, o_eqS, o_conv, o_alloc, o_box, o_load1, o_loadN, o_store, o_nilck, o_faddr, o_field1, o_fieldN, o_iaddr, o_istr, o_slStr, o_slSl, o_lenS, o_lenL, o_mx, o_mn, o_ext, o_build, o_lit, o_litOwn, o_app, o_mk, o_mvfrz, l_int, l_bool, l_str, l_agg, l_sl, l_own, l_ptr, l_pp, i_int, i_bool, i_str, i_sl, i_own, i_ptr, i_pp, all0, all1, e_ok1, eff, effBin, effBinN, ld_ptr, ld_pp, ld_elt, ia_own, ia_arr, el_1, el_N, load1K, faddrE, r_iaddr, sg_S, sg_c, sg_n, purL, pur, List.map, List.drop, List.take, List.length, List.foldl, List.append_eq, List.nil_append, List.cons_append, List.getD_cons_zero, List.getD_cons_succ, reduceIte, Nat.reduceEqDiff, Nat.reduceAdd, Nat.reduceLeDiff, true_and, and_true, Bool.not_true, Bool.not_false, Bool.and_true, Bool.true_and, Bool.and_self, reduceCtorEq, true_implies, false_implies, implies_true, decide_eq_true_eq, Option.map_some, fpOf, fpX, SOp.xs, oX, refs, refsL, dom, disj, List.all_nil, List.all_cons, List.contains_cons, List.contains_nil, Nat.reduceBEq, Bool.or_false, Bool.false_or, List.append_nil, Bool.not_false, Bool.not_true, List.forall_mem_cons, fm0, List.set, Nat.reduceLT, ne_eq, not_false_eq_true, not_true_eq_false
, ret1, ret1N, keep0, keep1, rf_int, rf_bool, rf_str, rf_sl, rf_agg, rf_tup, rfL0, rfL1, re_t, re_cN, re_L0, re_L1, ret_tup, ret_one, decide_true, AV.bool.injEq, AV.int.injEq, Nat.reduceLeDiff, Bool.true_eq, Bool.false_eq, decide_eq_true_eq, decide_eq_false_iff_not, t_bound, List.length_map, Stp7.row, Span2.row, irow, span_eta, path_eta, Int.toNat_natCast, toNat_pred, toNat_succ, un_stp, flatOk, noref, ghost, List.length_range, Nat.zero_add, Nat.sub_zero, set_lo, set_hi, List.length_set, min_if, max_if, br_hold]
        simp only [set_range, getD_range h1', getD_range h2', reduceIte, if_neg ne]
        have rw0 : ∀ (g : Nat → Span2), g = sp2 p bg (d + 1) → some (AObj.arr 38 0 2 (List.map Span2.row (List.map g (List.range (p.l.length + 1))))) = some (AObj.arr 38 0 2 (List.map Span2.row (List.map (sp2 p bg (d + 1)) (List.range (p.l.length + 1))))) := fun g h => by rw [h]
        have v0 : sp2 p bg d k = p.wf bg k := if_neg (by omega)
        have v1 : sp2 p bg d (k + 1) = p.wb bg d := by
          simp only [sp2, if_pos (show p.l.length - d ≤ k + 1 by omega), Path5.wsp, show p.l.length - (k + 1) = d by omega]
        have v2 : p.wsp bg k = p.wb bg (d + 1) := by simp only [Path5.wsp, show p.l.length - k = d + 1 by omega]
        have v3 : ∀ j, ¬ j = k → sp2 p bg (d + 1) j = sp2 p bg d j := fun j e => by
          simp only [sp2, show (p.l.length - (d + 1) ≤ j) = (p.l.length - d ≤ j) from propext (by omega)]
        have v4 : sp2 p bg (d + 1) k = p.wb bg (d + 1) := by simp only [sp2, if_pos (show p.l.length - (d + 1) ≤ k by omega), v2]
        simp only [v0, v1]
        refine ⟨fun _ => ⟨by omega, by omega, by omega, by omega, by omega, by omega, by omega, by omega, fun h2 => ⟨by omega, loopK_of (d + 1) ⟨⟨.inr rfl, .inr rfl, .inr (by rw [e9]; rfl), trivial⟩, ⟨rfl, rw0 _ (funext fun j => ?_), trivial⟩, rfl, rfl⟩ (by omega) (by omega)⟩,
          fun h2 => ⟨by omega, by omega, by omega, by omega, by omega, by omega, by omega, loopK_of (d + 1) ⟨⟨.inr rfl, .inr rfl, .inr (by rw [e9]; rfl), trivial⟩, ⟨rfl, rw0 _ (funext fun j => ?_), trivial⟩, rfl, rfl⟩ (by omega) (by omega)⟩⟩, fun h => absurd (by omega) h⟩
        · by_cases e : j = k
          · rw [if_pos e, e, v4]; simp only [Path5.wb, show p.l.length - (d + 1) = k by omega, h2, reduceIte]
          · rw [if_neg e, v3 j e]
        · by_cases e : j = k
          · rw [if_pos e, e, v4]; simp only [Path5.wb, show p.l.length - (d + 1) = k by omega, h2, reduceIte, Bool.false_eq_true]
          · rw [if_neg e, if_neg e, v3 j e]
      · have e8 : (p.l.length : Int) - 1 - d = -1 := by omega
        rw [e8]
        simp only [w_skip, w_rg, w_rgd, w_seq, w_cond, w_block, w_loop, w_exit, w_ret, w_gh, w_rg0, w_rg1, w_rgT, w_rgF, w_run, w_psd, w_und, w_dr0, w_dr1, w_drT, w_drF, w_drRun, w_drPsd, w_drUnd, w_drKn, w_drKs, w_putK, w_trimK, w_thenN, w_thenE, w_thenR, w_scope, w_label, w_blkN, w_blkE, w_blkR, w_call, w_effK, brU_true, brU_false, brU_u, brU_not, brU_and, brU_or, brU_dec, brU_eq, brU_ne, br_true, br_false, br_not, br_and, br_or, br_dec, br_eq, br_ne, w_getE0, w_getE1, w_setE0, w_setE1, w_dropE0, w_dropE1, w_drop0, w_drop1, w_getM0, w_getM1, w_setM0, w_setM1, ev_v, ev_c, w_putS, w_putN, w_lit, w_apU0, w_apU1, w_apU2, w_trim, enumE0, enumE1, w_callWp, w_callA0, w_callA1, w_R0, w_R1, w_R2, w_T2, w_callL, w_callT, w_T1, w_T0, o_mv, o_newnil, o_pick, o_bin, o_binN, o_neg, o_not, o_eqB, o_eqS, o_conv, o_alloc, o_box, o_load1, o_loadN, o_store, o_nilck, o_faddr, o_field1, o_fieldN, o_iaddr, o_istr, o_slStr, o_slSl, o_lenS, o_lenL, o_mx, o_mn, o_ext, o_build, o_lit, o_litOwn, o_app, o_mk, o_mvfrz, l_int, l_bool, l_str, l_agg, l_sl, l_own, l_ptr, l_pp, i_int, i_bool, i_str, i_sl, i_own, i_ptr, i_pp, all0, all1, e_ok1, eff, effBin, effBinN, ld_ptr, ld_pp, ld_elt, ia_own, ia_arr, el_1, el_N, load1K, faddrE, r_iaddr, sg_S, sg_c, sg_n, purL, pur, List.map, List.drop, List.take, List.length, List.foldl, List.append_eq, List.nil_append, List.cons_append, List.getD_cons_zero, List.getD_cons_succ, reduceIte, Nat.reduceEqDiff, Nat.reduceAdd, Nat.reduceLeDiff, true_and, and_true, Bool.not_true, Bool.not_false, Bool.and_true, Bool.true_and, Bool.and_self, reduceCtorEq, true_implies, false_implies, implies_true, decide_eq_true_eq, Option.map_some, fpOf, fpX, SOp.xs, oX, refs, refsL, dom, disj, List.all_nil, List.all_cons, List.contains_cons, List.contains_nil, Nat.reduceBEq, Bool.or_false, Bool.false_or, List.append_nil, Bool.not_false, Bool.not_true, List.forall_mem_cons, fm0, List.set, Nat.reduceLT, ne_eq, not_false_eq_true, not_true_eq_false
, ret1, ret1N, keep0, keep1, rf_int, rf_bool, rf_str, rf_sl, rf_agg, rf_tup, rfL0, rfL1, re_t, re_cN, re_L0, re_L1, ret_tup, ret_one, decide_true, AV.bool.injEq, AV.int.injEq, Nat.reduceLeDiff, Bool.true_eq, Bool.false_eq, decide_eq_true_eq, decide_eq_false_iff_not, t_bound, List.length_map, Stp7.row, Span2.row, irow, span_eta, path_eta, Int.toNat_natCast, toNat_pred, toNat_succ, un_stp, flatOk, noref, ghost, List.length_range, Nat.zero_add, Nat.sub_zero, set_lo, set_hi, List.length_set, min_if, max_if, br_hold]
        refine ⟨fun h => absurd h (by decide), fun _ => ?_⟩
        have m1 : (List.range (p.l.length + 1)).map (sp2 p bg d) = (List.range (p.l.length + 1)).map (p.wsp bg) := List.map_congr_left fun j hj => if_pos (by omega)
        refine loop_of (F_sp3 p t bg) (fun k => k ≤ p.l.length + 1 ∧ ∀ j, j < k → (p.wsp bg j).lo ≤ (p.wsp bg j).hi) (fun k => p.l.length + 1 - k) 0 ⟨⟨.inr rfl, .inr rfl, .inr rfl, .inr rfl, trivial⟩, ⟨congrArg (fun g => some (AObj.arr 38 0 2 (List.map Span2.row g))) m1, trivial⟩, rfl, rfl⟩ ⟨Nat.zero_le _, fun j hj => by omega⟩ ?_
        intro k hk
        unfold l_impl_FlyPath_spans_3 F_sp3
        simp only [w_skip, w_rg, w_rgd, w_seq, w_cond, w_block, w_loop, w_exit, w_ret, w_gh, w_rg0, w_rg1, w_rgT, w_rgF, w_run, w_psd, w_und, w_dr0, w_dr1, w_drT, w_drF, w_drRun, w_drPsd, w_drUnd, w_drKn, w_drKs, w_putK, w_trimK, w_thenN, w_thenE, w_thenR, w_scope, w_label, w_blkN, w_blkE, w_blkR, w_call, w_effK, brU_true, brU_false, brU_u, brU_not, brU_and, brU_or, brU_dec, brU_eq, brU_ne, br_true, br_false, br_not, br_and, br_or, br_dec, br_eq, br_ne, w_getE0, w_getE1, w_setE0, w_setE1, w_dropE0, w_dropE1, w_drop0, w_drop1, w_getM0, w_getM1, w_setM0, w_setM1, ev_v, ev_c, w_putS, w_putN, w_lit, w_apU0, w_apU1, w_apU2, w_trim, enumE0, enumE1, w_callWp, w_callA0, w_callA1, w_R0, w_R1, w_R2, w_T2, w_callL, w_callT, w_T1, w_T0, o_mv, o_newnil, o_pick, o_bin, o_binN, o_neg, o_not, o_eqB, o_eqS, o_conv, o_alloc, o_box, o_load1, o_loadN, o_store, o_nilck, o_faddr, o_field1, o_fieldN, o_iaddr, o_istr, o_slStr, o_slSl, o_lenS, o_lenL, o_mx, o_mn, o_ext, o_build, o_lit, o_litOwn, o_app, o_mk, o_mvfrz, l_int, l_bool, l_str, l_agg, l_sl, l_own, l_ptr, l_pp, i_int, i_bool, i_str, i_sl, i_own, i_ptr, i_pp, all0, all1, e_ok1, eff, effBin, effBinN, ld_ptr, ld_pp, ld_elt, ia_own, ia_arr, el_1, el_N, load1K, faddrE, r_iaddr, sg_S, sg_c, sg_n, purL, pur, List.map, List.drop, List.take, List.length, List.foldl, List.append_eq, List.nil_append, List.cons_append, List.getD_cons_zero, List.getD_cons_succ, reduceIte, Nat.reduceEqDiff, Nat.reduceAdd, Nat.reduceLeDiff, true_and, and_true, Bool.not_true, Bool.not_false, Bool.and_true, Bool.true_and, Bool.and_self, reduceCtorEq, true_implies, false_implies, implies_true, decide_eq_true_eq, Option.map_some, fpOf, fpX, SOp.xs, oX, refs, refsL, dom, disj, List.all_nil, List.all_cons, List.contains_cons, List.contains_nil, Nat.reduceBEq, Bool.or_false, Bool.false_or, List.append_nil, Bool.not_false, Bool.not_true, List.forall_mem_cons, fm0, List.set, Nat.reduceLT, ne_eq, not_false_eq_true, not_true_eq_false
, ret1, ret1N, keep0, keep1, rf_int, rf_bool, rf_str, rf_sl, rf_agg, rf_tup, rfL0, rfL1, re_t, re_cN, re_L0, re_L1, ret_tup, ret_one, decide_true, AV.bool.injEq, AV.int.injEq, Nat.reduceLeDiff, Bool.true_eq, Bool.false_eq, decide_eq_true_eq, decide_eq_false_iff_not, t_bound, List.length_map, Stp7.row, Span2.row, irow, span_eta, path_eta, Int.toNat_natCast, toNat_pred, toNat_succ, un_stp, flatOk, noref, ghost, List.length_range, Nat.zero_add, Nat.sub_zero, set_lo, set_hi, List.length_set, min_if, max_if, br_hold]
        refine ⟨fun h1 => ?_, fun h1 => ?_⟩
        · have h1' : k < p.l.length + 1 := by omega
          simp only [getD_range h1']
          refine ⟨by omega, by omega, fun h2 => ?_, fun h2 => ⟨by omega, loopK_of (k + 1) ⟨⟨.inr rfl, .inr rfl, .inr rfl, .inr rfl, trivial⟩, ⟨rfl, trivial⟩, rfl, rfl⟩ ⟨by omega, fun j hj => ?_⟩ (by omega)⟩⟩
          · have hq : ¬ p.wcan bg := fun hq => by have := hq k h1'; omega
            exact ⟨by rw [Path5.wspans, if_neg hq]; rfl, hq⟩
          · by_cases e : j = k
            · subst e; omega
            · exact hk.2 j (by omega)
        · have hq : p.wcan bg := fun j hj => hk.2 j (by omega)
          exact ⟨by rw [Path5.wspans, if_pos hq, List.take_of_length_le (by simp)], hq⟩
end Go.Ve

namespace Go.Ve
open Go.Proofs
set_option linter.unusedSimpArgs false
set_option linter.unusedVariables false
set_option maxRecDepth 100000
theorem c_l22Copy (p : Path5) (t : Nat) (hn : p.l.length ≤ 1048576) : Contract P 112 [.agg [.int .i64 p.q, .int .i64 p.s, .sl t 7 (p.l.map Stp7.row), .int .i64 p.f, .int .i64 p.b]] [] (.agg [.int .i64 p.q, .int .i64 p.s, .own 106 1 0 p.l.length, .int .i64 p.f, .int .i64 p.b]) [(106, .arr 64 1 7 (p.l.map Stp7.row))] := by
  refine fn_sound (Env.nil P) hm k_spec_l22Copy (Nat.le_of_ble_eq_true rfl) rfl ?_
  unfold s_spec_l22Copy
  simp only [w_skip, w_rg, w_rgd, w_seq, w_cond, w_block, w_loop, w_exit, w_ret, w_gh, w_rg0, w_rg1, w_rgT, w_rgF, w_run, w_psd, w_und, w_dr0, w_dr1, w_drT, w_drF, w_drRun, w_drPsd, w_drUnd, w_drKn, w_drKs, w_putK, w_trimK, w_thenN, w_thenE, w_thenR, w_scope, w_label, w_blkN, w_blkE, w_blkR, w_call, w_effK, brU_true, brU_false, brU_u, brU_not, brU_and, brU_or, brU_dec, brU_eq, brU_ne, br_true, br_false, br_not, br_and, br_or, br_dec, br_eq, br_ne, w_getE0, w_getE1, w_setE0, w_setE1, w_dropE0, w_dropE1, w_drop0, w_drop1, w_getM0, w_getM1, w_setM0, w_setM1, ev_v, ev_c, w_putS, w_putN, w_lit, w_apU0, w_apU1, w_apU2, w_trim, enumE0, enumE1, w_callWp, w_callA0, w_callA1, w_R0, w_R1, w_R2, w_T2, w_callL, w_callT, w_T1, w_T0, o_mv, o_newnil, o_pick, o_bin, o_binN, o_neg, o_not, o_eqB, o_eqS, o_conv, o_alloc, o_box, o_load1, o_loadN, o_store, o_nilck, o_faddr, o_field1, o_fieldN, o_iaddr, o_istr, o_slStr, o_slSl, o_lenS, o_lenL, o_mx, o_mn, o_ext, o_build, o_lit, o_litOwn, o_app, o_mk, o_mvfrz, l_int, l_bool, l_str, l_agg, l_sl, l_own, l_ptr, l_pp, i_int, i_bool, i_str, i_sl, i_own, i_ptr, i_pp, all0, all1, e_ok1, eff, effBin, effBinN, ld_ptr, ld_pp, ld_elt, ia_own, ia_arr, el_1, el_N, load1K, faddrE, r_iaddr, sg_S, sg_c, sg_n, purL, pur, List.map, List.drop, List.take, List.length, List.foldl, List.append_eq, List.nil_append, List.cons_append, List.getD_cons_zero, List.getD_cons_succ, reduceIte, Nat.reduceEqDiff, Nat.reduceAdd, Nat.reduceLeDiff, true_and, and_true, Bool.not_true, Bool.not_false, Bool.and_true, Bool.true_and, Bool.and_self, reduceCtorEq, true_implies, false_implies, implies_true, decide_eq_true_eq, Option.map_some, fpOf, fpX, SOp.xs, oX, refs, refsL, dom, disj, List.all_nil, List.all_cons, List.contains_cons, List.contains_nil, Nat.reduceBEq, Bool.or_false, Bool.false_or, List.append_nil, Bool.not_false, Bool.not_true, List.forall_mem_cons, fm0, List.set, Nat.reduceLT, ne_eq, not_false_eq_true, not_true_eq_false
, ret1, ret1N, keep0, keep1, rf_int, rf_bool, rf_str, rf_sl, rf_agg, rf_tup, rfL0, rfL1, re_t, re_cN, re_L0, re_L1, ret_tup, ret_one, decide_true, AV.bool.injEq, AV.int.injEq, Nat.reduceLeDiff, Bool.true_eq, Bool.false_eq, decide_eq_true_eq, decide_eq_false_iff_not, List.length_map, rowsOf, appE, ghost, retQ_eq, retOk, wkM, refsInO, keepB]
  simp only [Nat.zero_add]
  exact ⟨by omega, trivial, rfl, rfl⟩
theorem set_f {l : List Stp7} {i : Nat} {v : Int} : (l.map Stp7.row).set i (setSeg ((l.map Stp7.row).getD i []) 4 [.int .i64 v]) = (l.set i { l.getD i default with f := v }).map Stp7.row :=
  set_rows (α := Stp7) (f := Stp7.row) (fun s => { s with f := v }) fun x => by simp [Stp7.row, setSeg]
theorem set_b {l : List Stp7} {i : Nat} {v : Int} : (l.map Stp7.row).set i (setSeg ((l.map Stp7.row).getD i []) 5 [.int .i64 v]) = (l.set i { l.getD i default with b := v }).map Stp7.row :=
  set_rows (α := Stp7) (f := Stp7.row) (fun s => { s with b := v }) fun x => by simp [Stp7.row, setSeg]
theorem getD_range7 {g : Nat → Stp7} {m k : Nat} (h : k < m) : ((List.range m).map g).getD k default = g k := by simp [h]
theorem set_range7 {g : Nat → Stp7} {m k : Nat} {x : Stp7} : ((List.range m).map g).set k x = (List.range m).map fun j => if j = k then x else g j := by
  refine List.ext_getElem (by simp) fun j h1 h2 => ?_
  by_cases e : j = k
  · subst e; simp
  · simp [e, List.getElem_set_ne (Ne.symm e)]
def heldStep (p : Path5) (bg : List Int) (k j : Nat) : Stp7 := if j < k then { p.l.getD j default with f := max (p.l.getD j default).f (bg.getD j default), b := min (p.l.getD j default).b (bg.getD j default) } else p.l.getD j default
def Path5.held (p : Path5) (bg : List Int) : Path5 := ⟨p.q, p.s, (List.range p.l.length).map (heldStep p bg bg.length), p.f, p.b⟩
def F_l26 (p : Path5) (t' : Nat) (bg : List Int) (k : Nat) : St := ⟨[(1, .sl t' 1 (bg.map irow)), (4, .ptr 104 0), (5, .ptr 105 0), (6, .int .i64 k)],
  [(104, .box [.int .i64 0, .int .i64 0, .sl 0 7 [], .int .i64 0, .int .i64 0]), (105, .box [.int .i64 p.q, .int .i64 p.s, .own 106 1 0 p.l.length, .int .i64 p.f, .int .i64 p.b]), (106, .arr 64 1 7 (((List.range p.l.length).map (heldStep p bg k)).map Stp7.row))]⟩
theorem c_l26Held (p : Path5) (t t' : Nat) (bg : List Int) (hn : p.l.length ≤ 1048576) (hb : bg.length ≤ p.l.length) : Contract P 94 [.agg [.int .i64 p.q, .int .i64 p.s, .sl t 7 (p.l.map Stp7.row), .int .i64 p.f, .int .i64 p.b], .sl t' 1 (bg.map irow)] [] (p.held bg).av [] := by
  refine fn_sound (((Env.nil P).add 83 t_l21Min h_l21Min).add 84 t_l21Max h_l21Max) hm k_spec_l26Held (Nat.le_of_ble_eq_true rfl) rfl ?_
  unfold s_spec_l26Held
  simp only [w_skip, w_rg, w_rgd, w_seq, w_cond, w_block, w_loop, w_exit, w_ret, w_gh, w_rg0, w_rg1, w_rgT, w_rgF, w_run, w_psd, w_und, w_dr0, w_dr1, w_drT, w_drF, w_drRun, w_drPsd, w_drUnd, w_drKn, w_drKs, w_putK, w_trimK, w_thenN, w_thenE, w_thenR, w_scope, w_label, w_blkN, w_blkE, w_blkR, w_call, w_effK, brU_true, brU_false, brU_u, brU_not, brU_and, brU_or, brU_dec, brU_eq, brU_ne, br_true, br_false, br_not, br_and, br_or, br_dec, br_eq, br_ne, w_getE0, w_getE1, w_setE0, w_setE1, w_dropE0, w_dropE1, w_drop0, w_drop1, w_getM0, w_getM1, w_setM0, w_setM1, ev_v, ev_c, w_putS, w_putN, w_lit, w_apU0, w_apU1, w_apU2, w_trim, enumE0, enumE1, w_callWp, w_callA0, w_callA1, w_R0, w_R1, w_R2, w_T2, w_callL, w_callT, w_T1, w_T0, o_mv, o_newnil, o_pick, o_bin, o_binN, o_neg, o_not, o_eqB, o_eqS, o_conv, o_alloc, o_box, o_load1, o_loadN, o_store, o_nilck, o_faddr, o_field1, o_fieldN, o_iaddr, o_istr, o_slStr, o_slSl, o_lenS, o_lenL, o_mx, o_mn, o_ext, o_build, o_lit, o_litOwn, o_app, o_mk, o_mvfrz, l_int, l_bool, l_str, l_agg, l_sl, l_own, l_ptr, l_pp, i_int, i_bool, i_str, i_sl, i_own, i_ptr, i_pp, all0, all1, e_ok1, eff, effBin, effBinN, ld_ptr, ld_pp, ld_elt, ia_own, ia_arr, el_1, el_N, load1K, faddrE, r_iaddr, sg_S, sg_c, sg_n, purL, pur, List.map, List.drop, List.take, List.length, List.foldl, List.append_eq, List.nil_append, List.cons_append, List.getD_cons_zero, List.getD_cons_succ, reduceIte, Nat.reduceEqDiff, Nat.reduceAdd, Nat.reduceLeDiff, true_and, and_true, Bool.not_true, Bool.not_false, Bool.and_true, Bool.true_and, Bool.and_self, reduceCtorEq, true_implies, false_implies, implies_true, decide_eq_true_eq, Option.map_some, fpOf, fpX, SOp.xs, oX, refs, refsL, dom, disj, List.all_nil, List.all_cons, List.contains_cons, List.contains_nil, Nat.reduceBEq, Bool.or_false, Bool.false_or, List.append_nil, Bool.not_false, Bool.not_true, List.forall_mem_cons, fm0, List.set, Nat.reduceLT, ne_eq, not_false_eq_true, not_true_eq_false
, ret1, ret1N, keep0, keep1, rf_int, rf_bool, rf_str, rf_sl, rf_agg, rf_tup, rfL0, rfL1, re_t, re_cN, re_L0, re_L1, ret_tup, ret_one, decide_true, AV.bool.injEq, AV.int.injEq, Nat.reduceLeDiff, Bool.true_eq, Bool.false_eq, decide_eq_true_eq, decide_eq_false_iff_not, t_l21Min, t_l21Max, List.length_map, Stp7.row, irow, stp_eta, Int.toNat_natCast, flatOk, noref, ghost, List.length_range, Nat.zero_add, Nat.sub_zero, set_f, set_b, List.length_set]
  refine ⟨_, _, .inl ⟨[], c_l22Copy p t hn, by simp, by simp [getM], rfl, rfl, rfl, rfl, rfl⟩, ?_⟩
  simp only [w_skip, w_rg, w_rgd, w_seq, w_cond, w_block, w_loop, w_exit, w_ret, w_gh, w_rg0, w_rg1, w_rgT, w_rgF, w_run, w_psd, w_und, w_dr0, w_dr1, w_drT, w_drF, w_drRun, w_drPsd, w_drUnd, w_drKn, w_drKs, w_putK, w_trimK, w_thenN, w_thenE, w_thenR, w_scope, w_label, w_blkN, w_blkE, w_blkR, w_call, w_effK, brU_true, brU_false, brU_u, brU_not, brU_and, brU_or, brU_dec, brU_eq, brU_ne, br_true, br_false, br_not, br_and, br_or, br_dec, br_eq, br_ne, w_getE0, w_getE1, w_setE0, w_setE1, w_dropE0, w_dropE1, w_drop0, w_drop1, w_getM0, w_getM1, w_setM0, w_setM1, ev_v, ev_c, w_putS, w_putN, w_lit, w_apU0, w_apU1, w_apU2, w_trim, enumE0, enumE1, w_callWp, w_callA0, w_callA1, w_R0, w_R1, w_R2, w_T2, w_callL, w_callT, w_T1, w_T0, o_mv, o_newnil, o_pick, o_bin, o_binN, o_neg, o_not, o_eqB, o_eqS, o_conv, o_alloc, o_box, o_load1, o_loadN, o_store, o_nilck, o_faddr, o_field1, o_fieldN, o_iaddr, o_istr, o_slStr, o_slSl, o_lenS, o_lenL, o_mx, o_mn, o_ext, o_build, o_lit, o_litOwn, o_app, o_mk, o_mvfrz, l_int, l_bool, l_str, l_agg, l_sl, l_own, l_ptr, l_pp, i_int, i_bool, i_str, i_sl, i_own, i_ptr, i_pp, all0, all1, e_ok1, eff, effBin, effBinN, ld_ptr, ld_pp, ld_elt, ia_own, ia_arr, el_1, el_N, load1K, faddrE, r_iaddr, sg_S, sg_c, sg_n, purL, pur, List.map, List.drop, List.take, List.length, List.foldl, List.append_eq, List.nil_append, List.cons_append, List.getD_cons_zero, List.getD_cons_succ, reduceIte, Nat.reduceEqDiff, Nat.reduceAdd, Nat.reduceLeDiff, true_and, and_true, Bool.not_true, Bool.not_false, Bool.and_true, Bool.true_and, Bool.and_self, reduceCtorEq, true_implies, false_implies, implies_true, decide_eq_true_eq, Option.map_some, fpOf, fpX, SOp.xs, oX, refs, refsL, dom, disj, List.all_nil, List.all_cons, List.contains_cons, List.contains_nil, Nat.reduceBEq, Bool.or_false, Bool.false_or, List.append_nil, Bool.not_false, Bool.not_true, List.forall_mem_cons, fm0, List.set, Nat.reduceLT, ne_eq, not_false_eq_true, not_true_eq_false
, ret1, ret1N, keep0, keep1, rf_int, rf_bool, rf_str, rf_sl, rf_agg, rf_tup, rfL0, rfL1, re_t, re_cN, re_L0, re_L1, ret_tup, ret_one, decide_true, AV.bool.injEq, AV.int.injEq, Nat.reduceLeDiff, Bool.true_eq, Bool.false_eq, decide_eq_true_eq, decide_eq_false_iff_not, t_l21Min, t_l21Max, List.length_map, Stp7.row, irow, stp_eta, Int.toNat_natCast, flatOk, noref, ghost, List.length_range, Nat.zero_add, Nat.sub_zero, set_f, set_b, List.length_set]
  have m0 : p.l = (List.range p.l.length).map (heldStep p bg 0) := by
    refine List.ext_getElem (by simp) fun j h1 h2 => by simp [heldStep, h1]
  refine loop_of (F_l26 p t' bg) (fun k => k ≤ bg.length) (fun k => bg.length - k) 0 ⟨⟨.inr rfl, .inr rfl, .inr rfl, .inr rfl, trivial⟩, ⟨rfl, rfl, congrArg (fun g => some (AObj.arr 64 1 7 (List.map Stp7.row g))) m0, trivial⟩, rfl, rfl⟩ (Nat.zero_le _) ?_
  intro k hk
  unfold l_spec_l26Held_0 F_l26
  simp only [w_skip, w_rg, w_rgd, w_seq, w_cond, w_block, w_loop, w_exit, w_ret, w_gh, w_rg0, w_rg1, w_rgT, w_rgF, w_run, w_psd, w_und, w_dr0, w_dr1, w_drT, w_drF, w_drRun, w_drPsd, w_drUnd, w_drKn, w_drKs, w_putK, w_trimK, w_thenN, w_thenE, w_thenR, w_scope, w_label, w_blkN, w_blkE, w_blkR, w_call, w_effK, brU_true, brU_false, brU_u, brU_not, brU_and, brU_or, brU_dec, brU_eq, brU_ne, br_true, br_false, br_not, br_and, br_or, br_dec, br_eq, br_ne, w_getE0, w_getE1, w_setE0, w_setE1, w_dropE0, w_dropE1, w_drop0, w_drop1, w_getM0, w_getM1, w_setM0, w_setM1, ev_v, ev_c, w_putS, w_putN, w_lit, w_apU0, w_apU1, w_apU2, w_trim, enumE0, enumE1, w_callWp, w_callA0, w_callA1, w_R0, w_R1, w_R2, w_T2, w_callL, w_callT, w_T1, w_T0, o_mv, o_newnil, o_pick, o_bin, o_binN, o_neg, o_not, o_eqB, o_eqS, o_conv, o_alloc, o_box, o_load1, o_loadN, o_store, o_nilck, o_faddr, o_field1, o_fieldN, o_iaddr, o_istr, o_slStr, o_slSl, o_lenS, o_lenL, o_mx, o_mn, o_ext, o_build, o_lit, o_litOwn, o_app, o_mk, o_mvfrz, l_int, l_bool, l_str, l_agg, l_sl, l_own, l_ptr, l_pp, i_int, i_bool, i_str, i_sl, i_own, i_ptr, i_pp, all0, all1, e_ok1, eff, effBin, effBinN, ld_ptr, ld_pp, ld_elt, ia_own, ia_arr, el_1, el_N, load1K, faddrE, r_iaddr, sg_S, sg_c, sg_n, purL, pur, List.map, List.drop, List.take, List.length, List.foldl, List.append_eq, List.nil_append, List.cons_append, List.getD_cons_zero, List.getD_cons_succ, reduceIte, Nat.reduceEqDiff, Nat.reduceAdd, Nat.reduceLeDiff, true_and, and_true, Bool.not_true, Bool.not_false, Bool.and_true, Bool.true_and, Bool.and_self, reduceCtorEq, true_implies, false_implies, implies_true, decide_eq_true_eq, Option.map_some, fpOf, fpX, SOp.xs, oX, refs, refsL, dom, disj, List.all_nil, List.all_cons, List.contains_cons, List.contains_nil, Nat.reduceBEq, Bool.or_false, Bool.false_or, List.append_nil, Bool.not_false, Bool.not_true, List.forall_mem_cons, fm0, List.set, Nat.reduceLT, ne_eq, not_false_eq_true, not_true_eq_false
, ret1, ret1N, keep0, keep1, rf_int, rf_bool, rf_str, rf_sl, rf_agg, rf_tup, rfL0, rfL1, re_t, re_cN, re_L0, re_L1, ret_tup, ret_one, decide_true, AV.bool.injEq, AV.int.injEq, Nat.reduceLeDiff, Bool.true_eq, Bool.false_eq, decide_eq_true_eq, decide_eq_false_iff_not, t_l21Min, t_l21Max, List.length_map, Stp7.row, irow, stp_eta, Int.toNat_natCast, flatOk, noref, ghost, List.length_range, Nat.zero_add, Nat.sub_zero, set_f, set_b, List.length_set]
  refine ⟨fun h1 => ⟨fun h2 => ?_, fun h2 => absurd (by omega) h2⟩, fun h1 => ?_⟩
  · have h1' : k < p.l.length := by omega
    have rw0 : ∀ (g : Nat → Stp7), g = heldStep p bg (k + 1) → some (AObj.arr 64 1 7 (List.map Stp7.row (List.map g (List.range p.l.length)))) = some (AObj.arr 64 1 7 (List.map Stp7.row (List.map (heldStep p bg (k + 1)) (List.range p.l.length)))) := fun g h => by rw [h]
    simp only [set_range7, getD_range7 h1', reduceIte]
    refine ⟨by omega, by omega, by omega, by omega, by omega, by omega, by omega, by omega, by omega, by omega, by omega, loopK_of (k + 1) ⟨⟨.inr rfl, .inr rfl, .inr rfl, .inr rfl, trivial⟩, ⟨rfl, rfl, rw0 _ (funext fun j => ?_), trivial⟩, rfl, rfl⟩ (by omega) (by omega)⟩
    by_cases e : j = k
    · subst e; simp only [reduceIte, heldStep, if_pos (show j < j + 1 by omega), if_neg (show ¬ j < j by omega)]
    · simp only [if_neg e, heldStep, show (j < k + 1) = (j < k) from propext (by omega)]
  · have hkb : k = bg.length := by omega
    subst hkb
    exact ⟨by rw [List.take_of_length_le (by simp)]; rfl, rfl⟩
end Go.Ve

namespace Go.Ve
open Go.Proofs
set_option linter.unusedSimpArgs false
set_option linter.unusedVariables false
set_option maxRecDepth 100000
theorem no99_step (l : List Stp7) : No99LL (l.map Stp7.row) := by
  induction l with
  | nil => trivial
  | cons x l ih => exact ⟨⟨trivial, trivial, trivial, trivial, trivial, trivial, trivial, trivial⟩, ih⟩
theorem no99_span (l : List Span2) : No99LL (l.map Span2.row) := by
  induction l with
  | nil => trivial
  | cons x l ih => exact ⟨⟨trivial, trivial, trivial⟩, ih⟩
def t_l26Held : List AV → Option (Prop × AV)
  | [.agg [.int .i64 q, .int .i64 s, .sl _ 7 xs, .int .i64 f, .int .i64 b], .sl _ 1 ys] => some (((xs.map unStp).map Stp7.row = xs ∧ (ys.map unI).map irow = ys) ∧ (xs.map unStp).length ≤ 1048576 ∧ (ys.map unI).length ≤ (xs.map unStp).length, (Path5.held ⟨q, s, xs.map unStp, f, b⟩ (ys.map unI)).av)
  | _ => none
theorem h_l26Held : ∀ args p v, t_l26Held args = some (p, v) → p → Contract P 94 args [] v [] ∧ noref v = true ∧ No99 v := by
  intro args p v h1 h2
  unfold t_l26Held at h1
  split at h1
  · rename_i q s t xs f b t' ys
    cases h1
    have := c_l26Held ⟨q, s, xs.map unStp, f, b⟩ t t' (ys.map unI) h2.2.1 h2.2.2
    simp only [h2.1.1, h2.1.2] at this
    refine ⟨this, rfl, ?_⟩
    simp [Path5.av, No99, No99L, no99_step]
  · cases h1
def t_l24Spans : List AV → Option (Prop × AV)
  | [.agg [.int .i64 q, .int .i64 s, .sl _ 7 xs, .int .i64 f, .int .i64 b]] => some ((xs.map unStp).map Stp7.row = xs ∧ Path5.calm ⟨q, s, xs.map unStp, f, b⟩, .tup [.sl 0 2 ((Path5.spans ⟨q, s, xs.map unStp, f, b⟩).map Span2.row), .bool (decide (Path5.can ⟨q, s, xs.map unStp, f, b⟩))])
  | _ => none
theorem h_l24Spans : ∀ args p v, t_l24Spans args = some (p, v) → p → Contract P 54 args [] v [] ∧ noref v = true ∧ No99 v := by
  intro args p v h1 h2
  unfold t_l24Spans at h1
  split at h1
  · rename_i q s t xs f b
    cases h1
    have := c_l24Spans ⟨q, s, xs.map unStp, f, b⟩ t h2.2
    simp only [h2.1] at this
    exact ⟨this, rfl, ⟨by omega, no99_span _⟩, trivial, trivial⟩
  · cases h1
theorem held_calm {p : Path5} {bg : List Int} (h : pathOk p.q p.s p.l p.f p.b) : (p.held bg).calm := by
  have hl : (p.held bg).l.length = p.l.length := by simp [Path5.held]
  have hg : ∀ k, k < p.l.length → (p.held bg).l.getD k default = heldStep p bg bg.length k := fun k hk => getD_range7 hk
  refine ⟨by have := h.1; simp only [Path5.held]; omega, by have := h.1; simp only [Path5.held]; omega, by rw [hl]; have := h.2.1; omega, fun k hk => ?_, fun k hk => ?_⟩
  · unfold Path5.low
    split
    · rename_i hk2
      rw [hl] at hk2
      rw [hg k hk2]
      have := (h.2.2.2 k hk2).1
      unfold Stp7.ok at this
      unfold heldStep
      split <;> (try simp only) <;> omega
    · have := h.2.2.1; simp only [Path5.held]; omega
  · unfold Path5.high
    split
    · rename_i hk2
      rw [hl] at hk2
      rw [hg k hk2]
      have := (h.2.2.2 k hk2).1
      unfold Stp7.ok at this
      unfold heldStep
      split <;> (try simp only) <;> omega
    · have := h.2.2.1; simp only [Path5.held]; omega
def Path5.begun (p : Path5) (bg : List Int) : Prop := pathOk p.q p.s p.l p.f p.b ∧ bg.length ≤ p.l.length ∧ (p.held bg).can
instance (p : Path5) (bg : List Int) : Decidable (p.begun bg) := by unfold Path5.begun; infer_instance
theorem c_l43Begun (p : Path5) (t t' : Nat) (bg : List Int) : Contract P 64 [.agg [.int .i64 p.q, .int .i64 p.s, .sl t 7 (p.l.map Stp7.row), .int .i64 p.f, .int .i64 p.b], .sl t' 1 (bg.map irow)] [] (.bool (decide (p.begun bg))) [] := by
  refine fn_sound ((((Env.nil P).add 33 t_sPathOk h_sPathOk).add 94 t_l26Held h_l26Held).add 54 t_l24Spans h_l24Spans) hm k_spec_l43Begun (Nat.le_of_ble_eq_true rfl) rfl ?_
  unfold s_spec_l43Begun
  simp only [w_skip, w_rg, w_rgd, w_seq, w_cond, w_block, w_loop, w_exit, w_ret, w_gh, w_rg0, w_rg1, w_rgT, w_rgF, w_run, w_psd, w_und, w_dr0, w_dr1, w_drT, w_drF, w_drRun, w_drPsd, w_drUnd, w_drKn, w_drKs, w_putK, w_trimK, w_thenN, w_thenE, w_thenR, w_scope, w_label, w_blkN, w_blkE, w_blkR, w_call, w_effK, brU_true, brU_false, brU_u, brU_not, brU_and, brU_or, brU_dec, brU_eq, brU_ne, br_true, br_false, br_not, br_and, br_or, br_dec, br_eq, br_ne, w_getE0, w_getE1, w_setE0, w_setE1, w_dropE0, w_dropE1, w_drop0, w_drop1, w_getM0, w_getM1, w_setM0, w_setM1, ev_v, ev_c, w_putS, w_putN, w_lit, w_apU0, w_apU1, w_apU2, w_trim, enumE0, enumE1, w_callWp, w_callA0, w_callA1, w_R0, w_R1, w_R2, w_T2, w_callL, w_callT, w_T1, w_T0, o_mv, o_newnil, o_pick, o_bin, o_binN, o_neg, o_not, o_eqB, o_eqS, o_conv, o_alloc, o_box, o_load1, o_loadN, o_store, o_nilck, o_faddr, o_field1, o_fieldN, o_iaddr, o_istr, o_slStr, o_slSl, o_lenS, o_lenL, o_mx, o_mn, o_ext, o_build, o_lit, o_litOwn, o_app, o_mk, o_mvfrz, l_int, l_bool, l_str, l_agg, l_sl, l_own, l_ptr, l_pp, i_int, i_bool, i_str, i_sl, i_own, i_ptr, i_pp, all0, all1, e_ok1, eff, effBin, effBinN, ld_ptr, ld_pp, ld_elt, ia_own, ia_arr, el_1, el_N, load1K, faddrE, r_iaddr, sg_S, sg_c, sg_n, purL, pur, List.map, List.drop, List.take, List.length, List.foldl, List.append_eq, List.nil_append, List.cons_append, List.getD_cons_zero, List.getD_cons_succ, reduceIte, Nat.reduceEqDiff, Nat.reduceAdd, Nat.reduceLeDiff, true_and, and_true, Bool.not_true, Bool.not_false, Bool.and_true, Bool.true_and, Bool.and_self, reduceCtorEq, true_implies, false_implies, implies_true, decide_eq_true_eq, Option.map_some, fpOf, fpX, SOp.xs, oX, refs, refsL, dom, disj, List.all_nil, List.all_cons, List.contains_cons, List.contains_nil, Nat.reduceBEq, Bool.or_false, Bool.false_or, List.append_nil, Bool.not_false, Bool.not_true, List.forall_mem_cons, fm0, List.set, Nat.reduceLT, ne_eq, not_false_eq_true, not_true_eq_false
, ret1, ret1N, keep0, keep1, rf_int, rf_bool, rf_str, rf_sl, rf_agg, rf_tup, rfL0, rfL1, re_t, re_cN, re_L0, re_L1, ret_tup, ret_one, decide_true, AV.bool.injEq, AV.int.injEq, Nat.reduceLeDiff, Bool.true_eq, Bool.false_eq, decide_eq_true_eq, decide_eq_false_iff_not, t_sPathOk, t_l26Held, t_l24Spans, List.length_map, irow, un_stp, un_i, path_eta, Path5.av, flatOk, noref, ghost, Nat.zero_add, Nat.sub_zero]
  exact ⟨fun h1 => ⟨fun h2 h => absurd h.2.1 (by omega), fun h2 => ⟨⟨by have := h1.2.1; omega, by omega⟩, held_calm h1, decide_eq_decide.2 ⟨fun h => ⟨h1, by omega, h⟩, fun h => h.2.2⟩⟩⟩, fun h1 h => h1 h.1⟩
def Path5.next (p : Path5) (bg : List Int) : Span2 := if p.begun bg then (p.held bg).span bg.length else ⟨0, 0⟩
theorem c_sFlyNext (p : Path5) (t t' : Nat) (bg : List Int) : Contract P 82 [.agg [.int .i64 p.q, .int .i64 p.s, .sl t 7 (p.l.map Stp7.row), .int .i64 p.f, .int .i64 p.b], .sl t' 1 (bg.map irow)] [] (.tup [.agg [.int .i64 (p.next bg).lo, .int .i64 (p.next bg).hi], .bool (decide (p.begun bg))]) [] := by
  refine fn_sound ((((Env.nil P).add 33 t_sPathOk h_sPathOk).add 94 t_l26Held h_l26Held).add 54 t_l24Spans h_l24Spans) hm k_spec_FlyNext (Nat.le_of_ble_eq_true rfl) rfl ?_
  unfold s_spec_FlyNext
  simp only [w_skip, w_rg, w_rgd, w_seq, w_cond, w_block, w_loop, w_exit, w_ret, w_gh, w_rg0, w_rg1, w_rgT, w_rgF, w_run, w_psd, w_und, w_dr0, w_dr1, w_drT, w_drF, w_drRun, w_drPsd, w_drUnd, w_drKn, w_drKs, w_putK, w_trimK, w_thenN, w_thenE, w_thenR, w_scope, w_label, w_blkN, w_blkE, w_blkR, w_call, w_effK, brU_true, brU_false, brU_u, brU_not, brU_and, brU_or, brU_dec, brU_eq, brU_ne, br_true, br_false, br_not, br_and, br_or, br_dec, br_eq, br_ne, w_getE0, w_getE1, w_setE0, w_setE1, w_dropE0, w_dropE1, w_drop0, w_drop1, w_getM0, w_getM1, w_setM0, w_setM1, ev_v, ev_c, w_putS, w_putN, w_lit, w_apU0, w_apU1, w_apU2, w_trim, enumE0, enumE1, w_callWp, w_callA0, w_callA1, w_R0, w_R1, w_R2, w_T2, w_callL, w_callT, w_T1, w_T0, o_mv, o_newnil, o_pick, o_bin, o_binN, o_neg, o_not, o_eqB, o_eqS, o_conv, o_alloc, o_box, o_load1, o_loadN, o_store, o_nilck, o_faddr, o_field1, o_fieldN, o_iaddr, o_istr, o_slStr, o_slSl, o_lenS, o_lenL, o_mx, o_mn, o_ext, o_build, o_lit, o_litOwn, o_app, o_mk, o_mvfrz, l_int, l_bool, l_str, l_agg, l_sl, l_own, l_ptr, l_pp, i_int, i_bool, i_str, i_sl, i_own, i_ptr, i_pp, all0, all1, e_ok1, eff, effBin, effBinN, ld_ptr, ld_pp, ld_elt, ia_own, ia_arr, el_1, el_N, load1K, faddrE, r_iaddr, sg_S, sg_c, sg_n, purL, pur, List.map, List.drop, List.take, List.length, List.foldl, List.append_eq, List.nil_append, List.cons_append, List.getD_cons_zero, List.getD_cons_succ, reduceIte, Nat.reduceEqDiff, Nat.reduceAdd, Nat.reduceLeDiff, true_and, and_true, Bool.not_true, Bool.not_false, Bool.and_true, Bool.true_and, Bool.and_self, reduceCtorEq, true_implies, false_implies, implies_true, decide_eq_true_eq, Option.map_some, fpOf, fpX, SOp.xs, oX, refs, refsL, dom, disj, List.all_nil, List.all_cons, List.contains_cons, List.contains_nil, Nat.reduceBEq, Bool.or_false, Bool.false_or, List.append_nil, Bool.not_false, Bool.not_true, List.forall_mem_cons, fm0, List.set, Nat.reduceLT, ne_eq, not_false_eq_true, not_true_eq_false
, ret1, ret1N, keep0, keep1, rf_int, rf_bool, rf_str, rf_sl, rf_agg, rf_tup, rfL0, rfL1, re_t, re_cN, re_L0, re_L1, ret_tup, ret_one, decide_true, AV.bool.injEq, AV.int.injEq, Nat.reduceLeDiff, Bool.true_eq, Bool.false_eq, decide_eq_true_eq, decide_eq_false_iff_not, t_sPathOk, t_l26Held, t_l24Spans, List.length_map, irow, Span2.row, un_stp, un_i, path_eta, Path5.av, flatOk, noref, ghost, Nat.zero_add, Nat.sub_zero, Int.toNat_natCast]
  have no : ¬ p.begun bg → AV.agg [AV.int IntKind.i64 (p.next bg).lo, AV.int IntKind.i64 (p.next bg).hi] = AV.agg [AV.int IntKind.i64 0, AV.int IntKind.i64 0] ∧ ¬ p.begun bg := fun h => ⟨by rw [Path5.next, if_neg h], h⟩
  have hl : (p.held bg).l.length = p.l.length := by simp [Path5.held]
  refine ⟨fun h1 => ⟨fun h2 => no fun h => absurd h.2.1 (by omega), fun h2 => ⟨⟨by have := h1.2.1; omega, by omega⟩, held_calm h1, fun h3 => ?_, fun h3 => no fun h => h3 h.2.2⟩⟩, fun h1 => no fun h => h1 h.1⟩
  have hb : p.begun bg := ⟨h1, by omega, h3⟩
  have e : (p.held bg).spans = (List.range ((p.held bg).l.length + 1)).map (p.held bg).span := if_pos h3
  rw [e, getD_range (by omega), Path5.next, if_pos hb]
  exact ⟨by omega, by simp; omega, rfl, hb⟩
end Go.Ve

namespace Go.Ve
set_option linter.unusedSimpArgs false
set_option linter.unusedVariables false
/-! The program's passes and the reference's come to the same. -/
section
variable {p : Path5} {bg : List Int}
theorem held_len : (p.held bg).l.length = p.l.length := by simp [Path5.held]
theorem held_getD {k : Nat} (hk : k < p.l.length) : (p.held bg).l.getD k default = heldStep p bg bg.length k := getD_range7 hk
theorem held_hold {k : Nat} (hk : k < p.l.length) : ((p.held bg).l.getD k default).hold = (p.l.getD k default).hold := by
  rw [held_getD hk]; unfold heldStep; split <;> rfl
theorem held_low (hb : bg.length ≤ p.l.length) (k : Nat) : (p.held bg).low k = (p.ini bg k).lo := by
  unfold Path5.low Path5.ini
  rw [held_len]
  by_cases hk : k < p.l.length
  · rw [if_pos hk, held_getD hk]
    unfold heldStep
    by_cases h2 : k < bg.length
    · rw [if_pos h2, if_pos h2]; simp only [Path5.low, if_pos hk]
    · rw [if_neg h2, if_neg h2]; simp only [Path5.low, if_pos hk]
  · rw [if_neg hk, if_neg (by omega)]; simp only [Path5.low, if_neg hk, Path5.held]
theorem held_high (hb : bg.length ≤ p.l.length) (k : Nat) : (p.held bg).high k = (p.ini bg k).hi := by
  unfold Path5.high Path5.ini
  rw [held_len]
  by_cases hk : k < p.l.length
  · rw [if_pos hk, held_getD hk]
    unfold heldStep
    by_cases h2 : k < bg.length
    · rw [if_pos h2, if_pos h2]; simp only [Path5.high, if_pos hk]
    · rw [if_neg h2, if_neg h2]; simp only [Path5.high, if_pos hk]
  · rw [if_neg hk, if_neg (by omega)]; simp only [Path5.high, if_neg hk, Path5.held]
theorem held_most {k : Nat} (hk : k < p.l.length) : (p.held bg).most k = if (p.l.getD k default).hold then 10000 else p.s := by
  unfold Path5.most; rw [held_hold hk]; rfl
def inR (s : Span2) : Prop := 0 ≤ s.lo ∧ s.lo ≤ s.hi ∧ s.hi ≤ 10000

/-- One step ahead, from numbers in their range. -/
theorem wf_eq (hq : 0 ≤ p.q ∧ p.q ≤ 50) (hs : 0 ≤ p.s ∧ p.s ≤ 50) (hb : bg.length ≤ p.l.length) (hi : ∀ k, k ≤ p.l.length → (p.ini bg k).hi ≤ 10000) : ∀ k, k ≤ p.l.length → ((∀ j, j ≤ p.l.length → inR (p.wf bg j)) ∨ (∀ j, j ≤ p.l.length → inR ((p.held bg).fwd j))) → (p.held bg).fwd k = p.wf bg k
  | 0, _, _ => by simp only [Path5.fwd, Path5.wf, held_low hb, held_high hb]
  | k + 1, hk, h => by
    have ih := wf_eq hq hs hb hi k (by omega) h
    have hr : inR (p.wf bg k) := by
      rcases h with h | h
      · exact h k (by omega)
      · rw [← ih]; exact h k (by omega)
    unfold inR at hr
    have h1 := hi (k + 1) hk
    have hqq : (p.held bg).q = p.q := rfl
    simp only [Path5.fwd, Path5.wf, held_low hb, held_high hb, held_most (show k < p.l.length by omega), ih, hqq]
    rw [IntWalk.i64_in ((p.wf bg k).lo + p.q) (by omega), IntWalk.i64_in ((p.wf bg k).hi + p.s) (by omega)]
    congr 1
    split <;> omega
theorem wb_eq (hq : 0 ≤ p.q ∧ p.q ≤ 50) (hs : 0 ≤ p.s ∧ p.s ≤ 50) (hf : ∀ j, j ≤ p.l.length → (p.held bg).fwd j = p.wf bg j) (hr0 : ∀ j, j ≤ p.l.length → inR (p.wf bg j)) : ∀ d, d ≤ p.l.length → ((∀ j, j ≤ p.l.length → inR (p.wb bg j)) ∨ (∀ j, j ≤ p.l.length → inR ((p.held bg).bwd j))) → (p.held bg).bwd d = p.wb bg d
  | 0, _, _ => by simp only [Path5.bwd, Path5.wb, held_len]; exact hf _ (by omega)
  | d + 1, hd, h => by
    have ih := wb_eq hq hs hf hr0 d (by omega) h
    have hr : inR (p.wb bg d) := by
      rcases h with h | h
      · exact h d (by omega)
      · rw [← ih]; exact h d (by omega)
    have h0 := hr0 (p.l.length - (d + 1)) (by omega)
    unfold inR at hr h0
    have hqq : (p.held bg).q = p.q := rfl
    simp only [Path5.bwd, Path5.wb, held_len, held_most (show p.l.length - (d + 1) < p.l.length by omega), ih, hqq, hf _ (show p.l.length - (d + 1) ≤ p.l.length by omega)]
    rw [IntWalk.i64_in ((p.wb bg d).lo - p.s) (by omega), IntWalk.i64_in ((p.wb bg d).hi - p.q) (by omega)]
    congr 1
    split <;> omega
theorem ini_in (hp : pathOk p.q p.s p.l p.f p.b) (hb : bg.length ≤ p.l.length) {k : Nat} (hk : k ≤ p.l.length) : 0 ≤ (p.ini bg k).lo ∧ (p.ini bg k).hi ≤ 10000 := by
  have hc := held_calm (bg := bg) hp
  have h1 := hc.lo k (by rw [held_len]; exact hk)
  have h2 := hc.hi k (by rw [held_len]; exact hk)
  rw [held_low hb] at h1
  rw [held_high hb] at h2
  exact ⟨h1, h2⟩
theorem wf_ini (k : Nat) : (p.ini bg k).lo ≤ (p.wf bg k).lo ∧ (p.wf bg k).hi ≤ (p.ini bg k).hi := by
  cases k with
  | zero => simp [Path5.wf]
  | succ k =>
    simp only [Path5.wf]
    refine ⟨by omega, ?_⟩
    split <;> omega
theorem wb_wf (d : Nat) : (p.wf bg (p.l.length - d)).lo ≤ (p.wb bg d).lo ∧ (p.wb bg d).hi ≤ (p.wf bg (p.l.length - d)).hi := by
  cases d with
  | zero => simp [Path5.wb]
  | succ d =>
    simp only [Path5.wb]
    refine ⟨?_, by omega⟩
    split <;> omega
theorem can_in (hp : pathOk p.q p.s p.l p.f p.b) (h : (p.held bg).can) : (∀ j, j ≤ p.l.length → inR ((p.held bg).fwd j)) ∧ ∀ d, d ≤ p.l.length → inR ((p.held bg).bwd d) := by
  have hc := held_calm (bg := bg) hp
  have hl := held_len (p := p) (bg := bg)
  have hf : ∀ j, j ≤ p.l.length → inR ((p.held bg).fwd j) := fun j hj => ⟨Path5.fwd_lo hc j (by omega), Path5.can_fwd h (by omega), Path5.fwd_hi hc j (by omega)⟩
  refine ⟨hf, fun d hd => ?_⟩
  have h1 := (p.held bg).bwd_lo d (by omega)
  have h2 := (p.held bg).bwd_hi d (by omega)
  have h3 := hf (p.l.length - d) (by omega)
  have h4 := h (p.l.length - d) (by omega)
  unfold Path5.span at h4
  rw [hl, show p.l.length - (p.l.length - d) = d by omega] at h4
  rw [hl] at h1 h2
  unfold inR at h3 ⊢
  omega
theorem wcan_in (hp : pathOk p.q p.s p.l p.f p.b) (hb : bg.length ≤ p.l.length) (h : p.wcan bg) : (∀ j, j ≤ p.l.length → inR (p.wf bg j)) ∧ ∀ d, d ≤ p.l.length → inR (p.wb bg d) := by
  have hd : ∀ d, d ≤ p.l.length → inR (p.wb bg d) ∧ inR (p.wf bg (p.l.length - d)) := fun d hd => by
    have h1 := wb_wf (p := p) (bg := bg) d
    have h2 := wf_ini (p := p) (bg := bg) (p.l.length - d)
    have h3 := ini_in (bg := bg) hp hb (k := p.l.length - d) (by omega)
    have h4 := h (p.l.length - d) (by omega)
    unfold Path5.wsp at h4
    rw [show p.l.length - (p.l.length - d) = d by omega] at h4
    unfold inR
    omega
  refine ⟨fun j hj => ?_, fun d h => (hd d h).1⟩
  have := (hd (p.l.length - j) (by omega)).2
  rwa [show p.l.length - (p.l.length - j) = j by omega] at this
/-- THE TWO COME TO THE SAME. -/
theorem spans_same (hp : pathOk p.q p.s p.l p.f p.b) (hb : bg.length ≤ p.l.length) : ((p.held bg).can ↔ p.wcan bg) ∧ (p.held bg).spans = p.wspans bg := by
  have hq : 0 ≤ p.q ∧ p.q ≤ 50 := by have := hp.1; omega
  have hs : 0 ≤ p.s ∧ p.s ≤ 50 := by have := hp.1; omega
  have hi : ∀ k, k ≤ p.l.length → (p.ini bg k).hi ≤ 10000 := fun k hk => (ini_in hp hb hk).2
  have hl := held_len (p := p) (bg := bg)
  have key : ((p.held bg).can ∨ p.wcan bg) → ∀ k, k < p.l.length + 1 → (p.held bg).span k = p.wsp bg k := by
    intro h
    have hff : (∀ j, j ≤ p.l.length → inR (p.wf bg j)) ∨ (∀ j, j ≤ p.l.length → inR ((p.held bg).fwd j)) := h.elim (fun h => .inr (can_in hp h).1) (fun h => .inl (wcan_in hp hb h).1)
    have hf : ∀ j, j ≤ p.l.length → (p.held bg).fwd j = p.wf bg j := fun j hj => wf_eq hq hs hb hi j hj hff
    have hr0 : ∀ j, j ≤ p.l.length → inR (p.wf bg j) := hff.elim id fun h j hj => by rw [← hf j hj]; exact h j hj
    intro k hk
    unfold Path5.span Path5.wsp
    rw [hl]
    exact wb_eq hq hs hf hr0 _ (by omega) (h.elim (fun h => .inr (can_in hp h).2) (fun h => .inl (wcan_in hp hb h).2))
  have hiff : (p.held bg).can ↔ p.wcan bg := by
    refine ⟨fun h k hk => ?_, fun h k hk => ?_⟩
    · rw [← key (.inl h) k hk]; exact h k (by omega)
    · rw [hl] at hk; rw [key (.inr h) k hk]; exact h k hk
  refine ⟨hiff, ?_⟩
  unfold Path5.spans Path5.wspans
  by_cases h : p.wcan bg
  · rw [if_pos h, if_pos (hiff.2 h), hl]
    exact List.map_congr_left fun k hk => key (.inr h) k (List.mem_range.1 hk)
  · rw [if_neg h, if_neg fun h2 => h (hiff.1 h2)]
end
end Go.Ve

namespace Go.Ve
open Go.Proofs
set_option linter.unusedSimpArgs false
set_option linter.unusedVariables false
set_option maxRecDepth 100000
def t_spans : List AV → Option (Prop × AV)
  | [.agg [.int .i64 q, .int .i64 s, .sl _ 7 xs, .int .i64 f, .int .i64 b], .sl _ 1 ys] => some (((xs.map unStp).map Stp7.row = xs ∧ (ys.map unI).map irow = ys) ∧ (xs.map unStp).length ≤ 40 ∧ (ys.map unI).length ≤ (xs.map unStp).length, .tup [.sl 0 2 ((Path5.wspans ⟨q, s, xs.map unStp, f, b⟩ (ys.map unI)).map Span2.row), .bool (decide (Path5.wcan ⟨q, s, xs.map unStp, f, b⟩ (ys.map unI)))])
  | _ => none
theorem h_spans : ∀ args p v, t_spans args = some (p, v) → p → Contract P 53 args [] v [] ∧ noref v = true ∧ No99 v := by
  intro args p v h1 h2
  unfold t_spans at h1
  split at h1
  · rename_i q s t xs f b t' ys
    cases h1
    have := c_spans ⟨q, s, xs.map unStp, f, b⟩ t t' (ys.map unI) h2.2.1 h2.2.2
    simp only [h2.1.1, h2.1.2] at this
    exact ⟨this, rfl, ⟨by omega, no99_span _⟩, trivial, trivial⟩
  · cases h1
theorem c_iFlyNext (p : Path5) (t t' : Nat) (bg : List Int) : Contract P 81 [.agg [.int .i64 p.q, .int .i64 p.s, .sl t 7 (p.l.map Stp7.row), .int .i64 p.f, .int .i64 p.b], .sl t' 1 (bg.map irow)] [] (.tup [.agg [.int .i64 (p.next bg).lo, .int .i64 (p.next bg).hi], .bool (decide (p.begun bg))]) [] := by
  refine fn_sound (((Env.nil P).add 32 t_iPathOk h_iPathOk).add 53 t_spans h_spans) hm k_impl_FlyNext (Nat.le_of_ble_eq_true rfl) rfl ?_
  unfold s_impl_FlyNext
  simp only [w_skip, w_rg, w_rgd, w_seq, w_cond, w_block, w_loop, w_exit, w_ret, w_gh, w_rg0, w_rg1, w_rgT, w_rgF, w_run, w_psd, w_und, w_dr0, w_dr1, w_drT, w_drF, w_drRun, w_drPsd, w_drUnd, w_drKn, w_drKs, w_putK, w_trimK, w_thenN, w_thenE, w_thenR, w_scope, w_label, w_blkN, w_blkE, w_blkR, w_call, w_effK, brU_true, brU_false, brU_u, brU_not, brU_and, brU_or, brU_dec, brU_eq, brU_ne, br_true, br_false, br_not, br_and, br_or, br_dec, br_eq, br_ne, w_getE0, w_getE1, w_setE0, w_setE1, w_dropE0, w_dropE1, w_drop0, w_drop1, w_getM0, w_getM1, w_setM0, w_setM1, ev_v, ev_c, w_putS, w_putN, w_lit, w_apU0, w_apU1, w_apU2, w_trim, enumE0, enumE1, w_callWp, w_callA0, w_callA1, w_R0, w_R1, w_R2, w_T2, w_callL, w_callT, w_T1, w_T0, o_mv, o_newnil, o_pick, o_bin, o_binN, o_neg, o_not, o_eqB, o_eqS, o_conv, o_alloc, o_box, o_load1, o_loadN, o_store, o_nilck, o_faddr, o_field1, o_fieldN, o_iaddr, o_istr, o_slStr, o_slSl, o_lenS, o_lenL, o_mx, o_mn, o_ext, o_build, o_lit, o_litOwn, o_app, o_mk, o_mvfrz, l_int, l_bool, l_str, l_agg, l_sl, l_own, l_ptr, l_pp, i_int, i_bool, i_str, i_sl, i_own, i_ptr, i_pp, all0, all1, e_ok1, eff, effBin, effBinN, ld_ptr, ld_pp, ld_elt, ia_own, ia_arr, el_1, el_N, load1K, faddrE, r_iaddr, sg_S, sg_c, sg_n, purL, pur, List.map, List.drop, List.take, List.length, List.foldl, List.append_eq, List.nil_append, List.cons_append, List.getD_cons_zero, List.getD_cons_succ, reduceIte, Nat.reduceEqDiff, Nat.reduceAdd, Nat.reduceLeDiff, true_and, and_true, Bool.not_true, Bool.not_false, Bool.and_true, Bool.true_and, Bool.and_self, reduceCtorEq, true_implies, false_implies, implies_true, decide_eq_true_eq, Option.map_some, fpOf, fpX, SOp.xs, oX, refs, refsL, dom, disj, List.all_nil, List.all_cons, List.contains_cons, List.contains_nil, Nat.reduceBEq, Bool.or_false, Bool.false_or, List.append_nil, Bool.not_false, Bool.not_true, List.forall_mem_cons, fm0, List.set, Nat.reduceLT, ne_eq, not_false_eq_true, not_true_eq_false
, ret1, ret1N, keep0, keep1, rf_int, rf_bool, rf_str, rf_sl, rf_agg, rf_tup, rfL0, rfL1, re_t, re_cN, re_L0, re_L1, ret_tup, ret_one, decide_true, AV.bool.injEq, AV.int.injEq, Nat.reduceLeDiff, Bool.true_eq, Bool.false_eq, decide_eq_true_eq, decide_eq_false_iff_not, t_iPathOk, t_spans, t_sPathOk, List.length_map, irow, Span2.row, un_stp, un_i, path_eta, Path5.av, flatOk, noref, ghost, Nat.zero_add, Nat.sub_zero, Int.toNat_natCast]
  have no : ¬ p.begun bg → AV.agg [AV.int IntKind.i64 (p.next bg).lo, AV.int IntKind.i64 (p.next bg).hi] = AV.agg [AV.int IntKind.i64 0, AV.int IntKind.i64 0] ∧ ¬ p.begun bg := fun h => ⟨by rw [Path5.next, if_neg h], h⟩
  have hl : (p.held bg).l.length = p.l.length := by simp [Path5.held]
  refine ⟨fun h1 => ⟨fun h2 => no fun h => absurd h.2.1 (by omega), fun h2 => ⟨⟨by have := h1.2.1; omega, by omega⟩, fun h3 => ?_, fun h3 => no fun h => h3 ((spans_same h1 (by omega)).1.1 h.2.2)⟩⟩, fun h1 => no fun h => h1 h.1⟩
  have hs := spans_same (bg := bg) h1 (by omega)
  have h3 := hs.1.2 h3
  have hb : p.begun bg := ⟨h1, by omega, h3⟩
  have e : (p.held bg).spans = (List.range ((p.held bg).l.length + 1)).map (p.held bg).span := if_pos h3
  rw [← hs.2, e, getD_range (by omega), Path5.next, if_pos hb]
  exact ⟨by omega, by simp; omega, rfl, hb⟩
end Go.Ve

namespace Go.Ve
open Go.Proofs
set_option linter.unusedSimpArgs false
set_option linter.unusedVariables false
set_option maxRecDepth 100000
def Path5.fit (p : Path5) : Prop := pathOk p.q p.s p.l p.f p.b ∧ p.can
instance (p : Path5) : Decidable p.fit := by unfold Path5.fit; infer_instance
end Go.Ve

namespace Go.Ve
open Go.Proofs
set_option linter.unusedSimpArgs false
set_option linter.unusedVariables false
set_option maxRecDepth 100000
def unBox : List AV → Box6
  | [.int _ x, .int _ y, .int _ l, .int _ h, .int _ i, .int _ o] => ⟨x, y, l, h, i, o⟩
  | _ => default
theorem un_box (l : List Box6) : (l.map Box6.row).map unBox = l := by
  rw [List.map_map]; exact List.map_id'' (fun s => rfl) l
def t_lap : List AV → Option (Prop × AV)
  | [.agg [.int .i64 q, .int .i64 s], .sl _ 6 xs] => some ((xs.map unBox).map Box6.row = xs ∧ (xs.map unBox).length ≤ 1048576, (lapPath q s (xs.map unBox)).av)
  | _ => none
theorem no99_av (p : Path5) : No99 p.av := by
  simp [Path5.av, No99, No99L, no99_step]
def t_next : List AV → Option (Prop × AV)
  | [.agg [.int .i64 q, .int .i64 s, .sl _ 7 xs, .int .i64 f, .int .i64 b], .sl _ 1 ys] => some ((xs.map unStp).map Stp7.row = xs ∧ (ys.map unI).map irow = ys, .tup [.agg [.int .i64 (Path5.next ⟨q, s, xs.map unStp, f, b⟩ (ys.map unI)).lo, .int .i64 (Path5.next ⟨q, s, xs.map unStp, f, b⟩ (ys.map unI)).hi], .bool (decide (Path5.begun ⟨q, s, xs.map unStp, f, b⟩ (ys.map unI)))])
  | _ => none
abbrev t_sLap := t_lap
theorem h_sLap : ∀ args p v, t_lap args = some (p, v) → p → Contract P 63 args [] v [] ∧ noref v = true ∧ No99 v := by
  intro args p v h1 h2
  unfold t_lap at h1
  split at h1
  · rename_i q s t xs
    cases h1
    have := c_sLapPath q s t (xs.map unBox) h2.2
    rw [h2.1] at this
    exact ⟨this, rfl, no99_av _⟩
  · cases h1
abbrev t_iLap := t_lap
theorem h_iLap : ∀ args p v, t_lap args = some (p, v) → p → Contract P 108 args [] v [] ∧ noref v = true ∧ No99 v := by
  intro args p v h1 h2
  unfold t_lap at h1
  split at h1
  · rename_i q s t xs
    cases h1
    have := c_iLapPath q s t (xs.map unBox) h2.2
    rw [h2.1] at this
    exact ⟨this, rfl, no99_av _⟩
  · cases h1
abbrev t_sNext := t_next
theorem h_sNext : ∀ args p v, t_next args = some (p, v) → p → Contract P 82 args [] v [] ∧ noref v = true ∧ No99 v := by
  intro args p v h1 h2
  unfold t_next at h1
  split at h1
  · rename_i q s t xs f b t' ys
    cases h1
    have := c_sFlyNext ⟨q, s, xs.map unStp, f, b⟩ t t' (ys.map unI)
    simp only [h2.1, h2.2] at this
    exact ⟨this, rfl, ⟨trivial, trivial, trivial⟩, trivial, trivial⟩
  · cases h1
abbrev t_iNext := t_next
theorem h_iNext : ∀ args p v, t_next args = some (p, v) → p → Contract P 81 args [] v [] ∧ noref v = true ∧ No99 v := by
  intro args p v h1 h2
  unfold t_next at h1
  split at h1
  · rename_i q s t xs f b t' ys
    cases h1
    have := c_iFlyNext ⟨q, s, xs.map unStp, f, b⟩ t t' (ys.map unI)
    simp only [h2.1, h2.2] at this
    exact ⟨this, rfl, ⟨trivial, trivial, trivial⟩, trivial, trivial⟩
  · cases h1
theorem c_l43Next (nm : ByteArray) (q s nr no : Int) (t t' : Nat) (tu : List Box6) (fl : List Int) (now : Int) (hl : tu.length ≤ 1048576) : Contract P 65 [.agg [.str nm, .int .i64 q, .int .i64 s, .int .i64 nr, .int .i64 no, .sl t 6 (tu.map Box6.row), .sl t' 1 (fl.map irow)], .int .i64 now] [] (.bool (decide ((lapPath q s tu).begun fl ∧ ((lapPath q s tu).next fl).lo ≤ now ∧ now ≤ ((lapPath q s tu).next fl).hi))) [] := by
  refine fn_sound ((((Env.nil P).add 63 t_sLap h_sLap).add 82 t_sNext h_sNext).add 105 t_l1In h_l1In) hm k_spec_l43Next (Nat.le_of_ble_eq_true rfl) rfl ?_
  unfold s_spec_l43Next
  simp only [w_skip, w_rg, w_rgd, w_seq, w_cond, w_block, w_loop, w_exit, w_ret, w_gh, w_rg0, w_rg1, w_rgT, w_rgF, w_run, w_psd, w_und, w_dr0, w_dr1, w_drT, w_drF, w_drRun, w_drPsd, w_drUnd, w_drKn, w_drKs, w_putK, w_trimK, w_thenN, w_thenE, w_thenR, w_scope, w_label, w_blkN, w_blkE, w_blkR, w_call, w_effK, brU_true, brU_false, brU_u, brU_not, brU_and, brU_or, brU_dec, brU_eq, brU_ne, br_true, br_false, br_not, br_and, br_or, br_dec, br_eq, br_ne, w_getE0, w_getE1, w_setE0, w_setE1, w_dropE0, w_dropE1, w_drop0, w_drop1, w_getM0, w_getM1, w_setM0, w_setM1, ev_v, ev_c, w_putS, w_putN, w_lit, w_apU0, w_apU1, w_apU2, w_trim, enumE0, enumE1, w_callWp, w_callA0, w_callA1, w_R0, w_R1, w_R2, w_T2, w_callL, w_callT, w_T1, w_T0, o_mv, o_newnil, o_pick, o_bin, o_binN, o_neg, o_not, o_eqB, o_eqS, o_conv, o_alloc, o_box, o_load1, o_loadN, o_store, o_nilck, o_faddr, o_field1, o_fieldN, o_iaddr, o_istr, o_slStr, o_slSl, o_lenS, o_lenL, o_mx, o_mn, o_ext, o_build, o_lit, o_litOwn, o_app, o_mk, o_mvfrz, l_int, l_bool, l_str, l_agg, l_sl, l_own, l_ptr, l_pp, i_int, i_bool, i_str, i_sl, i_own, i_ptr, i_pp, all0, all1, e_ok1, eff, effBin, effBinN, ld_ptr, ld_pp, ld_elt, ia_own, ia_arr, el_1, el_N, load1K, faddrE, r_iaddr, sg_S, sg_c, sg_n, purL, pur, List.map, List.drop, List.take, List.length, List.foldl, List.append_eq, List.nil_append, List.cons_append, List.getD_cons_zero, List.getD_cons_succ, reduceIte, Nat.reduceEqDiff, Nat.reduceAdd, Nat.reduceLeDiff, true_and, and_true, Bool.not_true, Bool.not_false, Bool.and_true, Bool.true_and, Bool.and_self, reduceCtorEq, true_implies, false_implies, implies_true, decide_eq_true_eq, Option.map_some, fpOf, fpX, SOp.xs, oX, refs, refsL, dom, disj, List.all_nil, List.all_cons, List.contains_cons, List.contains_nil, Nat.reduceBEq, Bool.or_false, Bool.false_or, List.append_nil, Bool.not_false, Bool.not_true, List.forall_mem_cons, fm0, List.set, Nat.reduceLT, ne_eq, not_false_eq_true, not_true_eq_false
, ret1, ret1N, keep0, keep1, rf_int, rf_bool, rf_str, rf_sl, rf_agg, rf_tup, rfL0, rfL1, re_t, re_cN, re_L0, re_L1, ret_tup, ret_one, decide_true, AV.bool.injEq, AV.int.injEq, Nat.reduceLeDiff, Bool.true_eq, Bool.false_eq, decide_eq_true_eq, decide_eq_false_iff_not, t_sLap, t_sNext, t_l1In, t_lap, t_next, List.length_map, irow, un_box, un_stp, un_i, path_eta, Path5.av, flatOk, noref, ghost, Nat.zero_add, Nat.sub_zero, Int.toNat_natCast]
  exact ⟨hl, fun h => decide_eq_decide.2 ⟨fun h2 => ⟨h, h2⟩, fun h2 => h2.2⟩, fun h h2 => h h2.1⟩
theorem c_next (nm : ByteArray) (q s nr no : Int) (t t' : Nat) (tu : List Box6) (fl : List Int) (hl : tu.length ≤ 1048576) : Contract P 70 [.agg [.str nm, .int .i64 q, .int .i64 s, .int .i64 nr, .int .i64 no, .sl t 6 (tu.map Box6.row), .sl t' 1 (fl.map irow)]] [] (.tup [(lapPath q s tu).av, .agg [.int .i64 ((lapPath q s tu).next fl).lo, .int .i64 ((lapPath q s tu).next fl).hi], .bool (decide ((lapPath q s tu).begun fl))]) [] := by
  refine fn_sound (((Env.nil P).add 108 t_iLap h_iLap).add 81 t_iNext h_iNext) hm k_impl_LapCraft_next (Nat.le_of_ble_eq_true rfl) rfl ?_
  unfold s_impl_LapCraft_next
  simp only [w_skip, w_rg, w_rgd, w_seq, w_cond, w_block, w_loop, w_exit, w_ret, w_gh, w_rg0, w_rg1, w_rgT, w_rgF, w_run, w_psd, w_und, w_dr0, w_dr1, w_drT, w_drF, w_drRun, w_drPsd, w_drUnd, w_drKn, w_drKs, w_putK, w_trimK, w_thenN, w_thenE, w_thenR, w_scope, w_label, w_blkN, w_blkE, w_blkR, w_call, w_effK, brU_true, brU_false, brU_u, brU_not, brU_and, brU_or, brU_dec, brU_eq, brU_ne, br_true, br_false, br_not, br_and, br_or, br_dec, br_eq, br_ne, w_getE0, w_getE1, w_setE0, w_setE1, w_dropE0, w_dropE1, w_drop0, w_drop1, w_getM0, w_getM1, w_setM0, w_setM1, ev_v, ev_c, w_putS, w_putN, w_lit, w_apU0, w_apU1, w_apU2, w_trim, enumE0, enumE1, w_callWp, w_callA0, w_callA1, w_R0, w_R1, w_R2, w_T2, w_callL, w_callT, w_T1, w_T0, o_mv, o_newnil, o_pick, o_bin, o_binN, o_neg, o_not, o_eqB, o_eqS, o_conv, o_alloc, o_box, o_load1, o_loadN, o_store, o_nilck, o_faddr, o_field1, o_fieldN, o_iaddr, o_istr, o_slStr, o_slSl, o_lenS, o_lenL, o_mx, o_mn, o_ext, o_build, o_lit, o_litOwn, o_app, o_mk, o_mvfrz, l_int, l_bool, l_str, l_agg, l_sl, l_own, l_ptr, l_pp, i_int, i_bool, i_str, i_sl, i_own, i_ptr, i_pp, all0, all1, e_ok1, eff, effBin, effBinN, ld_ptr, ld_pp, ld_elt, ia_own, ia_arr, el_1, el_N, load1K, faddrE, r_iaddr, sg_S, sg_c, sg_n, purL, pur, List.map, List.drop, List.take, List.length, List.foldl, List.append_eq, List.nil_append, List.cons_append, List.getD_cons_zero, List.getD_cons_succ, reduceIte, Nat.reduceEqDiff, Nat.reduceAdd, Nat.reduceLeDiff, true_and, and_true, Bool.not_true, Bool.not_false, Bool.and_true, Bool.true_and, Bool.and_self, reduceCtorEq, true_implies, false_implies, implies_true, decide_eq_true_eq, Option.map_some, fpOf, fpX, SOp.xs, oX, refs, refsL, dom, disj, List.all_nil, List.all_cons, List.contains_cons, List.contains_nil, Nat.reduceBEq, Bool.or_false, Bool.false_or, List.append_nil, Bool.not_false, Bool.not_true, List.forall_mem_cons, fm0, List.set, Nat.reduceLT, ne_eq, not_false_eq_true, not_true_eq_false
, ret1, ret1N, keep0, keep1, rf_int, rf_bool, rf_str, rf_sl, rf_agg, rf_tup, rfL0, rfL1, re_t, re_cN, re_L0, re_L1, ret_tup, ret_one, decide_true, AV.bool.injEq, AV.int.injEq, Nat.reduceLeDiff, Bool.true_eq, Bool.false_eq, decide_eq_true_eq, decide_eq_false_iff_not, t_iLap, t_iNext, t_lap, t_next, List.length_map, irow, un_box, un_stp, un_i, path_eta, Path5.av, flatOk, noref, ghost, Nat.zero_add, Nat.sub_zero, Int.toNat_natCast]
  exact hl
end Go.Ve

namespace Go.Ve
open Go.Proofs
set_option linter.unusedSimpArgs false
set_option linter.unusedVariables false
set_option maxRecDepth 100000
theorem ext_of {α : Type} [Inhabited α] {a b : List α} (hl : a.length = b.length) (h : ∀ j, j < a.length → a.getD j default = b.getD j default) : a = b := by
  refine List.ext_getElem hl fun j h1 h2 => ?_
  have := h j h1
  simpa [h1, h2] using this
def F_eqIntS (t t' : Nat) (a b : List Int) (i : Nat) : St := ⟨[(0, .sl t 1 (a.map irow)), (1, .sl t' 1 (b.map irow)), (5, .int .i64 i)], []⟩
theorem c_eqIntS (t t' : Nat) (a b : List Int) (ha : a.length ≤ 4611686018427387904) : Contract P 74 [.sl t 1 (a.map irow), .sl t' 1 (b.map irow)] [] (.bool (decide (a = b))) [] := by
  refine fn_sound (Env.nil P) hm k_laws_eqIntS (Nat.le_of_ble_eq_true rfl) rfl ?_
  unfold s_laws_eqIntS
  simp only [w_skip, w_rg, w_rgd, w_seq, w_cond, w_block, w_loop, w_exit, w_ret, w_gh, w_rg0, w_rg1, w_rgT, w_rgF, w_run, w_psd, w_und, w_dr0, w_dr1, w_drT, w_drF, w_drRun, w_drPsd, w_drUnd, w_drKn, w_drKs, w_putK, w_trimK, w_thenN, w_thenE, w_thenR, w_scope, w_label, w_blkN, w_blkE, w_blkR, w_call, w_effK, brU_true, brU_false, brU_u, brU_not, brU_and, brU_or, brU_dec, brU_eq, brU_ne, br_true, br_false, br_not, br_and, br_or, br_dec, br_eq, br_ne, w_getE0, w_getE1, w_setE0, w_setE1, w_dropE0, w_dropE1, w_drop0, w_drop1, w_getM0, w_getM1, w_setM0, w_setM1, ev_v, ev_c, w_putS, w_putN, w_lit, w_apU0, w_apU1, w_apU2, w_trim, enumE0, enumE1, w_callWp, w_callA0, w_callA1, w_R0, w_R1, w_R2, w_T2, w_callL, w_callT, w_T1, w_T0, o_mv, o_newnil, o_pick, o_bin, o_binN, o_neg, o_not, o_eqB, o_eqS, o_conv, o_alloc, o_box, o_load1, o_loadN, o_store, o_nilck, o_faddr, o_field1, o_fieldN, o_iaddr, o_istr, o_slStr, o_slSl, o_lenS, o_lenL, o_mx, o_mn, o_ext, o_build, o_lit, o_litOwn, o_app, o_mk, o_mvfrz, l_int, l_bool, l_str, l_agg, l_sl, l_own, l_ptr, l_pp, i_int, i_bool, i_str, i_sl, i_own, i_ptr, i_pp, all0, all1, e_ok1, eff, effBin, effBinN, ld_ptr, ld_pp, ld_elt, ia_own, ia_arr, el_1, el_N, load1K, faddrE, r_iaddr, sg_S, sg_c, sg_n, purL, pur, List.map, List.drop, List.take, List.length, List.foldl, List.append_eq, List.nil_append, List.cons_append, List.getD_cons_zero, List.getD_cons_succ, reduceIte, Nat.reduceEqDiff, Nat.reduceAdd, Nat.reduceLeDiff, true_and, and_true, Bool.not_true, Bool.not_false, Bool.and_true, Bool.true_and, Bool.and_self, reduceCtorEq, true_implies, false_implies, implies_true, decide_eq_true_eq, Option.map_some, fpOf, fpX, SOp.xs, oX, refs, refsL, dom, disj, List.all_nil, List.all_cons, List.contains_cons, List.contains_nil, Nat.reduceBEq, Bool.or_false, Bool.false_or, List.append_nil, Bool.not_false, Bool.not_true, List.forall_mem_cons, fm0, List.set, Nat.reduceLT, ne_eq, not_false_eq_true, not_true_eq_false
, ret1, ret1N, keep0, keep1, rf_int, rf_bool, rf_str, rf_sl, rf_agg, rf_tup, rfL0, rfL1, re_t, re_cN, re_L0, re_L1, ret_tup, ret_one, decide_true, AV.bool.injEq, AV.int.injEq, Nat.reduceLeDiff, Bool.true_eq, Bool.false_eq, decide_eq_true_eq, decide_eq_false_iff_not, List.length_map, irow, Int.toNat_natCast, Int.natCast_inj]
  refine ⟨fun h1 h => h1 (by rw [h]), fun h1 => ?_⟩
  refine loop_of (F_eqIntS t t' a b) (fun i => i ≤ a.length ∧ ∀ j, j < i → a.getD j default = b.getD j default) (fun i => a.length - i) 0 ⟨⟨.inr rfl, .inr rfl, .inr rfl, trivial⟩, trivial, rfl, rfl⟩ ⟨Nat.zero_le _, fun j hj => by omega⟩ ?_
  intro i hi
  unfold l_laws_eqIntS_0 F_eqIntS
  simp only [w_skip, w_rg, w_rgd, w_seq, w_cond, w_block, w_loop, w_exit, w_ret, w_gh, w_rg0, w_rg1, w_rgT, w_rgF, w_run, w_psd, w_und, w_dr0, w_dr1, w_drT, w_drF, w_drRun, w_drPsd, w_drUnd, w_drKn, w_drKs, w_putK, w_trimK, w_thenN, w_thenE, w_thenR, w_scope, w_label, w_blkN, w_blkE, w_blkR, w_call, w_effK, brU_true, brU_false, brU_u, brU_not, brU_and, brU_or, brU_dec, brU_eq, brU_ne, br_true, br_false, br_not, br_and, br_or, br_dec, br_eq, br_ne, w_getE0, w_getE1, w_setE0, w_setE1, w_dropE0, w_dropE1, w_drop0, w_drop1, w_getM0, w_getM1, w_setM0, w_setM1, ev_v, ev_c, w_putS, w_putN, w_lit, w_apU0, w_apU1, w_apU2, w_trim, enumE0, enumE1, w_callWp, w_callA0, w_callA1, w_R0, w_R1, w_R2, w_T2, w_callL, w_callT, w_T1, w_T0, o_mv, o_newnil, o_pick, o_bin, o_binN, o_neg, o_not, o_eqB, o_eqS, o_conv, o_alloc, o_box, o_load1, o_loadN, o_store, o_nilck, o_faddr, o_field1, o_fieldN, o_iaddr, o_istr, o_slStr, o_slSl, o_lenS, o_lenL, o_mx, o_mn, o_ext, o_build, o_lit, o_litOwn, o_app, o_mk, o_mvfrz, l_int, l_bool, l_str, l_agg, l_sl, l_own, l_ptr, l_pp, i_int, i_bool, i_str, i_sl, i_own, i_ptr, i_pp, all0, all1, e_ok1, eff, effBin, effBinN, ld_ptr, ld_pp, ld_elt, ia_own, ia_arr, el_1, el_N, load1K, faddrE, r_iaddr, sg_S, sg_c, sg_n, purL, pur, List.map, List.drop, List.take, List.length, List.foldl, List.append_eq, List.nil_append, List.cons_append, List.getD_cons_zero, List.getD_cons_succ, reduceIte, Nat.reduceEqDiff, Nat.reduceAdd, Nat.reduceLeDiff, true_and, and_true, Bool.not_true, Bool.not_false, Bool.and_true, Bool.true_and, Bool.and_self, reduceCtorEq, true_implies, false_implies, implies_true, decide_eq_true_eq, Option.map_some, fpOf, fpX, SOp.xs, oX, refs, refsL, dom, disj, List.all_nil, List.all_cons, List.contains_cons, List.contains_nil, Nat.reduceBEq, Bool.or_false, Bool.false_or, List.append_nil, Bool.not_false, Bool.not_true, List.forall_mem_cons, fm0, List.set, Nat.reduceLT, ne_eq, not_false_eq_true, not_true_eq_false
, ret1, ret1N, keep0, keep1, rf_int, rf_bool, rf_str, rf_sl, rf_agg, rf_tup, rfL0, rfL1, re_t, re_cN, re_L0, re_L1, ret_tup, ret_one, decide_true, AV.bool.injEq, AV.int.injEq, Nat.reduceLeDiff, Bool.true_eq, Bool.false_eq, decide_eq_true_eq, decide_eq_false_iff_not, List.length_map, irow, Int.toNat_natCast, Int.natCast_inj]
  refine ⟨fun h2 => ⟨by omega, by omega, by omega, by omega, fun h3 h => h3 (by rw [h]), fun h3 => ⟨by omega, loopK_of (i + 1) ⟨⟨.inr rfl, .inr rfl, .inr rfl, trivial⟩, trivial, rfl, rfl⟩ ⟨by omega, fun j hj => ?_⟩ (by omega)⟩⟩, fun h2 => ext_of (by omega) fun j hj => hi.2 j (by have := hi.1; omega)⟩
  by_cases e : j = i
  · subst e; exact h3
  · exact hi.2 j (by omega)
end Go.Ve

