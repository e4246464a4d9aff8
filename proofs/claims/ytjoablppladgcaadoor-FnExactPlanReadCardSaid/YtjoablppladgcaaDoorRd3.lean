/- Part 3 of the proof: laws and contracts of functions, each proved; they are joined in the last part. No conditions beyond those that the theorems state. -/
import Derived.Ground.MpProg
import Derived.Ground.NamesProg
import Derived.Lib.AppendIntMem
import Derived.Shelf.Pu.Clone
import Derived.Shelf.Strconv.Atoi
import Derived.Shelf.Strconv.Itoa3
import Derived.Shelf.Strings.Count
import Derived.Shelf.Strings.Search3
import Derived.Shelf.Strings.SlTrimAscii
import Derived.WalkKit
import Derived.Test.YtjoablppladgcaaDoorProg
import Derived.Test.YtjoablppladgcaaDoorRd2
set_option linter.all false
namespace Go.Ve
open Go.Proofs
set_option maxRecDepth 100000
/-- laws.FnExactPlanRead: function 3 -/
def s_laws_FnExactPlanRead : SFun := { n := 29, res := [.t 2], body := (.seq (.rg [⟨some 2, .mv (.c (.bool false)), none, [2]⟩] [0]) (.seq (.seq (.rg [⟨some 7, .mv (.v 0), none, []⟩, ⟨some 8, .lenS (.v 7), none, [7]⟩, ⟨some 9, .bin .gtr (.v 8) (.c (.int .i64 1048576)), none, [8]⟩] [0, 9]) (.cond (.v 9) (.seq (.rg [⟨some 2, .mv (.c (.bool true)), none, []⟩] [2]) .ret) .skip)) (.seq (.rg [⟨some 11, .mv (.v 0), none, []⟩, ⟨some 12, .call 4 [.v 11], none, [11]⟩, ⟨some 10, .mv (.v 12), none, [12]⟩, ⟨some 13, .ext 0 (.v 10), none, []⟩, ⟨some 14, .ext 1 (.v 10), none, [10]⟩, ⟨some 3, .alloc 103 [.str ⟨#[]⟩, .int .i64 0, .int .i64 0, .str ⟨#[]⟩], none, []⟩, ⟨none, .store 4 (.v 3) (.v 13), none, [13]⟩, ⟨some 4, .mv (.v 14), none, [14]⟩] [0, 3, 4]) (.seq (.rg [⟨some 16, .mv (.v 0), none, [0]⟩, ⟨some 17, .call 5 [.v 16], none, [16]⟩, ⟨some 15, .mv (.v 17), none, [17]⟩, ⟨some 18, .ext 0 (.v 15), none, []⟩, ⟨some 19, .ext 1 (.v 15), none, [15]⟩, ⟨some 5, .alloc 105 [.str ⟨#[]⟩, .int .i64 0, .int .i64 0, .str ⟨#[]⟩], none, []⟩, ⟨none, .store 4 (.v 5) (.v 18), none, [18]⟩, ⟨some 6, .mv (.v 19), none, [19]⟩] [3, 4, 5, 6]) (.seq (.seq (.rg [⟨some 20, .loadN 4 (.v 5), none, [5]⟩, ⟨some 21, .loadN 4 (.v 3), none, [3]⟩, ⟨some 22, .call 6 [.v 20, .v 21], none, [20, 21]⟩, ⟨some 23, .not (.v 22), none, [22]⟩, ⟨some 24, .mv (.v 23), none, [23]⟩, ⟨some 25, .mv (.v 6), some (24, false), [6]⟩, ⟨some 26, .mv (.v 4), some (24, false), [4]⟩, ⟨some 27, .eqB true (.v 25) (.v 26), some (24, false), [25, 26]⟩, ⟨some 28, .pick (.v 24) (.c (.bool true)) (.v 27), none, [24, 27]⟩] [28]) (.cond (.v 28) (.seq (.rg [⟨some 2, .mv (.c (.bool false)), none, []⟩] [2]) .ret) .skip)) (.seq (.rg [⟨some 2, .mv (.c (.bool true)), none, []⟩] [2]) .ret)))))) }
theorem k_laws_FnExactPlanRead : okFun Go.Proofs.Tryd.prog 3 s_laws_FnExactPlanRead = true := by kernel_rfl
def l_spec_PlanRead_0 : SCode := (.seq (.seq (.rg [⟨some 22, .mv (.v 6), none, []⟩, ⟨some 23, .call 9 [], none, []⟩, ⟨some 24, .lenL (.v 23), none, [23]⟩, ⟨some 25, .bin .lss (.v 22) (.v 24), none, [22, 24]⟩] [0, 2, 4, 5, 6, 25]) (.cond (.v 25) .skip (.exit 0))) (.seq (.block 1 (.seq (.rgd [⟨some 28, .call 9 [], none, []⟩, ⟨some 29, .mv (.v 6), none, []⟩, ⟨some 30, .iaddr 1 (.v 28) (.v 29), none, []⟩, ⟨some 31, .load1 (.v 30), none, []⟩, ⟨some 32, .mv (.v 4), none, []⟩, ⟨some 33, .iaddr 1 (.v 32) (.c (.int .i64 2)), none, []⟩, ⟨some 34, .load1 (.v 33), none, []⟩, ⟨some 35, .bin .eql (.v 31) (.v 34), none, []⟩] [0, 2, 4, 5, 6, 35] [some [], none, none, none, none, some [4], some [5], none]) (.cond (.v 35) (.rg [⟨some 36, .mv (.v 6), none, []⟩, ⟨some 37, .binN .add (.v 36) (.c (.int .i64 1)), none, [36]⟩, ⟨some 38, .faddr 1 (.v 5), none, []⟩, ⟨none, .store 1 (.v 38) (.v 37), none, [37, 38]⟩] [0, 2, 4, 5, 6]) .skip))) (.rg [⟨some 26, .mv (.v 6), none, [6]⟩, ⟨some 27, .binN .add (.v 26) (.c (.int .i64 1)), none, [26]⟩, ⟨some 6, .mv (.v 27), none, [27]⟩] [0, 2, 4, 5, 6])))
/-- spec.PlanRead: function 4 -/
def s_spec_PlanRead : SFun := { n := 69, res := [.cN 2 4, .t 3], body := (.seq (.rg [⟨some 2, .alloc 102 [.str ⟨#[]⟩, .int .i64 0, .int .i64 0, .str ⟨#[]⟩], none, []⟩, ⟨some 3, .mv (.c (.bool false)), none, [3]⟩] [0, 2]) (.seq (.rg [⟨some 8, .mv (.v 0), none, []⟩, ⟨some 9, .call 7 [.v 8, .c (.int .u8 32)], none, [8]⟩, ⟨some 4, .mv (.v 9), none, [9]⟩] [0, 2, 4]) (.seq (.seq (.rg [⟨some 10, .mv (.v 4), none, []⟩, ⟨some 11, .lenL (.v 10), none, [10]⟩, ⟨some 12, .bin .lss (.v 11) (.c (.int .i64 5)), none, [11]⟩] [0, 2, 4, 12]) (.cond (.v 12) (.seq (.rg [⟨some 13, .build [.str ⟨#[]⟩, .int .i64 0, .int .i64 0, .str ⟨#[]⟩] [], none, []⟩, ⟨none, .store 4 (.v 2) (.v 13), none, [13]⟩, ⟨some 3, .mv (.c (.bool false)), none, []⟩] [2, 3]) .ret) .skip)) (.seq (.rgd [⟨some 14, .mv (.v 4), none, []⟩, ⟨some 15, .iaddr 1 (.v 14) (.c (.int .i64 1)), none, []⟩, ⟨some 16, .load1 (.v 15), none, []⟩, ⟨some 17, .mv (.v 4), none, []⟩, ⟨some 18, .iaddr 1 (.v 17) (.c (.int .i64 3)), none, []⟩, ⟨some 19, .load1 (.v 18), none, []⟩, ⟨some 20, .call 8 [.v 19], none, []⟩, ⟨some 21, .build [.str ⟨#[]⟩, .int .i64 0, .int .i64 0, .str ⟨#[]⟩] [(0, 1, .v 16), (2, 1, .v 20)], none, []⟩, ⟨some 5, .alloc 105 [.str ⟨#[]⟩, .int .i64 0, .int .i64 0, .str ⟨#[]⟩], none, []⟩, ⟨none, .store 4 (.v 5) (.v 21), none, []⟩] [0, 2, 4, 5] [none, some [], some [], none, some [], some [], some [4, 3], none, some [6, 5, 3, 2, 1], none]) (.seq (.seq (.rg [⟨some 6, .mv (.c (.int .i64 0)), none, []⟩] [0, 2, 4, 5, 6]) (.block 0 (.loop l_spec_PlanRead_0))) (.seq (.rgd [⟨some 39, .mv (.v 4), none, []⟩, ⟨some 40, .iaddr 1 (.v 39) (.c (.int .i64 0)), none, []⟩, ⟨some 41, .load1 (.v 40), none, []⟩, ⟨some 42, .lenS (.v 41), none, []⟩, ⟨some 43, .mv (.v 4), none, []⟩, ⟨some 44, .iaddr 1 (.v 43) (.c (.int .i64 1)), none, []⟩, ⟨some 45, .load1 (.v 44), none, []⟩, ⟨some 46, .lenS (.v 45), none, []⟩, ⟨some 47, .binN .add (.v 42) (.v 46), none, []⟩, ⟨some 48, .mv (.v 4), none, []⟩, ⟨some 49, .iaddr 1 (.v 48) (.c (.int .i64 2)), none, []⟩, ⟨some 50, .load1 (.v 49), none, []⟩, ⟨some 51, .lenS (.v 50), none, []⟩, ⟨some 52, .binN .add (.v 47) (.v 51), none, []⟩, ⟨some 53, .mv (.v 4), none, []⟩, ⟨some 54, .iaddr 1 (.v 53) (.c (.int .i64 3)), none, []⟩, ⟨some 55, .load1 (.v 54), none, []⟩, ⟨some 56, .lenS (.v 55), none, []⟩, ⟨some 57, .binN .add (.v 52) (.v 56), none, []⟩, ⟨some 58, .binN .add (.v 57) (.c (.int .i64 4)), none, []⟩, ⟨some 7, .mv (.v 58), none, []⟩] [0, 2, 5, 7] [none, none, none, none, none, none, none, none, none, none, none, none, none, none, none, none, none, none, none, none, none]) (.seq (.rg [⟨some 59, .mv (.v 0), none, []⟩, ⟨some 60, .mv (.v 7), none, [7]⟩, ⟨some 61, .slStr (.v 59) (some (.v 60)) none, none, [59, 60]⟩, ⟨some 62, .faddr 3 (.v 5), none, []⟩, ⟨none, .store 1 (.v 62) (.v 61), none, [61, 62]⟩] [0, 2, 5]) (.seq (.seq (.rg [⟨some 63, .loadN 4 (.v 5), none, []⟩, ⟨some 64, .call 10 [.v 63], none, [63]⟩, ⟨some 65, .mv (.v 0), none, [0]⟩, ⟨some 66, .bin .neq (.v 64) (.v 65), none, [64, 65]⟩] [2, 5, 66]) (.cond (.v 66) (.seq (.rg [⟨some 67, .build [.str ⟨#[]⟩, .int .i64 0, .int .i64 0, .str ⟨#[]⟩] [], none, []⟩, ⟨none, .store 4 (.v 2) (.v 67), none, [67]⟩, ⟨some 3, .mv (.c (.bool false)), none, []⟩] [2, 3]) .ret) .skip)) (.seq (.rg [⟨some 68, .loadN 4 (.v 5), none, [5]⟩, ⟨none, .store 4 (.v 2) (.v 68), none, [68]⟩, ⟨some 3, .mv (.c (.bool true)), none, []⟩] [2, 3]) .ret))))))))) }
theorem k_spec_PlanRead : okFun Go.Proofs.Tryd.prog 4 s_spec_PlanRead = true := by kernel_rfl
/-- impl.PlanRead: function 5 -/
def s_impl_PlanRead : SFun := { n := 51, res := [.cN 2 4, .t 3], body := (.seq (.rg [⟨some 2, .alloc 102 [.str ⟨#[]⟩, .int .i64 0, .int .i64 0, .str ⟨#[]⟩], none, []⟩, ⟨some 3, .mv (.c (.bool false)), none, [3]⟩] [0, 2]) (.seq (.rg [⟨some 8, .mv (.v 0), none, []⟩, ⟨some 9, .call 11 [.v 8, .c (.str ⟨#[32]⟩), .c (.int .i64 5)], none, [8]⟩, ⟨some 4, .mv (.v 9), none, [9]⟩] [0, 2, 4]) (.seq (.seq (.rg [⟨some 10, .mv (.v 4), none, []⟩, ⟨some 11, .lenL (.v 10), none, [10]⟩, ⟨some 12, .bin .neq (.v 11) (.c (.int .i64 5)), none, [11]⟩] [0, 2, 4, 12]) (.cond (.v 12) (.seq (.rg [⟨some 13, .build [.str ⟨#[]⟩, .int .i64 0, .int .i64 0, .str ⟨#[]⟩] [], none, []⟩, ⟨none, .store 4 (.v 2) (.v 13), none, [13]⟩, ⟨some 3, .mv (.c (.bool false)), none, []⟩] [2, 3]) .ret) .skip)) (.seq (.rg [⟨some 15, .mv (.v 4), none, []⟩, ⟨some 16, .iaddr 1 (.v 15) (.c (.int .i64 3)), none, [15]⟩, ⟨some 17, .load1 (.v 16), none, [16]⟩, ⟨some 18, .call 12 [.v 17, .c (.int .i64 7)], none, [17]⟩, ⟨some 14, .mv (.v 18), none, [18]⟩, ⟨some 19, .ext 0 (.v 14), none, []⟩, ⟨some 20, .ext 1 (.v 14), none, [14]⟩, ⟨some 5, .mv (.v 19), none, [19]⟩, ⟨some 6, .mv (.v 20), none, [20]⟩] [0, 2, 4, 5, 6]) (.seq (.rgd [⟨some 21, .mv (.v 4), none, []⟩, ⟨some 22, .iaddr 1 (.v 21) (.c (.int .i64 1)), none, []⟩, ⟨some 23, .load1 (.v 22), none, []⟩, ⟨some 24, .call 13 [.v 23], none, []⟩, ⟨some 25, .load1 (.g 0), none, []⟩, ⟨some 26, .mv (.v 4), none, []⟩, ⟨some 27, .iaddr 1 (.v 26) (.c (.int .i64 2)), none, []⟩, ⟨some 28, .load1 (.v 27), none, []⟩, ⟨some 29, .call 14 [.v 25, .v 28], none, []⟩, ⟨some 30, .mx (.v 29) (.c (.int .i64 0)), none, []⟩, ⟨some 31, .mv (.v 5), none, []⟩, ⟨some 32, .mv (.v 4), none, []⟩, ⟨some 33, .iaddr 1 (.v 32) (.c (.int .i64 4)), none, []⟩, ⟨some 34, .load1 (.v 33), none, []⟩, ⟨some 35, .call 13 [.v 34], none, []⟩, ⟨some 36, .build [.str ⟨#[]⟩, .int .i64 0, .int .i64 0, .str ⟨#[]⟩] [(0, 1, .v 24), (1, 1, .v 30), (2, 1, .v 31), (3, 1, .v 35)], none, []⟩, ⟨some 7, .alloc 107 [.str ⟨#[]⟩, .int .i64 0, .int .i64 0, .str ⟨#[]⟩], none, []⟩, ⟨none, .store 4 (.v 7) (.v 36), none, []⟩] [0, 2, 6, 7] [none, some [], some [], some [], some [0], none, some [2], some [3], some [], none, none, none, some [8, 3], some [9, 4], some [], none, some [14, 13, 12, 11, 9, 8, 7, 3, 2, 1], none]) (.seq (.seq (.rg [⟨some 37, .mv (.v 6), none, [6]⟩, ⟨some 38, .not (.v 37), none, [37]⟩, ⟨some 39, .mv (.v 38), none, [38]⟩, ⟨some 40, .mv (.v 0), some (39, false), []⟩, ⟨some 41, .bin .eql (.v 40) (.c (.str ⟨#[]⟩)), some (39, false), [40]⟩, ⟨some 42, .pick (.v 39) (.c (.bool true)) (.v 41), none, [39, 41]⟩, ⟨some 43, .mv (.v 42), none, [42]⟩, ⟨some 44, .loadN 4 (.v 7), some (43, false), []⟩, ⟨some 45, .call 15 [.v 44], some (43, false), [44]⟩, ⟨some 46, .mv (.v 0), some (43, false), [0]⟩, ⟨some 47, .bin .neq (.v 45) (.v 46), some (43, false), [45, 46]⟩, ⟨some 48, .pick (.v 43) (.c (.bool true)) (.v 47), none, [43, 47]⟩] [2, 7, 48]) (.cond (.v 48) (.seq (.rg [⟨some 49, .build [.str ⟨#[]⟩, .int .i64 0, .int .i64 0, .str ⟨#[]⟩] [], none, []⟩, ⟨none, .store 4 (.v 2) (.v 49), none, [49]⟩, ⟨some 3, .mv (.c (.bool false)), none, []⟩] [2, 3]) .ret) .skip)) (.seq (.rg [⟨some 50, .loadN 4 (.v 7), none, [7]⟩, ⟨none, .store 4 (.v 2) (.v 50), none, [50]⟩, ⟨some 3, .mv (.c (.bool true)), none, []⟩] [2, 3]) .ret))))))) }
theorem k_impl_PlanRead : okFun Go.Proofs.Tryd.prog 5 s_impl_PlanRead = true := by kernel_rfl
/-- laws.eqPlanChange: function 6 -/
def s_laws_eqPlanChange : SFun := { n := 25, res := [.t 4], body := (.seq (.rg [⟨some 2, .box 102 (.v 0), none, [0]⟩, ⟨some 3, .box 103 (.v 1), none, [1]⟩, ⟨some 4, .mv (.c (.bool false)), none, [4]⟩] [2, 3]) (.seq (.seq (.rg [⟨some 5, .faddr 0 (.v 2), none, []⟩, ⟨some 6, .load1 (.v 5), none, [5]⟩, ⟨some 7, .faddr 0 (.v 3), none, []⟩, ⟨some 8, .load1 (.v 7), none, [7]⟩, ⟨some 9, .bin .neq (.v 6) (.v 8), none, [6, 8]⟩] [2, 3, 9]) (.cond (.v 9) (.seq (.rg [⟨some 4, .mv (.c (.bool false)), none, []⟩] [4]) .ret) .skip)) (.seq (.seq (.rg [⟨some 10, .faddr 1 (.v 2), none, []⟩, ⟨some 11, .load1 (.v 10), none, [10]⟩, ⟨some 12, .faddr 1 (.v 3), none, []⟩, ⟨some 13, .load1 (.v 12), none, [12]⟩, ⟨some 14, .bin .neq (.v 11) (.v 13), none, [11, 13]⟩] [2, 3, 14]) (.cond (.v 14) (.seq (.rg [⟨some 4, .mv (.c (.bool false)), none, []⟩] [4]) .ret) .skip)) (.seq (.seq (.rg [⟨some 15, .faddr 2 (.v 2), none, []⟩, ⟨some 16, .load1 (.v 15), none, [15]⟩, ⟨some 17, .faddr 2 (.v 3), none, []⟩, ⟨some 18, .load1 (.v 17), none, [17]⟩, ⟨some 19, .bin .neq (.v 16) (.v 18), none, [16, 18]⟩] [2, 3, 19]) (.cond (.v 19) (.seq (.rg [⟨some 4, .mv (.c (.bool false)), none, []⟩] [4]) .ret) .skip)) (.seq (.seq (.rg [⟨some 20, .faddr 3 (.v 2), none, [2]⟩, ⟨some 21, .load1 (.v 20), none, [20]⟩, ⟨some 22, .faddr 3 (.v 3), none, [3]⟩, ⟨some 23, .load1 (.v 22), none, [22]⟩, ⟨some 24, .bin .neq (.v 21) (.v 23), none, [21, 23]⟩] [24]) (.cond (.v 24) (.seq (.rg [⟨some 4, .mv (.c (.bool false)), none, []⟩] [4]) .ret) .skip)) (.seq (.rg [⟨some 4, .mv (.c (.bool true)), none, []⟩] [4]) .ret)))))) }
theorem k_laws_eqPlanChange : okFun Go.Proofs.Tryd.prog 6 s_laws_eqPlanChange = true := by kernel_rfl
def l_spec_l12Cut_0 : SCode := (.seq (.seq (.rg [⟨some 9, .mv (.v 7), none, []⟩, ⟨some 10, .mv (.v 0), none, []⟩, ⟨some 11, .lenS (.v 10), none, [10]⟩, ⟨some 12, .bin .lss (.v 9) (.v 11), none, [9, 11]⟩] [0, 1, 5, 6, 7, 12]) (.cond (.v 12) .skip (.exit 0))) (.seq (.block 1 (.seq (.rg [⟨some 15, .mv (.v 0), none, []⟩, ⟨some 16, .mv (.v 7), none, []⟩, ⟨some 17, .istr (.v 15) (.v 16), none, [15, 16]⟩, ⟨some 18, .mv (.v 1), none, []⟩, ⟨some 19, .bin .eql (.v 17) (.v 18), none, [17, 18]⟩] [0, 1, 5, 6, 7, 19]) (.cond (.v 19) (.seq (.rg [⟨some 20, .mv (.v 5), none, [5]⟩, ⟨some 21, .mv (.v 0), none, []⟩, ⟨some 22, .mv (.v 6), none, [6]⟩, ⟨some 23, .mv (.v 7), none, []⟩, ⟨some 24, .slStr (.v 21) (some (.v 22)) (some (.v 23)), none, [21, 22, 23]⟩, ⟨some 25, .lit 9 1 [.v 24], none, [24]⟩, ⟨some 26, .app 108 9 1 (.v 20) (.v 25), none, [20, 25]⟩, ⟨some 5, .mv (.v 26), none, [26]⟩] [0, 1, 5, 7]) (.rg [⟨some 27, .mv (.v 7), none, []⟩, ⟨some 28, .binN .add (.v 27) (.c (.int .i64 1)), none, [27]⟩, ⟨some 6, .mv (.v 28), none, [28]⟩] [0, 1, 5, 6, 7])) .skip))) (.rg [⟨some 13, .mv (.v 7), none, [7]⟩, ⟨some 14, .binN .add (.v 13) (.c (.int .i64 1)), none, [13]⟩, ⟨some 7, .mv (.v 14), none, [14]⟩] [0, 1, 5, 6, 7])))
/-- spec.l12Cut: function 7 -/
def s_spec_l12Cut : SFun := { n := 35, res := [.t 4], body := (.seq (.rg [⟨some 4, .mv (.c (.sl 0 1 [])), none, [4]⟩] [0, 1]) (.seq (.rg [⟨some 8, .litOwn 108 9 1 [], none, []⟩, ⟨some 5, .mv (.v 8), none, [8]⟩] [0, 1, 5]) (.seq (.rg [⟨some 6, .mv (.c (.int .i64 0)), none, []⟩] [0, 1, 5, 6]) (.seq (.seq (.rg [⟨some 7, .mv (.c (.int .i64 0)), none, []⟩] [0, 1, 5, 6, 7]) (.block 0 (.loop l_spec_l12Cut_0))) (.seq (.rg [⟨some 29, .mv (.v 5), none, [5]⟩, ⟨some 30, .mv (.v 0), none, [0]⟩, ⟨some 31, .mv (.v 6), none, [6]⟩, ⟨some 32, .slStr (.v 30) (some (.v 31)) none, none, [30, 31]⟩, ⟨some 33, .lit 9 1 [.v 32], none, [32]⟩, ⟨some 34, .app 108 9 1 (.v 29) (.v 33), none, [29, 33]⟩, ⟨some 4, .mv (.v 34), none, [34]⟩] [4]) (.gh (.frzE 4) .ret)))))) }
theorem k_spec_l12Cut : okFun Go.Proofs.Tryd.prog 7 s_spec_l12Cut = true := by kernel_rfl
def l_spec_l12Number_0 : SCode := (.seq (.seq (.rg [⟨some 19, .mv (.v 4), none, []⟩, ⟨some 20, .mv (.v 0), none, []⟩, ⟨some 21, .lenS (.v 20), none, [20]⟩, ⟨some 22, .bin .lss (.v 19) (.v 21), none, [19, 21]⟩] [0, 3, 4, 22]) (.cond (.v 22) .skip (.exit 0))) (.seq (.block 1 (.seq (.seq (.rg [⟨some 25, .mv (.v 0), none, []⟩, ⟨some 26, .mv (.v 4), none, []⟩, ⟨some 27, .istr (.v 25) (.v 26), none, [25, 26]⟩, ⟨some 28, .bin .lss (.v 27) (.c (.int .u8 48)), none, [27]⟩, ⟨some 29, .mv (.v 28), none, [28]⟩, ⟨some 30, .mv (.v 0), some (29, false), []⟩, ⟨some 31, .mv (.v 4), some (29, false), []⟩, ⟨some 32, .istr (.v 30) (.v 31), some (29, false), [30, 31]⟩, ⟨some 33, .bin .gtr (.v 32) (.c (.int .u8 57)), some (29, false), [32]⟩, ⟨some 34, .pick (.v 29) (.c (.bool true)) (.v 33), none, [29, 33]⟩] [0, 3, 4, 34]) (.cond (.v 34) (.seq (.rg [⟨some 2, .mv (.c (.int .i64 (-1))), none, []⟩] [2]) .ret) .skip)) (.rg [⟨some 35, .mv (.v 3), none, [3]⟩, ⟨some 36, .binN .mul (.v 35) (.c (.int .i64 10)), none, [35]⟩, ⟨some 37, .mv (.v 0), none, []⟩, ⟨some 38, .mv (.v 4), none, []⟩, ⟨some 39, .istr (.v 37) (.v 38), none, [37, 38]⟩, ⟨some 40, .conv .i64 (.v 39), none, [39]⟩, ⟨some 41, .binN .add (.v 36) (.v 40), none, [36, 40]⟩, ⟨some 42, .binN .sub (.v 41) (.c (.int .i64 48)), none, [41]⟩, ⟨some 3, .mv (.v 42), none, [42]⟩] [0, 3, 4]))) (.rg [⟨some 23, .mv (.v 4), none, [4]⟩, ⟨some 24, .binN .add (.v 23) (.c (.int .i64 1)), none, [23]⟩, ⟨some 4, .mv (.v 24), none, [24]⟩] [0, 3, 4])))
/-- spec.l12Number: function 8 -/
def s_spec_l12Number : SFun := { n := 44, res := [.t 2], body := (.seq (.rg [⟨some 2, .mv (.c (.int .i64 0)), none, [2]⟩] [0]) (.seq (.seq (.rg [⟨some 5, .mv (.v 0), none, []⟩, ⟨some 6, .lenS (.v 5), none, [5]⟩, ⟨some 7, .call 16 [.v 6, .c (.int .i64 1), .c (.int .i64 7)], none, [6]⟩, ⟨some 8, .not (.v 7), none, [7]⟩, ⟨some 9, .mv (.v 8), none, [8]⟩, ⟨some 10, .mv (.v 0), some (9, false), []⟩, ⟨some 11, .lenS (.v 10), some (9, false), [10]⟩, ⟨some 12, .bin .gtr (.v 11) (.c (.int .i64 1)), some (9, false), [11]⟩, ⟨some 13, .mv (.v 12), some (9, false), [12]⟩, ⟨some 14, .mv (.v 0), some (13, true), []⟩, ⟨some 15, .istr (.v 14) (.c (.int .i64 0)), some (13, true), [14]⟩, ⟨some 16, .bin .eql (.v 15) (.c (.int .u8 48)), some (13, true), [15]⟩, ⟨some 17, .pick (.v 13) (.v 16) (.c (.bool false)), some (9, false), [13, 16]⟩, ⟨some 18, .pick (.v 9) (.c (.bool true)) (.v 17), none, [9, 17]⟩] [0, 18]) (.cond (.v 18) (.seq (.rg [⟨some 2, .mv (.c (.int .i64 (-1))), none, []⟩] [2]) .ret) .skip)) (.seq (.rg [⟨some 3, .mv (.c (.int .i64 0)), none, []⟩] [0, 3]) (.seq (.seq (.rg [⟨some 4, .mv (.c (.int .i64 0)), none, []⟩] [0, 3, 4]) (.block 0 (.loop l_spec_l12Number_0))) (.seq (.rg [⟨some 43, .mv (.v 3), none, [3]⟩, ⟨some 2, .mv (.v 43), none, [43]⟩] [2]) .ret))))) }
theorem k_spec_l12Number : okFun Go.Proofs.Tryd.prog 8 s_spec_l12Number = true := by kernel_rfl
/-- spec.l12Words: function 9 -/
def s_spec_l12Words : SFun := { n := 2, res := [.t 0], body := (.seq (.rg [⟨some 0, .mv (.c (.sl 0 1 [])), none, [0]⟩] []) (.seq (.rg [⟨some 1, .lit 9 1 [.c (.str ⟨#[107, 105, 110, 100]⟩), .c (.str ⟨#[116, 105, 109, 101]⟩), .c (.str ⟨#[108, 101, 118, 101, 108]⟩), .c (.str ⟨#[114, 111, 117, 116, 101]⟩), .c (.str ⟨#[115, 116, 97, 116, 101]⟩)], none, []⟩, ⟨some 0, .mv (.v 1), none, [1]⟩] [0]) .ret)) }
theorem k_spec_l12Words : okFun Go.Proofs.Tryd.prog 9 s_spec_l12Words = true := by kernel_rfl
/-- spec.PlanForm: function 10 -/
def s_spec_PlanForm : SFun := { n := 49, res := [.t 2], body := (.seq (.rg [⟨some 1, .box 101 (.v 0), none, [0]⟩, ⟨some 2, .mv (.c (.str ⟨#[]⟩)), none, [2]⟩] [1]) (.seq (.seq (.rg [⟨some 3, .faddr 0 (.v 1), none, []⟩, ⟨some 4, .load1 (.v 3), none, [3]⟩, ⟨some 5, .call 17 [.v 4], none, [4]⟩, ⟨some 6, .not (.v 5), none, [5]⟩, ⟨some 7, .mv (.v 6), none, [6]⟩, ⟨some 8, .faddr 2 (.v 1), some (7, false), []⟩, ⟨some 9, .load1 (.v 8), some (7, false), [8]⟩, ⟨some 10, .call 16 [.v 9, .c (.int .i64 1), .c (.int .i64 1000000)], some (7, false), [9]⟩, ⟨some 11, .not (.v 10), some (7, false), [10]⟩, ⟨some 12, .pick (.v 7) (.c (.bool true)) (.v 11), none, [7, 11]⟩, ⟨some 13, .mv (.v 12), none, [12]⟩, ⟨some 14, .faddr 1 (.v 1), some (13, false), []⟩, ⟨some 15, .load1 (.v 14), some (13, false), [14]⟩, ⟨some 16, .call 16 [.v 15, .c (.int .i64 1), .c (.int .i64 5)], some (13, false), [15]⟩, ⟨some 17, .not (.v 16), some (13, false), [16]⟩, ⟨some 18, .pick (.v 13) (.c (.bool true)) (.v 17), none, [13, 17]⟩, ⟨some 19, .mv (.v 18), none, [18]⟩, ⟨some 20, .faddr 3 (.v 1), some (19, false), []⟩, ⟨some 21, .load1 (.v 20), some (19, false), [20]⟩, ⟨some 22, .bin .eql (.v 21) (.c (.str ⟨#[]⟩)), some (19, false), [21]⟩, ⟨some 23, .pick (.v 19) (.c (.bool true)) (.v 22), none, [19, 22]⟩, ⟨some 24, .mv (.v 23), none, [23]⟩, ⟨some 25, .faddr 3 (.v 1), some (24, false), []⟩, ⟨some 26, .load1 (.v 25), some (24, false), [25]⟩, ⟨some 27, .call 18 [.v 26], some (24, false), [26]⟩, ⟨some 28, .pick (.v 24) (.c (.bool true)) (.v 27), none, [24, 27]⟩] [1, 28]) (.cond (.v 28) (.seq (.rg [⟨some 2, .mv (.c (.str ⟨#[]⟩)), none, []⟩] [2]) .ret) .skip)) (.seq (.rgd [⟨some 29, .faddr 0 (.v 1), none, []⟩, ⟨some 30, .load1 (.v 29), none, []⟩, ⟨some 31, .bin .add (.c (.str ⟨#[115, 101, 116, 32]⟩)) (.v 30), none, []⟩, ⟨some 32, .bin .add (.v 31) (.c (.str ⟨#[32]⟩)), none, []⟩, ⟨some 33, .call 9 [], none, []⟩, ⟨some 34, .faddr 1 (.v 1), none, []⟩, ⟨some 35, .load1 (.v 34), none, []⟩, ⟨some 36, .binN .sub (.v 35) (.c (.int .i64 1)), none, []⟩, ⟨some 37, .iaddr 1 (.v 33) (.v 36), none, []⟩, ⟨some 38, .load1 (.v 37), none, []⟩, ⟨some 39, .bin .add (.v 32) (.v 38), none, []⟩, ⟨some 40, .bin .add (.v 39) (.c (.str ⟨#[32]⟩)), none, []⟩, ⟨some 41, .faddr 2 (.v 1), none, []⟩, ⟨some 42, .load1 (.v 41), none, []⟩, ⟨some 43, .call 19 [.v 42], none, []⟩, ⟨some 44, .bin .add (.v 40) (.v 43), none, []⟩, ⟨some 45, .bin .add (.v 44) (.c (.str ⟨#[32]⟩)), none, []⟩, ⟨some 46, .faddr 3 (.v 1), none, []⟩, ⟨some 47, .load1 (.v 46), none, []⟩, ⟨some 48, .bin .add (.v 45) (.v 47), none, []⟩, ⟨some 2, .mv (.v 48), none, []⟩] [2] [some [], some [], none, none, some [3, 2], some [0], some [1], none, some [], some [], none, none, some [7], some [8], some [13, 12, 8, 7, 5, 4], none, none, some [12, 2], some [13, 3], none, none]) .ret))) }
theorem k_spec_PlanForm : okFun Go.Proofs.Tryd.prog 10 s_spec_PlanForm = true := by kernel_rfl
/-- strings.SplitN: function 11 -/
def s_strings_SplitN : SFun := { n := 11, res := [.t 6], body := (.seq (.rg [⟨some 6, .mv (.c (.sl 0 1 [])), none, [6]⟩] [0, 1, 2]) (.seq (.rg [⟨some 7, .mv (.v 0), none, [0]⟩, ⟨some 8, .mv (.v 1), none, [1]⟩, ⟨some 9, .mv (.v 2), none, [2]⟩, ⟨some 10, .call 20 [.v 7, .v 8, .c (.int .i64 0), .v 9], none, [7, 8, 9]⟩, ⟨some 6, .mv (.v 10), none, [10]⟩] [6]) .ret)) }
theorem k_strings_SplitN : okFun Go.Proofs.Tryd.prog 11 s_strings_SplitN = true := by kernel_rfl
/-- impl.decimal: function 12 -/
def s_impl_decimal : SFun := { n := 36, res := [.t 4, .t 5], body := (.seq (.rg [⟨some 4, .mv (.c (.int .i64 0)), none, [4]⟩, ⟨some 5, .mv (.c (.bool false)), none, [5]⟩] [0, 1]) (.seq (.seq (.rg [⟨some 8, .mv (.v 0), none, []⟩, ⟨some 9, .bin .eql (.v 8) (.c (.str ⟨#[]⟩)), none, [8]⟩, ⟨some 10, .mv (.v 9), none, [9]⟩, ⟨some 11, .mv (.v 0), some (10, false), []⟩, ⟨some 12, .lenS (.v 11), some (10, false), [11]⟩, ⟨some 13, .mv (.v 1), some (10, false), [1]⟩, ⟨some 14, .bin .gtr (.v 12) (.v 13), some (10, false), [12, 13]⟩, ⟨some 15, .pick (.v 10) (.c (.bool true)) (.v 14), none, [10, 14]⟩, ⟨some 16, .mv (.v 15), none, [15]⟩, ⟨some 17, .mv (.v 0), some (16, false), []⟩, ⟨some 18, .call 21 [.v 17, .c (.str ⟨#[48, 49, 50, 51, 52, 53, 54, 55, 56, 57]⟩)], some (16, false), [17]⟩, ⟨some 19, .bin .neq (.v 18) (.c (.str ⟨#[]⟩)), some (16, false), [18]⟩, ⟨some 20, .pick (.v 16) (.c (.bool true)) (.v 19), none, [16, 19]⟩, ⟨some 21, .mv (.v 20), none, [20]⟩, ⟨some 22, .mv (.v 0), some (21, false), []⟩, ⟨some 23, .istr (.v 22) (.c (.int .i64 0)), some (21, false), [22]⟩, ⟨some 24, .bin .eql (.v 23) (.c (.int .u8 48)), some (21, false), [23]⟩, ⟨some 25, .mv (.v 24), some (21, false), [24]⟩, ⟨some 26, .mv (.v 0), some (25, true), []⟩, ⟨some 27, .bin .neq (.v 26) (.c (.str ⟨#[48]⟩)), some (25, true), [26]⟩, ⟨some 28, .pick (.v 25) (.v 27) (.c (.bool false)), some (21, false), [25, 27]⟩, ⟨some 29, .pick (.v 21) (.c (.bool true)) (.v 28), none, [21, 28]⟩] [0, 29]) (.cond (.v 29) (.seq (.rg [⟨some 4, .mv (.c (.int .i64 0)), none, []⟩, ⟨some 5, .mv (.c (.bool false)), none, []⟩] [4, 5]) .ret) .skip)) (.seq (.rg [⟨some 31, .mv (.v 0), none, [0]⟩, ⟨some 32, .call 22 [.v 31], none, [31]⟩, ⟨some 30, .mv (.v 32), none, [32]⟩, ⟨some 33, .ext 0 (.v 30), none, []⟩, ⟨some 34, .ext 1 (.v 30), none, [30]⟩, ⟨some 6, .mv (.v 33), none, [33]⟩, ⟨some 7, .mv (.v 34), none, [7, 34]⟩] [6]) (.seq (.rg [⟨some 35, .mv (.v 6), none, [6]⟩, ⟨some 4, .mv (.v 35), none, [35]⟩, ⟨some 5, .mv (.c (.bool true)), none, []⟩] [4, 5]) .ret)))) }
theorem k_impl_decimal : okFun Go.Proofs.Tryd.prog 12 s_impl_decimal = true := by kernel_rfl
/-- strings.Clone: function 13 -/
def s_strings_Clone : SFun := { n := 5, res := [.t 2], body := (.seq (.rg [⟨some 2, .mv (.c (.str ⟨#[]⟩)), none, [2]⟩] [0]) (.seq (.rg [⟨some 3, .mv (.v 0), none, [0]⟩, ⟨some 4, .call 23 [.v 3], none, [3]⟩, ⟨some 2, .mv (.v 4), none, [4]⟩] [2]) .ret)) }
theorem k_strings_Clone : okFun Go.Proofs.Tryd.prog 13 s_strings_Clone = true := by kernel_rfl
def l_slices_Index_string_0 : SCode := (.seq (.rg [⟨some 9, .bin .lss (.v 8) (.v 7), none, []⟩] [0, 1, 7, 8, 9]) (.seq (.cond (.v 9) .skip (.exit 0)) (.seq (.block 1 (.seq (.rg [⟨some 10, .mv (.v 8), none, []⟩, ⟨some 5, .mv (.v 10), none, [10]⟩] [0, 1, 5, 7, 8]) (.seq (.rg [⟨some 11, .mv (.v 1), none, []⟩, ⟨some 12, .mv (.v 0), none, []⟩, ⟨some 13, .mv (.v 5), none, []⟩, ⟨some 14, .iaddr 1 (.v 12) (.v 13), none, [12, 13]⟩, ⟨some 15, .load1 (.v 14), none, [14]⟩, ⟨some 16, .bin .eql (.v 11) (.v 15), none, [11, 15]⟩] [0, 1, 5, 7, 8, 16]) (.cond (.v 16) (.seq (.rg [⟨some 17, .mv (.v 5), none, [5]⟩, ⟨some 4, .mv (.v 17), none, [17]⟩] [4]) .ret) .skip)))) (.rg [⟨some 18, .binN .add (.v 8) (.c (.int .i64 1)), none, [8]⟩, ⟨some 8, .mv (.v 18), none, [18]⟩] [0, 1, 7, 8]))))
/-- slices.Index[[]string,string]: function 14 -/
def s_slices_Index_string : SFun := { n := 19, res := [.t 4], body := (.seq (.rg [⟨some 4, .mv (.c (.int .i64 0)), none, [4]⟩] [0, 1]) (.seq (.seq (.rg [⟨some 6, .mv (.v 0), none, []⟩, ⟨some 7, .lenL (.v 6), none, [6]⟩, ⟨some 8, .mv (.c (.int .i64 0)), none, []⟩] [0, 1, 7, 8]) (.block 0 (.loop l_slices_Index_string_0))) (.seq (.rg [⟨some 4, .mv (.c (.int .i64 (-1))), none, []⟩] [4]) .ret))) }
theorem k_slices_Index_string : okFun Go.Proofs.Tryd.prog 14 s_slices_Index_string = true := by kernel_rfl
/-- impl.PlanForm: function 15 -/
def s_impl_PlanForm : SFun := { n := 48, res := [.t 2], body := (.seq (.rg [⟨some 1, .box 101 (.v 0), none, [0]⟩, ⟨some 2, .mv (.c (.str ⟨#[]⟩)), none, [2]⟩] [1]) (.seq (.seq (.rg [⟨some 3, .faddr 0 (.v 1), none, []⟩, ⟨some 4, .load1 (.v 3), none, [3]⟩, ⟨some 5, .call 24 [.v 4], none, [4]⟩, ⟨some 6, .not (.v 5), none, [5]⟩, ⟨some 7, .mv (.v 6), none, [6]⟩, ⟨some 8, .faddr 1 (.v 1), some (7, false), []⟩, ⟨some 9, .load1 (.v 8), some (7, false), [8]⟩, ⟨some 10, .call 25 [.v 9, .c (.int .i64 1), .c (.int .i64 5)], some (7, false), [9]⟩, ⟨some 11, .not (.v 10), some (7, false), [10]⟩, ⟨some 12, .pick (.v 7) (.c (.bool true)) (.v 11), none, [7, 11]⟩, ⟨some 13, .mv (.v 12), none, [12]⟩, ⟨some 14, .faddr 2 (.v 1), some (13, false), []⟩, ⟨some 15, .load1 (.v 14), some (13, false), [14]⟩, ⟨some 16, .call 25 [.v 15, .c (.int .i64 1), .c (.int .i64 1000000)], some (13, false), [15]⟩, ⟨some 17, .not (.v 16), some (13, false), [16]⟩, ⟨some 18, .pick (.v 13) (.c (.bool true)) (.v 17), none, [13, 17]⟩, ⟨some 19, .mv (.v 18), none, [18]⟩, ⟨some 20, .faddr 3 (.v 1), some (19, false), []⟩, ⟨some 21, .load1 (.v 20), some (19, false), [20]⟩, ⟨some 22, .bin .eql (.v 21) (.c (.str ⟨#[]⟩)), some (19, false), [21]⟩, ⟨some 23, .pick (.v 19) (.c (.bool true)) (.v 22), none, [19, 22]⟩, ⟨some 24, .mv (.v 23), none, [23]⟩, ⟨some 25, .faddr 3 (.v 1), some (24, false), []⟩, ⟨some 26, .load1 (.v 25), some (24, false), [25]⟩, ⟨some 27, .call 26 [.v 26, .c (.str ⟨#[10]⟩)], some (24, false), [26]⟩, ⟨some 28, .pick (.v 24) (.c (.bool true)) (.v 27), none, [24, 27]⟩] [1, 28]) (.cond (.v 28) (.seq (.rg [⟨some 2, .mv (.c (.str ⟨#[]⟩)), none, []⟩] [2]) .ret) .skip)) (.seq (.rgd [⟨some 29, .faddr 0 (.v 1), none, []⟩, ⟨some 30, .load1 (.v 29), none, []⟩, ⟨some 31, .bin .add (.c (.str ⟨#[115, 101, 116, 32]⟩)) (.v 30), none, []⟩, ⟨some 32, .bin .add (.v 31) (.c (.str ⟨#[32]⟩)), none, []⟩, ⟨some 33, .load1 (.g 0), none, []⟩, ⟨some 34, .faddr 1 (.v 1), none, []⟩, ⟨some 35, .load1 (.v 34), none, []⟩, ⟨some 36, .iaddr 1 (.v 33) (.v 35), none, []⟩, ⟨some 37, .load1 (.v 36), none, []⟩, ⟨some 38, .bin .add (.v 32) (.v 37), none, []⟩, ⟨some 39, .bin .add (.v 38) (.c (.str ⟨#[32]⟩)), none, []⟩, ⟨some 40, .faddr 2 (.v 1), none, []⟩, ⟨some 41, .load1 (.v 40), none, []⟩, ⟨some 42, .call 27 [.v 41], none, []⟩, ⟨some 43, .bin .add (.v 39) (.v 42), none, []⟩, ⟨some 44, .bin .add (.v 43) (.c (.str ⟨#[32]⟩)), none, []⟩, ⟨some 45, .faddr 3 (.v 1), none, []⟩, ⟨some 46, .load1 (.v 45), none, []⟩, ⟨some 47, .bin .add (.v 44) (.v 46), none, []⟩, ⟨some 2, .mv (.v 47), none, []⟩] [2] [some [], some [], none, none, some [], some [], some [], some [], some [], none, none, none, none, some [12, 11, 8, 7, 6, 5, 4], none, none, some [2], some [3], none, none]) .ret))) }
theorem k_impl_PlanForm : okFun Go.Proofs.Tryd.prog 15 s_impl_PlanForm = true := by kernel_rfl
/-- spec.l11In: function 16 -/
def s_spec_l11In : SFun := { n := 15, res := [.t 6], body := (.seq (.rg [⟨some 6, .mv (.c (.bool false)), none, [6]⟩] [0, 1, 2]) (.seq (.rg [⟨some 7, .mv (.v 0), none, []⟩, ⟨some 8, .mv (.v 1), none, [1]⟩, ⟨some 9, .bin .geq (.v 7) (.v 8), none, [7, 8]⟩, ⟨some 10, .mv (.v 9), none, [9]⟩, ⟨some 11, .mv (.v 0), some (10, true), [0]⟩, ⟨some 12, .mv (.v 2), some (10, true), [2]⟩, ⟨some 13, .bin .leq (.v 11) (.v 12), some (10, true), [11, 12]⟩, ⟨some 14, .pick (.v 10) (.v 13) (.c (.bool false)), none, [10, 13]⟩, ⟨some 6, .mv (.v 14), none, [14]⟩] [6]) .ret)) }
theorem k_spec_l11In : okFun Go.Proofs.Tryd.prog 16 s_spec_l11In = true := by kernel_rfl
def l_spec_l11NameOk_0 : SCode := (.seq (.seq (.rg [⟨some 9, .mv (.v 3), none, []⟩, ⟨some 10, .mv (.v 0), none, []⟩, ⟨some 11, .lenS (.v 10), none, [10]⟩, ⟨some 12, .bin .lss (.v 9) (.v 11), none, [9, 11]⟩] [0, 3, 12]) (.cond (.v 12) .skip (.exit 0))) (.seq (.block 1 (.seq (.rg [⟨some 15, .mv (.v 0), none, []⟩, ⟨some 16, .mv (.v 3), none, []⟩, ⟨some 17, .istr (.v 15) (.v 16), none, [15, 16]⟩, ⟨some 4, .mv (.v 17), none, [17]⟩] [0, 3, 4]) (.seq (.rg [⟨some 18, .mv (.v 4), none, []⟩, ⟨some 19, .bin .geq (.v 18) (.c (.int .u8 97)), none, [18]⟩, ⟨some 20, .mv (.v 19), none, [19]⟩, ⟨some 21, .mv (.v 4), some (20, true), []⟩, ⟨some 22, .bin .leq (.v 21) (.c (.int .u8 122)), some (20, true), [21]⟩, ⟨some 23, .pick (.v 20) (.v 22) (.c (.bool false)), none, [20, 22]⟩, ⟨some 24, .mv (.v 23), none, [23]⟩, ⟨some 25, .mv (.v 4), some (24, false), []⟩, ⟨some 26, .bin .geq (.v 25) (.c (.int .u8 48)), some (24, false), [25]⟩, ⟨some 27, .mv (.v 26), some (24, false), [26]⟩, ⟨some 28, .mv (.v 4), some (27, true), []⟩, ⟨some 29, .bin .leq (.v 28) (.c (.int .u8 57)), some (27, true), [28]⟩, ⟨some 30, .pick (.v 27) (.v 29) (.c (.bool false)), some (24, false), [27, 29]⟩, ⟨some 31, .pick (.v 24) (.c (.bool true)) (.v 30), none, [24, 30]⟩, ⟨some 32, .mv (.v 31), none, [31]⟩, ⟨some 33, .mv (.v 4), some (32, false), [4]⟩, ⟨some 34, .bin .eql (.v 33) (.c (.int .u8 45)), some (32, false), [33]⟩, ⟨some 35, .pick (.v 32) (.c (.bool true)) (.v 34), none, [32, 34]⟩, ⟨some 36, .not (.v 35), none, [35]⟩] [0, 3, 36]) (.cond (.v 36) (.seq (.rg [⟨some 2, .mv (.c (.bool false)), none, []⟩] [2]) .ret) .skip)))) (.rg [⟨some 13, .mv (.v 3), none, [3]⟩, ⟨some 14, .binN .add (.v 13) (.c (.int .i64 1)), none, [13]⟩, ⟨some 3, .mv (.v 14), none, [14]⟩] [0, 3])))
/-- spec.l11NameOk: function 17 -/
def s_spec_l11NameOk : SFun := { n := 37, res := [.t 2], body := (.seq (.rg [⟨some 2, .mv (.c (.bool false)), none, [2]⟩] [0]) (.seq (.seq (.rg [⟨some 5, .mv (.v 0), none, []⟩, ⟨some 6, .lenS (.v 5), none, [5]⟩, ⟨some 7, .call 16 [.v 6, .c (.int .i64 1), .c (.int .i64 8)], none, [6]⟩, ⟨some 8, .not (.v 7), none, [7]⟩] [0, 8]) (.cond (.v 8) (.seq (.rg [⟨some 2, .mv (.c (.bool false)), none, []⟩] [2]) .ret) .skip)) (.seq (.seq (.rg [⟨some 3, .mv (.c (.int .i64 0)), none, []⟩] [0, 3]) (.block 0 (.loop l_spec_l11NameOk_0))) (.seq (.rg [⟨some 2, .mv (.c (.bool true)), none, []⟩] [2]) .ret)))) }
theorem k_spec_l11NameOk : okFun Go.Proofs.Tryd.prog 17 s_spec_l11NameOk = true := by kernel_rfl
def l_spec_l12Odd_0 : SCode := (.seq (.seq (.rg [⟨some 4, .mv (.v 3), none, []⟩, ⟨some 5, .mv (.v 0), none, []⟩, ⟨some 6, .lenS (.v 5), none, [5]⟩, ⟨some 7, .bin .lss (.v 4) (.v 6), none, [4, 6]⟩] [0, 3, 7]) (.cond (.v 7) .skip (.exit 0))) (.seq (.block 1 (.seq (.rg [⟨some 10, .mv (.v 0), none, []⟩, ⟨some 11, .mv (.v 3), none, []⟩, ⟨some 12, .istr (.v 10) (.v 11), none, [10, 11]⟩, ⟨some 13, .bin .eql (.v 12) (.c (.int .u8 10)), none, [12]⟩] [0, 3, 13]) (.cond (.v 13) (.seq (.rg [⟨some 2, .mv (.c (.bool true)), none, []⟩] [2]) .ret) .skip))) (.rg [⟨some 8, .mv (.v 3), none, [3]⟩, ⟨some 9, .binN .add (.v 8) (.c (.int .i64 1)), none, [8]⟩, ⟨some 3, .mv (.v 9), none, [9]⟩] [0, 3])))
/-- spec.l12Odd: function 18 -/
def s_spec_l12Odd : SFun := { n := 14, res := [.t 2], body := (.seq (.rg [⟨some 2, .mv (.c (.bool false)), none, [2]⟩] [0]) (.seq (.seq (.rg [⟨some 3, .mv (.c (.int .i64 0)), none, []⟩] [0, 3]) (.block 0 (.loop l_spec_l12Odd_0))) (.seq (.rg [⟨some 2, .mv (.c (.bool false)), none, []⟩] [2]) .ret))) }
theorem k_spec_l12Odd : okFun Go.Proofs.Tryd.prog 18 s_spec_l12Odd = true := by kernel_rfl
/-- spec.l12Dec: function 19 -/
def s_spec_l12Dec : SFun := { n := 20, res := [.t 2], body := (.seq (.rg [⟨some 2, .mv (.c (.str ⟨#[]⟩)), none, [2]⟩] [0]) (.seq (.seq (.rg [⟨some 3, .mv (.v 0), none, []⟩, ⟨some 4, .bin .lss (.v 3) (.c (.int .i64 10)), none, [3]⟩] [0, 4]) (.cond (.v 4) (.seq (.rg [⟨some 5, .mv (.v 0), none, [0]⟩, ⟨some 6, .binN .add (.c (.int .i64 48)) (.v 5), none, [5]⟩, ⟨some 7, .conv .u8 (.v 6), none, [6]⟩, ⟨some 8, .lit 5 1 [.v 7], none, [7]⟩, ⟨some 9, .b2s (.v 8), none, [8]⟩, ⟨some 2, .mv (.v 9), none, [9]⟩] [2]) .ret) .skip)) (.seq (.rgd [⟨some 10, .mv (.v 0), none, []⟩, ⟨some 11, .binN .quo (.v 10) (.c (.int .i64 10)), none, []⟩, ⟨some 12, .call 19 [.v 11], none, []⟩, ⟨some 13, .mv (.v 0), none, []⟩, ⟨some 14, .binN .rem (.v 13) (.c (.int .i64 10)), none, []⟩, ⟨some 15, .binN .add (.c (.int .i64 48)) (.v 14), none, []⟩, ⟨some 16, .conv .u8 (.v 15), none, []⟩, ⟨some 17, .lit 5 1 [.v 16], none, []⟩, ⟨some 18, .b2s (.v 17), none, []⟩, ⟨some 19, .bin .add (.v 12) (.v 18), none, []⟩, ⟨some 2, .mv (.v 19), none, []⟩] [2] [none, none, some [], none, none, none, none, none, some [5], none, none]) .ret))) }
theorem k_spec_l12Dec : okFun Go.Proofs.Tryd.prog 19 s_spec_l12Dec = true := by kernel_rfl
def l_strings_genSplit_0 : SCode := (.seq (.seq (.rg [⟨some 34, .mv (.v 10), none, []⟩, ⟨some 35, .mv (.v 3), none, []⟩, ⟨some 36, .bin .lss (.v 34) (.v 35), none, [34, 35]⟩] [0, 1, 2, 3, 9, 10, 36]) (.cond (.v 36) .skip (.exit 0))) (.block 1 (.seq (.rg [⟨some 37, .mv (.v 0), none, []⟩, ⟨some 38, .mv (.v 1), none, []⟩, ⟨some 39, .call 30 [.v 37, .v 38], none, [37, 38]⟩, ⟨some 11, .mv (.v 39), none, [39]⟩] [0, 1, 2, 3, 9, 10, 11]) (.seq (.seq (.rg [⟨some 40, .mv (.v 11), none, []⟩, ⟨some 41, .bin .lss (.v 40) (.c (.int .i64 0)), none, [40]⟩] [0, 1, 2, 3, 9, 10, 11, 41]) (.cond (.v 41) (.exit 0) .skip)) (.seq (.rg [⟨some 42, .mv (.v 9), none, []⟩, ⟨some 43, .mv (.v 10), none, []⟩, ⟨some 44, .mv (.v 0), none, []⟩, ⟨some 45, .mv (.v 11), none, []⟩, ⟨some 46, .mv (.v 2), none, []⟩, ⟨some 47, .binN .add (.v 45) (.v 46), none, [45, 46]⟩, ⟨some 48, .slStr (.v 44) none (some (.v 47)), none, [44, 47]⟩, ⟨some 49, .iaddr 1 (.v 42) (.v 43), none, [42, 43]⟩, ⟨none, .store 1 (.v 49) (.v 48), none, [48, 49]⟩] [0, 1, 2, 3, 9, 10, 11]) (.seq (.rg [⟨some 50, .mv (.v 0), none, [0]⟩, ⟨some 51, .mv (.v 11), none, [11]⟩, ⟨some 52, .mv (.v 1), none, []⟩, ⟨some 53, .lenS (.v 52), none, [52]⟩, ⟨some 54, .binN .add (.v 51) (.v 53), none, [51, 53]⟩, ⟨some 55, .slStr (.v 50) (some (.v 54)) none, none, [50, 54]⟩, ⟨some 0, .mv (.v 55), none, [55]⟩] [0, 1, 2, 3, 9, 10]) (.rg [⟨some 56, .mv (.v 10), none, [10]⟩, ⟨some 57, .binN .add (.v 56) (.c (.int .i64 1)), none, [56]⟩, ⟨some 10, .mv (.v 57), none, [57]⟩] [0, 1, 2, 3, 9, 10])))))))
/-- strings.genSplit: function 20 -/
def s_strings_genSplit : SFun := { n := 66, res := [.t 8], body := (.seq (.rg [⟨some 8, .mv (.c (.sl 0 1 [])), none, [8]⟩] [0, 1, 2, 3]) (.seq (.seq (.rg [⟨some 12, .mv (.v 3), none, []⟩, ⟨some 13, .bin .eql (.v 12) (.c (.int .i64 0)), none, [12]⟩] [0, 1, 2, 3, 13]) (.cond (.v 13) (.seq (.rg [⟨some 8, .mv (.c (.sl 0 1 [])), none, []⟩] [8]) (.gh (.frzE 8) .ret)) .skip)) (.seq (.seq (.rg [⟨some 14, .mv (.v 1), none, []⟩, ⟨some 15, .bin .eql (.v 14) (.c (.str ⟨#[]⟩)), none, [14]⟩] [0, 1, 2, 3, 15]) (.cond (.v 15) (.seq (.rg [⟨some 16, .mv (.v 0), none, [0]⟩, ⟨some 17, .mv (.v 3), none, [3]⟩, ⟨some 18, .call 28 [.v 16, .v 17], none, [16, 17]⟩, ⟨some 8, .mv (.v 18), none, [18]⟩] [8]) (.gh (.frzE 8) .ret)) .skip)) (.seq (.seq (.rg [⟨some 19, .mv (.v 3), none, []⟩, ⟨some 20, .bin .lss (.v 19) (.c (.int .i64 0)), none, [19]⟩] [0, 1, 2, 3, 20]) (.cond (.v 20) (.rg [⟨some 21, .mv (.v 0), none, []⟩, ⟨some 22, .mv (.v 1), none, []⟩, ⟨some 23, .call 29 [.v 21, .v 22], none, [21, 22]⟩, ⟨some 24, .binN .add (.v 23) (.c (.int .i64 1)), none, [23]⟩, ⟨some 3, .mv (.v 24), none, [24]⟩] [0, 1, 2, 3]) .skip)) (.seq (.rg [⟨some 25, .mv (.v 3), none, [3]⟩, ⟨some 26, .mv (.v 0), none, []⟩, ⟨some 27, .lenS (.v 26), none, [26]⟩, ⟨some 28, .binN .add (.v 27) (.c (.int .i64 1)), none, [27]⟩, ⟨some 29, .mn (.v 25) (.v 28), none, [25, 28]⟩, ⟨some 3, .mv (.v 29), none, [29]⟩] [0, 1, 2, 3]) (.seq (.rg [⟨some 30, .mv (.v 3), none, []⟩, ⟨some 31, .mk 131 9 1 [.str ⟨#[]⟩] (.v 30), none, [30]⟩, ⟨some 9, .mv (.v 31), none, [31]⟩] [0, 1, 2, 3, 9]) (.seq (.rg [⟨some 32, .mv (.v 3), none, [3]⟩, ⟨some 33, .binN .sub (.v 32) (.c (.int .i64 1)), none, [32]⟩, ⟨some 3, .mv (.v 33), none, [33]⟩] [0, 1, 2, 3, 9]) (.seq (.rg [⟨some 10, .mv (.c (.int .i64 0)), none, []⟩] [0, 1, 2, 3, 9, 10]) (.seq (.block 0 (.loop l_strings_genSplit_0)) (.seq (.rg [⟨some 58, .mv (.v 9), none, []⟩, ⟨some 59, .mv (.v 10), none, []⟩, ⟨some 60, .mv (.v 0), none, [0]⟩, ⟨some 61, .iaddr 1 (.v 58) (.v 59), none, [58, 59]⟩, ⟨none, .store 1 (.v 61) (.v 60), none, [60, 61]⟩] [9, 10]) (.seq (.rg [⟨some 62, .mv (.v 9), none, [9]⟩, ⟨some 63, .mv (.v 10), none, [10]⟩, ⟨some 64, .binN .add (.v 63) (.c (.int .i64 1)), none, [63]⟩, ⟨some 65, .slSl 1 (.v 62) none (some (.v 64)), none, [62, 64]⟩, ⟨some 8, .mv (.v 65), none, [65]⟩] [8]) (.gh (.frzE 8) .ret)))))))))))) }
theorem k_strings_genSplit : okFun Go.Proofs.Tryd.prog 20 s_strings_genSplit = true := by kernel_rfl
def l_impl_isName_0 : SCode := (.seq (.seq (.rg [⟨some 13, .mv (.v 3), none, []⟩, ⟨some 14, .mv (.v 0), none, []⟩, ⟨some 15, .lenS (.v 14), none, [14]⟩, ⟨some 16, .bin .lss (.v 13) (.v 15), none, [13, 15]⟩] [0, 3, 16]) (.cond (.v 16) .skip (.exit 0))) (.seq (.block 1 (.seq (.rg [⟨some 19, .mv (.v 0), none, []⟩, ⟨some 20, .mv (.v 3), none, []⟩, ⟨some 21, .istr (.v 19) (.v 20), none, [19, 20]⟩, ⟨some 4, .mv (.v 21), none, [21]⟩] [0, 3, 4]) (.seq (.rg [⟨some 22, .mv (.v 4), none, []⟩, ⟨some 23, .bin .geq (.v 22) (.c (.int .u8 97)), none, [22]⟩, ⟨some 24, .mv (.v 23), none, [23]⟩, ⟨some 25, .mv (.v 4), some (24, true), []⟩, ⟨some 26, .bin .leq (.v 25) (.c (.int .u8 122)), some (24, true), [25]⟩, ⟨some 27, .pick (.v 24) (.v 26) (.c (.bool false)), none, [24, 26]⟩, ⟨some 28, .mv (.v 27), none, [27]⟩, ⟨some 29, .mv (.v 4), some (28, false), []⟩, ⟨some 30, .bin .geq (.v 29) (.c (.int .u8 48)), some (28, false), [29]⟩, ⟨some 31, .mv (.v 30), some (28, false), [30]⟩, ⟨some 32, .mv (.v 4), some (31, true), []⟩, ⟨some 33, .bin .leq (.v 32) (.c (.int .u8 57)), some (31, true), [32]⟩, ⟨some 34, .pick (.v 31) (.v 33) (.c (.bool false)), some (28, false), [31, 33]⟩, ⟨some 35, .pick (.v 28) (.c (.bool true)) (.v 34), none, [28, 34]⟩, ⟨some 36, .mv (.v 35), none, [35]⟩, ⟨some 37, .mv (.v 4), some (36, false), [4]⟩, ⟨some 38, .bin .eql (.v 37) (.c (.int .u8 45)), some (36, false), [37]⟩, ⟨some 39, .pick (.v 36) (.c (.bool true)) (.v 38), none, [36, 38]⟩, ⟨some 40, .not (.v 39), none, [39]⟩] [0, 3, 40]) (.cond (.v 40) (.seq (.rg [⟨some 2, .mv (.c (.bool false)), none, []⟩] [2]) .ret) .skip)))) (.rg [⟨some 17, .mv (.v 3), none, [3]⟩, ⟨some 18, .binN .add (.v 17) (.c (.int .i64 1)), none, [17]⟩, ⟨some 3, .mv (.v 18), none, [18]⟩] [0, 3])))
/-- impl.isName: function 24 -/
def s_impl_isName : SFun := { n := 41, res := [.t 2], body := (.seq (.rg [⟨some 2, .mv (.c (.bool false)), none, [2]⟩] [0]) (.seq (.seq (.rg [⟨some 5, .mv (.v 0), none, []⟩, ⟨some 6, .lenS (.v 5), none, [5]⟩, ⟨some 7, .bin .lss (.v 6) (.c (.int .i64 1)), none, [6]⟩, ⟨some 8, .mv (.v 7), none, [7]⟩, ⟨some 9, .mv (.v 0), some (8, false), []⟩, ⟨some 10, .lenS (.v 9), some (8, false), [9]⟩, ⟨some 11, .bin .gtr (.v 10) (.c (.int .i64 8)), some (8, false), [10]⟩, ⟨some 12, .pick (.v 8) (.c (.bool true)) (.v 11), none, [8, 11]⟩] [0, 12]) (.cond (.v 12) (.seq (.rg [⟨some 2, .mv (.c (.bool false)), none, []⟩] [2]) .ret) .skip)) (.seq (.seq (.rg [⟨some 3, .mv (.c (.int .i64 0)), none, []⟩] [0, 3]) (.block 0 (.loop l_impl_isName_0))) (.seq (.rg [⟨some 2, .mv (.c (.bool true)), none, []⟩] [2]) .ret)))) }
theorem k_impl_isName : okFun Go.Proofs.Tryd.prog 24 s_impl_isName = true := by kernel_rfl
/-- impl.within: function 25 -/
def s_impl_within : SFun := { n := 15, res := [.t 6], body := (.seq (.rg [⟨some 6, .mv (.c (.bool false)), none, [6]⟩] [0, 1, 2]) (.seq (.rg [⟨some 7, .mv (.v 0), none, []⟩, ⟨some 8, .mv (.v 1), none, [1]⟩, ⟨some 9, .bin .geq (.v 7) (.v 8), none, [7, 8]⟩, ⟨some 10, .mv (.v 9), none, [9]⟩, ⟨some 11, .mv (.v 0), some (10, true), [0]⟩, ⟨some 12, .mv (.v 2), some (10, true), [2]⟩, ⟨some 13, .bin .leq (.v 11) (.v 12), some (10, true), [11, 12]⟩, ⟨some 14, .pick (.v 10) (.v 13) (.c (.bool false)), none, [10, 13]⟩, ⟨some 6, .mv (.v 14), none, [14]⟩] [6]) .ret)) }
theorem k_impl_within : okFun Go.Proofs.Tryd.prog 25 s_impl_within = true := by kernel_rfl
/-- strings.Contains: function 26 -/
def s_strings_Contains : SFun := { n := 9, res := [.t 4], body := (.seq (.rg [⟨some 4, .mv (.c (.bool false)), none, [4]⟩] [0, 1]) (.seq (.rg [⟨some 5, .mv (.v 0), none, [0]⟩, ⟨some 6, .mv (.v 1), none, [1]⟩, ⟨some 7, .call 30 [.v 5, .v 6], none, [5, 6]⟩, ⟨some 8, .bin .geq (.v 7) (.c (.int .i64 0)), none, [7]⟩, ⟨some 4, .mv (.v 8), none, [8]⟩] [4]) .ret)) }
theorem k_strings_Contains : okFun Go.Proofs.Tryd.prog 26 s_strings_Contains = true := by kernel_rfl
end Go.Ve

namespace Go.Ve
open Go.Proofs
set_option linter.unusedSimpArgs false
set_option linter.unusedVariables false
set_option maxRecDepth 100000
noncomputable abbrev P := Go.Proofs.Tryd.prog
theorem hm : P.follows .mixedOrders = true := by kernel_rfl
theorem c_within (n lo hi : Int) (hp : True) : Contract P 25 [.int .i64 n, .int .i64 lo, .int .i64 hi] [] (.bool (decide (lo ≤ n ∧ n ≤ hi))) [] := by
  refine fn_sound (Env.nil P) hm k_impl_within (Nat.le_of_ble_eq_true rfl) rfl ?_
  unfold s_impl_within
  simp only [w_skip, w_rg, w_rgd, w_seq, w_cond, w_block, w_loop, w_exit, w_ret, w_gh, w_rg0, w_rg1, w_rgT, w_rgF, w_run, w_psd, w_und, w_dr0, w_dr1, w_drT, w_drF, w_drRun, w_drPsd, w_drUnd, w_drKn, w_drKs, w_putK, w_trimK, w_thenN, w_thenE, w_thenR, w_scope, w_label, w_blkN, w_blkE, w_blkR, w_call, w_effK, brU_true, brU_false, brU_u, brU_not, brU_and, brU_or, brU_dec, brU_eq, brU_ne, br_true, br_false, br_not, br_and, br_or, br_dec, br_eq, br_ne, w_getE0, w_getE1, w_setE0, w_setE1, w_dropE0, w_dropE1, w_drop0, w_drop1, w_getM0, w_getM1, w_setM0, w_setM1, ev_v, ev_c, w_putS, w_putN, w_lit, w_apU0, w_apU1, w_apU2, w_trim, enumE0, enumE1, w_callWp, w_callA0, w_callA1, w_R0, w_R1, w_R2, w_T2, w_callL, w_callT, w_T1, w_T0, o_mv, o_newnil, o_pick, o_bin, o_binN, o_neg, o_not, o_eqB, o_eqS, o_conv, o_alloc, o_box, o_load1, o_loadN, o_store, o_nilck, o_faddr, o_field1, o_fieldN, o_iaddr, o_istr, o_slStr, o_slSl, o_lenS, o_lenL, o_mx, o_mn, o_ext, o_build, o_lit, o_litOwn, o_app, o_appN, rowsN, o_mk, o_mvfrz, l_int, l_bool, l_str, l_agg, l_sl, l_own, l_ptr, l_pp, i_int, i_bool, i_str, i_sl, i_own, i_ptr, i_pp, all0, all1, e_ok1, eff, effBin, effBinN, ld_ptr, ld_pp, ld_elt, ia_own, ia_arr, el_1, el_N, load1K, faddrE, r_iaddr, sg_S, sg_c, sg_n, purL, pur, List.map, List.drop, List.take, List.length, List.foldl, List.append_eq, List.nil_append, List.cons_append, List.getD_cons_zero, List.getD_cons_succ, reduceIte, Nat.reduceEqDiff, Nat.reduceAdd, Nat.reduceLeDiff, true_and, and_true, Bool.not_true, Bool.not_false, Bool.and_true, Bool.true_and, Bool.and_self, reduceCtorEq, true_implies, false_implies, implies_true, decide_eq_true_eq, Option.map_some, fpOf, fpX, SOp.xs, oX, refs, refsL, dom, disj, List.all_nil, List.all_cons, List.contains_cons, List.contains_nil, Nat.reduceBEq, Bool.or_false, Bool.false_or, List.append_nil, Bool.not_false, Bool.not_true, List.forall_mem_cons, fm0, List.set, Nat.reduceLT, Nat.reduceMod, ne_eq, not_false_eq_true, not_true_eq_false
, ret1, ret1N, keep0, keep1, rf_int, rf_bool, rf_str, rf_sl, rf_agg, rf_tup, rfL0, rfL1, re_t, re_cN, re_L0, re_L1, ret_tup, ret_one, decide_true, AV.bool.injEq, AV.int.injEq, Nat.reduceLeDiff, Bool.true_eq, Bool.false_eq, decide_eq_true_eq, decide_eq_false_iff_not]
  repeat' (first | apply And.intro | intro _)
  all_goals (first | trivial | omega | (simp_all; done) | (simp_all; omega))
def t_within : List AV → Option (Prop × AV)
  | [.int .i64 n, .int .i64 lo, .int .i64 hi] => some (True, .bool (decide (lo ≤ n ∧ n ≤ hi)))
  | _ => none
theorem h_within : ∀ args p v, t_within args = some (p, v) → p → Contract P 25 args [] v [] ∧ noref v = true ∧ No99 v := by
  intro args p v h1 h2
  unfold t_within at h1
  split at h1
  · cases h1; exact ⟨c_within _ _ _ h2, rfl, trivial⟩
  · cases h1
structure Box6 where
  x : Int
  y : Int
  l : Int
  h : Int
  i : Int
  o : Int
  deriving Inhabited
def Box6.row (b : Box6) : List AV := [.int .i64 b.x, .int .i64 b.y, .int .i64 b.l, .int .i64 b.h, .int .i64 b.i, .int .i64 b.o]
def Box6.ok (b : Box6) : Prop := (0 ≤ b.x ∧ b.x ≤ 15) ∧ (0 ≤ b.y ∧ b.y ≤ 15) ∧ 0 ≤ b.l ∧ b.l ≤ b.h ∧ b.h ≤ 6 ∧ 0 ≤ b.i ∧ b.i ≤ b.o ∧ b.o ≤ 10000
instance (b : Box6) : Decidable b.ok := by unfold Box6.ok; infer_instance
structure Stp7 where
  x : Int
  y : Int
  l : Int
  h : Int
  f : Int
  b : Int
  hold : Bool
  deriving Inhabited
def Stp7.row (s : Stp7) : List AV := [.int .i64 s.x, .int .i64 s.y, .int .i64 s.l, .int .i64 s.h, .int .i64 s.f, .int .i64 s.b, .bool s.hold]
def Stp7.ok (s : Stp7) : Prop := (0 ≤ s.x ∧ s.x ≤ 15) ∧ (0 ≤ s.y ∧ s.y ≤ 15) ∧ 0 ≤ s.l ∧ s.l ≤ s.h ∧ s.h ≤ 6 ∧ 0 ≤ s.f ∧ s.f ≤ s.b ∧ s.b ≤ 10000
instance (s : Stp7) : Decidable s.ok := by unfold Stp7.ok; infer_instance
def Stp7.nb (a s : Stp7) : Prop := (-1 ≤ a.x - s.x ∧ a.x - s.x ≤ 1) ∧ (-1 ≤ a.y - s.y ∧ a.y - s.y ≤ 1) ∧ ¬ (a.x = s.x ∧ a.y = s.y) ∧ a.l ≤ s.h ∧ s.l ≤ a.h
instance (a s : Stp7) : Decidable (a.nb s) := by unfold Stp7.nb; infer_instance
end Go.Ve

namespace Go.Ve
open Go.Proofs
set_option linter.unusedSimpArgs false
set_option linter.unusedVariables false
set_option maxRecDepth 100000
theorem toNat_pred (i : Nat) : ((i : Int) - 1).toNat = i - 1 := by omega
def pathOk (q s : Int) (l : List Stp7) (f b : Int) : Prop :=
  (1 ≤ q ∧ q ≤ s ∧ s ≤ 50) ∧ (1 ≤ l.length ∧ l.length ≤ 40) ∧ (0 ≤ f ∧ f ≤ b ∧ b ≤ 10000) ∧ ∀ i, i < l.length → (l.getD i default).ok ∧ (0 < i → Stp7.nb (l.getD (i - 1) default) (l.getD i default))
instance (q s : Int) (l : List Stp7) (f b : Int) : Decidable (pathOk q s l f b) := by unfold pathOk; infer_instance
end Go.Ve

namespace Go.Ve
open Go.Proofs
set_option linter.unusedSimpArgs false
set_option linter.unusedVariables false
set_option maxRecDepth 100000
end Go.Ve

namespace Go.Ve
open Go.Proofs
set_option linter.unusedSimpArgs false
set_option linter.unusedVariables false
set_option maxRecDepth 100000
structure Path5 where
  q : Int
  s : Int
  l : List Stp7
  f : Int
  b : Int
  deriving Inhabited
def lapStep (l : List Box6) (i : Nat) : Stp7 := ⟨(l.getD i default).x, (l.getD i default).y, (l.getD i default).l, (l.getD i default).h, (l.getD i default).i, if 0 < i then min (l.getD i default).o ((l.getD (i - 1) default).o + 1) else (l.getD i default).o, false⟩
def lapF (l : List Box6) (i : Nat) : Int := if 0 < i then (l.getD (i - 1) default).i else 0
def lapB (l : List Box6) (i : Nat) : Int := if 0 < i then (l.getD (i - 1) default).o + 1 else 0
def lapTo (q s : Int) (l : List Box6) (i : Nat) : Path5 := ⟨q, s, (List.range i).map (lapStep l), lapF l i, lapB l i⟩
def lapOk (q s : Int) (l : List Box6) : Prop := (∀ i, i < l.length → (l.getD i default).ok) ∧ pathOk q s (lapTo q s l l.length).l (lapF l l.length) (lapB l l.length)
instance (q s : Int) (l : List Box6) : Decidable (lapOk q s l) := by unfold lapOk; infer_instance
end Go.Ve

namespace Go.Ve
open Go.Proofs
set_option linter.unusedSimpArgs false
set_option linter.unusedVariables false
set_option maxRecDepth 100000
def Path5.low (p : Path5) (k : Nat) : Int := if k < p.l.length then (p.l.getD k default).f else p.f
def Path5.high (p : Path5) (k : Nat) : Int := if k < p.l.length then (p.l.getD k default).b else p.b
def Path5.most (p : Path5) (k : Nat) : Int := if (p.l.getD k default).hold then 10000 else p.s
structure Span2 where
  lo : Int
  hi : Int
  deriving Inhabited
def Span2.row (s : Span2) : List AV := [.int .i64 s.lo, .int .i64 s.hi]
/-- Ahead: the earliest and the latest, from the first step on. -/
def Path5.fwd (p : Path5) : Nat → Span2
  | 0 => ⟨p.low 0, p.high 0⟩
  | k + 1 => ⟨max (p.low (k + 1)) ((p.fwd k).lo + p.q), min (p.high (k + 1)) ((p.fwd k).hi + p.most k)⟩
/-- Back again, from the last one. -/
def Path5.bwd (p : Path5) : Nat → Span2
  | 0 => p.fwd p.l.length
  | d + 1 => ⟨max (p.fwd (p.l.length - (d + 1))).lo ((p.bwd d).lo - p.most (p.l.length - (d + 1))), min (p.fwd (p.l.length - (d + 1))).hi ((p.bwd d).hi - p.q)⟩
def Path5.span (p : Path5) (k : Nat) : Span2 := p.bwd (p.l.length - k)
def Path5.can (p : Path5) : Prop := ∀ k, k < p.l.length + 1 → (p.span k).lo ≤ (p.span k).hi
instance (p : Path5) : Decidable p.can := by unfold Path5.can; infer_instance
def Path5.spans (p : Path5) : List Span2 := if p.can then (List.range (p.l.length + 1)).map p.span else []
/-- What the passes ask of the numbers. -/
structure Path5.calm (p : Path5) : Prop where
  q : 0 ≤ p.q ∧ p.q ≤ 50
  s : 0 ≤ p.s ∧ p.s ≤ 50
  n : p.l.length ≤ 1048576
  lo : ∀ k, k ≤ p.l.length → 0 ≤ p.low k
  hi : ∀ k, k ≤ p.l.length → p.high k ≤ 10000
theorem Path5.calm.most {p : Path5} (h : p.calm) (k : Nat) : 0 ≤ p.most k ∧ p.most k ≤ 10000 := by
  unfold Path5.most
  have := h.s
  split <;> omega
end Go.Ve

namespace Go.Ve
open Go.Proofs
set_option linter.unusedSimpArgs false
set_option linter.unusedVariables false
set_option maxRecDepth 100000
def irow (n : Int) : List AV := [.int .i64 n]
def unI : List AV → Int
  | [.int _ n] => n
  | _ => 0
theorem un_i (l : List Int) : (l.map irow).map unI = l := by
  rw [List.map_map]; exact List.map_id'' (fun s => rfl) l
/-- What the program starts from. -/
def Path5.ini (p : Path5) (bg : List Int) (k : Nat) : Span2 := if k < bg.length then ⟨max (p.low k) (bg.getD k default), min (p.high k) (bg.getD k default)⟩ else ⟨p.low k, p.high k⟩
/-- Ahead, as the program does it. -/
def Path5.wf (p : Path5) (bg : List Int) : Nat → Span2
  | 0 => p.ini bg 0
  | k + 1 => ⟨max (p.ini bg (k + 1)).lo (IntKind.i64.wrap ((p.wf bg k).lo + p.q)), if (p.l.getD k default).hold then (p.ini bg (k + 1)).hi else min (p.ini bg (k + 1)).hi (IntKind.i64.wrap ((p.wf bg k).hi + p.s))⟩
/-- Back again, as the program does it. -/
def Path5.wb (p : Path5) (bg : List Int) : Nat → Span2
  | 0 => p.wf bg p.l.length
  | d + 1 => ⟨if (p.l.getD (p.l.length - (d + 1)) default).hold then (p.wf bg (p.l.length - (d + 1))).lo else max (p.wf bg (p.l.length - (d + 1))).lo (IntKind.i64.wrap ((p.wb bg d).lo - p.s)), min (p.wf bg (p.l.length - (d + 1))).hi (IntKind.i64.wrap ((p.wb bg d).hi - p.q))⟩
def Path5.wsp (p : Path5) (bg : List Int) (j : Nat) : Span2 := p.wb bg (p.l.length - j)
def Path5.wcan (p : Path5) (bg : List Int) : Prop := ∀ k, k < p.l.length + 1 → (p.wsp bg k).lo ≤ (p.wsp bg k).hi
instance (p : Path5) (bg : List Int) : Decidable (p.wcan bg) := by unfold Path5.wcan; infer_instance
end Go.Ve

namespace Go.Ve
open Go.Proofs
set_option linter.unusedSimpArgs false
set_option linter.unusedVariables false
set_option maxRecDepth 100000
def heldStep (p : Path5) (bg : List Int) (k j : Nat) : Stp7 := if j < k then { p.l.getD j default with f := max (p.l.getD j default).f (bg.getD j default), b := min (p.l.getD j default).b (bg.getD j default) } else p.l.getD j default
def Path5.held (p : Path5) (bg : List Int) : Path5 := ⟨p.q, p.s, (List.range p.l.length).map (heldStep p bg bg.length), p.f, p.b⟩
end Go.Ve

namespace Go.Ve
open Go.Proofs
set_option linter.unusedSimpArgs false
set_option linter.unusedVariables false
set_option maxRecDepth 100000
def Path5.begun (p : Path5) (bg : List Int) : Prop := pathOk p.q p.s p.l p.f p.b ∧ bg.length ≤ p.l.length ∧ (p.held bg).can
instance (p : Path5) (bg : List Int) : Decidable (p.begun bg) := by unfold Path5.begun; infer_instance
def Path5.next (p : Path5) (bg : List Int) : Span2 := if p.begun bg then (p.held bg).span bg.length else ⟨0, 0⟩
end Go.Ve

namespace Go.Ve
set_option linter.unusedSimpArgs false
set_option linter.unusedVariables false
/-! The program's passes and the reference's come to the same. -/
section
variable {p : Path5} {bg : List Int}
end
end Go.Ve

namespace Go.Ve
open Go.Proofs
set_option linter.unusedSimpArgs false
set_option linter.unusedVariables false
set_option maxRecDepth 100000
end Go.Ve

namespace Go.Ve
open Go.Proofs
set_option linter.unusedSimpArgs false
set_option linter.unusedVariables false
set_option maxRecDepth 100000
def Path5.fit (p : Path5) : Prop := pathOk p.q p.s p.l p.f p.b ∧ p.can
instance (p : Path5) : Decidable p.fit := by unfold Path5.fit; infer_instance
end Go.Ve

namespace Go.Ve
open Go.Proofs
set_option linter.unusedSimpArgs false
set_option linter.unusedVariables false
set_option maxRecDepth 100000
def unBox : List AV → Box6
  | [.int _ x, .int _ y, .int _ l, .int _ h, .int _ i, .int _ o] => ⟨x, y, l, h, i, o⟩
  | _ => default
theorem un_box (l : List Box6) : (l.map Box6.row).map unBox = l := by
  rw [List.map_map]; exact List.map_id'' (fun s => rfl) l
end Go.Ve

namespace Go.Ve
open Go.Proofs
set_option linter.unusedSimpArgs false
set_option linter.unusedVariables false
set_option maxRecDepth 100000
theorem ext_of {α : Type} [Inhabited α] {a b : List α} (hl : a.length = b.length) (h : ∀ j, j < a.length → a.getD j default = b.getD j default) : a = b := by
  refine List.ext_getElem hl fun j h1 h2 => ?_
  have := h j h1
  simpa [h1, h2] using this
end Go.Ve

namespace Go.Ve
open Go.Proofs
set_option linter.unusedSimpArgs false
set_option linter.unusedVariables false
set_option maxRecDepth 100000
end Go.Ve

namespace Go.Ve
open Go.Proofs
set_option linter.unusedSimpArgs false
set_option linter.unusedVariables false
set_option maxRecDepth 100000
def Path5.tail (p : Path5) (k : Nat) : Path5 := { p with l := p.l.drop k }
def Path5.after (p : Path5) (now : Int) : Path5 := if 1 < p.l.length then { p with l := p.l.set 1 { p.l.getD 1 default with f := max (p.l.getD 1 default).f (now + 1) } } else { p with f := max p.f (now + 1) }
end Go.Ve

namespace Go.Ve
set_option linter.unusedSimpArgs false
set_option linter.unusedVariables false
/-! The spans are those of flights. -/
section
variable {p : Path5}
end

/-! A path begun later, or at a later step. -/
/-- The first step's ticks set anew. -/
def Path5.first (p : Path5) (f b : Int) : Path5 := { p with l := p.l.set 0 { p.l.getD 0 default with f := f, b := b } }
def Path5.rest (p : Path5) (k : Nat) (f b now : Int) : Path5 := ((p.tail k).first f b).after now
section
variable {p : Path5} {k : Nat} {f b now : Int}
end
/-! Waiting ahead of the first step. -/
def Path5.wait (p : Path5) (now : Int) : Path5 := { p with l := p.l.set 0 { p.l.getD 0 default with f := max (p.l.getD 0 default).f (now + 1) } }
end Go.Ve

namespace Go.Ve
open Go.Proofs
set_option linter.unusedSimpArgs false
set_option linter.unusedVariables false
set_option maxRecDepth 100000
def Path5.restAt (p : Path5) (k e now : Int) : Path5 := p.rest k.toNat (max (p.l.getD k.toNat default).f e) (min (p.l.getD k.toNat default).b e) now
def Path5.goes (p : Path5) (k e now : Int) : Prop := pathOk p.q p.s p.l p.f p.b ∧ (0 ≤ k ∧ k < p.l.length) ∧ (0 ≤ e ∧ e ≤ now ∧ now ≤ 10000) ∧ (p.restAt k e now).can
instance (p : Path5) (k e now : Int) : Decidable (p.goes k e now) := by unfold Path5.goes; infer_instance
end Go.Ve

namespace Go.Ve
open Go.Proofs
set_option linter.unusedSimpArgs false
set_option linter.unusedVariables false
set_option maxRecDepth 100000
end Go.Ve

namespace Go.Ve
open Go.Proofs
set_option linter.unusedSimpArgs false
set_option linter.unusedVariables false
set_option maxRecDepth 100000
/-- The aircraft can stay where it is behind now. -/
def Path5.stays (p : Path5) (bg : List Int) (now : Int) : Prop := if bg.length = 0 then pathOk p.q p.s p.l p.f p.b ∧ (p.wait now).can else p.goes ((bg.length : Int) - 1) (bg.getD (bg.length - 1) default) now
instance (p : Path5) (bg : List Int) (now : Int) : Decidable (p.stays bg now) := by unfold Path5.stays; infer_instance
end Go.Ve

namespace Go.Ve
open Go.Proofs
set_option linter.unusedSimpArgs false
set_option linter.unusedVariables false
set_option maxRecDepth 100000
def Path5.must (p : Path5) (bg : List Int) (now : Int) : Prop := p.begun bg ∧ ((p.next bg).lo ≤ now ∧ now ≤ (p.next bg).hi) ∧ ¬ p.stays bg now
instance (p : Path5) (bg : List Int) (now : Int) : Decidable (p.must bg now) := by unfold Path5.must; infer_instance
end Go.Ve

namespace Go.Ve
open Go.Proofs
set_option linter.unusedSimpArgs false
set_option linter.unusedVariables false
set_option maxRecDepth 100000
theorem Box6.eq_iff (a b : Box6) : a = b ↔ a.x = b.x ∧ a.y = b.y ∧ a.l = b.l ∧ a.h = b.h ∧ a.i = b.i ∧ a.o = b.o := ⟨fun h => by subst h; exact ⟨rfl, rfl, rfl, rfl, rfl, rfl⟩, fun h => by
  cases a; cases b; simp only at h; simp only [Box6.mk.injEq]; exact h⟩
instance : DecidableEq Box6 := fun a b => decidable_of_iff _ (Box6.eq_iff a b).symm
end Go.Ve

namespace Go.Ve
open Go.Proofs
set_option linter.unusedSimpArgs false
set_option linter.unusedVariables false
set_option maxRecDepth 100000
structure Kind2 where
  q : Int
  s : Int
  deriving Inhabited
theorem Kind2.eq_iff (a b : Kind2) : a = b ↔ a.q = b.q ∧ a.s = b.s := ⟨fun h => by subst h; exact ⟨rfl, rfl⟩, fun h => by
  cases a; cases b; simp only at h; simp only [Kind2.mk.injEq]; exact h⟩
instance : DecidableEq Kind2 := fun a b => decidable_of_iff _ (Kind2.eq_iff a b).symm
end Go.Ve

namespace Go.Ve
noncomputable section
open Go.Proofs
set_option linter.unusedSimpArgs false
set_option linter.unusedVariables false
set_option maxRecDepth 100000
structure Zone where
  nm : ByteArray
  x0 : Int
  y0 : Int
  x1 : Int
  y1 : Int
  deriving Inhabited, DecidableEq
def Zone.row (s : Zone) : List AV := [.str s.nm, .int .i64 s.x0, .int .i64 s.y0, .int .i64 s.x1, .int .i64 s.y1]
def unZone : List AV → Zone
  | [.str vnm, .int .i64 vx0, .int .i64 vy0, .int .i64 vx1, .int .i64 vy1] => (Zone.mk vnm vx0 vy0 vx1 vy1)
  | _ => default
theorem unZone_row (s : Zone) : unZone (Zone.row s) = s := by
  cases s; simp only [Zone.row, unZone]
theorem un_Zone (l : List Zone) : (l.map Zone.row).map unZone = l := by
  rw [List.map_map]; exact List.map_id'' (fun s => unZone_row s) l
theorem Zone_eta (s : Zone) : (Zone.mk s.nm s.x0 s.y0 s.x1 s.y1) = s := (rfl)
structure Word where
  kd : Int
  fr : ByteArray
  dst : ByteArray
  fl : ByteArray
  nr : Int
  la : Int
  tn : Int
  tu : List Box6
  deriving Inhabited, DecidableEq
def Word.row (t : Nat) (s : Word) : List AV := [.int .i64 s.kd, .str s.fr, .str s.dst, .str s.fl, .int .i64 s.nr, .int .i64 s.la, .int .i64 s.tn, .sl t 6 (s.tu.map Box6.row)]
def unWord : List AV → Word
  | [.int .i64 vkd, .str vfr, .str vdst, .str vfl, .int .i64 vnr, .int .i64 vla, .int .i64 vtn, .sl _ 6 vtu] => (Word.mk vkd vfr vdst vfl vnr vla vtn (vtu.map unBox))
  | _ => default
theorem unWord_row (t : Nat) (s : Word) : unWord (Word.row t s) = s := by
  cases s; simp only [Word.row, unWord, un_box]
theorem un_Word (t : Nat) (l : List Word) : (l.map (Word.row t)).map unWord = l := by
  rw [List.map_map]; exact List.map_id'' (fun s => unWord_row t s) l
theorem Word_eta (s : Word) : (Word.mk s.kd s.fr s.dst s.fl s.nr s.la s.tn s.tu) = s := (rfl)
structure Own where
  fl : ByteArray
  st : Int
  tn : Int
  dst : ByteArray
  la : Int
  nr : Int
  tu : List Box6
  wi : Int
  nx : List Box6
  gr : List ByteArray
  sent : Bool
  deriving Inhabited, DecidableEq
def Own.row (t : Nat) (s : Own) : List AV := [.str s.fl, .int .i64 s.st, .int .i64 s.tn, .str s.dst, .int .i64 s.la, .int .i64 s.nr, .sl t 6 (s.tu.map Box6.row), .int .i64 s.wi, .sl t 6 (s.nx.map Box6.row), .sl t 1 (s.gr.map srow), .bool s.sent]
def unOwn : List AV → Own
  | [.str vfl, .int .i64 vst, .int .i64 vtn, .str vdst, .int .i64 vla, .int .i64 vnr, .sl _ 6 vtu, .int .i64 vwi, .sl _ 6 vnx, .sl _ 1 vgr, .bool vsent] => (Own.mk vfl vst vtn vdst vla vnr (vtu.map unBox) vwi (vnx.map unBox) (vgr.map unS) vsent)
  | _ => default
theorem unOwn_row (t : Nat) (s : Own) : unOwn (Own.row t s) = s := by
  cases s; simp only [Own.row, unOwn, un_box, un_box, un_s]
theorem un_Own (t : Nat) (l : List Own) : (l.map (Own.row t)).map unOwn = l := by
  rw [List.map_map]; exact List.map_id'' (fun s => unOwn_row t s) l
theorem Own_eta (s : Own) : (Own.mk s.fl s.st s.tn s.dst s.la s.nr s.tu s.wi s.nx s.gr s.sent) = s := (rfl)
structure Part where
  fl : ByteArray
  nr : Int
  bx : List Box6
  deriving Inhabited, DecidableEq
def Part.row (t : Nat) (s : Part) : List AV := [.str s.fl, .int .i64 s.nr, .sl t 6 (s.bx.map Box6.row)]
def unPart : List AV → Part
  | [.str vfl, .int .i64 vnr, .sl _ 6 vbx] => (Part.mk vfl vnr (vbx.map unBox))
  | _ => default
theorem unPart_row (t : Nat) (s : Part) : unPart (Part.row t s) = s := by
  cases s; simp only [Part.row, unPart, un_box]
theorem un_Part (t : Nat) (l : List Part) : (l.map (Part.row t)).map unPart = l := by
  rw [List.map_map]; exact List.map_id'' (fun s => unPart_row t s) l
theorem Part_eta (s : Part) : (Part.mk s.fl s.nr s.bx) = s := (rfl)
structure Seen where
  fl : ByteArray
  nr : Int
  deriving Inhabited, DecidableEq
def Seen.row (s : Seen) : List AV := [.str s.fl, .int .i64 s.nr]
def unSeen : List AV → Seen
  | [.str vfl, .int .i64 vnr] => (Seen.mk vfl vnr)
  | _ => default
theorem unSeen_row (s : Seen) : unSeen (Seen.row s) = s := by
  cases s; simp only [Seen.row, unSeen]
theorem un_Seen (l : List Seen) : (l.map Seen.row).map unSeen = l := by
  rw [List.map_map]; exact List.map_id'' (fun s => unSeen_row s) l
theorem Seen_eta (s : Seen) : (Seen.mk s.fl s.nr) = s := (rfl)
structure Book where
  own : List Own
  parts : List Part
  seen : List Seen
  deriving Inhabited, DecidableEq
def Book.row (t : Nat) (s : Book) : List AV := [.sl t 11 (s.own.map (Own.row t)), .sl t 3 (s.parts.map (Part.row t)), .sl t 2 (s.seen.map Seen.row)]
def unBook : List AV → Book
  | [.sl _ 11 vown, .sl _ 3 vparts, .sl _ 2 vseen] => (Book.mk (vown.map unOwn) (vparts.map unPart) (vseen.map unSeen))
  | _ => default
theorem unBook_row (t : Nat) (s : Book) : unBook (Book.row t s) = s := by
  cases s; simp only [Book.row, unBook, un_Own, un_Part, un_Seen]
theorem un_Book (t : Nat) (l : List Book) : (l.map (Book.row t)).map unBook = l := by
  rw [List.map_map]; exact List.map_id'' (fun s => unBook_row t s) l
theorem Book_eta (s : Book) : (Book.mk s.own s.parts s.seen) = s := (rfl)
structure Sector where
  up : Bool
  mo : List Own
  mp : List Part
  ms : List Seen
  dn : List Own
  dp : List Part
  ds : List Seen
  ot : List Word
  deriving Inhabited, DecidableEq
def Sector.row (t : Nat) (s : Sector) : List AV := [.bool s.up, .sl t 11 (s.mo.map (Own.row t)), .sl t 3 (s.mp.map (Part.row t)), .sl t 2 (s.ms.map Seen.row), .sl t 11 (s.dn.map (Own.row t)), .sl t 3 (s.dp.map (Part.row t)), .sl t 2 (s.ds.map Seen.row), .sl t 8 (s.ot.map (Word.row t))]
def unSector : List AV → Sector
  | [.bool vup, .sl _ 11 vmo, .sl _ 3 vmp, .sl _ 2 vms, .sl _ 11 vdn, .sl _ 3 vdp, .sl _ 2 vds, .sl _ 8 vot] => (Sector.mk vup (vmo.map unOwn) (vmp.map unPart) (vms.map unSeen) (vdn.map unOwn) (vdp.map unPart) (vds.map unSeen) (vot.map unWord))
  | _ => default
theorem unSector_row (t : Nat) (s : Sector) : unSector (Sector.row t s) = s := by
  cases s; simp only [Sector.row, unSector, un_Own, un_Part, un_Seen, un_Own, un_Part, un_Seen, un_Word]
theorem un_Sector (t : Nat) (l : List Sector) : (l.map (Sector.row t)).map unSector = l := by
  rw [List.map_map]; exact List.map_id'' (fun s => unSector_row t s) l
theorem Sector_eta (s : Sector) : (Sector.mk s.up s.mo s.mp s.ms s.dn s.dp s.ds s.ot) = s := (rfl)
structure HCraft where
  nm : ByteArray
  nr : Int
  no : Int
  tu : List Box6
  deriving Inhabited, DecidableEq
def HCraft.row (t : Nat) (s : HCraft) : List AV := [.str s.nm, .int .i64 s.nr, .int .i64 s.no, .sl t 6 (s.tu.map Box6.row)]
def unHCraft : List AV → HCraft
  | [.str vnm, .int .i64 vnr, .int .i64 vno, .sl _ 6 vtu] => (HCraft.mk vnm vnr vno (vtu.map unBox))
  | _ => default
theorem unHCraft_row (t : Nat) (s : HCraft) : unHCraft (HCraft.row t s) = s := by
  cases s; simp only [HCraft.row, unHCraft, un_box]
theorem un_HCraft (t : Nat) (l : List HCraft) : (l.map (HCraft.row t)).map unHCraft = l := by
  rw [List.map_map]; exact List.map_id'' (fun s => unHCraft_row t s) l
theorem HCraft_eta (s : HCraft) : (HCraft.mk s.nm s.nr s.no s.tu) = s := (rfl)
structure World where
  zones : List Zone
  secs : List Sector
  crafts : List HCraft
  radio : List Word
  deriving Inhabited, DecidableEq
def World.row (t : Nat) (s : World) : List AV := [.sl t 5 (s.zones.map Zone.row), .sl t 8 (s.secs.map (Sector.row t)), .sl t 4 (s.crafts.map (HCraft.row t)), .sl t 8 (s.radio.map (Word.row t))]
def unWorld : List AV → World
  | [.sl _ 5 vzones, .sl _ 8 vsecs, .sl _ 4 vcrafts, .sl _ 8 vradio] => (World.mk (vzones.map unZone) (vsecs.map unSector) (vcrafts.map unHCraft) (vradio.map unWord))
  | _ => default
theorem unWorld_row (t : Nat) (s : World) : unWorld (World.row t s) = s := by
  cases s; simp only [World.row, unWorld, un_Zone, un_Sector, un_HCraft, un_Word]
theorem un_World (t : Nat) (l : List World) : (l.map (World.row t)).map unWorld = l := by
  rw [List.map_map]; exact List.map_id'' (fun s => unWorld_row t s) l
theorem World_eta (s : World) : (World.mk s.zones s.secs s.crafts s.radio) = s := (rfl)
theorem c_isName (s : ByteArray) : Contract P 24 [.str s] [] (.bool (decide (nameOk s))) [] := by
  refine fn_sound (Env.nil P) hm k_impl_isName (Nat.le_of_ble_eq_true rfl) rfl ?_; unfold s_impl_isName; simp (config := { maxSteps := 2000000 }) only [bitvec_to_nat, reduceIte, Nat.reduceEqDiff, Nat.reduceAdd, Nat.reduceLeDiff, reduceCtorEq, Nat.reduceBEq, Nat.reduceLT, Nat.reduceMod, List.forall_mem_cons]
  refine ⟨fun h1 => ?_, fun h1 => ⟨fun h2 => ?_, fun h2 => ?_⟩⟩
  · grind [nameOk]
  · grind [nameOk]
  · refine loop_st (fun i : Nat => [(3, .int .i64 i)]) (fun _ => []) (fun i => i ≤ s.toList.length ∧ ∀ j, j < i → charOk (s.toList.getD j 0)) (fun i => s.toList.length - i) (0) (by simp only [u_E0, u_E1, u_M0, u_M1, w_setE0, w_setE1, w_setM0, w_setM1, reduceIte, Nat.reduceEqDiff]; exact ⟨by repeat' (first | exact trivial | refine ⟨.inr rfl, ?_⟩), by repeat' (first | exact trivial | refine ⟨rfl, ?_⟩), by first | rfl | simp [closedB, refsIn, refsInL, refsInO, dom, refsInL_nr, *], by first | rfl | simp [keepB, dom]⟩) ?_ ?_
    · exact ⟨Nat.zero_le _, by intro j hj; omega⟩
    intro i hi NX hN
    unfold l_impl_isName_0; simp (config := { maxSteps := 2000000 }) only [bitvec_to_nat, reduceIte, Nat.reduceEqDiff, Nat.reduceAdd, Nat.reduceLeDiff, reduceCtorEq, Nat.reduceBEq, Nat.reduceLT, Nat.reduceMod, List.forall_mem_cons]
    repeat' (first | apply And.intro | intro _)
    all_goals first
      | omega
      | (refine hN (i + 1) _ (by simp only [u_E0, u_E1, u_M0, u_M1, w_setE0, w_setE1, w_setM0, w_setM1, reduceIte, Nat.reduceEqDiff]; exact ⟨by repeat' (first | exact trivial | refine ⟨.inr rfl, ?_⟩), by repeat' (first | exact trivial | refine ⟨rfl, ?_⟩), by first | rfl | simp [closedB, refsIn, refsInL, refsInO, dom, refsInL_nr, *], by first | rfl | simp [keepB, dom]⟩) ?_ ?_
         · exact ⟨by omega, all_snoc hi.2 (by grind [charOk])⟩
         · omega)
      | grind [nameOk, charOk]
end
end Go.Ve

namespace Go.Ve
noncomputable section
open Go.Proofs
set_option linter.unusedSimpArgs false
set_option linter.unusedVariables false
set_option maxRecDepth 100000
theorem tk_map {α : Type} {f : α → List AV} {l : List α} {n : Nat} : List.take n (List.map f l) = List.map f (List.take n l) := (List.map_take).symm
theorem dp_map {α : Type} {f : α → List AV} {l : List α} {n : Nat} : List.drop n (List.map f l) = List.map f (List.drop n l) := (List.map_drop).symm
theorem getD_take {α : Type} [Inhabited α] {l : List α} {n j : Nat} (h : j < n) : (l.take n).getD j default = l.getD j default := by
  simp [List.getD_eq_getElem?_getD, List.getElem?_take, h]
def t_isName : List AV → Option (Prop × AV)
  | [.str s] => some ((True) ∧ (True), .bool (decide (nameOk s)))
  | _ => none
theorem h_isName : ∀ args p v, t_isName args = some (p, v) → p → Contract P 24 args [] v [] ∧ noref v = true ∧ No99 v := by
  intro args p v h1 h2
  unfold t_isName at h1
  split at h1
  · rename_i s
    cases h1
    obtain ⟨_, HP⟩ := h2
    have := c_isName s
    exact ⟨this, rfl, trivial⟩
  · cases h1
def Zone.ok (z : Zone) : Prop := nameOk z.nm ∧ (0 ≤ z.x0 ∧ z.x0 ≤ z.x1 ∧ z.x1 < 16) ∧ (0 ≤ z.y0 ∧ z.y0 ≤ z.y1 ∧ z.y1 < 16)
def Zone.meet (o z : Zone) : Prop := o.x0 ≤ z.x1 ∧ z.x0 ≤ o.x1 ∧ o.y0 ≤ z.y1 ∧ z.y0 ≤ o.y1
def zoneAt (zs : List Zone) (i : Nat) : Prop := (zs.getD i default).ok ∧ (0 < i → slt (zs.getD (i - 1) default).nm (zs.getD i default).nm) ∧ ∀ k, k < i → ¬ (zs.getD k default).meet (zs.getD i default)
def zonesOk (zs : List Zone) : Prop := (1 ≤ zs.length ∧ zs.length ≤ 4) ∧ ∀ i, i < zs.length → zoneAt zs i
noncomputable instance (zs : List Zone) : Decidable (zonesOk zs) := Classical.propDecidable _
end
end Go.Ve

namespace Go.Ve
noncomputable section
open Go.Proofs
set_option linter.unusedSimpArgs false
set_option linter.unusedVariables false
set_option maxRecDepth 100000
structure PKind where
  nm : ByteArray
  q : Int
  sl : Int
  deriving Inhabited, DecidableEq
def PKind.row (s : PKind) : List AV := [.str s.nm, .int .i64 s.q, .int .i64 s.sl]
def unPKind : List AV → PKind
  | [.str vnm, .int .i64 vq, .int .i64 vsl] => (PKind.mk vnm vq vsl)
  | _ => default
theorem unPKind_row (s : PKind) : unPKind (PKind.row s) = s := by
  cases s; simp only [PKind.row, unPKind]
theorem un_PKind (l : List PKind) : (l.map PKind.row).map unPKind = l := by
  rw [List.map_map]; exact List.map_id'' (fun s => unPKind_row s) l
theorem PKind_eta (s : PKind) : (PKind.mk s.nm s.q s.sl) = s := (rfl)
structure PPt where
  nm : ByteArray
  x : Int
  y : Int
  deriving Inhabited, DecidableEq
def PPt.row (s : PPt) : List AV := [.str s.nm, .int .i64 s.x, .int .i64 s.y]
def unPPt : List AV → PPt
  | [.str vnm, .int .i64 vx, .int .i64 vy] => (PPt.mk vnm vx vy)
  | _ => default
theorem unPPt_row (s : PPt) : unPPt (PPt.row s) = s := by
  cases s; simp only [PPt.row, unPPt]
theorem un_PPt (l : List PPt) : (l.map PPt.row).map unPPt = l := by
  rw [List.map_map]; exact List.map_id'' (fun s => unPPt_row s) l
theorem PPt_eta (s : PPt) : (PPt.mk s.nm s.x s.y) = s := (rfl)
structure Cell where
  x : Int
  y : Int
  deriving Inhabited, DecidableEq
def Cell.row (s : Cell) : List AV := [.int .i64 s.x, .int .i64 s.y]
def unCell : List AV → Cell
  | [.int .i64 vx, .int .i64 vy] => (Cell.mk vx vy)
  | _ => default
theorem unCell_row (s : Cell) : unCell (Cell.row s) = s := by
  cases s; simp only [Cell.row, unCell]
theorem un_Cell (l : List Cell) : (l.map Cell.row).map unCell = l := by
  rw [List.map_map]; exact List.map_id'' (fun s => unCell_row s) l
theorem Cell_eta (s : Cell) : (Cell.mk s.x s.y) = s := (rfl)
open Go.ChangeShapes Go.WideShapes
def Meas1 (g : Int → Int) : Prop := ∀ a, a ≤ 1048576 → (g a = -1 ∨ 0 ≤ g a) ∧ (a < 0 → g a = -1) ∧ g a ≤ max a (-1)
def MeasP (g : Int → Int) : Prop := ∀ a, 0 ≤ a → a ≤ 1048576 → (g a = -1 ∨ 0 ≤ g a) ∧ g a ≤ a
theorem Meas1.p {g : Int → Int} (h : Meas1 g) : MeasP g := fun a h0 h1 => ⟨(h a h1).1, by have := (h a h1).2.2; omega⟩
theorem getD_mem' {α : Type} [Inhabited α] {l : List α} {i : Nat} (h : i < l.length) : l.getD i default ∈ l := by simp [h]
theorem getD_seti' {α : Type} {l : List α} {i : Nat} {x d : α} (h : i < l.length) : (l.set i x).getD i d = x := by simp [h]
theorem getD_setn' {α : Type} {l : List α} {i j : Nat} {x d : α} (h : i ≠ j) : (l.set i x).getD j d = l.getD j d := by simp [List.getElem?_set_ne h]
def isIn {κ : Type} (q : κ) (l : List κ) : Prop := q ∈ l
noncomputable instance {κ : Type} (q : κ) (l : List κ) : Decidable (isIn q l) := Classical.propDecidable _
section
variable {κ : Type} {f : κ → AV} (inj : ∀ {a b}, keyEq (f a) (f b) = true ↔ a = b)
include inj
end
theorem c_l11In (n a b : Int) : Contract P 16 [.int .i64 n, .int .i64 a, .int .i64 b] [] (.bool (decide (a ≤ n ∧ n ≤ b))) [] := by
  refine fn_sound (Env.nil P) hm k_spec_l11In (Nat.le_of_ble_eq_true rfl) rfl ?_; unfold s_spec_l11In; simp (config := { maxSteps := 2000000 }) only [bitvec_to_nat, reduceIte, Nat.reduceEqDiff, Nat.reduceAdd, Nat.reduceLeDiff, reduceCtorEq, Nat.reduceBEq, Nat.reduceLT, Nat.reduceMod, List.forall_mem_cons]
  repeat' (first | with_reducible apply And.intro | with_reducible intro _)
  all_goals first | omega | grind
def t_l11In : List AV → Option (Prop × AV)
  | [.int .i64 n, .int .i64 a, .int .i64 b] => some ((True) ∧ (True), .bool (decide (a ≤ n ∧ n ≤ b)))
  | _ => none
theorem h_l11In : ∀ args p v, t_l11In args = some (p, v) → p → Contract P 16 args [] v [] ∧ noref v = true ∧ No99 v := by
  intro args p v h1 h2
  unfold t_l11In at h1
  split at h1
  · rename_i n a b
    cases h1
    obtain ⟨_, HP⟩ := h2
    have := c_l11In n a b
    exact ⟨this, rfl, trivial⟩
  · cases h1
theorem c_l11NameOk (s : ByteArray) (hp : True) : Contract P 17 [.str s] [] (.bool (decide (nameOk s))) [] := by
  refine fn_sound ((Env.nil P).add 16 t_l11In h_l11In) hm k_spec_l11NameOk (Nat.le_of_ble_eq_true rfl) rfl ?_; unfold s_spec_l11NameOk; simp (config := { maxSteps := 2000000 }) only [bitvec_to_nat, reduceIte, Nat.reduceEqDiff, Nat.reduceAdd, Nat.reduceLeDiff, reduceCtorEq, Nat.reduceBEq, Nat.reduceLT, Nat.reduceMod, List.forall_mem_cons, t_l11In]
  refine ⟨fun h1 => ?_, fun h1 => ?_⟩
  · refine loop_st (fun i : Nat => [(3, .int .i64 i)]) (fun _ => []) (fun i => i ≤ s.toList.length ∧ ∀ j, j < i → charOk (s.toList.getD j 0)) (fun i => s.toList.length - i) (0) (by simp only [u_E0, u_E1, u_M0, u_M1, w_setE0, w_setE1, w_setM0, w_setM1, reduceIte, Nat.reduceEqDiff]; exact ⟨by repeat' (first | exact trivial | refine ⟨.inr rfl, ?_⟩), by repeat' (first | exact trivial | refine ⟨rfl, ?_⟩), by first | rfl | simp [closedB, refsIn, refsInL, refsInO, dom, refsInL_nr, *], by first | rfl | simp [keepB, dom]⟩) ?_ ?_
    · exact ⟨Nat.zero_le _, by intro j hj; omega⟩
    intro i hi NX hN
    unfold l_spec_l11NameOk_0; simp (config := { maxSteps := 2000000 }) only [bitvec_to_nat, reduceIte, Nat.reduceEqDiff, Nat.reduceAdd, Nat.reduceLeDiff, reduceCtorEq, Nat.reduceBEq, Nat.reduceLT, Nat.reduceMod, List.forall_mem_cons]
    repeat' (first | with_reducible apply And.intro | with_reducible intro _)
    all_goals first
      | exact trivial
      | omega
      | (refine hN (i + 1) _ (by simp only [u_E0, u_E1, u_M0, u_M1, w_setE0, w_setE1, w_setM0, w_setM1, reduceIte, Nat.reduceEqDiff]; exact ⟨by repeat' (first | exact trivial | refine ⟨.inr rfl, ?_⟩), by repeat' (first | exact trivial | refine ⟨rfl, ?_⟩), by first | rfl | simp [closedB, refsIn, refsInL, refsInO, dom, refsInL_nr, *], by first | rfl | simp [keepB, dom]⟩) ?_ ?_
         · exact ⟨by omega, all_snoc hi.2 (by grind [nameOk, charOk])⟩
         · omega)
      | grind [nameOk, charOk]
  · grind [nameOk]
def t_l11NameOk : List AV → Option (Prop × AV)
  | [.str s] => some ((True) ∧ (True), .bool (decide (nameOk s)))
  | _ => none
theorem h_l11NameOk : ∀ args p v, t_l11NameOk args = some (p, v) → p → Contract P 17 args [] v [] ∧ noref v = true ∧ No99 v := by
  intro args p v h1 h2
  unfold t_l11NameOk at h1
  split at h1
  · rename_i s
    cases h1
    obtain ⟨_, HP⟩ := h2
    have := c_l11NameOk s HP
    exact ⟨this, rfl, trivial⟩
  · cases h1
def PKind.ok (k : PKind) : Prop := nameOk k.nm ∧ (1 ≤ k.q ∧ k.q ≤ k.sl) ∧ k.sl ≤ 50
def PPt.ok (k : PPt) : Prop := nameOk k.nm ∧ (0 ≤ k.x ∧ k.x ≤ 15) ∧ (0 ≤ k.y ∧ k.y ≤ 15)
instance (k : PKind) : Decidable k.ok := by unfold PKind.ok; infer_instance
instance (k : PPt) : Decidable k.ok := by unfold PPt.ok; infer_instance
def kAt (l : List PKind) (i : Nat) : Prop := (l.getD i default).ok ∧ (0 < i → slt (l.getD (i - 1) default).nm (l.getD i default).nm)
def pAt (l : List PPt) (i : Nat) : Prop := (l.getD i default).ok ∧ (0 < i → slt (l.getD (i - 1) default).nm (l.getD i default).nm) ∧ ∀ k, k < i → ¬ ((l.getD k default).x = (l.getD i default).x ∧ (l.getD k default).y = (l.getD i default).y)
def baseOk (ks : List PKind) (ps : List PPt) : Prop := (ks.length ≤ 6 ∧ ps.length ≤ 16) ∧ (∀ i, i < ks.length → kAt ks i) ∧ ∀ i, i < ps.length → pAt ps i
noncomputable instance (ks : List PKind) (ps : List PPt) : Decidable (baseOk ks ps) := Classical.propDecidable _
end
end Go.Ve

namespace Go.Proofs
open Go.Shelf
def Tryd.lays160_ren : Go.Shelf.Ren := ⟨fun | 160 => 21 | 232 => 32 | 231 => 31 | 227 => 33 | 234 => 35 | 233 => 34 | 236 => 37 | 235 => 36 | 228 => 45 | 271 => 47 | 151 => 46 | 197 => 42 | 120 => 60 | 152 => 59 | 260 => 54 | 137 => 69 | 119 => 70 | 224 => 57 | 225 => 56 | 217 => 55 | 266 => 67 | n => n, fun | 9 => 9 | 4 => 4 | 3 => 3 | 5 => 5 | 117 => 53 | 116 => 52 | 0 => 0 | 124 => 56 | 21 => 21 | 105 => 59 | 46 => 72 | 119 => 85 | 139 => 88 | 138 => 87 | n => n, fun | 3 => 4 | 4 => 5 | n => n⟩
theorem Tryd.lays160 : Go.Proofs.Lays.n160 Tryd.prog Tryd.lays160_ren where
  mixed := by kernel_rfl
  f119 := Tryd.func70.trans (congrArg some (by kernel_rfl))
  f120 := Tryd.func60.trans (congrArg some (by kernel_rfl))
  f137 := Tryd.func69.trans (congrArg some (by kernel_rfl))
  f151 := Tryd.func46.trans (congrArg some (by kernel_rfl))
  f152 := Tryd.func59.trans (congrArg some (by kernel_rfl))
  f160 := Tryd.func21.trans (congrArg some (by kernel_rfl))
  f197 := Tryd.func42.trans (congrArg some (by kernel_rfl))
  f217 := Tryd.func55.trans (congrArg some (by kernel_rfl))
  f224 := Tryd.func57.trans (congrArg some (by kernel_rfl))
  f225 := Tryd.func56.trans (congrArg some (by kernel_rfl))
  f227 := Tryd.func33.trans (congrArg some (by kernel_rfl))
  f228 := Tryd.func45.trans (congrArg some (by kernel_rfl))
  f231 := Tryd.func31.trans (congrArg some (by kernel_rfl))
  f232 := Tryd.func32.trans (congrArg some (by kernel_rfl))
  f233 := Tryd.func34.trans (congrArg some (by kernel_rfl))
  f234 := Tryd.func35.trans (congrArg some (by kernel_rfl))
  f235 := Tryd.func36.trans (congrArg some (by kernel_rfl))
  f236 := Tryd.func37.trans (congrArg some (by kernel_rfl))
  f260 := Tryd.func54.trans (congrArg some (by kernel_rfl))
  f266 := Tryd.func67.trans (congrArg some (by kernel_rfl))
  f271 := Tryd.func47.trans (congrArg some (by kernel_rfl))
  t0 := Tryd.underlying0
  a0 := Tryd.isAgg0
  z0 := Tryd.sizeOf0
  v0 := Tryd.zeroValue0
  t3 := Tryd.underlying3
  a3 := Tryd.isAgg3
  z3 := Tryd.sizeOf3
  v3 := Tryd.zeroValue3
  t4 := Tryd.underlying4
  a4 := Tryd.isAgg4
  z4 := Tryd.sizeOf4
  v4 := Tryd.zeroValue4
  t5 := Tryd.underlying5
  a5 := Tryd.isAgg5
  z5 := Tryd.sizeOf5
  v5 := Tryd.zeroValue5
  t9 := Tryd.underlying9
  a9 := Tryd.isAgg9
  z9 := Tryd.sizeOf9
  v9 := Tryd.zeroValue9
  t21 := Tryd.underlying21
  a21 := Tryd.isAgg21
  z21 := Tryd.sizeOf21
  v21 := Tryd.zeroValue21
  t46 := Tryd.underlying72
  a46 := Tryd.isAgg72
  z46 := Tryd.sizeOf72
  v46 := Tryd.zeroValue72
  t105 := Tryd.underlying59
  a105 := Tryd.isAgg59
  z105 := Tryd.sizeOf59
  v105 := Tryd.zeroValue59
  t116 := Tryd.underlying52
  a116 := Tryd.isAgg52
  z116 := Tryd.sizeOf52
  t117 := Tryd.underlying53
  a117 := Tryd.isAgg53
  z117 := Tryd.sizeOf53
  v117 := Tryd.zeroValue53
  t119 := Tryd.underlying85
  a119 := Tryd.isAgg85
  z119 := Tryd.sizeOf85
  t124 := Tryd.underlying56
  a124 := Tryd.isAgg56
  z124 := Tryd.sizeOf56
  v124 := Tryd.zeroValue56
  t138 := Tryd.underlying87
  a138 := Tryd.isAgg87
  z138 := Tryd.sizeOf87
  v138 := Tryd.zeroValue87
  t139 := Tryd.underlying88
  a139 := Tryd.isAgg88
  z139 := Tryd.sizeOf88
  v139 := Tryd.zeroValue88
  g3 := by kernel_rfl
  g4 := by kernel_rfl
def Tryd.lays138_ren : Go.Shelf.Ren := ⟨fun | 138 => 29 | 195 => 41 | 218 => 43 | 143 => 30 | 219 => 44 | 217 => 55 | 225 => 56 | 224 => 57 | 267 => 58 | 266 => 67 | 314 => 68 | n => n, fun | 9 => 9 | 3 => 3 | 4 => 4 | 5 => 5 | 0 => 0 | 46 => 72 | 146 => 90 | 51 => 89 | n => n, fun | 1 => 1 | n => n⟩
theorem Tryd.lays138 : Go.Proofs.Lays.n138 Tryd.prog Tryd.lays138_ren where
  mixed := by kernel_rfl
  f138 := Tryd.func29.trans (congrArg some (by kernel_rfl))
  f143 := Tryd.func30.trans (congrArg some (by kernel_rfl))
  f195 := Tryd.func41.trans (congrArg some (by kernel_rfl))
  f217 := Tryd.func55.trans (congrArg some (by kernel_rfl))
  f218 := Tryd.func43.trans (congrArg some (by kernel_rfl))
  f219 := Tryd.func44.trans (congrArg some (by kernel_rfl))
  f224 := Tryd.func57.trans (congrArg some (by kernel_rfl))
  f225 := Tryd.func56.trans (congrArg some (by kernel_rfl))
  f266 := Tryd.func67.trans (congrArg some (by kernel_rfl))
  f267 := Tryd.func58.trans (congrArg some (by kernel_rfl))
  f314 := Tryd.func68.trans (congrArg some (by kernel_rfl))
  t0 := Tryd.underlying0
  a0 := Tryd.isAgg0
  z0 := Tryd.sizeOf0
  v0 := Tryd.zeroValue0
  t3 := Tryd.underlying3
  a3 := Tryd.isAgg3
  z3 := Tryd.sizeOf3
  v3 := Tryd.zeroValue3
  t4 := Tryd.underlying4
  a4 := Tryd.isAgg4
  z4 := Tryd.sizeOf4
  v4 := Tryd.zeroValue4
  t5 := Tryd.underlying5
  a5 := Tryd.isAgg5
  z5 := Tryd.sizeOf5
  v5 := Tryd.zeroValue5
  t9 := Tryd.underlying9
  a9 := Tryd.isAgg9
  z9 := Tryd.sizeOf9
  v9 := Tryd.zeroValue9
  t46 := Tryd.underlying72
  a46 := Tryd.isAgg72
  z46 := Tryd.sizeOf72
  v46 := Tryd.zeroValue72
  t51 := Tryd.underlying89
  a51 := Tryd.isAgg89
  z51 := Tryd.sizeOf89
  v51 := Tryd.zeroValue89
  t146 := Tryd.underlying90
  a146 := Tryd.isAgg90
  z146 := Tryd.sizeOf90
  v146 := Tryd.zeroValue90
  g1 := by kernel_rfl
def Tryd.lays143_ren : Go.Shelf.Ren := ⟨fun | 143 => 30 | 219 => 44 | 217 => 55 | 225 => 56 | 224 => 57 | 267 => 58 | 266 => 67 | 314 => 68 | n => n, fun | 9 => 9 | 3 => 3 | 4 => 4 | 5 => 5 | 46 => 72 | 146 => 90 | 51 => 89 | n => n, fun | 1 => 1 | n => n⟩
theorem Tryd.lays143 : Go.Proofs.Lays.n143 Tryd.prog Tryd.lays143_ren where
  mixed := by kernel_rfl
  f143 := Tryd.func30.trans (congrArg some (by kernel_rfl))
  f217 := Tryd.func55.trans (congrArg some (by kernel_rfl))
  f219 := Tryd.func44.trans (congrArg some (by kernel_rfl))
  f224 := Tryd.func57.trans (congrArg some (by kernel_rfl))
  f225 := Tryd.func56.trans (congrArg some (by kernel_rfl))
  f266 := Tryd.func67.trans (congrArg some (by kernel_rfl))
  f267 := Tryd.func58.trans (congrArg some (by kernel_rfl))
  f314 := Tryd.func68.trans (congrArg some (by kernel_rfl))
  t3 := Tryd.underlying3
  a3 := Tryd.isAgg3
  z3 := Tryd.sizeOf3
  v3 := Tryd.zeroValue3
  t4 := Tryd.underlying4
  a4 := Tryd.isAgg4
  z4 := Tryd.sizeOf4
  v4 := Tryd.zeroValue4
  t5 := Tryd.underlying5
  a5 := Tryd.isAgg5
  z5 := Tryd.sizeOf5
  v5 := Tryd.zeroValue5
  t9 := Tryd.underlying9
  a9 := Tryd.isAgg9
  z9 := Tryd.sizeOf9
  v9 := Tryd.zeroValue9
  t46 := Tryd.underlying72
  a46 := Tryd.isAgg72
  z46 := Tryd.sizeOf72
  v46 := Tryd.zeroValue72
  t51 := Tryd.underlying89
  a51 := Tryd.isAgg89
  z51 := Tryd.sizeOf89
  v51 := Tryd.zeroValue89
  t146 := Tryd.underlying90
  a146 := Tryd.isAgg90
  z146 := Tryd.sizeOf90
  v146 := Tryd.zeroValue90
  g1 := by kernel_rfl
def Tryd.lays172_ren : Go.Shelf.Ren := ⟨fun | 172 => 22 | 244 => 38 | 245 => 39 | 247 => 48 | 279 => 49 | 280 => 50 | 281 => 51 | 282 => 52 | 287 => 61 | 316 => 23 | 171 => 27 | 205 => 62 | 321 => 71 | 322 => 72 | 243 => 40 | 246 => 53 | 283 => 63 | 284 => 64 | 285 => 65 | 286 => 66 | 129 => 74 | 317 => 73 | 318 => 75 | 319 => 76 | 320 => 77 | 337 => 78 | 338 => 79 | n => n, fun | 9 => 9 | 3 => 3 | 75 => 43 | 76 => 44 | 4 => 4 | 5 => 5 | 167 => 64 | 37 => 47 | 0 => 0 | 85 => 65 | 2 => 2 | 168 => 67 | 53 => 74 | 175 => 75 | 46 => 72 | 210 => 78 | 127 => 58 | 145 => 96 | 143 => 94 | 21 => 21 | 171 => 80 | 173 => 83 | 212 => 98 | 51 => 89 | 20 => 20 | 213 => 99 | 232 => 103 | 233 => 104 | 80 => 107 | n => n, fun | 15 => 2 | 16 => 3 | 17 => 6 | 18 => 7 | 19 => 8 | n => n⟩
theorem Tryd.lays172 : Go.Proofs.Lays.n172 Tryd.prog Tryd.lays172_ren where
  mixed := by kernel_rfl
  f129 := Tryd.func74.trans (congrArg some (by kernel_rfl))
  f171 := Tryd.func27.trans (congrArg some (by kernel_rfl))
  f172 := Tryd.func22.trans (congrArg some (by kernel_rfl))
  f205 := Tryd.func62.trans (congrArg some (by kernel_rfl))
  f243 := Tryd.func40.trans (congrArg some (by kernel_rfl))
  f244 := Tryd.func38.trans (congrArg some (by kernel_rfl))
  f245 := Tryd.func39.trans (congrArg some (by kernel_rfl))
  f246 := Tryd.func53.trans (congrArg some (by kernel_rfl))
  f247 := Tryd.func48.trans (congrArg some (by kernel_rfl))
  f279 := Tryd.func49.trans (congrArg some (by kernel_rfl))
  f280 := Tryd.func50.trans (congrArg some (by kernel_rfl))
  f281 := Tryd.func51.trans (congrArg some (by kernel_rfl))
  f282 := Tryd.func52.trans (congrArg some (by kernel_rfl))
  f283 := Tryd.func63.trans (congrArg some (by kernel_rfl))
  f284 := Tryd.func64.trans (congrArg some (by kernel_rfl))
  f285 := Tryd.func65.trans (congrArg some (by kernel_rfl))
  f286 := Tryd.func66.trans (congrArg some (by kernel_rfl))
  f287 := Tryd.func61.trans (congrArg some (by kernel_rfl))
  f316 := Tryd.func23.trans (congrArg some (by kernel_rfl))
  f317 := Tryd.func73.trans (congrArg some (by kernel_rfl))
  f318 := Tryd.func75.trans (congrArg some (by kernel_rfl))
  f319 := Tryd.func76.trans (congrArg some (by kernel_rfl))
  f320 := Tryd.func77.trans (congrArg some (by kernel_rfl))
  f321 := Tryd.func71.trans (congrArg some (by kernel_rfl))
  f322 := Tryd.func72.trans (congrArg some (by kernel_rfl))
  f337 := Tryd.func78.trans (congrArg some (by kernel_rfl))
  f338 := Tryd.func79.trans (congrArg some (by kernel_rfl))
  t0 := Tryd.underlying0
  a0 := Tryd.isAgg0
  z0 := Tryd.sizeOf0
  v0 := Tryd.zeroValue0
  t2 := Tryd.underlying2
  a2 := Tryd.isAgg2
  z2 := Tryd.sizeOf2
  v2 := Tryd.zeroValue2
  t3 := Tryd.underlying3
  a3 := Tryd.isAgg3
  z3 := Tryd.sizeOf3
  v3 := Tryd.zeroValue3
  t4 := Tryd.underlying4
  a4 := Tryd.isAgg4
  z4 := Tryd.sizeOf4
  v4 := Tryd.zeroValue4
  t5 := Tryd.underlying5
  a5 := Tryd.isAgg5
  z5 := Tryd.sizeOf5
  v5 := Tryd.zeroValue5
  t9 := Tryd.underlying9
  a9 := Tryd.isAgg9
  z9 := Tryd.sizeOf9
  v9 := Tryd.zeroValue9
  t20 := Tryd.underlying20
  a20 := Tryd.isAgg20
  z20 := Tryd.sizeOf20
  v20 := Tryd.zeroValue20
  t21 := Tryd.underlying21
  a21 := Tryd.isAgg21
  z21 := Tryd.sizeOf21
  v21 := Tryd.zeroValue21
  t37 := Tryd.underlying47
  a37 := Tryd.isAgg47
  z37 := Tryd.sizeOf47
  v37 := Tryd.zeroValue47
  t46 := Tryd.underlying72
  a46 := Tryd.isAgg72
  z46 := Tryd.sizeOf72
  v46 := Tryd.zeroValue72
  t51 := Tryd.underlying89
  a51 := Tryd.isAgg89
  z51 := Tryd.sizeOf89
  v51 := Tryd.zeroValue89
  t53 := Tryd.underlying74
  a53 := Tryd.isAgg74
  z53 := Tryd.sizeOf74
  v53 := Tryd.zeroValue74
  t75 := Tryd.underlying43
  a75 := Tryd.isAgg43
  z75 := Tryd.sizeOf43
  v75 := Tryd.zeroValue43
  t76 := Tryd.underlying44
  a76 := Tryd.isAgg44
  z76 := Tryd.sizeOf44
  v76 := Tryd.zeroValue44
  t85 := Tryd.underlying65
  a85 := Tryd.isAgg65
  z85 := Tryd.sizeOf65
  v85 := Tryd.zeroValue65
  t127 := Tryd.underlying58
  a127 := Tryd.isAgg58
  z127 := Tryd.sizeOf58
  v127 := Tryd.zeroValue58
  t143 := Tryd.underlying94
  a143 := Tryd.isAgg94
  z143 := Tryd.sizeOf94
  v143 := Tryd.zeroValue94
  t145 := Tryd.underlying96
  a145 := Tryd.isAgg96
  z145 := Tryd.sizeOf96
  v145 := Tryd.zeroValue96
  t167 := Tryd.underlying64
  a167 := Tryd.isAgg64
  z167 := Tryd.sizeOf64
  v167 := Tryd.zeroValue64
  t168 := Tryd.underlying67
  a168 := Tryd.isAgg67
  z168 := Tryd.sizeOf67
  v168 := Tryd.zeroValue67
  t171 := Tryd.underlying80
  a171 := Tryd.isAgg80
  z171 := Tryd.sizeOf80
  v171 := Tryd.zeroValue80
  t173 := Tryd.underlying83
  a173 := Tryd.isAgg83
  z173 := Tryd.sizeOf83
  v173 := Tryd.zeroValue83
  t175 := Tryd.underlying75
  a175 := Tryd.isAgg75
  z175 := Tryd.sizeOf75
  v175 := Tryd.zeroValue75
  t210 := Tryd.underlying78
  a210 := Tryd.isAgg78
  z210 := Tryd.sizeOf78
  v210 := Tryd.zeroValue78
  t212 := Tryd.underlying98
  a212 := Tryd.isAgg98
  z212 := Tryd.sizeOf98
  v212 := Tryd.zeroValue98
  t213 := Tryd.underlying99
  a213 := Tryd.isAgg99
  z213 := Tryd.sizeOf99
  t232 := Tryd.underlying103
  a232 := Tryd.isAgg103
  z232 := Tryd.sizeOf103
  v232 := Tryd.zeroValue103
  t233 := Tryd.underlying104
  a233 := Tryd.isAgg104
  z233 := Tryd.sizeOf104
  v233 := Tryd.zeroValue104
  g15 := by kernel_rfl
  g16 := by kernel_rfl
  g17 := by kernel_rfl
  g18 := by kernel_rfl
  g19 := by kernel_rfl
def Tryd.lays171_ren : Go.Shelf.Ren := ⟨fun | 171 => 27 | 243 => 40 | 246 => 53 | 283 => 63 | 284 => 64 | 285 => 65 | 286 => 66 | 129 => 74 | 317 => 73 | 318 => 75 | 319 => 76 | 320 => 77 | 337 => 78 | 338 => 79 | n => n, fun | 3 => 3 | 9 => 9 | 2 => 2 | 4 => 4 | 171 => 80 | 0 => 0 | 53 => 74 | 37 => 47 | 5 => 5 | 173 => 83 | 212 => 98 | 51 => 89 | 20 => 20 | 213 => 99 | 46 => 72 | 232 => 103 | 233 => 104 | n => n, fun | 17 => 6 | 18 => 7 | 19 => 8 | n => n⟩
theorem Tryd.lays171 : Go.Proofs.LaysM.n171 Tryd.prog Tryd.lays171_ren where
  mixed := by kernel_rfl
  f129 := Tryd.func74.trans (congrArg some (by kernel_rfl))
  f171 := Tryd.func27.trans (congrArg some (by kernel_rfl))
  f243 := Tryd.func40.trans (congrArg some (by kernel_rfl))
  f246 := Tryd.func53.trans (congrArg some (by kernel_rfl))
  f283 := Tryd.func63.trans (congrArg some (by kernel_rfl))
  f284 := Tryd.func64.trans (congrArg some (by kernel_rfl))
  f285 := Tryd.func65.trans (congrArg some (by kernel_rfl))
  f286 := Tryd.func66.trans (congrArg some (by kernel_rfl))
  f317 := Tryd.func73.trans (congrArg some (by kernel_rfl))
  f318 := Tryd.func75.trans (congrArg some (by kernel_rfl))
  f319 := Tryd.func76.trans (congrArg some (by kernel_rfl))
  f320 := Tryd.func77.trans (congrArg some (by kernel_rfl))
  f337 := Tryd.func78.trans (congrArg some (by kernel_rfl))
  f338 := Tryd.func79.trans (congrArg some (by kernel_rfl))
  t0 := Tryd.underlying0
  a0 := Tryd.isAgg0
  z0 := Tryd.sizeOf0
  v0 := Tryd.zeroValue0
  t2 := Tryd.underlying2
  a2 := Tryd.isAgg2
  z2 := Tryd.sizeOf2
  v2 := Tryd.zeroValue2
  t3 := Tryd.underlying3
  a3 := Tryd.isAgg3
  z3 := Tryd.sizeOf3
  v3 := Tryd.zeroValue3
  t4 := Tryd.underlying4
  a4 := Tryd.isAgg4
  z4 := Tryd.sizeOf4
  v4 := Tryd.zeroValue4
  t5 := Tryd.underlying5
  a5 := Tryd.isAgg5
  z5 := Tryd.sizeOf5
  v5 := Tryd.zeroValue5
  t9 := Tryd.underlying9
  a9 := Tryd.isAgg9
  z9 := Tryd.sizeOf9
  v9 := Tryd.zeroValue9
  t20 := Tryd.underlying20
  a20 := Tryd.isAgg20
  z20 := Tryd.sizeOf20
  v20 := Tryd.zeroValue20
  t37 := Tryd.underlying47
  a37 := Tryd.isAgg47
  z37 := Tryd.sizeOf47
  v37 := Tryd.zeroValue47
  t46 := Tryd.underlying72
  a46 := Tryd.isAgg72
  z46 := Tryd.sizeOf72
  v46 := Tryd.zeroValue72
  t51 := Tryd.underlying89
  a51 := Tryd.isAgg89
  z51 := Tryd.sizeOf89
  v51 := Tryd.zeroValue89
  t53 := Tryd.underlying74
  a53 := Tryd.isAgg74
  z53 := Tryd.sizeOf74
  v53 := Tryd.zeroValue74
  t171 := Tryd.underlying80
  a171 := Tryd.isAgg80
  z171 := Tryd.sizeOf80
  v171 := Tryd.zeroValue80
  t173 := Tryd.underlying83
  a173 := Tryd.isAgg83
  z173 := Tryd.sizeOf83
  v173 := Tryd.zeroValue83
  t212 := Tryd.underlying98
  a212 := Tryd.isAgg98
  z212 := Tryd.sizeOf98
  v212 := Tryd.zeroValue98
  t213 := Tryd.underlying99
  a213 := Tryd.isAgg99
  z213 := Tryd.sizeOf99
  t232 := Tryd.underlying103
  a232 := Tryd.isAgg103
  z232 := Tryd.sizeOf103
  v232 := Tryd.zeroValue103
  t233 := Tryd.underlying104
  a233 := Tryd.isAgg104
  z233 := Tryd.sizeOf104
  v233 := Tryd.zeroValue104
  g17 := by kernel_rfl
  g18 := by kernel_rfl
  g19 := by kernel_rfl
  i0 := by kernel_rfl
  i2 := by kernel_rfl
  i3 := by kernel_rfl
  i4 := by kernel_rfl
  i5 := by kernel_rfl
  i9 := by kernel_rfl
  i20 := by kernel_rfl
  i37 := by kernel_rfl
  i46 := by kernel_rfl
  i51 := by kernel_rfl
  i53 := by kernel_rfl
  i171 := by kernel_rfl
  i173 := by kernel_rfl
  i212 := by kernel_rfl
  i232 := by kernel_rfl
  i233 := by kernel_rfl
  m17 := by kernel_rfl
  m18 := by kernel_rfl
  m19 := by kernel_rfl
def Tryd.lays25_ren : Go.Shelf.Ren := ⟨fun | 25 => 23 | n => n, fun | 9 => 9 | 3 => 3 | 4 => 4 | 37 => 47 | 0 => 0 | 47 => 58 | 5 => 5 | n => n, fun | n => n⟩
theorem Tryd.lays25 : Go.Proofs.LaysPu.n25 Tryd.prog Tryd.lays25_ren where
  mixed := by kernel_rfl
  f25 := Tryd.func23.trans (congrArg some (by kernel_rfl))
  t0 := Tryd.underlying0
  a0 := Tryd.isAgg0
  z0 := Tryd.sizeOf0
  v0 := Tryd.zeroValue0
  i0 := by kernel_rfl
  t3 := Tryd.underlying3
  a3 := Tryd.isAgg3
  z3 := Tryd.sizeOf3
  v3 := Tryd.zeroValue3
  i3 := by kernel_rfl
  t4 := Tryd.underlying4
  a4 := Tryd.isAgg4
  z4 := Tryd.sizeOf4
  v4 := Tryd.zeroValue4
  i4 := by kernel_rfl
  t5 := Tryd.underlying5
  a5 := Tryd.isAgg5
  z5 := Tryd.sizeOf5
  v5 := Tryd.zeroValue5
  i5 := by kernel_rfl
  t9 := Tryd.underlying9
  a9 := Tryd.isAgg9
  z9 := Tryd.sizeOf9
  v9 := Tryd.zeroValue9
  i9 := by kernel_rfl
  t37 := Tryd.underlying47
  a37 := Tryd.isAgg47
  z37 := Tryd.sizeOf47
  v37 := Tryd.zeroValue47
  i37 := by kernel_rfl
  t47 := Tryd.underlying58
  a47 := Tryd.isAgg58
  z47 := Tryd.sizeOf58
  v47 := Tryd.zeroValue58
  i47 := by kernel_rfl
end Go.Proofs

namespace Go.Ve
noncomputable section
open Go.Proofs
set_option linter.unusedSimpArgs false
set_option linter.unusedVariables false
set_option maxRecDepth 100000
open Go.Shelf Go.Lib Go.RowKit
def digs : ByteArray := ⟨#[48, 49, 50, 51, 52, 53, 54, 55, 56, 57]⟩
def digL : List UInt8 := [48, 49, 50, 51, 52, 53, 54, 55, 56, 57]
def trimD (s : ByteArray) : ByteArray := ⟨(Lib.trimS s.data.toList digL).toArray⟩
theorem c_Trim (s : ByteArray) (hs : s.toList.length ≤ 9223372036854775807) : Contract P 21 [.str s, .str digs] [] (.str (trimD s)) [] :=
  Contract.of_calls (args_ss s _) (fun C => rfl) fun w => Any.strings_Trim_laid Go.Proofs.Tryd.lays160 (by kernel_rfl) s digs w (by rw [toList_size]; exact hs) (by decide) (ascii_of_all (by decide))
theorem c_Atoi (s : ByteArray) (n : Int) (hs : s.toList.length ≤ 18) (h : Lib.atoi s.data.toList = some n) : Contract P 22 [.str s] [] (.tup [.int .i64 n, .junk]) [] :=
  Contract.of_calls (v := .tuple #[.int .i64 n, .nilIface]) (args_s s) (fun C => ⟨[.int .i64 n, .nilIface], rfl, _, _, rfl, rfl, _, _, rfl, trivial, rfl⟩) fun w =>
    (Any.strconv_Atoi Go.Proofs.Tryd.lays172 s n (by rw [toList_size]; exact hs) h w).mono fun e w' ⟨h1, t, h2⟩ => ⟨h1, h2 ▸ ⟨rfl, rfl, rfl, by rw [Lib.bytesWorld_size]; omega, fun k hk => Lib.bytesWorld_at_old w _ t k hk⟩⟩
theorem c_Count (s : ByteArray) : Contract P 29 [.str s, .str ⟨#[32]⟩] [] (.int .i64 (Lib.countByte s.data.toList 32)) [] :=
  Contract.of_calls (args_ss s _) (fun C => rfl) fun w => (Any.strings_Count_one Go.Proofs.Tryd.lays138 s 32 w).mono fun e w' ⟨h1, h2⟩ => ⟨h1, by rw [h2]; exact Below.refl _ w⟩
theorem c_Index (s : ByteArray) : Contract P 30 [.str s, .str ⟨#[32]⟩] [] (.int .i64 (Lib.indexByte s.data.toList 32)) [] :=
  Contract.of_calls (args_ss s _) (fun C => rfl) fun w => (Any.strings_Index_one Go.Proofs.Tryd.lays143 s 32 w).mono fun e w' ⟨h1, h2⟩ => ⟨h1, by rw [h2]; exact Below.refl _ w⟩
theorem c_Index10 (s : ByteArray) : Contract P 30 [.str s, .str ⟨#[10]⟩] [] (.int .i64 (Lib.indexByte s.data.toList 10)) [] :=
  Contract.of_calls (args_ss s _) (fun C => rfl) fun w => (Any.strings_Index_one Go.Proofs.Tryd.lays143 s 10 w).mono fun e w' ⟨h1, h2⟩ => ⟨h1, by rw [h2]; exact Below.refl _ w⟩
theorem c_slClone (s : ByteArray) (hs : s.size ≤ 281474976710656) : Contract P 23 [.str s] [] (.str s) [] :=
  Contract.of_calls (args_s s) (fun C => rfl) fun w => AnyPu.stringslite_Clone Go.Proofs.Tryd.lays25 s w hs
theorem tab10 {C : Ctx} (hG : globOk C) : Lib.TabIs Go.Proofs.Tryd.prog C.w "internal/strconv.uint64pow10" .u64 Lib.pow10Tab := by
  obtain ⟨_, _, cs, hr, _, ty, fz, hh⟩ := hG 6 _ rfl
  have hcs : cs = pow10L.map fun z => Value.int .u64 z := by
    have : ∀ (l : List Int) (cs : List Value), RelL C (l.map fun n => AV.int .u64 n) cs → cs = l.map fun z => Value.int .u64 z := fun l => by
      induction l with
      | nil => intro cs h; simpa [RelL] using h
      | cons x l ih =>
        rintro cs ⟨c, cs', rfl, h1, h2⟩
        rw [ih _ h2, h1]; rfl
    exact this _ _ hr
  unfold Lib.TabIs World.var?
  rw [show Go.Proofs.Tryd.prog.globalNamed "internal/strconv.uint64pow10" = some 6 by kernel_rfl]
  simp only [Option.bind_some, hh, hcs]
  rfl
theorem c_Itoa (n : Int) (h0 : -9223372036854775808 ≤ n) (h1 : n ≤ 9223372036854775807) : Contract P 27 [.int .i64 n] [] (.str ⟨(Lib.itoa n).toArray⟩) [] :=
  Contract.of_callsG (args_i .i64 n) (fun C => rfl) fun C hG => (Any.strconv_Itoa Go.Proofs.Tryd.lays171 n h0 h1 C.w (tab10 hG)).mono fun e w' ⟨h1, k, os, h2⟩ => ⟨h1, by rw [h2]; exact below_grow _ _ (Nat.le_refl _) k os⟩
end
end Go.Ve

namespace Go.Ve
noncomputable section
open Go.Proofs
set_option linter.unusedSimpArgs false
set_option linter.unusedVariables false
set_option maxRecDepth 100000
theorem tl_data (s : ByteArray) : s.toList = s.data.toList := ByteArray.toList_eq s
theorem ext_data (s : ByteArray) (a b : Nat) : (s.extract a b).data.toList = (s.data.toList.take b).drop a := by
  rw [ByteArray.data_extract, Array.toList_extract, List.extract_eq_take_drop, List.drop_take, List.take_drop]
  try congr 1
theorem ext_toList (s : ByteArray) (a b : Nat) : (s.extract a b).toList = (s.toList.take b).drop a := by rw [tl_data, tl_data, ext_data]
theorem ba_ext {a b : ByteArray} (h : a.toList = b.toList) : a = b := by
  rw [tl_data, tl_data] at h
  exact ByteArray.ext (Array.toList_inj.1 h)
def cutF (s : ByteArray) (c : UInt8) : Nat → Nat
  | 0 => 0
  | i + 1 => if s.toList.getD i 0 = c then i + 1 else cutF s c i
def cutP (s : ByteArray) (c : UInt8) : Nat → List ByteArray
  | 0 => []
  | i + 1 => if s.toList.getD i 0 = c then cutP s c i ++ [s.extract (cutF s c i) i] else cutP s c i
def cuts (s : ByteArray) (c : UInt8) : List ByteArray := cutP s c s.toList.length ++ [s.extract (cutF s c s.toList.length) s.toList.length]
theorem cutF_le (s : ByteArray) (c : UInt8) : ∀ i, cutF s c i ≤ i
  | 0 => Nat.le_refl _
  | i + 1 => by
    have := cutF_le s c i
    simp only [cutF]; split <;> omega
theorem cutP_len {s : ByteArray} {c : UInt8} : ∀ {i}, i ≤ s.toList.length → (cutP s c i).length = (s.toList.take i).count c
  | 0, _ => by simp [cutP]
  | i + 1, h => by
    have ih := cutP_len (s := s) (c := c) (i := i) (by omega)
    have hi : i < s.toList.length := by omega
    rw [List.take_succ_eq_append_getElem hi, List.count_append, ← ih]
    have e : s.toList.getD i 0 = s.toList[i] := by simp [hi]
    simp only [cutP, e]
    by_cases h : s.toList[i] = c
    · rw [if_pos h, List.length_append, h]; simp
    · rw [if_neg h]; simp [h]
theorem cut_jump {s : ByteArray} {c : UInt8} {f : Nat} : ∀ {m}, (∀ j, f ≤ j → j < f + m → s.toList.getD j 0 ≠ c) → cutF s c (f + m) = cutF s c f ∧ cutP s c (f + m) = cutP s c f
  | 0, _ => ⟨rfl, rfl⟩
  | m + 1, h => by
    have ih := cut_jump (s := s) (c := c) (f := f) (m := m) fun j h1 h2 => h j h1 (by omega)
    have hn := h (f + m) (by omega) (by omega)
    show (if s.toList.getD (f + m) 0 = c then _ else _) = _ ∧ (if s.toList.getD (f + m) 0 = c then _ else _) = _
    rw [if_neg hn, if_neg hn]; exact ih
theorem index_spec (c : UInt8) : ∀ l : List UInt8, (Lib.indexByte l c = -1 ∧ l.count c = 0) ∨ ∃ k : Nat, Lib.indexByte l c = k ∧ k < l.length ∧ l.getD k 0 = c ∧ ∀ j, j < k → l.getD j 0 ≠ c
  | [] => .inl ⟨rfl, rfl⟩
  | b :: l => by
    by_cases hb : b = c
    · subst hb
      exact .inr ⟨0, by simp [Lib.indexByte], by simp, rfl, fun j h => absurd h (Nat.not_lt_zero _)⟩
    · rcases index_spec c l with ⟨h1, h2⟩ | ⟨k, h1, h2, h3, h4⟩
      · exact .inl ⟨by simp [Lib.indexByte, hb, h1], by rw [List.count_cons_of_ne (by simpa using hb)]; exact h2⟩
      · refine .inr ⟨k + 1, ?_, by simp; omega, h3, fun j hj => ?_⟩
        · have : Lib.indexByte l c ≠ -1 := by omega
          simp only [Lib.indexByte, beq_iff_eq, hb, if_false, this]; omega
        · cases j with
          | zero => exact hb
          | succ j => exact h4 j (by omega)
theorem setS {l : List ByteArray} {i : Nat} {v : ByteArray} : (l.map srow).set i (setSeg ((l.map srow).getD i []) 0 [.str v]) = (l.set i v).map srow :=
  set_rows (α := ByteArray) (f := srow) (fun _ => v) fun x => by simp [srow, setSeg]
theorem repl_row {n : Nat} : List.replicate n [AV.str ⟨#[]⟩] = (List.replicate n (⟨#[]⟩ : ByteArray)).map srow := by simp [srow]
theorem getD_drop' {l : List UInt8} {f j : Nat} : (l.drop f).getD j 0 = l.getD (f + j) 0 := by simp
theorem ext_ext {s : ByteArray} {f a b : Nat} (h : f ≤ s.toList.length) (hb : b ≤ s.toList.length - f) : (s.extract f s.toList.length).extract a b = s.extract (f + a) (f + b) := by
  apply ba_ext
  simp only [ext_toList, List.take_length, List.take_drop, List.drop_drop]
/-- All pieces are there. -/
theorem cuts_of {s : ByteArray} {c : UInt8} {f : Nat} (hf : f ≤ s.toList.length) (h1 : cutF s c f = f) (h2 : (s.toList.drop f).count c = 0) : cuts s c = cutP s c f ++ [s.extract f s.toList.length] := by
  have h := cut_jump (s := s) (c := c) (f := f) (m := s.toList.length - f) fun j h3 h4 h5 => by
    have hj : j < s.toList.length := by omega
    have := List.count_eq_zero.1 h2
    apply this
    rw [← h5]
    have : s.toList.getD j 0 = (s.toList.drop f)[j - f]'(by rw [List.length_drop]; omega) := by simp [show f + (j - f) = j by omega, hj]
    rw [this]; exact List.getElem_mem _
  rw [show f + (s.toList.length - f) = s.toList.length by omega] at h
  rw [cuts, h.1, h.2, h1]
theorem cuts_len {s : ByteArray} {c : UInt8} : (cuts s c).length = s.toList.count c + 1 := by
  rw [cuts, List.length_append, cutP_len (Nat.le_refl _), List.take_length]; rfl
set_option maxHeartbeats 1000000 in
theorem c_l12Cut (s : ByteArray) (c : UInt8) (hs : s.toList.length ≤ 1048576) : Contract P 7 [.str s, .int .u8 c.toNat] [] (.sl 0 1 ((cuts s c).map srow)) [] := by
  have tkl : True := trivial
  refine fn_sound (Env.nil P) hm k_spec_l12Cut (Nat.le_of_ble_eq_true rfl) rfl ?_; unfold s_spec_l12Cut; simp (config := { maxSteps := 2000000 }) only [bitvec_to_nat, reduceIte, Nat.reduceEqDiff, Nat.reduceAdd, Nat.reduceLeDiff, reduceCtorEq, Nat.reduceBEq, Nat.reduceLT, Nat.reduceMod, List.forall_mem_cons, tk_map, dp_map, toNat_pred, appE, rowsOf, List.take_length, List.length_cons, List.length_nil, Nat.zero_add, srow, irow, un_s, un_i, Zone.row, Zone_eta, un_Zone, Word.row, Word_eta, Own.row, Own_eta, Part.row, Part_eta, Seen.row, Seen_eta, Book.row, Book_eta, Sector.row, Sector_eta, HCraft.row, HCraft_eta, World.row, World_eta, PKind.row, PKind_eta, PPt.row, PPt_eta, Cell.row, Cell_eta, un_Word, un_Own, un_Part, un_Seen, un_Book, un_Sector, un_HCraft, un_World, un_PKind, un_PPt, un_Cell, List.nil_append, Int.toNat_natCast, List.length_map, tkl]
  refine loop_st (fun i : Nat => [(5, .own 108 (cutP s c i).length 0 (cutP s c i).length), (6, .int .i64 (cutF s c i)), (7, .int .i64 i)]) (fun i => [(108, .arr 9 (cutP s c i).length 1 ((cutP s c i).map srow))]) (fun i => i ≤ s.toList.length) (fun i => s.toList.length - i) 0 (by simp only [u_E0, u_E1, u_M0, u_M1, w_setE0, w_setE1, w_setM0, w_setM1, reduceIte, Nat.reduceEqDiff]; exact ⟨by repeat' (first | exact trivial | refine ⟨.inr rfl, ?_⟩), by repeat' (first | exact trivial | refine ⟨rfl, ?_⟩), by first | rfl | simp [closedB, refsIn, refsInL, refsInO, dom, refsInL_nr, *], by first | rfl | simp [keepB, dom]⟩) (Nat.zero_le _) ?_
  intro i hi NX hN
  have hl := cutP_len (c := c) hi
  have hc : (s.toList.take i).count c ≤ i := by have := List.count_le_length (a := c) (l := s.toList.take i); rw [List.length_take] at this; omega
  have hF := cutF_le s c i
  have tkl : List.take (cutP s c i).length ((cutP s c i).map srow) = (cutP s c i).map srow := List.take_of_length_le (by simp)
  by_cases h : i < s.toList.length
  · unfold l_spec_l12Cut_0; simp (config := { maxSteps := 2000000 }) only [bitvec_to_nat, reduceIte, Nat.reduceEqDiff, Nat.reduceAdd, Nat.reduceLeDiff, reduceCtorEq, Nat.reduceBEq, Nat.reduceLT, Nat.reduceMod, List.forall_mem_cons, tk_map, dp_map, toNat_pred, appE, rowsOf, List.take_length, List.length_cons, List.length_nil, Nat.zero_add, srow, irow, un_s, un_i, Zone.row, Zone_eta, un_Zone, Word.row, Word_eta, Own.row, Own_eta, Part.row, Part_eta, Seen.row, Seen_eta, Book.row, Book_eta, Sector.row, Sector_eta, HCraft.row, HCraft_eta, World.row, World_eta, PKind.row, PKind_eta, PPt.row, PPt_eta, Cell.row, Cell_eta, un_Word, un_Own, un_Part, un_Seen, un_Book, un_Sector, un_HCraft, un_World, un_PKind, un_PPt, un_Cell, List.nil_append, Int.toNat_natCast, List.length_map, tkl]
    have hu : ((s.toList.getD i 0).toNat : Int) = (c.toNat : Int) ↔ s.toList.getD i 0 = c := by
      constructor
      · intro h; apply UInt8.toNat_inj.1; omega
      · intro h; rw [h]
    have hP : s.toList.getD i 0 = c → cutP s c (i + 1) = cutP s c i ++ [s.extract (cutF s c i) i] := fun h => if_pos h
    have hP' : s.toList.getD i 0 ≠ c → cutP s c (i + 1) = cutP s c i := fun h => if_neg h
    have hG : s.toList.getD i 0 = c → cutF s c (i + 1) = i + 1 := fun h => if_pos h
    have hG' : s.toList.getD i 0 ≠ c → cutF s c (i + 1) = cutF s c i := fun h => if_neg h
    repeat' (first | with_reducible apply And.intro | with_reducible intro _)
    all_goals first
      | omega
      | (have hq := hu.1 (by assumption)
         refine hN (i + 1) _ (by simp only [hP hq, hG hq, List.length_append, List.length_cons, List.length_nil, Nat.zero_add, List.map_append, List.map_cons, List.map_nil, srow]; simp only [u_E0, u_E1, u_M0, u_M1, w_setE0, w_setE1, w_setM0, w_setM1, reduceIte, Nat.reduceEqDiff]; exact ⟨by repeat' (first | exact trivial | refine ⟨.inr rfl, ?_⟩), by repeat' (first | exact trivial | refine ⟨rfl, ?_⟩), by first | rfl | simp [closedB, refsIn, refsInL, refsInO, dom, refsInL_nr, *], by first | rfl | simp [keepB, dom]⟩) h (by omega))
      | (have hq := fun k => (by assumption : ¬ _) (hu.2 k)
         refine hN (i + 1) _ (by simp only [hP' hq, hG' hq]; simp only [u_E0, u_E1, u_M0, u_M1, w_setE0, w_setE1, w_setM0, w_setM1, reduceIte, Nat.reduceEqDiff]; exact ⟨by repeat' (first | exact trivial | refine ⟨.inr rfl, ?_⟩), by repeat' (first | exact trivial | refine ⟨rfl, ?_⟩), by first | rfl | simp [closedB, refsIn, refsInL, refsInO, dom, refsInL_nr, *], by first | rfl | simp [keepB, dom]⟩) h (by omega))
      | trace_state
  · have e : i = s.toList.length := by omega
    subst e
    unfold l_spec_l12Cut_0; simp (config := { maxSteps := 2000000 }) only [bitvec_to_nat, reduceIte, Nat.reduceEqDiff, Nat.reduceAdd, Nat.reduceLeDiff, reduceCtorEq, Nat.reduceBEq, Nat.reduceLT, Nat.reduceMod, List.forall_mem_cons, tk_map, dp_map, toNat_pred, appE, rowsOf, List.take_length, List.length_cons, List.length_nil, Nat.zero_add, srow, irow, un_s, un_i, Zone.row, Zone_eta, un_Zone, Word.row, Word_eta, Own.row, Own_eta, Part.row, Part_eta, Seen.row, Seen_eta, Book.row, Book_eta, Sector.row, Sector_eta, HCraft.row, HCraft_eta, World.row, World_eta, PKind.row, PKind_eta, PPt.row, PPt_eta, Cell.row, Cell_eta, un_Word, un_Own, un_Part, un_Seen, un_Book, un_Sector, un_HCraft, un_World, un_PKind, un_PPt, un_Cell, List.nil_append, Int.toNat_natCast, List.length_map, tkl]
    repeat' (first | with_reducible apply And.intro | with_reducible intro _)
    all_goals first
      | omega
      | (rw [List.take_of_length_le (by simp)]; simp [cuts, srow]; done)
      | trace_state
def t_l12Cut : List AV → Option (Prop × AV)
  | [.str s, .int .u8 32] => some (s.toList.length ≤ 1048576, .sl 0 1 ((cuts s 32).map srow))
  | _ => none
theorem h_l12Cut : ∀ args p v, t_l12Cut args = some (p, v) → p → Contract P 7 args [] v [] ∧ noref v = true ∧ No99 v := by
  intro args p v h1 h2
  unfold t_l12Cut at h1
  split at h1
  · rename_i s
    cases h1
    exact ⟨c_l12Cut s 32 h2, rfl, by simp only [No99]; exact ⟨by omega, no99_str _⟩⟩
  · cases h1
def t_Count : List AV → Option (Prop × AV)
  | [.str s, .str c] => some (c = ⟨#[32]⟩, .int .i64 (Lib.countByte s.data.toList 32))
  | _ => none
theorem h_Count : ∀ args p v, t_Count args = some (p, v) → p → Contract P 29 args [] v [] ∧ noref v = true ∧ No99 v := by
  intro args p v h1 h2
  unfold t_Count at h1
  split at h1
  · rename_i s c
    cases h1
    subst h2
    exact ⟨c_Count s, rfl, trivial⟩
  · cases h1
def t_Index : List AV → Option (Prop × AV)
  | [.str s, .str c] => some (c = ⟨#[32]⟩, .int .i64 (Lib.indexByte s.data.toList 32))
  | _ => none
theorem h_Index : ∀ args p v, t_Index args = some (p, v) → p → Contract P 30 args [] v [] ∧ noref v = true ∧ No99 v := by
  intro args p v h1 h2
  unfold t_Index at h1
  split at h1
  · rename_i s c
    cases h1
    subst h2
    exact ⟨c_Index s, rfl, trivial⟩
  · cases h1
theorem sp_ne : ¬ (⟨#[32]⟩ : ByteArray) = ⟨#[]⟩ := by intro h; have := congrArg (fun b : ByteArray => b.data.size) h; simp at this
theorem sp_len : (⟨#[32]⟩ : ByteArray).toList.length = 1 := by rw [← toList_size]; rfl
theorem cutP_le {s : ByteArray} {c : UInt8} {i : Nat} : ∀ m, ∃ t, cutP s c (i + m) = cutP s c i ++ t
  | 0 => ⟨[], by simp⟩
  | m + 1 => by
    obtain ⟨t, h⟩ := cutP_le (s := s) (c := c) (i := i) m
    show ∃ t, (if s.toList.getD (i + m) 0 = c then cutP s c (i + m) ++ [s.extract (cutF s c (i + m)) (i + m)] else cutP s c (i + m)) = _
    split
    · exact ⟨t ++ [s.extract (cutF s c (i + m)) (i + m)], by rw [h, List.append_assoc]⟩
    · exact ⟨t, h⟩
theorem cutF_sum {s : ByteArray} {c : UInt8} : ∀ {i}, i ≤ s.toList.length → cutF s c i = ((cutP s c i).map fun x => x.toList.length).sum + (cutP s c i).length
  | 0, _ => rfl
  | i + 1, h => by
    have ih := cutF_sum (s := s) (c := c) (i := i) (by omega)
    have hle := cutF_le s c i
    simp only [cutF, cutP]
    split
    · rw [List.map_append, List.sum_append, List.length_append]
      simp only [List.map_cons, List.map_nil, List.sum_cons, List.sum_nil, List.length_cons, List.length_nil]
      rw [ext_toList, List.length_drop, List.length_take]
      omega
    · exact ih
def p5 (s : ByteArray) : Nat := (((cuts s 32).take 4).map fun x => x.toList.length).sum + 4
def split5 (s : ByteArray) : List ByteArray := if (cuts s 32).length < 5 then cuts s 32 else (cuts s 32).take 4 ++ [s.extract (p5 s) s.toList.length]
theorem split5_lt {s : ByteArray} {f : Nat} (hf : f ≤ s.toList.length) (h1 : cutF s 32 f = f) (h2 : (s.toList.drop f).count 32 = 0) (h3 : (cutP s 32 f).length ≤ 4) : cutP s 32 f ++ [s.extract f s.toList.length] = split5 s := by
  have hc := cuts_of hf h1 h2
  have hl : (cuts s 32).length = (cutP s 32 f).length + 1 := by rw [hc, List.length_append]; rfl
  rw [split5]
  split
  · exact hc.symm
  · have h4 : (cutP s 32 f).length = 4 := by omega
    have ht : (cuts s 32).take 4 = cutP s 32 f := by rw [hc, ← h4, List.take_left]
    rw [p5, ht]
    have := cutF_sum (c := 32) hf
    rw [h1, h4] at this
    rw [← this]
theorem split5_4 {s : ByteArray} {f : Nat} (hf : f ≤ s.toList.length) (h1 : cutF s 32 f = f) (h4 : (cutP s 32 f).length = 4) : cutP s 32 f ++ [s.extract f s.toList.length] = split5 s := by
  obtain ⟨t, ht⟩ := cutP_le (s := s) (c := 32) (i := f) (s.toList.length - f)
  rw [show f + (s.toList.length - f) = s.toList.length by omega] at ht
  have hc : cuts s 32 = cutP s 32 f ++ (t ++ [s.extract (cutF s 32 s.toList.length) s.toList.length]) := by rw [cuts, ht, List.append_assoc]
  have hl : ¬ (cuts s 32).length < 5 := by rw [hc, List.length_append, List.length_append]; simp; omega
  have htk : (cuts s 32).take 4 = cutP s 32 f := by rw [hc, ← h4, List.take_left]
  rw [split5, if_neg hl, p5, htk]
  have := cutF_sum (c := 32) hf
  rw [h1, h4] at this
  rw [← this]
def gs5 (s : ByteArray) (n : Nat) (b : Nat × List ByteArray) : Prop := b.1 ≤ s.toList.length ∧ cutF s 32 b.1 = b.1 ∧ b.2.length = n ∧ (cutP s 32 b.1).length + 1 ≤ n ∧ ∀ j, j < (cutP s 32 b.1).length → b.2.getD j default = (cutP s 32 b.1).getD j default
end
end Go.Ve

namespace Go.Ve
noncomputable section
open Go.Proofs
set_option linter.unusedSimpArgs false
set_option linter.unusedVariables false
set_option maxRecDepth 100000
theorem fin5 {s : ByteArray} {f N : Nat} {l : List ByteArray} (h : gs5 s N (f, l)) : (l.set (cutP s 32 f).length (s.extract f s.toList.length)).take ((cutP s 32 f).length + 1) = cutP s 32 f ++ [s.extract f s.toList.length] := by
  obtain ⟨h1, h2, h3, h4, h5⟩ := h
  simp only at h1 h2 h3 h4 h5
  refine ext_of (by simp; omega) fun j hj => ?_
  have hj' : j < (cutP s 32 f).length + 1 := by simp at hj; omega
  rw [getD_take hj']
  by_cases e : j = (cutP s 32 f).length
  · subst e; rw [getD_seti' (by omega)]; simp
  · rw [getD_setn' (Ne.symm e), h5 j (by omega)]
    simp only [List.getD_eq_getElem?_getD]
    rw [List.getElem?_append_left (by omega)]
set_option maxHeartbeats 2000000 in
theorem c_genSplit5 (s : ByteArray) (hs : s.toList.length ≤ 1048576) : Contract P 20 [.str s, .str ⟨#[32]⟩, .int .i64 0, .int .i64 5] [] (.sl 0 1 ((split5 s).map srow)) [] := by
  obtain ⟨N, hmn, n1, n2, n3, n4⟩ : ∃ N : Nat, (if ((s.toList.length : Nat) : Int) + 1 < 5 then ((s.toList.length : Nat) : Int) + 1 else 5) = (N : Int) ∧ 1 ≤ N ∧ N ≤ 5 ∧ N ≤ s.toList.length + 1 ∧ (N = 5 ∨ N = s.toList.length + 1) := by
    by_cases h : s.toList.length + 1 < 5
    · exact ⟨s.toList.length + 1, by rw [if_pos (by omega)]; omega, by omega, by omega, by omega, .inr rfl⟩
    · exact ⟨5, by rw [if_neg (by omega)]; rfl, by omega, by omega, by omega, .inl rfl⟩
  have hcn : True := trivial
  have hne := eq_false sp_ne
  have hsl := sp_len
  have hm1 : ((5 : Int) < 0) = False := eq_false (by decide)
  have hct : ((N : Nat) : Int).toNat = N := by omega
  have hc1 : ((N : Nat) : Int) - 1 = ((N - 1 : Nat) : Int) := by omega
  have hix : True := trivial
  have hee : True := trivial
  have hkk : True := trivial
  have gst : True := trivial
  have tkl : True := trivial
  refine fn_sound (((Env.nil P).add 29 t_Count h_Count).add 30 t_Index h_Index) hm k_strings_genSplit (Nat.le_of_ble_eq_true rfl) rfl ?_; unfold s_strings_genSplit; simp (config := { maxSteps := 2000000 }) only [bitvec_to_nat, reduceIte, Nat.reduceEqDiff, Nat.reduceAdd, Nat.reduceLeDiff, reduceCtorEq, Nat.reduceBEq, Nat.reduceLT, Nat.reduceMod, List.forall_mem_cons, t_Count, t_Index, tk_map, dp_map, toNat_pred, appE, rowsOf, List.take_length, List.length_cons, List.length_nil, Nat.zero_add, srow, irow, un_s, un_i, Zone.row, Zone_eta, un_Zone, Word.row, Word_eta, Own.row, Own_eta, Part.row, Part_eta, Seen.row, Seen_eta, Book.row, Book_eta, Sector.row, Sector_eta, HCraft.row, HCraft_eta, World.row, World_eta, PKind.row, PKind_eta, PPt.row, PPt_eta, Cell.row, Cell_eta, un_Word, un_Own, un_Part, un_Seen, un_Book, un_Sector, un_HCraft, un_World, un_PKind, un_PPt, un_Cell, List.nil_append, Int.toNat_natCast, List.length_map, tkl, repl_row, setS, hcn, hmn, hne, hix, hee, hsl, hm1, hct, hc1, hkk, List.length_set, List.length_replicate, gst, not_true_eq_false, not_false_eq_true, Nat.sub_zero, Int.add_zero]
  refine ⟨fun h => absurd h (by decide), fun _ => ⟨⟨by omega, by omega⟩, ⟨by omega, by omega⟩, ⟨by omega, by omega⟩, ?_⟩⟩
  refine loop_st (fun b : Nat × List ByteArray => [(0, .str (s.extract b.1 s.toList.length)), (10, .int .i64 (cutP s 32 b.1).length)]) (fun b => [(131, .arr 9 0 1 (b.2.map srow))]) (gs5 s N) (fun b => N - (cutP s 32 b.1).length) (0, List.replicate N ⟨#[]⟩) (by
    have e0 : s.extract 0 s.toList.length = s := ba_ext (by rw [ext_toList, List.take_length, List.drop_zero])
    simp only [e0]; simp only [u_E0, u_E1, u_M0, u_M1, w_setE0, w_setE1, w_setM0, w_setM1, reduceIte, Nat.reduceEqDiff]; exact ⟨by repeat' (first | exact trivial | refine ⟨.inr rfl, ?_⟩), by repeat' (first | exact trivial | refine ⟨rfl, ?_⟩), by first | rfl | simp [closedB, refsIn, refsInL, refsInO, dom, refsInL_nr, *], by first | rfl | simp [keepB, dom]⟩) ⟨Nat.zero_le _, rfl, List.length_replicate, n1, fun j h => absurd h (Nat.not_lt_zero _)⟩ ?_
  rintro ⟨f, l⟩ hg NX hN
  have hfin := fin5 hg
  obtain ⟨h1, h2, h3, h4, h5⟩ := hg
  simp only at h1 h2 h3 h4 h5
  have hll : (s.extract f s.toList.length).toList.length = s.toList.length - f := by rw [ext_toList, List.take_length, List.length_drop]
  have hpl := cutP_len (c := 32) h1
  have hdt : (s.extract f s.toList.length).data.toList = s.toList.drop f := by rw [← tl_data, ext_toList, List.take_length]
  have gst : ∀ x : ByteArray, (l.set (cutP s 32 f).length x).getD (cutP s 32 f).length default = x := fun x => getD_seti' (by omega)
  have hfi : (((cutP s 32 f).length : Nat) : Int) + 1 = (((cutP s 32 f).length + 1 : Nat) : Int) := by omega
  have htk : (((cutP s 32 f).length : Nat) + 1 : Int).toNat = (cutP s 32 f).length + 1 := by omega
  by_cases h : (cutP s 32 f).length < N - 1
  · rcases index_spec 32 (s.toList.drop f) with ⟨k1, k0⟩ | ⟨k, k1, k2, k3, k4⟩
    · have hix : Lib.indexByte (s.extract f s.toList.length).data.toList 32 = -1 := by rw [hdt]; exact k1
      have hq := split5_lt h1 h2 k0 (by omega)
      unfold l_strings_genSplit_0; simp (config := { maxSteps := 2000000 }) only [bitvec_to_nat, reduceIte, Nat.reduceEqDiff, Nat.reduceAdd, Nat.reduceLeDiff, reduceCtorEq, Nat.reduceBEq, Nat.reduceLT, Nat.reduceMod, List.forall_mem_cons, t_Count, t_Index, tk_map, dp_map, toNat_pred, appE, rowsOf, List.take_length, List.length_cons, List.length_nil, Nat.zero_add, srow, irow, un_s, un_i, Zone.row, Zone_eta, un_Zone, Word.row, Word_eta, Own.row, Own_eta, Part.row, Part_eta, Seen.row, Seen_eta, Book.row, Book_eta, Sector.row, Sector_eta, HCraft.row, HCraft_eta, World.row, World_eta, PKind.row, PKind_eta, PPt.row, PPt_eta, Cell.row, Cell_eta, un_Word, un_Own, un_Part, un_Seen, un_Book, un_Sector, un_HCraft, un_World, un_PKind, un_PPt, un_Cell, List.nil_append, Int.toNat_natCast, List.length_map, tkl, repl_row, setS, hcn, hmn, hne, hix, hee, hsl, hm1, hct, hc1, hkk, List.length_set, List.length_replicate, gst, not_true_eq_false, not_false_eq_true, Nat.sub_zero, Int.add_zero]
      repeat' (first | with_reducible apply And.intro | with_reducible intro _)
      all_goals first
        | omega
        | (rw [htk, hfin, hq])
        | (exfalso; omega)
        | trace_state
    · rw [List.length_drop] at k2
      rw [getD_drop'] at k3
      have hix : Lib.indexByte (s.extract f s.toList.length).data.toList 32 = k := by rw [hdt]; exact k1
      have hkk : ((k : Nat) : Int) + 1 = ((k + 1 : Nat) : Int) := by omega
      have hj := cut_jump (s := s) (c := 32) (f := f) (m := k) fun j g1 g2 => by
        have := k4 (j - f) (by omega)
        rwa [getD_drop', show f + (j - f) = j by omega] at this
      have hf' : cutF s 32 (f + k + 1) = f + k + 1 := by show (if s.toList.getD (f + k) 0 = 32 then _ else _) = _; rw [if_pos k3]
      have hp' : cutP s 32 (f + k + 1) = cutP s 32 f ++ [s.extract f (f + k)] := by show (if s.toList.getD (f + k) 0 = 32 then _ else _) = _; rw [if_pos k3, hj.1, hj.2, h2]
      have x1 : (s.extract f s.toList.length).extract 0 k = s.extract f (f + k) := ext_ext h1 (by omega)
      have x2 : (s.extract f s.toList.length).extract (k + 1) (s.toList.length - f) = s.extract (f + k + 1) s.toList.length := by rw [ext_ext h1 (Nat.le_refl _)]; congr 1; omega
      have hl1 : (cutP s 32 (f + k + 1)).length = (cutP s 32 f).length + 1 := by rw [hp', List.length_append]; rfl
      unfold l_strings_genSplit_0; simp (config := { maxSteps := 2000000 }) only [bitvec_to_nat, reduceIte, Nat.reduceEqDiff, Nat.reduceAdd, Nat.reduceLeDiff, reduceCtorEq, Nat.reduceBEq, Nat.reduceLT, Nat.reduceMod, List.forall_mem_cons, t_Count, t_Index, tk_map, dp_map, toNat_pred, appE, rowsOf, List.take_length, List.length_cons, List.length_nil, Nat.zero_add, srow, irow, un_s, un_i, Zone.row, Zone_eta, un_Zone, Word.row, Word_eta, Own.row, Own_eta, Part.row, Part_eta, Seen.row, Seen_eta, Book.row, Book_eta, Sector.row, Sector_eta, HCraft.row, HCraft_eta, World.row, World_eta, PKind.row, PKind_eta, PPt.row, PPt_eta, Cell.row, Cell_eta, un_Word, un_Own, un_Part, un_Seen, un_Book, un_Sector, un_HCraft, un_World, un_PKind, un_PPt, un_Cell, List.nil_append, Int.toNat_natCast, List.length_map, tkl, repl_row, setS, hcn, hmn, hne, hix, hee, hsl, hm1, hct, hc1, hkk, List.length_set, List.length_replicate, gst, not_true_eq_false, not_false_eq_true, Nat.sub_zero, Int.add_zero]
      have hkt : ((k : Int) + ((1 : Nat) : Int)).toNat = k + 1 := by omega
      simp only [hll, hkt, x1, x2]
      repeat' (first | with_reducible apply And.intro | with_reducible intro _)
      all_goals first
        | omega
        | (refine hN (f + k + 1, l.set (cutP s 32 f).length (s.extract f (f + k))) _ (by simp only [hl1]; simp only [u_E0, u_E1, u_M0, u_M1, w_setE0, w_setE1, w_setM0, w_setM1, reduceIte, Nat.reduceEqDiff]; exact ⟨by repeat' (first | exact trivial | refine ⟨.inr rfl, ?_⟩), by repeat' (first | exact trivial | refine ⟨rfl, ?_⟩), by first | rfl | simp [closedB, refsIn, refsInL, refsInO, dom, refsInL_nr, *], by first | rfl | simp [keepB, dom]⟩) ⟨by simp only; omega, hf', by simp only [List.length_set]; exact h3, by simp only; omega, fun j hj => ?_⟩ (by simp only [hl1]; omega)
           simp only at hj ⊢
           rw [hp']
           by_cases e : j = (cutP s 32 f).length
           · subst e
             rw [getD_seti' (by omega)]; simp
           · rw [getD_setn' (Ne.symm e), h5 j (by omega)]
             simp only [List.getD_eq_getElem?_getD]
             rw [List.getElem?_append_left (by omega)])
        | (exfalso; omega)
        | trace_state
  · have e : (cutP s 32 f).length = N - 1 := by omega
    have hq : cutP s 32 f ++ [s.extract f s.toList.length] = split5 s := by
      rcases n4 with rfl | rfl
      · exact split5_4 h1 h2 e
      · have hsum := cutF_sum (c := 32) h1
        have : f = s.toList.length := by omega
        exact split5_lt h1 h2 (by rw [this]; simp) (by omega)
    have hkk : ¬ (((cutP s 32 f).length : Nat) : Int) < ((N - 1 : Nat) : Int) := by omega
    unfold l_strings_genSplit_0; simp (config := { maxSteps := 2000000 }) only [bitvec_to_nat, reduceIte, Nat.reduceEqDiff, Nat.reduceAdd, Nat.reduceLeDiff, reduceCtorEq, Nat.reduceBEq, Nat.reduceLT, Nat.reduceMod, List.forall_mem_cons, t_Count, t_Index, tk_map, dp_map, toNat_pred, appE, rowsOf, List.take_length, List.length_cons, List.length_nil, Nat.zero_add, srow, irow, un_s, un_i, Zone.row, Zone_eta, un_Zone, Word.row, Word_eta, Own.row, Own_eta, Part.row, Part_eta, Seen.row, Seen_eta, Book.row, Book_eta, Sector.row, Sector_eta, HCraft.row, HCraft_eta, World.row, World_eta, PKind.row, PKind_eta, PPt.row, PPt_eta, Cell.row, Cell_eta, un_Word, un_Own, un_Part, un_Seen, un_Book, un_Sector, un_HCraft, un_World, un_PKind, un_PPt, un_Cell, List.nil_append, Int.toNat_natCast, List.length_map, tkl, repl_row, setS, hcn, hmn, hne, hix, hee, hsl, hm1, hct, hc1, hkk, List.length_set, List.length_replicate, gst, not_true_eq_false, not_false_eq_true, Nat.sub_zero, Int.add_zero]
    repeat' (first | with_reducible apply And.intro | with_reducible intro _)
    all_goals first
      | omega
      | (rw [htk, hfin, hq])
      | (exfalso; omega)
      | trace_state
theorem c_SplitN (s : ByteArray) (hs : s.toList.length ≤ 1048576) : Contract P 11 [.str s, .str ⟨#[32]⟩, .int .i64 5] [] (.sl 0 1 ((split5 s).map srow)) [] := by
  refine fn_sound (Env.nil P) hm k_strings_SplitN (Nat.le_of_ble_eq_true rfl) rfl ?_; unfold s_strings_SplitN; simp (config := { maxSteps := 2000000 }) only [bitvec_to_nat, reduceIte, Nat.reduceEqDiff, Nat.reduceAdd, Nat.reduceLeDiff, reduceCtorEq, Nat.reduceBEq, Nat.reduceLT, Nat.reduceMod, List.forall_mem_cons, tk_map, dp_map, toNat_pred, appE, rowsOf, List.take_length, List.length_cons, List.length_nil, Nat.zero_add, srow, irow, un_s, un_i, Zone.row, Zone_eta, un_Zone, Word.row, Word_eta, Own.row, Own_eta, Part.row, Part_eta, Seen.row, Seen_eta, Book.row, Book_eta, Sector.row, Sector_eta, HCraft.row, HCraft_eta, World.row, World_eta, PKind.row, PKind_eta, PPt.row, PPt_eta, Cell.row, Cell_eta, un_Word, un_Own, un_Part, un_Seen, un_Book, un_Sector, un_HCraft, un_World, un_PKind, un_PPt, un_Cell]
  refine ⟨_, _, .inr (.inl ⟨rfl, _, rfl, c_genSplit5 s hs, rfl, by simp only [No99]; exact ⟨by omega, no99_str _⟩⟩), ?_⟩
  simp (config := { maxSteps := 2000000 }) only [bitvec_to_nat, reduceIte, Nat.reduceEqDiff, Nat.reduceAdd, Nat.reduceLeDiff, reduceCtorEq, Nat.reduceBEq, Nat.reduceLT, Nat.reduceMod, List.forall_mem_cons, tk_map, dp_map, toNat_pred, appE, rowsOf, List.take_length, List.length_cons, List.length_nil, Nat.zero_add, srow, irow, un_s, un_i, Zone.row, Zone_eta, un_Zone, Word.row, Word_eta, Own.row, Own_eta, Part.row, Part_eta, Seen.row, Seen_eta, Book.row, Book_eta, Sector.row, Sector_eta, HCraft.row, HCraft_eta, World.row, World_eta, PKind.row, PKind_eta, PPt.row, PPt_eta, Cell.row, Cell_eta, un_Word, un_Own, un_Part, un_Seen, un_Book, un_Sector, un_HCraft, un_World, un_PKind, un_PPt, un_Cell]
  first | trivial | trace_state
theorem c_Clone (s : ByteArray) (hs : s.size ≤ 281474976710656) : Contract P 13 [.str s] [] (.str s) [] := by
  refine fn_sound (Env.nil P) hm k_strings_Clone (Nat.le_of_ble_eq_true rfl) rfl ?_; unfold s_strings_Clone; simp (config := { maxSteps := 2000000 }) only [bitvec_to_nat, reduceIte, Nat.reduceEqDiff, Nat.reduceAdd, Nat.reduceLeDiff, reduceCtorEq, Nat.reduceBEq, Nat.reduceLT, Nat.reduceMod, List.forall_mem_cons, tk_map, dp_map, toNat_pred, appE, rowsOf, List.take_length, List.length_cons, List.length_nil, Nat.zero_add, srow, irow, un_s, un_i, Zone.row, Zone_eta, un_Zone, Word.row, Word_eta, Own.row, Own_eta, Part.row, Part_eta, Seen.row, Seen_eta, Book.row, Book_eta, Sector.row, Sector_eta, HCraft.row, HCraft_eta, World.row, World_eta, PKind.row, PKind_eta, PPt.row, PPt_eta, Cell.row, Cell_eta, un_Word, un_Own, un_Part, un_Seen, un_Book, un_Sector, un_HCraft, un_World, un_PKind, un_PPt, un_Cell]
  refine ⟨_, _, .inr (.inl ⟨rfl, _, rfl, c_slClone s hs, rfl, trivial⟩), ?_⟩
  simp (config := { maxSteps := 2000000 }) only [bitvec_to_nat, reduceIte, Nat.reduceEqDiff, Nat.reduceAdd, Nat.reduceLeDiff, reduceCtorEq, Nat.reduceBEq, Nat.reduceLT, Nat.reduceMod, List.forall_mem_cons, tk_map, dp_map, toNat_pred, appE, rowsOf, List.take_length, List.length_cons, List.length_nil, Nat.zero_add, srow, irow, un_s, un_i, Zone.row, Zone_eta, un_Zone, Word.row, Word_eta, Own.row, Own_eta, Part.row, Part_eta, Seen.row, Seen_eta, Book.row, Book_eta, Sector.row, Sector_eta, HCraft.row, HCraft_eta, World.row, World_eta, PKind.row, PKind_eta, PPt.row, PPt_eta, Cell.row, Cell_eta, un_Word, un_Own, un_Part, un_Seen, un_Book, un_Sector, un_HCraft, un_World, un_PKind, un_PPt, un_Cell]
  first | trivial | trace_state
def t_Clone : List AV → Option (Prop × AV)
  | [.str s] => some (s.size ≤ 281474976710656, .str s)
  | _ => none
theorem h_Clone : ∀ args p v, t_Clone args = some (p, v) → p → Contract P 13 args [] v [] ∧ noref v = true ∧ No99 v := by
  intro args p v h1 h2
  unfold t_Clone at h1
  split at h1
  · rename_i s
    cases h1
    exact ⟨c_Clone s h2, rfl, trivial⟩
  · cases h1
end
end Go.Ve

namespace Go.Ve
noncomputable section
open Go.Proofs
set_option linter.unusedSimpArgs false
set_option linter.unusedVariables false
set_option maxRecDepth 100000
open Go.Shelf Go.Lib Go.RowKit
theorem i64_in' {n : Int} (h : -9223372036854775808 ≤ n ∧ n ≤ 9223372036854775807) : IntKind.i64.wrap n = n := by rw [IntKind.wrap_i64]; omega
/-- The value of the first i bytes. -/
def dv (l : List UInt8) : Nat → Nat
  | 0 => 0
  | i + 1 => dv l i * 10 + ((l.getD i 0).toNat - 48)
def dig (b : UInt8) : Prop := 48 ≤ b.toNat ∧ b.toNat ≤ 57
instance (b : UInt8) : Decidable (dig b) := by unfold dig; infer_instance
def decOk (s : ByteArray) : Prop := ((1 ≤ s.toList.length ∧ s.toList.length ≤ 7) ∧ ¬ (1 < s.toList.length ∧ (s.toList.getD 0 0).toNat = 48)) ∧ ∀ i, i < s.toList.length → dig (s.toList.getD i 0)
noncomputable instance (s : ByteArray) : Decidable (decOk s) := Classical.propDecidable _
def decV (s : ByteArray) : Nat := dv s.toList s.toList.length
def number (s : ByteArray) : Int := if decOk s then decV s else -1
theorem dv_lt {l : List UInt8} : ∀ {i}, (∀ j, j < i → dig (l.getD j 0)) → dv l i < 10 ^ i
  | 0, _ => by simp [dv]
  | i + 1, h => by
    have ih := dv_lt (l := l) (i := i) fun j hj => h j (by omega)
    have := h i (by omega)
    unfold dig at this
    simp only [dv, Nat.pow_succ]; omega
theorem dv_b {l : List UInt8} {i : Nat} (h : ∀ j, j < i → dig (l.getD j 0)) (hi : i ≤ 7) : dv l i < 10000000 := by
  have := dv_lt h
  exact Nat.lt_of_lt_of_le this (by
    have := Nat.pow_le_pow_right (n := 10) (by omega) hi
    simpa using this)
theorem dv_cons {b : UInt8} {l : List UInt8} : ∀ i, dv (b :: l) (i + 1) = (b.toNat - 48) * 10 ^ i + dv l i
  | 0 => by simp [dv]
  | i + 1 => by
    have ih := dv_cons (b := b) (l := l) i
    rw [show dv (b :: l) (i + 1 + 1) = dv (b :: l) (i + 1) * 10 + ((l.getD i 0).toNat - 48) from rfl, ih]
    simp only [dv, Nat.pow_succ]
    rw [Nat.add_mul, Nat.mul_assoc]; omega
theorem decFrom_dv : ∀ (l : List UInt8) (a : Nat), (∀ j, j < l.length → dig (l.getD j 0)) → Lib.decFrom a l = some (a * 10 ^ l.length + dv l l.length)
  | [], a, _ => by simp [Lib.decFrom, dv]
  | b :: l, a, h => by
    have hb : dig b := h 0 (by simp)
    have ih := decFrom_dv l (a * 10 + (b.toNat - 48)) fun j hj => h (j + 1) (by simp; omega)
    have hd : Lib.digitVal b = some (b.toNat - 48) := by unfold Lib.digitVal; exact if_pos hb
    simp only [Lib.decFrom, hd, ih, List.length_cons, dv_cons, Nat.pow_succ]
    congr 1
    rw [Nat.add_mul, Nat.mul_assoc, Nat.mul_comm 10]; omega
theorem atoi_dv {l : List UInt8} (h0 : 1 ≤ l.length) (h : ∀ j, j < l.length → dig (l.getD j 0)) : Lib.atoi l = some ((dv l l.length : Nat) : Int) := by
  have hd := decFrom_dv l 0 h
  cases l with
  | nil => simp at h0
  | cons b l =>
    have hb : dig b := h 0 (by simp)
    unfold dig at hb
    have n1 : ¬ b = 45 := fun e => by subst e; simp at hb
    have n2 : ¬ b = 43 := fun e => by subst e; simp at hb
    simp only [Lib.atoi, beq_iff_eq, n1, n2, if_false, Lib.decNat, List.isEmpty_cons, Bool.false_eq_true, hd]
    simp
theorem dig_mem {b : UInt8} : digL.contains b = true ↔ dig b := by
  have h : ∀ k : Fin 256, digL.contains (UInt8.ofNat k.val) = true ↔ dig (UInt8.ofNat k.val) := by decide
  have := h ⟨b.toNat, b.toNat_lt⟩
  simpa using this
theorem trim_nil {l : List UInt8} : Lib.trimS l digL = [] ↔ ∀ j, j < l.length → dig (l.getD j 0) := by
  have dw : ∀ l : List UInt8, l.dropWhile (digL.contains ·) = [] ↔ ∀ x ∈ l, digL.contains x = true := fun l => by
    induction l with
    | nil => simp
    | cons a l ih =>
      simp only [List.dropWhile_cons, List.forall_mem_cons]
      by_cases h : digL.contains a = true
      · rw [if_pos h, ih]; exact ⟨fun k => ⟨h, k⟩, fun k => k.2⟩
      · rw [if_neg h]; exact ⟨fun k => absurd k (by simp), fun k => absurd k.1 h⟩
  have hdl : ∀ l : List UInt8, ∀ x ∈ l.dropWhile (digL.contains ·), x ∈ l := fun l x h => (List.dropWhile_sublist _).subset h
  have key : Lib.trimS l digL = [] ↔ ∀ x ∈ l, digL.contains x = true := by
    unfold Lib.trimS Lib.trimLeftS Lib.trimRightS
    rw [dw]
    constructor
    · intro h
      by_cases hn : l.reverse.dropWhile (digL.contains ·) = []
      · intro x hx; exact (dw _).1 hn x (by simpa using hx)
      · exfalso
        have hne := List.head_dropWhile_not (digL.contains ·) hn
        have := h _ (List.mem_reverse.2 (List.head_mem hn))
        rw [this] at hne; exact absurd hne (by decide)
    · intro h x hx
      exact h x (List.mem_reverse.1 (hdl _ x (List.mem_reverse.1 hx)))
  rw [key]
  constructor
  · intro h j hj
    exact dig_mem.1 (h _ (by simp [hj]))
  · intro h x hx
    obtain ⟨j, hj, rfl⟩ := List.mem_iff_getElem.1 hx
    have := h j hj
    simp [hj] at this
    exact dig_mem.2 this
theorem trimD_nil {s : ByteArray} : trimD s = ⟨#[]⟩ ↔ ∀ j, j < s.toList.length → dig (s.toList.getD j 0) := by
  have := trim_nil (l := s.toList)
  rw [← this, trimD, ← tl_data]
  constructor
  · intro h
    have := congrArg (fun b : ByteArray => b.data.toList) h
    simpa using this
  · intro h; rw [h]
theorem dv_succ {l : List UInt8} {i : Nat} (h : dig (l.getD i 0)) : ((dv l (i + 1) : Nat) : Int) = (dv l i : Nat) * 10 + ((l.getD i 0).toNat : Int) - 48 := by
  unfold dig at h
  simp only [dv]; omega
theorem c_l12Number (s : ByteArray) : Contract P 8 [.str s] [] (.int .i64 (number s)) [] := by
  have hw : True := trivial
  refine fn_sound ((Env.nil P).add 16 t_l11In h_l11In) hm k_spec_l12Number (Nat.le_of_ble_eq_true rfl) rfl ?_; unfold s_spec_l12Number; simp (config := { maxSteps := 2000000 }) only [bitvec_to_nat, reduceIte, Nat.reduceEqDiff, Nat.reduceAdd, Nat.reduceLeDiff, reduceCtorEq, Nat.reduceBEq, Nat.reduceLT, Nat.reduceMod, List.forall_mem_cons, t_l11In, tk_map, dp_map, toNat_pred, appE, rowsOf, List.take_length, List.length_cons, List.length_nil, Nat.zero_add, srow, irow, un_s, un_i, Zone.row, Zone_eta, un_Zone, Word.row, Word_eta, Own.row, Own_eta, Part.row, Part_eta, Seen.row, Seen_eta, Book.row, Book_eta, Sector.row, Sector_eta, HCraft.row, HCraft_eta, World.row, World_eta, PKind.row, PKind_eta, PPt.row, PPt_eta, Cell.row, Cell_eta, un_Word, un_Own, un_Part, un_Seen, un_Book, un_Sector, un_HCraft, un_World, un_PKind, un_PPt, un_Cell, Int.toNat_natCast, hw]
  have no : ¬ decOk s → number s = -1 := fun h => if_neg h
  repeat' (first | with_reducible apply And.intro | with_reducible intro _)
  all_goals first
    | omega
    | (rw [no (by intro h; have h1 := h.1; omega)]; done)
    | skip
  all_goals
    refine loop_st (fun i : Nat => [(3, .int .i64 (dv s.toList i)), (4, .int .i64 i)]) (fun _ => []) (fun i => i ≤ s.toList.length ∧ ∀ j, j < i → dig (s.toList.getD j 0)) (fun i => s.toList.length - i) 0 (by simp only [u_E0, u_E1, u_M0, u_M1, w_setE0, w_setE1, w_setM0, w_setM1, reduceIte, Nat.reduceEqDiff]; exact ⟨by repeat' (first | exact trivial | refine ⟨.inr rfl, ?_⟩), by repeat' (first | exact trivial | refine ⟨rfl, ?_⟩), by first | rfl | simp [closedB, refsIn, refsInL, refsInO, dom, refsInL_nr, *], by first | rfl | simp [keepB, dom]⟩) ⟨Nat.zero_le _, fun j h => absurd h (Nat.not_lt_zero _)⟩ ?_
    rintro i ⟨hi, h1⟩ NX hN
    have hb := dv_b h1 (by omega)
    have hlt := (s.toList.getD i 0).toNat_lt
    have hw : IntKind.i64.wrap ((s.toList.getD i 0).toNat : Int) = ((s.toList.getD i 0).toNat : Int) := i64_in' (by omega)
    by_cases h : i < s.toList.length
    · have hsu := dv_succ (l := s.toList) (i := i)
      unfold l_spec_l12Number_0; simp (config := { maxSteps := 2000000 }) only [bitvec_to_nat, reduceIte, Nat.reduceEqDiff, Nat.reduceAdd, Nat.reduceLeDiff, reduceCtorEq, Nat.reduceBEq, Nat.reduceLT, Nat.reduceMod, List.forall_mem_cons, t_l11In, tk_map, dp_map, toNat_pred, appE, rowsOf, List.take_length, List.length_cons, List.length_nil, Nat.zero_add, srow, irow, un_s, un_i, Zone.row, Zone_eta, un_Zone, Word.row, Word_eta, Own.row, Own_eta, Part.row, Part_eta, Seen.row, Seen_eta, Book.row, Book_eta, Sector.row, Sector_eta, HCraft.row, HCraft_eta, World.row, World_eta, PKind.row, PKind_eta, PPt.row, PPt_eta, Cell.row, Cell_eta, un_Word, un_Own, un_Part, un_Seen, un_Book, un_Sector, un_HCraft, un_World, un_PKind, un_PPt, un_Cell, Int.toNat_natCast, hw]
      repeat' (first | with_reducible apply And.intro | with_reducible intro _)
      all_goals first
        | omega
        | (rw [no (fun h9 => by have := h9.2 i h; unfold dig at this; omega)]; done)
        | (have hd : dig (s.toList.getD i 0) := by unfold dig; omega
           refine hN (i + 1) _ (by simp only [hsu hd]; simp only [u_E0, u_E1, u_M0, u_M1, w_setE0, w_setE1, w_setM0, w_setM1, reduceIte, Nat.reduceEqDiff]; exact ⟨by repeat' (first | exact trivial | refine ⟨.inr rfl, ?_⟩), by repeat' (first | exact trivial | refine ⟨rfl, ?_⟩), by first | rfl | simp [closedB, refsIn, refsInL, refsInO, dom, refsInL_nr, *], by first | rfl | simp [keepB, dom]⟩) ⟨h, all_snoc h1 hd⟩ (by omega))
        | trace_state
    · have e : i = s.toList.length := by omega
      subst e
      unfold l_spec_l12Number_0; simp (config := { maxSteps := 2000000 }) only [bitvec_to_nat, reduceIte, Nat.reduceEqDiff, Nat.reduceAdd, Nat.reduceLeDiff, reduceCtorEq, Nat.reduceBEq, Nat.reduceLT, Nat.reduceMod, List.forall_mem_cons, t_l11In, tk_map, dp_map, toNat_pred, appE, rowsOf, List.take_length, List.length_cons, List.length_nil, Nat.zero_add, srow, irow, un_s, un_i, Zone.row, Zone_eta, un_Zone, Word.row, Word_eta, Own.row, Own_eta, Part.row, Part_eta, Seen.row, Seen_eta, Book.row, Book_eta, Sector.row, Sector_eta, HCraft.row, HCraft_eta, World.row, World_eta, PKind.row, PKind_eta, PPt.row, PPt_eta, Cell.row, Cell_eta, un_Word, un_Own, un_Part, un_Seen, un_Book, un_Sector, un_HCraft, un_World, un_PKind, un_PPt, un_Cell, Int.toNat_natCast, hw]
      have hok : decOk s := ⟨⟨by omega, by omega⟩, h1⟩
      refine ⟨fun h' => absurd h' (by omega), fun _ => ?_⟩
      rw [number, if_pos hok]; rfl
def t_l12Number : List AV → Option (Prop × AV)
  | [.str s] => some ((True) ∧ (True), .int .i64 (number s))
  | _ => none
theorem h_l12Number : ∀ args p v, t_l12Number args = some (p, v) → p → Contract P 8 args [] v [] ∧ noref v = true ∧ No99 v := by
  intro args p v h1 h2
  unfold t_l12Number at h1
  split at h1
  · rename_i s
    cases h1
    obtain ⟨_, HP⟩ := h2
    have := c_l12Number s
    exact ⟨this, rfl, trivial⟩
  · cases h1
def t_Trim : List AV → Option (Prop × AV)
  | [.str s, .str c] => some (c = ⟨#[48, 49, 50, 51, 52, 53, 54, 55, 56, 57]⟩ ∧ s.toList.length ≤ 9223372036854775807, .str (trimD s))
  | _ => none
theorem h_Trim : ∀ args p v, t_Trim args = some (p, v) → p → Contract P 21 args [] v [] ∧ noref v = true ∧ No99 v := by
  intro args p v h1 h2
  unfold t_Trim at h1
  split at h1
  · rename_i s c
    cases h1
    obtain ⟨rfl, h3⟩ := h2
    exact ⟨c_Trim s h3, rfl, trivial⟩
  · cases h1
theorem empty_iff {s : ByteArray} : s = ⟨#[]⟩ ↔ s.toList.length = 0 := by
  constructor
  · rintro rfl; rw [← toList_size]; rfl
  · intro h
    exact ba_ext (by rw [List.eq_nil_of_length_eq_zero h]; exact (List.eq_nil_of_length_eq_zero (by rw [← toList_size]; rfl)).symm)
theorem zero_str_len : (⟨#[48]⟩ : ByteArray).toList.length = 1 := by rw [← toList_size]; rfl
theorem zero_str {s : ByteArray} (h0 : (s.toList.getD 0 0).toNat = 48) : s = ⟨#[48]⟩ ↔ s.toList.length = 1 := by
  constructor
  · rintro rfl; exact zero_str_len
  · intro h
    apply ba_ext
    match hl : s.toList, h with
    | [a], _ =>
      rw [hl] at h0
      have : a = 48 := by apply UInt8.toNat_inj.1; simpa using h0
      rw [this, tl_data]
set_option maxHeartbeats 1000000 in
theorem c_decimal (s : ByteArray) (hs : s.toList.length ≤ 1048576) : Contract P 12 [.str s, .int .i64 7] [] (.tup [.int .i64 (if decOk s then (decV s : Nat) else 0), .bool (decide (decOk s))]) [] := by
  have he := empty_iff (s := s)
  have htr := trimD_nil (s := s)
  have no : ¬ decOk s → (if decOk s then ((decV s : Nat) : Int) else 0) = 0 := fun h => if_neg h
  have n1 : s = ⟨#[]⟩ → ¬ decOk s := fun h h9 => by have h8 := h9.1; have := he.1 h; omega
  have n2 : 7 < ((s.toList.length : Nat) : Int) → ¬ decOk s := fun h h9 => by have h8 := h9.1; omega
  have n3 : ¬ trimD s = ⟨#[]⟩ → ¬ decOk s := fun h h9 => h (htr.2 h9.2)
  have n4 : ((s.toList.getD 0 0).toNat : Int) = 48 → ¬ s = ⟨#[48]⟩ → ¬ s = ⟨#[]⟩ → ¬ decOk s := fun h h7 h6 h9 => by
    have h8 := h9.1
    have e1 := zero_str (s := s) (by omega)
    have e2 : ¬ s.toList.length = 1 := fun k => h7 (e1.2 k)
    omega
  have pl : ¬ s = ⟨#[]⟩ → 0 < s.toList.length := fun h => by
    rcases Nat.eq_zero_or_pos s.toList.length with k | k
    · exact absurd (he.2 k) h
    · exact k
  have ok : ¬ s = ⟨#[]⟩ → ¬ 7 < ((s.toList.length : Nat) : Int) → trimD s = ⟨#[]⟩ → (((s.toList.getD 0 0).toNat : Int) = 48 → s = ⟨#[48]⟩) → decOk s := fun h1 h2 h3 h4 => by
    refine ⟨⟨by have := pl h1; omega, fun ⟨k1, k2⟩ => ?_⟩, htr.1 h3⟩
    have e1 := (zero_str (s := s) k2).1 (h4 (by omega))
    omega
  refine fn_sound ((Env.nil P).add 21 t_Trim h_Trim) hm k_impl_decimal (Nat.le_of_ble_eq_true rfl) rfl ?_; unfold s_impl_decimal; simp (config := { maxSteps := 2000000 }) only [bitvec_to_nat, reduceIte, Nat.reduceEqDiff, Nat.reduceAdd, Nat.reduceLeDiff, reduceCtorEq, Nat.reduceBEq, Nat.reduceLT, Nat.reduceMod, List.forall_mem_cons, t_Trim, tk_map, dp_map, toNat_pred, appE, rowsOf, List.take_length, List.length_cons, List.length_nil, Nat.zero_add, srow, irow, un_s, un_i, Zone.row, Zone_eta, un_Zone, Word.row, Word_eta, Own.row, Own_eta, Part.row, Part_eta, Seen.row, Seen_eta, Book.row, Book_eta, Sector.row, Sector_eta, HCraft.row, HCraft_eta, World.row, World_eta, PKind.row, PKind_eta, PPt.row, PPt_eta, Cell.row, Cell_eta, un_Word, un_Own, un_Part, un_Seen, un_Book, un_Sector, un_HCraft, un_World, un_PKind, un_PPt, un_Cell, Int.toNat_natCast]
  repeat' (first | with_reducible apply And.intro | with_reducible intro _)
  all_goals first
    | omega
    | (have := pl (by assumption); omega)
    | (have hn : ¬ decOk s := by first | exact n1 (by assumption) | exact n2 (by assumption) | exact n3 (by assumption) | exact n4 (by assumption) (by assumption) (by assumption)
       first
         | exact hn
         | (rw [no hn]))
    | (have hk : decOk s := ok (by assumption) (by assumption) (by assumption) (fun h => by first | assumption | exact absurd h (by assumption))
       have hA := c_Atoi s (decV s) (by have := hk.1; omega) (by rw [← tl_data]; exact atoi_dv hk.1.1.1 hk.2)
       refine ⟨_, _, .inl ⟨[], hA, by simp, by simp, rfl, rfl, rfl, rfl, rfl⟩, ?_⟩
       simp (config := { maxSteps := 2000000 }) only [bitvec_to_nat, reduceIte, Nat.reduceEqDiff, Nat.reduceAdd, Nat.reduceLeDiff, reduceCtorEq, Nat.reduceBEq, Nat.reduceLT, Nat.reduceMod, List.forall_mem_cons, t_Trim, tk_map, dp_map, toNat_pred, appE, rowsOf, List.take_length, List.length_cons, List.length_nil, Nat.zero_add, srow, irow, un_s, un_i, Zone.row, Zone_eta, un_Zone, Word.row, Word_eta, Own.row, Own_eta, Part.row, Part_eta, Seen.row, Seen_eta, Book.row, Book_eta, Sector.row, Sector_eta, HCraft.row, HCraft_eta, World.row, World_eta, PKind.row, PKind_eta, PPt.row, PPt_eta, Cell.row, Cell_eta, un_Word, un_Own, un_Part, un_Seen, un_Book, un_Sector, un_HCraft, un_World, un_PKind, un_PPt, un_Cell, Int.toNat_natCast]
       simp [hk])
    | trace_state
def t_decimal : List AV → Option (Prop × AV)
  | [.str s, .int .i64 m] => some (m = 7 ∧ s.toList.length ≤ 1048576, .tup [.int .i64 (if decOk s then (decV s : Nat) else 0), .bool (decide (decOk s))])
  | _ => none
theorem h_decimal : ∀ args p v, t_decimal args = some (p, v) → p → Contract P 12 args [] v [] ∧ noref v = true ∧ No99 v := by
  intro args p v h1 h2
  unfold t_decimal at h1
  split at h1
  · rename_i s m
    cases h1
    obtain ⟨rfl, h3⟩ := h2
    exact ⟨c_decimal s h3, rfl, by simp [No99, No99L]⟩
  · cases h1
end
end Go.Ve

namespace Go.Ve
noncomputable section
open Go.Proofs
set_option linter.unusedSimpArgs false
set_option linter.unusedVariables false
set_option maxRecDepth 100000
structure Chg where
  fl : ByteArray
  w : Int
  nr : Int
  v : ByteArray
  deriving Inhabited, DecidableEq
def Chg.row (s : Chg) : List AV := [.str s.fl, .int .i64 s.w, .int .i64 s.nr, .str s.v]
def unChg : List AV → Chg
  | [.str vfl, .int .i64 vw, .int .i64 vnr, .str vv] => (Chg.mk vfl vw vnr vv)
  | _ => default
theorem unChg_row (s : Chg) : unChg (Chg.row s) = s := by
  cases s; simp only [Chg.row, unChg]
theorem un_Chg (l : List Chg) : (l.map Chg.row).map unChg = l := by
  rw [List.map_map]; exact List.map_id'' (fun s => unChg_row s) l
theorem Chg_eta (s : Chg) : (Chg.mk s.fl s.w s.nr s.v) = s := (rfl)
open Go.Shelf Go.Lib Go.RowKit
def decS (n : Int) : ByteArray := ⟨(Lib.decDigits n.toNat).toArray⟩
theorem itoa_dec {n : Int} (h : 0 ≤ n) : (⟨(Lib.itoa n).toArray⟩ : ByteArray) = decS n := by
  unfold Lib.itoa decS; rw [if_neg (by omega)]
theorem decS_small {n : Int} (h0 : 0 ≤ n) (h : n < 10) : decS n = ⟨#[UInt8.ofNat (48 + n.toNat)]⟩ := by
  unfold decS; rw [Lib.decDigits, dif_pos (by omega)]
theorem decS_big {n : Int} (h0 : 0 ≤ n) (h : ¬ n < 10) : decS n = decS (n / 10) ++ ⟨#[UInt8.ofNat (48 + (n % 10).toNat)]⟩ := by
  unfold decS
  rw [Lib.decDigits, dif_neg (by omega)]
  apply ByteArray.ext
  rw [ByteArray.data_append]
  apply Array.toList_inj.1
  simp only [Array.toList_append]
  rw [show n.toNat / 10 = (n / 10).toNat by omega, show n.toNat % 10 = (n % 10).toNat by omega]
theorem u8_in {n : Int} (h : 0 ≤ n ∧ n ≤ 255) : IntKind.u8.wrap n = n := by
  simp only [IntKind.wrap, IntKind.bits, IntKind.signed]
  simp
  omega
theorem dec_len : ∀ u : Nat, (Lib.decDigits u).length ≤ u + 1 := fun u => by
  induction u using Nat.strongRecOn with
  | _ u ih =>
    rw [Lib.decDigits]
    split
    · simp
    · have := ih (u / 10) (by omega)
      rw [List.length_append]; simp; omega
theorem decS_len {n : Int} : (decS n).toList.length ≤ n.toNat + 1 := by
  have := dec_len n.toNat
  rw [tl_data]; simpa [decS] using this
theorem byte_str {n : Int} (h : 0 ≤ n ∧ n ≤ 9) : isByte [AV.int .u8 (48 + n)] = true ∧ bytesOf [[AV.int .u8 (48 + n)]] = ⟨#[UInt8.ofNat (48 + n.toNat)]⟩ := by
  constructor
  · simp [isByte]; omega
  · simp only [bytesOf, List.map_cons, List.map_nil, byteOf]
    rw [show (48 + n).toNat = 48 + n.toNat by omega]
theorem c_l12Dec : ∀ (k : Nat) (n : Int), 0 ≤ n → n ≤ k → n ≤ 1000000 → Contract P 19 [.int .i64 n] [] (.str (decS n)) [] := by
  intro k
  induction k with
  | zero =>
    intro n h0 hk hmx
    have hw : IntKind.u8.wrap (48 + n) = 48 + n := u8_in (by omega)
    obtain ⟨b1, b2⟩ := byte_str (n := n) (by omega)
    refine fn_sound (Env.nil P) hm k_spec_l12Dec (Nat.le_of_ble_eq_true rfl) rfl ?_; unfold s_spec_l12Dec; simp (config := { maxSteps := 2000000 }) only [bitvec_to_nat, reduceIte, Nat.reduceEqDiff, Nat.reduceAdd, Nat.reduceLeDiff, reduceCtorEq, Nat.reduceBEq, Nat.reduceLT, Nat.reduceMod, List.forall_mem_cons, tk_map, dp_map, toNat_pred, appE, rowsOf, List.take_length, List.length_cons, List.length_nil, Nat.zero_add, srow, irow, un_s, un_i, Zone.row, Zone_eta, un_Zone, Word.row, Word_eta, Own.row, Own_eta, Part.row, Part_eta, Seen.row, Seen_eta, Book.row, Book_eta, Sector.row, Sector_eta, HCraft.row, HCraft_eta, World.row, World_eta, PKind.row, PKind_eta, PPt.row, PPt_eta, Cell.row, Cell_eta, Chg.row, Chg_eta, un_Word, un_Own, un_Part, un_Seen, un_Book, un_Sector, un_HCraft, un_World, un_PKind, un_PPt, un_Cell, un_Chg, hw]
    exact ⟨fun h => ⟨by omega, b1, by rw [b2, decS_small h0 h]⟩, fun h => absurd (by omega) h⟩
  | succ k ih =>
    intro n h0 hk hmx
    by_cases h : n < 10
    · have hw : IntKind.u8.wrap (48 + n) = 48 + n := u8_in (by omega)
      obtain ⟨b1, b2⟩ := byte_str (n := n) (by omega)
      refine fn_sound (Env.nil P) hm k_spec_l12Dec (Nat.le_of_ble_eq_true rfl) rfl ?_; unfold s_spec_l12Dec; simp (config := { maxSteps := 2000000 }) only [bitvec_to_nat, reduceIte, Nat.reduceEqDiff, Nat.reduceAdd, Nat.reduceLeDiff, reduceCtorEq, Nat.reduceBEq, Nat.reduceLT, Nat.reduceMod, List.forall_mem_cons, tk_map, dp_map, toNat_pred, appE, rowsOf, List.take_length, List.length_cons, List.length_nil, Nat.zero_add, srow, irow, un_s, un_i, Zone.row, Zone_eta, un_Zone, Word.row, Word_eta, Own.row, Own_eta, Part.row, Part_eta, Seen.row, Seen_eta, Book.row, Book_eta, Sector.row, Sector_eta, HCraft.row, HCraft_eta, World.row, World_eta, PKind.row, PKind_eta, PPt.row, PPt_eta, Cell.row, Cell_eta, Chg.row, Chg_eta, un_Word, un_Own, un_Part, un_Seen, un_Book, un_Sector, un_HCraft, un_World, un_PKind, un_PPt, un_Cell, un_Chg, hw]
      exact ⟨fun h => ⟨by omega, b1, by rw [b2, decS_small h0 h]⟩, fun h' => absurd h h'⟩
    · have hr : 0 ≤ n % 10 ∧ n % 10 ≤ 9 := by omega
      have hw : IntKind.u8.wrap (48 + n % 10) = 48 + n % 10 := u8_in (by omega)
      obtain ⟨b1, b2⟩ := byte_str (n := n % 10) hr
      refine fn_sound (Env.nil P) hm k_spec_l12Dec (Nat.le_of_ble_eq_true rfl) rfl ?_; unfold s_spec_l12Dec; simp (config := { maxSteps := 2000000 }) only [bitvec_to_nat, reduceIte, Nat.reduceEqDiff, Nat.reduceAdd, Nat.reduceLeDiff, reduceCtorEq, Nat.reduceBEq, Nat.reduceLT, Nat.reduceMod, List.forall_mem_cons, tk_map, dp_map, toNat_pred, appE, rowsOf, List.take_length, List.length_cons, List.length_nil, Nat.zero_add, srow, irow, un_s, un_i, Zone.row, Zone_eta, un_Zone, Word.row, Word_eta, Own.row, Own_eta, Part.row, Part_eta, Seen.row, Seen_eta, Book.row, Book_eta, Sector.row, Sector_eta, HCraft.row, HCraft_eta, World.row, World_eta, PKind.row, PKind_eta, PPt.row, PPt_eta, Cell.row, Cell_eta, Chg.row, Chg_eta, un_Word, un_Own, un_Part, un_Seen, un_Book, un_Sector, un_HCraft, un_World, un_PKind, un_PPt, un_Cell, un_Chg, hw]
      refine ⟨fun h' => absurd h' h, fun _ => ⟨by omega, _, _, .inr (.inl ⟨rfl, _, rfl, ih (n / 10) (by omega) (by omega) (by omega), rfl, trivial⟩), ?_⟩⟩
      simp (config := { maxSteps := 2000000 }) only [bitvec_to_nat, reduceIte, Nat.reduceEqDiff, Nat.reduceAdd, Nat.reduceLeDiff, reduceCtorEq, Nat.reduceBEq, Nat.reduceLT, Nat.reduceMod, List.forall_mem_cons, tk_map, dp_map, toNat_pred, appE, rowsOf, List.take_length, List.length_cons, List.length_nil, Nat.zero_add, srow, irow, un_s, un_i, Zone.row, Zone_eta, un_Zone, Word.row, Word_eta, Own.row, Own_eta, Part.row, Part_eta, Seen.row, Seen_eta, Book.row, Book_eta, Sector.row, Sector_eta, HCraft.row, HCraft_eta, World.row, World_eta, PKind.row, PKind_eta, PPt.row, PPt_eta, Cell.row, Cell_eta, Chg.row, Chg_eta, un_Word, un_Own, un_Part, un_Seen, un_Book, un_Sector, un_HCraft, un_World, un_PKind, un_PPt, un_Cell, un_Chg, hw]
      have hl := decS_len (n := n / 10)
      have h1 : (bytesOf [[AV.int .u8 (48 + n % 10)]]).toList.length = 1 := by rw [b2, tl_data]; rfl
      exact ⟨by omega, by omega, b1, by omega, by rw [b2, ← decS_big h0 h]⟩
end
end Go.Ve

namespace Go.Ve
noncomputable section
open Go.Proofs
set_option linter.unusedSimpArgs false
set_option linter.unusedVariables false
set_option maxRecDepth 100000
open Go.Shelf Go.Lib Go.RowKit
def odd (s : ByteArray) : Prop := ¬ ∀ j, j < s.toList.length → s.toList.getD j 0 ≠ 10
noncomputable instance (s : ByteArray) : Decidable (odd s) := Classical.propDecidable _
theorem odd_iff {s : ByteArray} : 0 ≤ Lib.indexByte s.data.toList 10 ↔ odd s := by
  rw [← tl_data]
  rcases index_spec 10 s.toList with ⟨h1, h2⟩ | ⟨k, h1, h2, h3, h4⟩
  · rw [h1]
    refine ⟨fun h => absurd h (by decide), fun h => absurd (fun j hj e => ?_) h⟩
    apply List.count_eq_zero.1 h2
    rw [← e]; simp [hj]
  · rw [h1]
    exact ⟨fun _ h => h k h2 h3, fun _ => by omega⟩
theorem len_app {a b : ByteArray} : (a ++ b).toList.length = a.toList.length + b.toList.length := by
  rw [tl_data, tl_data, tl_data, ByteArray.data_append, Array.toList_append, List.length_append]
def wordsL : List ByteArray := [⟨#[]⟩, ⟨#[107, 105, 110, 100]⟩, ⟨#[116, 105, 109, 101]⟩, ⟨#[108, 101, 118, 101, 108]⟩, ⟨#[114, 111, 117, 116, 101]⟩, ⟨#[115, 116, 97, 116, 101]⟩]
def wordsS : List ByteArray := [⟨#[107, 105, 110, 100]⟩, ⟨#[116, 105, 109, 101]⟩, ⟨#[108, 101, 118, 101, 108]⟩, ⟨#[114, 111, 117, 116, 101]⟩, ⟨#[115, 116, 97, 116, 101]⟩]
theorem wordsT_L : wordsT = wordsL.map srow := rfl
theorem gv0 : gval 0 = .pp 97 [.sl 97 1 (wordsL.map srow)] := rfl
theorem words_len : wordsL.length = 6 := rfl
theorem wordsS_len : wordsS.length = 5 := rfl
theorem wordsS_get {w : Int} (h : 1 ≤ w ∧ w ≤ 5) : wordsS.getD (w - 1).toNat default = wordsL.getD w.toNat default := by
  rcases (show w = 1 ∨ w = 2 ∨ w = 3 ∨ w = 4 ∨ w = 5 by omega) with rfl | rfl | rfl | rfl | rfl <;> rfl
theorem word_len {w : Int} (h : 1 ≤ w ∧ w ≤ 5) : (wordsL.getD w.toNat default).toList.length ≤ 5 := by
  rcases (show w = 1 ∨ w = 2 ∨ w = 3 ∨ w = 4 ∨ w = 5 by omega) with rfl | rfl | rfl | rfl | rfl <;> (rw [tl_data]; decide)
theorem set_len : (⟨#[115, 101, 116, 32]⟩ : ByteArray).toList.length = 4 := by rw [tl_data]; rfl
def goodC (c : Chg) : Prop := nameOk c.fl ∧ (1 ≤ c.w ∧ c.w ≤ 5) ∧ (1 ≤ c.nr ∧ c.nr ≤ 1000000) ∧ c.v ≠ ⟨#[]⟩ ∧ ¬ odd c.v
noncomputable instance (c : Chg) : Decidable (goodC c) := Classical.propDecidable _
def form (c : Chg) : ByteArray := if goodC c then ⟨#[115, 101, 116, 32]⟩ ++ c.fl ++ ⟨#[32]⟩ ++ wordsL.getD c.w.toNat default ++ ⟨#[32]⟩ ++ decS c.nr ++ ⟨#[32]⟩ ++ c.v else ⟨#[]⟩
theorem c_l12Odd (s : ByteArray) (hs : s.toList.length ≤ 1048576) : Contract P 18 [.str s] [] (.bool (decide (odd s))) [] := by
  refine fn_sound (Env.nil P) hm k_spec_l12Odd (Nat.le_of_ble_eq_true rfl) rfl ?_; unfold s_spec_l12Odd; simp (config := { maxSteps := 2000000 }) only [bitvec_to_nat, reduceIte, Nat.reduceEqDiff, Nat.reduceAdd, Nat.reduceLeDiff, reduceCtorEq, Nat.reduceBEq, Nat.reduceLT, Nat.reduceMod, List.forall_mem_cons, tk_map, dp_map, toNat_pred, appE, rowsOf, List.take_length, List.length_cons, List.length_nil, Nat.zero_add, srow, irow, un_s, un_i, Zone.row, Zone_eta, un_Zone, Word.row, Word_eta, Own.row, Own_eta, Part.row, Part_eta, Seen.row, Seen_eta, Book.row, Book_eta, Sector.row, Sector_eta, HCraft.row, HCraft_eta, World.row, World_eta, PKind.row, PKind_eta, PPt.row, PPt_eta, Cell.row, Cell_eta, Chg.row, Chg_eta, un_Word, un_Own, un_Part, un_Seen, un_Book, un_Sector, un_HCraft, un_World, un_PKind, un_PPt, un_Cell, un_Chg]
  refine loop_st (fun i : Nat => [(3, .int .i64 i)]) (fun _ => []) (fun i => i ≤ s.toList.length ∧ ∀ j, j < i → s.toList.getD j 0 ≠ 10) (fun i => s.toList.length - i) 0 (by simp only [u_E0, u_E1, u_M0, u_M1, w_setE0, w_setE1, w_setM0, w_setM1, reduceIte, Nat.reduceEqDiff]; exact ⟨by repeat' (first | exact trivial | refine ⟨.inr rfl, ?_⟩), by repeat' (first | exact trivial | refine ⟨rfl, ?_⟩), by first | rfl | simp [closedB, refsIn, refsInL, refsInO, dom, refsInL_nr, *], by first | rfl | simp [keepB, dom]⟩) ⟨Nat.zero_le _, fun j h => absurd h (Nat.not_lt_zero _)⟩ ?_
  rintro i ⟨hi, h1⟩ NX hN
  have hu : ((s.toList.getD i 0).toNat : Int) = 10 ↔ s.toList.getD i 0 = 10 := by
    constructor
    · intro h; apply UInt8.toNat_inj.1; show _ = 10; omega
    · intro h; rw [h]; rfl
  by_cases h : i < s.toList.length
  · unfold l_spec_l12Odd_0; simp (config := { maxSteps := 2000000 }) only [bitvec_to_nat, reduceIte, Nat.reduceEqDiff, Nat.reduceAdd, Nat.reduceLeDiff, reduceCtorEq, Nat.reduceBEq, Nat.reduceLT, Nat.reduceMod, List.forall_mem_cons, tk_map, dp_map, toNat_pred, appE, rowsOf, List.take_length, List.length_cons, List.length_nil, Nat.zero_add, srow, irow, un_s, un_i, Zone.row, Zone_eta, un_Zone, Word.row, Word_eta, Own.row, Own_eta, Part.row, Part_eta, Seen.row, Seen_eta, Book.row, Book_eta, Sector.row, Sector_eta, HCraft.row, HCraft_eta, World.row, World_eta, PKind.row, PKind_eta, PPt.row, PPt_eta, Cell.row, Cell_eta, Chg.row, Chg_eta, un_Word, un_Own, un_Part, un_Seen, un_Book, un_Sector, un_HCraft, un_World, un_PKind, un_PPt, un_Cell, un_Chg]
    repeat' (first | with_reducible apply And.intro | with_reducible intro _)
    all_goals first
      | omega
      | (have ho : odd s := fun k => k i h (hu.1 (by assumption))
         simp [ho]; done)
      | (refine hN (i + 1) _ (by simp only [u_E0, u_E1, u_M0, u_M1, w_setE0, w_setE1, w_setM0, w_setM1, reduceIte, Nat.reduceEqDiff]; exact ⟨by repeat' (first | exact trivial | refine ⟨.inr rfl, ?_⟩), by repeat' (first | exact trivial | refine ⟨rfl, ?_⟩), by first | rfl | simp [closedB, refsIn, refsInL, refsInO, dom, refsInL_nr, *], by first | rfl | simp [keepB, dom]⟩) ⟨h, all_snoc h1 (fun e => (by assumption : ¬ _) (hu.2 e))⟩ (by omega))
      | trace_state
  · have e : i = s.toList.length := by omega
    subst e
    have ho : ¬ odd s := fun k => k h1
    unfold l_spec_l12Odd_0; simp (config := { maxSteps := 2000000 }) only [bitvec_to_nat, reduceIte, Nat.reduceEqDiff, Nat.reduceAdd, Nat.reduceLeDiff, reduceCtorEq, Nat.reduceBEq, Nat.reduceLT, Nat.reduceMod, List.forall_mem_cons, tk_map, dp_map, toNat_pred, appE, rowsOf, List.take_length, List.length_cons, List.length_nil, Nat.zero_add, srow, irow, un_s, un_i, Zone.row, Zone_eta, un_Zone, Word.row, Word_eta, Own.row, Own_eta, Part.row, Part_eta, Seen.row, Seen_eta, Book.row, Book_eta, Sector.row, Sector_eta, HCraft.row, HCraft_eta, World.row, World_eta, PKind.row, PKind_eta, PPt.row, PPt_eta, Cell.row, Cell_eta, Chg.row, Chg_eta, un_Word, un_Own, un_Part, un_Seen, un_Book, un_Sector, un_HCraft, un_World, un_PKind, un_PPt, un_Cell, un_Chg]
    repeat' (first | with_reducible apply And.intro | with_reducible intro _)
    all_goals first
      | omega
      | (simp [ho]; done)
      | (exfalso; omega)
      | trace_state
def t_l12Odd : List AV → Option (Prop × AV)
  | [.str s] => some (s.toList.length ≤ 1048576, .bool (decide (odd s)))
  | _ => none
theorem h_l12Odd : ∀ args p v, t_l12Odd args = some (p, v) → p → Contract P 18 args [] v [] ∧ noref v = true ∧ No99 v := by
  intro args p v h1 h2
  unfold t_l12Odd at h1
  split at h1
  · rename_i s
    cases h1
    exact ⟨c_l12Odd s h2, rfl, trivial⟩
  · cases h1
theorem c_Contains (s : ByteArray) : Contract P 26 [.str s, .str ⟨#[10]⟩] [] (.bool (decide (odd s))) [] := by
  refine fn_sound (Env.nil P) hm k_strings_Contains (Nat.le_of_ble_eq_true rfl) rfl ?_; unfold s_strings_Contains; simp (config := { maxSteps := 2000000 }) only [bitvec_to_nat, reduceIte, Nat.reduceEqDiff, Nat.reduceAdd, Nat.reduceLeDiff, reduceCtorEq, Nat.reduceBEq, Nat.reduceLT, Nat.reduceMod, List.forall_mem_cons, tk_map, dp_map, toNat_pred, appE, rowsOf, List.take_length, List.length_cons, List.length_nil, Nat.zero_add, srow, irow, un_s, un_i, Zone.row, Zone_eta, un_Zone, Word.row, Word_eta, Own.row, Own_eta, Part.row, Part_eta, Seen.row, Seen_eta, Book.row, Book_eta, Sector.row, Sector_eta, HCraft.row, HCraft_eta, World.row, World_eta, PKind.row, PKind_eta, PPt.row, PPt_eta, Cell.row, Cell_eta, Chg.row, Chg_eta, un_Word, un_Own, un_Part, un_Seen, un_Book, un_Sector, un_HCraft, un_World, un_PKind, un_PPt, un_Cell, un_Chg]
  refine ⟨_, _, .inr (.inl ⟨rfl, _, rfl, c_Index10 s, rfl, trivial⟩), ?_⟩
  simp (config := { maxSteps := 2000000 }) only [bitvec_to_nat, reduceIte, Nat.reduceEqDiff, Nat.reduceAdd, Nat.reduceLeDiff, reduceCtorEq, Nat.reduceBEq, Nat.reduceLT, Nat.reduceMod, List.forall_mem_cons, tk_map, dp_map, toNat_pred, appE, rowsOf, List.take_length, List.length_cons, List.length_nil, Nat.zero_add, srow, irow, un_s, un_i, Zone.row, Zone_eta, un_Zone, Word.row, Word_eta, Own.row, Own_eta, Part.row, Part_eta, Seen.row, Seen_eta, Book.row, Book_eta, Sector.row, Sector_eta, HCraft.row, HCraft_eta, World.row, World_eta, PKind.row, PKind_eta, PPt.row, PPt_eta, Cell.row, Cell_eta, Chg.row, Chg_eta, un_Word, un_Own, un_Part, un_Seen, un_Book, un_Sector, un_HCraft, un_World, un_PKind, un_PPt, un_Cell, un_Chg]
  have := odd_iff (s := s)
  first
    | simp only [this]
    | trace_state
def t_Contains : List AV → Option (Prop × AV)
  | [.str s, .str c] => some (c = ⟨#[10]⟩, .bool (decide (odd s)))
  | _ => none
theorem h_Contains : ∀ args p v, t_Contains args = some (p, v) → p → Contract P 26 args [] v [] ∧ noref v = true ∧ No99 v := by
  intro args p v h1 h2
  unfold t_Contains at h1
  split at h1
  · rename_i s c
    cases h1
    exact ⟨(by subst h2; exact c_Contains s), rfl, trivial⟩
  · cases h1
def t_Itoa : List AV → Option (Prop × AV)
  | [.int .i64 n] => some (0 ≤ n ∧ n ≤ 1000000, .str (decS n))
  | _ => none
theorem h_Itoa : ∀ args p v, t_Itoa args = some (p, v) → p → Contract P 27 args [] v [] ∧ noref v = true ∧ No99 v := by
  intro args p v h1 h2
  unfold t_Itoa at h1
  split at h1
  · rename_i n
    cases h1
    exact ⟨(by have := c_Itoa n (by omega) (by omega); rw [itoa_dec h2.1] at this; exact this), rfl, trivial⟩
  · cases h1
def t_l12Dec : List AV → Option (Prop × AV)
  | [.int .i64 n] => some (0 ≤ n ∧ n ≤ 1000000, .str (decS n))
  | _ => none
theorem h_l12Dec : ∀ args p v, t_l12Dec args = some (p, v) → p → Contract P 19 args [] v [] ∧ noref v = true ∧ No99 v := by
  intro args p v h1 h2
  unfold t_l12Dec at h1
  split at h1
  · rename_i n
    cases h1
    exact ⟨(c_l12Dec n.toNat n h2.1 (by omega) h2.2), rfl, trivial⟩
  · cases h1
theorem c_l12Words : Contract P 9 [] [] (.sl 0 1 (wordsS.map srow)) [] := by
  refine fn_sound (Env.nil P) hm k_spec_l12Words (Nat.le_of_ble_eq_true rfl) rfl ?_; unfold s_spec_l12Words; simp (config := { maxSteps := 2000000 }) only [bitvec_to_nat, reduceIte, Nat.reduceEqDiff, Nat.reduceAdd, Nat.reduceLeDiff, reduceCtorEq, Nat.reduceBEq, Nat.reduceLT, Nat.reduceMod, List.forall_mem_cons, tk_map, dp_map, toNat_pred, appE, rowsOf, List.take_length, List.length_cons, List.length_nil, Nat.zero_add, srow, irow, un_s, un_i, Zone.row, Zone_eta, un_Zone, Word.row, Word_eta, Own.row, Own_eta, Part.row, Part_eta, Seen.row, Seen_eta, Book.row, Book_eta, Sector.row, Sector_eta, HCraft.row, HCraft_eta, World.row, World_eta, PKind.row, PKind_eta, PPt.row, PPt_eta, Cell.row, Cell_eta, Chg.row, Chg_eta, un_Word, un_Own, un_Part, un_Seen, un_Book, un_Sector, un_HCraft, un_World, un_PKind, un_PPt, un_Cell, un_Chg]
  first | trivial | rfl | trace_state
def t_l12Words : List AV → Option (Prop × AV)
  | [] => some (True, .sl 0 1 (wordsS.map srow))
  | _ => none
theorem h_l12Words : ∀ args p v, t_l12Words args = some (p, v) → p → Contract P 9 args [] v [] ∧ noref v = true ∧ No99 v := by
  intro args p v h1 h2
  unfold t_l12Words at h1
  split at h1
  · cases h1
    exact ⟨c_l12Words, rfl, by simp only [No99]; exact ⟨by omega, no99_str _⟩⟩
  · cases h1
set_option maxHeartbeats 1000000 in
theorem c_iForm (c : Chg) (hf : c.fl.toList.length ≤ 1048576) (hv : c.v.toList.length ≤ 1048576) : Contract P 15 [.agg c.row] [] (.str (form c)) [] := by
  have no : ¬ goodC c → form c = ⟨#[]⟩ := fun h => if_neg h
  have yes : goodC c → form c = ⟨#[115, 101, 116, 32]⟩ ++ c.fl ++ ⟨#[32]⟩ ++ wordsL.getD c.w.toNat default ++ ⟨#[32]⟩ ++ decS c.nr ++ ⟨#[32]⟩ ++ c.v := fun h => if_pos h
  have hdl := decS_len (n := c.nr)
  have hwl := fun h => word_len (w := c.w) h
  have hws := fun h => wordsS_get (w := c.w) h
  have l1 := set_len
  have l2 := sp_len
  simp only [Chg.row]
  refine fn_sound (((((Env.nil P).add 24 t_isName h_isName).add 25 t_within h_within).add 26 t_Contains h_Contains).add 27 t_Itoa h_Itoa) hm k_impl_PlanForm (Nat.le_of_ble_eq_true rfl) rfl ?_; unfold s_impl_PlanForm; simp (config := { maxSteps := 2000000 }) only [bitvec_to_nat, reduceIte, Nat.reduceEqDiff, Nat.reduceAdd, Nat.reduceLeDiff, reduceCtorEq, Nat.reduceBEq, Nat.reduceLT, Nat.reduceMod, List.forall_mem_cons, t_isName, t_within, t_Contains, t_Itoa, tk_map, dp_map, toNat_pred, appE, rowsOf, List.take_length, List.length_cons, List.length_nil, Nat.zero_add, srow, irow, un_s, un_i, Zone.row, Zone_eta, un_Zone, Word.row, Word_eta, Own.row, Own_eta, Part.row, Part_eta, Seen.row, Seen_eta, Book.row, Book_eta, Sector.row, Sector_eta, HCraft.row, HCraft_eta, World.row, World_eta, PKind.row, PKind_eta, PPt.row, PPt_eta, Cell.row, Cell_eta, Chg.row, Chg_eta, un_Word, un_Own, un_Part, un_Seen, un_Book, un_Sector, un_HCraft, un_World, un_PKind, un_PPt, un_Cell, un_Chg, Chg.row, gv0, words_len, wordsS_len]
  repeat' (first | with_reducible apply And.intro | with_reducible intro _)
  all_goals first
    | omega
    | trivial
    | assumption
    | (rw [no (by intro h; obtain ⟨g1, g2, g3, g4, g5⟩ := h; first | omega | exact absurd g1 (by assumption) | exact absurd (by assumption) g4 | exact absurd (by assumption) g5)])
    | (have hb := hwl (by omega); simp only [len_app, l1, l2]; (try rw [hws (by omega)]); omega)
    | (have hg : goodC c := ⟨by assumption, by omega, by omega, by assumption, by assumption⟩
       rw [yes hg]; (try rw [hws (by omega)]))
    | trace_state
set_option maxHeartbeats 1000000 in
theorem c_sForm (c : Chg) (hf : c.fl.toList.length ≤ 1048576) (hv : c.v.toList.length ≤ 1048576) : Contract P 10 [.agg c.row] [] (.str (form c)) [] := by
  have no : ¬ goodC c → form c = ⟨#[]⟩ := fun h => if_neg h
  have yes : goodC c → form c = ⟨#[115, 101, 116, 32]⟩ ++ c.fl ++ ⟨#[32]⟩ ++ wordsL.getD c.w.toNat default ++ ⟨#[32]⟩ ++ decS c.nr ++ ⟨#[32]⟩ ++ c.v := fun h => if_pos h
  have hdl := decS_len (n := c.nr)
  have hwl := fun h => word_len (w := c.w) h
  have hws := fun h => wordsS_get (w := c.w) h
  have l1 := set_len
  have l2 := sp_len
  simp only [Chg.row]
  refine fn_sound ((((((Env.nil P).add 17 t_l11NameOk h_l11NameOk).add 16 t_l11In h_l11In).add 18 t_l12Odd h_l12Odd).add 19 t_l12Dec h_l12Dec).add 9 t_l12Words h_l12Words) hm k_spec_PlanForm (Nat.le_of_ble_eq_true rfl) rfl ?_; unfold s_spec_PlanForm; simp (config := { maxSteps := 2000000 }) only [bitvec_to_nat, reduceIte, Nat.reduceEqDiff, Nat.reduceAdd, Nat.reduceLeDiff, reduceCtorEq, Nat.reduceBEq, Nat.reduceLT, Nat.reduceMod, List.forall_mem_cons, t_l11NameOk, t_l11In, t_l12Odd, t_l12Dec, t_l12Words, tk_map, dp_map, toNat_pred, appE, rowsOf, List.take_length, List.length_cons, List.length_nil, Nat.zero_add, srow, irow, un_s, un_i, Zone.row, Zone_eta, un_Zone, Word.row, Word_eta, Own.row, Own_eta, Part.row, Part_eta, Seen.row, Seen_eta, Book.row, Book_eta, Sector.row, Sector_eta, HCraft.row, HCraft_eta, World.row, World_eta, PKind.row, PKind_eta, PPt.row, PPt_eta, Cell.row, Cell_eta, Chg.row, Chg_eta, un_Word, un_Own, un_Part, un_Seen, un_Book, un_Sector, un_HCraft, un_World, un_PKind, un_PPt, un_Cell, un_Chg, Chg.row, gv0, words_len, wordsS_len]
  repeat' (first | with_reducible apply And.intro | with_reducible intro _)
  all_goals first
    | omega
    | trivial
    | assumption
    | (rw [no (by intro h; obtain ⟨g1, g2, g3, g4, g5⟩ := h; first | omega | exact absurd g1 (by assumption) | exact absurd (by assumption) g4 | exact absurd (by assumption) g5)])
    | (have hb := hwl (by omega); simp only [len_app, l1, l2]; (try rw [hws (by omega)]); omega)
    | (have hg : goodC c := ⟨by assumption, by omega, by omega, by assumption, by assumption⟩
       rw [yes hg]; (try rw [hws (by omega)]))
    | trace_state
end
end Go.Ve

namespace Go.Ve
noncomputable section
open Go.Proofs
set_option linter.unusedSimpArgs false
set_option linter.unusedVariables false
set_option maxRecDepth 100000
open Go.Shelf Go.Lib Go.RowKit
def t_iForm : List AV → Option (Prop × AV)
  | [.agg [.str c_fl, .int .i64 c_w, .int .i64 c_nr, .str c_v]] => some ((True) ∧ ((Chg.fl (Chg.mk c_fl c_w c_nr c_v)).toList.length ≤ 1048576 ∧ (Chg.v (Chg.mk c_fl c_w c_nr c_v)).toList.length ≤ 1048576), .str (form (Chg.mk c_fl c_w c_nr c_v)))
  | _ => none
theorem h_iForm : ∀ args p v, t_iForm args = some (p, v) → p → Contract P 15 args [] v [] ∧ noref v = true ∧ No99 v := by
  intro args p v h1 h2
  unfold t_iForm at h1
  split at h1
  · rename_i c_fl c_w c_nr c_v
    cases h1
    obtain ⟨_, HP⟩ := h2
    have := c_iForm (Chg.mk c_fl c_w c_nr c_v) HP.1 HP.2
    exact ⟨by simpa only [Chg.row] using this, rfl, trivial⟩
  · cases h1
def t_sForm : List AV → Option (Prop × AV)
  | [.agg [.str c_fl, .int .i64 c_w, .int .i64 c_nr, .str c_v]] => some ((True) ∧ ((Chg.fl (Chg.mk c_fl c_w c_nr c_v)).toList.length ≤ 1048576 ∧ (Chg.v (Chg.mk c_fl c_w c_nr c_v)).toList.length ≤ 1048576), .str (form (Chg.mk c_fl c_w c_nr c_v)))
  | _ => none
theorem h_sForm : ∀ args p v, t_sForm args = some (p, v) → p → Contract P 10 args [] v [] ∧ noref v = true ∧ No99 v := by
  intro args p v h1 h2
  unfold t_sForm at h1
  split at h1
  · rename_i c_fl c_w c_nr c_v
    cases h1
    obtain ⟨_, HP⟩ := h2
    have := c_sForm (Chg.mk c_fl c_w c_nr c_v) HP.1 HP.2
    exact ⟨by simpa only [Chg.row] using this, rfl, trivial⟩
  · cases h1
def sIdx (l : List ByteArray) (x : ByteArray) : Int := fIdx (fun y => decide (x = y)) l
theorem sIdx_i {l : List ByteArray} {x : ByteArray} {i : Nat} (hi : i < l.length) (h : x = l.getD i default) (h2 : ∀ j, j < i → ¬ x = l.getD j default) : sIdx l x = i := by
  unfold sIdx; rw [fIdx_at hi (by simpa using h) fun j hj => by simpa using h2 j hj]
theorem sIdx_no {l : List ByteArray} {x : ByteArray} (h2 : ∀ j, j < l.length → ¬ x = l.getD j default) : sIdx l x = -1 := by
  unfold sIdx
  rcases fIdx_spec (fun y : ByteArray => decide (x = y)) l with ⟨h1, _⟩ | ⟨i, h1, h3, h4, _⟩
  · exact h1
  · exact absurd (by simpa using h4) (h2 i h3)
def whatI (x : ByteArray) : Int := if sIdx wordsL x < 0 then 0 else sIdx wordsL x
def whatS (x : ByteArray) : Nat → Int
  | 0 => 0
  | i + 1 => if wordsS.getD i default = x then ((i + 1 : Nat) : Int) else whatS x i
theorem what_eq (x : ByteArray) : whatS x 5 = whatI x := by
  by_cases h0 : x = ⟨#[]⟩
  · subst h0; decide
  by_cases h1 : x = ⟨#[107, 105, 110, 100]⟩
  · subst h1; decide
  by_cases h2 : x = ⟨#[116, 105, 109, 101]⟩
  · subst h2; decide
  by_cases h3 : x = ⟨#[108, 101, 118, 101, 108]⟩
  · subst h3; decide
  by_cases h4 : x = ⟨#[114, 111, 117, 116, 101]⟩
  · subst h4; decide
  by_cases h5 : x = ⟨#[115, 116, 97, 116, 101]⟩
  · subst h5; decide
  have e1 : whatI x = 0 := by
    unfold whatI
    rw [sIdx_no (fun j hj => ?_)]; rfl
    have hj' : j < 6 := hj
    rcases (show j = 0 ∨ j = 1 ∨ j = 2 ∨ j = 3 ∨ j = 4 ∨ j = 5 by omega) with rfl | rfl | rfl | rfl | rfl | rfl
    · exact h0
    · exact h1
    · exact h2
    · exact h3
    · exact h4
    · exact h5
  rw [e1]
  show (if (⟨#[115, 116, 97, 116, 101]⟩ : ByteArray) = x then (5 : Int) else if (⟨#[114, 111, 117, 116, 101]⟩ : ByteArray) = x then 4 else if (⟨#[108, 101, 118, 101, 108]⟩ : ByteArray) = x then 3 else if (⟨#[116, 105, 109, 101]⟩ : ByteArray) = x then 2 else if (⟨#[107, 105, 110, 100]⟩ : ByteArray) = x then 1 else 0) = 0
  rw [if_neg (Ne.symm h5), if_neg (Ne.symm h4), if_neg (Ne.symm h3), if_neg (Ne.symm h2), if_neg (Ne.symm h1)]
theorem cuts_small' (s : ByteArray) (c : UInt8) (h : s.toList.length ≤ 1048576) : ∀ i, ((cuts s c).getD i default).toList.length ≤ 1048576 := by
  have hP : ∀ i, i ≤ s.toList.length → ∀ x ∈ cutP s c i, x.toList.length ≤ s.toList.length := fun i => by
    induction i with
    | zero => intro _ x hx; cases hx
    | succ i ih =>
      intro hi x hx
      simp only [cutP] at hx
      split at hx
      · rcases List.mem_append.1 hx with hx | hx
        · exact ih (by omega) x hx
        · rw [List.mem_singleton.1 hx, ext_toList, List.length_drop, List.length_take]; omega
      · exact ih (by omega) x hx
  intro i
  by_cases hi : i < (cuts s c).length
  · have hm := getD_mem' hi
    rw [cuts] at hm
    rcases List.mem_append.1 hm with hm | hm
    · have := hP _ (Nat.le_refl _) _ hm; rw [← cuts] at this; omega
    · have := List.mem_singleton.1 hm
      rw [← cuts] at this
      rw [this, ext_toList, List.length_drop, List.length_take]; omega
  · have : (cuts s c).getD i default = default := by simp [hi]
    rw [this]
    show (default : ByteArray).toList.length ≤ _
    rw [show (default : ByteArray) = ⟨#[]⟩ from rfl, tl_data]; simp
theorem p5_eq {s : ByteArray} (h : 5 ≤ (cuts s 32).length) : p5 s = ((cuts s 32).getD 0 default).toList.length + ((cuts s 32).getD 1 default).toList.length + ((cuts s 32).getD 2 default).toList.length + ((cuts s 32).getD 3 default).toList.length + 4 := by
  unfold p5
  match cuts s 32, h with
  | a :: b :: c :: d :: e :: t, _ => simp; omega
theorem p5_le {s : ByteArray} (h : 5 ≤ (cuts s 32).length) : p5 s ≤ s.toList.length := by
  have hF := cutF_le s 32 s.toList.length
  have hs := cutF_sum (s := s) (c := 32) (Nat.le_refl _)
  have hl : 4 ≤ (cutP s 32 s.toList.length).length := by
    have : (cuts s 32).length = (cutP s 32 s.toList.length).length + 1 := by rw [cuts, List.length_append]; rfl
    omega
  have ht : (cuts s 32).take 4 = (cutP s 32 s.toList.length).take 4 := by rw [cuts, List.take_append_of_le_length hl]
  have hsum : ∀ l : List ByteArray, 4 ≤ l.length → ((l.take 4).map fun x => x.toList.length).sum + 4 ≤ (l.map fun x => x.toList.length).sum + l.length := fun l hl => by
    match l, hl with
    | a :: b :: c :: d :: t, _ => simp; omega
  have := hsum _ hl
  unfold p5
  rw [ht]; omega
def chg (s : ByteArray) : Chg := ⟨(cuts s 32).getD 1 default, whatI ((cuts s 32).getD 2 default), number ((cuts s 32).getD 3 default), s.extract (p5 s) s.toList.length⟩
def rdOk (s : ByteArray) : Prop := 5 ≤ (cuts s 32).length ∧ form (chg s) = s
noncomputable instance (s : ByteArray) : Decidable (rdOk s) := Classical.propDecidable _
def chgZ : Chg := ⟨⟨#[]⟩, 0, 0, ⟨#[]⟩⟩
def rdC (s : ByteArray) : Chg := if rdOk s then chg s else chgZ
theorem rd_yes {s : ByteArray} (h : rdOk s) : rdC s = chg s := if_pos h
theorem rd_no {s : ByteArray} (h : ¬ rdOk s) : rdC s = chgZ := if_neg h
theorem split5_lo {s : ByteArray} (h : ¬ 5 ≤ (cuts s 32).length) : (split5 s).length = (cuts s 32).length := by rw [split5, if_pos (by omega)]
theorem split5_len {s : ByteArray} (h : 5 ≤ (cuts s 32).length) : (split5 s).length = 5 := by rw [split5, if_neg (by omega), List.length_append, List.length_take]; simp; omega
theorem split5_get {s : ByteArray} (h : 5 ≤ (cuts s 32).length) {i : Nat} (hi : i < 4) : (split5 s).getD i default = (cuts s 32).getD i default := by
  rw [split5, if_neg (by omega)]
  simp only [List.getD_eq_getElem?_getD]
  rw [List.getElem?_append_left (by rw [List.length_take]; omega), List.getElem?_take, if_pos hi]
theorem split5_g4 {s : ByteArray} (h : 5 ≤ (cuts s 32).length) : (split5 s).getD 4 default = s.extract (p5 s) s.toList.length := by
  rw [split5, if_neg (by omega)]
  simp only [List.getD_eq_getElem?_getD]
  rw [List.getElem?_append_right (by rw [List.length_take]; omega), List.length_take]
  rw [show 4 - min 4 (cuts s 32).length = 0 by omega]; rfl
theorem rd_dec {s : ByteArray} (h : rdOk s) : decOk ((cuts s 32).getD 3 default) := Classical.byContradiction fun k => by
  obtain ⟨h1, h2⟩ := h
  have hn : number ((cuts s 32).getD 3 default) = -1 := if_neg k
  have : form (chg s) = ⟨#[]⟩ := if_neg fun g => by
    have := g.2.2.1.1
    have e : (chg s).nr = -1 := hn
    omega
  rw [this] at h2
  have hl := cuts_len (s := s) (c := 32)
  rw [← h2] at hl h1
  have : (⟨#[]⟩ : ByteArray).toList = [] := by rw [tl_data]
  rw [this] at hl
  simp at hl
  omega
theorem c_sIndex (t : Nat) (l : List ByteArray) (x : ByteArray) (hl : l.length ≤ 1048576) : Contract P 14 [.sl t 1 (l.map srow), .str x] [] (.int .i64 (sIdx l x)) [] := by
  refine fn_sound (Env.nil P) hm k_slices_Index_string (Nat.le_of_ble_eq_true rfl) rfl ?_; unfold s_slices_Index_string; simp (config := { maxSteps := 2000000 }) only [bitvec_to_nat, reduceIte, Nat.reduceEqDiff, Nat.reduceAdd, Nat.reduceLeDiff, reduceCtorEq, Nat.reduceBEq, Nat.reduceLT, Nat.reduceMod, List.forall_mem_cons, tk_map, dp_map, toNat_pred, appE, rowsOf, List.take_length, List.length_cons, List.length_nil, Nat.zero_add, srow, irow, un_s, un_i, Zone.row, Zone_eta, un_Zone, Word.row, Word_eta, Own.row, Own_eta, Part.row, Part_eta, Seen.row, Seen_eta, Book.row, Book_eta, Sector.row, Sector_eta, HCraft.row, HCraft_eta, World.row, World_eta, PKind.row, PKind_eta, PPt.row, PPt_eta, Cell.row, Cell_eta, Chg.row, Chg_eta, un_Word, un_Own, un_Part, un_Seen, un_Book, un_Sector, un_HCraft, un_World, un_PKind, un_PPt, un_Cell, un_Chg, Int.toNat_natCast]
  refine loop_st (fun i : Nat => [(8, .int .i64 i)]) (fun _ => []) (fun i => i ≤ l.length ∧ ∀ j, j < i → ¬ x = l.getD j default) (fun i => l.length - i) 0 (by simp only [u_E0, u_E1, u_M0, u_M1, w_setE0, w_setE1, w_setM0, w_setM1, reduceIte, Nat.reduceEqDiff]; exact ⟨by repeat' (first | exact trivial | refine ⟨.inr rfl, ?_⟩), by repeat' (first | exact trivial | refine ⟨rfl, ?_⟩), by first | rfl | simp [closedB, refsIn, refsInL, refsInO, dom, refsInL_nr, *], by first | rfl | simp [keepB, dom]⟩) ⟨Nat.zero_le _, fun j h => absurd h (Nat.not_lt_zero _)⟩ ?_
  rintro i ⟨hi, h1⟩ NX hN
  by_cases h : i < l.length
  · unfold l_slices_Index_string_0; simp (config := { maxSteps := 2000000 }) only [bitvec_to_nat, reduceIte, Nat.reduceEqDiff, Nat.reduceAdd, Nat.reduceLeDiff, reduceCtorEq, Nat.reduceBEq, Nat.reduceLT, Nat.reduceMod, List.forall_mem_cons, tk_map, dp_map, toNat_pred, appE, rowsOf, List.take_length, List.length_cons, List.length_nil, Nat.zero_add, srow, irow, un_s, un_i, Zone.row, Zone_eta, un_Zone, Word.row, Word_eta, Own.row, Own_eta, Part.row, Part_eta, Seen.row, Seen_eta, Book.row, Book_eta, Sector.row, Sector_eta, HCraft.row, HCraft_eta, World.row, World_eta, PKind.row, PKind_eta, PPt.row, PPt_eta, Cell.row, Cell_eta, Chg.row, Chg_eta, un_Word, un_Own, un_Part, un_Seen, un_Book, un_Sector, un_HCraft, un_World, un_PKind, un_PPt, un_Cell, un_Chg, Int.toNat_natCast]
    repeat' (first | with_reducible apply And.intro | with_reducible intro _)
    all_goals first
      | omega
      | (rw [sIdx_i h (by assumption) h1]; done)
      | (refine hN (i + 1) _ (by simp only [u_E0, u_E1, u_M0, u_M1, w_setE0, w_setE1, w_setM0, w_setM1, reduceIte, Nat.reduceEqDiff]; exact ⟨by repeat' (first | exact trivial | refine ⟨.inr rfl, ?_⟩), by repeat' (first | exact trivial | refine ⟨rfl, ?_⟩), by first | rfl | simp [closedB, refsIn, refsInL, refsInO, dom, refsInL_nr, *], by first | rfl | simp [keepB, dom]⟩) ⟨h, all_snoc h1 (by assumption)⟩ (by omega))
      | (exfalso; omega)
      | trace_state
  · have e : i = l.length := by omega
    subst e
    unfold l_slices_Index_string_0; simp (config := { maxSteps := 2000000 }) only [bitvec_to_nat, reduceIte, Nat.reduceEqDiff, Nat.reduceAdd, Nat.reduceLeDiff, reduceCtorEq, Nat.reduceBEq, Nat.reduceLT, Nat.reduceMod, List.forall_mem_cons, tk_map, dp_map, toNat_pred, appE, rowsOf, List.take_length, List.length_cons, List.length_nil, Nat.zero_add, srow, irow, un_s, un_i, Zone.row, Zone_eta, un_Zone, Word.row, Word_eta, Own.row, Own_eta, Part.row, Part_eta, Seen.row, Seen_eta, Book.row, Book_eta, Sector.row, Sector_eta, HCraft.row, HCraft_eta, World.row, World_eta, PKind.row, PKind_eta, PPt.row, PPt_eta, Cell.row, Cell_eta, Chg.row, Chg_eta, un_Word, un_Own, un_Part, un_Seen, un_Book, un_Sector, un_HCraft, un_World, un_PKind, un_PPt, un_Cell, un_Chg, Int.toNat_natCast]
    repeat' (first | with_reducible apply And.intro | with_reducible intro _)
    all_goals first
      | omega
      | (rw [sIdx_no h1]; done)
      | (exfalso; omega)
      | trace_state
def t_sIndex : List AV → Option (Prop × AV)
  | [.sl lt 1 lx, .str x] => some ((((lx.map unS).map srow = lx)) ∧ ((lx.map unS).length ≤ 1048576), .int .i64 (sIdx (lx.map unS) x))
  | _ => none
theorem h_sIndex : ∀ args p v, t_sIndex args = some (p, v) → p → Contract P 14 args [] v [] ∧ noref v = true ∧ No99 v := by
  intro args p v h1 h2
  unfold t_sIndex at h1
  split at h1
  · rename_i lt lx x
    cases h1
    obtain ⟨e0, HP⟩ := h2
    have := c_sIndex lt (lx.map unS) x HP
    exact ⟨by simpa only [e0] using this, rfl, trivial⟩
  · cases h1
end
end Go.Ve

namespace Go.Ve
noncomputable section
open Go.Proofs
set_option linter.unusedSimpArgs false
set_option linter.unusedVariables false
set_option maxRecDepth 100000
open Go.Shelf Go.Lib Go.RowKit
set_option maxHeartbeats 2000000 in
theorem c_iRead (s : ByteArray) (hs : s.toList.length ≤ 1048576) : Contract P 5 [.str s] [] (.tup [.agg (rdC s).row, .bool (decide (rdOk s))]) [] := by
  have g0 : True := trivial
  have g1 : True := trivial
  have g2 : True := trivial
  have g3 : True := trivial
  have g4 : True := trivial
  have gl : True := trivial
  have hsz : True := trivial
  have hnn : True := trivial
  have wi : True := trivial
  have hsm := cuts_small' s 32 hs
  by_cases h5 : 5 ≤ (cuts s 32).length
  · have gl := split5_len h5
    have g1 : (split5 s).getD (Int.toNat 1) default = (cuts s 32).getD 1 default := split5_get h5 (i := 1) (by omega)
    have g2 : (split5 s).getD (Int.toNat 2) default = (cuts s 32).getD 2 default := split5_get h5 (i := 2) (by omega)
    have g3 : (split5 s).getD (Int.toNat 3) default = (cuts s 32).getD 3 default := split5_get h5 (i := 3) (by omega)
    have g4 : (split5 s).getD (Int.toNat 4) default = s.extract (p5 s) s.toList.length := split5_g4 h5
    have hse : s ≠ ⟨#[]⟩ := fun e => by
      have hl := cuts_len (s := s) (c := 32)
      rw [e] at hl h5
      have : (⟨#[]⟩ : ByteArray).toList = [] := by rw [tl_data]
      rw [this] at hl
      simp at hl; omega
    have wi : (if 0 > sIdx wordsL ((cuts s 32).getD 2 default) then 0 else sIdx wordsL ((cuts s 32).getD 2 default)) = whatI ((cuts s 32).getD 2 default) := rfl
    refine fn_sound (((((Env.nil P).add 12 t_decimal h_decimal).add 13 t_Clone h_Clone).add 14 t_sIndex h_sIndex).add 15 t_iForm h_iForm) hm k_impl_PlanRead (Nat.le_of_ble_eq_true rfl) rfl ?_; unfold s_impl_PlanRead; simp (config := { maxSteps := 2000000 }) only [bitvec_to_nat, reduceIte, Nat.reduceEqDiff, Nat.reduceAdd, Nat.reduceLeDiff, reduceCtorEq, Nat.reduceBEq, Nat.reduceLT, Nat.reduceMod, List.forall_mem_cons, t_decimal, t_Clone, t_sIndex, t_iForm, tk_map, dp_map, toNat_pred, appE, rowsOf, List.take_length, List.length_cons, List.length_nil, Nat.zero_add, srow, irow, un_s, un_i, Zone.row, Zone_eta, un_Zone, Word.row, Word_eta, Own.row, Own_eta, Part.row, Part_eta, Seen.row, Seen_eta, Book.row, Book_eta, Sector.row, Sector_eta, HCraft.row, HCraft_eta, World.row, World_eta, PKind.row, PKind_eta, PPt.row, PPt_eta, Cell.row, Cell_eta, Chg.row, Chg_eta, un_Word, un_Own, un_Part, un_Seen, un_Book, un_Sector, un_HCraft, un_World, un_PKind, un_PPt, un_Cell, un_Chg, Chg.row, Chg_eta, chgZ, gv0, words_len, wordsS_len, g0, g1, g2, g3, g4, gl, hsz, hnn, wi, List.append_nil, Int.toNat_natCast]
    refine ⟨_, _, .inr (.inl ⟨rfl, _, rfl, c_SplitN s hs, rfl, by simp only [No99]; exact ⟨by omega, no99_str _⟩⟩), ?_⟩
    simp (config := { maxSteps := 2000000 }) only [bitvec_to_nat, reduceIte, Nat.reduceEqDiff, Nat.reduceAdd, Nat.reduceLeDiff, reduceCtorEq, Nat.reduceBEq, Nat.reduceLT, Nat.reduceMod, List.forall_mem_cons, t_decimal, t_Clone, t_sIndex, t_iForm, tk_map, dp_map, toNat_pred, appE, rowsOf, List.take_length, List.length_cons, List.length_nil, Nat.zero_add, srow, irow, un_s, un_i, Zone.row, Zone_eta, un_Zone, Word.row, Word_eta, Own.row, Own_eta, Part.row, Part_eta, Seen.row, Seen_eta, Book.row, Book_eta, Sector.row, Sector_eta, HCraft.row, HCraft_eta, World.row, World_eta, PKind.row, PKind_eta, PPt.row, PPt_eta, Cell.row, Cell_eta, Chg.row, Chg_eta, un_Word, un_Own, un_Part, un_Seen, un_Book, un_Sector, un_HCraft, un_World, un_PKind, un_PPt, un_Cell, un_Chg, Chg.row, Chg_eta, chgZ, gv0, words_len, wordsS_len, g0, g1, g2, g3, g4, gl, hsz, hnn, wi, List.append_nil, Int.toNat_natCast]
    have hv4 : (s.extract (p5 s) s.toList.length).toList.length ≤ 1048576 := by rw [ext_toList, List.length_drop, List.length_take]; omega
    by_cases hd : decOk ((cuts s 32).getD 3 default)
    · have hnn : (if decOk ((cuts s 32).getD 3 default) then ((decV ((cuts s 32).getD 3 default) : Nat) : Int) else 0) = number ((cuts s 32).getD 3 default) := by rw [if_pos hd, number, if_pos hd]
      simp only [hnn]
      repeat' (first | with_reducible apply And.intro | with_reducible intro _)
      all_goals first
        | omega
        | exact hsm _
        | exact hv4
        | (rw [toList_size]; have := hsm 1; omega)
        | (rw [toList_size]; omega)
        | (exact absurd (by assumption) hse)
        | (have hyes : rdOk s := ⟨h5, by assumption⟩
           simp [rd_yes hyes, chg, hyes]; done)
        | (have hno : ¬ rdOk s := fun h => (by assumption : ¬ _) h.2
           simp [rd_no hno, hno, chgZ]; done)
        | (exfalso; omega)
        | (exact absurd hd (by assumption))
        | trace_state
    · have hno : ¬ rdOk s := fun h => hd (rd_dec h)
      repeat' (first | with_reducible apply And.intro | with_reducible intro _)
      all_goals first
        | omega
        | exact hsm _
        | exact hv4
        | (rw [toList_size]; have := hsm 1; omega)
        | (rw [toList_size]; omega)
        | (exact absurd (by assumption) hd)
        | (simp [rd_no hno, hno, chgZ]; done)
        | (exfalso; omega)
        | trace_state
  · have gl := split5_lo h5
    have hno : ¬ rdOk s := fun h => h5 h.1
    refine fn_sound (((((Env.nil P).add 12 t_decimal h_decimal).add 13 t_Clone h_Clone).add 14 t_sIndex h_sIndex).add 15 t_iForm h_iForm) hm k_impl_PlanRead (Nat.le_of_ble_eq_true rfl) rfl ?_; unfold s_impl_PlanRead; simp (config := { maxSteps := 2000000 }) only [bitvec_to_nat, reduceIte, Nat.reduceEqDiff, Nat.reduceAdd, Nat.reduceLeDiff, reduceCtorEq, Nat.reduceBEq, Nat.reduceLT, Nat.reduceMod, List.forall_mem_cons, t_decimal, t_Clone, t_sIndex, t_iForm, tk_map, dp_map, toNat_pred, appE, rowsOf, List.take_length, List.length_cons, List.length_nil, Nat.zero_add, srow, irow, un_s, un_i, Zone.row, Zone_eta, un_Zone, Word.row, Word_eta, Own.row, Own_eta, Part.row, Part_eta, Seen.row, Seen_eta, Book.row, Book_eta, Sector.row, Sector_eta, HCraft.row, HCraft_eta, World.row, World_eta, PKind.row, PKind_eta, PPt.row, PPt_eta, Cell.row, Cell_eta, Chg.row, Chg_eta, un_Word, un_Own, un_Part, un_Seen, un_Book, un_Sector, un_HCraft, un_World, un_PKind, un_PPt, un_Cell, un_Chg, Chg.row, Chg_eta, chgZ, gv0, words_len, wordsS_len, g0, g1, g2, g3, g4, gl, hsz, hnn, wi, List.append_nil, Int.toNat_natCast]
    refine ⟨_, _, .inr (.inl ⟨rfl, _, rfl, c_SplitN s hs, rfl, by simp only [No99]; exact ⟨by omega, no99_str _⟩⟩), ?_⟩
    simp (config := { maxSteps := 2000000 }) only [bitvec_to_nat, reduceIte, Nat.reduceEqDiff, Nat.reduceAdd, Nat.reduceLeDiff, reduceCtorEq, Nat.reduceBEq, Nat.reduceLT, Nat.reduceMod, List.forall_mem_cons, t_decimal, t_Clone, t_sIndex, t_iForm, tk_map, dp_map, toNat_pred, appE, rowsOf, List.take_length, List.length_cons, List.length_nil, Nat.zero_add, srow, irow, un_s, un_i, Zone.row, Zone_eta, un_Zone, Word.row, Word_eta, Own.row, Own_eta, Part.row, Part_eta, Seen.row, Seen_eta, Book.row, Book_eta, Sector.row, Sector_eta, HCraft.row, HCraft_eta, World.row, World_eta, PKind.row, PKind_eta, PPt.row, PPt_eta, Cell.row, Cell_eta, Chg.row, Chg_eta, un_Word, un_Own, un_Part, un_Seen, un_Book, un_Sector, un_HCraft, un_World, un_PKind, un_PPt, un_Cell, un_Chg, Chg.row, Chg_eta, chgZ, gv0, words_len, wordsS_len, g0, g1, g2, g3, g4, gl, hsz, hnn, wi, List.append_nil, Int.toNat_natCast]
    repeat' (first | with_reducible apply And.intro | with_reducible intro _)
    all_goals first
      | omega
      | (simp [rd_no hno, hno, chgZ]; done)
      | (exfalso; omega)
      | trace_state
end
end Go.Ve

namespace Go.Ve
noncomputable section
open Go.Proofs
set_option linter.unusedSimpArgs false
set_option linter.unusedVariables false
set_option maxRecDepth 100000
open Go.Shelf Go.Lib Go.RowKit
set_option maxHeartbeats 2000000 in
theorem c_sRead (s : ByteArray) (hs : s.toList.length ≤ 1048576) : Contract P 4 [.str s] [] (.tup [.agg (rdC s).row, .bool (decide (rdOk s))]) [] := by
  have g0 : True := trivial
  have g1 : True := trivial
  have g2 : True := trivial
  have g3 : True := trivial
  have g4 : True := trivial
  have gl : True := trivial
  have hsz : True := trivial
  have hnn : True := trivial
  have wi : True := trivial
  have hp5 : True := trivial
  have hwS : True := trivial
  have hw5 : True := trivial
  have hsm := cuts_small' s 32 hs
  have hcl := cuts_len (s := s) (c := 32)
  have hcc : s.toList.count 32 ≤ s.toList.length := List.count_le_length
  refine fn_sound (((((Env.nil P).add 7 t_l12Cut h_l12Cut).add 8 t_l12Number h_l12Number).add 9 t_l12Words h_l12Words).add 10 t_sForm h_sForm) hm k_spec_PlanRead (Nat.le_of_ble_eq_true rfl) rfl ?_; unfold s_spec_PlanRead; simp (config := { maxSteps := 2000000 }) only [bitvec_to_nat, reduceIte, Nat.reduceEqDiff, Nat.reduceAdd, Nat.reduceLeDiff, reduceCtorEq, Nat.reduceBEq, Nat.reduceLT, Nat.reduceMod, List.forall_mem_cons, t_l12Cut, t_l12Number, t_l12Words, t_sForm, tk_map, dp_map, toNat_pred, appE, rowsOf, List.take_length, List.length_cons, List.length_nil, Nat.zero_add, srow, irow, un_s, un_i, Zone.row, Zone_eta, un_Zone, Word.row, Word_eta, Own.row, Own_eta, Part.row, Part_eta, Seen.row, Seen_eta, Book.row, Book_eta, Sector.row, Sector_eta, HCraft.row, HCraft_eta, World.row, World_eta, PKind.row, PKind_eta, PPt.row, PPt_eta, Cell.row, Cell_eta, Chg.row, Chg_eta, un_Word, un_Own, un_Part, un_Seen, un_Book, un_Sector, un_HCraft, un_World, un_PKind, un_PPt, un_Cell, un_Chg, Chg.row, Chg_eta, chgZ, gv0, words_len, wordsS_len, g0, g1, g2, g3, g4, gl, hsz, hnn, wi, List.append_nil, Int.toNat_natCast, hp5, hwS, hw5]
  repeat' (first | with_reducible apply And.intro | with_reducible intro _)
  all_goals first
    | omega
    | exact hsm _
    | (have hno : ¬ rdOk s := fun h => by have := h.1; omega
       simp [rd_no hno, hno, chgZ]; done)
    | skip
  have h5 : 5 ≤ (cuts s 32).length := by omega
  have hpl := p5_le h5
  have hpe := p5_eq h5
  have hv4 : (s.extract (p5 s) s.toList.length).toList.length ≤ 1048576 := by rw [ext_toList, List.length_drop, List.length_take]; omega
  refine loop_st (fun i : Nat => [(6, .int .i64 i)]) (fun i => [(105, .box [.str ((cuts s 32).getD 1 default), .int .i64 (whatS ((cuts s 32).getD 2 default) i), .int .i64 (number ((cuts s 32).getD 3 default)), .str ⟨#[]⟩])]) (fun i => i ≤ 5) (fun i => 5 - i) 0 (by simp only [u_E0, u_E1, u_M0, u_M1, w_setE0, w_setE1, w_setM0, w_setM1, reduceIte, Nat.reduceEqDiff]; exact ⟨by repeat' (first | exact trivial | refine ⟨.inr rfl, ?_⟩), by repeat' (first | exact trivial | refine ⟨rfl, ?_⟩), by first | rfl | simp [closedB, refsIn, refsInL, refsInO, dom, refsInL_nr, *], by first | rfl | simp [keepB, dom]⟩) (Nat.zero_le _) ?_
  intro i hi NX hN
  by_cases h : i < 5
  · have hY : wordsS.getD i default = (cuts s 32).getD 2 default → whatS ((cuts s 32).getD 2 default) (i + 1) = ((i + 1 : Nat) : Int) := fun k => if_pos k
    have hZ : ¬ wordsS.getD i default = (cuts s 32).getD 2 default → whatS ((cuts s 32).getD 2 default) (i + 1) = whatS ((cuts s 32).getD 2 default) i := fun k => if_neg k
    unfold l_spec_PlanRead_0; simp (config := { maxSteps := 2000000 }) only [bitvec_to_nat, reduceIte, Nat.reduceEqDiff, Nat.reduceAdd, Nat.reduceLeDiff, reduceCtorEq, Nat.reduceBEq, Nat.reduceLT, Nat.reduceMod, List.forall_mem_cons, t_l12Cut, t_l12Number, t_l12Words, t_sForm, tk_map, dp_map, toNat_pred, appE, rowsOf, List.take_length, List.length_cons, List.length_nil, Nat.zero_add, srow, irow, un_s, un_i, Zone.row, Zone_eta, un_Zone, Word.row, Word_eta, Own.row, Own_eta, Part.row, Part_eta, Seen.row, Seen_eta, Book.row, Book_eta, Sector.row, Sector_eta, HCraft.row, HCraft_eta, World.row, World_eta, PKind.row, PKind_eta, PPt.row, PPt_eta, Cell.row, Cell_eta, Chg.row, Chg_eta, un_Word, un_Own, un_Part, un_Seen, un_Book, un_Sector, un_HCraft, un_World, un_PKind, un_PPt, un_Cell, un_Chg, Chg.row, Chg_eta, chgZ, gv0, words_len, wordsS_len, g0, g1, g2, g3, g4, gl, hsz, hnn, wi, List.append_nil, Int.toNat_natCast, hp5, hwS, hw5]
    repeat' (first | with_reducible apply And.intro | with_reducible intro _)
    all_goals first
      | omega
      | (have hq := hY (by assumption)
         refine hN (i + 1) _ (by simp only [hq]; simp only [u_E0, u_E1, u_M0, u_M1, w_setE0, w_setE1, w_setM0, w_setM1, reduceIte, Nat.reduceEqDiff]; exact ⟨by repeat' (first | exact trivial | refine ⟨.inr rfl, ?_⟩), by repeat' (first | exact trivial | refine ⟨rfl, ?_⟩), by first | rfl | simp [closedB, refsIn, refsInL, refsInO, dom, refsInL_nr, *], by first | rfl | simp [keepB, dom]⟩) h (by omega))
      | (have hq := hZ (by assumption)
         refine hN (i + 1) _ (by simp only [hq]; simp only [u_E0, u_E1, u_M0, u_M1, w_setE0, w_setE1, w_setM0, w_setM1, reduceIte, Nat.reduceEqDiff]; exact ⟨by repeat' (first | exact trivial | refine ⟨.inr rfl, ?_⟩), by repeat' (first | exact trivial | refine ⟨rfl, ?_⟩), by first | rfl | simp [closedB, refsIn, refsInL, refsInO, dom, refsInL_nr, *], by first | rfl | simp [keepB, dom]⟩) h (by omega))
      | (exfalso; omega)
      | trace_state
  · have e : i = 5 := by omega
    subst e
    have hw5 := what_eq ((cuts s 32).getD 2 default)
    have hp5 : (((cuts s 32).getD 0 default).toList.length : Int) + ((cuts s 32).getD (Int.toNat 1) default).toList.length + ((cuts s 32).getD (Int.toNat 2) default).toList.length + ((cuts s 32).getD (Int.toNat 3) default).toList.length + 4 = (p5 s : Nat) := by
      show (((cuts s 32).getD 0 default).toList.length : Int) + ((cuts s 32).getD 1 default).toList.length + ((cuts s 32).getD 2 default).toList.length + ((cuts s 32).getD 3 default).toList.length + 4 = (p5 s : Nat)
      omega
    have k0 := hsm 0
    have k1 := hsm (Int.toNat 1)
    have k2 := hsm (Int.toNat 2)
    have k3 := hsm (Int.toNat 3)
    unfold l_spec_PlanRead_0; simp (config := { maxSteps := 2000000 }) only [bitvec_to_nat, reduceIte, Nat.reduceEqDiff, Nat.reduceAdd, Nat.reduceLeDiff, reduceCtorEq, Nat.reduceBEq, Nat.reduceLT, Nat.reduceMod, List.forall_mem_cons, t_l12Cut, t_l12Number, t_l12Words, t_sForm, tk_map, dp_map, toNat_pred, appE, rowsOf, List.take_length, List.length_cons, List.length_nil, Nat.zero_add, srow, irow, un_s, un_i, Zone.row, Zone_eta, un_Zone, Word.row, Word_eta, Own.row, Own_eta, Part.row, Part_eta, Seen.row, Seen_eta, Book.row, Book_eta, Sector.row, Sector_eta, HCraft.row, HCraft_eta, World.row, World_eta, PKind.row, PKind_eta, PPt.row, PPt_eta, Cell.row, Cell_eta, Chg.row, Chg_eta, un_Word, un_Own, un_Part, un_Seen, un_Book, un_Sector, un_HCraft, un_World, un_PKind, un_PPt, un_Cell, un_Chg, Chg.row, Chg_eta, chgZ, gv0, words_len, wordsS_len, g0, g1, g2, g3, g4, gl, hsz, hnn, wi, List.append_nil, Int.toNat_natCast, hp5, hwS, hw5]
    refine ⟨fun h => absurd h (by omega), fun _ => ?_⟩
    repeat' (first | with_reducible apply And.intro | with_reducible intro _)
    all_goals first
      | exact hsm _
      | exact hv4
      | (have hyes : rdOk s := ⟨h5, by assumption⟩
         simp [rd_yes hyes, chg, hyes]; done)
      | (have hno : ¬ rdOk s := fun h => (by assumption : ¬ _) h.2
         simp [rd_no hno, hno, chgZ]; done)
      | omega
      | trace_state
end
end Go.Ve

namespace Go.Ve
noncomputable section
open Go.Proofs
set_option linter.unusedSimpArgs false
set_option linter.unusedVariables false
set_option maxRecDepth 100000
open Go.ChangeShapes Go.WideShapes
def t_sRead : List AV → Option (Prop × AV)
  | [.str s] => some ((True) ∧ (s.toList.length ≤ 1048576), .tup [.agg (Chg.row (rdC s)), .bool (decide (rdOk s))])
  | _ => none
theorem h_sRead : ∀ args p v, t_sRead args = some (p, v) → p → Contract P 4 args [] v [] ∧ noref v = true ∧ No99 v := by
  intro args p v h1 h2
  unfold t_sRead at h1
  split at h1
  · rename_i s
    cases h1
    obtain ⟨_, HP⟩ := h2
    have := c_sRead s HP
    exact ⟨this, rfl, by simp [No99, No99L, Chg.row]⟩
  · cases h1
def t_iRead : List AV → Option (Prop × AV)
  | [.str s] => some ((True) ∧ (s.toList.length ≤ 1048576), .tup [.agg (Chg.row (rdC s)), .bool (decide (rdOk s))])
  | _ => none
theorem h_iRead : ∀ args p v, t_iRead args = some (p, v) → p → Contract P 5 args [] v [] ∧ noref v = true ∧ No99 v := by
  intro args p v h1 h2
  unfold t_iRead at h1
  split at h1
  · rename_i s
    cases h1
    obtain ⟨_, HP⟩ := h2
    have := c_iRead s HP
    exact ⟨this, rfl, by simp [No99, No99L, Chg.row]⟩
  · cases h1
theorem c_eqChg (c d : Chg)  : Contract P 6 [.agg (c.row), .agg (d.row)] [] (.bool (decide (c = d))) [] := by
  obtain ⟨c_fl, c_w, c_nr, c_v⟩ := c
  obtain ⟨d_fl, d_w, d_nr, d_v⟩ := d
  simp only [Chg.row]
  refine fn_sound (Env.nil P) hm k_laws_eqPlanChange (Nat.le_of_ble_eq_true rfl) rfl ?_; unfold s_laws_eqPlanChange; simp (config := { maxSteps := 2000000 }) only [bitvec_to_nat, reduceIte, Nat.reduceEqDiff, Nat.reduceAdd, Nat.reduceLeDiff, reduceCtorEq, Nat.reduceBEq, Nat.reduceLT, Nat.reduceMod, List.forall_mem_cons, tk_map, dp_map, toNat_pred, appE, rowsOf, List.take_length, List.length_cons, List.length_nil, Nat.zero_add, srow, irow, un_s, un_i, Zone.row, Zone_eta, un_Zone, Word.row, Word_eta, Own.row, Own_eta, Part.row, Part_eta, Seen.row, Seen_eta, Book.row, Book_eta, Sector.row, Sector_eta, HCraft.row, HCraft_eta, World.row, World_eta, PKind.row, PKind_eta, PPt.row, PPt_eta, Cell.row, Cell_eta, Chg.row, Chg_eta, un_Word, un_Own, un_Part, un_Seen, un_Book, un_Sector, un_HCraft, un_World, un_PKind, un_PPt, un_Cell, un_Chg]
  simp only [Chg.mk.injEq]
  repeat' (first | with_reducible apply And.intro | with_reducible intro _)
  all_goals first | omega | (simp_all; done) | grind
def t_eqChg : List AV → Option (Prop × AV)
  | [.agg [.str c_fl, .int .i64 c_w, .int .i64 c_nr, .str c_v], .agg [.str d_fl, .int .i64 d_w, .int .i64 d_nr, .str d_v]] => some ((True) ∧ (True), .bool (decide ((Chg.mk c_fl c_w c_nr c_v) = (Chg.mk d_fl d_w d_nr d_v))))
  | _ => none
theorem h_eqChg : ∀ args p v, t_eqChg args = some (p, v) → p → Contract P 6 args [] v [] ∧ noref v = true ∧ No99 v := by
  intro args p v h1 h2
  unfold t_eqChg at h1
  split at h1
  · rename_i c_fl c_w c_nr c_v d_fl d_w d_nr d_v
    cases h1
    obtain ⟨_, HP⟩ := h2
    have := c_eqChg (Chg.mk c_fl c_w c_nr c_v) (Chg.mk d_fl d_w d_nr d_v)
    exact ⟨by simpa only [Chg.row, Chg.row] using this, rfl, trivial⟩
  · cases h1
theorem c_FnExactPlanRead (s : ByteArray) : Contract P 3 [.str s] [] (.bool true) [] := by
  refine fn_sound ((((Env.nil P).add 4 t_sRead h_sRead).add 5 t_iRead h_iRead).add 6 t_eqChg h_eqChg) hm k_laws_FnExactPlanRead (Nat.le_of_ble_eq_true rfl) rfl ?_; unfold s_laws_FnExactPlanRead; simp (config := { maxSteps := 2000000 }) only [bitvec_to_nat, reduceIte, Nat.reduceEqDiff, Nat.reduceAdd, Nat.reduceLeDiff, reduceCtorEq, Nat.reduceBEq, Nat.reduceLT, Nat.reduceMod, List.forall_mem_cons, t_sRead, t_iRead, t_eqChg, tk_map, dp_map, toNat_pred, appE, rowsOf, List.take_length, List.length_cons, List.length_nil, Nat.zero_add, srow, irow, un_s, un_i, Zone.row, Zone_eta, un_Zone, Word.row, Word_eta, Own.row, Own_eta, Part.row, Part_eta, Seen.row, Seen_eta, Book.row, Book_eta, Sector.row, Sector_eta, HCraft.row, HCraft_eta, World.row, World_eta, PKind.row, PKind_eta, PPt.row, PPt_eta, Cell.row, Cell_eta, Chg.row, Chg_eta, un_Word, un_Own, un_Part, un_Seen, un_Book, un_Sector, un_HCraft, un_World, un_PKind, un_PPt, un_Cell, un_Chg, Chg.row, Chg_eta, eq_self, not_true_eq_false, ne_eq, bne_self_eq_false]
  repeat' (first | with_reducible apply And.intro | with_reducible intro _)
  all_goals first
    | omega
    | trivial
    | (exfalso; simp_all; done)
    | trace_state
end
end Go.Ve

