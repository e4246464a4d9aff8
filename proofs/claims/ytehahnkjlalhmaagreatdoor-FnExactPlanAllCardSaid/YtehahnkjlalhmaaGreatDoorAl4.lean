/- Part 4 of the proof: laws and contracts of functions, each proved; they are joined in the last part. No conditions beyond those that the theorems state. -/
import Derived.Test.YtehahnkjlalhmaaGreatDoorProg
import Derived.Test.YtehahnkjlalhmaaGreatDoorAl3
set_option linter.all false
namespace Go.Ve
open Go.Proofs
set_option maxRecDepth 100000
def lO_laws_toPlanKindS_0 : SCode := (.seq (.seq (.rg [⟨some 8, .mv (.v 4), none, []⟩, ⟨some 9, .mv (.v 0), none, []⟩, ⟨some 10, .lenL (.v 9), none, [9]⟩, ⟨some 11, .bin .lss (.v 8) (.v 10), none, [8, 10]⟩] [0, 3, 4, 11]) (.cond (.v 11) .skip (.exit 0))) (.seq (.block 1 (.rg [⟨some 14, .mv (.v 3), none, []⟩, ⟨some 15, .mv (.v 4), none, []⟩, ⟨some 16, .mv (.v 0), none, []⟩, ⟨some 17, .mv (.v 4), none, []⟩, ⟨some 18, .iaddr 3 (.v 16) (.v 17), none, [16, 17]⟩, ⟨some 19, .loadN 3 (.v 18), none, [18]⟩, ⟨some 20, .call 79 [.v 19], none, [19]⟩, ⟨some 21, .iaddr 3 (.v 14) (.v 15), none, [14, 15]⟩, ⟨none, .store 3 (.v 21) (.v 20), none, [20, 21]⟩] [0, 3, 4])) (.rg [⟨some 12, .mv (.v 4), none, [4]⟩, ⟨some 13, .binN .add (.v 12) (.c (.int .i64 1)), none, [12]⟩, ⟨some 4, .mv (.v 13), none, [13]⟩] [0, 3, 4])))
/-- laws.toPlanKindS: function 48 -/
def sO_laws_toPlanKindS : SFun := { n := 23, res := [.t 2], body := (.seq (.rg [⟨some 2, .mv (.c (.sl 0 3 [])), none, [2]⟩] [0]) (.seq (.rg [⟨some 5, .mv (.v 0), none, []⟩, ⟨some 6, .lenL (.v 5), none, [5]⟩, ⟨some 7, .mk 107 60 3 [.str ⟨#[]⟩, .int .i64 0, .int .i64 0] (.v 6), none, [6]⟩, ⟨some 3, .mv (.v 7), none, [7]⟩] [0, 3]) (.seq (.seq (.rg [⟨some 4, .mv (.c (.int .i64 0)), none, []⟩] [0, 3, 4]) (.block 0 (.loop lO_laws_toPlanKindS_0))) (.seq (.rg [⟨some 22, .mv (.v 3), none, [3]⟩, ⟨some 2, .mv (.v 22), none, [22]⟩] [2]) .ret)))) }
theorem kO_laws_toPlanKindS : okFun Go.Proofs.Tryz.prog 48 sO_laws_toPlanKindS = true := by kernel_rfl
def lO_laws_toPlanPointS_0 : SCode := (.seq (.seq (.rg [⟨some 8, .mv (.v 4), none, []⟩, ⟨some 9, .mv (.v 0), none, []⟩, ⟨some 10, .lenL (.v 9), none, [9]⟩, ⟨some 11, .bin .lss (.v 8) (.v 10), none, [8, 10]⟩] [0, 3, 4, 11]) (.cond (.v 11) .skip (.exit 0))) (.seq (.block 1 (.rg [⟨some 14, .mv (.v 3), none, []⟩, ⟨some 15, .mv (.v 4), none, []⟩, ⟨some 16, .mv (.v 0), none, []⟩, ⟨some 17, .mv (.v 4), none, []⟩, ⟨some 18, .iaddr 3 (.v 16) (.v 17), none, [16, 17]⟩, ⟨some 19, .loadN 3 (.v 18), none, [18]⟩, ⟨some 20, .call 80 [.v 19], none, [19]⟩, ⟨some 21, .iaddr 3 (.v 14) (.v 15), none, [14, 15]⟩, ⟨none, .store 3 (.v 21) (.v 20), none, [20, 21]⟩] [0, 3, 4])) (.rg [⟨some 12, .mv (.v 4), none, [4]⟩, ⟨some 13, .binN .add (.v 12) (.c (.int .i64 1)), none, [12]⟩, ⟨some 4, .mv (.v 13), none, [13]⟩] [0, 3, 4])))
/-- laws.toPlanPointS: function 49 -/
def sO_laws_toPlanPointS : SFun := { n := 23, res := [.t 2], body := (.seq (.rg [⟨some 2, .mv (.c (.sl 0 3 [])), none, [2]⟩] [0]) (.seq (.rg [⟨some 5, .mv (.v 0), none, []⟩, ⟨some 6, .lenL (.v 5), none, [5]⟩, ⟨some 7, .mk 107 119 3 [.str ⟨#[]⟩, .int .i64 0, .int .i64 0] (.v 6), none, [6]⟩, ⟨some 3, .mv (.v 7), none, [7]⟩] [0, 3]) (.seq (.seq (.rg [⟨some 4, .mv (.c (.int .i64 0)), none, []⟩] [0, 3, 4]) (.block 0 (.loop lO_laws_toPlanPointS_0))) (.seq (.rg [⟨some 22, .mv (.v 3), none, [3]⟩, ⟨some 2, .mv (.v 22), none, [22]⟩] [2]) .ret)))) }
theorem kO_laws_toPlanPointS : okFun Go.Proofs.Tryz.prog 49 sO_laws_toPlanPointS = true := by kernel_rfl
def lO_laws_toPlanFieldS_0 : SCode := (.seq (.seq (.rg [⟨some 8, .mv (.v 4), none, []⟩, ⟨some 9, .mv (.v 0), none, []⟩, ⟨some 10, .lenL (.v 9), none, [9]⟩, ⟨some 11, .bin .lss (.v 8) (.v 10), none, [8, 10]⟩] [0, 3, 4, 11]) (.cond (.v 11) .skip (.exit 0))) (.seq (.block 1 (.rg [⟨some 14, .mv (.v 3), none, []⟩, ⟨some 15, .mv (.v 4), none, []⟩, ⟨some 16, .mv (.v 0), none, []⟩, ⟨some 17, .mv (.v 4), none, []⟩, ⟨some 18, .iaddr 3 (.v 16) (.v 17), none, [16, 17]⟩, ⟨some 19, .loadN 3 (.v 18), none, [18]⟩, ⟨some 20, .call 127 [.v 19], none, [19]⟩, ⟨some 21, .iaddr 3 (.v 14) (.v 15), none, [14, 15]⟩, ⟨none, .store 3 (.v 21) (.v 20), none, [20, 21]⟩] [0, 3, 4])) (.rg [⟨some 12, .mv (.v 4), none, [4]⟩, ⟨some 13, .binN .add (.v 12) (.c (.int .i64 1)), none, [12]⟩, ⟨some 4, .mv (.v 13), none, [13]⟩] [0, 3, 4])))
/-- laws.toPlanFieldS: function 108 -/
def sO_laws_toPlanFieldS : SFun := { n := 23, res := [.t 2], body := (.seq (.rg [⟨some 2, .mv (.c (.sl 0 3 [])), none, [2]⟩] [0]) (.seq (.rg [⟨some 5, .mv (.v 0), none, []⟩, ⟨some 6, .lenL (.v 5), none, [5]⟩, ⟨some 7, .mk 107 96 3 [.int .i64 0, .int .i64 0, .str ⟨#[]⟩] (.v 6), none, [6]⟩, ⟨some 3, .mv (.v 7), none, [7]⟩] [0, 3]) (.seq (.seq (.rg [⟨some 4, .mv (.c (.int .i64 0)), none, []⟩] [0, 3, 4]) (.block 0 (.loop lO_laws_toPlanFieldS_0))) (.seq (.rg [⟨some 22, .mv (.v 3), none, [3]⟩, ⟨some 2, .mv (.v 22), none, [22]⟩] [2]) .ret)))) }
theorem kO_laws_toPlanFieldS : okFun Go.Proofs.Tryz.prog 108 sO_laws_toPlanFieldS = true := by kernel_rfl
def lO_strings_genSplit_0 : SCode := (.seq (.seq (.rg [⟨some 34, .mv (.v 10), none, []⟩, ⟨some 35, .mv (.v 3), none, []⟩, ⟨some 36, .bin .lss (.v 34) (.v 35), none, [34, 35]⟩] [0, 1, 2, 3, 9, 10, 36]) (.cond (.v 36) .skip (.exit 0))) (.block 1 (.seq (.rg [⟨some 37, .mv (.v 0), none, []⟩, ⟨some 38, .mv (.v 1), none, []⟩, ⟨some 39, .call 114 [.v 37, .v 38], none, [37, 38]⟩, ⟨some 11, .mv (.v 39), none, [39]⟩] [0, 1, 2, 3, 9, 10, 11]) (.seq (.seq (.rg [⟨some 40, .mv (.v 11), none, []⟩, ⟨some 41, .bin .lss (.v 40) (.c (.int .i64 0)), none, [40]⟩] [0, 1, 2, 3, 9, 10, 11, 41]) (.cond (.v 41) (.exit 0) .skip)) (.seq (.rg [⟨some 42, .mv (.v 9), none, []⟩, ⟨some 43, .mv (.v 10), none, []⟩, ⟨some 44, .mv (.v 0), none, []⟩, ⟨some 45, .mv (.v 11), none, []⟩, ⟨some 46, .mv (.v 2), none, []⟩, ⟨some 47, .binN .add (.v 45) (.v 46), none, [45, 46]⟩, ⟨some 48, .slStr (.v 44) none (some (.v 47)), none, [44, 47]⟩, ⟨some 49, .iaddr 1 (.v 42) (.v 43), none, [42, 43]⟩, ⟨none, .store 1 (.v 49) (.v 48), none, [48, 49]⟩] [0, 1, 2, 3, 9, 10, 11]) (.seq (.rg [⟨some 50, .mv (.v 0), none, [0]⟩, ⟨some 51, .mv (.v 11), none, [11]⟩, ⟨some 52, .mv (.v 1), none, []⟩, ⟨some 53, .lenS (.v 52), none, [52]⟩, ⟨some 54, .binN .add (.v 51) (.v 53), none, [51, 53]⟩, ⟨some 55, .slStr (.v 50) (some (.v 54)) none, none, [50, 54]⟩, ⟨some 0, .mv (.v 55), none, [55]⟩] [0, 1, 2, 3, 9, 10]) (.rg [⟨some 56, .mv (.v 10), none, [10]⟩, ⟨some 57, .binN .add (.v 56) (.c (.int .i64 1)), none, [56]⟩, ⟨some 10, .mv (.v 57), none, [57]⟩] [0, 1, 2, 3, 9, 10])))))))
/-- strings.genSplit: function 101 -/
def sO_strings_genSplit : SFun := { n := 66, res := [.t 8], body := (.seq (.rg [⟨some 8, .mv (.c (.sl 0 1 [])), none, [8]⟩] [0, 1, 2, 3]) (.seq (.seq (.rg [⟨some 12, .mv (.v 3), none, []⟩, ⟨some 13, .bin .eql (.v 12) (.c (.int .i64 0)), none, [12]⟩] [0, 1, 2, 3, 13]) (.cond (.v 13) (.seq (.rg [⟨some 8, .mv (.c (.sl 0 1 [])), none, []⟩] [8]) .ret) .skip)) (.seq (.seq (.rg [⟨some 14, .mv (.v 1), none, []⟩, ⟨some 15, .bin .eql (.v 14) (.c (.str ⟨#[]⟩)), none, [14]⟩] [0, 1, 2, 3, 15]) (.cond (.v 15) (.seq (.rg [⟨some 16, .mv (.v 0), none, [0]⟩, ⟨some 17, .mv (.v 3), none, [3]⟩, ⟨some 18, .call 112 [.v 16, .v 17], none, [16, 17]⟩, ⟨some 8, .mv (.v 18), none, [18]⟩] [8]) .ret) .skip)) (.seq (.seq (.rg [⟨some 19, .mv (.v 3), none, []⟩, ⟨some 20, .bin .lss (.v 19) (.c (.int .i64 0)), none, [19]⟩] [0, 1, 2, 3, 20]) (.cond (.v 20) (.rg [⟨some 21, .mv (.v 0), none, []⟩, ⟨some 22, .mv (.v 1), none, []⟩, ⟨some 23, .call 113 [.v 21, .v 22], none, [21, 22]⟩, ⟨some 24, .binN .add (.v 23) (.c (.int .i64 1)), none, [23]⟩, ⟨some 3, .mv (.v 24), none, [24]⟩] [0, 1, 2, 3]) .skip)) (.seq (.rg [⟨some 25, .mv (.v 3), none, [3]⟩, ⟨some 26, .mv (.v 0), none, []⟩, ⟨some 27, .lenS (.v 26), none, [26]⟩, ⟨some 28, .binN .add (.v 27) (.c (.int .i64 1)), none, [27]⟩, ⟨some 29, .mn (.v 25) (.v 28), none, [25, 28]⟩, ⟨some 3, .mv (.v 29), none, [29]⟩] [0, 1, 2, 3]) (.seq (.rg [⟨some 30, .mv (.v 3), none, []⟩, ⟨some 31, .mk 131 9 1 [.str ⟨#[]⟩] (.v 30), none, [30]⟩, ⟨some 9, .mv (.v 31), none, [31]⟩] [0, 1, 2, 3, 9]) (.seq (.rg [⟨some 32, .mv (.v 3), none, [3]⟩, ⟨some 33, .binN .sub (.v 32) (.c (.int .i64 1)), none, [32]⟩, ⟨some 3, .mv (.v 33), none, [33]⟩] [0, 1, 2, 3, 9]) (.seq (.rg [⟨some 10, .mv (.c (.int .i64 0)), none, []⟩] [0, 1, 2, 3, 9, 10]) (.seq (.block 0 (.loop lO_strings_genSplit_0)) (.seq (.rg [⟨some 58, .mv (.v 9), none, []⟩, ⟨some 59, .mv (.v 10), none, []⟩, ⟨some 60, .mv (.v 0), none, [0]⟩, ⟨some 61, .iaddr 1 (.v 58) (.v 59), none, [58, 59]⟩, ⟨none, .store 1 (.v 61) (.v 60), none, [60, 61]⟩] [9, 10]) (.seq (.rg [⟨some 62, .mv (.v 9), none, [9]⟩, ⟨some 63, .mv (.v 10), none, [10]⟩, ⟨some 64, .binN .add (.v 63) (.c (.int .i64 1)), none, [63]⟩, ⟨some 65, .slSl 1 (.v 62) none (some (.v 64)), none, [62, 64]⟩, ⟨some 8, .mv (.v 65), none, [65]⟩] [8]) .ret))))))))))) }
theorem kO_strings_genSplit : okFun Go.Proofs.Tryz.prog 101 sO_strings_genSplit = true := by kernel_rfl
end Go.Ve

namespace Go.Ve
noncomputable section
open Go.Proofs
set_option linter.unusedSimpArgs false
set_option linter.unusedVariables false
set_option maxRecDepth 100000
theorem tl_data (s : ByteArray) : s.toList = s.data.toList := ByteArray.toList_eq s
theorem ext_data (s : ByteArray) (a b : Nat) : (s.extract a b).data.toList = (s.data.toList.take b).drop a := by
  rw [ByteArray.data_extract, Array.toList_extract, List.extract_eq_take_drop, List.drop_take, List.take_drop]
  try congr 1
theorem ext_toList (s : ByteArray) (a b : Nat) : (s.extract a b).toList = (s.toList.take b).drop a := by rw [tl_data, tl_data, ext_data]
theorem ba_ext {a b : ByteArray} (h : a.toList = b.toList) : a = b := by
  rw [tl_data, tl_data] at h
  exact ByteArray.ext (Array.toList_inj.1 h)
def cutF (s : ByteArray) (c : UInt8) : Nat → Nat
  | 0 => 0
  | i + 1 => if s.toList.getD i 0 = c then i + 1 else cutF s c i
def cutP (s : ByteArray) (c : UInt8) : Nat → List ByteArray
  | 0 => []
  | i + 1 => if s.toList.getD i 0 = c then cutP s c i ++ [s.extract (cutF s c i) i] else cutP s c i
def cuts (s : ByteArray) (c : UInt8) : List ByteArray := cutP s c s.toList.length ++ [s.extract (cutF s c s.toList.length) s.toList.length]
theorem cutF_le (s : ByteArray) (c : UInt8) : ∀ i, cutF s c i ≤ i
  | 0 => Nat.le_refl _
  | i + 1 => by
    have := cutF_le s c i
    simp only [cutF]; split <;> omega
theorem cutP_len {s : ByteArray} {c : UInt8} : ∀ {i}, i ≤ s.toList.length → (cutP s c i).length = (s.toList.take i).count c
  | 0, _ => by simp [cutP]
  | i + 1, h => by
    have ih := cutP_len (s := s) (c := c) (i := i) (by omega)
    have hi : i < s.toList.length := by omega
    rw [List.take_succ_eq_append_getElem hi, List.count_append, ← ih]
    have e : s.toList.getD i 0 = s.toList[i] := by simp [hi]
    simp only [cutP, e]
    by_cases h : s.toList[i] = c
    · rw [if_pos h, List.length_append, h]; simp
    · rw [if_neg h]; simp [h]
theorem cut_jump {s : ByteArray} {c : UInt8} {f : Nat} : ∀ {m}, (∀ j, f ≤ j → j < f + m → s.toList.getD j 0 ≠ c) → cutF s c (f + m) = cutF s c f ∧ cutP s c (f + m) = cutP s c f
  | 0, _ => ⟨rfl, rfl⟩
  | m + 1, h => by
    have ih := cut_jump (s := s) (c := c) (f := f) (m := m) fun j h1 h2 => h j h1 (by omega)
    have hn := h (f + m) (by omega) (by omega)
    show (if s.toList.getD (f + m) 0 = c then _ else _) = _ ∧ (if s.toList.getD (f + m) 0 = c then _ else _) = _
    rw [if_neg hn, if_neg hn]; exact ih
theorem index_spec (c : UInt8) : ∀ l : List UInt8, (Lib.indexByte l c = -1 ∧ l.count c = 0) ∨ ∃ k : Nat, Lib.indexByte l c = k ∧ k < l.length ∧ l.getD k 0 = c ∧ ∀ j, j < k → l.getD j 0 ≠ c
  | [] => .inl ⟨rfl, rfl⟩
  | b :: l => by
    by_cases hb : b = c
    · subst hb
      exact .inr ⟨0, by simp [Lib.indexByte], by simp, rfl, fun j h => absurd h (Nat.not_lt_zero _)⟩
    · rcases index_spec c l with ⟨h1, h2⟩ | ⟨k, h1, h2, h3, h4⟩
      · exact .inl ⟨by simp [Lib.indexByte, hb, h1], by rw [List.count_cons_of_ne (by simpa using hb)]; exact h2⟩
      · refine .inr ⟨k + 1, ?_, by simp; omega, h3, fun j hj => ?_⟩
        · have : Lib.indexByte l c ≠ -1 := by omega
          simp only [Lib.indexByte, beq_iff_eq, hb, if_false, this]; omega
        · cases j with
          | zero => exact hb
          | succ j => exact h4 j (by omega)
theorem setS {l : List ByteArray} {i : Nat} {v : ByteArray} : (l.map srow).set i (setSeg ((l.map srow).getD i []) 0 [.str v]) = (l.set i v).map srow :=
  set_rows (α := ByteArray) (f := srow) (fun _ => v) fun x => by simp [srow, setSeg]
theorem repl_row {n : Nat} : List.replicate n [AV.str ⟨#[]⟩] = (List.replicate n (⟨#[]⟩ : ByteArray)).map srow := by simp [srow]
theorem count_take_drop {l : List UInt8} {c : UInt8} (f : Nat) : l.count c = (l.take f).count c + (l.drop f).count c := by
  conv => lhs; rw [← List.take_append_drop f l]
  rw [List.count_append]
theorem getD_drop' {l : List UInt8} {f j : Nat} : (l.drop f).getD j 0 = l.getD (f + j) 0 := by simp
theorem ext_ext {s : ByteArray} {f a b : Nat} (h : f ≤ s.toList.length) (hb : b ≤ s.toList.length - f) : (s.extract f s.toList.length).extract a b = s.extract (f + a) (f + b) := by
  apply ba_ext
  simp only [ext_toList, List.take_length, List.take_drop, List.drop_drop]
/-- All pieces are there. -/
theorem cuts_of {s : ByteArray} {c : UInt8} {f : Nat} (hf : f ≤ s.toList.length) (h1 : cutF s c f = f) (h2 : (s.toList.drop f).count c = 0) : cuts s c = cutP s c f ++ [s.extract f s.toList.length] := by
  have h := cut_jump (s := s) (c := c) (f := f) (m := s.toList.length - f) fun j h3 h4 h5 => by
    have hj : j < s.toList.length := by omega
    have := List.count_eq_zero.1 h2
    apply this
    rw [← h5]
    have : s.toList.getD j 0 = (s.toList.drop f)[j - f]'(by rw [List.length_drop]; omega) := by simp [show f + (j - f) = j by omega, hj]
    rw [this]; exact List.getElem_mem _
  rw [show f + (s.toList.length - f) = s.toList.length by omega] at h
  rw [cuts, h.1, h.2, h1]
theorem cuts_len {s : ByteArray} {c : UInt8} : (cuts s c).length = s.toList.count c + 1 := by
  rw [cuts, List.length_append, cutP_len (Nat.le_refl _), List.take_length]; rfl
set_option maxHeartbeats 1000000 in
theorem c_l12Cut (s : ByteArray) (c : UInt8) (hs : s.toList.length ≤ 1048576) : Contract P 42 [.str s, .int .u8 c.toNat] [] (.sl 0 1 ((cuts s c).map srow)) [] := by
  have tkl : True := trivial
  refine fn_sound (Env.nil P) hm k_spec_l12Cut (Nat.le_of_ble_eq_true rfl) rfl ?_; unfold s_spec_l12Cut; simp (config := { maxSteps := 2000000 }) only [bitvec_to_nat, reduceIte, Nat.reduceEqDiff, Nat.reduceAdd, Nat.reduceLeDiff, reduceCtorEq, Nat.reduceBEq, Nat.reduceLT, Nat.reduceMod, List.forall_mem_cons, tk_map, dp_map, toNat_pred, appE, rowsOf, List.take_length, List.length_cons, List.length_nil, Nat.zero_add, srow, irow, un_s, un_i, Zone.row, Zone_eta, un_Zone, Word.row, Word_eta, Own.row, Own_eta, Part.row, Part_eta, Seen.row, Seen_eta, Book.row, Book_eta, Sector.row, Sector_eta, HCraft.row, HCraft_eta, World.row, World_eta, PKind.row, PKind_eta, PPt.row, PPt_eta, Cell.row, Cell_eta, un_Word, un_Own, un_Part, un_Seen, un_Book, un_Sector, un_HCraft, un_World, un_PKind, un_PPt, un_Cell, List.nil_append, Int.toNat_natCast, List.length_map, tkl]
  refine loop_st (fun i : Nat => [(5, .own 108 (cutP s c i).length 0 (cutP s c i).length), (6, .int .i64 (cutF s c i)), (7, .int .i64 i)]) (fun i => [(108, .arr 9 (cutP s c i).length 1 ((cutP s c i).map srow))]) (fun i => i ≤ s.toList.length) (fun i => s.toList.length - i) 0 (by simp only [u_E0, u_E1, u_M0, u_M1, w_setE0, w_setE1, w_setM0, w_setM1, reduceIte, Nat.reduceEqDiff]; exact ⟨by repeat' (first | exact trivial | refine ⟨.inr rfl, ?_⟩), by repeat' (first | exact trivial | refine ⟨rfl, ?_⟩), by first | rfl | simp [closedB, refsIn, refsInL, refsInO, dom, refsInL_nr, *], by first | rfl | simp [keepB, dom]⟩) (Nat.zero_le _) ?_
  intro i hi NX hN
  have hl := cutP_len (c := c) hi
  have hc : (s.toList.take i).count c ≤ i := by have := List.count_le_length (a := c) (l := s.toList.take i); rw [List.length_take] at this; omega
  have hF := cutF_le s c i
  have tkl : List.take (cutP s c i).length ((cutP s c i).map srow) = (cutP s c i).map srow := List.take_of_length_le (by simp)
  by_cases h : i < s.toList.length
  · unfold l_spec_l12Cut_0; simp (config := { maxSteps := 2000000 }) only [bitvec_to_nat, reduceIte, Nat.reduceEqDiff, Nat.reduceAdd, Nat.reduceLeDiff, reduceCtorEq, Nat.reduceBEq, Nat.reduceLT, Nat.reduceMod, List.forall_mem_cons, tk_map, dp_map, toNat_pred, appE, rowsOf, List.take_length, List.length_cons, List.length_nil, Nat.zero_add, srow, irow, un_s, un_i, Zone.row, Zone_eta, un_Zone, Word.row, Word_eta, Own.row, Own_eta, Part.row, Part_eta, Seen.row, Seen_eta, Book.row, Book_eta, Sector.row, Sector_eta, HCraft.row, HCraft_eta, World.row, World_eta, PKind.row, PKind_eta, PPt.row, PPt_eta, Cell.row, Cell_eta, un_Word, un_Own, un_Part, un_Seen, un_Book, un_Sector, un_HCraft, un_World, un_PKind, un_PPt, un_Cell, List.nil_append, Int.toNat_natCast, List.length_map, tkl]
    have hu : ((s.toList.getD i 0).toNat : Int) = (c.toNat : Int) ↔ s.toList.getD i 0 = c := by
      constructor
      · intro h; apply UInt8.toNat_inj.1; omega
      · intro h; rw [h]
    have hP : s.toList.getD i 0 = c → cutP s c (i + 1) = cutP s c i ++ [s.extract (cutF s c i) i] := fun h => if_pos h
    have hP' : s.toList.getD i 0 ≠ c → cutP s c (i + 1) = cutP s c i := fun h => if_neg h
    have hG : s.toList.getD i 0 = c → cutF s c (i + 1) = i + 1 := fun h => if_pos h
    have hG' : s.toList.getD i 0 ≠ c → cutF s c (i + 1) = cutF s c i := fun h => if_neg h
    repeat' (first | with_reducible apply And.intro | with_reducible intro _)
    all_goals first
      | omega
      | (have hq := hu.1 (by assumption)
         refine hN (i + 1) _ (by simp only [hP hq, hG hq, List.length_append, List.length_cons, List.length_nil, Nat.zero_add, List.map_append, List.map_cons, List.map_nil, srow]; simp only [u_E0, u_E1, u_M0, u_M1, w_setE0, w_setE1, w_setM0, w_setM1, reduceIte, Nat.reduceEqDiff]; exact ⟨by repeat' (first | exact trivial | refine ⟨.inr rfl, ?_⟩), by repeat' (first | exact trivial | refine ⟨rfl, ?_⟩), by first | rfl | simp [closedB, refsIn, refsInL, refsInO, dom, refsInL_nr, *], by first | rfl | simp [keepB, dom]⟩) h (by omega))
      | (have hq := fun k => (by assumption : ¬ _) (hu.2 k)
         refine hN (i + 1) _ (by simp only [hP' hq, hG' hq]; simp only [u_E0, u_E1, u_M0, u_M1, w_setE0, w_setE1, w_setM0, w_setM1, reduceIte, Nat.reduceEqDiff]; exact ⟨by repeat' (first | exact trivial | refine ⟨.inr rfl, ?_⟩), by repeat' (first | exact trivial | refine ⟨rfl, ?_⟩), by first | rfl | simp [closedB, refsIn, refsInL, refsInO, dom, refsInL_nr, *], by first | rfl | simp [keepB, dom]⟩) h (by omega))
      | trace_state
  · have e : i = s.toList.length := by omega
    subst e
    unfold l_spec_l12Cut_0; simp (config := { maxSteps := 2000000 }) only [bitvec_to_nat, reduceIte, Nat.reduceEqDiff, Nat.reduceAdd, Nat.reduceLeDiff, reduceCtorEq, Nat.reduceBEq, Nat.reduceLT, Nat.reduceMod, List.forall_mem_cons, tk_map, dp_map, toNat_pred, appE, rowsOf, List.take_length, List.length_cons, List.length_nil, Nat.zero_add, srow, irow, un_s, un_i, Zone.row, Zone_eta, un_Zone, Word.row, Word_eta, Own.row, Own_eta, Part.row, Part_eta, Seen.row, Seen_eta, Book.row, Book_eta, Sector.row, Sector_eta, HCraft.row, HCraft_eta, World.row, World_eta, PKind.row, PKind_eta, PPt.row, PPt_eta, Cell.row, Cell_eta, un_Word, un_Own, un_Part, un_Seen, un_Book, un_Sector, un_HCraft, un_World, un_PKind, un_PPt, un_Cell, List.nil_append, Int.toNat_natCast, List.length_map, tkl]
    repeat' (first | with_reducible apply And.intro | with_reducible intro _)
    all_goals first
      | omega
      | (rw [List.take_of_length_le (by simp)]; simp [cuts, srow]; done)
      | trace_state
def t_l12Cut : List AV → Option (Prop × AV)
  | [.str s, .int .u8 32] => some (s.toList.length ≤ 1048576, .sl 0 1 ((cuts s 32).map srow))
  | _ => none
theorem h_l12Cut : ∀ args p v, t_l12Cut args = some (p, v) → p → Contract P 42 args [] v [] ∧ noref v = true ∧ No99 v := by
  intro args p v h1 h2
  unfold t_l12Cut at h1
  split at h1
  · rename_i s
    cases h1
    exact ⟨c_l12Cut s 32 h2, rfl, by simp only [No99]; exact ⟨by omega, no99_str _⟩⟩
  · cases h1
def t_Count : List AV → Option (Prop × AV)
  | [.str s, .str c] => some (c = ⟨#[32]⟩, .int .i64 (Lib.countByte s.data.toList 32))
  | _ => none
theorem h_Count : ∀ args p v, t_Count args = some (p, v) → p → Contract P 113 args [] v [] ∧ noref v = true ∧ No99 v := by
  intro args p v h1 h2
  unfold t_Count at h1
  split at h1
  · rename_i s c
    cases h1
    subst h2
    exact ⟨c_Count s, rfl, trivial⟩
  · cases h1
def t_Index : List AV → Option (Prop × AV)
  | [.str s, .str c] => some (c = ⟨#[32]⟩, .int .i64 (Lib.indexByte s.data.toList 32))
  | _ => none
theorem h_Index : ∀ args p v, t_Index args = some (p, v) → p → Contract P 114 args [] v [] ∧ noref v = true ∧ No99 v := by
  intro args p v h1 h2
  unfold t_Index at h1
  split at h1
  · rename_i s c
    cases h1
    subst h2
    exact ⟨c_Index s, rfl, trivial⟩
  · cases h1
theorem sp_ne : ¬ (⟨#[32]⟩ : ByteArray) = ⟨#[]⟩ := by intro h; have := congrArg (fun b : ByteArray => b.data.size) h; simp at this
theorem sp_len : (⟨#[32]⟩ : ByteArray).toList.length = 1 := by rw [← toList_size]; rfl
def gsOk (s : ByteArray) (b : Nat × List ByteArray) : Prop := b.1 ≤ s.toList.length ∧ cutF s 32 b.1 = b.1 ∧ b.2.length = s.toList.count 32 + 1 ∧ (cutP s 32 b.1).length ≤ s.toList.count 32 ∧ ∀ j, j < (cutP s 32 b.1).length → b.2.getD j default = (cutP s 32 b.1).getD j default
set_option maxHeartbeats 2000000 in
theorem c_genSplit (s : ByteArray) (hs : s.toList.length ≤ 1048576) : Contract P 101 [.str s, .str ⟨#[32]⟩, .int .i64 0, .int .i64 (-1)] [] (.sl 0 1 ((cuts s 32).map srow)) [] := by
  have hcn : Lib.countByte s.data.toList 32 = s.toList.count 32 := by rw [tl_data]; rfl
  have hcl : s.toList.count 32 ≤ s.toList.length := List.count_le_length
  have hmn : (if ((s.toList.length : Nat) : Int) + 1 < (s.toList.count 32 : Nat) + 1 then ((s.toList.length : Nat) : Int) + 1 else (s.toList.count 32 : Nat) + 1) = (s.toList.count 32 : Nat) + 1 := by rw [if_neg (by omega)]
  have hne := eq_false sp_ne
  have hsl := sp_len
  have hm1 : ((-1 : Int) < 0) = True := eq_true (by decide)
  have hct : (((s.toList.count 32 : Nat) : Int) + 1).toNat = s.toList.count 32 + 1 := by omega
  have hc1 : ((s.toList.count 32 : Nat) : Int) + 1 - 1 = (s.toList.count 32 : Nat) := by omega
  have hix : True := trivial
  have hee : True := trivial
  have hkk : True := trivial
  have gst : True := trivial
  have tkl : True := trivial
  refine fn_sound (((Env.nil P).add 113 t_Count h_Count).add 114 t_Index h_Index) hm k_strings_genSplit (Nat.le_of_ble_eq_true rfl) rfl ?_; unfold s_strings_genSplit; simp (config := { maxSteps := 2000000 }) only [bitvec_to_nat, reduceIte, Nat.reduceEqDiff, Nat.reduceAdd, Nat.reduceLeDiff, reduceCtorEq, Nat.reduceBEq, Nat.reduceLT, Nat.reduceMod, List.forall_mem_cons, retG_ret, retQ_eq, retQ_eqN, retOk, keepB, re_tupl, orr_t, t_Count, t_Index, tk_map, dp_map, toNat_pred, appE, rowsOf, List.take_length, List.length_cons, List.length_nil, Nat.zero_add, srow, irow, un_s, un_i, Zone.row, Zone_eta, un_Zone, Word.row, Word_eta, Own.row, Own_eta, Part.row, Part_eta, Seen.row, Seen_eta, Book.row, Book_eta, Sector.row, Sector_eta, HCraft.row, HCraft_eta, World.row, World_eta, PKind.row, PKind_eta, PPt.row, PPt_eta, Cell.row, Cell_eta, un_Word, un_Own, un_Part, un_Seen, un_Book, un_Sector, un_HCraft, un_World, un_PKind, un_PPt, un_Cell, List.nil_append, Int.toNat_natCast, List.length_map, tkl, repl_row, setS, hcn, hmn, hne, hix, hee, hsl, hm1, hct, hc1, hkk, List.length_set, List.length_replicate, gst, not_true_eq_false, not_false_eq_true, Nat.sub_zero, Int.add_zero]
  repeat' (first | with_reducible apply And.intro)
  all_goals first | omega | skip
  refine loop_st (fun b : Nat × List ByteArray => [(0, .str (s.extract b.1 s.toList.length)), (10, .int .i64 (cutP s 32 b.1).length)]) (fun b => [(131, .arr 9 0 1 (b.2.map srow))]) (gsOk s) (fun b => s.toList.count 32 - (cutP s 32 b.1).length) (0, List.replicate (s.toList.count 32 + 1) ⟨#[]⟩) (by
    have e0 : s.extract 0 s.toList.length = s := ba_ext (by rw [ext_toList, List.take_length, List.drop_zero])
    simp only [e0]; simp only [u_E0, u_E1, u_M0, u_M1, w_setE0, w_setE1, w_setM0, w_setM1, reduceIte, Nat.reduceEqDiff]; exact ⟨by repeat' (first | exact trivial | refine ⟨.inr rfl, ?_⟩), by repeat' (first | exact trivial | refine ⟨rfl, ?_⟩), by first | rfl | simp [closedB, refsIn, refsInL, refsInO, dom, refsInL_nr, *], by first | rfl | simp [keepB, dom]⟩) ⟨Nat.zero_le _, rfl, List.length_replicate, Nat.zero_le _, fun j h => absurd h (Nat.not_lt_zero _)⟩ ?_
  rintro ⟨f, l⟩ ⟨h1, h2, h3, h4, h5⟩ NX hN
  simp only at h1 h2 h3 h4 h5
  have hll : (s.extract f s.toList.length).toList.length = s.toList.length - f := by rw [ext_toList, List.take_length, List.length_drop]
  have hpl := cutP_len (c := 32) h1
  have hcd := count_take_drop (l := s.toList) (c := 32) f
  have hdt : (s.extract f s.toList.length).data.toList = s.toList.drop f := by rw [← tl_data, ext_toList, List.take_length]
  by_cases h : (cutP s 32 f).length < s.toList.count 32
  · obtain ⟨k, k1, k2, k3, k4⟩ : ∃ k : Nat, Lib.indexByte (s.toList.drop f) 32 = k ∧ k < (s.toList.drop f).length ∧ (s.toList.drop f).getD k 0 = 32 ∧ ∀ j, j < k → (s.toList.drop f).getD j 0 ≠ 32 := by
      rcases index_spec 32 (s.toList.drop f) with ⟨_, h9⟩ | h9
      · omega
      · exact h9
    rw [List.length_drop] at k2
    rw [getD_drop'] at k3
    have hix : Lib.indexByte (s.extract f s.toList.length).data.toList 32 = k := by rw [hdt]; exact k1
    have gst : ∀ x : ByteArray, (l.set (cutP s 32 f).length x).getD (cutP s 32 f).length default = x := fun x => getD_seti' (by omega)
    have hkk : ((k : Nat) : Int) + 1 = ((k + 1 : Nat) : Int) := by omega
    have hj := cut_jump (s := s) (c := 32) (f := f) (m := k) fun j g1 g2 => by
      have := k4 (j - f) (by omega)
      rwa [getD_drop', show f + (j - f) = j by omega] at this
    have hf' : cutF s 32 (f + k + 1) = f + k + 1 := by show (if s.toList.getD (f + k) 0 = 32 then _ else _) = _; rw [if_pos k3]
    have hp' : cutP s 32 (f + k + 1) = cutP s 32 f ++ [s.extract f (f + k)] := by show (if s.toList.getD (f + k) 0 = 32 then _ else _) = _; rw [if_pos k3, hj.1, hj.2, h2]
    have x1 : (s.extract f s.toList.length).extract 0 k = s.extract f (f + k) := ext_ext h1 (by omega)
    have x2 : (s.extract f s.toList.length).extract (k + 1) (s.toList.length - f) = s.extract (f + k + 1) s.toList.length := by rw [ext_ext h1 (Nat.le_refl _)]; congr 1; omega
    have hl1 : (cutP s 32 (f + k + 1)).length = (cutP s 32 f).length + 1 := by rw [hp', List.length_append]; rfl
    unfold l_strings_genSplit_0; simp (config := { maxSteps := 2000000 }) only [bitvec_to_nat, reduceIte, Nat.reduceEqDiff, Nat.reduceAdd, Nat.reduceLeDiff, reduceCtorEq, Nat.reduceBEq, Nat.reduceLT, Nat.reduceMod, List.forall_mem_cons, retG_ret, retQ_eq, retQ_eqN, retOk, keepB, re_tupl, orr_t, t_Count, t_Index, tk_map, dp_map, toNat_pred, appE, rowsOf, List.take_length, List.length_cons, List.length_nil, Nat.zero_add, srow, irow, un_s, un_i, Zone.row, Zone_eta, un_Zone, Word.row, Word_eta, Own.row, Own_eta, Part.row, Part_eta, Seen.row, Seen_eta, Book.row, Book_eta, Sector.row, Sector_eta, HCraft.row, HCraft_eta, World.row, World_eta, PKind.row, PKind_eta, PPt.row, PPt_eta, Cell.row, Cell_eta, un_Word, un_Own, un_Part, un_Seen, un_Book, un_Sector, un_HCraft, un_World, un_PKind, un_PPt, un_Cell, List.nil_append, Int.toNat_natCast, List.length_map, tkl, repl_row, setS, hcn, hmn, hne, hix, hee, hsl, hm1, hct, hc1, hkk, List.length_set, List.length_replicate, gst, not_true_eq_false, not_false_eq_true, Nat.sub_zero, Int.add_zero]
    have hkt : ((k : Int) + ((1 : Nat) : Int)).toNat = k + 1 := by omega
    simp only [hll, hkt, x1, x2]
    repeat' (first | with_reducible apply And.intro | with_reducible intro _)
    all_goals first
      | omega
      | (refine hN (f + k + 1, l.set (cutP s 32 f).length (s.extract f (f + k))) _ (by simp only [hl1]; simp only [u_E0, u_E1, u_M0, u_M1, w_setE0, w_setE1, w_setM0, w_setM1, reduceIte, Nat.reduceEqDiff]; exact ⟨by repeat' (first | exact trivial | refine ⟨.inr rfl, ?_⟩), by repeat' (first | exact trivial | refine ⟨rfl, ?_⟩), by first | rfl | simp [closedB, refsIn, refsInL, refsInO, dom, refsInL_nr, *], by first | rfl | simp [keepB, dom]⟩) ⟨by simp only; omega, hf', by simp only [List.length_set]; exact h3, by simp only; omega, fun j hj => ?_⟩ (by simp only [hl1]; omega)
         simp only at hj ⊢
         rw [hp']
         by_cases e : j = (cutP s 32 f).length
         · subst e
           rw [getD_seti' (by omega)]; simp
         · rw [getD_setn' (Ne.symm e), h5 j (by omega)]
           simp only [List.getD_eq_getElem?_getD]
           rw [List.getElem?_append_left (by omega)])
      | (exfalso; omega)
      | trace_state
  · have e : (cutP s 32 f).length = s.toList.count 32 := by omega
    have hkk : ¬ (((cutP s 32 f).length : Nat) : Int) < (s.toList.count 32 : Nat) := by omega
    have hcu := cuts_of (c := 32) h1 h2 (by omega)
    have hlt := l.length_set (i := (cutP s 32 f).length) (a := s.extract f s.toList.length)
    have hres : l.set (cutP s 32 f).length (s.extract f s.toList.length) = cuts s 32 := ext_of (by rw [cuts_len, hlt]; exact h3) fun j hj => by
      rw [hcu]
      by_cases e : j = (cutP s 32 f).length
      · subst e; rw [getD_seti' (by omega)]; simp
      · have hj' : j < (cutP s 32 f).length := by rw [hlt] at hj; omega
        rw [getD_setn' (Ne.symm e), h5 j hj']
        simp only [List.getD_eq_getElem?_getD]
        rw [List.getElem?_append_left hj']
    have hcl2 := cuts_len (s := s) (c := 32)
    unfold l_strings_genSplit_0; simp (config := { maxSteps := 2000000 }) only [bitvec_to_nat, reduceIte, Nat.reduceEqDiff, Nat.reduceAdd, Nat.reduceLeDiff, reduceCtorEq, Nat.reduceBEq, Nat.reduceLT, Nat.reduceMod, List.forall_mem_cons, retG_ret, retQ_eq, retQ_eqN, retOk, keepB, re_tupl, orr_t, t_Count, t_Index, tk_map, dp_map, toNat_pred, appE, rowsOf, List.take_length, List.length_cons, List.length_nil, Nat.zero_add, srow, irow, un_s, un_i, Zone.row, Zone_eta, un_Zone, Word.row, Word_eta, Own.row, Own_eta, Part.row, Part_eta, Seen.row, Seen_eta, Book.row, Book_eta, Sector.row, Sector_eta, HCraft.row, HCraft_eta, World.row, World_eta, PKind.row, PKind_eta, PPt.row, PPt_eta, Cell.row, Cell_eta, un_Word, un_Own, un_Part, un_Seen, un_Book, un_Sector, un_HCraft, un_World, un_PKind, un_PPt, un_Cell, List.nil_append, Int.toNat_natCast, List.length_map, tkl, repl_row, setS, hcn, hmn, hne, hix, hee, hsl, hm1, hct, hc1, hkk, List.length_set, List.length_replicate, gst, not_true_eq_false, not_false_eq_true, Nat.sub_zero, Int.add_zero]
    have hfi : (((cutP s 32 f).length : Nat) : Int) + 1 = (((cutP s 32 f).length + 1 : Nat) : Int) := by omega
    simp only [hres, hfi, Int.toNat_natCast]
    repeat' (first | with_reducible apply And.intro | with_reducible intro _)
    all_goals first
      | omega
      | (rw [List.take_of_length_le (show (cuts s 32).length ≤ (cutP s 32 f).length + 1 by omega)]; done)
      | (rw [List.take_of_length_le (show (cuts s 32).length ≤ (cutP s 32 f).length + 1 by omega)]; simp [hcl2, refsIn, refsInL, dom, e]; done)
      | (simp [hcl2, refsIn, refsInL, dom, e]; done)
      | trace_state
set_option maxHeartbeats 2000000 in
theorem c_genSplitO (s : ByteArray) (hs : s.toList.length ≤ 1048576) : Contract P 101 [.str s, .str ⟨#[32]⟩, .int .i64 0, .int .i64 (-1)] [] (.own 131 0 0 (cuts s 32).length) [(131, .arr 9 0 1 ((cuts s 32).map srow))] := by
  have hcn : Lib.countByte s.data.toList 32 = s.toList.count 32 := by rw [tl_data]; rfl
  have hcl : s.toList.count 32 ≤ s.toList.length := List.count_le_length
  have hmn : (if ((s.toList.length : Nat) : Int) + 1 < (s.toList.count 32 : Nat) + 1 then ((s.toList.length : Nat) : Int) + 1 else (s.toList.count 32 : Nat) + 1) = (s.toList.count 32 : Nat) + 1 := by rw [if_neg (by omega)]
  have hne := eq_false sp_ne
  have hsl := sp_len
  have hm1 : ((-1 : Int) < 0) = True := eq_true (by decide)
  have hct : (((s.toList.count 32 : Nat) : Int) + 1).toNat = s.toList.count 32 + 1 := by omega
  have hc1 : ((s.toList.count 32 : Nat) : Int) + 1 - 1 = (s.toList.count 32 : Nat) := by omega
  have hix : True := trivial
  have hee : True := trivial
  have hkk : True := trivial
  have gst : True := trivial
  have tkl : True := trivial
  refine fn_sound (((Env.nil P).add 113 t_Count h_Count).add 114 t_Index h_Index) hm kO_strings_genSplit (Nat.le_of_ble_eq_true rfl) rfl ?_; unfold sO_strings_genSplit; simp (config := { maxSteps := 2000000 }) only [bitvec_to_nat, reduceIte, Nat.reduceEqDiff, Nat.reduceAdd, Nat.reduceLeDiff, reduceCtorEq, Nat.reduceBEq, Nat.reduceLT, Nat.reduceMod, List.forall_mem_cons, retG_ret, retQ_eq, retQ_eqN, retOk, keepB, re_tupl, orr_t, t_Count, t_Index, tk_map, dp_map, toNat_pred, appE, rowsOf, List.take_length, List.length_cons, List.length_nil, Nat.zero_add, srow, irow, un_s, un_i, Zone.row, Zone_eta, un_Zone, Word.row, Word_eta, Own.row, Own_eta, Part.row, Part_eta, Seen.row, Seen_eta, Book.row, Book_eta, Sector.row, Sector_eta, HCraft.row, HCraft_eta, World.row, World_eta, PKind.row, PKind_eta, PPt.row, PPt_eta, Cell.row, Cell_eta, un_Word, un_Own, un_Part, un_Seen, un_Book, un_Sector, un_HCraft, un_World, un_PKind, un_PPt, un_Cell, List.nil_append, Int.toNat_natCast, List.length_map, tkl, repl_row, setS, hcn, hmn, hne, hix, hee, hsl, hm1, hct, hc1, hkk, List.length_set, List.length_replicate, gst, not_true_eq_false, not_false_eq_true, Nat.sub_zero, Int.add_zero]
  repeat' (first | with_reducible apply And.intro)
  all_goals first | omega | skip
  refine loop_st (fun b : Nat × List ByteArray => [(0, .str (s.extract b.1 s.toList.length)), (10, .int .i64 (cutP s 32 b.1).length)]) (fun b => [(131, .arr 9 0 1 (b.2.map srow))]) (gsOk s) (fun b => s.toList.count 32 - (cutP s 32 b.1).length) (0, List.replicate (s.toList.count 32 + 1) ⟨#[]⟩) (by
    have e0 : s.extract 0 s.toList.length = s := ba_ext (by rw [ext_toList, List.take_length, List.drop_zero])
    simp only [e0]; simp only [u_E0, u_E1, u_M0, u_M1, w_setE0, w_setE1, w_setM0, w_setM1, reduceIte, Nat.reduceEqDiff]; exact ⟨by repeat' (first | exact trivial | refine ⟨.inr rfl, ?_⟩), by repeat' (first | exact trivial | refine ⟨rfl, ?_⟩), by first | rfl | simp [closedB, refsIn, refsInL, refsInO, dom, refsInL_nr, *], by first | rfl | simp [keepB, dom]⟩) ⟨Nat.zero_le _, rfl, List.length_replicate, Nat.zero_le _, fun j h => absurd h (Nat.not_lt_zero _)⟩ ?_
  rintro ⟨f, l⟩ ⟨h1, h2, h3, h4, h5⟩ NX hN
  simp only at h1 h2 h3 h4 h5
  have hll : (s.extract f s.toList.length).toList.length = s.toList.length - f := by rw [ext_toList, List.take_length, List.length_drop]
  have hpl := cutP_len (c := 32) h1
  have hcd := count_take_drop (l := s.toList) (c := 32) f
  have hdt : (s.extract f s.toList.length).data.toList = s.toList.drop f := by rw [← tl_data, ext_toList, List.take_length]
  by_cases h : (cutP s 32 f).length < s.toList.count 32
  · obtain ⟨k, k1, k2, k3, k4⟩ : ∃ k : Nat, Lib.indexByte (s.toList.drop f) 32 = k ∧ k < (s.toList.drop f).length ∧ (s.toList.drop f).getD k 0 = 32 ∧ ∀ j, j < k → (s.toList.drop f).getD j 0 ≠ 32 := by
      rcases index_spec 32 (s.toList.drop f) with ⟨_, h9⟩ | h9
      · omega
      · exact h9
    rw [List.length_drop] at k2
    rw [getD_drop'] at k3
    have hix : Lib.indexByte (s.extract f s.toList.length).data.toList 32 = k := by rw [hdt]; exact k1
    have gst : ∀ x : ByteArray, (l.set (cutP s 32 f).length x).getD (cutP s 32 f).length default = x := fun x => getD_seti' (by omega)
    have hkk : ((k : Nat) : Int) + 1 = ((k + 1 : Nat) : Int) := by omega
    have hj := cut_jump (s := s) (c := 32) (f := f) (m := k) fun j g1 g2 => by
      have := k4 (j - f) (by omega)
      rwa [getD_drop', show f + (j - f) = j by omega] at this
    have hf' : cutF s 32 (f + k + 1) = f + k + 1 := by show (if s.toList.getD (f + k) 0 = 32 then _ else _) = _; rw [if_pos k3]
    have hp' : cutP s 32 (f + k + 1) = cutP s 32 f ++ [s.extract f (f + k)] := by show (if s.toList.getD (f + k) 0 = 32 then _ else _) = _; rw [if_pos k3, hj.1, hj.2, h2]
    have x1 : (s.extract f s.toList.length).extract 0 k = s.extract f (f + k) := ext_ext h1 (by omega)
    have x2 : (s.extract f s.toList.length).extract (k + 1) (s.toList.length - f) = s.extract (f + k + 1) s.toList.length := by rw [ext_ext h1 (Nat.le_refl _)]; congr 1; omega
    have hl1 : (cutP s 32 (f + k + 1)).length = (cutP s 32 f).length + 1 := by rw [hp', List.length_append]; rfl
    unfold lO_strings_genSplit_0; simp (config := { maxSteps := 2000000 }) only [bitvec_to_nat, reduceIte, Nat.reduceEqDiff, Nat.reduceAdd, Nat.reduceLeDiff, reduceCtorEq, Nat.reduceBEq, Nat.reduceLT, Nat.reduceMod, List.forall_mem_cons, retG_ret, retQ_eq, retQ_eqN, retOk, keepB, re_tupl, orr_t, t_Count, t_Index, tk_map, dp_map, toNat_pred, appE, rowsOf, List.take_length, List.length_cons, List.length_nil, Nat.zero_add, srow, irow, un_s, un_i, Zone.row, Zone_eta, un_Zone, Word.row, Word_eta, Own.row, Own_eta, Part.row, Part_eta, Seen.row, Seen_eta, Book.row, Book_eta, Sector.row, Sector_eta, HCraft.row, HCraft_eta, World.row, World_eta, PKind.row, PKind_eta, PPt.row, PPt_eta, Cell.row, Cell_eta, un_Word, un_Own, un_Part, un_Seen, un_Book, un_Sector, un_HCraft, un_World, un_PKind, un_PPt, un_Cell, List.nil_append, Int.toNat_natCast, List.length_map, tkl, repl_row, setS, hcn, hmn, hne, hix, hee, hsl, hm1, hct, hc1, hkk, List.length_set, List.length_replicate, gst, not_true_eq_false, not_false_eq_true, Nat.sub_zero, Int.add_zero]
    have hkt : ((k : Int) + ((1 : Nat) : Int)).toNat = k + 1 := by omega
    simp only [hll, hkt, x1, x2]
    repeat' (first | with_reducible apply And.intro | with_reducible intro _)
    all_goals first
      | omega
      | (refine hN (f + k + 1, l.set (cutP s 32 f).length (s.extract f (f + k))) _ (by simp only [hl1]; simp only [u_E0, u_E1, u_M0, u_M1, w_setE0, w_setE1, w_setM0, w_setM1, reduceIte, Nat.reduceEqDiff]; exact ⟨by repeat' (first | exact trivial | refine ⟨.inr rfl, ?_⟩), by repeat' (first | exact trivial | refine ⟨rfl, ?_⟩), by first | rfl | simp [closedB, refsIn, refsInL, refsInO, dom, refsInL_nr, *], by first | rfl | simp [keepB, dom]⟩) ⟨by simp only; omega, hf', by simp only [List.length_set]; exact h3, by simp only; omega, fun j hj => ?_⟩ (by simp only [hl1]; omega)
         simp only at hj ⊢
         rw [hp']
         by_cases e : j = (cutP s 32 f).length
         · subst e
           rw [getD_seti' (by omega)]; simp
         · rw [getD_setn' (Ne.symm e), h5 j (by omega)]
           simp only [List.getD_eq_getElem?_getD]
           rw [List.getElem?_append_left (by omega)])
      | (exfalso; omega)
      | trace_state
  · have e : (cutP s 32 f).length = s.toList.count 32 := by omega
    have hkk : ¬ (((cutP s 32 f).length : Nat) : Int) < (s.toList.count 32 : Nat) := by omega
    have hcu := cuts_of (c := 32) h1 h2 (by omega)
    have hlt := l.length_set (i := (cutP s 32 f).length) (a := s.extract f s.toList.length)
    have hres : l.set (cutP s 32 f).length (s.extract f s.toList.length) = cuts s 32 := ext_of (by rw [cuts_len, hlt]; exact h3) fun j hj => by
      rw [hcu]
      by_cases e : j = (cutP s 32 f).length
      · subst e; rw [getD_seti' (by omega)]; simp
      · have hj' : j < (cutP s 32 f).length := by rw [hlt] at hj; omega
        rw [getD_setn' (Ne.symm e), h5 j hj']
        simp only [List.getD_eq_getElem?_getD]
        rw [List.getElem?_append_left hj']
    have hcl2 := cuts_len (s := s) (c := 32)
    unfold lO_strings_genSplit_0; simp (config := { maxSteps := 2000000 }) only [bitvec_to_nat, reduceIte, Nat.reduceEqDiff, Nat.reduceAdd, Nat.reduceLeDiff, reduceCtorEq, Nat.reduceBEq, Nat.reduceLT, Nat.reduceMod, List.forall_mem_cons, retG_ret, retQ_eq, retQ_eqN, retOk, keepB, re_tupl, orr_t, t_Count, t_Index, tk_map, dp_map, toNat_pred, appE, rowsOf, List.take_length, List.length_cons, List.length_nil, Nat.zero_add, srow, irow, un_s, un_i, Zone.row, Zone_eta, un_Zone, Word.row, Word_eta, Own.row, Own_eta, Part.row, Part_eta, Seen.row, Seen_eta, Book.row, Book_eta, Sector.row, Sector_eta, HCraft.row, HCraft_eta, World.row, World_eta, PKind.row, PKind_eta, PPt.row, PPt_eta, Cell.row, Cell_eta, un_Word, un_Own, un_Part, un_Seen, un_Book, un_Sector, un_HCraft, un_World, un_PKind, un_PPt, un_Cell, List.nil_append, Int.toNat_natCast, List.length_map, tkl, repl_row, setS, hcn, hmn, hne, hix, hee, hsl, hm1, hct, hc1, hkk, List.length_set, List.length_replicate, gst, not_true_eq_false, not_false_eq_true, Nat.sub_zero, Int.add_zero]
    have hfi : (((cutP s 32 f).length : Nat) : Int) + 1 = (((cutP s 32 f).length + 1 : Nat) : Int) := by omega
    simp only [hres, hfi, Int.toNat_natCast]
    repeat' (first | with_reducible apply And.intro | with_reducible intro _)
    all_goals first
      | omega
      | (rw [List.take_of_length_le (show (cuts s 32).length ≤ (cutP s 32 f).length + 1 by omega)]; done)
      | (rw [List.take_of_length_le (show (cuts s 32).length ≤ (cutP s 32 f).length + 1 by omega)]; simp [hcl2, refsIn, refsInL, dom, e]; done)
      | (simp [hcl2, refsIn, refsInL, dom, e]; done)
      | trace_state
end
end Go.Ve

namespace Go.Ve
noncomputable section
open Go.Proofs
set_option linter.unusedSimpArgs false
set_option linter.unusedVariables false
set_option maxRecDepth 100000
open Go.Shelf Go.Lib Go.RowKit
def t_genSplit : List AV → Option (Prop × AV)
  | [.str s, .str c, .int .i64 a, .int .i64 b] => some ((c = ⟨#[32]⟩ ∧ a = 0 ∧ b = -1) ∧ s.toList.length ≤ 1048576, .sl 0 1 ((cuts s 32).map srow))
  | _ => none
theorem h_genSplit : ∀ args p v, t_genSplit args = some (p, v) → p → Contract P 101 args [] v [] ∧ noref v = true ∧ No99 v := by
  intro args p v h1 h2
  unfold t_genSplit at h1
  split at h1
  · rename_i s c a b
    cases h1
    obtain ⟨⟨rfl, rfl, rfl⟩, h3⟩ := h2
    exact ⟨c_genSplit s h3, rfl, by simp only [No99]; exact ⟨by omega, no99_str _⟩⟩
  · cases h1
theorem c_Split (s : ByteArray) (hs : s.toList.length ≤ 1048576) : Contract P 83 [.str s, .str ⟨#[32]⟩] [] (.sl 0 1 ((cuts s 32).map srow)) [] := by
  refine fn_sound ((Env.nil P).add 101 t_genSplit h_genSplit) hm k_strings_Split (Nat.le_of_ble_eq_true rfl) rfl ?_; unfold s_strings_Split; simp (config := { maxSteps := 2000000 }) only [bitvec_to_nat, reduceIte, Nat.reduceEqDiff, Nat.reduceAdd, Nat.reduceLeDiff, reduceCtorEq, Nat.reduceBEq, Nat.reduceLT, Nat.reduceMod, List.forall_mem_cons, t_genSplit, tk_map, dp_map, toNat_pred, appE, rowsOf, List.take_length, List.length_cons, List.length_nil, Nat.zero_add, srow, irow, un_s, un_i, Zone.row, Zone_eta, un_Zone, Word.row, Word_eta, Own.row, Own_eta, Part.row, Part_eta, Seen.row, Seen_eta, Book.row, Book_eta, Sector.row, Sector_eta, HCraft.row, HCraft_eta, World.row, World_eta, PKind.row, PKind_eta, PPt.row, PPt_eta, Cell.row, Cell_eta, un_Word, un_Own, un_Part, un_Seen, un_Book, un_Sector, un_HCraft, un_World, un_PKind, un_PPt, un_Cell]
  repeat' (first | with_reducible apply And.intro | with_reducible intro _)
  all_goals first | omega | rfl | trace_state
def t_Split : List AV → Option (Prop × AV)
  | [.str s, .str c] => some (c = ⟨#[32]⟩ ∧ s.toList.length ≤ 1048576, .sl 0 1 ((cuts s 32).map srow))
  | _ => none
theorem h_Split : ∀ args p v, t_Split args = some (p, v) → p → Contract P 83 args [] v [] ∧ noref v = true ∧ No99 v := by
  intro args p v h1 h2
  unfold t_Split at h1
  split at h1
  · rename_i s c
    cases h1
    obtain ⟨rfl, h3⟩ := h2
    exact ⟨c_Split s h3, rfl, by simp only [No99]; exact ⟨by omega, no99_str _⟩⟩
  · cases h1
theorem c_SplitO (s : ByteArray) (hs : s.toList.length ≤ 1048576) : Contract P 83 [.str s, .str ⟨#[32]⟩] [] (.own 131 0 0 (cuts s 32).length) [(131, .arr 9 0 1 ((cuts s 32).map srow))] := by
  refine fn_sound (Env.nil P) hm k_strings_Split (Nat.le_of_ble_eq_true rfl) rfl ?_; unfold s_strings_Split; simp (config := { maxSteps := 2000000 }) only [bitvec_to_nat, reduceIte, Nat.reduceEqDiff, Nat.reduceAdd, Nat.reduceLeDiff, reduceCtorEq, Nat.reduceBEq, Nat.reduceLT, Nat.reduceMod, List.forall_mem_cons, retG_ret, retQ_eq, retQ_eqN, retOk, keepB, re_tupl, orr_t, tk_map, dp_map, toNat_pred, appE, rowsOf, List.take_length, List.length_cons, List.length_nil, Nat.zero_add, srow, irow, un_s, un_i, Zone.row, Zone_eta, un_Zone, Word.row, Word_eta, Own.row, Own_eta, Part.row, Part_eta, Seen.row, Seen_eta, Book.row, Book_eta, Sector.row, Sector_eta, HCraft.row, HCraft_eta, World.row, World_eta, PKind.row, PKind_eta, PPt.row, PPt_eta, Cell.row, Cell_eta, un_Word, un_Own, un_Part, un_Seen, un_Book, un_Sector, un_HCraft, un_World, un_PKind, un_PPt, un_Cell]
  refine ⟨_, _, .inr (.inr (.inl ⟨_, rfl, c_genSplitO s hs, by simp [getM], by simp [refsIn, refsInL, dom], rfl, trivial, by simp [No99O, no99_str]⟩)), ?_⟩
  simp (config := { maxSteps := 2000000 }) only [bitvec_to_nat, reduceIte, Nat.reduceEqDiff, Nat.reduceAdd, Nat.reduceLeDiff, reduceCtorEq, Nat.reduceBEq, Nat.reduceLT, Nat.reduceMod, List.forall_mem_cons, retG_ret, retQ_eq, retQ_eqN, retOk, keepB, re_tupl, orr_t, tk_map, dp_map, toNat_pred, appE, rowsOf, List.take_length, List.length_cons, List.length_nil, Nat.zero_add, srow, irow, un_s, un_i, Zone.row, Zone_eta, un_Zone, Word.row, Word_eta, Own.row, Own_eta, Part.row, Part_eta, Seen.row, Seen_eta, Book.row, Book_eta, Sector.row, Sector_eta, HCraft.row, HCraft_eta, World.row, World_eta, PKind.row, PKind_eta, PPt.row, PPt_eta, Cell.row, Cell_eta, un_Word, un_Own, un_Part, un_Seen, un_Book, un_Sector, un_HCraft, un_World, un_PKind, un_PPt, un_Cell]
  repeat' (first | with_reducible apply And.intro | with_reducible intro _)
  all_goals first | omega | rfl | simp [refsIn, refsInL, dom] | trace_state
/-- The value of the first i bytes. -/
def dv (l : List UInt8) : Nat → Nat
  | 0 => 0
  | i + 1 => dv l i * 10 + ((l.getD i 0).toNat - 48)
def dig (b : UInt8) : Prop := 48 ≤ b.toNat ∧ b.toNat ≤ 57
instance (b : UInt8) : Decidable (dig b) := by unfold dig; infer_instance
def decOk (s : ByteArray) : Prop := ((1 ≤ s.toList.length ∧ s.toList.length ≤ 7) ∧ ¬ (1 < s.toList.length ∧ (s.toList.getD 0 0).toNat = 48)) ∧ ∀ i, i < s.toList.length → dig (s.toList.getD i 0)
noncomputable instance (s : ByteArray) : Decidable (decOk s) := Classical.propDecidable _
def decV (s : ByteArray) : Nat := dv s.toList s.toList.length
def number (s : ByteArray) : Int := if decOk s then decV s else -1
theorem dv_lt {l : List UInt8} : ∀ {i}, (∀ j, j < i → dig (l.getD j 0)) → dv l i < 10 ^ i
  | 0, _ => by simp [dv]
  | i + 1, h => by
    have ih := dv_lt (l := l) (i := i) fun j hj => h j (by omega)
    have := h i (by omega)
    unfold dig at this
    simp only [dv, Nat.pow_succ]; omega
theorem dv_b {l : List UInt8} {i : Nat} (h : ∀ j, j < i → dig (l.getD j 0)) (hi : i ≤ 7) : dv l i < 10000000 := by
  have := dv_lt h
  exact Nat.lt_of_lt_of_le this (by
    have := Nat.pow_le_pow_right (n := 10) (by omega) hi
    simpa using this)
theorem dv_cons {b : UInt8} {l : List UInt8} : ∀ i, dv (b :: l) (i + 1) = (b.toNat - 48) * 10 ^ i + dv l i
  | 0 => by simp [dv]
  | i + 1 => by
    have ih := dv_cons (b := b) (l := l) i
    rw [show dv (b :: l) (i + 1 + 1) = dv (b :: l) (i + 1) * 10 + ((l.getD i 0).toNat - 48) from rfl, ih]
    simp only [dv, Nat.pow_succ]
    rw [Nat.add_mul, Nat.mul_assoc]; omega
theorem decFrom_dv : ∀ (l : List UInt8) (a : Nat), (∀ j, j < l.length → dig (l.getD j 0)) → Lib.decFrom a l = some (a * 10 ^ l.length + dv l l.length)
  | [], a, _ => by simp [Lib.decFrom, dv]
  | b :: l, a, h => by
    have hb : dig b := h 0 (by simp)
    have ih := decFrom_dv l (a * 10 + (b.toNat - 48)) fun j hj => h (j + 1) (by simp; omega)
    have hd : Lib.digitVal b = some (b.toNat - 48) := by unfold Lib.digitVal; exact if_pos hb
    simp only [Lib.decFrom, hd, ih, List.length_cons, dv_cons, Nat.pow_succ]
    congr 1
    rw [Nat.add_mul, Nat.mul_assoc, Nat.mul_comm 10]; omega
theorem atoi_dv {l : List UInt8} (h0 : 1 ≤ l.length) (h : ∀ j, j < l.length → dig (l.getD j 0)) : Lib.atoi l = some ((dv l l.length : Nat) : Int) := by
  have hd := decFrom_dv l 0 h
  cases l with
  | nil => simp at h0
  | cons b l =>
    have hb : dig b := h 0 (by simp)
    unfold dig at hb
    have n1 : ¬ b = 45 := fun e => by subst e; simp at hb
    have n2 : ¬ b = 43 := fun e => by subst e; simp at hb
    simp only [Lib.atoi, beq_iff_eq, n1, n2, if_false, Lib.decNat, List.isEmpty_cons, Bool.false_eq_true, hd]
    simp
theorem dig_mem {b : UInt8} : digL.contains b = true ↔ dig b := by
  have h : ∀ k : Fin 256, digL.contains (UInt8.ofNat k.val) = true ↔ dig (UInt8.ofNat k.val) := by decide
  have := h ⟨b.toNat, b.toNat_lt⟩
  simpa using this
theorem trim_nil {l : List UInt8} : Lib.trimS l digL = [] ↔ ∀ j, j < l.length → dig (l.getD j 0) := by
  have dw : ∀ l : List UInt8, l.dropWhile (digL.contains ·) = [] ↔ ∀ x ∈ l, digL.contains x = true := fun l => by
    induction l with
    | nil => simp
    | cons a l ih =>
      simp only [List.dropWhile_cons, List.forall_mem_cons]
      by_cases h : digL.contains a = true
      · rw [if_pos h, ih]; exact ⟨fun k => ⟨h, k⟩, fun k => k.2⟩
      · rw [if_neg h]; exact ⟨fun k => absurd k (by simp), fun k => absurd k.1 h⟩
  have hdl : ∀ l : List UInt8, ∀ x ∈ l.dropWhile (digL.contains ·), x ∈ l := fun l x h => (List.dropWhile_sublist _).subset h
  have key : Lib.trimS l digL = [] ↔ ∀ x ∈ l, digL.contains x = true := by
    unfold Lib.trimS Lib.trimLeftS Lib.trimRightS
    rw [dw]
    constructor
    · intro h
      by_cases hn : l.reverse.dropWhile (digL.contains ·) = []
      · intro x hx; exact (dw _).1 hn x (by simpa using hx)
      · exfalso
        have hne := List.head_dropWhile_not (digL.contains ·) hn
        have := h _ (List.mem_reverse.2 (List.head_mem hn))
        rw [this] at hne; exact absurd hne (by decide)
    · intro h x hx
      exact h x (List.mem_reverse.1 (hdl _ x (List.mem_reverse.1 hx)))
  rw [key]
  constructor
  · intro h j hj
    exact dig_mem.1 (h _ (by simp [hj]))
  · intro h x hx
    obtain ⟨j, hj, rfl⟩ := List.mem_iff_getElem.1 hx
    have := h j hj
    simp [hj] at this
    exact dig_mem.2 this
theorem trimD_nil {s : ByteArray} : trimD s = ⟨#[]⟩ ↔ ∀ j, j < s.toList.length → dig (s.toList.getD j 0) := by
  have := trim_nil (l := s.toList)
  rw [← this, trimD, ← tl_data]
  constructor
  · intro h
    have := congrArg (fun b : ByteArray => b.data.toList) h
    simpa using this
  · intro h; rw [h]
end
end Go.Ve

namespace Go.Ve
noncomputable section
open Go.Proofs
set_option linter.unusedSimpArgs false
set_option linter.unusedVariables false
set_option maxRecDepth 100000
theorem dv_succ {l : List UInt8} {i : Nat} (h : dig (l.getD i 0)) : ((dv l (i + 1) : Nat) : Int) = (dv l i : Nat) * 10 + ((l.getD i 0).toNat : Int) - 48 := by
  unfold dig at h
  simp only [dv]; omega
theorem c_l12Number (s : ByteArray) : Contract P 46 [.str s] [] (.int .i64 (number s)) [] := by
  have hw : True := trivial
  refine fn_sound ((Env.nil P).add 45 t_l11In h_l11In) hm k_spec_l12Number (Nat.le_of_ble_eq_true rfl) rfl ?_; unfold s_spec_l12Number; simp (config := { maxSteps := 2000000 }) only [bitvec_to_nat, reduceIte, Nat.reduceEqDiff, Nat.reduceAdd, Nat.reduceLeDiff, reduceCtorEq, Nat.reduceBEq, Nat.reduceLT, Nat.reduceMod, List.forall_mem_cons, t_l11In, tk_map, dp_map, toNat_pred, appE, rowsOf, List.take_length, List.length_cons, List.length_nil, Nat.zero_add, srow, irow, un_s, un_i, Zone.row, Zone_eta, un_Zone, Word.row, Word_eta, Own.row, Own_eta, Part.row, Part_eta, Seen.row, Seen_eta, Book.row, Book_eta, Sector.row, Sector_eta, HCraft.row, HCraft_eta, World.row, World_eta, PKind.row, PKind_eta, PPt.row, PPt_eta, Cell.row, Cell_eta, un_Word, un_Own, un_Part, un_Seen, un_Book, un_Sector, un_HCraft, un_World, un_PKind, un_PPt, un_Cell, Int.toNat_natCast, hw]
  have no : ¬ decOk s → number s = -1 := fun h => if_neg h
  repeat' (first | with_reducible apply And.intro | with_reducible intro _)
  all_goals first
    | omega
    | (rw [no (by intro h; have h1 := h.1; omega)]; done)
    | skip
  all_goals
    refine loop_st (fun i : Nat => [(3, .int .i64 (dv s.toList i)), (4, .int .i64 i)]) (fun _ => []) (fun i => i ≤ s.toList.length ∧ ∀ j, j < i → dig (s.toList.getD j 0)) (fun i => s.toList.length - i) 0 (by simp only [u_E0, u_E1, u_M0, u_M1, w_setE0, w_setE1, w_setM0, w_setM1, reduceIte, Nat.reduceEqDiff]; exact ⟨by repeat' (first | exact trivial | refine ⟨.inr rfl, ?_⟩), by repeat' (first | exact trivial | refine ⟨rfl, ?_⟩), by first | rfl | simp [closedB, refsIn, refsInL, refsInO, dom, refsInL_nr, *], by first | rfl | simp [keepB, dom]⟩) ⟨Nat.zero_le _, fun j h => absurd h (Nat.not_lt_zero _)⟩ ?_
    rintro i ⟨hi, h1⟩ NX hN
    have hb := dv_b h1 (by omega)
    have hlt := (s.toList.getD i 0).toNat_lt
    have hw : IntKind.i64.wrap ((s.toList.getD i 0).toNat : Int) = ((s.toList.getD i 0).toNat : Int) := i64_in' (by omega)
    by_cases h : i < s.toList.length
    · have hsu := dv_succ (l := s.toList) (i := i)
      unfold l_spec_l12Number_0; simp (config := { maxSteps := 2000000 }) only [bitvec_to_nat, reduceIte, Nat.reduceEqDiff, Nat.reduceAdd, Nat.reduceLeDiff, reduceCtorEq, Nat.reduceBEq, Nat.reduceLT, Nat.reduceMod, List.forall_mem_cons, t_l11In, tk_map, dp_map, toNat_pred, appE, rowsOf, List.take_length, List.length_cons, List.length_nil, Nat.zero_add, srow, irow, un_s, un_i, Zone.row, Zone_eta, un_Zone, Word.row, Word_eta, Own.row, Own_eta, Part.row, Part_eta, Seen.row, Seen_eta, Book.row, Book_eta, Sector.row, Sector_eta, HCraft.row, HCraft_eta, World.row, World_eta, PKind.row, PKind_eta, PPt.row, PPt_eta, Cell.row, Cell_eta, un_Word, un_Own, un_Part, un_Seen, un_Book, un_Sector, un_HCraft, un_World, un_PKind, un_PPt, un_Cell, Int.toNat_natCast, hw]
      repeat' (first | with_reducible apply And.intro | with_reducible intro _)
      all_goals first
        | omega
        | (rw [no (fun h9 => by have := h9.2 i h; unfold dig at this; omega)]; done)
        | (have hd : dig (s.toList.getD i 0) := by unfold dig; omega
           refine hN (i + 1) _ (by simp only [hsu hd]; simp only [u_E0, u_E1, u_M0, u_M1, w_setE0, w_setE1, w_setM0, w_setM1, reduceIte, Nat.reduceEqDiff]; exact ⟨by repeat' (first | exact trivial | refine ⟨.inr rfl, ?_⟩), by repeat' (first | exact trivial | refine ⟨rfl, ?_⟩), by first | rfl | simp [closedB, refsIn, refsInL, refsInO, dom, refsInL_nr, *], by first | rfl | simp [keepB, dom]⟩) ⟨h, all_snoc h1 hd⟩ (by omega))
        | trace_state
    · have e : i = s.toList.length := by omega
      subst e
      unfold l_spec_l12Number_0; simp (config := { maxSteps := 2000000 }) only [bitvec_to_nat, reduceIte, Nat.reduceEqDiff, Nat.reduceAdd, Nat.reduceLeDiff, reduceCtorEq, Nat.reduceBEq, Nat.reduceLT, Nat.reduceMod, List.forall_mem_cons, t_l11In, tk_map, dp_map, toNat_pred, appE, rowsOf, List.take_length, List.length_cons, List.length_nil, Nat.zero_add, srow, irow, un_s, un_i, Zone.row, Zone_eta, un_Zone, Word.row, Word_eta, Own.row, Own_eta, Part.row, Part_eta, Seen.row, Seen_eta, Book.row, Book_eta, Sector.row, Sector_eta, HCraft.row, HCraft_eta, World.row, World_eta, PKind.row, PKind_eta, PPt.row, PPt_eta, Cell.row, Cell_eta, un_Word, un_Own, un_Part, un_Seen, un_Book, un_Sector, un_HCraft, un_World, un_PKind, un_PPt, un_Cell, Int.toNat_natCast, hw]
      have hok : decOk s := ⟨⟨by omega, by omega⟩, h1⟩
      refine ⟨fun h' => absurd h' (by omega), fun _ => ?_⟩
      rw [number, if_pos hok]; rfl
def t_l12Number : List AV → Option (Prop × AV)
  | [.str s] => some ((True) ∧ (True), .int .i64 (number s))
  | _ => none
theorem h_l12Number : ∀ args p v, t_l12Number args = some (p, v) → p → Contract P 46 args [] v [] ∧ noref v = true ∧ No99 v := by
  intro args p v h1 h2
  unfold t_l12Number at h1
  split at h1
  · rename_i s
    cases h1
    obtain ⟨_, HP⟩ := h2
    have := c_l12Number s
    exact ⟨this, rfl, trivial⟩
  · cases h1
def t_Trim : List AV → Option (Prop × AV)
  | [.str s, .str c] => some (c = ⟨#[48, 49, 50, 51, 52, 53, 54, 55, 56, 57]⟩ ∧ s.toList.length ≤ 9223372036854775807, .str (trimD s))
  | _ => none
theorem h_Trim : ∀ args p v, t_Trim args = some (p, v) → p → Contract P 104 args [] v [] ∧ noref v = true ∧ No99 v := by
  intro args p v h1 h2
  unfold t_Trim at h1
  split at h1
  · rename_i s c
    cases h1
    obtain ⟨rfl, h3⟩ := h2
    exact ⟨c_Trim s h3, rfl, trivial⟩
  · cases h1
theorem empty_iff {s : ByteArray} : s = ⟨#[]⟩ ↔ s.toList.length = 0 := by
  constructor
  · rintro rfl; rw [← toList_size]; rfl
  · intro h
    exact ba_ext (by rw [List.eq_nil_of_length_eq_zero h]; exact (List.eq_nil_of_length_eq_zero (by rw [← toList_size]; rfl)).symm)
theorem zero_str_len : (⟨#[48]⟩ : ByteArray).toList.length = 1 := by rw [← toList_size]; rfl
theorem zero_str {s : ByteArray} (h0 : (s.toList.getD 0 0).toNat = 48) : s = ⟨#[48]⟩ ↔ s.toList.length = 1 := by
  constructor
  · rintro rfl; exact zero_str_len
  · intro h
    apply ba_ext
    match hl : s.toList, h with
    | [a], _ =>
      rw [hl] at h0
      have : a = 48 := by apply UInt8.toNat_inj.1; simpa using h0
      rw [this, tl_data]
set_option maxHeartbeats 1000000 in
theorem c_decimal (s : ByteArray) (hs : s.toList.length ≤ 1048576) : Contract P 86 [.str s, .int .i64 7] [] (.tup [.int .i64 (if decOk s then (decV s : Nat) else 0), .bool (decide (decOk s))]) [] := by
  have he := empty_iff (s := s)
  have htr := trimD_nil (s := s)
  have no : ¬ decOk s → (if decOk s then ((decV s : Nat) : Int) else 0) = 0 := fun h => if_neg h
  have n1 : s = ⟨#[]⟩ → ¬ decOk s := fun h h9 => by have h8 := h9.1; have := he.1 h; omega
  have n2 : 7 < ((s.toList.length : Nat) : Int) → ¬ decOk s := fun h h9 => by have h8 := h9.1; omega
  have n3 : ¬ trimD s = ⟨#[]⟩ → ¬ decOk s := fun h h9 => h (htr.2 h9.2)
  have n4 : ((s.toList.getD 0 0).toNat : Int) = 48 → ¬ s = ⟨#[48]⟩ → ¬ s = ⟨#[]⟩ → ¬ decOk s := fun h h7 h6 h9 => by
    have h8 := h9.1
    have e1 := zero_str (s := s) (by omega)
    have e2 : ¬ s.toList.length = 1 := fun k => h7 (e1.2 k)
    omega
  have pl : ¬ s = ⟨#[]⟩ → 0 < s.toList.length := fun h => by
    rcases Nat.eq_zero_or_pos s.toList.length with k | k
    · exact absurd (he.2 k) h
    · exact k
  have ok : ¬ s = ⟨#[]⟩ → ¬ 7 < ((s.toList.length : Nat) : Int) → trimD s = ⟨#[]⟩ → (((s.toList.getD 0 0).toNat : Int) = 48 → s = ⟨#[48]⟩) → decOk s := fun h1 h2 h3 h4 => by
    refine ⟨⟨by have := pl h1; omega, fun ⟨k1, k2⟩ => ?_⟩, htr.1 h3⟩
    have e1 := (zero_str (s := s) k2).1 (h4 (by omega))
    omega
  refine fn_sound ((Env.nil P).add 104 t_Trim h_Trim) hm k_impl_decimal (Nat.le_of_ble_eq_true rfl) rfl ?_; unfold s_impl_decimal; simp (config := { maxSteps := 2000000 }) only [bitvec_to_nat, reduceIte, Nat.reduceEqDiff, Nat.reduceAdd, Nat.reduceLeDiff, reduceCtorEq, Nat.reduceBEq, Nat.reduceLT, Nat.reduceMod, List.forall_mem_cons, t_Trim, tk_map, dp_map, toNat_pred, appE, rowsOf, List.take_length, List.length_cons, List.length_nil, Nat.zero_add, srow, irow, un_s, un_i, Zone.row, Zone_eta, un_Zone, Word.row, Word_eta, Own.row, Own_eta, Part.row, Part_eta, Seen.row, Seen_eta, Book.row, Book_eta, Sector.row, Sector_eta, HCraft.row, HCraft_eta, World.row, World_eta, PKind.row, PKind_eta, PPt.row, PPt_eta, Cell.row, Cell_eta, un_Word, un_Own, un_Part, un_Seen, un_Book, un_Sector, un_HCraft, un_World, un_PKind, un_PPt, un_Cell, Int.toNat_natCast]
  repeat' (first | with_reducible apply And.intro | with_reducible intro _)
  all_goals first
    | omega
    | (have := pl (by assumption); omega)
    | (have hn : ¬ decOk s := by first | exact n1 (by assumption) | exact n2 (by assumption) | exact n3 (by assumption) | exact n4 (by assumption) (by assumption) (by assumption)
       first
         | exact hn
         | (rw [no hn]))
    | (have hk : decOk s := ok (by assumption) (by assumption) (by assumption) (fun h => by first | assumption | exact absurd h (by assumption))
       have hA := c_Atoi s (decV s) (by have := hk.1; omega) (by rw [← tl_data]; exact atoi_dv hk.1.1.1 hk.2)
       refine ⟨_, _, .inl ⟨[], hA, by simp, by simp, rfl, rfl, rfl, rfl, rfl⟩, ?_⟩
       simp (config := { maxSteps := 2000000 }) only [bitvec_to_nat, reduceIte, Nat.reduceEqDiff, Nat.reduceAdd, Nat.reduceLeDiff, reduceCtorEq, Nat.reduceBEq, Nat.reduceLT, Nat.reduceMod, List.forall_mem_cons, t_Trim, tk_map, dp_map, toNat_pred, appE, rowsOf, List.take_length, List.length_cons, List.length_nil, Nat.zero_add, srow, irow, un_s, un_i, Zone.row, Zone_eta, un_Zone, Word.row, Word_eta, Own.row, Own_eta, Part.row, Part_eta, Seen.row, Seen_eta, Book.row, Book_eta, Sector.row, Sector_eta, HCraft.row, HCraft_eta, World.row, World_eta, PKind.row, PKind_eta, PPt.row, PPt_eta, Cell.row, Cell_eta, un_Word, un_Own, un_Part, un_Seen, un_Book, un_Sector, un_HCraft, un_World, un_PKind, un_PPt, un_Cell, Int.toNat_natCast]
       simp [hk])
    | trace_state
def t_decimal : List AV → Option (Prop × AV)
  | [.str s, .int .i64 m] => some (m = 7 ∧ s.toList.length ≤ 1048576, .tup [.int .i64 (if decOk s then (decV s : Nat) else 0), .bool (decide (decOk s))])
  | _ => none
theorem h_decimal : ∀ args p v, t_decimal args = some (p, v) → p → Contract P 86 args [] v [] ∧ noref v = true ∧ No99 v := by
  intro args p v h1 h2
  unfold t_decimal at h1
  split at h1
  · rename_i s m
    cases h1
    obtain ⟨rfl, h3⟩ := h2
    exact ⟨c_decimal s h3, rfl, by simp [No99, No99L]⟩
  · cases h1
end
end Go.Ve

namespace Go.Ve
noncomputable section
open Go.Proofs
set_option linter.unusedSimpArgs false
set_option linter.unusedVariables false
set_option maxRecDepth 100000
theorem c_IndexFunc_PKind (g : FuncId) (hg : calleeB P g = true) (ls : List AV) (hls : norefL ls = true) (p : PKind → Bool) (t : Nat) (zs : List PKind) (hl : zs.length ≤ 4611686018427387904)
    (hC : ∀ z, Contract P g (.agg (PKind.row z) :: [.ptr 3 0]) [(3, .box ls)] (.bool (p z)) [(3, .box ls)]) : Contract P 102 [.sl t 3 (zs.map PKind.row), .fn g [] [.ptr 3 0]] [(3, .box ls)] (.int .i64 (fIdx p zs)) [(3, .box ls)] := by
  refine fn_sound (Env.nil P) hm k_slices_IndexFunc_PlanKind (Nat.le_of_ble_eq_true rfl) rfl ?_; unfold s_slices_IndexFunc_PlanKind; simp (config := { maxSteps := 2000000 }) only [bitvec_to_nat, reduceIte, Nat.reduceEqDiff, Nat.reduceAdd, Nat.reduceLeDiff, reduceCtorEq, Nat.reduceBEq, Nat.reduceLT, Nat.reduceMod, List.forall_mem_cons, retG_ret, retQ_eq, retQ_eqN, retOk, keepB, re_tupl, orr_t, callL_nil]
  refine loop_st (fun i : Nat => [(8, .int .i64 i)]) (fun _ => []) (fun i => i ≤ zs.length ∧ ∀ j, j < i → p (zs.getD j default) = false) (fun i => zs.length - i) (0) (by simp only [u_E0, u_E1, u_M0, u_M1, w_setE0, w_setE1, w_setM0, w_setM1, reduceIte, Nat.reduceEqDiff]; exact ⟨by repeat' (first | exact trivial | refine ⟨.inr rfl, ?_⟩), by repeat' (first | exact trivial | refine ⟨rfl, ?_⟩), by first | rfl | simp [closedB, refsIn, refsInL, refsInO, dom, refsInL_nr, *], by first | rfl | simp [keepB, dom]⟩) ?_ ?_
  · exact ⟨Nat.zero_le _, by intro j hj; omega⟩
  intro i hi NX hN
  unfold l_slices_IndexFunc_PlanKind_0; simp (config := { maxSteps := 2000000 }) only [bitvec_to_nat, reduceIte, Nat.reduceEqDiff, Nat.reduceAdd, Nat.reduceLeDiff, reduceCtorEq, Nat.reduceBEq, Nat.reduceLT, Nat.reduceMod, List.forall_mem_cons, retG_ret, retQ_eq, retQ_eqN, retOk, keepB, re_tupl, orr_t, callL_nil, PKind_len, PKind_take]
  refine ⟨fun h1 => ⟨by omega, by omega, hg, _, _, .inl ⟨[(3, .box ls)], hC (zs.getD i default), ?_, ?_, ?_, ?_, ?_, rfl, ?_⟩, ?_⟩, fun h1 => ?_⟩
  · simp [getM]
  · intro q hq; left; revert q; simp [dom]
  · simp [dom]
  · simp [refsInL, refsIn, dom, refsInL_nr, PKind_nr]
  · simp [refsInO, refsInL_nr, *]
  · simp [refsInO, refsInL_nr, *]
  · simp (config := { maxSteps := 2000000 }) only [bitvec_to_nat, reduceIte, Nat.reduceEqDiff, Nat.reduceAdd, Nat.reduceLeDiff, reduceCtorEq, Nat.reduceBEq, Nat.reduceLT, Nat.reduceMod, List.forall_mem_cons, retG_ret, retQ_eq, retQ_eqN, retOk, keepB, re_tupl, orr_t, callL_nil]
    refine ⟨fun h2 => ?_, fun h2 => ?_⟩
    · simp (config := { maxSteps := 2000000 }) only [bitvec_to_nat, reduceIte, Nat.reduceEqDiff, Nat.reduceAdd, Nat.reduceLeDiff, reduceCtorEq, Nat.reduceBEq, Nat.reduceLT, Nat.reduceMod, List.forall_mem_cons, retG_ret, retQ_eq, retQ_eqN, retOk, keepB, re_tupl, orr_t, callL_nil]
      rw [fIdx_at (by omega) h2 hi.2]
      simp [dom, refsInL_nr, *]
    · simp (config := { maxSteps := 2000000 }) only [bitvec_to_nat, reduceIte, Nat.reduceEqDiff, Nat.reduceAdd, Nat.reduceLeDiff, reduceCtorEq, Nat.reduceBEq, Nat.reduceLT, Nat.reduceMod, List.forall_mem_cons, retG_ret, retQ_eq, retQ_eqN, retOk, keepB, re_tupl, orr_t, callL_nil]
      refine ⟨by omega, ?_⟩
      refine hN (i + 1) _ (by simp only [u_E0, u_E1, u_M0, u_M1, w_setE0, w_setE1, w_setM0, w_setM1, reduceIte, Nat.reduceEqDiff]; exact ⟨by repeat' (first | exact trivial | refine ⟨.inr rfl, ?_⟩), by repeat' (first | exact trivial | refine ⟨rfl, ?_⟩), by first | rfl | simp [closedB, refsIn, refsInL, refsInO, dom, refsInL_nr, *], by first | rfl | simp [keepB, dom]⟩) ?_ ?_
      · exact ⟨by omega, all_snoc hi.2 h2⟩
      · omega
  · rw [fIdx_none fun j hj => hi.2 j (by omega)]
    simp [dom, refsInL_nr, *]
def kIdx (l : List PKind) (s : ByteArray) : Int := fIdx (fun p => decide (p.nm = s)) l
theorem c_kind1 (z : PKind) (s : ByteArray) : Contract P 103 [.agg z.row, .ptr 3 0] [(3, .box [.str s])] (.bool (decide (z.nm = s))) [(3, .box [.str s])] := by
  simp only [PKind.row]
  refine fn_sound (Env.nil P) hm k_impl_PlanBase_kind_1 (Nat.le_of_ble_eq_true rfl) rfl ?_; unfold s_impl_PlanBase_kind_1; simp (config := { maxSteps := 2000000 }) only [bitvec_to_nat, reduceIte, Nat.reduceEqDiff, Nat.reduceAdd, Nat.reduceLeDiff, reduceCtorEq, Nat.reduceBEq, Nat.reduceLT, Nat.reduceMod, List.forall_mem_cons, retG_ret, retQ_eq, retQ_eqN, retOk, keepB, re_tupl, orr_t, PKind_eta]
  all_goals simp [dom]
def r_kindI : RTab
  | [.sl zt 3 zx, .fn 103 [] [.ptr ob off]], M => match M ob with
    | some (.box [.str s]) => some ⟨off = 0 ∧ (zx.map unPKind).map PKind.row = zx ∧ (zx.map unPKind).length ≤ 4611686018427387904, fun _ : Unit => True, fun _ => .int .i64 (fIdx (fun z => decide (z.nm = s)) (zx.map unPKind)), fun _ => [(ob, .box [.str s])]⟩
    | _ => none
  | _, _ => none
theorem h_kindI : okTab P 102 r_kindI := by
  intro args M o h hp
  unfold r_kindI at h
  split at h
  · rename_i zt zx ob off
    split at h
    · rename_i s hM
      cases h
      obtain ⟨rfl, e0, HP⟩ := hp
      have hC := c_IndexFunc_PKind 103 (by kernel_rfl) _ rfl (fun z => decide (z.nm = s)) zt (zx.map unPKind) HP fun z => c_kind1 z s
      simp only [e0, decide_eq_true_eq] at hC
      exact ⟨(), trivial, callR_box _ hC (by simp [norefL, noref]) rfl (by assumption) (by simp [renL, ren, swp]) (by simp [refsInL, refsIn, noref])⟩
    · cases h
  · cases h
theorem c_iKind (t t' : Nat) (ks : List PKind) (ps : List PPt) (nm : ByteArray) (hk : ks.length ≤ 1048576) : Contract P 84 [.agg [.sl t 3 (ks.map PKind.row), .sl t' 3 (ps.map PPt.row)], .str nm] [] (.int .i64 (kIdx ks nm)) [] := by
  refine fn_sound ((Env.nil P).addR 102 r_kindI h_kindI) hm k_impl_PlanBase_kind (Nat.le_of_ble_eq_true rfl) rfl ?_; unfold s_impl_PlanBase_kind; simp (config := { maxSteps := 2000000 }) only [bitvec_to_nat, reduceIte, Nat.reduceEqDiff, Nat.reduceAdd, Nat.reduceLeDiff, reduceCtorEq, Nat.reduceBEq, Nat.reduceLT, Nat.reduceMod, List.forall_mem_cons, retG_ret, retQ_eq, retQ_eqN, retOk, keepB, re_tupl, orr_t, r_kindI, un_PKind]
  exact ⟨by omega, fun _ => rfl⟩
theorem kIdx_at {l : List PKind} {nm : ByteArray} (h : 0 ≤ kIdx l nm) : (kIdx l nm).toNat < l.length ∧ (l.getD (kIdx l nm).toNat default).nm = nm ∧ kIdx l nm < l.length := by
  unfold kIdx at *
  rcases fIdx_spec (fun p : PKind => decide (p.nm = nm)) l with ⟨h1, h2⟩ | ⟨i, h1, h2, h3, _⟩
  · omega
  · rw [h1]; exact ⟨by simpa using h2, by simpa using h3, by omega⟩
def t_iKind : List AV → Option (Prop × AV)
  | [.agg [.sl t 3 kx, .sl t' 3 px], .str nm] => some (((kx.map unPKind).map PKind.row = kx ∧ (px.map unPPt).map PPt.row = px) ∧ ((kx.map unPKind).length ≤ 1048576), .int .i64 (kIdx (kx.map unPKind) nm))
  | _ => none
theorem h_iKind : ∀ args p v, t_iKind args = some (p, v) → p → Contract P 84 args [] v [] ∧ noref v = true ∧ No99 v := by
  intro args p v h1 h2
  unfold t_iKind at h1
  split at h1
  · rename_i t kx t' px nm
    cases h1
    obtain ⟨⟨e1, e2⟩, h3⟩ := h2
    have := c_iKind t t' (kx.map unPKind) (px.map unPPt) nm h3
    simp only [e1, e2] at this
    exact ⟨this, rfl, trivial⟩
  · cases h1
theorem c_l11Kind (t t' : Nat) (ks : List PKind) (ps : List PPt) (nm : ByteArray) (hk : ks.length ≤ 1048576) : Contract P 43 [.agg [.sl t 3 (ks.map PKind.row), .sl t' 3 (ps.map PPt.row)], .str nm] [] (.int .i64 (kIdx ks nm)) [] := by
  refine fn_sound (Env.nil P) hm k_spec_l11Kind (Nat.le_of_ble_eq_true rfl) rfl ?_; unfold s_spec_l11Kind; simp (config := { maxSteps := 2000000 }) only [bitvec_to_nat, reduceIte, Nat.reduceEqDiff, Nat.reduceAdd, Nat.reduceLeDiff, reduceCtorEq, Nat.reduceBEq, Nat.reduceLT, Nat.reduceMod, List.forall_mem_cons, PKind.row, PKind_eta, PPt.row, PPt_eta, un_PPt, un_PKind, tk_map, dp_map, toNat_pred, Int.toNat_natCast, Nat.sub_zero, Nat.zero_add, List.length_map]
  refine loop_st (fun i : Nat => [(5, .int .i64 i)]) (fun _ => []) (fun i => i ≤ ks.length ∧ ∀ j, j < i → decide ((ks.getD j default).nm = nm) = false) (fun i => ks.length - i) (0) (by simp only [u_E0, u_E1, u_M0, u_M1, w_setE0, w_setE1, w_setM0, w_setM1, reduceIte, Nat.reduceEqDiff]; exact ⟨by repeat' (first | exact trivial | refine ⟨.inr rfl, ?_⟩), by repeat' (first | exact trivial | refine ⟨rfl, ?_⟩), by first | rfl | simp [closedB, refsIn, refsInL, refsInO, dom, refsInL_nr, *], by first | rfl | simp [keepB, dom]⟩) ?_ ?_
  · exact ⟨Nat.zero_le _, by intro j hj; omega⟩
  intro i hi NX hN
  unfold l_spec_l11Kind_0; simp (config := { maxSteps := 2000000 }) only [bitvec_to_nat, reduceIte, Nat.reduceEqDiff, Nat.reduceAdd, Nat.reduceLeDiff, reduceCtorEq, Nat.reduceBEq, Nat.reduceLT, Nat.reduceMod, List.forall_mem_cons, PKind.row, PKind_eta, PPt.row, PPt_eta, un_PPt, un_PKind, tk_map, dp_map, toNat_pred, Int.toNat_natCast, Nat.sub_zero, Nat.zero_add, List.length_map]
  
  repeat' (first | with_reducible apply And.intro | with_reducible intro _)
  all_goals first
    | omega
    | (refine hN (i + 1) _ (by simp only [u_E0, u_E1, u_M0, u_M1, w_setE0, w_setE1, w_setM0, w_setM1, reduceIte, Nat.reduceEqDiff]; exact ⟨by repeat' (first | exact trivial | refine ⟨.inr rfl, ?_⟩), by repeat' (first | exact trivial | refine ⟨rfl, ?_⟩), by first | rfl | simp [closedB, refsIn, refsInL, refsInO, dom, refsInL_nr, *], by first | rfl | simp [keepB, dom]⟩) ?_ ?_
       · exact ⟨by omega, all_snoc hi.2 (by simpa using ‹¬ _›)⟩
       · omega)
    | (unfold kIdx; rw [fIdx_at (i := i) (by omega) (by simpa using ‹_›) hi.2])
    | (unfold kIdx; rw [fIdx_none fun j hj => hi.2 j (by omega)])
def t_l11Kind : List AV → Option (Prop × AV)
  | [.agg [.sl t 3 kx, .sl t' 3 px], .str nm] => some (((kx.map unPKind).map PKind.row = kx ∧ (px.map unPPt).map PPt.row = px) ∧ ((kx.map unPKind).length ≤ 1048576), .int .i64 (kIdx (kx.map unPKind) nm))
  | _ => none
theorem h_l11Kind : ∀ args p v, t_l11Kind args = some (p, v) → p → Contract P 43 args [] v [] ∧ noref v = true ∧ No99 v := by
  intro args p v h1 h2
  unfold t_l11Kind at h1
  split at h1
  · rename_i t kx t' px nm
    cases h1
    obtain ⟨⟨e1, e2⟩, h3⟩ := h2
    have := c_l11Kind t t' (kx.map unPKind) (px.map unPPt) nm h3
    simp only [e1, e2] at this
    exact ⟨this, rfl, trivial⟩
  · cases h1
def dvs (ws : List ByteArray) (i : Nat) : List Int := (ws.take i).map fun w => ((decV w : Nat) : Int)
theorem dvs_len {ws : List ByteArray} {i : Nat} (h : i ≤ ws.length) : (dvs ws i).length = i := by simp [dvs]; omega
theorem dvs_succ {ws : List ByteArray} {i : Nat} (h : i < ws.length) : (dvs ws i).map irow ++ [[.int .i64 ((decV (ws.getD i default) : Nat) : Int)]] = (dvs ws (i + 1)).map irow := by
  rw [dvs, dvs, List.take_succ_eq_append_getElem h, List.map_append, List.map_append]; simp [h, irow, -List.map_map]
def allDec (ws : List ByteArray) : Prop := ∀ i, i < ws.length → decOk (ws.getD i default)
noncomputable instance (ws : List ByteArray) : Decidable (allDec ws) := Classical.propDecidable _
def decsL (ws : List ByteArray) : List Int := if allDec ws then dvs ws ws.length else []
theorem decsL_get {ws : List ByteArray} (h : allDec ws) {i : Nat} (hi : i < ws.length) : (decsL ws).getD i 0 = ((decV (ws.getD i default) : Nat) : Int) := by
  rw [decsL, if_pos h, dvs, List.take_length]
  simp [hi]
theorem decsL_len {ws : List ByteArray} (h : allDec ws) : (decsL ws).length = ws.length := by rw [decsL, if_pos h, dvs_len (Nat.le_refl _)]
set_option maxHeartbeats 1000000 in
theorem c_decimals (t : Nat) (ws : List ByteArray) (hl : ws.length ≤ 1048577) (hw : ∀ x ∈ ws, x.toList.length ≤ 1048576) : Contract P 85 [.sl t 1 (ws.map srow), .int .i64 7] [] (.tup [.sl 0 1 ((decsL ws).map irow), .bool (decide (allDec ws))]) [] := by
  have tkl : True := trivial
  refine fn_sound ((Env.nil P).add 86 t_decimal h_decimal) hm k_impl_decimals (Nat.le_of_ble_eq_true rfl) rfl ?_; unfold s_impl_decimals; simp (config := { maxSteps := 2000000 }) only [bitvec_to_nat, reduceIte, Nat.reduceEqDiff, Nat.reduceAdd, Nat.reduceLeDiff, reduceCtorEq, Nat.reduceBEq, Nat.reduceLT, Nat.reduceMod, List.forall_mem_cons, t_decimal, tk_map, dp_map, toNat_pred, appE, rowsOf, List.take_length, List.length_cons, List.length_nil, Nat.zero_add, srow, irow, un_s, un_i, Zone.row, Zone_eta, un_Zone, Word.row, Word_eta, Own.row, Own_eta, Part.row, Part_eta, Seen.row, Seen_eta, Book.row, Book_eta, Sector.row, Sector_eta, HCraft.row, HCraft_eta, World.row, World_eta, PKind.row, PKind_eta, PPt.row, PPt_eta, Cell.row, Cell_eta, un_Word, un_Own, un_Part, un_Seen, un_Book, un_Sector, un_HCraft, un_World, un_PKind, un_PPt, un_Cell, Nat.sub_zero, List.nil_append, tkl, ghost, getD_rows]
  refine loop_st (fun i : Nat => [(6, .own 106 i 0 i), (13, .int .i64 i)]) (fun i => [(106, .arr 3 i 1 ((dvs ws i).map irow))]) (fun i => i ≤ ws.length ∧ ∀ j, j < i → decOk (ws.getD j default)) (fun i => ws.length - i) 0 (by simp only [u_E0, u_E1, u_M0, u_M1, w_setE0, w_setE1, w_setM0, w_setM1, reduceIte, Nat.reduceEqDiff]; exact ⟨by repeat' (first | exact trivial | refine ⟨.inr rfl, ?_⟩), by repeat' (first | exact trivial | refine ⟨rfl, ?_⟩), by first | rfl | simp [closedB, refsIn, refsInL, refsInO, dom, refsInL_nr, *], by first | rfl | simp [keepB, dom]⟩) ⟨Nat.zero_le _, fun j hj => absurd hj (Nat.not_lt_zero _)⟩ ?_
  rintro i ⟨hi, h2⟩ NX hN
  have hll := dvs_len (ws := ws) hi
  have tkl : List.take i ((dvs ws i).map irow) = (dvs ws i).map irow := List.take_of_length_le (by simp [hll])
  by_cases hlt : i < ws.length
  · have hsu := dvs_succ (ws := ws) hlt
    have hwi := hw _ (getD_mem' hlt)
    have e5 : decOk (ws.getD i default) → (if decOk (ws.getD i default) then ((decV (ws.getD i default) : Nat) : Int) else 0) = ((decV (ws.getD i default) : Nat) : Int) := fun h => if_pos h
    unfold l_impl_decimals_0; simp (config := { maxSteps := 2000000 }) only [bitvec_to_nat, reduceIte, Nat.reduceEqDiff, Nat.reduceAdd, Nat.reduceLeDiff, reduceCtorEq, Nat.reduceBEq, Nat.reduceLT, Nat.reduceMod, List.forall_mem_cons, t_decimal, tk_map, dp_map, toNat_pred, appE, rowsOf, List.take_length, List.length_cons, List.length_nil, Nat.zero_add, srow, irow, un_s, un_i, Zone.row, Zone_eta, un_Zone, Word.row, Word_eta, Own.row, Own_eta, Part.row, Part_eta, Seen.row, Seen_eta, Book.row, Book_eta, Sector.row, Sector_eta, HCraft.row, HCraft_eta, World.row, World_eta, PKind.row, PKind_eta, PPt.row, PPt_eta, Cell.row, Cell_eta, un_Word, un_Own, un_Part, un_Seen, un_Book, un_Sector, un_HCraft, un_World, un_PKind, un_PPt, un_Cell, Nat.sub_zero, List.nil_append, tkl, ghost, getD_rows]
    repeat' (first | with_reducible apply And.intro | with_reducible intro _)
    all_goals first
      | omega
      | (have hok : decOk (ws.getD i default) := by assumption
         rw [← e5 hok] at hsu
         refine hN (i + 1) _ ⟨by repeat' (first | exact trivial | refine ⟨.inr rfl, ?_⟩), ⟨congrArg (fun g => some (AObj.arr 3 (i + 1) 1 g)) hsu, trivial⟩, rfl, rfl⟩ ⟨hlt, all_snoc h2 hok⟩ (by omega))
      | (have hno : ¬ allDec ws := fun hq => by have := hq i hlt; contradiction
         simp [decsL, hno]; done)
      | (exfalso; omega)
      | trace_state
  · have e : i = ws.length := by omega
    subst e
    unfold l_impl_decimals_0; simp (config := { maxSteps := 2000000 }) only [bitvec_to_nat, reduceIte, Nat.reduceEqDiff, Nat.reduceAdd, Nat.reduceLeDiff, reduceCtorEq, Nat.reduceBEq, Nat.reduceLT, Nat.reduceMod, List.forall_mem_cons, t_decimal, tk_map, dp_map, toNat_pred, appE, rowsOf, List.take_length, List.length_cons, List.length_nil, Nat.zero_add, srow, irow, un_s, un_i, Zone.row, Zone_eta, un_Zone, Word.row, Word_eta, Own.row, Own_eta, Part.row, Part_eta, Seen.row, Seen_eta, Book.row, Book_eta, Sector.row, Sector_eta, HCraft.row, HCraft_eta, World.row, World_eta, PKind.row, PKind_eta, PPt.row, PPt_eta, Cell.row, Cell_eta, un_Word, un_Own, un_Part, un_Seen, un_Book, un_Sector, un_HCraft, un_World, un_PKind, un_PPt, un_Cell, Nat.sub_zero, List.nil_append, tkl, ghost, getD_rows]
    have hok : allDec ws := h2
    refine ⟨fun h' => absurd h' (by omega), fun _ => ?_⟩
    simp [decsL, hok]
def t_decimals : List AV → Option (Prop × AV)
  | [.sl t 1 wx, .int .i64 m] => some (((wx.map unS).map srow = wx ∧ m = 7) ∧ (wx.map unS).length ≤ 1048577 ∧ ∀ x ∈ wx.map unS, x.toList.length ≤ 1048576, .tup [.sl 0 1 ((decsL (wx.map unS)).map irow), .bool (decide (allDec (wx.map unS)))])
  | _ => none
theorem h_decimals : ∀ args p v, t_decimals args = some (p, v) → p → Contract P 85 args [] v [] ∧ noref v = true ∧ No99 v := by
  intro args p v h1 h2
  unfold t_decimals at h1
  split at h1
  · rename_i t wx m
    cases h1
    obtain ⟨⟨e1, rfl⟩, h3, h4⟩ := h2
    have := c_decimals t (wx.map unS) h3 h4
    simp only [e1] at this
    exact ⟨this, rfl, by simp [No99, No99L, no99_i]⟩
  · cases h1
def timeOk (ws : List ByteArray) : Prop := ws.length = 2 ∧ (decOk (ws.getD 0 default) ∧ decOk (ws.getD 1 default)) ∧ decV (ws.getD 0 default) ≤ decV (ws.getD 1 default) ∧ decV (ws.getD 1 default) ≤ 10000
noncomputable instance (ws : List ByteArray) : Decidable (timeOk ws) := Classical.propDecidable _
theorem number_ge {s : ByteArray} : (decOk s → number s = (decV s : Nat)) ∧ (¬ decOk s → number s = -1) := ⟨fun h => if_pos h, fun h => if_neg h⟩
theorem timeOk_iff {ws : List ByteArray} : timeOk ws ↔ ws.length = 2 ∧ 0 ≤ number (ws.getD 0 default) ∧ number (ws.getD 0 default) ≤ number (ws.getD 1 default) ∧ number (ws.getD 1 default) ≤ 10000 := by
  have n0 := number_ge (s := ws.getD 0 default)
  have n1 := number_ge (s := ws.getD 1 default)
  unfold timeOk
  by_cases h0 : decOk (ws.getD 0 default) <;> by_cases h1 : decOk (ws.getD 1 default)
  · have := n0.1 h0; have := n1.1 h1; constructor <;> intro h <;> refine ⟨h.1, ?_⟩ <;> (try refine ⟨⟨h0, h1⟩, ?_⟩) <;> omega
  · have := n0.1 h0; have := n1.2 h1; constructor
    · intro h; exact absurd h.2.1.2 h1
    · intro h; omega
  · have := n0.2 h0; constructor
    · intro h; exact absurd h.2.1.1 h0
    · intro h; omega
  · have := n0.2 h0; constructor
    · intro h; exact absurd h.2.1.1 h0
    · intro h; omega
theorem c_l12TimeOk (t : Nat) (ws : List ByteArray) (hl : ws.length ≤ 4611686018427387904) : Contract P 44 [.sl t 1 (ws.map srow)] [] (.bool (decide (timeOk ws))) [] := by
  have hT := timeOk_iff (ws := ws)
  refine fn_sound (((Env.nil P).add 45 t_l11In h_l11In).add 46 t_l12Number h_l12Number) hm k_spec_l12TimeOk (Nat.le_of_ble_eq_true rfl) rfl ?_; unfold s_spec_l12TimeOk; simp (config := { maxSteps := 2000000 }) only [bitvec_to_nat, reduceIte, Nat.reduceEqDiff, Nat.reduceAdd, Nat.reduceLeDiff, reduceCtorEq, Nat.reduceBEq, Nat.reduceLT, Nat.reduceMod, List.forall_mem_cons, t_l11In, t_l12Number, tk_map, dp_map, toNat_pred, appE, rowsOf, List.take_length, List.length_cons, List.length_nil, Nat.zero_add, srow, irow, un_s, un_i, Zone.row, Zone_eta, un_Zone, Word.row, Word_eta, Own.row, Own_eta, Part.row, Part_eta, Seen.row, Seen_eta, Book.row, Book_eta, Sector.row, Sector_eta, HCraft.row, HCraft_eta, World.row, World_eta, PKind.row, PKind_eta, PPt.row, PPt_eta, Cell.row, Cell_eta, un_Word, un_Own, un_Part, un_Seen, un_Book, un_Sector, un_HCraft, un_World, un_PKind, un_PPt, un_Cell, Nat.sub_zero, List.nil_append, Int.toNat_one]
  repeat' (first | with_reducible apply And.intro | with_reducible intro _)
  all_goals first
    | omega
    | (rw [decide_eq_decide, hT]; omega)
    | (rw [hT]; omega)
    | trace_state
def t_l12TimeOk : List AV → Option (Prop × AV)
  | [.sl t 1 wx] => some ((wx.map unS).map srow = wx ∧ (wx.map unS).length ≤ 4611686018427387904, .bool (decide (timeOk (wx.map unS))))
  | _ => none
theorem h_l12TimeOk : ∀ args p v, t_l12TimeOk args = some (p, v) → p → Contract P 44 args [] v [] ∧ noref v = true ∧ No99 v := by
  intro args p v h1 h2
  unfold t_l12TimeOk at h1
  split at h1
  · rename_i t wx
    cases h1
    have := c_l12TimeOk t (wx.map unS) h2.2
    simp only [h2.1] at this
    exact ⟨this, rfl, trivial⟩
  · cases h1
theorem cutP_small {s : ByteArray} {c : UInt8} : ∀ i, ∀ x ∈ cutP s c i, x.toList.length ≤ s.toList.length
  | 0, x, h => by simp [cutP] at h
  | i + 1, x, h => by
    simp only [cutP] at h
    split at h
    · rcases List.mem_append.1 h with h | h
      · exact cutP_small i x h
      · simp only [List.mem_singleton] at h
        subst h
        rw [ext_toList, List.length_drop, List.length_take]; omega
    · exact cutP_small i x h
theorem cuts_small {s : ByteArray} {c : UInt8} : ∀ x ∈ cuts s c, x.toList.length ≤ s.toList.length := fun x h => by
  rcases List.mem_append.1 h with h | h
  · exact cutP_small _ x h
  · simp only [List.mem_singleton] at h
    subst h
    rw [ext_toList, List.length_drop, List.length_take]; omega
theorem cuts_le {s : ByteArray} {c : UInt8} : (cuts s c).length ≤ s.toList.length + 1 := by
  rw [cuts_len]
  have : s.toList.count c ≤ s.toList.length := List.count_le_length
  omega
def wOpen : ByteArray := ⟨#[111, 112, 101, 110]⟩
def wClosed : ByteArray := ⟨#[99, 108, 111, 115, 101, 100]⟩
def plFits (ks : List PKind) (ps : List PPt) (w : Int) (v : ByteArray) : Prop :=
  (w = 1 ∧ 0 ≤ kIdx ks v) ∨ (w = 2 ∧ timeOk (cuts v 32)) ∨ (w = 3 ∧ decOk v ∧ 1 ≤ decV v ∧ decV v ≤ 6) ∨ (w = 4 ∧ rtOk ps (cuts v 32)) ∨ (w = 5 ∧ (v = wOpen ∨ v = wClosed))
noncomputable instance (ks : List PKind) (ps : List PPt) (w : Int) (v : ByteArray) : Decidable (plFits ks ps w v) := Classical.propDecidable _
theorem fits1 {ks : List PKind} {ps : List PPt} {w : Int} {v : ByteArray} (h : w = 1) : plFits ks ps w v ↔ 0 ≤ kIdx ks v := by subst h; simp [plFits]
theorem fits2 {ks : List PKind} {ps : List PPt} {w : Int} {v : ByteArray} (h : w = 2) : plFits ks ps w v ↔ timeOk (cuts v 32) := by subst h; simp [plFits]
theorem fits3 {ks : List PKind} {ps : List PPt} {w : Int} {v : ByteArray} (h : w = 3) : plFits ks ps w v ↔ decOk v ∧ 1 ≤ decV v ∧ decV v ≤ 6 := by subst h; simp [plFits]
theorem fits4 {ks : List PKind} {ps : List PPt} {w : Int} {v : ByteArray} (h : w = 4) : plFits ks ps w v ↔ rtOk ps (cuts v 32) := by subst h; simp [plFits]
theorem fits5 {ks : List PKind} {ps : List PPt} {w : Int} {v : ByteArray} (h : w = 5) : plFits ks ps w v ↔ v = wOpen ∨ v = wClosed := by subst h; simp [plFits]
theorem fits0 {ks : List PKind} {ps : List PPt} {w : Int} {v : ByteArray} (h1 : ¬ w = 1) (h2 : ¬ w = 2) (h3 : ¬ w = 3) (h4 : ¬ w = 4) (h5 : ¬ w = 5) : ¬ plFits ks ps w v := by simp [plFits, *]
theorem tOk_iff {ws : List ByteArray} : timeOk ws ↔ allDec ws ∧ (decsL ws).length = 2 ∧ (decsL ws).getD 0 default ≤ (decsL ws).getD 1 default ∧ (decsL ws).getD 1 default ≤ 10000 := by
  have d0 : (default : Int) = 0 := rfl
  rw [d0]
  constructor
  · rintro ⟨h1, ⟨h2, h3⟩, h4, h5⟩
    have ha : allDec ws := fun i hi => by
      rcases (show i = 0 ∨ i = 1 by omega) with rfl | rfl
      · exact h2
      · exact h3
    have g0 := decsL_get ha (i := 0) (by omega)
    have g1 := decsL_get ha (i := 1) (by omega)
    rw [decsL_len ha, g0, g1]
    exact ⟨ha, h1, by omega, by omega⟩
  · rintro ⟨ha, h1, h2, h3⟩
    rw [decsL_len ha] at h1
    rw [decsL_get ha (i := 0) (by omega), decsL_get ha (i := 1) (by omega)] at h2
    rw [decsL_get ha (i := 1) (by omega)] at h3
    exact ⟨h1, ⟨ha 0 (by omega), ha 1 (by omega)⟩, by omega, by omega⟩
theorem nOk_iff {v : ByteArray} : (1 ≤ number v ∧ number v ≤ 6) ↔ decOk v ∧ 1 ≤ decV v ∧ decV v ≤ 6 := by
  have n0 := number_ge (s := v)
  by_cases h : decOk v
  · have := n0.1 h; constructor
    · intro k; exact ⟨h, by omega, by omega⟩
    · intro k; omega
  · have := n0.2 h; constructor
    · intro k; omega
    · intro k; exact absurd k.1 h
theorem cuts_small' (s : ByteArray) (c : UInt8) (h : s.toList.length ≤ 1048576) : ∀ x ∈ cuts s c, x.toList.length ≤ 1048576 := fun x hx => Nat.le_trans (cuts_small x hx) h
set_option maxHeartbeats 1000000 in
theorem c_sFits (t t' : Nat) (ks : List PKind) (ps : List PPt) (w : Int) (v : ByteArray) (hk : ks.length ≤ 1048576) (hp : ps.length ≤ 1048576) (hv : v.toList.length ≤ 1048576) : Contract P 10 [.agg [.sl t 3 (ks.map PKind.row), .sl t' 3 (ps.map PPt.row)], .int .i64 w, .str v] [] (.bool (decide (baseOk ks ps ∧ plFits ks ps w v))) [] := by
  have hc := cuts_le (s := v) (c := 32)
  have n0 := nOk_iff (v := v)
  have f1 := fun h => fits1 (ks := ks) (ps := ps) (v := v) (w := w) h
  have f2 := fun h => fits2 (ks := ks) (ps := ps) (v := v) (w := w) h
  have f3 := fun h => fits3 (ks := ks) (ps := ps) (v := v) (w := w) h
  have f4 := fun h => fits4 (ks := ks) (ps := ps) (v := v) (w := w) h
  have f5 := fun h => fits5 (ks := ks) (ps := ps) (v := v) (w := w) h
  have f0 := fun h1 h2 h3 h4 h5 => fits0 (ks := ks) (ps := ps) (v := v) (w := w) h1 h2 h3 h4 h5
  unfold wOpen wClosed at f5
  refine fn_sound ((((((((Env.nil P).add 41 t_sBaseOk h_sBaseOk).add 42 t_l12Cut h_l12Cut).add 43 t_l11Kind h_l11Kind).add 44 t_l12TimeOk h_l12TimeOk).add 46 t_l12Number h_l12Number).add 45 t_l11In h_l11In).add 47 t_l12RouteOk h_l12RouteOk) hm k_spec_PlanFits (Nat.le_of_ble_eq_true rfl) rfl ?_; unfold s_spec_PlanFits; simp (config := { maxSteps := 2000000 }) only [bitvec_to_nat, reduceIte, Nat.reduceEqDiff, Nat.reduceAdd, Nat.reduceLeDiff, reduceCtorEq, Nat.reduceBEq, Nat.reduceLT, Nat.reduceMod, List.forall_mem_cons, t_sBaseOk, t_l12Cut, t_l11Kind, t_l12TimeOk, t_l12Number, t_l11In, t_l12RouteOk, tk_map, dp_map, toNat_pred, appE, rowsOf, List.take_length, List.length_cons, List.length_nil, Nat.zero_add, srow, irow, un_s, un_i, Zone.row, Zone_eta, un_Zone, Word.row, Word_eta, Own.row, Own_eta, Part.row, Part_eta, Seen.row, Seen_eta, Book.row, Book_eta, Sector.row, Sector_eta, HCraft.row, HCraft_eta, World.row, World_eta, PKind.row, PKind_eta, PPt.row, PPt_eta, Cell.row, Cell_eta, un_Word, un_Own, un_Part, un_Seen, un_Book, un_Sector, un_HCraft, un_World, un_PKind, un_PPt, un_Cell, Nat.sub_zero, List.nil_append, Int.toNat_one]
  repeat' (first | with_reducible apply And.intro | with_reducible intro _)
  all_goals first
    | omega
    | exact cuts_small' _ _ (by omega)
    | exact cuts_small' _ _ (by omega) _ (by assumption)
    | grind
    | (rw [decide_eq_decide]; grind)
    | trace_state
set_option maxHeartbeats 1000000 in
theorem c_iFits (t t' : Nat) (ks : List PKind) (ps : List PPt) (w : Int) (v : ByteArray) (hk : ks.length ≤ 1048576) (hp : ps.length ≤ 1048576) (hv : v.toList.length ≤ 1048576) : Contract P 51 [.agg [.sl t 3 (ks.map PKind.row), .sl t' 3 (ps.map PPt.row)], .int .i64 w, .str v] [] (.bool (decide (plFits ks ps w v))) [] := by
  have hc := cuts_le (s := v) (c := 32)
  have tk := tOk_iff (ws := cuts v 32)
  have f1 := fun h => fits1 (ks := ks) (ps := ps) (v := v) (w := w) h
  have f2 := fun h => fits2 (ks := ks) (ps := ps) (v := v) (w := w) h
  have f3 := fun h => fits3 (ks := ks) (ps := ps) (v := v) (w := w) h
  have f4 := fun h => fits4 (ks := ks) (ps := ps) (v := v) (w := w) h
  have f5 := fun h => fits5 (ks := ks) (ps := ps) (v := v) (w := w) h
  have f0 := fun h1 h2 h3 h4 h5 => fits0 (ks := ks) (ps := ps) (v := v) (w := w) h1 h2 h3 h4 h5
  unfold wOpen wClosed at f5
  refine fn_sound (((((((Env.nil P).add 83 t_Split h_Split).add 84 t_iKind h_iKind).add 85 t_decimals h_decimals).add 86 t_decimal h_decimal).add 87 t_within h_within).add 88 t_route h_route) hm k_impl_PlanBase_fits (Nat.le_of_ble_eq_true rfl) rfl ?_; unfold s_impl_PlanBase_fits; simp (config := { maxSteps := 2000000 }) only [bitvec_to_nat, reduceIte, Nat.reduceEqDiff, Nat.reduceAdd, Nat.reduceLeDiff, reduceCtorEq, Nat.reduceBEq, Nat.reduceLT, Nat.reduceMod, List.forall_mem_cons, t_Split, t_iKind, t_decimals, t_decimal, t_within, t_route, tk_map, dp_map, toNat_pred, appE, rowsOf, List.take_length, List.length_cons, List.length_nil, Nat.zero_add, srow, irow, un_s, un_i, Zone.row, Zone_eta, un_Zone, Word.row, Word_eta, Own.row, Own_eta, Part.row, Part_eta, Seen.row, Seen_eta, Book.row, Book_eta, Sector.row, Sector_eta, HCraft.row, HCraft_eta, World.row, World_eta, PKind.row, PKind_eta, PPt.row, PPt_eta, Cell.row, Cell_eta, un_Word, un_Own, un_Part, un_Seen, un_Book, un_Sector, un_HCraft, un_World, un_PKind, un_PPt, un_Cell, Nat.sub_zero, List.nil_append, Int.toNat_one]
  repeat' (first | with_reducible apply And.intro | with_reducible intro _)
  all_goals first
    | omega
    | exact cuts_small' _ _ (by omega)
    | exact cuts_small' _ _ (by omega) _ (by assumption)
    | grind
    | (rw [decide_eq_decide]; grind)
    | trace_state
end
end Go.Ve

namespace Go.Ve
noncomputable section
open Go.Proofs
set_option linter.unusedSimpArgs false
set_option linter.unusedVariables false
set_option maxRecDepth 100000
def dch (i : Nat) : ByteArray := ⟨#[byteOf [AV.int .u8 (IntKind.u8.wrap (48 + (i : Int) % 10))]]⟩
theorem dch_eq (i : Nat) : bytesOf [[AV.int .u8 (IntKind.u8.wrap (48 + (i : Int) % 10))]] = dch i := rfl
def dg (k : Nat) (o : ByteArray) : ByteArray := if h : k = 0 then o else dg (k / 10) (dch k ++ o)
termination_by k
decreasing_by omega
theorem dg_zero (o : ByteArray) : dg 0 o = o := by rw [dg]; simp
theorem dg_step {k : Nat} (o : ByteArray) (h : 0 < k) : dg k o = dg (k / 10) (dch k ++ o) := by rw [dg]; simp [show k ≠ 0 by omega]
def mtx (k : Int) : ByteArray := if k ≤ 0 then ⟨#[109, 48]⟩ else ⟨#[109]⟩ ++ dg k.toNat ⟨#[]⟩
theorem dch_len (i : Nat) : (dch i).toList.length = 1 := by rw [← toList_size]; rfl
theorem app_len (a b : ByteArray) : (a ++ b).toList.length = a.toList.length + b.toList.length := by simp only [← toList_size, ByteArray.size_append]
theorem byte_ok (w : Int) : isByte [AV.int .u8 (IntKind.u8.wrap w)] = true := by
  simp [isByte, IntKind.wrap, IntKind.bits, IntKind.signed]
  try omega
theorem m_len : (⟨#[109]⟩ : ByteArray).toList.length = 1 := by rw [← toList_size]; rfl
theorem e_len : (⟨#[]⟩ : ByteArray).toList.length = 0 := by rw [← toList_size]; rfl
theorem c_markText (k : Int) (hk : 0 ≤ k ∧ k ≤ 1152921504606846976) : Contract P 66 [.int .i64 k] [] (.str (mtx k)) [] := by
  refine fn_sound (Env.nil P) hm k_laws_markText (Nat.le_of_ble_eq_true rfl) rfl ?_; unfold s_laws_markText; simp (config := { maxSteps := 2000000 }) only [bitvec_to_nat, reduceIte, Nat.reduceEqDiff, Nat.reduceAdd, Nat.reduceLeDiff, reduceCtorEq, Nat.reduceBEq, Nat.reduceLT, Nat.reduceMod, List.forall_mem_cons, Nat.zero_add, un_s, List.map_cons, List.map_nil, rowsOf, dch_eq]
  refine ⟨fun h => by rw [mtx, if_pos h], fun hp => ?_⟩
  have hkk : ((k.toNat : Nat) : Int) = k := by omega
  refine loop_st (fun a : Nat × ByteArray => [(0, .int .i64 a.1), (3, .str a.2)]) (fun _ => []) (fun a => dg a.1 a.2 = dg k.toNat ⟨#[]⟩ ∧ a.2.toList.length + a.1 ≤ 1152921504606846976) (fun a => a.1) (k.toNat, ⟨#[]⟩) (by simp only [hkk]; simp only [u_E0, u_E1, u_M0, u_M1, w_setE0, w_setE1, w_setM0, w_setM1, reduceIte, Nat.reduceEqDiff]; exact ⟨by repeat' (first | exact trivial | refine ⟨.inr rfl, ?_⟩), by repeat' (first | exact trivial | refine ⟨rfl, ?_⟩), by first | rfl | simp [closedB, refsIn, refsInL, refsInO, dom, refsInL_nr, *], by first | rfl | simp [keepB, dom]⟩) ⟨rfl, by simp only [e_len]; omega⟩ ?_
  rintro ⟨i, s⟩ ⟨h1, h2⟩ NX hN
  simp only at h1 h2
  unfold l_laws_markText_0; simp (config := { maxSteps := 2000000 }) only [bitvec_to_nat, reduceIte, Nat.reduceEqDiff, Nat.reduceAdd, Nat.reduceLeDiff, reduceCtorEq, Nat.reduceBEq, Nat.reduceLT, Nat.reduceMod, List.forall_mem_cons, Nat.zero_add, un_s, List.map_cons, List.map_nil, rowsOf, dch_eq]
  refine ⟨fun g => ⟨by omega, by omega, by simp only [List.all_cons, List.all_nil, byte_ok, Bool.and_true], ?_⟩, fun g => ?_⟩
  · have e1 := dch_len i
    refine ⟨by rw [e1]; omega, by omega, ?_⟩
    have e2 : ((i : Int) / 10) = ((i / 10 : Nat) : Int) := by omega
    simp only [e2]
    refine hN (i / 10, dch i ++ s) _ (by simp only [u_E0, u_E1, u_M0, u_M1, w_setE0, w_setE1, w_setM0, w_setM1, reduceIte, Nat.reduceEqDiff]; exact ⟨by repeat' (first | exact trivial | refine ⟨.inr rfl, ?_⟩), by repeat' (first | exact trivial | refine ⟨rfl, ?_⟩), by first | rfl | simp [closedB, refsIn, refsInL, refsInO, dom, refsInL_nr, *], by first | rfl | simp [keepB, dom]⟩) ?_ ?_
    · exact ⟨by rw [← dg_step s (by omega)]; exact h1, by simp only [app_len, e1]; omega⟩
    · simp only; omega
  · have e : i = 0 := by omega
    subst e
    rw [dg_zero] at h1
    refine ⟨by rw [m_len]; omega, ?_⟩
    rw [mtx, if_neg hp, ← h1]
def t_markText : List AV → Option (Prop × AV)
  | [.int .i64 k] => some ((True) ∧ (0 ≤ k ∧ k ≤ 1152921504606846976), .str (mtx k))
  | _ => none
theorem h_markText : ∀ args p v, t_markText args = some (p, v) → p → Contract P 66 args [] v [] ∧ noref v = true ∧ No99 v := by
  intro args p v h1 h2
  unfold t_markText at h1
  split at h1
  · rename_i k
    cases h1
    obtain ⟨_, HP⟩ := h2
    have := c_markText k HP
    exact ⟨this, rfl, trivial⟩
  · cases h1
def PKind.fitp (s : PKind) : Prop := s.nm.toList.length ≤ 9223372036854775807
def PKind.sz (s : PKind) (z0 : Int) : Int := chk (z0 - (s.nm.toList.length : Nat)) (fun z1 => z1)
theorem meas_PKind : Meas PKind.sz := fun s => chk_sub _ (measP_id)
def PPt.fitp (s : PPt) : Prop := s.nm.toList.length ≤ 9223372036854775807
def PPt.sz (s : PPt) (z0 : Int) : Int := chk (z0 - (s.nm.toList.length : Nat)) (fun z1 => z1)
theorem meas_PPt : Meas PPt.sz := fun s => chk_sub _ (measP_id)
structure PBase where
  ks : List PKind
  ps : List PPt
  deriving Inhabited, DecidableEq
def PBase.row (t : Nat) (s : PBase) : List AV := [.sl t 3 (s.ks.map PKind.row), .sl t 3 (s.ps.map PPt.row)]
def unPBase : List AV → PBase
  | [.sl _ 3 vks, .sl _ 3 vps] => (PBase.mk (vks.map unPKind) (vps.map unPPt))
  | _ => default
theorem unPBase_row (t : Nat) (s : PBase) : unPBase (PBase.row t s) = s := by
  cases s; simp only [PBase.row, unPBase, un_PKind, un_PPt]
theorem un_PBase (t : Nat) (l : List PBase) : (l.map (PBase.row t)).map unPBase = l := by
  rw [List.map_map]; exact List.map_id'' (fun s => unPBase_row t s) l
theorem PBase_eta (s : PBase) : (PBase.mk s.ks s.ps) = s := (rfl)
theorem no99_PBase (l : List PBase) : No99LL (l.map (PBase.row 0)) := by
  induction l with
  | nil => simp [No99LL]
  | cons x l ih => simp only [List.map_cons, No99LL]; exact ⟨by simp [PBase.row, No99L, No99, no99_PKind, no99_PPt], ih⟩
def PBase.fitp (s : PBase) : Prop := (s.ks.length ≤ 9223372036854775807 ∧ ∀ y ∈ s.ks, y.fitp) ∧ (s.ps.length ≤ 9223372036854775807 ∧ ∀ y ∈ s.ps, y.fitp)
def PBase.small (s : PBase) : Prop := s.ks.length ≤ 1048576 ∧ s.ps.length ≤ 1048576
def PBase.sz (s : PBase) (z0 : Int) : Int := chk (szS PKind.sz s.ks z0) (fun z1 => chk (szS PPt.sz s.ps z1) (fun z2 => z2))
theorem meas_PBase : Meas PBase.sz := fun s => chk_g (fun a => meas_szS meas_PKind s.ks a) (Meas1.p (chk_g (fun a => meas_szS meas_PPt s.ps a) (measP_id)))
theorem PBase.sz_ok {s : PBase} {a : Int} (ha : a ≤ 1048576) (h : 0 ≤ s.sz a) : s.small := by
  unfold PBase.sz at h
  have b0 : a ≤ 1048576 := ha
  obtain ⟨p0, h⟩ := chk_ok h
  have b1 : szS PKind.sz s.ks (a) ≤ 1048576 := by have := (meas_szS meas_PKind s.ks (a) b0).2.2; omega
  have k0 := szS_ok (p := fun _ => True) meas_PKind (fun _ _ _ _ => trivial) b0 p0
  obtain ⟨p1, h⟩ := chk_ok h
  have b2 : szS PPt.sz s.ps (szS PKind.sz s.ks (a)) ≤ 1048576 := by have := (meas_szS meas_PPt s.ps (szS PKind.sz s.ks (a)) b1).2.2; omega
  have k1 := szS_ok (p := fun _ => True) meas_PPt (fun _ _ _ _ => trivial) b1 p1
  exact ⟨k0.1, k1.1⟩
theorem c_szPKind (s : PKind) (a : Int) (ha : 0 ≤ a ∧ a ≤ 1048576) (hs : s.fitp) : Contract P 74 [.agg s.row, .int .i64 a] [] (.int .i64 (s.sz a)) [] := by
  unfold PKind.fitp at hs
  simp only [PKind.row]
  refine fn_sound (Env.nil P) hm k_laws_szPlanKind (Nat.le_of_ble_eq_true rfl) rfl ?_; unfold s_laws_szPlanKind; simp (config := { maxSteps := 2000000 }) only [bitvec_to_nat, reduceIte, Nat.reduceEqDiff, Nat.reduceAdd, Nat.reduceLeDiff, reduceCtorEq, Nat.reduceBEq, Nat.reduceLT, Nat.reduceMod, List.forall_mem_cons, tk_map, dp_map, toNat_pred, appE, rowsOf, List.take_length, List.length_cons, List.length_nil, Nat.zero_add, srow, irow, un_s, un_i, Zone.row, Zone_eta, un_Zone, Word.row, Word_eta, Own.row, Own_eta, Part.row, Part_eta, Seen.row, Seen_eta, Book.row, Book_eta, Sector.row, Sector_eta, HCraft.row, HCraft_eta, World.row, World_eta, PKind.row, PKind_eta, PPt.row, PPt_eta, Cell.row, Cell_eta, PBase.row, PBase_eta, un_Word, un_Own, un_Part, un_Seen, un_Book, un_Sector, un_HCraft, un_World, un_PKind, un_PPt, un_Cell, un_PBase]
  unfold PKind.sz
  repeat' (first | with_reducible apply And.intro | with_reducible intro _)
  all_goals first | omega | (exact hs) | (exact hs.1) | (exact hs.2.1) | (exact hs.2.2) | (exact hs.2.2.1) | (exact hs.2.2.2) | (exact hs.2.2.2.1) | (exact hs.2.2.2.2) | (exact hs.1.1) | (exact hs.1.2) | (exact hs.2.1.1) | (exact hs.2.1.2) | (unfold chk; grind) | grind
def t_szPKind : List AV → Option (Prop × AV)
  | [.agg [.str s_nm, .int .i64 s_q, .int .i64 s_sl], .int .i64 b] => some ((True) ∧ ((0 ≤ b ∧ b ≤ 1048576) ∧ (PKind.fitp (PKind.mk s_nm s_q s_sl))), .int .i64 (PKind.sz (PKind.mk s_nm s_q s_sl) b))
  | _ => none
theorem h_szPKind : ∀ args p v, t_szPKind args = some (p, v) → p → Contract P 74 args [] v [] ∧ noref v = true ∧ No99 v := by
  intro args p v h1 h2
  unfold t_szPKind at h1
  split at h1
  · rename_i s_nm s_q s_sl b
    cases h1
    obtain ⟨_, HP⟩ := h2
    have := c_szPKind (PKind.mk s_nm s_q s_sl) b HP.1 HP.2
    exact ⟨by simpa only [PKind.row] using this, rfl, trivial⟩
  · cases h1
theorem c_szPKindS (t : Nat) (l : List PKind) (a : Int) (ha : 0 ≤ a ∧ a ≤ 1048576) (hl : l.length ≤ 9223372036854775807 ∧ ∀ y ∈ l, y.fitp) : Contract P 39 [.sl t 3 (l.map PKind.row), .int .i64 a] [] (.int .i64 (szS PKind.sz l a)) [] := by
  refine fn_sound ((Env.nil P).add 74 t_szPKind h_szPKind) hm k_laws_szPlanKindS (Nat.le_of_ble_eq_true rfl) rfl ?_; unfold s_laws_szPlanKindS; simp (config := { maxSteps := 2000000 }) only [bitvec_to_nat, reduceIte, Nat.reduceEqDiff, Nat.reduceAdd, Nat.reduceLeDiff, reduceCtorEq, Nat.reduceBEq, Nat.reduceLT, Nat.reduceMod, List.forall_mem_cons, t_szPKind, tk_map, dp_map, toNat_pred, appE, rowsOf, List.take_length, List.length_cons, List.length_nil, Nat.zero_add, srow, irow, un_s, un_i, Zone.row, Zone_eta, un_Zone, Word.row, Word_eta, Own.row, Own_eta, Part.row, Part_eta, Seen.row, Seen_eta, Book.row, Book_eta, Sector.row, Sector_eta, HCraft.row, HCraft_eta, World.row, World_eta, PKind.row, PKind_eta, PPt.row, PPt_eta, Cell.row, Cell_eta, PBase.row, PBase_eta, un_Word, un_Own, un_Part, un_Seen, un_Book, un_Sector, un_HCraft, un_World, un_PKind, un_PPt, un_Cell, un_PBase, List.take_zero, List.foldl_nil]
  have hz : szOf a l.length = if a - l.length < 0 then -1 else a - l.length := rfl
  refine ⟨by omega, fun h1 => ?_, fun h1 => ?_⟩
  · unfold szS
    rw [(fold_meas meas_PKind l _ (by omega) (by omega)).2.1 (by omega)]
  have e0 : szOf a l.length = a - l.length := if_neg h1
  refine loop_st (fun i : Nat => [(1, .int .i64 ((l.take i).foldl (fun a x => x.sz a) (a - l.length))), (5, .int .i64 i)]) (fun _ => []) (fun i => i ≤ l.length ∧ 0 ≤ (l.take i).foldl (fun a x => x.sz a) (a - l.length)) (fun i => l.length - i) (0) (by simp only [u_E0, u_E1, u_M0, u_M1, w_setE0, w_setE1, w_setM0, w_setM1, reduceIte, Nat.reduceEqDiff]; exact ⟨by repeat' (first | exact trivial | refine ⟨.inr rfl, ?_⟩), by repeat' (first | exact trivial | refine ⟨rfl, ?_⟩), by first | rfl | simp [closedB, refsIn, refsInL, refsInO, dom, refsInL_nr, *], by first | rfl | simp [keepB, dom]⟩) ?_ ?_
  · simp only [List.take_zero, List.foldl_nil]; omega
  intro i hi NX hN
  have hm := (fold_meas meas_PKind (l.take i) (a - l.length) (by omega) (by omega)).2.2
  have hg : i < l.length → (l.getD i default).fitp := fun h => hl.2 _ (getD_mem' h)
  have hn : i < l.length → (l.take (i + 1)).foldl (fun a x => x.sz a) (a - l.length) = (l.getD i default).sz ((l.take i).foldl (fun a x => x.sz a) (a - l.length)) := fun h => fold_take (f := PKind.sz) h
  have hs : i < l.length → (l.getD i default).sz ((l.take i).foldl (fun a x => x.sz a) (a - l.length)) < 0 → szS PKind.sz l a = -1 := fun h h2 => by unfold szS; rw [e0]; exact fold_stop meas_PKind h (by omega) (by omega) h2
  unfold l_laws_szPlanKindS_0; simp (config := { maxSteps := 2000000 }) only [bitvec_to_nat, reduceIte, Nat.reduceEqDiff, Nat.reduceAdd, Nat.reduceLeDiff, reduceCtorEq, Nat.reduceBEq, Nat.reduceLT, Nat.reduceMod, List.forall_mem_cons, t_szPKind, tk_map, dp_map, toNat_pred, appE, rowsOf, List.take_length, List.length_cons, List.length_nil, Nat.zero_add, srow, irow, un_s, un_i, Zone.row, Zone_eta, un_Zone, Word.row, Word_eta, Own.row, Own_eta, Part.row, Part_eta, Seen.row, Seen_eta, Book.row, Book_eta, Sector.row, Sector_eta, HCraft.row, HCraft_eta, World.row, World_eta, PKind.row, PKind_eta, PPt.row, PPt_eta, Cell.row, Cell_eta, PBase.row, PBase_eta, un_Word, un_Own, un_Part, un_Seen, un_Book, un_Sector, un_HCraft, un_World, un_PKind, un_PPt, un_Cell, un_PBase, List.take_zero, List.foldl_nil]
  refine ⟨fun h2 => ⟨by omega, by omega, ⟨⟨by omega, by omega⟩, hg (by omega)⟩, fun h3 => by rw [hs (by omega) h3], fun h3 => ⟨by omega, ?_⟩⟩, fun h2 => ?_⟩
  · have e := hn (by omega)
    refine hN (i + 1) _ (by simp only [e, List.length_append, List.length_cons, List.length_nil, Nat.zero_add, List.map_append, List.map_cons, List.map_nil, u_E0, u_E1, u_M0, u_M1, w_setE0, w_setE1, w_setM0, w_setM1, reduceIte, Nat.reduceEqDiff]; exact ⟨by repeat' (first | exact trivial | refine ⟨.inr rfl, ?_⟩), by repeat' (first | exact trivial | refine ⟨rfl, ?_⟩), by first | rfl | simp [closedB, refsIn, refsInL, refsInO, dom, refsInL_nr, *], by first | rfl | simp [keepB, dom]⟩) ?_ ?_
    · exact ⟨by omega, by rw [e]; omega⟩
    · omega
  · have e : i = l.length := by omega
    subst e
    simp only [List.take_length]; unfold szS; rw [e0]
def t_szPKindS : List AV → Option (Prop × AV)
  | [.sl lt 3 lx, .int .i64 b] => some ((((lx.map unPKind).map PKind.row = lx)) ∧ ((0 ≤ b ∧ b ≤ 1048576) ∧ ((lx.map unPKind).length ≤ 9223372036854775807 ∧ ∀ y ∈ (lx.map unPKind), PKind.fitp y)), .int .i64 (szS PKind.sz (lx.map unPKind) b))
  | _ => none
theorem h_szPKindS : ∀ args p v, t_szPKindS args = some (p, v) → p → Contract P 39 args [] v [] ∧ noref v = true ∧ No99 v := by
  intro args p v h1 h2
  unfold t_szPKindS at h1
  split at h1
  · rename_i lt lx b
    cases h1
    obtain ⟨e0, HP⟩ := h2
    have := c_szPKindS lt (lx.map unPKind) b HP.1 HP.2
    exact ⟨by simpa only [e0] using this, rfl, trivial⟩
  · cases h1
theorem c_szPPt (s : PPt) (a : Int) (ha : 0 ≤ a ∧ a ≤ 1048576) (hs : s.fitp) : Contract P 75 [.agg s.row, .int .i64 a] [] (.int .i64 (s.sz a)) [] := by
  unfold PPt.fitp at hs
  simp only [PPt.row]
  refine fn_sound (Env.nil P) hm k_laws_szPlanPoint (Nat.le_of_ble_eq_true rfl) rfl ?_; unfold s_laws_szPlanPoint; simp (config := { maxSteps := 2000000 }) only [bitvec_to_nat, reduceIte, Nat.reduceEqDiff, Nat.reduceAdd, Nat.reduceLeDiff, reduceCtorEq, Nat.reduceBEq, Nat.reduceLT, Nat.reduceMod, List.forall_mem_cons, tk_map, dp_map, toNat_pred, appE, rowsOf, List.take_length, List.length_cons, List.length_nil, Nat.zero_add, srow, irow, un_s, un_i, Zone.row, Zone_eta, un_Zone, Word.row, Word_eta, Own.row, Own_eta, Part.row, Part_eta, Seen.row, Seen_eta, Book.row, Book_eta, Sector.row, Sector_eta, HCraft.row, HCraft_eta, World.row, World_eta, PKind.row, PKind_eta, PPt.row, PPt_eta, Cell.row, Cell_eta, PBase.row, PBase_eta, un_Word, un_Own, un_Part, un_Seen, un_Book, un_Sector, un_HCraft, un_World, un_PKind, un_PPt, un_Cell, un_PBase]
  unfold PPt.sz
  repeat' (first | with_reducible apply And.intro | with_reducible intro _)
  all_goals first | omega | (exact hs) | (exact hs.1) | (exact hs.2.1) | (exact hs.2.2) | (exact hs.2.2.1) | (exact hs.2.2.2) | (exact hs.2.2.2.1) | (exact hs.2.2.2.2) | (exact hs.1.1) | (exact hs.1.2) | (exact hs.2.1.1) | (exact hs.2.1.2) | (unfold chk; grind) | grind
def t_szPPt : List AV → Option (Prop × AV)
  | [.agg [.str s_nm, .int .i64 s_x, .int .i64 s_y], .int .i64 b] => some ((True) ∧ ((0 ≤ b ∧ b ≤ 1048576) ∧ (PPt.fitp (PPt.mk s_nm s_x s_y))), .int .i64 (PPt.sz (PPt.mk s_nm s_x s_y) b))
  | _ => none
theorem h_szPPt : ∀ args p v, t_szPPt args = some (p, v) → p → Contract P 75 args [] v [] ∧ noref v = true ∧ No99 v := by
  intro args p v h1 h2
  unfold t_szPPt at h1
  split at h1
  · rename_i s_nm s_x s_y b
    cases h1
    obtain ⟨_, HP⟩ := h2
    have := c_szPPt (PPt.mk s_nm s_x s_y) b HP.1 HP.2
    exact ⟨by simpa only [PPt.row] using this, rfl, trivial⟩
  · cases h1
theorem c_szPPtS (t : Nat) (l : List PPt) (a : Int) (ha : 0 ≤ a ∧ a ≤ 1048576) (hl : l.length ≤ 9223372036854775807 ∧ ∀ y ∈ l, y.fitp) : Contract P 40 [.sl t 3 (l.map PPt.row), .int .i64 a] [] (.int .i64 (szS PPt.sz l a)) [] := by
  refine fn_sound ((Env.nil P).add 75 t_szPPt h_szPPt) hm k_laws_szPlanPointS (Nat.le_of_ble_eq_true rfl) rfl ?_; unfold s_laws_szPlanPointS; simp (config := { maxSteps := 2000000 }) only [bitvec_to_nat, reduceIte, Nat.reduceEqDiff, Nat.reduceAdd, Nat.reduceLeDiff, reduceCtorEq, Nat.reduceBEq, Nat.reduceLT, Nat.reduceMod, List.forall_mem_cons, t_szPPt, tk_map, dp_map, toNat_pred, appE, rowsOf, List.take_length, List.length_cons, List.length_nil, Nat.zero_add, srow, irow, un_s, un_i, Zone.row, Zone_eta, un_Zone, Word.row, Word_eta, Own.row, Own_eta, Part.row, Part_eta, Seen.row, Seen_eta, Book.row, Book_eta, Sector.row, Sector_eta, HCraft.row, HCraft_eta, World.row, World_eta, PKind.row, PKind_eta, PPt.row, PPt_eta, Cell.row, Cell_eta, PBase.row, PBase_eta, un_Word, un_Own, un_Part, un_Seen, un_Book, un_Sector, un_HCraft, un_World, un_PKind, un_PPt, un_Cell, un_PBase, List.take_zero, List.foldl_nil]
  have hz : szOf a l.length = if a - l.length < 0 then -1 else a - l.length := rfl
  refine ⟨by omega, fun h1 => ?_, fun h1 => ?_⟩
  · unfold szS
    rw [(fold_meas meas_PPt l _ (by omega) (by omega)).2.1 (by omega)]
  have e0 : szOf a l.length = a - l.length := if_neg h1
  refine loop_st (fun i : Nat => [(1, .int .i64 ((l.take i).foldl (fun a x => x.sz a) (a - l.length))), (5, .int .i64 i)]) (fun _ => []) (fun i => i ≤ l.length ∧ 0 ≤ (l.take i).foldl (fun a x => x.sz a) (a - l.length)) (fun i => l.length - i) (0) (by simp only [u_E0, u_E1, u_M0, u_M1, w_setE0, w_setE1, w_setM0, w_setM1, reduceIte, Nat.reduceEqDiff]; exact ⟨by repeat' (first | exact trivial | refine ⟨.inr rfl, ?_⟩), by repeat' (first | exact trivial | refine ⟨rfl, ?_⟩), by first | rfl | simp [closedB, refsIn, refsInL, refsInO, dom, refsInL_nr, *], by first | rfl | simp [keepB, dom]⟩) ?_ ?_
  · simp only [List.take_zero, List.foldl_nil]; omega
  intro i hi NX hN
  have hm := (fold_meas meas_PPt (l.take i) (a - l.length) (by omega) (by omega)).2.2
  have hg : i < l.length → (l.getD i default).fitp := fun h => hl.2 _ (getD_mem' h)
  have hn : i < l.length → (l.take (i + 1)).foldl (fun a x => x.sz a) (a - l.length) = (l.getD i default).sz ((l.take i).foldl (fun a x => x.sz a) (a - l.length)) := fun h => fold_take (f := PPt.sz) h
  have hs : i < l.length → (l.getD i default).sz ((l.take i).foldl (fun a x => x.sz a) (a - l.length)) < 0 → szS PPt.sz l a = -1 := fun h h2 => by unfold szS; rw [e0]; exact fold_stop meas_PPt h (by omega) (by omega) h2
  unfold l_laws_szPlanPointS_0; simp (config := { maxSteps := 2000000 }) only [bitvec_to_nat, reduceIte, Nat.reduceEqDiff, Nat.reduceAdd, Nat.reduceLeDiff, reduceCtorEq, Nat.reduceBEq, Nat.reduceLT, Nat.reduceMod, List.forall_mem_cons, t_szPPt, tk_map, dp_map, toNat_pred, appE, rowsOf, List.take_length, List.length_cons, List.length_nil, Nat.zero_add, srow, irow, un_s, un_i, Zone.row, Zone_eta, un_Zone, Word.row, Word_eta, Own.row, Own_eta, Part.row, Part_eta, Seen.row, Seen_eta, Book.row, Book_eta, Sector.row, Sector_eta, HCraft.row, HCraft_eta, World.row, World_eta, PKind.row, PKind_eta, PPt.row, PPt_eta, Cell.row, Cell_eta, PBase.row, PBase_eta, un_Word, un_Own, un_Part, un_Seen, un_Book, un_Sector, un_HCraft, un_World, un_PKind, un_PPt, un_Cell, un_PBase, List.take_zero, List.foldl_nil]
  refine ⟨fun h2 => ⟨by omega, by omega, ⟨⟨by omega, by omega⟩, hg (by omega)⟩, fun h3 => by rw [hs (by omega) h3], fun h3 => ⟨by omega, ?_⟩⟩, fun h2 => ?_⟩
  · have e := hn (by omega)
    refine hN (i + 1) _ (by simp only [e, List.length_append, List.length_cons, List.length_nil, Nat.zero_add, List.map_append, List.map_cons, List.map_nil, u_E0, u_E1, u_M0, u_M1, w_setE0, w_setE1, w_setM0, w_setM1, reduceIte, Nat.reduceEqDiff]; exact ⟨by repeat' (first | exact trivial | refine ⟨.inr rfl, ?_⟩), by repeat' (first | exact trivial | refine ⟨rfl, ?_⟩), by first | rfl | simp [closedB, refsIn, refsInL, refsInO, dom, refsInL_nr, *], by first | rfl | simp [keepB, dom]⟩) ?_ ?_
    · exact ⟨by omega, by rw [e]; omega⟩
    · omega
  · have e : i = l.length := by omega
    subst e
    simp only [List.take_length]; unfold szS; rw [e0]
def t_szPPtS : List AV → Option (Prop × AV)
  | [.sl lt 3 lx, .int .i64 b] => some ((((lx.map unPPt).map PPt.row = lx)) ∧ ((0 ≤ b ∧ b ≤ 1048576) ∧ ((lx.map unPPt).length ≤ 9223372036854775807 ∧ ∀ y ∈ (lx.map unPPt), PPt.fitp y)), .int .i64 (szS PPt.sz (lx.map unPPt) b))
  | _ => none
theorem h_szPPtS : ∀ args p v, t_szPPtS args = some (p, v) → p → Contract P 40 args [] v [] ∧ noref v = true ∧ No99 v := by
  intro args p v h1 h2
  unfold t_szPPtS at h1
  split at h1
  · rename_i lt lx b
    cases h1
    obtain ⟨e0, HP⟩ := h2
    have := c_szPPtS lt (lx.map unPPt) b HP.1 HP.2
    exact ⟨by simpa only [e0] using this, rfl, trivial⟩
  · cases h1
theorem c_szPBase (s : PBase) (a : Int) (ha : 0 ≤ a ∧ a ≤ 1048576) (hs : s.fitp) : Contract P 9 [.agg (s.row 1), .int .i64 a] [] (.int .i64 (s.sz a)) [] := by
  unfold PBase.fitp at hs
  simp only [PBase.row]
  refine fn_sound (((Env.nil P).add 39 t_szPKindS h_szPKindS).add 40 t_szPPtS h_szPPtS) hm k_laws_szPlanBase (Nat.le_of_ble_eq_true rfl) rfl ?_; unfold s_laws_szPlanBase; simp (config := { maxSteps := 2000000 }) only [bitvec_to_nat, reduceIte, Nat.reduceEqDiff, Nat.reduceAdd, Nat.reduceLeDiff, reduceCtorEq, Nat.reduceBEq, Nat.reduceLT, Nat.reduceMod, List.forall_mem_cons, t_szPKindS, t_szPPtS, tk_map, dp_map, toNat_pred, appE, rowsOf, List.take_length, List.length_cons, List.length_nil, Nat.zero_add, srow, irow, un_s, un_i, Zone.row, Zone_eta, un_Zone, Word.row, Word_eta, Own.row, Own_eta, Part.row, Part_eta, Seen.row, Seen_eta, Book.row, Book_eta, Sector.row, Sector_eta, HCraft.row, HCraft_eta, World.row, World_eta, PKind.row, PKind_eta, PPt.row, PPt_eta, Cell.row, Cell_eta, PBase.row, PBase_eta, un_Word, un_Own, un_Part, un_Seen, un_Book, un_Sector, un_HCraft, un_World, un_PKind, un_PPt, un_Cell, un_PBase]
  unfold PBase.sz
  have qks : (szS PKind.sz s.ks a) ≤ max a (-1) := (meas_szS meas_PKind s.ks a (by omega)).2.2
  have qps : (szS PPt.sz s.ps (szS PKind.sz s.ks a)) ≤ max (szS PKind.sz s.ks a) (-1) := (meas_szS meas_PPt s.ps (szS PKind.sz s.ks a) (by omega)).2.2
  repeat' (first | with_reducible apply And.intro | with_reducible intro _)
  all_goals first | omega | (exact hs) | (exact hs.1) | (exact hs.2.1) | (exact hs.2.2) | (exact hs.2.2.1) | (exact hs.2.2.2) | (exact hs.2.2.2.1) | (exact hs.2.2.2.2) | (exact hs.1.1) | (exact hs.1.2) | (exact hs.2.1.1) | (exact hs.2.1.2) | (unfold chk; grind) | grind
def t_szPBase : List AV → Option (Prop × AV)
  | [.agg [.sl 1 3 s_ks, .sl 1 3 s_ps], .int .i64 b] => some ((((s_ks.map unPKind).map PKind.row = s_ks) ∧ ((s_ps.map unPPt).map PPt.row = s_ps)) ∧ ((0 ≤ b ∧ b ≤ 1048576) ∧ (PBase.fitp (PBase.mk (s_ks.map unPKind) (s_ps.map unPPt)))), .int .i64 (PBase.sz (PBase.mk (s_ks.map unPKind) (s_ps.map unPPt)) b))
  | _ => none
theorem h_szPBase : ∀ args p v, t_szPBase args = some (p, v) → p → Contract P 9 args [] v [] ∧ noref v = true ∧ No99 v := by
  intro args p v h1 h2
  unfold t_szPBase at h1
  split at h1
  · rename_i s_ks s_ps b
    cases h1
    obtain ⟨⟨e0, e1⟩, HP⟩ := h2
    have := c_szPBase (PBase.mk (s_ks.map unPKind) (s_ps.map unPPt)) b HP.1 HP.2
    exact ⟨by simpa only [e0, e1, PBase.row] using this, rfl, trivial⟩
  · cases h1
theorem c_eqByteArrayS (t t' : Nat) (p q : List ByteArray) (hp : p.length ≤ 4611686018427387904) : Contract P 71 [.sl t 1 (p.map srow), .sl t' 1 (q.map srow)] [] (.bool (decide (p = q))) [] := by
  refine fn_sound (Env.nil P) hm k_laws_eqStringS (Nat.le_of_ble_eq_true rfl) rfl ?_; unfold s_laws_eqStringS; simp (config := { maxSteps := 2000000 }) only [bitvec_to_nat, reduceIte, Nat.reduceEqDiff, Nat.reduceAdd, Nat.reduceLeDiff, reduceCtorEq, Nat.reduceBEq, Nat.reduceLT, Nat.reduceMod, List.forall_mem_cons, tk_map, dp_map, toNat_pred, appE, rowsOf, List.take_length, List.length_cons, List.length_nil, Nat.zero_add, srow, irow, un_s, un_i, Zone.row, Zone_eta, un_Zone, Word.row, Word_eta, Own.row, Own_eta, Part.row, Part_eta, Seen.row, Seen_eta, Book.row, Book_eta, Sector.row, Sector_eta, HCraft.row, HCraft_eta, World.row, World_eta, PKind.row, PKind_eta, PPt.row, PPt_eta, Cell.row, Cell_eta, PBase.row, PBase_eta, un_Word, un_Own, un_Part, un_Seen, un_Book, un_Sector, un_HCraft, un_World, un_PKind, un_PPt, un_Cell, un_PBase]
  refine ⟨fun h1 h => h1 (by rw [h]), fun h1 => ?_⟩
  refine loop_st (fun i : Nat => [(5, .int .i64 i)]) (fun _ => []) (fun i => i ≤ p.length ∧ ∀ j, j < i → p.getD j default = q.getD j default) (fun i => p.length - i) (0) (by simp only [u_E0, u_E1, u_M0, u_M1, w_setE0, w_setE1, w_setM0, w_setM1, reduceIte, Nat.reduceEqDiff]; exact ⟨by repeat' (first | exact trivial | refine ⟨.inr rfl, ?_⟩), by repeat' (first | exact trivial | refine ⟨rfl, ?_⟩), by first | rfl | simp [closedB, refsIn, refsInL, refsInO, dom, refsInL_nr, *], by first | rfl | simp [keepB, dom]⟩) ?_ ?_
  · exact ⟨Nat.zero_le _, by intro j hj; omega⟩
  intro i hi NX hN
  unfold l_laws_eqStringS_0; simp (config := { maxSteps := 2000000 }) only [bitvec_to_nat, reduceIte, Nat.reduceEqDiff, Nat.reduceAdd, Nat.reduceLeDiff, reduceCtorEq, Nat.reduceBEq, Nat.reduceLT, Nat.reduceMod, List.forall_mem_cons, tk_map, dp_map, toNat_pred, appE, rowsOf, List.take_length, List.length_cons, List.length_nil, Nat.zero_add, srow, irow, un_s, un_i, Zone.row, Zone_eta, un_Zone, Word.row, Word_eta, Own.row, Own_eta, Part.row, Part_eta, Seen.row, Seen_eta, Book.row, Book_eta, Sector.row, Sector_eta, HCraft.row, HCraft_eta, World.row, World_eta, PKind.row, PKind_eta, PPt.row, PPt_eta, Cell.row, Cell_eta, PBase.row, PBase_eta, un_Word, un_Own, un_Part, un_Seen, un_Book, un_Sector, un_HCraft, un_World, un_PKind, un_PPt, un_Cell, un_PBase]
  skip
  repeat' (first | with_reducible apply And.intro | with_reducible intro _)
  all_goals first
    | omega
    | (refine hN (i + 1) _ (by simp only [u_E0, u_E1, u_M0, u_M1, w_setE0, w_setE1, w_setM0, w_setM1, reduceIte, Nat.reduceEqDiff]; exact ⟨by repeat' (first | exact trivial | refine ⟨.inr rfl, ?_⟩), by repeat' (first | exact trivial | refine ⟨rfl, ?_⟩), by first | rfl | simp [closedB, refsIn, refsInL, refsInO, dom, refsInL_nr, *], by first | rfl | simp [keepB, dom]⟩) ?_ ?_
       · exact ⟨by omega, all_snoc hi.2 (by with_reducible assumption)⟩
       · omega)
    | (intro h; subst h; exact absurd rfl (by with_reducible assumption))
    | (exact ext_of (by omega) fun j hj => hi.2 j (by omega))
    | grind
def t_eqStringS : List AV → Option (Prop × AV)
  | [.sl ct 1 cx, .sl dt 1 dx] => some ((((cx.map unS).map srow = cx) ∧ ((dx.map unS).map srow = dx)) ∧ ((cx.map unS).length ≤ 4611686018427387904), .bool (decide ((cx.map unS) = (dx.map unS))))
  | _ => none
theorem h_eqStringS : ∀ args p v, t_eqStringS args = some (p, v) → p → Contract P 71 args [] v [] ∧ noref v = true ∧ No99 v := by
  intro args p v h1 h2
  unfold t_eqStringS at h1
  split at h1
  · rename_i ct cx dt dx
    cases h1
    obtain ⟨⟨e0, e1⟩, HP⟩ := h2
    have := c_eqByteArrayS ct dt (cx.map unS) (dx.map unS) HP
    exact ⟨by simpa only [e0, e1] using this, rfl, trivial⟩
  · cases h1
theorem c_toPKind (s : PKind) : Contract P 79 [.agg (s.row)] [] (.agg (s.row)) [] := by
  simp only [PKind.row]
  refine fn_sound (Env.nil P) hm k_laws_toPlanKind (Nat.le_of_ble_eq_true rfl) rfl ?_; unfold s_laws_toPlanKind; simp (config := { maxSteps := 2000000 }) only [bitvec_to_nat, reduceIte, Nat.reduceEqDiff, Nat.reduceAdd, Nat.reduceLeDiff, reduceCtorEq, Nat.reduceBEq, Nat.reduceLT, Nat.reduceMod, List.forall_mem_cons, tk_map, dp_map, toNat_pred, appE, rowsOf, List.take_length, List.length_cons, List.length_nil, Nat.zero_add, srow, irow, un_s, un_i, Zone.row, Zone_eta, un_Zone, Word.row, Word_eta, Own.row, Own_eta, Part.row, Part_eta, Seen.row, Seen_eta, Book.row, Book_eta, Sector.row, Sector_eta, HCraft.row, HCraft_eta, World.row, World_eta, PKind.row, PKind_eta, PPt.row, PPt_eta, Cell.row, Cell_eta, PBase.row, PBase_eta, un_Word, un_Own, un_Part, un_Seen, un_Book, un_Sector, un_HCraft, un_World, un_PKind, un_PPt, un_Cell, un_PBase]
  all_goals trivial
def t_toPKind : List AV → Option (Prop × AV)
  | [.agg [.str s_nm, .int .i64 s_q, .int .i64 s_sl]] => some ((True) ∧ (True), .agg (PKind.row (PKind.mk s_nm s_q s_sl)))
  | _ => none
theorem h_toPKind : ∀ args p v, t_toPKind args = some (p, v) → p → Contract P 79 args [] v [] ∧ noref v = true ∧ No99 v := by
  intro args p v h1 h2
  unfold t_toPKind at h1
  split at h1
  · rename_i s_nm s_q s_sl
    cases h1
    obtain ⟨_, HP⟩ := h2
    have := c_toPKind (PKind.mk s_nm s_q s_sl)
    exact ⟨by simpa only [PKind.row] using this, rfl, by simp [PKind.row, No99, No99L, no99_box, no99_i, no99_str, no99_Zone, no99_Word, no99_Own, no99_Part, no99_Seen, no99_Book, no99_Sector, no99_HCraft, no99_World, no99_PKind, no99_PPt, no99_Cell, no99_PBase, -List.map_map]⟩
  · cases h1
theorem set_PKind {lst : List PKind} {idx : Nat} {vnm : ByteArray} {vq : Int} {vsl : Int} : (lst.map PKind.row).set idx (setSeg ((lst.map PKind.row).getD idx []) 0 [.str vnm, .int .i64 vq, .int .i64 vsl]) = (lst.set idx (PKind.mk vnm vq vsl)).map PKind.row :=
  set_rows (α := PKind) (f := PKind.row) (fun s => (PKind.mk vnm vq vsl)) fun x => by simp [PKind.row, setSeg]
def to_PKind (a : List PKind) (i : Nat) : List PKind := a.take i ++ List.replicate (a.length - i) ⟨⟨#[]⟩, 0, 0⟩
theorem to_PKind_st {a : List PKind} {i : Nat} (h : i < a.length) : (to_PKind a i).set i (a.getD i default) = to_PKind a (i + 1) := by
  refine List.ext_getElem (by simp [to_PKind]; omega) fun j h1 h2 => ?_
  by_cases e : j = i
  · subst e
    simp [to_PKind, List.getElem_append, h]
    intro h9; omega
  · simp only [List.getElem_set_ne (Ne.symm e)]
    simp only [to_PKind, List.getElem_append, List.length_take, List.getElem_take, List.getElem_replicate]
    split <;> split <;> first | rfl | omega
theorem c_toPKindS (t : Nat) (a : List PKind) (ha : a.length ≤ 1048576) : Contract P 48 [.sl t 3 (a.map PKind.row)] [] (.sl 0 3 (a.map PKind.row)) [] := by
  refine fn_sound ((Env.nil P).add 79 t_toPKind h_toPKind) hm k_laws_toPlanKindS (Nat.le_of_ble_eq_true rfl) rfl ?_; unfold s_laws_toPlanKindS; simp (config := { maxSteps := 2000000 }) only [bitvec_to_nat, reduceIte, Nat.reduceEqDiff, Nat.reduceAdd, Nat.reduceLeDiff, reduceCtorEq, Nat.reduceBEq, Nat.reduceLT, Nat.reduceMod, List.forall_mem_cons, t_toPKind, tk_map, dp_map, toNat_pred, appE, rowsOf, List.take_length, List.length_cons, List.length_nil, Nat.zero_add, srow, irow, un_s, un_i, Zone.row, Zone_eta, un_Zone, Word.row, Word_eta, Own.row, Own_eta, Part.row, Part_eta, Seen.row, Seen_eta, Book.row, Book_eta, Sector.row, Sector_eta, HCraft.row, HCraft_eta, World.row, World_eta, PKind.row, PKind_eta, PPt.row, PPt_eta, Cell.row, Cell_eta, PBase.row, PBase_eta, un_Word, un_Own, un_Part, un_Seen, un_Book, un_Sector, un_HCraft, un_World, un_PKind, un_PPt, un_Cell, un_PBase, set_PKind, Nat.sub_zero]
  have m0 : List.replicate a.length [.str ⟨#[]⟩, .int .i64 0, .int .i64 0] = (to_PKind a 0).map PKind.row := by simp [to_PKind, PKind.row]
  refine ⟨by omega, ?_⟩
  refine loop_st (fun i : Nat => [(4, .int .i64 i)]) (fun i => [(107, .arr 60 0 3 ((to_PKind a i).map PKind.row))]) (fun i => i ≤ a.length) (fun i => a.length - i) 0 (by simp only [u_E0, u_E1, u_M0, u_M1, w_setE0, w_setE1, w_setM0, w_setM1, reduceIte, Nat.reduceEqDiff]; exact ⟨by repeat' (first | exact trivial | refine ⟨.inr rfl, ?_⟩), ⟨congrArg (fun g => some (AObj.arr 60 0 3 g)) m0, trivial⟩, rfl, rfl⟩) (Nat.zero_le _) ?_
  intro i hi NX hN
  skip
  unfold l_laws_toPlanKindS_0; simp (config := { maxSteps := 2000000 }) only [bitvec_to_nat, reduceIte, Nat.reduceEqDiff, Nat.reduceAdd, Nat.reduceLeDiff, reduceCtorEq, Nat.reduceBEq, Nat.reduceLT, Nat.reduceMod, List.forall_mem_cons, t_toPKind, tk_map, dp_map, toNat_pred, appE, rowsOf, List.take_length, List.length_cons, List.length_nil, Nat.zero_add, srow, irow, un_s, un_i, Zone.row, Zone_eta, un_Zone, Word.row, Word_eta, Own.row, Own_eta, Part.row, Part_eta, Seen.row, Seen_eta, Book.row, Book_eta, Sector.row, Sector_eta, HCraft.row, HCraft_eta, World.row, World_eta, PKind.row, PKind_eta, PPt.row, PPt_eta, Cell.row, Cell_eta, PBase.row, PBase_eta, un_Word, un_Own, un_Part, un_Seen, un_Book, un_Sector, un_HCraft, un_World, un_PKind, un_PPt, un_Cell, un_PBase, set_PKind, Nat.sub_zero]
  refine ⟨fun h => ?_, fun h => ?_⟩
  · repeat' (first | with_reducible apply And.intro | with_reducible intro _)
    all_goals first
      | omega
      | rfl
      | exact hs2 (by omega)
      | (have e := to_PKind_st (a := a) (i := i) (by omega)
         try simp only [PKind.row] at *
         refine hN (i + 1) _ ⟨by repeat' (first | exact trivial | refine ⟨.inr rfl, ?_⟩), ⟨congrArg (fun g => some (AObj.arr 60 0 3 (List.map PKind.row g))) e, trivial⟩, rfl, rfl⟩ ?_ ?_ <;> omega)
  · have e : i = a.length := by omega
    subst e
    simp only [to_PKind, List.take_length, Nat.sub_self, List.replicate_zero, List.append_nil]
    try rw [List.take_of_length_le (by simp)]
def t_toPKindS : List AV → Option (Prop × AV)
  | [.sl st 3 sx] => some ((((sx.map unPKind).map PKind.row = sx)) ∧ ((sx.map unPKind).length ≤ 1048576), .sl 0 3 ((sx.map unPKind).map PKind.row))
  | _ => none
theorem h_toPKindS : ∀ args p v, t_toPKindS args = some (p, v) → p → Contract P 48 args [] v [] ∧ noref v = true ∧ No99 v := by
  intro args p v h1 h2
  unfold t_toPKindS at h1
  split at h1
  · rename_i st sx
    cases h1
    obtain ⟨e0, HP⟩ := h2
    have := c_toPKindS st (sx.map unPKind) HP
    exact ⟨by simpa only [e0] using this, rfl, by simp [No99, No99L, no99_box, no99_i, no99_str, no99_Zone, no99_Word, no99_Own, no99_Part, no99_Seen, no99_Book, no99_Sector, no99_HCraft, no99_World, no99_PKind, no99_PPt, no99_Cell, no99_PBase, -List.map_map]⟩
  · cases h1
theorem c_eqPKind (c d : PKind)  : Contract P 70 [.agg (c.row), .agg (d.row)] [] (.bool (decide (c = d))) [] := by
  obtain ⟨c_nm, c_q, c_sl⟩ := c
  obtain ⟨d_nm, d_q, d_sl⟩ := d
  simp only [PKind.row]
  refine fn_sound (Env.nil P) hm k_laws_eqPlanKind (Nat.le_of_ble_eq_true rfl) rfl ?_; unfold s_laws_eqPlanKind; simp (config := { maxSteps := 2000000 }) only [bitvec_to_nat, reduceIte, Nat.reduceEqDiff, Nat.reduceAdd, Nat.reduceLeDiff, reduceCtorEq, Nat.reduceBEq, Nat.reduceLT, Nat.reduceMod, List.forall_mem_cons, tk_map, dp_map, toNat_pred, appE, rowsOf, List.take_length, List.length_cons, List.length_nil, Nat.zero_add, srow, irow, un_s, un_i, Zone.row, Zone_eta, un_Zone, Word.row, Word_eta, Own.row, Own_eta, Part.row, Part_eta, Seen.row, Seen_eta, Book.row, Book_eta, Sector.row, Sector_eta, HCraft.row, HCraft_eta, World.row, World_eta, PKind.row, PKind_eta, PPt.row, PPt_eta, Cell.row, Cell_eta, PBase.row, PBase_eta, un_Word, un_Own, un_Part, un_Seen, un_Book, un_Sector, un_HCraft, un_World, un_PKind, un_PPt, un_Cell, un_PBase]
  simp only [PKind.mk.injEq]
  repeat' (first | with_reducible apply And.intro | with_reducible intro _)
  all_goals first | omega | (simp_all; done) | grind
def t_eqPKind : List AV → Option (Prop × AV)
  | [.agg [.str c_nm, .int .i64 c_q, .int .i64 c_sl], .agg [.str d_nm, .int .i64 d_q, .int .i64 d_sl]] => some ((True) ∧ (True), .bool (decide ((PKind.mk c_nm c_q c_sl) = (PKind.mk d_nm d_q d_sl))))
  | _ => none
theorem h_eqPKind : ∀ args p v, t_eqPKind args = some (p, v) → p → Contract P 70 args [] v [] ∧ noref v = true ∧ No99 v := by
  intro args p v h1 h2
  unfold t_eqPKind at h1
  split at h1
  · rename_i c_nm c_q c_sl d_nm d_q d_sl
    cases h1
    obtain ⟨_, HP⟩ := h2
    have := c_eqPKind (PKind.mk c_nm c_q c_sl) (PKind.mk d_nm d_q d_sl)
    exact ⟨by simpa only [PKind.row, PKind.row] using this, rfl, trivial⟩
  · cases h1
theorem c_eqPKindS (t t' : Nat) (p q : List PKind) (hp : p.length ≤ 4611686018427387904) : Contract P 52 [.sl t 3 (p.map PKind.row), .sl t' 3 (q.map PKind.row)] [] (.bool (decide (p = q))) [] := by
  refine fn_sound ((Env.nil P).add 70 t_eqPKind h_eqPKind) hm k_laws_eqPlanKindS (Nat.le_of_ble_eq_true rfl) rfl ?_; unfold s_laws_eqPlanKindS; simp (config := { maxSteps := 2000000 }) only [bitvec_to_nat, reduceIte, Nat.reduceEqDiff, Nat.reduceAdd, Nat.reduceLeDiff, reduceCtorEq, Nat.reduceBEq, Nat.reduceLT, Nat.reduceMod, List.forall_mem_cons, t_eqPKind, tk_map, dp_map, toNat_pred, appE, rowsOf, List.take_length, List.length_cons, List.length_nil, Nat.zero_add, srow, irow, un_s, un_i, Zone.row, Zone_eta, un_Zone, Word.row, Word_eta, Own.row, Own_eta, Part.row, Part_eta, Seen.row, Seen_eta, Book.row, Book_eta, Sector.row, Sector_eta, HCraft.row, HCraft_eta, World.row, World_eta, PKind.row, PKind_eta, PPt.row, PPt_eta, Cell.row, Cell_eta, PBase.row, PBase_eta, un_Word, un_Own, un_Part, un_Seen, un_Book, un_Sector, un_HCraft, un_World, un_PKind, un_PPt, un_Cell, un_PBase]
  refine ⟨fun h1 h => h1 (by rw [h]), fun h1 => ?_⟩
  refine loop_st (fun i : Nat => [(5, .int .i64 i)]) (fun _ => []) (fun i => i ≤ p.length ∧ ∀ j, j < i → p.getD j default = q.getD j default) (fun i => p.length - i) (0) (by simp only [u_E0, u_E1, u_M0, u_M1, w_setE0, w_setE1, w_setM0, w_setM1, reduceIte, Nat.reduceEqDiff]; exact ⟨by repeat' (first | exact trivial | refine ⟨.inr rfl, ?_⟩), by repeat' (first | exact trivial | refine ⟨rfl, ?_⟩), by first | rfl | simp [closedB, refsIn, refsInL, refsInO, dom, refsInL_nr, *], by first | rfl | simp [keepB, dom]⟩) ?_ ?_
  · exact ⟨Nat.zero_le _, by intro j hj; omega⟩
  intro i hi NX hN
  unfold l_laws_eqPlanKindS_0; simp (config := { maxSteps := 2000000 }) only [bitvec_to_nat, reduceIte, Nat.reduceEqDiff, Nat.reduceAdd, Nat.reduceLeDiff, reduceCtorEq, Nat.reduceBEq, Nat.reduceLT, Nat.reduceMod, List.forall_mem_cons, t_eqPKind, tk_map, dp_map, toNat_pred, appE, rowsOf, List.take_length, List.length_cons, List.length_nil, Nat.zero_add, srow, irow, un_s, un_i, Zone.row, Zone_eta, un_Zone, Word.row, Word_eta, Own.row, Own_eta, Part.row, Part_eta, Seen.row, Seen_eta, Book.row, Book_eta, Sector.row, Sector_eta, HCraft.row, HCraft_eta, World.row, World_eta, PKind.row, PKind_eta, PPt.row, PPt_eta, Cell.row, Cell_eta, PBase.row, PBase_eta, un_Word, un_Own, un_Part, un_Seen, un_Book, un_Sector, un_HCraft, un_World, un_PKind, un_PPt, un_Cell, un_PBase]
  skip
  repeat' (first | with_reducible apply And.intro | with_reducible intro _)
  all_goals first
    | omega
    | (refine hN (i + 1) _ (by simp only [u_E0, u_E1, u_M0, u_M1, w_setE0, w_setE1, w_setM0, w_setM1, reduceIte, Nat.reduceEqDiff]; exact ⟨by repeat' (first | exact trivial | refine ⟨.inr rfl, ?_⟩), by repeat' (first | exact trivial | refine ⟨rfl, ?_⟩), by first | rfl | simp [closedB, refsIn, refsInL, refsInO, dom, refsInL_nr, *], by first | rfl | simp [keepB, dom]⟩) ?_ ?_
       · exact ⟨by omega, all_snoc hi.2 (by with_reducible assumption)⟩
       · omega)
    | (intro h; subst h; exact absurd rfl (by with_reducible assumption))
    | (exact ext_of (by omega) fun j hj => hi.2 j (by omega))
    | grind
def t_eqPKindS : List AV → Option (Prop × AV)
  | [.sl ct 3 cx, .sl dt 3 dx] => some ((((cx.map unPKind).map PKind.row = cx) ∧ ((dx.map unPKind).map PKind.row = dx)) ∧ ((cx.map unPKind).length ≤ 4611686018427387904), .bool (decide ((cx.map unPKind) = (dx.map unPKind))))
  | _ => none
theorem h_eqPKindS : ∀ args p v, t_eqPKindS args = some (p, v) → p → Contract P 52 args [] v [] ∧ noref v = true ∧ No99 v := by
  intro args p v h1 h2
  unfold t_eqPKindS at h1
  split at h1
  · rename_i ct cx dt dx
    cases h1
    obtain ⟨⟨e0, e1⟩, HP⟩ := h2
    have := c_eqPKindS ct dt (cx.map unPKind) (dx.map unPKind) HP
    exact ⟨by simpa only [e0, e1] using this, rfl, trivial⟩
  · cases h1
theorem c_toPKindSO (t : Nat) (a : List PKind) (ha : a.length ≤ 1048576) : Contract P 48 [.sl t 3 (a.map PKind.row)] [] (.own 107 0 0 a.length) [(107, .arr 60 0 3 (a.map PKind.row))] := by
  have tkA : List.take a.length (a.map PKind.row) = a.map PKind.row := List.take_of_length_le (by simp)
  refine fn_sound ((Env.nil P).add 79 t_toPKind h_toPKind) hm kO_laws_toPlanKindS (Nat.le_of_ble_eq_true rfl) rfl ?_; unfold sO_laws_toPlanKindS; simp (config := { maxSteps := 2000000 }) only [bitvec_to_nat, reduceIte, Nat.reduceEqDiff, Nat.reduceAdd, Nat.reduceLeDiff, reduceCtorEq, Nat.reduceBEq, Nat.reduceLT, Nat.reduceMod, List.forall_mem_cons, retG_ret, retQ_eq, retQ_eqN, retOk, keepB, re_tupl, orr_t, t_toPKind, tk_map, dp_map, toNat_pred, appE, rowsOf, List.take_length, List.length_cons, List.length_nil, Nat.zero_add, srow, irow, un_s, un_i, Zone.row, Zone_eta, un_Zone, Word.row, Word_eta, Own.row, Own_eta, Part.row, Part_eta, Seen.row, Seen_eta, Book.row, Book_eta, Sector.row, Sector_eta, HCraft.row, HCraft_eta, World.row, World_eta, PKind.row, PKind_eta, PPt.row, PPt_eta, Cell.row, Cell_eta, PBase.row, PBase_eta, un_Word, un_Own, un_Part, un_Seen, un_Book, un_Sector, un_HCraft, un_World, un_PKind, un_PPt, un_Cell, un_PBase, set_PKind, Nat.sub_zero]
  have m0 : List.replicate a.length [.str ⟨#[]⟩, .int .i64 0, .int .i64 0] = (to_PKind a 0).map PKind.row := by simp [to_PKind, PKind.row]
  refine ⟨by omega, ?_⟩
  refine loop_st (fun i : Nat => [(4, .int .i64 i)]) (fun i => [(107, .arr 60 0 3 ((to_PKind a i).map PKind.row))]) (fun i => i ≤ a.length) (fun i => a.length - i) 0 (by simp only [u_E0, u_E1, u_M0, u_M1, w_setE0, w_setE1, w_setM0, w_setM1, reduceIte, Nat.reduceEqDiff]; exact ⟨by repeat' (first | exact trivial | refine ⟨.inr rfl, ?_⟩), ⟨congrArg (fun g => some (AObj.arr 60 0 3 g)) m0, trivial⟩, rfl, rfl⟩) (Nat.zero_le _) ?_
  intro i hi NX hN
  unfold lO_laws_toPlanKindS_0; simp (config := { maxSteps := 2000000 }) only [bitvec_to_nat, reduceIte, Nat.reduceEqDiff, Nat.reduceAdd, Nat.reduceLeDiff, reduceCtorEq, Nat.reduceBEq, Nat.reduceLT, Nat.reduceMod, List.forall_mem_cons, retG_ret, retQ_eq, retQ_eqN, retOk, keepB, re_tupl, orr_t, t_toPKind, tk_map, dp_map, toNat_pred, appE, rowsOf, List.take_length, List.length_cons, List.length_nil, Nat.zero_add, srow, irow, un_s, un_i, Zone.row, Zone_eta, un_Zone, Word.row, Word_eta, Own.row, Own_eta, Part.row, Part_eta, Seen.row, Seen_eta, Book.row, Book_eta, Sector.row, Sector_eta, HCraft.row, HCraft_eta, World.row, World_eta, PKind.row, PKind_eta, PPt.row, PPt_eta, Cell.row, Cell_eta, PBase.row, PBase_eta, un_Word, un_Own, un_Part, un_Seen, un_Book, un_Sector, un_HCraft, un_World, un_PKind, un_PPt, un_Cell, un_PBase, set_PKind, Nat.sub_zero]
  refine ⟨fun h => ?_, fun h => ?_⟩
  · repeat' (first | with_reducible apply And.intro | with_reducible intro _)
    all_goals first
      | omega
      | rfl
      | (have e := to_PKind_st (a := a) (i := i) (by omega)
         try simp only [PKind.row] at *
         refine hN (i + 1) _ ⟨by repeat' (first | exact trivial | refine ⟨.inr rfl, ?_⟩), ⟨congrArg (fun g => some (AObj.arr 60 0 3 (List.map PKind.row g))) e, trivial⟩, rfl, rfl⟩ ?_ ?_ <;> omega)
  · have e : i = a.length := by omega
    subst e
    simp only [to_PKind, List.take_length, Nat.sub_self, List.replicate_zero, List.append_nil]
    exact ⟨trivial, rfl, rfl⟩
theorem c_toPPt (s : PPt) : Contract P 80 [.agg (s.row)] [] (.agg (s.row)) [] := by
  simp only [PPt.row]
  refine fn_sound (Env.nil P) hm k_laws_toPlanPoint (Nat.le_of_ble_eq_true rfl) rfl ?_; unfold s_laws_toPlanPoint; simp (config := { maxSteps := 2000000 }) only [bitvec_to_nat, reduceIte, Nat.reduceEqDiff, Nat.reduceAdd, Nat.reduceLeDiff, reduceCtorEq, Nat.reduceBEq, Nat.reduceLT, Nat.reduceMod, List.forall_mem_cons, tk_map, dp_map, toNat_pred, appE, rowsOf, List.take_length, List.length_cons, List.length_nil, Nat.zero_add, srow, irow, un_s, un_i, Zone.row, Zone_eta, un_Zone, Word.row, Word_eta, Own.row, Own_eta, Part.row, Part_eta, Seen.row, Seen_eta, Book.row, Book_eta, Sector.row, Sector_eta, HCraft.row, HCraft_eta, World.row, World_eta, PKind.row, PKind_eta, PPt.row, PPt_eta, Cell.row, Cell_eta, PBase.row, PBase_eta, un_Word, un_Own, un_Part, un_Seen, un_Book, un_Sector, un_HCraft, un_World, un_PKind, un_PPt, un_Cell, un_PBase]
  all_goals trivial
def t_toPPt : List AV → Option (Prop × AV)
  | [.agg [.str s_nm, .int .i64 s_x, .int .i64 s_y]] => some ((True) ∧ (True), .agg (PPt.row (PPt.mk s_nm s_x s_y)))
  | _ => none
theorem h_toPPt : ∀ args p v, t_toPPt args = some (p, v) → p → Contract P 80 args [] v [] ∧ noref v = true ∧ No99 v := by
  intro args p v h1 h2
  unfold t_toPPt at h1
  split at h1
  · rename_i s_nm s_x s_y
    cases h1
    obtain ⟨_, HP⟩ := h2
    have := c_toPPt (PPt.mk s_nm s_x s_y)
    exact ⟨by simpa only [PPt.row] using this, rfl, by simp [PPt.row, No99, No99L, no99_box, no99_i, no99_str, no99_Zone, no99_Word, no99_Own, no99_Part, no99_Seen, no99_Book, no99_Sector, no99_HCraft, no99_World, no99_PKind, no99_PPt, no99_Cell, no99_PBase, -List.map_map]⟩
  · cases h1
theorem set_PPt {lst : List PPt} {idx : Nat} {vnm : ByteArray} {vx : Int} {vy : Int} : (lst.map PPt.row).set idx (setSeg ((lst.map PPt.row).getD idx []) 0 [.str vnm, .int .i64 vx, .int .i64 vy]) = (lst.set idx (PPt.mk vnm vx vy)).map PPt.row :=
  set_rows (α := PPt) (f := PPt.row) (fun s => (PPt.mk vnm vx vy)) fun x => by simp [PPt.row, setSeg]
def to_PPt (a : List PPt) (i : Nat) : List PPt := a.take i ++ List.replicate (a.length - i) ⟨⟨#[]⟩, 0, 0⟩
theorem to_PPt_st {a : List PPt} {i : Nat} (h : i < a.length) : (to_PPt a i).set i (a.getD i default) = to_PPt a (i + 1) := by
  refine List.ext_getElem (by simp [to_PPt]; omega) fun j h1 h2 => ?_
  by_cases e : j = i
  · subst e
    simp [to_PPt, List.getElem_append, h]
    intro h9; omega
  · simp only [List.getElem_set_ne (Ne.symm e)]
    simp only [to_PPt, List.getElem_append, List.length_take, List.getElem_take, List.getElem_replicate]
    split <;> split <;> first | rfl | omega
theorem c_toPPtS (t : Nat) (a : List PPt) (ha : a.length ≤ 1048576) : Contract P 49 [.sl t 3 (a.map PPt.row)] [] (.sl 0 3 (a.map PPt.row)) [] := by
  refine fn_sound ((Env.nil P).add 80 t_toPPt h_toPPt) hm k_laws_toPlanPointS (Nat.le_of_ble_eq_true rfl) rfl ?_; unfold s_laws_toPlanPointS; simp (config := { maxSteps := 2000000 }) only [bitvec_to_nat, reduceIte, Nat.reduceEqDiff, Nat.reduceAdd, Nat.reduceLeDiff, reduceCtorEq, Nat.reduceBEq, Nat.reduceLT, Nat.reduceMod, List.forall_mem_cons, t_toPPt, tk_map, dp_map, toNat_pred, appE, rowsOf, List.take_length, List.length_cons, List.length_nil, Nat.zero_add, srow, irow, un_s, un_i, Zone.row, Zone_eta, un_Zone, Word.row, Word_eta, Own.row, Own_eta, Part.row, Part_eta, Seen.row, Seen_eta, Book.row, Book_eta, Sector.row, Sector_eta, HCraft.row, HCraft_eta, World.row, World_eta, PKind.row, PKind_eta, PPt.row, PPt_eta, Cell.row, Cell_eta, PBase.row, PBase_eta, un_Word, un_Own, un_Part, un_Seen, un_Book, un_Sector, un_HCraft, un_World, un_PKind, un_PPt, un_Cell, un_PBase, set_PPt, Nat.sub_zero]
  have m0 : List.replicate a.length [.str ⟨#[]⟩, .int .i64 0, .int .i64 0] = (to_PPt a 0).map PPt.row := by simp [to_PPt, PPt.row]
  refine ⟨by omega, ?_⟩
  refine loop_st (fun i : Nat => [(4, .int .i64 i)]) (fun i => [(107, .arr 119 0 3 ((to_PPt a i).map PPt.row))]) (fun i => i ≤ a.length) (fun i => a.length - i) 0 (by simp only [u_E0, u_E1, u_M0, u_M1, w_setE0, w_setE1, w_setM0, w_setM1, reduceIte, Nat.reduceEqDiff]; exact ⟨by repeat' (first | exact trivial | refine ⟨.inr rfl, ?_⟩), ⟨congrArg (fun g => some (AObj.arr 119 0 3 g)) m0, trivial⟩, rfl, rfl⟩) (Nat.zero_le _) ?_
  intro i hi NX hN
  skip
  unfold l_laws_toPlanPointS_0; simp (config := { maxSteps := 2000000 }) only [bitvec_to_nat, reduceIte, Nat.reduceEqDiff, Nat.reduceAdd, Nat.reduceLeDiff, reduceCtorEq, Nat.reduceBEq, Nat.reduceLT, Nat.reduceMod, List.forall_mem_cons, t_toPPt, tk_map, dp_map, toNat_pred, appE, rowsOf, List.take_length, List.length_cons, List.length_nil, Nat.zero_add, srow, irow, un_s, un_i, Zone.row, Zone_eta, un_Zone, Word.row, Word_eta, Own.row, Own_eta, Part.row, Part_eta, Seen.row, Seen_eta, Book.row, Book_eta, Sector.row, Sector_eta, HCraft.row, HCraft_eta, World.row, World_eta, PKind.row, PKind_eta, PPt.row, PPt_eta, Cell.row, Cell_eta, PBase.row, PBase_eta, un_Word, un_Own, un_Part, un_Seen, un_Book, un_Sector, un_HCraft, un_World, un_PKind, un_PPt, un_Cell, un_PBase, set_PPt, Nat.sub_zero]
  refine ⟨fun h => ?_, fun h => ?_⟩
  · repeat' (first | with_reducible apply And.intro | with_reducible intro _)
    all_goals first
      | omega
      | rfl
      | exact hs2 (by omega)
      | (have e := to_PPt_st (a := a) (i := i) (by omega)
         try simp only [PPt.row] at *
         refine hN (i + 1) _ ⟨by repeat' (first | exact trivial | refine ⟨.inr rfl, ?_⟩), ⟨congrArg (fun g => some (AObj.arr 119 0 3 (List.map PPt.row g))) e, trivial⟩, rfl, rfl⟩ ?_ ?_ <;> omega)
  · have e : i = a.length := by omega
    subst e
    simp only [to_PPt, List.take_length, Nat.sub_self, List.replicate_zero, List.append_nil]
    try rw [List.take_of_length_le (by simp)]
def t_toPPtS : List AV → Option (Prop × AV)
  | [.sl st 3 sx] => some ((((sx.map unPPt).map PPt.row = sx)) ∧ ((sx.map unPPt).length ≤ 1048576), .sl 0 3 ((sx.map unPPt).map PPt.row))
  | _ => none
theorem h_toPPtS : ∀ args p v, t_toPPtS args = some (p, v) → p → Contract P 49 args [] v [] ∧ noref v = true ∧ No99 v := by
  intro args p v h1 h2
  unfold t_toPPtS at h1
  split at h1
  · rename_i st sx
    cases h1
    obtain ⟨e0, HP⟩ := h2
    have := c_toPPtS st (sx.map unPPt) HP
    exact ⟨by simpa only [e0] using this, rfl, by simp [No99, No99L, no99_box, no99_i, no99_str, no99_Zone, no99_Word, no99_Own, no99_Part, no99_Seen, no99_Book, no99_Sector, no99_HCraft, no99_World, no99_PKind, no99_PPt, no99_Cell, no99_PBase, -List.map_map]⟩
  · cases h1
theorem c_eqPPt (c d : PPt)  : Contract P 89 [.agg (c.row), .agg (d.row)] [] (.bool (decide (c = d))) [] := by
  obtain ⟨c_nm, c_x, c_y⟩ := c
  obtain ⟨d_nm, d_x, d_y⟩ := d
  simp only [PPt.row]
  refine fn_sound (Env.nil P) hm k_laws_eqPlanPoint (Nat.le_of_ble_eq_true rfl) rfl ?_; unfold s_laws_eqPlanPoint; simp (config := { maxSteps := 2000000 }) only [bitvec_to_nat, reduceIte, Nat.reduceEqDiff, Nat.reduceAdd, Nat.reduceLeDiff, reduceCtorEq, Nat.reduceBEq, Nat.reduceLT, Nat.reduceMod, List.forall_mem_cons, tk_map, dp_map, toNat_pred, appE, rowsOf, List.take_length, List.length_cons, List.length_nil, Nat.zero_add, srow, irow, un_s, un_i, Zone.row, Zone_eta, un_Zone, Word.row, Word_eta, Own.row, Own_eta, Part.row, Part_eta, Seen.row, Seen_eta, Book.row, Book_eta, Sector.row, Sector_eta, HCraft.row, HCraft_eta, World.row, World_eta, PKind.row, PKind_eta, PPt.row, PPt_eta, Cell.row, Cell_eta, PBase.row, PBase_eta, un_Word, un_Own, un_Part, un_Seen, un_Book, un_Sector, un_HCraft, un_World, un_PKind, un_PPt, un_Cell, un_PBase]
  simp only [PPt.mk.injEq]
  repeat' (first | with_reducible apply And.intro | with_reducible intro _)
  all_goals first | omega | (simp_all; done) | grind
def t_eqPPt : List AV → Option (Prop × AV)
  | [.agg [.str c_nm, .int .i64 c_x, .int .i64 c_y], .agg [.str d_nm, .int .i64 d_x, .int .i64 d_y]] => some ((True) ∧ (True), .bool (decide ((PPt.mk c_nm c_x c_y) = (PPt.mk d_nm d_x d_y))))
  | _ => none
theorem h_eqPPt : ∀ args p v, t_eqPPt args = some (p, v) → p → Contract P 89 args [] v [] ∧ noref v = true ∧ No99 v := by
  intro args p v h1 h2
  unfold t_eqPPt at h1
  split at h1
  · rename_i c_nm c_x c_y d_nm d_x d_y
    cases h1
    obtain ⟨_, HP⟩ := h2
    have := c_eqPPt (PPt.mk c_nm c_x c_y) (PPt.mk d_nm d_x d_y)
    exact ⟨by simpa only [PPt.row, PPt.row] using this, rfl, trivial⟩
  · cases h1
theorem c_eqPPtS (t t' : Nat) (p q : List PPt) (hp : p.length ≤ 4611686018427387904) : Contract P 53 [.sl t 3 (p.map PPt.row), .sl t' 3 (q.map PPt.row)] [] (.bool (decide (p = q))) [] := by
  refine fn_sound ((Env.nil P).add 89 t_eqPPt h_eqPPt) hm k_laws_eqPlanPointS (Nat.le_of_ble_eq_true rfl) rfl ?_; unfold s_laws_eqPlanPointS; simp (config := { maxSteps := 2000000 }) only [bitvec_to_nat, reduceIte, Nat.reduceEqDiff, Nat.reduceAdd, Nat.reduceLeDiff, reduceCtorEq, Nat.reduceBEq, Nat.reduceLT, Nat.reduceMod, List.forall_mem_cons, t_eqPPt, tk_map, dp_map, toNat_pred, appE, rowsOf, List.take_length, List.length_cons, List.length_nil, Nat.zero_add, srow, irow, un_s, un_i, Zone.row, Zone_eta, un_Zone, Word.row, Word_eta, Own.row, Own_eta, Part.row, Part_eta, Seen.row, Seen_eta, Book.row, Book_eta, Sector.row, Sector_eta, HCraft.row, HCraft_eta, World.row, World_eta, PKind.row, PKind_eta, PPt.row, PPt_eta, Cell.row, Cell_eta, PBase.row, PBase_eta, un_Word, un_Own, un_Part, un_Seen, un_Book, un_Sector, un_HCraft, un_World, un_PKind, un_PPt, un_Cell, un_PBase]
  refine ⟨fun h1 h => h1 (by rw [h]), fun h1 => ?_⟩
  refine loop_st (fun i : Nat => [(5, .int .i64 i)]) (fun _ => []) (fun i => i ≤ p.length ∧ ∀ j, j < i → p.getD j default = q.getD j default) (fun i => p.length - i) (0) (by simp only [u_E0, u_E1, u_M0, u_M1, w_setE0, w_setE1, w_setM0, w_setM1, reduceIte, Nat.reduceEqDiff]; exact ⟨by repeat' (first | exact trivial | refine ⟨.inr rfl, ?_⟩), by repeat' (first | exact trivial | refine ⟨rfl, ?_⟩), by first | rfl | simp [closedB, refsIn, refsInL, refsInO, dom, refsInL_nr, *], by first | rfl | simp [keepB, dom]⟩) ?_ ?_
  · exact ⟨Nat.zero_le _, by intro j hj; omega⟩
  intro i hi NX hN
  unfold l_laws_eqPlanPointS_0; simp (config := { maxSteps := 2000000 }) only [bitvec_to_nat, reduceIte, Nat.reduceEqDiff, Nat.reduceAdd, Nat.reduceLeDiff, reduceCtorEq, Nat.reduceBEq, Nat.reduceLT, Nat.reduceMod, List.forall_mem_cons, t_eqPPt, tk_map, dp_map, toNat_pred, appE, rowsOf, List.take_length, List.length_cons, List.length_nil, Nat.zero_add, srow, irow, un_s, un_i, Zone.row, Zone_eta, un_Zone, Word.row, Word_eta, Own.row, Own_eta, Part.row, Part_eta, Seen.row, Seen_eta, Book.row, Book_eta, Sector.row, Sector_eta, HCraft.row, HCraft_eta, World.row, World_eta, PKind.row, PKind_eta, PPt.row, PPt_eta, Cell.row, Cell_eta, PBase.row, PBase_eta, un_Word, un_Own, un_Part, un_Seen, un_Book, un_Sector, un_HCraft, un_World, un_PKind, un_PPt, un_Cell, un_PBase]
  skip
  repeat' (first | with_reducible apply And.intro | with_reducible intro _)
  all_goals first
    | omega
    | (refine hN (i + 1) _ (by simp only [u_E0, u_E1, u_M0, u_M1, w_setE0, w_setE1, w_setM0, w_setM1, reduceIte, Nat.reduceEqDiff]; exact ⟨by repeat' (first | exact trivial | refine ⟨.inr rfl, ?_⟩), by repeat' (first | exact trivial | refine ⟨rfl, ?_⟩), by first | rfl | simp [closedB, refsIn, refsInL, refsInO, dom, refsInL_nr, *], by first | rfl | simp [keepB, dom]⟩) ?_ ?_
       · exact ⟨by omega, all_snoc hi.2 (by with_reducible assumption)⟩
       · omega)
    | (intro h; subst h; exact absurd rfl (by with_reducible assumption))
    | (exact ext_of (by omega) fun j hj => hi.2 j (by omega))
    | grind
def t_eqPPtS : List AV → Option (Prop × AV)
  | [.sl ct 3 cx, .sl dt 3 dx] => some ((((cx.map unPPt).map PPt.row = cx) ∧ ((dx.map unPPt).map PPt.row = dx)) ∧ ((cx.map unPPt).length ≤ 4611686018427387904), .bool (decide ((cx.map unPPt) = (dx.map unPPt))))
  | _ => none
theorem h_eqPPtS : ∀ args p v, t_eqPPtS args = some (p, v) → p → Contract P 53 args [] v [] ∧ noref v = true ∧ No99 v := by
  intro args p v h1 h2
  unfold t_eqPPtS at h1
  split at h1
  · rename_i ct cx dt dx
    cases h1
    obtain ⟨⟨e0, e1⟩, HP⟩ := h2
    have := c_eqPPtS ct dt (cx.map unPPt) (dx.map unPPt) HP
    exact ⟨by simpa only [e0, e1] using this, rfl, trivial⟩
  · cases h1
theorem c_toPPtSO (t : Nat) (a : List PPt) (ha : a.length ≤ 1048576) : Contract P 49 [.sl t 3 (a.map PPt.row)] [] (.own 107 0 0 a.length) [(107, .arr 119 0 3 (a.map PPt.row))] := by
  have tkA : List.take a.length (a.map PPt.row) = a.map PPt.row := List.take_of_length_le (by simp)
  refine fn_sound ((Env.nil P).add 80 t_toPPt h_toPPt) hm kO_laws_toPlanPointS (Nat.le_of_ble_eq_true rfl) rfl ?_; unfold sO_laws_toPlanPointS; simp (config := { maxSteps := 2000000 }) only [bitvec_to_nat, reduceIte, Nat.reduceEqDiff, Nat.reduceAdd, Nat.reduceLeDiff, reduceCtorEq, Nat.reduceBEq, Nat.reduceLT, Nat.reduceMod, List.forall_mem_cons, retG_ret, retQ_eq, retQ_eqN, retOk, keepB, re_tupl, orr_t, t_toPPt, tk_map, dp_map, toNat_pred, appE, rowsOf, List.take_length, List.length_cons, List.length_nil, Nat.zero_add, srow, irow, un_s, un_i, Zone.row, Zone_eta, un_Zone, Word.row, Word_eta, Own.row, Own_eta, Part.row, Part_eta, Seen.row, Seen_eta, Book.row, Book_eta, Sector.row, Sector_eta, HCraft.row, HCraft_eta, World.row, World_eta, PKind.row, PKind_eta, PPt.row, PPt_eta, Cell.row, Cell_eta, PBase.row, PBase_eta, un_Word, un_Own, un_Part, un_Seen, un_Book, un_Sector, un_HCraft, un_World, un_PKind, un_PPt, un_Cell, un_PBase, set_PPt, Nat.sub_zero]
  have m0 : List.replicate a.length [.str ⟨#[]⟩, .int .i64 0, .int .i64 0] = (to_PPt a 0).map PPt.row := by simp [to_PPt, PPt.row]
  refine ⟨by omega, ?_⟩
  refine loop_st (fun i : Nat => [(4, .int .i64 i)]) (fun i => [(107, .arr 119 0 3 ((to_PPt a i).map PPt.row))]) (fun i => i ≤ a.length) (fun i => a.length - i) 0 (by simp only [u_E0, u_E1, u_M0, u_M1, w_setE0, w_setE1, w_setM0, w_setM1, reduceIte, Nat.reduceEqDiff]; exact ⟨by repeat' (first | exact trivial | refine ⟨.inr rfl, ?_⟩), ⟨congrArg (fun g => some (AObj.arr 119 0 3 g)) m0, trivial⟩, rfl, rfl⟩) (Nat.zero_le _) ?_
  intro i hi NX hN
  unfold lO_laws_toPlanPointS_0; simp (config := { maxSteps := 2000000 }) only [bitvec_to_nat, reduceIte, Nat.reduceEqDiff, Nat.reduceAdd, Nat.reduceLeDiff, reduceCtorEq, Nat.reduceBEq, Nat.reduceLT, Nat.reduceMod, List.forall_mem_cons, retG_ret, retQ_eq, retQ_eqN, retOk, keepB, re_tupl, orr_t, t_toPPt, tk_map, dp_map, toNat_pred, appE, rowsOf, List.take_length, List.length_cons, List.length_nil, Nat.zero_add, srow, irow, un_s, un_i, Zone.row, Zone_eta, un_Zone, Word.row, Word_eta, Own.row, Own_eta, Part.row, Part_eta, Seen.row, Seen_eta, Book.row, Book_eta, Sector.row, Sector_eta, HCraft.row, HCraft_eta, World.row, World_eta, PKind.row, PKind_eta, PPt.row, PPt_eta, Cell.row, Cell_eta, PBase.row, PBase_eta, un_Word, un_Own, un_Part, un_Seen, un_Book, un_Sector, un_HCraft, un_World, un_PKind, un_PPt, un_Cell, un_PBase, set_PPt, Nat.sub_zero]
  refine ⟨fun h => ?_, fun h => ?_⟩
  · repeat' (first | with_reducible apply And.intro | with_reducible intro _)
    all_goals first
      | omega
      | rfl
      | (have e := to_PPt_st (a := a) (i := i) (by omega)
         try simp only [PPt.row] at *
         refine hN (i + 1) _ ⟨by repeat' (first | exact trivial | refine ⟨.inr rfl, ?_⟩), ⟨congrArg (fun g => some (AObj.arr 119 0 3 (List.map PPt.row g))) e, trivial⟩, rfl, rfl⟩ ?_ ?_ <;> omega)
  · have e : i = a.length := by omega
    subst e
    simp only [to_PPt, List.take_length, Nat.sub_self, List.replicate_zero, List.append_nil]
    exact ⟨trivial, rfl, rfl⟩
theorem c_toPBase (s : PBase) (hs : s.small) : Contract P 11 [.agg (s.row 1)] [] (.agg (s.row 0)) [] := by
  unfold PBase.small at hs
  simp only [PBase.row]
  refine fn_sound (((Env.nil P).add 48 t_toPKindS h_toPKindS).add 49 t_toPPtS h_toPPtS) hm k_laws_toPlanBase (Nat.le_of_ble_eq_true rfl) rfl ?_; unfold s_laws_toPlanBase; simp (config := { maxSteps := 2000000 }) only [bitvec_to_nat, reduceIte, Nat.reduceEqDiff, Nat.reduceAdd, Nat.reduceLeDiff, reduceCtorEq, Nat.reduceBEq, Nat.reduceLT, Nat.reduceMod, List.forall_mem_cons, t_toPKindS, t_toPPtS, tk_map, dp_map, toNat_pred, appE, rowsOf, List.take_length, List.length_cons, List.length_nil, Nat.zero_add, srow, irow, un_s, un_i, Zone.row, Zone_eta, un_Zone, Word.row, Word_eta, Own.row, Own_eta, Part.row, Part_eta, Seen.row, Seen_eta, Book.row, Book_eta, Sector.row, Sector_eta, HCraft.row, HCraft_eta, World.row, World_eta, PKind.row, PKind_eta, PPt.row, PPt_eta, Cell.row, Cell_eta, PBase.row, PBase_eta, un_Word, un_Own, un_Part, un_Seen, un_Book, un_Sector, un_HCraft, un_World, un_PKind, un_PPt, un_Cell, un_PBase]
  repeat' (first | with_reducible apply And.intro | with_reducible intro _)
  all_goals first | omega | grind | grind [Word.small, Own.small, Part.small, Book.small, Sector.small, HCraft.small, World.small, PBase.small]
def t_toPBase : List AV → Option (Prop × AV)
  | [.agg [.sl 1 3 s_ks, .sl 1 3 s_ps]] => some ((((s_ks.map unPKind).map PKind.row = s_ks) ∧ ((s_ps.map unPPt).map PPt.row = s_ps)) ∧ (PBase.small (PBase.mk (s_ks.map unPKind) (s_ps.map unPPt))), .agg (PBase.row 0 (PBase.mk (s_ks.map unPKind) (s_ps.map unPPt))))
  | _ => none
theorem h_toPBase : ∀ args p v, t_toPBase args = some (p, v) → p → Contract P 11 args [] v [] ∧ noref v = true ∧ No99 v := by
  intro args p v h1 h2
  unfold t_toPBase at h1
  split at h1
  · rename_i s_ks s_ps
    cases h1
    obtain ⟨⟨e0, e1⟩, HP⟩ := h2
    have := c_toPBase (PBase.mk (s_ks.map unPKind) (s_ps.map unPPt)) HP
    exact ⟨by simpa only [e0, e1, PBase.row] using this, rfl, by simp [PBase.row, No99, No99L, no99_box, no99_i, no99_str, no99_Zone, no99_Word, no99_Own, no99_Part, no99_Seen, no99_Book, no99_Sector, no99_HCraft, no99_World, no99_PKind, no99_PPt, no99_Cell, no99_PBase, -List.map_map]⟩
  · cases h1
theorem c_eqPBase (c d : PBase) (hl : c.ks.length ≤ 4611686018427387904 ∧ c.ps.length ≤ 4611686018427387904) : Contract P 13 [.agg (c.row 0), .agg (d.row 0)] [] (.bool (decide (c = d))) [] := by
  obtain ⟨c_ks, c_ps⟩ := c
  obtain ⟨d_ks, d_ps⟩ := d
  simp only [PBase.row]
  refine fn_sound (((Env.nil P).add 52 t_eqPKindS h_eqPKindS).add 53 t_eqPPtS h_eqPPtS) hm k_laws_eqPlanBase (Nat.le_of_ble_eq_true rfl) rfl ?_; unfold s_laws_eqPlanBase; simp (config := { maxSteps := 2000000 }) only [bitvec_to_nat, reduceIte, Nat.reduceEqDiff, Nat.reduceAdd, Nat.reduceLeDiff, reduceCtorEq, Nat.reduceBEq, Nat.reduceLT, Nat.reduceMod, List.forall_mem_cons, t_eqPKindS, t_eqPPtS, tk_map, dp_map, toNat_pred, appE, rowsOf, List.take_length, List.length_cons, List.length_nil, Nat.zero_add, srow, irow, un_s, un_i, Zone.row, Zone_eta, un_Zone, Word.row, Word_eta, Own.row, Own_eta, Part.row, Part_eta, Seen.row, Seen_eta, Book.row, Book_eta, Sector.row, Sector_eta, HCraft.row, HCraft_eta, World.row, World_eta, PKind.row, PKind_eta, PPt.row, PPt_eta, Cell.row, Cell_eta, PBase.row, PBase_eta, un_Word, un_Own, un_Part, un_Seen, un_Book, un_Sector, un_HCraft, un_World, un_PKind, un_PPt, un_Cell, un_PBase]
  simp only [PBase.mk.injEq]
  repeat' (first | with_reducible apply And.intro | with_reducible intro _)
  all_goals first | omega | (simp_all; done) | grind | grind [Word.small, Own.small, Part.small, Book.small, Sector.small, HCraft.small, World.small, PBase.small]
def t_eqPBase : List AV → Option (Prop × AV)
  | [.agg [.sl 0 3 c_ks, .sl 0 3 c_ps], .agg [.sl 0 3 d_ks, .sl 0 3 d_ps]] => some ((((c_ks.map unPKind).map PKind.row = c_ks) ∧ ((c_ps.map unPPt).map PPt.row = c_ps) ∧ ((d_ks.map unPKind).map PKind.row = d_ks) ∧ ((d_ps.map unPPt).map PPt.row = d_ps)) ∧ ((PBase.mk (c_ks.map unPKind) (c_ps.map unPPt)).ks.length ≤ 4611686018427387904 ∧ (PBase.mk (c_ks.map unPKind) (c_ps.map unPPt)).ps.length ≤ 4611686018427387904), .bool (decide ((PBase.mk (c_ks.map unPKind) (c_ps.map unPPt)) = (PBase.mk (d_ks.map unPKind) (d_ps.map unPPt)))))
  | _ => none
theorem h_eqPBase : ∀ args p v, t_eqPBase args = some (p, v) → p → Contract P 13 args [] v [] ∧ noref v = true ∧ No99 v := by
  intro args p v h1 h2
  unfold t_eqPBase at h1
  split at h1
  · rename_i c_ks c_ps d_ks d_ps
    cases h1
    obtain ⟨⟨e0, e1, e2, e3⟩, HP⟩ := h2
    have := c_eqPBase (PBase.mk (c_ks.map unPKind) (c_ps.map unPPt)) (PBase.mk (d_ks.map unPKind) (d_ps.map unPPt)) HP
    exact ⟨by simpa only [e0, e1, e2, e3, PBase.row, PBase.row] using this, rfl, trivial⟩
  · cases h1
end
end Go.Ve

namespace Go.Ve
noncomputable section
open Go.Proofs
set_option linter.unusedSimpArgs false
set_option linter.unusedVariables false
set_option maxRecDepth 100000
def mk_ByteArray (k : Int) : ByteArray := mtx k
def ms_ByteArray (k : Int) (n : Nat) : List ByteArray := (List.range n).map fun j : Nat => mk_ByteArray (k + (j : Int))
theorem ms_ByteArray_len {k : Int} {n : Nat} : (ms_ByteArray k n).length = n := by simp [ms_ByteArray]
theorem ms_ByteArray_get {k : Int} {n j : Nat} (h : j < n) : (ms_ByteArray k n).getD j default = mk_ByteArray (k + (j : Int)) := by simp [ms_ByteArray, h]
theorem setm_ByteArray {l : List ByteArray} {i : Nat} {v : ByteArray} : (l.map srow).set i (setSeg ((l.map srow).getD i []) 0 [.str v]) = (l.set i v).map srow :=
  set_rows (α := ByteArray) (f := srow) (fun _ => v) fun x => by simp [srow, setSeg]
set_option maxHeartbeats 1000000 in
theorem c_markByteArrayS (v : Nat) (k : Int) (a : List ByteArray) (ha : a.length ≤ 1048577) (hk : 0 ≤ k ∧ k ≤ 1125899906842624) : Contract P 72 [.own 3 v 0 a.length, .int .i64 k] [(3, .arr 9 v 1 (a.map srow))] (.int .i64 (k + a.length)) [(3, .arr 9 v 1 ((ms_ByteArray k a.length).map srow))] := by
  have hz : ((0 : Nat) : Int) = 0 := rfl
  have gs : True := trivial
  refine fn_sound ((Env.nil P).add 66 t_markText h_markText) hm k_laws_markStringS (Nat.le_of_ble_eq_true rfl) rfl ?_; unfold s_laws_markStringS; simp (config := { maxSteps := 2000000 }) only [bitvec_to_nat, reduceIte, Nat.reduceEqDiff, Nat.reduceAdd, Nat.reduceLeDiff, reduceCtorEq, Nat.reduceBEq, Nat.reduceLT, Nat.reduceMod, List.forall_mem_cons, retG_ret, retQ_eq, retQ_eqN, retOk, keepB, re_tupl, orr_t, t_markText, setm_ByteArray, List.set_set, gs, irow, srow, Int.toNat_natCast, List.length_map, List.length_set, Nat.sub_zero, Nat.zero_add, hz]
  refine loop_st (fun b : Nat × List ByteArray => [(1, .int .i64 (k + b.1)), (5, .int .i64 b.1)]) (fun b => [(3, .arr 9 v 1 (b.2.map srow))]) (fun b => b.2.length = a.length ∧ b.1 ≤ a.length ∧ ∀ j, j < b.1 → b.2.getD j default = mk_ByteArray (k + (j : Int))) (fun b => a.length - b.1) (0, a) ?_ ⟨rfl, Nat.zero_le _, fun j hj => absurd hj (Nat.not_lt_zero _)⟩ ?_
  · have e0 : k + ((0 : Nat) : Int) = k := by omega
    simp only [e0]
    simp only [u_E0, u_E1, u_M0, u_M1, w_setE0, w_setE1, w_setM0, w_setM1, reduceIte, Nat.reduceEqDiff]; exact ⟨by repeat' (first | exact trivial | refine ⟨.inr rfl, ?_⟩), by repeat' (first | exact trivial | refine ⟨rfl, ?_⟩), by first | rfl | simp [closedB, refsIn, refsInL, refsInO, dom, refsInL_nr, *], by first | rfl | simp [keepB, dom]⟩
  rintro ⟨i, l⟩ ⟨h1, h2, h3⟩ NX hN
  simp only at h1 h2 h3
  have gs : i < a.length → ∀ x : ByteArray, (l.set i x).getD i default = x := fun h x => getD_seti' (by omega)
  by_cases hi : i < a.length
  · have gs := gs hi
    have e5 : k + ((i + 1 : Nat) : Int) = k + (i : Int) + 1 := by omega
    unfold l_laws_markStringS_0; simp (config := { maxSteps := 2000000 }) only [bitvec_to_nat, reduceIte, Nat.reduceEqDiff, Nat.reduceAdd, Nat.reduceLeDiff, reduceCtorEq, Nat.reduceBEq, Nat.reduceLT, Nat.reduceMod, List.forall_mem_cons, retG_ret, retQ_eq, retQ_eqN, retOk, keepB, re_tupl, orr_t, t_markText, setm_ByteArray, List.set_set, gs, irow, srow, Int.toNat_natCast, List.length_map, List.length_set, Nat.sub_zero, Nat.zero_add, hz]
    repeat' (first | with_reducible apply And.intro | with_reducible intro _)
    all_goals first
      | omega
      | (refine hN (i + 1, l.set i (mk_ByteArray (k + (i : Int)))) _ (by simp only [e5]; simp only [u_E0, u_E1, u_M0, u_M1, w_setE0, w_setE1, w_setM0, w_setM1, reduceIte, Nat.reduceEqDiff]; exact ⟨by repeat' (first | exact trivial | refine ⟨.inr rfl, ?_⟩), by repeat' (first | exact trivial | refine ⟨rfl, ?_⟩), by first | rfl | simp [closedB, refsIn, refsInL, refsInO, dom, refsInL_nr, *], by first | rfl | simp [keepB, dom]⟩) ⟨by simp only [List.length_set]; exact h1, hi, fun j hj => ?_⟩ (by simp only; omega)
         simp only at hj ⊢
         by_cases e : j = i
         · subst e; exact getD_seti' (by omega)
         · rw [getD_setn' (Ne.symm e)]; exact h3 j (by omega))
      | (exfalso; omega)
  · have hl : l = ms_ByteArray k a.length := ext_of (by rw [ms_ByteArray_len]; exact h1) fun j hj => by rw [ms_ByteArray_get (by omega)]; exact h3 j (by omega)
    have hi' : ¬ (i : Int) < a.length := by omega
    unfold l_laws_markStringS_0; simp (config := { maxSteps := 2000000 }) only [bitvec_to_nat, reduceIte, Nat.reduceEqDiff, Nat.reduceAdd, Nat.reduceLeDiff, reduceCtorEq, Nat.reduceBEq, Nat.reduceLT, Nat.reduceMod, List.forall_mem_cons, retG_ret, retQ_eq, retQ_eqN, retOk, keepB, re_tupl, orr_t, t_markText, setm_ByteArray, List.set_set, gs, irow, srow, Int.toNat_natCast, List.length_map, List.length_set, Nat.sub_zero, Nat.zero_add, hz, hi']
    refine ⟨by omega, ?_⟩
    rw [hl]
def mk_PKind (k : Int) : PKind := ⟨mtx (k), k + 1, k + 1 + 1⟩
def ms_PKind (k : Int) (n : Nat) : List PKind := (List.range n).map fun j : Nat => mk_PKind (k + 3 * (j : Int))
theorem ms_PKind_len {k : Int} {n : Nat} : (ms_PKind k n).length = n := by simp [ms_PKind]
theorem ms_PKind_get {k : Int} {n j : Nat} (h : j < n) : (ms_PKind k n).getD j default = mk_PKind (k + 3 * (j : Int)) := by simp [ms_PKind, h]
theorem setm_PKind0 {l : List PKind} {i : Nat} {v : ByteArray} : (l.map PKind.row).set i (setSeg ((l.map PKind.row).getD i []) 0 [.str v]) = (l.set i { l.getD i default with nm := v }).map PKind.row :=
  set_rows (α := PKind) (f := PKind.row) (fun s => { s with nm := v }) fun x => by simp [PKind.row, setSeg]
theorem setm_PKind1 {l : List PKind} {i : Nat} {v : Int} : (l.map PKind.row).set i (setSeg ((l.map PKind.row).getD i []) 1 [.int .i64 v]) = (l.set i { l.getD i default with q := v }).map PKind.row :=
  set_rows (α := PKind) (f := PKind.row) (fun s => { s with q := v }) fun x => by simp [PKind.row, setSeg]
theorem setm_PKind2 {l : List PKind} {i : Nat} {v : Int} : (l.map PKind.row).set i (setSeg ((l.map PKind.row).getD i []) 2 [.int .i64 v]) = (l.set i { l.getD i default with sl := v }).map PKind.row :=
  set_rows (α := PKind) (f := PKind.row) (fun s => { s with sl := v }) fun x => by simp [PKind.row, setSeg]
set_option maxHeartbeats 1000000 in
theorem c_markPKindS (v : Nat) (k : Int) (a : List PKind) (ha : a.length ≤ 1048577) (hk : 0 ≤ k ∧ k ≤ 1125899906842624) : Contract P 96 [.own 3 v 0 a.length, .int .i64 k] [(3, .arr 60 v 3 (a.map PKind.row))] (.int .i64 (k + 3 * a.length)) [(3, .arr 60 v 3 ((ms_PKind k a.length).map PKind.row))] := by
  have hz : ((0 : Nat) : Int) = 0 := rfl
  have gs : True := trivial
  refine fn_sound ((Env.nil P).add 66 t_markText h_markText) hm k_laws_markPlanKindS (Nat.le_of_ble_eq_true rfl) rfl ?_; unfold s_laws_markPlanKindS; simp (config := { maxSteps := 2000000 }) only [bitvec_to_nat, reduceIte, Nat.reduceEqDiff, Nat.reduceAdd, Nat.reduceLeDiff, reduceCtorEq, Nat.reduceBEq, Nat.reduceLT, Nat.reduceMod, List.forall_mem_cons, retG_ret, retQ_eq, retQ_eqN, retOk, keepB, re_tupl, orr_t, t_markText, setm_PKind0, setm_PKind1, setm_PKind2, List.set_set, gs, PKind.row, irow, srow, Int.toNat_natCast, List.length_map, List.length_set, Nat.sub_zero, Nat.zero_add, hz]
  refine loop_st (fun b : Nat × List PKind => [(1, .int .i64 (k + 3 * b.1)), (5, .int .i64 b.1)]) (fun b => [(3, .arr 60 v 3 (b.2.map PKind.row))]) (fun b => b.2.length = a.length ∧ b.1 ≤ a.length ∧ ∀ j, j < b.1 → b.2.getD j default = mk_PKind (k + 3 * (j : Int))) (fun b => a.length - b.1) (0, a) ?_ ⟨rfl, Nat.zero_le _, fun j hj => absurd hj (Nat.not_lt_zero _)⟩ ?_
  · have e0 : k + 3 * ((0 : Nat) : Int) = k := by omega
    simp only [e0]
    simp only [u_E0, u_E1, u_M0, u_M1, w_setE0, w_setE1, w_setM0, w_setM1, reduceIte, Nat.reduceEqDiff]; exact ⟨by repeat' (first | exact trivial | refine ⟨.inr rfl, ?_⟩), by repeat' (first | exact trivial | refine ⟨rfl, ?_⟩), by first | rfl | simp [closedB, refsIn, refsInL, refsInO, dom, refsInL_nr, *], by first | rfl | simp [keepB, dom]⟩
  rintro ⟨i, l⟩ ⟨h1, h2, h3⟩ NX hN
  simp only at h1 h2 h3
  have gs : i < a.length → ∀ x : PKind, (l.set i x).getD i default = x := fun h x => getD_seti' (by omega)
  by_cases hi : i < a.length
  · have gs := gs hi
    have e5 : k + 3 * ((i + 1 : Nat) : Int) = k + 3 * (i : Int) + 1 + 1 + 1 := by omega
    unfold l_laws_markPlanKindS_0; simp (config := { maxSteps := 2000000 }) only [bitvec_to_nat, reduceIte, Nat.reduceEqDiff, Nat.reduceAdd, Nat.reduceLeDiff, reduceCtorEq, Nat.reduceBEq, Nat.reduceLT, Nat.reduceMod, List.forall_mem_cons, retG_ret, retQ_eq, retQ_eqN, retOk, keepB, re_tupl, orr_t, t_markText, setm_PKind0, setm_PKind1, setm_PKind2, List.set_set, gs, PKind.row, irow, srow, Int.toNat_natCast, List.length_map, List.length_set, Nat.sub_zero, Nat.zero_add, hz]
    repeat' (first | with_reducible apply And.intro | with_reducible intro _)
    all_goals first
      | omega
      | (refine hN (i + 1, l.set i (mk_PKind (k + 3 * (i : Int)))) _ (by simp only [e5]; simp only [u_E0, u_E1, u_M0, u_M1, w_setE0, w_setE1, w_setM0, w_setM1, reduceIte, Nat.reduceEqDiff]; exact ⟨by repeat' (first | exact trivial | refine ⟨.inr rfl, ?_⟩), by repeat' (first | exact trivial | refine ⟨rfl, ?_⟩), by first | rfl | simp [closedB, refsIn, refsInL, refsInO, dom, refsInL_nr, *], by first | rfl | simp [keepB, dom]⟩) ⟨by simp only [List.length_set]; exact h1, hi, fun j hj => ?_⟩ (by simp only; omega)
         simp only at hj ⊢
         by_cases e : j = i
         · subst e; exact getD_seti' (by omega)
         · rw [getD_setn' (Ne.symm e)]; exact h3 j (by omega))
      | (exfalso; omega)
  · have hl : l = ms_PKind k a.length := ext_of (by rw [ms_PKind_len]; exact h1) fun j hj => by rw [ms_PKind_get (by omega)]; exact h3 j (by omega)
    have hi' : ¬ (i : Int) < a.length := by omega
    unfold l_laws_markPlanKindS_0; simp (config := { maxSteps := 2000000 }) only [bitvec_to_nat, reduceIte, Nat.reduceEqDiff, Nat.reduceAdd, Nat.reduceLeDiff, reduceCtorEq, Nat.reduceBEq, Nat.reduceLT, Nat.reduceMod, List.forall_mem_cons, retG_ret, retQ_eq, retQ_eqN, retOk, keepB, re_tupl, orr_t, t_markText, setm_PKind0, setm_PKind1, setm_PKind2, List.set_set, gs, PKind.row, irow, srow, Int.toNat_natCast, List.length_map, List.length_set, Nat.sub_zero, Nat.zero_add, hz, hi']
    refine ⟨by omega, ?_⟩
    rw [hl]
def mk_PPt (k : Int) : PPt := ⟨mtx (k), k + 1, k + 1 + 1⟩
def ms_PPt (k : Int) (n : Nat) : List PPt := (List.range n).map fun j : Nat => mk_PPt (k + 3 * (j : Int))
theorem ms_PPt_len {k : Int} {n : Nat} : (ms_PPt k n).length = n := by simp [ms_PPt]
theorem ms_PPt_get {k : Int} {n j : Nat} (h : j < n) : (ms_PPt k n).getD j default = mk_PPt (k + 3 * (j : Int)) := by simp [ms_PPt, h]
theorem setm_PPt0 {l : List PPt} {i : Nat} {v : ByteArray} : (l.map PPt.row).set i (setSeg ((l.map PPt.row).getD i []) 0 [.str v]) = (l.set i { l.getD i default with nm := v }).map PPt.row :=
  set_rows (α := PPt) (f := PPt.row) (fun s => { s with nm := v }) fun x => by simp [PPt.row, setSeg]
theorem setm_PPt1 {l : List PPt} {i : Nat} {v : Int} : (l.map PPt.row).set i (setSeg ((l.map PPt.row).getD i []) 1 [.int .i64 v]) = (l.set i { l.getD i default with x := v }).map PPt.row :=
  set_rows (α := PPt) (f := PPt.row) (fun s => { s with x := v }) fun x => by simp [PPt.row, setSeg]
theorem setm_PPt2 {l : List PPt} {i : Nat} {v : Int} : (l.map PPt.row).set i (setSeg ((l.map PPt.row).getD i []) 2 [.int .i64 v]) = (l.set i { l.getD i default with y := v }).map PPt.row :=
  set_rows (α := PPt) (f := PPt.row) (fun s => { s with y := v }) fun x => by simp [PPt.row, setSeg]
set_option maxHeartbeats 1000000 in
theorem c_markPPtS (v : Nat) (k : Int) (a : List PPt) (ha : a.length ≤ 1048577) (hk : 0 ≤ k ∧ k ≤ 1125899906842624) : Contract P 97 [.own 3 v 0 a.length, .int .i64 k] [(3, .arr 119 v 3 (a.map PPt.row))] (.int .i64 (k + 3 * a.length)) [(3, .arr 119 v 3 ((ms_PPt k a.length).map PPt.row))] := by
  have hz : ((0 : Nat) : Int) = 0 := rfl
  have gs : True := trivial
  refine fn_sound ((Env.nil P).add 66 t_markText h_markText) hm k_laws_markPlanPointS (Nat.le_of_ble_eq_true rfl) rfl ?_; unfold s_laws_markPlanPointS; simp (config := { maxSteps := 2000000 }) only [bitvec_to_nat, reduceIte, Nat.reduceEqDiff, Nat.reduceAdd, Nat.reduceLeDiff, reduceCtorEq, Nat.reduceBEq, Nat.reduceLT, Nat.reduceMod, List.forall_mem_cons, retG_ret, retQ_eq, retQ_eqN, retOk, keepB, re_tupl, orr_t, t_markText, setm_PPt0, setm_PPt1, setm_PPt2, List.set_set, gs, PPt.row, irow, srow, Int.toNat_natCast, List.length_map, List.length_set, Nat.sub_zero, Nat.zero_add, hz]
  refine loop_st (fun b : Nat × List PPt => [(1, .int .i64 (k + 3 * b.1)), (5, .int .i64 b.1)]) (fun b => [(3, .arr 119 v 3 (b.2.map PPt.row))]) (fun b => b.2.length = a.length ∧ b.1 ≤ a.length ∧ ∀ j, j < b.1 → b.2.getD j default = mk_PPt (k + 3 * (j : Int))) (fun b => a.length - b.1) (0, a) ?_ ⟨rfl, Nat.zero_le _, fun j hj => absurd hj (Nat.not_lt_zero _)⟩ ?_
  · have e0 : k + 3 * ((0 : Nat) : Int) = k := by omega
    simp only [e0]
    simp only [u_E0, u_E1, u_M0, u_M1, w_setE0, w_setE1, w_setM0, w_setM1, reduceIte, Nat.reduceEqDiff]; exact ⟨by repeat' (first | exact trivial | refine ⟨.inr rfl, ?_⟩), by repeat' (first | exact trivial | refine ⟨rfl, ?_⟩), by first | rfl | simp [closedB, refsIn, refsInL, refsInO, dom, refsInL_nr, *], by first | rfl | simp [keepB, dom]⟩
  rintro ⟨i, l⟩ ⟨h1, h2, h3⟩ NX hN
  simp only at h1 h2 h3
  have gs : i < a.length → ∀ x : PPt, (l.set i x).getD i default = x := fun h x => getD_seti' (by omega)
  by_cases hi : i < a.length
  · have gs := gs hi
    have e5 : k + 3 * ((i + 1 : Nat) : Int) = k + 3 * (i : Int) + 1 + 1 + 1 := by omega
    unfold l_laws_markPlanPointS_0; simp (config := { maxSteps := 2000000 }) only [bitvec_to_nat, reduceIte, Nat.reduceEqDiff, Nat.reduceAdd, Nat.reduceLeDiff, reduceCtorEq, Nat.reduceBEq, Nat.reduceLT, Nat.reduceMod, List.forall_mem_cons, retG_ret, retQ_eq, retQ_eqN, retOk, keepB, re_tupl, orr_t, t_markText, setm_PPt0, setm_PPt1, setm_PPt2, List.set_set, gs, PPt.row, irow, srow, Int.toNat_natCast, List.length_map, List.length_set, Nat.sub_zero, Nat.zero_add, hz]
    repeat' (first | with_reducible apply And.intro | with_reducible intro _)
    all_goals first
      | omega
      | (refine hN (i + 1, l.set i (mk_PPt (k + 3 * (i : Int)))) _ (by simp only [e5]; simp only [u_E0, u_E1, u_M0, u_M1, w_setE0, w_setE1, w_setM0, w_setM1, reduceIte, Nat.reduceEqDiff]; exact ⟨by repeat' (first | exact trivial | refine ⟨.inr rfl, ?_⟩), by repeat' (first | exact trivial | refine ⟨rfl, ?_⟩), by first | rfl | simp [closedB, refsIn, refsInL, refsInO, dom, refsInL_nr, *], by first | rfl | simp [keepB, dom]⟩) ⟨by simp only [List.length_set]; exact h1, hi, fun j hj => ?_⟩ (by simp only; omega)
         simp only at hj ⊢
         by_cases e : j = i
         · subst e; exact getD_seti' (by omega)
         · rw [getD_setn' (Ne.symm e)]; exact h3 j (by omega))
      | (exfalso; omega)
  · have hl : l = ms_PPt k a.length := ext_of (by rw [ms_PPt_len]; exact h1) fun j hj => by rw [ms_PPt_get (by omega)]; exact h3 j (by omega)
    have hi' : ¬ (i : Int) < a.length := by omega
    unfold l_laws_markPlanPointS_0; simp (config := { maxSteps := 2000000 }) only [bitvec_to_nat, reduceIte, Nat.reduceEqDiff, Nat.reduceAdd, Nat.reduceLeDiff, reduceCtorEq, Nat.reduceBEq, Nat.reduceLT, Nat.reduceMod, List.forall_mem_cons, retG_ret, retQ_eq, retQ_eqN, retOk, keepB, re_tupl, orr_t, t_markText, setm_PPt0, setm_PPt1, setm_PPt2, List.set_set, gs, PPt.row, irow, srow, Int.toNat_natCast, List.length_map, List.length_set, Nat.sub_zero, Nat.zero_add, hz, hi']
    refine ⟨by omega, ?_⟩
    rw [hl]
end
end Go.Ve

namespace Go.Ve
noncomputable section
open Go.Proofs
set_option linter.unusedSimpArgs false
set_option linter.unusedVariables false
set_option maxRecDepth 100000
def sh_PKind : List LSh := [.str, .int .i64, .int .i64]
theorem fit_PKind (r : List AV) (h : fitsL sh_PKind r) : ∃ x : PKind, r = PKind.row x ∧ x.fitp := by
  simp only [sh_PKind, fitsL, fits] at h
  obtain ⟨_, _, rfl, ⟨nm, rfl, h_nm⟩, _, _, rfl, ⟨q, rfl, _⟩, _, _, rfl, ⟨sl, rfl, _⟩, rfl⟩ := h

  exact ⟨⟨nm, q, sl⟩, rfl, (by have e := toList_size nm; unfold maxLen at h_nm; show nm.toList.length ≤ _; omega)⟩
def sh_PPt : List LSh := [.str, .int .i64, .int .i64]
theorem fit_PPt (r : List AV) (h : fitsL sh_PPt r) : ∃ x : PPt, r = PPt.row x ∧ x.fitp := by
  simp only [sh_PPt, fitsL, fits] at h
  obtain ⟨_, _, rfl, ⟨nm, rfl, h_nm⟩, _, _, rfl, ⟨x, rfl, _⟩, _, _, rfl, ⟨y, rfl, _⟩, rfl⟩ := h

  exact ⟨⟨nm, x, y⟩, rfl, (by have e := toList_size nm; unfold maxLen at h_nm; show nm.toList.length ≤ _; omega)⟩
theorem c_toBaseO (s : PBase) (hs : s.small) : Contract P 11 [.agg (s.row 1)] [] (.agg [.own 601 0 0 s.ks.length, .own 602 0 0 s.ps.length]) [(601, .arr 60 0 3 (s.ks.map PKind.row)), (602, .arr 119 0 3 (s.ps.map PPt.row))] := by
  have tkK : True := trivial
  have tkQ : True := trivial
  unfold PBase.small at hs
  have h1 := (c_toPKindSO 1 s.ks hs.1).ren (swp 107 601) (swp_swp _ _)
  have h2 := (c_toPPtSO 1 s.ps hs.2).ren (swp 107 602) (swp_swp _ _)
  simp only [renL, ren, renM, renO, swp, reduceIte, Nat.reduceEqDiff, Nat.reduceLT] at h1 h2
  simp only [PBase.row]
  refine fn_sound (Env.nil P) hm k_laws_toPlanBase (Nat.le_of_ble_eq_true rfl) rfl ?_; unfold s_laws_toPlanBase; simp (config := { maxSteps := 2000000 }) only [bitvec_to_nat, reduceIte, Nat.reduceEqDiff, Nat.reduceAdd, Nat.reduceLeDiff, reduceCtorEq, Nat.reduceBEq, Nat.reduceLT, Nat.reduceMod, List.forall_mem_cons, retG_ret, retQ_eq, retQ_eqN, retOk, keepB, re_tupl, orr_t, List.length_map, Int.toNat_natCast, Nat.zero_add, Nat.sub_zero, tkK, tkQ, ms_PKind_len, ms_PPt_len]
  refine ⟨_, _, .inr (.inr (.inl ⟨_, rfl, h1, by simp [getM], by simp [refsIn, refsInL, dom], rfl, trivial, by simp [No99O, no99_PKind]⟩)), ?_⟩
  simp (config := { maxSteps := 2000000 }) only [bitvec_to_nat, reduceIte, Nat.reduceEqDiff, Nat.reduceAdd, Nat.reduceLeDiff, reduceCtorEq, Nat.reduceBEq, Nat.reduceLT, Nat.reduceMod, List.forall_mem_cons, retG_ret, retQ_eq, retQ_eqN, retOk, keepB, re_tupl, orr_t, List.length_map, Int.toNat_natCast, Nat.zero_add, Nat.sub_zero, tkK, tkQ, ms_PKind_len, ms_PPt_len]
  refine ⟨_, _, .inr (.inr (.inl ⟨_, rfl, h2, by simp [getM], by simp [refsIn, refsInL, dom], rfl, trivial, by simp [No99O, no99_PPt]⟩)), ?_⟩
  simp (config := { maxSteps := 2000000 }) only [bitvec_to_nat, reduceIte, Nat.reduceEqDiff, Nat.reduceAdd, Nat.reduceLeDiff, reduceCtorEq, Nat.reduceBEq, Nat.reduceLT, Nat.reduceMod, List.forall_mem_cons, retG_ret, retQ_eq, retQ_eqN, retOk, keepB, re_tupl, orr_t, List.length_map, Int.toNat_natCast, Nat.zero_add, Nat.sub_zero, tkK, tkQ, ms_PKind_len, ms_PPt_len]
  repeat' (first | with_reducible apply And.intro | with_reducible intro _)
  all_goals first | omega | rfl | simp [refsIn, refsInL, dom] | trace_state
end
end Go.Ve

namespace Go.Ve
noncomputable section
open Go.Proofs
set_option linter.unusedSimpArgs false
set_option linter.unusedVariables false
set_option maxRecDepth 100000
open Go.ChangeShapes Go.WideShapes
def t_sFits : List AV → Option (Prop × AV)
  | [.agg [.sl t 3 kx, .sl t' 3 px], .int .i64 w, .str v] => some (((kx.map unPKind).map PKind.row = kx ∧ (px.map unPPt).map PPt.row = px) ∧ ((kx.map unPKind).length ≤ 1048576 ∧ (px.map unPPt).length ≤ 1048576 ∧ v.toList.length ≤ 1048576), .bool (decide (baseOk (kx.map unPKind) (px.map unPPt) ∧ plFits (kx.map unPKind) (px.map unPPt) w v)))
  | _ => none
theorem h_sFits : ∀ args p v, t_sFits args = some (p, v) → p → Contract P 10 args [] v [] ∧ noref v = true ∧ No99 v := by
  intro args p v h1 h2
  unfold t_sFits at h1
  split at h1
  · rename_i t kx t' px w v
    cases h1
    obtain ⟨⟨e1, e2⟩, h3⟩ := h2
    have := c_sFits t t' (kx.map unPKind) (px.map unPPt) w v h3.1 h3.2.1 h3.2.2
    simp only [e1, e2] at this
    exact ⟨this, rfl, trivial⟩
  · cases h1
def t_iFits : List AV → Option (Prop × AV)
  | [.agg [.sl t 3 kx, .sl t' 3 px], .int .i64 w, .str v] => some (((kx.map unPKind).map PKind.row = kx ∧ (px.map unPPt).map PPt.row = px) ∧ ((kx.map unPKind).length ≤ 1048576 ∧ (px.map unPPt).length ≤ 1048576 ∧ v.toList.length ≤ 1048576), .bool (decide (plFits (kx.map unPKind) (px.map unPPt) w v)))
  | _ => none
theorem h_iFits : ∀ args p v, t_iFits args = some (p, v) → p → Contract P 51 args [] v [] ∧ noref v = true ∧ No99 v := by
  intro args p v h1 h2
  unfold t_iFits at h1
  split at h1
  · rename_i t kx t' px w v
    cases h1
    obtain ⟨⟨e1, e2⟩, h3⟩ := h2
    have := c_iFits t t' (kx.map unPKind) (px.map unPPt) w v h3.1 h3.2.1 h3.2.2
    simp only [e1, e2] at this
    exact ⟨this, rfl, trivial⟩
  · cases h1
end
end Go.Ve

namespace Go.Ve
noncomputable section
open Go.Proofs
set_option linter.unusedSimpArgs false
set_option linter.unusedVariables false
set_option maxRecDepth 100000
structure Chg where
  fl : ByteArray
  w : Int
  nr : Int
  v : ByteArray
  deriving Inhabited, DecidableEq
def Chg.row (s : Chg) : List AV := [.str s.fl, .int .i64 s.w, .int .i64 s.nr, .str s.v]
def unChg : List AV → Chg
  | [.str vfl, .int .i64 vw, .int .i64 vnr, .str vv] => (Chg.mk vfl vw vnr vv)
  | _ => default
theorem unChg_row (s : Chg) : unChg (Chg.row s) = s := by
  cases s; simp only [Chg.row, unChg]
theorem un_Chg (l : List Chg) : (l.map Chg.row).map unChg = l := by
  rw [List.map_map]; exact List.map_id'' (fun s => unChg_row s) l
theorem Chg_eta (s : Chg) : (Chg.mk s.fl s.w s.nr s.v) = s := (rfl)
open Go.ChangeShapes Go.WideShapes
def Chg.ok (ks : List PKind) (ps : List PPt) (c : Chg) : Prop := nameOk c.fl ∧ (1 ≤ c.nr ∧ c.nr ≤ 1000000) ∧ plFits ks ps c.w c.v
noncomputable instance (ks : List PKind) (ps : List PPt) (c : Chg) : Decidable (c.ok ks ps) := Classical.propDecidable _
set_option maxHeartbeats 1000000 in
theorem c_sChange (t t' : Nat) (ks : List PKind) (ps : List PPt) (c : Chg) (hk : ks.length ≤ 1048576) (hp : ps.length ≤ 1048576) (hv : c.v.toList.length ≤ 1048576) : Contract P 15 [.agg [.sl t 3 (ks.map PKind.row), .sl t' 3 (ps.map PPt.row)], .agg c.row] [] (.bool (decide (baseOk ks ps ∧ c.ok ks ps))) [] := by
  obtain ⟨fl, w, nr, v⟩ := c
  simp only [Chg.row] at *
  refine fn_sound ((((Env.nil P).add 54 t_l11NameOk h_l11NameOk).add 45 t_l11In h_l11In).add 10 t_sFits h_sFits) hm k_spec_PlanChangeOk (Nat.le_of_ble_eq_true rfl) rfl ?_; unfold s_spec_PlanChangeOk; simp (config := { maxSteps := 2000000 }) only [bitvec_to_nat, reduceIte, Nat.reduceEqDiff, Nat.reduceAdd, Nat.reduceLeDiff, reduceCtorEq, Nat.reduceBEq, Nat.reduceLT, Nat.reduceMod, List.forall_mem_cons, t_l11NameOk, t_l11In, t_sFits, tk_map, dp_map, toNat_pred, appE, rowsOf, List.take_length, List.length_cons, List.length_nil, Nat.zero_add, srow, irow, un_s, un_i, Zone.row, Zone_eta, un_Zone, Word.row, Word_eta, Own.row, Own_eta, Part.row, Part_eta, Seen.row, Seen_eta, Book.row, Book_eta, Sector.row, Sector_eta, HCraft.row, HCraft_eta, World.row, World_eta, PKind.row, PKind_eta, PPt.row, PPt_eta, Cell.row, Cell_eta, PBase.row, PBase_eta, Chg.row, Chg_eta, un_Word, un_Own, un_Part, un_Seen, un_Book, un_Sector, un_HCraft, un_World, un_PKind, un_PPt, un_Cell, un_PBase, un_Chg, Nat.sub_zero, List.nil_append, Int.toNat_one, un_PKind, un_PPt, PBase.row, PBase_eta, Chg.row, Chg_eta]
  repeat' (first | with_reducible apply And.intro | with_reducible intro _)
  all_goals first
    | omega
    | assumption
    | grind [Chg.ok]
    | (rw [decide_eq_decide]; grind [Chg.ok])
    | trace_state
def t_sChange : List AV → Option (Prop × AV)
  | [.agg [.sl t 3 kx, .sl t' 3 px], .agg [.str fl, .int .i64 w, .int .i64 nr, .str v]] => some (((kx.map unPKind).map PKind.row = kx ∧ (px.map unPPt).map PPt.row = px) ∧ ((kx.map unPKind).length ≤ 1048576 ∧ (px.map unPPt).length ≤ 1048576 ∧ v.toList.length ≤ 1048576), .bool (decide (baseOk (kx.map unPKind) (px.map unPPt) ∧ Chg.ok (kx.map unPKind) (px.map unPPt) (Chg.mk fl w nr v))))
  | _ => none
theorem h_sChange : ∀ args p v, t_sChange args = some (p, v) → p → Contract P 15 args [] v [] ∧ noref v = true ∧ No99 v := by
  intro args p v h1 h2
  unfold t_sChange at h1
  split at h1
  · rename_i t kx t' px fl w nr v
    cases h1
    obtain ⟨⟨e1, e2⟩, h3⟩ := h2
    have := c_sChange t t' (kx.map unPKind) (px.map unPPt) ⟨fl, w, nr, v⟩ h3.1 h3.2.1 h3.2.2
    simp only [e1, e2] at this
    exact ⟨this, rfl, trivial⟩
  · cases h1
set_option maxHeartbeats 1000000 in
theorem c_change (t t' : Nat) (ks : List PKind) (ps : List PPt) (c : Chg) (hk : ks.length ≤ 1048576) (hp : ps.length ≤ 1048576) (hv : c.v.toList.length ≤ 1048576) : Contract P 55 [.agg [.sl t 3 (ks.map PKind.row), .sl t' 3 (ps.map PPt.row)], .agg c.row] [] (.bool (decide (c.ok ks ps))) [] := by
  obtain ⟨fl, w, nr, v⟩ := c
  simp only [Chg.row] at *
  refine fn_sound ((((Env.nil P).add 90 t_isName h_isName).add 87 t_within h_within).add 51 t_iFits h_iFits) hm k_impl_PlanBase_change (Nat.le_of_ble_eq_true rfl) rfl ?_; unfold s_impl_PlanBase_change; simp (config := { maxSteps := 2000000 }) only [bitvec_to_nat, reduceIte, Nat.reduceEqDiff, Nat.reduceAdd, Nat.reduceLeDiff, reduceCtorEq, Nat.reduceBEq, Nat.reduceLT, Nat.reduceMod, List.forall_mem_cons, t_isName, t_within, t_iFits, tk_map, dp_map, toNat_pred, appE, rowsOf, List.take_length, List.length_cons, List.length_nil, Nat.zero_add, srow, irow, un_s, un_i, Zone.row, Zone_eta, un_Zone, Word.row, Word_eta, Own.row, Own_eta, Part.row, Part_eta, Seen.row, Seen_eta, Book.row, Book_eta, Sector.row, Sector_eta, HCraft.row, HCraft_eta, World.row, World_eta, PKind.row, PKind_eta, PPt.row, PPt_eta, Cell.row, Cell_eta, PBase.row, PBase_eta, Chg.row, Chg_eta, un_Word, un_Own, un_Part, un_Seen, un_Book, un_Sector, un_HCraft, un_World, un_PKind, un_PPt, un_Cell, un_PBase, un_Chg, Nat.sub_zero, List.nil_append, Int.toNat_one, un_PKind, un_PPt, PBase.row, PBase_eta, Chg.row, Chg_eta]
  repeat' (first | with_reducible apply And.intro | with_reducible intro _)
  all_goals first
    | omega
    | assumption
    | grind [Chg.ok]
    | (rw [decide_eq_decide]; grind [Chg.ok])
    | trace_state
def t_change : List AV → Option (Prop × AV)
  | [.agg [.sl t 3 kx, .sl t' 3 px], .agg [.str fl, .int .i64 w, .int .i64 nr, .str v]] => some (((kx.map unPKind).map PKind.row = kx ∧ (px.map unPPt).map PPt.row = px) ∧ ((kx.map unPKind).length ≤ 1048576 ∧ (px.map unPPt).length ≤ 1048576 ∧ v.toList.length ≤ 1048576), .bool (decide (Chg.ok (kx.map unPKind) (px.map unPPt) (Chg.mk fl w nr v))))
  | _ => none
theorem h_change : ∀ args p v, t_change args = some (p, v) → p → Contract P 55 args [] v [] ∧ noref v = true ∧ No99 v := by
  intro args p v h1 h2
  unfold t_change at h1
  split at h1
  · rename_i t kx t' px fl w nr v
    cases h1
    obtain ⟨⟨e1, e2⟩, h3⟩ := h2
    have := c_change t t' (kx.map unPKind) (px.map unPPt) ⟨fl, w, nr, v⟩ h3.1 h3.2.1 h3.2.2
    simp only [e1, e2] at this
    exact ⟨this, rfl, trivial⟩
  · cases h1
def Chg.fitp (s : Chg) : Prop := s.fl.toList.length ≤ 9223372036854775807 ∧ s.v.toList.length ≤ 9223372036854775807
def Chg.sz (s : Chg) (z0 : Int) : Int := chk (z0 - (s.fl.toList.length : Nat)) (fun z1 => chk (z1 - (s.v.toList.length : Nat)) (fun z2 => z2))
theorem Chg.sz_v {c : Chg} {a : Int} (ha : a ≤ 1048576) (h : 0 ≤ c.sz a) : c.v.toList.length ≤ 1048576 := by
  unfold Chg.sz at h
  obtain ⟨h1, h⟩ := chk_ok h
  obtain ⟨h2, h⟩ := chk_ok h
  omega
end
end Go.Ve

namespace Go.Ve
noncomputable section
open Go.Proofs
set_option linter.unusedSimpArgs false
set_option linter.unusedVariables false
set_option maxRecDepth 100000
structure Fld where
  w : Int
  nr : Int
  v : ByteArray
  deriving Inhabited, DecidableEq
def Fld.row (s : Fld) : List AV := [.int .i64 s.w, .int .i64 s.nr, .str s.v]
def unFld : List AV → Fld
  | [.int .i64 vw, .int .i64 vnr, .str vv] => (Fld.mk vw vnr vv)
  | _ => default
theorem unFld_row (s : Fld) : unFld (Fld.row s) = s := by
  cases s; simp only [Fld.row, unFld]
theorem un_Fld (l : List Fld) : (l.map Fld.row).map unFld = l := by
  rw [List.map_map]; exact List.map_id'' (fun s => unFld_row s) l
theorem Fld_eta (s : Fld) : (Fld.mk s.w s.nr s.v) = s := (rfl)
theorem no99_Fld (l : List Fld) : No99LL (l.map Fld.row) := by
  induction l with
  | nil => simp [No99LL]
  | cons x l ih => simp only [List.map_cons, No99LL]; exact ⟨by simp [Fld.row, No99L, No99], ih⟩
structure Ent where
  nm : ByteArray
  fs : List Fld
  deriving Inhabited, DecidableEq
def Ent.row (t : Nat) (s : Ent) : List AV := [.str s.nm, .sl t 3 (s.fs.map Fld.row)]
def unEnt : List AV → Ent
  | [.str vnm, .sl _ 3 vfs] => (Ent.mk vnm (vfs.map unFld))
  | _ => default
theorem unEnt_row (t : Nat) (s : Ent) : unEnt (Ent.row t s) = s := by
  cases s; simp only [Ent.row, unEnt, un_Fld]
theorem un_Ent (t : Nat) (l : List Ent) : (l.map (Ent.row t)).map unEnt = l := by
  rw [List.map_map]; exact List.map_id'' (fun s => unEnt_row t s) l
theorem Ent_eta (s : Ent) : (Ent.mk s.nm s.fs) = s := (rfl)
theorem Ent_len (t : Nat) (s : Ent) : (Ent.row t s).length = 2 := (rfl)
theorem Ent_nr (t : Nat) (s : Ent) : norefL (Ent.row t s) = true := (rfl)
theorem no99_Ent (l : List Ent) : No99LL (l.map (Ent.row 0)) := by
  induction l with
  | nil => simp [No99LL]
  | cons x l ih => simp only [List.map_cons, No99LL]; exact ⟨by simp [Ent.row, No99L, No99, no99_Fld], ih⟩
theorem Ent_take (t : Nat) (s : Ent) : List.take 2 (Ent.row t s) = Ent.row t s := (rfl)
structure PBook where
  ks : List PKind
  ps : List PPt
  es : List Ent
  deriving Inhabited, DecidableEq
def PBook.row (t : Nat) (s : PBook) : List AV := [.sl t 3 (s.ks.map PKind.row), .sl t 3 (s.ps.map PPt.row), .sl t 2 (s.es.map (Ent.row t))]
def unPBook : List AV → PBook
  | [.sl _ 3 vks, .sl _ 3 vps, .sl _ 2 ves] => (PBook.mk (vks.map unPKind) (vps.map unPPt) (ves.map unEnt))
  | _ => default
theorem unPBook_row (t : Nat) (s : PBook) : unPBook (PBook.row t s) = s := by
  cases s; simp only [PBook.row, unPBook, un_PKind, un_PPt, un_Ent]
theorem un_PBook (t : Nat) (l : List PBook) : (l.map (PBook.row t)).map unPBook = l := by
  rw [List.map_map]; exact List.map_id'' (fun s => unPBook_row t s) l
theorem PBook_eta (s : PBook) : (PBook.mk s.ks s.ps s.es) = s := (rfl)
open Go.ChangeShapes Go.WideShapes
def fldAt (ks : List PKind) (ps : List PPt) (nm : ByteArray) (fs : List Fld) (i : Nat) : Prop := Chg.ok ks ps ⟨nm, (fs.getD i default).w, (fs.getD i default).nr, (fs.getD i default).v⟩ ∧ (0 < i → (fs.getD (i - 1) default).w < (fs.getD i default).w)
def Ent.ok (ks : List PKind) (ps : List PPt) (e : Ent) : Prop := (nameOk e.nm ∧ 1 ≤ e.fs.length) ∧ ∀ i, i < e.fs.length → fldAt ks ps e.nm e.fs i
noncomputable instance (ks : List PKind) (ps : List PPt) (e : Ent) : Decidable (e.ok ks ps) := Classical.propDecidable _
def entAt (ks : List PKind) (ps : List PPt) (es : List Ent) (i : Nat) : Prop := (es.getD i default).ok ks ps ∧ (0 < i → slt (es.getD (i - 1) default).nm (es.getD i default).nm)
def PBook.ok (b : PBook) : Prop := (baseOk b.ks b.ps ∧ b.es.length ≤ 12) ∧ ∀ i, i < b.es.length → entAt b.ks b.ps b.es i
noncomputable instance (b : PBook) : Decidable b.ok := Classical.propDecidable _
def Ent.fine (e : Ent) : Prop := e.fs.length ≤ 1048576 ∧ ∀ f ∈ e.fs, f.v.toList.length ≤ 1048576
def PBook.fine (b : PBook) : Prop := (b.ks.length ≤ 1048576 ∧ b.ps.length ≤ 1048576) ∧ b.es.length ≤ 1048576 ∧ ∀ e ∈ b.es, e.fine
def PBook.names (b : PBook) : Prop := (∀ x ∈ b.ks, x.nm.toList.length ≤ 9223372036854775807) ∧ (∀ x ∈ b.ps, x.nm.toList.length ≤ 9223372036854775807)
set_option maxHeartbeats 1000000 in
theorem c_l13EntryOk (t t' : Nat) (ks : List PKind) (ps : List PPt) (t2 : Nat) (nm : ByteArray) (fs : List Fld) (hk : ks.length ≤ 1048576) (hp : ps.length ≤ 1048576) (hb : baseOk ks ps) (hl : fs.length ≤ 1048576) (hv : ∀ f ∈ fs, f.v.toList.length ≤ 1048576) : Contract P 57 [.agg [.sl t 3 (ks.map PKind.row), .sl t' 3 (ps.map PPt.row)], .agg [.str nm, .sl t2 3 (fs.map Fld.row)]] [] (.bool (decide (Ent.ok ks ps ⟨nm, fs⟩))) [] := by
  have hbt := eq_true hb
  refine fn_sound (((Env.nil P).add 54 t_l11NameOk h_l11NameOk).add 15 t_sChange h_sChange) hm k_spec_l13EntryOk (Nat.le_of_ble_eq_true rfl) rfl ?_; unfold s_spec_l13EntryOk; simp (config := { maxSteps := 2000000 }) only [bitvec_to_nat, reduceIte, Nat.reduceEqDiff, Nat.reduceAdd, Nat.reduceLeDiff, reduceCtorEq, Nat.reduceBEq, Nat.reduceLT, Nat.reduceMod, List.forall_mem_cons, t_l11NameOk, t_sChange, tk_map, dp_map, toNat_pred, appE, rowsOf, List.take_length, List.length_cons, List.length_nil, Nat.zero_add, srow, irow, un_s, un_i, Zone.row, Zone_eta, un_Zone, Word.row, Word_eta, Own.row, Own_eta, Part.row, Part_eta, Seen.row, Seen_eta, Book.row, Book_eta, Sector.row, Sector_eta, HCraft.row, HCraft_eta, World.row, World_eta, PKind.row, PKind_eta, PPt.row, PPt_eta, Cell.row, Cell_eta, PBase.row, PBase_eta, Chg.row, Chg_eta, Fld.row, Fld_eta, Ent.row, Ent_eta, PBook.row, PBook_eta, un_Word, un_Own, un_Part, un_Seen, un_Book, un_Sector, un_HCraft, un_World, un_PKind, un_PPt, un_Cell, un_PBase, un_Chg, un_Fld, un_Ent, un_PBook, Nat.sub_zero, List.nil_append, Int.toNat_one, un_PKind, un_PPt, PBase.row, PBase_eta, Chg.row, Chg_eta]
  have no : ¬ Ent.ok ks ps ⟨nm, fs⟩ → _ := fun h : ¬ _ => h
  repeat' (first | with_reducible apply And.intro | with_reducible intro _)
  all_goals first
    | omega
    | (intro h; have := h.1; simp only at this; first | omega | (exact absurd this.1 (by assumption)); done)
    | skip
  refine loop_st (fun i : Nat => [(5, .int .i64 i)]) (fun _ => []) (fun i => i ≤ fs.length ∧ ∀ j, j < i → fldAt ks ps nm fs j) (fun i => fs.length - i) 0 (by simp only [u_E0, u_E1, u_M0, u_M1, w_setE0, w_setE1, w_setM0, w_setM1, reduceIte, Nat.reduceEqDiff]; exact ⟨by repeat' (first | exact trivial | refine ⟨.inr rfl, ?_⟩), by repeat' (first | exact trivial | refine ⟨rfl, ?_⟩), by first | rfl | simp [closedB, refsIn, refsInL, refsInO, dom, refsInL_nr, *], by first | rfl | simp [keepB, dom]⟩) ⟨Nat.zero_le _, fun j h => absurd h (Nat.not_lt_zero _)⟩ ?_
  rintro i ⟨hi, h1⟩ NX hN
  have A : Ent.ok ks ps ⟨nm, fs⟩ → i < fs.length → fldAt ks ps nm fs i := fun h g => h.2 i g
  unfold fldAt at A
  by_cases hlt : i < fs.length
  · have hvi := hv _ (getD_mem' hlt)
    unfold l_spec_l13EntryOk_0; simp (config := { maxSteps := 2000000 }) only [bitvec_to_nat, reduceIte, Nat.reduceEqDiff, Nat.reduceAdd, Nat.reduceLeDiff, reduceCtorEq, Nat.reduceBEq, Nat.reduceLT, Nat.reduceMod, List.forall_mem_cons, t_l11NameOk, t_sChange, tk_map, dp_map, toNat_pred, appE, rowsOf, List.take_length, List.length_cons, List.length_nil, Nat.zero_add, srow, irow, un_s, un_i, Zone.row, Zone_eta, un_Zone, Word.row, Word_eta, Own.row, Own_eta, Part.row, Part_eta, Seen.row, Seen_eta, Book.row, Book_eta, Sector.row, Sector_eta, HCraft.row, HCraft_eta, World.row, World_eta, PKind.row, PKind_eta, PPt.row, PPt_eta, Cell.row, Cell_eta, PBase.row, PBase_eta, Chg.row, Chg_eta, Fld.row, Fld_eta, Ent.row, Ent_eta, PBook.row, PBook_eta, un_Word, un_Own, un_Part, un_Seen, un_Book, un_Sector, un_HCraft, un_World, un_PKind, un_PPt, un_Cell, un_PBase, un_Chg, un_Fld, un_Ent, un_PBook, Nat.sub_zero, List.nil_append, Int.toNat_one, un_PKind, un_PPt, PBase.row, PBase_eta, Chg.row, Chg_eta]
    repeat' (first | with_reducible apply And.intro | with_reducible intro _)
    all_goals first
      | omega
      | assumption
      | (refine hN (i + 1) _ (by simp only [u_E0, u_E1, u_M0, u_M1, w_setE0, w_setE1, w_setM0, w_setM1, reduceIte, Nat.reduceEqDiff]; exact ⟨by repeat' (first | exact trivial | refine ⟨.inr rfl, ?_⟩), by repeat' (first | exact trivial | refine ⟨rfl, ?_⟩), by first | rfl | simp [closedB, refsIn, refsInL, refsInO, dom, refsInL_nr, *], by first | rfl | simp [keepB, dom]⟩) ⟨hlt, all_snoc h1 ⟨by grind, by grind⟩⟩ (by omega))
      | (intro hq; have := A hq hlt; grind)
      | trace_state
  · have e : i = fs.length := by omega
    subst e
    unfold l_spec_l13EntryOk_0; simp (config := { maxSteps := 2000000 }) only [bitvec_to_nat, reduceIte, Nat.reduceEqDiff, Nat.reduceAdd, Nat.reduceLeDiff, reduceCtorEq, Nat.reduceBEq, Nat.reduceLT, Nat.reduceMod, List.forall_mem_cons, t_l11NameOk, t_sChange, tk_map, dp_map, toNat_pred, appE, rowsOf, List.take_length, List.length_cons, List.length_nil, Nat.zero_add, srow, irow, un_s, un_i, Zone.row, Zone_eta, un_Zone, Word.row, Word_eta, Own.row, Own_eta, Part.row, Part_eta, Seen.row, Seen_eta, Book.row, Book_eta, Sector.row, Sector_eta, HCraft.row, HCraft_eta, World.row, World_eta, PKind.row, PKind_eta, PPt.row, PPt_eta, Cell.row, Cell_eta, PBase.row, PBase_eta, Chg.row, Chg_eta, Fld.row, Fld_eta, Ent.row, Ent_eta, PBook.row, PBook_eta, un_Word, un_Own, un_Part, un_Seen, un_Book, un_Sector, un_HCraft, un_World, un_PKind, un_PPt, un_Cell, un_PBase, un_Chg, un_Fld, un_Ent, un_PBook, Nat.sub_zero, List.nil_append, Int.toNat_one, un_PKind, un_PPt, PBase.row, PBase_eta, Chg.row, Chg_eta]
    repeat' (first | with_reducible apply And.intro | with_reducible intro _)
    all_goals first
      | omega
      | exact ⟨⟨by assumption, by show 1 ≤ fs.length; omega⟩, h1⟩
      | (exfalso; omega)
      | trace_state
def t_sEntry : List AV → Option (Prop × AV)
  | [.agg [.sl t 3 kx, .sl t' 3 px], .agg [.str nm, .sl t2 3 fx]] => some (((kx.map unPKind).map PKind.row = kx ∧ (px.map unPPt).map PPt.row = px ∧ (fx.map unFld).map Fld.row = fx) ∧ (kx.map unPKind).length ≤ 1048576 ∧ (px.map unPPt).length ≤ 1048576 ∧ baseOk (kx.map unPKind) (px.map unPPt) ∧ (fx.map unFld).length ≤ 1048576 ∧ ∀ f ∈ fx.map unFld, f.v.toList.length ≤ 1048576, .bool (decide (Ent.ok (kx.map unPKind) (px.map unPPt) ⟨nm, fx.map unFld⟩)))
  | _ => none
theorem h_sEntry : ∀ args p v, t_sEntry args = some (p, v) → p → Contract P 57 args [] v [] ∧ noref v = true ∧ No99 v := by
  intro args p v h1 h2
  unfold t_sEntry at h1
  split at h1
  · rename_i t kx t' px nm t2 fx
    cases h1
    obtain ⟨⟨e1, e2, e3⟩, h3, h4, h5, h6, h7⟩ := h2
    have := c_l13EntryOk t t' (kx.map unPKind) (px.map unPPt) t2 nm (fx.map unFld) h3 h4 h5 h6 h7
    simp only [e1, e2, e3] at this
    exact ⟨this, rfl, trivial⟩
  · cases h1
set_option maxHeartbeats 1000000 in
theorem c_sBookOk (b : PBook) (hf : b.fine) : Contract P 19 [.agg (b.row 0)] [] (.bool (decide b.ok)) [] := by
  obtain ⟨⟨hk, hp⟩, hl, hv⟩ := hf
  have hbt : True := trivial
  simp only [PBook.row]
  refine fn_sound (((Env.nil P).add 41 t_sBaseOk h_sBaseOk).add 57 t_sEntry h_sEntry) hm k_spec_PlanBookOk (Nat.le_of_ble_eq_true rfl) rfl ?_; unfold s_spec_PlanBookOk; simp (config := { maxSteps := 2000000 }) only [bitvec_to_nat, reduceIte, Nat.reduceEqDiff, Nat.reduceAdd, Nat.reduceLeDiff, reduceCtorEq, Nat.reduceBEq, Nat.reduceLT, Nat.reduceMod, List.forall_mem_cons, t_sBaseOk, t_sEntry, tk_map, dp_map, toNat_pred, appE, rowsOf, List.take_length, List.length_cons, List.length_nil, Nat.zero_add, srow, irow, un_s, un_i, Zone.row, Zone_eta, un_Zone, Word.row, Word_eta, Own.row, Own_eta, Part.row, Part_eta, Seen.row, Seen_eta, Book.row, Book_eta, Sector.row, Sector_eta, HCraft.row, HCraft_eta, World.row, World_eta, PKind.row, PKind_eta, PPt.row, PPt_eta, Cell.row, Cell_eta, PBase.row, PBase_eta, Chg.row, Chg_eta, Fld.row, Fld_eta, Ent.row, Ent_eta, PBook.row, PBook_eta, un_Word, un_Own, un_Part, un_Seen, un_Book, un_Sector, un_HCraft, un_World, un_PKind, un_PPt, un_Cell, un_PBase, un_Chg, un_Fld, un_Ent, un_PBook, Nat.sub_zero, List.nil_append, Int.toNat_one, un_PKind, un_PPt, PBase.row, PBase_eta, Chg.row, Chg_eta, PBook.row, PBook_eta, Ent.row, Ent_eta, un_Ent, un_Fld, Fld.row, Fld_eta, hbt]
  have no : ¬ b.ok → ¬ b.ok := id
  repeat' (first | with_reducible apply And.intro | with_reducible intro _)
  all_goals first
    | omega
    | (intro h; have := h.1; first | omega | (exact absurd this.1 (by assumption)); done)
    | skip
  have hb : baseOk b.ks b.ps := by assumption
  have hbt : baseOk b.ks b.ps = True := eq_true hb
  refine loop_st (fun i : Nat => [(3, .int .i64 i)]) (fun _ => []) (fun i => i ≤ b.es.length ∧ ∀ j, j < i → entAt b.ks b.ps b.es j) (fun i => b.es.length - i) 0 (by simp only [u_E0, u_E1, u_M0, u_M1, w_setE0, w_setE1, w_setM0, w_setM1, reduceIte, Nat.reduceEqDiff]; exact ⟨by repeat' (first | exact trivial | refine ⟨.inr rfl, ?_⟩), by repeat' (first | exact trivial | refine ⟨rfl, ?_⟩), by first | rfl | simp [closedB, refsIn, refsInL, refsInO, dom, refsInL_nr, *], by first | rfl | simp [keepB, dom]⟩) ⟨Nat.zero_le _, fun j h => absurd h (Nat.not_lt_zero _)⟩ ?_
  rintro i ⟨hi, h1⟩ NX hN
  have A : b.ok → i < b.es.length → entAt b.ks b.ps b.es i := fun h g => h.2 i g
  unfold entAt at A
  by_cases hlt : i < b.es.length
  · have hvi := hv _ (getD_mem' hlt)
    unfold Ent.fine at hvi
    unfold l_spec_PlanBookOk_0; simp (config := { maxSteps := 2000000 }) only [bitvec_to_nat, reduceIte, Nat.reduceEqDiff, Nat.reduceAdd, Nat.reduceLeDiff, reduceCtorEq, Nat.reduceBEq, Nat.reduceLT, Nat.reduceMod, List.forall_mem_cons, t_sBaseOk, t_sEntry, tk_map, dp_map, toNat_pred, appE, rowsOf, List.take_length, List.length_cons, List.length_nil, Nat.zero_add, srow, irow, un_s, un_i, Zone.row, Zone_eta, un_Zone, Word.row, Word_eta, Own.row, Own_eta, Part.row, Part_eta, Seen.row, Seen_eta, Book.row, Book_eta, Sector.row, Sector_eta, HCraft.row, HCraft_eta, World.row, World_eta, PKind.row, PKind_eta, PPt.row, PPt_eta, Cell.row, Cell_eta, PBase.row, PBase_eta, Chg.row, Chg_eta, Fld.row, Fld_eta, Ent.row, Ent_eta, PBook.row, PBook_eta, un_Word, un_Own, un_Part, un_Seen, un_Book, un_Sector, un_HCraft, un_World, un_PKind, un_PPt, un_Cell, un_PBase, un_Chg, un_Fld, un_Ent, un_PBook, Nat.sub_zero, List.nil_append, Int.toNat_one, un_PKind, un_PPt, PBase.row, PBase_eta, Chg.row, Chg_eta, PBook.row, PBook_eta, Ent.row, Ent_eta, un_Ent, un_Fld, Fld.row, Fld_eta, hbt]
    repeat' (first | with_reducible apply And.intro | with_reducible intro _)
    all_goals first
      | omega
      | assumption
      | exact hvi.2 _ (by assumption)
      | exact hvi.2
      | (refine hN (i + 1) _ (by simp only [u_E0, u_E1, u_M0, u_M1, w_setE0, w_setE1, w_setM0, w_setM1, reduceIte, Nat.reduceEqDiff]; exact ⟨by repeat' (first | exact trivial | refine ⟨.inr rfl, ?_⟩), by repeat' (first | exact trivial | refine ⟨rfl, ?_⟩), by first | rfl | simp [closedB, refsIn, refsInL, refsInO, dom, refsInL_nr, *], by first | rfl | simp [keepB, dom]⟩) ⟨hlt, all_snoc h1 ⟨by grind, by grind⟩⟩ (by omega))
      | (intro hq; have := A hq hlt; grind)
      | trace_state
  · have e : i = b.es.length := by omega
    subst e
    unfold l_spec_PlanBookOk_0; simp (config := { maxSteps := 2000000 }) only [bitvec_to_nat, reduceIte, Nat.reduceEqDiff, Nat.reduceAdd, Nat.reduceLeDiff, reduceCtorEq, Nat.reduceBEq, Nat.reduceLT, Nat.reduceMod, List.forall_mem_cons, t_sBaseOk, t_sEntry, tk_map, dp_map, toNat_pred, appE, rowsOf, List.take_length, List.length_cons, List.length_nil, Nat.zero_add, srow, irow, un_s, un_i, Zone.row, Zone_eta, un_Zone, Word.row, Word_eta, Own.row, Own_eta, Part.row, Part_eta, Seen.row, Seen_eta, Book.row, Book_eta, Sector.row, Sector_eta, HCraft.row, HCraft_eta, World.row, World_eta, PKind.row, PKind_eta, PPt.row, PPt_eta, Cell.row, Cell_eta, PBase.row, PBase_eta, Chg.row, Chg_eta, Fld.row, Fld_eta, Ent.row, Ent_eta, PBook.row, PBook_eta, un_Word, un_Own, un_Part, un_Seen, un_Book, un_Sector, un_HCraft, un_World, un_PKind, un_PPt, un_Cell, un_PBase, un_Chg, un_Fld, un_Ent, un_PBook, Nat.sub_zero, List.nil_append, Int.toNat_one, un_PKind, un_PPt, PBase.row, PBase_eta, Chg.row, Chg_eta, PBook.row, PBook_eta, Ent.row, Ent_eta, un_Ent, un_Fld, Fld.row, Fld_eta, hbt]
    repeat' (first | with_reducible apply And.intro | with_reducible intro _)
    all_goals first
      | omega
      | exact ⟨⟨hb, by omega⟩, h1⟩
      | (exfalso; omega)
      | trace_state
theorem chg_nm {ks : List PKind} {ps : List PPt} {nm : ByteArray} {fs : List Fld} (h0 : ¬ fs.length = 0) (h : ∀ i, i < fs.length → fldAt ks ps nm fs i) : Ent.ok ks ps ⟨nm, fs⟩ :=
  ⟨⟨(h 0 (by omega)).1.1, by show 1 ≤ fs.length; omega⟩, h⟩
set_option maxHeartbeats 2000000 in
theorem c_iBookOk (b : PBook) (hf : b.fine) (hnm : b.names) : Contract P 21 [.agg (b.row 0)] [] (.bool (decide b.ok)) [] := by
  obtain ⟨⟨hk, hp⟩, hl, hv⟩ := hf
  obtain ⟨hnk, hnp⟩ := hnm
  have hbt : True := trivial
  have hlf : True := trivial
  simp only [PBook.row]
  refine fn_sound (((Env.nil P).add 50 t_iBaseOk h_iBaseOk).add 55 t_change h_change) hm k_impl_PlanBookOk (Nat.le_of_ble_eq_true rfl) rfl ?_; unfold s_impl_PlanBookOk; simp (config := { maxSteps := 2000000 }) only [bitvec_to_nat, reduceIte, Nat.reduceEqDiff, Nat.reduceAdd, Nat.reduceLeDiff, reduceCtorEq, Nat.reduceBEq, Nat.reduceLT, Nat.reduceMod, List.forall_mem_cons, t_iBaseOk, t_change, tk_map, dp_map, toNat_pred, appE, rowsOf, List.take_length, List.length_cons, List.length_nil, Nat.zero_add, srow, irow, un_s, un_i, Zone.row, Zone_eta, un_Zone, Word.row, Word_eta, Own.row, Own_eta, Part.row, Part_eta, Seen.row, Seen_eta, Book.row, Book_eta, Sector.row, Sector_eta, HCraft.row, HCraft_eta, World.row, World_eta, PKind.row, PKind_eta, PPt.row, PPt_eta, Cell.row, Cell_eta, PBase.row, PBase_eta, Chg.row, Chg_eta, Fld.row, Fld_eta, Ent.row, Ent_eta, PBook.row, PBook_eta, un_Word, un_Own, un_Part, un_Seen, un_Book, un_Sector, un_HCraft, un_World, un_PKind, un_PPt, un_Cell, un_PBase, un_Chg, un_Fld, un_Ent, un_PBook, Nat.sub_zero, List.nil_append, Int.toNat_one, un_PKind, un_PPt, PBase.row, PBase_eta, Chg.row, Chg_eta, PBook.row, PBook_eta, Ent.row, Ent_eta, un_Ent, un_Fld, Fld.row, Fld_eta, hbt, hlf]
  repeat' (first | with_reducible apply And.intro | with_reducible intro _)
  all_goals first
    | omega
    | exact hnk _ (by assumption)
    | exact hnp _ (by assumption)
    | exact hnk
    | exact hnp
    | (intro h; have := h.1; first | omega | (exact absurd this.1 (by assumption)); done)
    | skip
  have hb : baseOk b.ks b.ps := by assumption
  refine loop_st (fun i : Nat => [(20, .int .i64 i)]) (fun _ => []) (fun i => i ≤ b.es.length ∧ ∀ j, j < i → entAt b.ks b.ps b.es j) (fun i => b.es.length - i) 0 (by simp only [u_E0, u_E1, u_M0, u_M1, w_setE0, w_setE1, w_setM0, w_setM1, reduceIte, Nat.reduceEqDiff]; exact ⟨by repeat' (first | exact trivial | refine ⟨.inr rfl, ?_⟩), by repeat' (first | exact trivial | refine ⟨rfl, ?_⟩), by first | rfl | simp [closedB, refsIn, refsInL, refsInO, dom, refsInL_nr, *], by first | rfl | simp [keepB, dom]⟩) ⟨Nat.zero_le _, fun j h => absurd h (Nat.not_lt_zero _)⟩ ?_
  rintro i ⟨hi, h1⟩ NX hN
  have A : b.ok → i < b.es.length → entAt b.ks b.ps b.es i := fun h g => h.2 i g
  unfold entAt at A
  by_cases hlt : i < b.es.length
  · have hvi := hv _ (getD_mem' hlt)
    unfold Ent.fine at hvi
    unfold l_impl_PlanBookOk_1; simp (config := { maxSteps := 2000000 }) only [bitvec_to_nat, reduceIte, Nat.reduceEqDiff, Nat.reduceAdd, Nat.reduceLeDiff, reduceCtorEq, Nat.reduceBEq, Nat.reduceLT, Nat.reduceMod, List.forall_mem_cons, t_iBaseOk, t_change, tk_map, dp_map, toNat_pred, appE, rowsOf, List.take_length, List.length_cons, List.length_nil, Nat.zero_add, srow, irow, un_s, un_i, Zone.row, Zone_eta, un_Zone, Word.row, Word_eta, Own.row, Own_eta, Part.row, Part_eta, Seen.row, Seen_eta, Book.row, Book_eta, Sector.row, Sector_eta, HCraft.row, HCraft_eta, World.row, World_eta, PKind.row, PKind_eta, PPt.row, PPt_eta, Cell.row, Cell_eta, PBase.row, PBase_eta, Chg.row, Chg_eta, Fld.row, Fld_eta, Ent.row, Ent_eta, PBook.row, PBook_eta, un_Word, un_Own, un_Part, un_Seen, un_Book, un_Sector, un_HCraft, un_World, un_PKind, un_PPt, un_Cell, un_PBase, un_Chg, un_Fld, un_Ent, un_PBook, Nat.sub_zero, List.nil_append, Int.toNat_one, un_PKind, un_PPt, PBase.row, PBase_eta, Chg.row, Chg_eta, PBook.row, PBook_eta, Ent.row, Ent_eta, un_Ent, un_Fld, Fld.row, Fld_eta, hbt, hlf]
    repeat' (first | with_reducible apply And.intro | with_reducible intro _)
    all_goals first
      | omega
      | (intro hq; have := A hq hlt; unfold Ent.ok at this; grind)
      | skip
    all_goals
      refine loop_st (fun k : Nat => [(48, .int .i64 k)]) (fun _ => []) (fun k => k ≤ (b.es.getD i default).fs.length ∧ ∀ j, j < k → fldAt b.ks b.ps (b.es.getD i default).nm (b.es.getD i default).fs j) (fun k => (b.es.getD i default).fs.length - k) 0 (by simp only [u_E0, u_E1, u_M0, u_M1, w_setE0, w_setE1, w_setM0, w_setM1, reduceIte, Nat.reduceEqDiff]; exact ⟨by repeat' (first | exact trivial | refine ⟨.inr rfl, ?_⟩), by repeat' (first | exact trivial | refine ⟨rfl, ?_⟩), by first | rfl | simp [closedB, refsIn, refsInL, refsInO, dom, refsInL_nr, *], by first | rfl | simp [keepB, dom]⟩) ⟨Nat.zero_le _, fun j h => absurd h (Nat.not_lt_zero _)⟩ ?_
      rintro k ⟨hk2, h2⟩ NX2 hN2
      have A2 : b.ok → k < (b.es.getD i default).fs.length → fldAt b.ks b.ps (b.es.getD i default).nm (b.es.getD i default).fs k := fun h g => (A h hlt).1.2 k g
      unfold fldAt at A2
      by_cases hlt2 : k < (b.es.getD i default).fs.length
      · have hvk := hvi.2 _ (getD_mem' hlt2)
        unfold l_impl_PlanBookOk_0; simp (config := { maxSteps := 2000000 }) only [bitvec_to_nat, reduceIte, Nat.reduceEqDiff, Nat.reduceAdd, Nat.reduceLeDiff, reduceCtorEq, Nat.reduceBEq, Nat.reduceLT, Nat.reduceMod, List.forall_mem_cons, t_iBaseOk, t_change, tk_map, dp_map, toNat_pred, appE, rowsOf, List.take_length, List.length_cons, List.length_nil, Nat.zero_add, srow, irow, un_s, un_i, Zone.row, Zone_eta, un_Zone, Word.row, Word_eta, Own.row, Own_eta, Part.row, Part_eta, Seen.row, Seen_eta, Book.row, Book_eta, Sector.row, Sector_eta, HCraft.row, HCraft_eta, World.row, World_eta, PKind.row, PKind_eta, PPt.row, PPt_eta, Cell.row, Cell_eta, PBase.row, PBase_eta, Chg.row, Chg_eta, Fld.row, Fld_eta, Ent.row, Ent_eta, PBook.row, PBook_eta, un_Word, un_Own, un_Part, un_Seen, un_Book, un_Sector, un_HCraft, un_World, un_PKind, un_PPt, un_Cell, un_PBase, un_Chg, un_Fld, un_Ent, un_PBook, Nat.sub_zero, List.nil_append, Int.toNat_one, un_PKind, un_PPt, PBase.row, PBase_eta, Chg.row, Chg_eta, PBook.row, PBook_eta, Ent.row, Ent_eta, un_Ent, un_Fld, Fld.row, Fld_eta, hbt, hlf]
        repeat' (first | with_reducible apply And.intro | with_reducible intro _)
        all_goals first
          | omega
          | assumption
          | (refine hN2 (k + 1) _ (by simp only [u_E0, u_E1, u_M0, u_M1, w_setE0, w_setE1, w_setM0, w_setM1, reduceIte, Nat.reduceEqDiff]; exact ⟨by repeat' (first | exact trivial | refine ⟨.inr rfl, ?_⟩), by repeat' (first | exact trivial | refine ⟨rfl, ?_⟩), by first | rfl | simp [closedB, refsIn, refsInL, refsInO, dom, refsInL_nr, *], by first | rfl | simp [keepB, dom]⟩) ⟨hlt2, all_snoc h2 ⟨by grind, by grind⟩⟩ (by omega))
          | (intro hq; have := A2 hq hlt2; grind)
          | trace_state
      · have e : k = (b.es.getD i default).fs.length := by omega
        subst e
        unfold l_impl_PlanBookOk_0; simp (config := { maxSteps := 2000000 }) only [bitvec_to_nat, reduceIte, Nat.reduceEqDiff, Nat.reduceAdd, Nat.reduceLeDiff, reduceCtorEq, Nat.reduceBEq, Nat.reduceLT, Nat.reduceMod, List.forall_mem_cons, t_iBaseOk, t_change, tk_map, dp_map, toNat_pred, appE, rowsOf, List.take_length, List.length_cons, List.length_nil, Nat.zero_add, srow, irow, un_s, un_i, Zone.row, Zone_eta, un_Zone, Word.row, Word_eta, Own.row, Own_eta, Part.row, Part_eta, Seen.row, Seen_eta, Book.row, Book_eta, Sector.row, Sector_eta, HCraft.row, HCraft_eta, World.row, World_eta, PKind.row, PKind_eta, PPt.row, PPt_eta, Cell.row, Cell_eta, PBase.row, PBase_eta, Chg.row, Chg_eta, Fld.row, Fld_eta, Ent.row, Ent_eta, PBook.row, PBook_eta, un_Word, un_Own, un_Part, un_Seen, un_Book, un_Sector, un_HCraft, un_World, un_PKind, un_PPt, un_Cell, un_PBase, un_Chg, un_Fld, un_Ent, un_PBook, Nat.sub_zero, List.nil_append, Int.toNat_one, un_PKind, un_PPt, PBase.row, PBase_eta, Chg.row, Chg_eta, PBook.row, PBook_eta, Ent.row, Ent_eta, un_Ent, un_Fld, Fld.row, Fld_eta, hbt, hlf]
        repeat' (first | with_reducible apply And.intro | with_reducible intro _)
        all_goals first
          | omega
          | (exfalso; omega)
          | (refine hN (i + 1) _ (by simp only [u_E0, u_E1, u_M0, u_M1, w_setE0, w_setE1, w_setM0, w_setM1, reduceIte, Nat.reduceEqDiff]; exact ⟨by repeat' (first | exact trivial | refine ⟨.inr rfl, ?_⟩), by repeat' (first | exact trivial | refine ⟨rfl, ?_⟩), by first | rfl | simp [closedB, refsIn, refsInL, refsInO, dom, refsInL_nr, *], by first | rfl | simp [keepB, dom]⟩) ⟨hlt, all_snoc h1 (?_ : entAt b.ks b.ps b.es i)⟩ (by omega)
             exact ⟨chg_nm (nm := (b.es.getD i default).nm) (fs := (b.es.getD i default).fs) (by omega) h2, by grind⟩)
  · have e : i = b.es.length := by omega
    subst e
    unfold l_impl_PlanBookOk_1; simp (config := { maxSteps := 2000000 }) only [bitvec_to_nat, reduceIte, Nat.reduceEqDiff, Nat.reduceAdd, Nat.reduceLeDiff, reduceCtorEq, Nat.reduceBEq, Nat.reduceLT, Nat.reduceMod, List.forall_mem_cons, t_iBaseOk, t_change, tk_map, dp_map, toNat_pred, appE, rowsOf, List.take_length, List.length_cons, List.length_nil, Nat.zero_add, srow, irow, un_s, un_i, Zone.row, Zone_eta, un_Zone, Word.row, Word_eta, Own.row, Own_eta, Part.row, Part_eta, Seen.row, Seen_eta, Book.row, Book_eta, Sector.row, Sector_eta, HCraft.row, HCraft_eta, World.row, World_eta, PKind.row, PKind_eta, PPt.row, PPt_eta, Cell.row, Cell_eta, PBase.row, PBase_eta, Chg.row, Chg_eta, Fld.row, Fld_eta, Ent.row, Ent_eta, PBook.row, PBook_eta, un_Word, un_Own, un_Part, un_Seen, un_Book, un_Sector, un_HCraft, un_World, un_PKind, un_PPt, un_Cell, un_PBase, un_Chg, un_Fld, un_Ent, un_PBook, Nat.sub_zero, List.nil_append, Int.toNat_one, un_PKind, un_PPt, PBase.row, PBase_eta, Chg.row, Chg_eta, PBook.row, PBook_eta, Ent.row, Ent_eta, un_Ent, un_Fld, Fld.row, Fld_eta, hbt, hlf]
    repeat' (first | with_reducible apply And.intro | with_reducible intro _)
    all_goals first
      | omega
      | exact ⟨⟨hb, by omega⟩, h1⟩
      | (exfalso; omega)
      | trace_state
end
end Go.Ve

namespace Go.Ve
noncomputable section
open Go.Proofs
set_option linter.unusedSimpArgs false
set_option linter.unusedVariables false
set_option maxRecDepth 100000
open Go.ChangeShapes Go.WideShapes
def Fld.fitp (s : Fld) : Prop := s.v.toList.length ≤ 9223372036854775807
def Fld.sz (s : Fld) (z0 : Int) : Int := chk (z0 - (s.v.toList.length : Nat)) (fun z1 => z1)
theorem meas_Fld : Meas Fld.sz := fun s => chk_sub _ (measP_id)
theorem c_szFld (s : Fld) (a : Int) (ha : 0 ≤ a ∧ a ≤ 1048576) (hs : s.fitp) : Contract P 126 [.agg s.row, .int .i64 a] [] (.int .i64 (s.sz a)) [] := by
  unfold Fld.fitp at hs
  simp only [Fld.row]
  refine fn_sound (Env.nil P) hm k_laws_szPlanField (Nat.le_of_ble_eq_true rfl) rfl ?_; unfold s_laws_szPlanField; simp (config := { maxSteps := 2000000 }) only [bitvec_to_nat, reduceIte, Nat.reduceEqDiff, Nat.reduceAdd, Nat.reduceLeDiff, reduceCtorEq, Nat.reduceBEq, Nat.reduceLT, Nat.reduceMod, List.forall_mem_cons, tk_map, dp_map, toNat_pred, appE, rowsOf, List.take_length, List.length_cons, List.length_nil, Nat.zero_add, srow, irow, un_s, un_i, Zone.row, Zone_eta, un_Zone, Word.row, Word_eta, Own.row, Own_eta, Part.row, Part_eta, Seen.row, Seen_eta, Book.row, Book_eta, Sector.row, Sector_eta, HCraft.row, HCraft_eta, World.row, World_eta, PKind.row, PKind_eta, PPt.row, PPt_eta, Cell.row, Cell_eta, PBase.row, PBase_eta, Fld.row, Fld_eta, Ent.row, Ent_eta, un_Word, un_Own, un_Part, un_Seen, un_Book, un_Sector, un_HCraft, un_World, un_PKind, un_PPt, un_Cell, un_PBase, un_Fld, un_Ent]
  unfold Fld.sz
  repeat' (first | with_reducible apply And.intro | with_reducible intro _)
  all_goals first | omega | (exact hs) | (exact hs.1) | (exact hs.2.1) | (exact hs.2.2) | (exact hs.2.2.1) | (exact hs.2.2.2) | (exact hs.2.2.2.1) | (exact hs.2.2.2.2) | (exact hs.1.1) | (exact hs.1.2) | (exact hs.2.1.1) | (exact hs.2.1.2) | (unfold chk; grind) | grind
def t_szFld : List AV → Option (Prop × AV)
  | [.agg [.int .i64 s_w, .int .i64 s_nr, .str s_v], .int .i64 b] => some ((True) ∧ ((0 ≤ b ∧ b ≤ 1048576) ∧ (Fld.fitp (Fld.mk s_w s_nr s_v))), .int .i64 (Fld.sz (Fld.mk s_w s_nr s_v) b))
  | _ => none
theorem h_szFld : ∀ args p v, t_szFld args = some (p, v) → p → Contract P 126 args [] v [] ∧ noref v = true ∧ No99 v := by
  intro args p v h1 h2
  unfold t_szFld at h1
  split at h1
  · rename_i s_w s_nr s_v b
    cases h1
    obtain ⟨_, HP⟩ := h2
    have := c_szFld (Fld.mk s_w s_nr s_v) b HP.1 HP.2
    exact ⟨by simpa only [Fld.row] using this, rfl, trivial⟩
  · cases h1
theorem c_szFldS (t : Nat) (l : List Fld) (a : Int) (ha : 0 ≤ a ∧ a ≤ 1048576) (hl : l.length ≤ 9223372036854775807 ∧ ∀ y ∈ l, y.fitp) : Contract P 107 [.sl t 3 (l.map Fld.row), .int .i64 a] [] (.int .i64 (szS Fld.sz l a)) [] := by
  refine fn_sound ((Env.nil P).add 126 t_szFld h_szFld) hm k_laws_szPlanFieldS (Nat.le_of_ble_eq_true rfl) rfl ?_; unfold s_laws_szPlanFieldS; simp (config := { maxSteps := 2000000 }) only [bitvec_to_nat, reduceIte, Nat.reduceEqDiff, Nat.reduceAdd, Nat.reduceLeDiff, reduceCtorEq, Nat.reduceBEq, Nat.reduceLT, Nat.reduceMod, List.forall_mem_cons, t_szFld, tk_map, dp_map, toNat_pred, appE, rowsOf, List.take_length, List.length_cons, List.length_nil, Nat.zero_add, srow, irow, un_s, un_i, Zone.row, Zone_eta, un_Zone, Word.row, Word_eta, Own.row, Own_eta, Part.row, Part_eta, Seen.row, Seen_eta, Book.row, Book_eta, Sector.row, Sector_eta, HCraft.row, HCraft_eta, World.row, World_eta, PKind.row, PKind_eta, PPt.row, PPt_eta, Cell.row, Cell_eta, PBase.row, PBase_eta, Fld.row, Fld_eta, Ent.row, Ent_eta, un_Word, un_Own, un_Part, un_Seen, un_Book, un_Sector, un_HCraft, un_World, un_PKind, un_PPt, un_Cell, un_PBase, un_Fld, un_Ent, List.take_zero, List.foldl_nil]
  have hz : szOf a l.length = if a - l.length < 0 then -1 else a - l.length := rfl
  refine ⟨by omega, fun h1 => ?_, fun h1 => ?_⟩
  · unfold szS
    rw [(fold_meas meas_Fld l _ (by omega) (by omega)).2.1 (by omega)]
  have e0 : szOf a l.length = a - l.length := if_neg h1
  refine loop_st (fun i : Nat => [(1, .int .i64 ((l.take i).foldl (fun a x => x.sz a) (a - l.length))), (5, .int .i64 i)]) (fun _ => []) (fun i => i ≤ l.length ∧ 0 ≤ (l.take i).foldl (fun a x => x.sz a) (a - l.length)) (fun i => l.length - i) (0) (by simp only [u_E0, u_E1, u_M0, u_M1, w_setE0, w_setE1, w_setM0, w_setM1, reduceIte, Nat.reduceEqDiff]; exact ⟨by repeat' (first | exact trivial | refine ⟨.inr rfl, ?_⟩), by repeat' (first | exact trivial | refine ⟨rfl, ?_⟩), by first | rfl | simp [closedB, refsIn, refsInL, refsInO, dom, refsInL_nr, *], by first | rfl | simp [keepB, dom]⟩) ?_ ?_
  · simp only [List.take_zero, List.foldl_nil]; omega
  intro i hi NX hN
  have hm := (fold_meas meas_Fld (l.take i) (a - l.length) (by omega) (by omega)).2.2
  have hg : i < l.length → (l.getD i default).fitp := fun h => hl.2 _ (getD_mem' h)
  have hn : i < l.length → (l.take (i + 1)).foldl (fun a x => x.sz a) (a - l.length) = (l.getD i default).sz ((l.take i).foldl (fun a x => x.sz a) (a - l.length)) := fun h => fold_take (f := Fld.sz) h
  have hs : i < l.length → (l.getD i default).sz ((l.take i).foldl (fun a x => x.sz a) (a - l.length)) < 0 → szS Fld.sz l a = -1 := fun h h2 => by unfold szS; rw [e0]; exact fold_stop meas_Fld h (by omega) (by omega) h2
  unfold l_laws_szPlanFieldS_0; simp (config := { maxSteps := 2000000 }) only [bitvec_to_nat, reduceIte, Nat.reduceEqDiff, Nat.reduceAdd, Nat.reduceLeDiff, reduceCtorEq, Nat.reduceBEq, Nat.reduceLT, Nat.reduceMod, List.forall_mem_cons, t_szFld, tk_map, dp_map, toNat_pred, appE, rowsOf, List.take_length, List.length_cons, List.length_nil, Nat.zero_add, srow, irow, un_s, un_i, Zone.row, Zone_eta, un_Zone, Word.row, Word_eta, Own.row, Own_eta, Part.row, Part_eta, Seen.row, Seen_eta, Book.row, Book_eta, Sector.row, Sector_eta, HCraft.row, HCraft_eta, World.row, World_eta, PKind.row, PKind_eta, PPt.row, PPt_eta, Cell.row, Cell_eta, PBase.row, PBase_eta, Fld.row, Fld_eta, Ent.row, Ent_eta, un_Word, un_Own, un_Part, un_Seen, un_Book, un_Sector, un_HCraft, un_World, un_PKind, un_PPt, un_Cell, un_PBase, un_Fld, un_Ent, List.take_zero, List.foldl_nil]
  refine ⟨fun h2 => ⟨by omega, by omega, ⟨⟨by omega, by omega⟩, hg (by omega)⟩, fun h3 => by rw [hs (by omega) h3], fun h3 => ⟨by omega, ?_⟩⟩, fun h2 => ?_⟩
  · have e := hn (by omega)
    refine hN (i + 1) _ (by simp only [e, List.length_append, List.length_cons, List.length_nil, Nat.zero_add, List.map_append, List.map_cons, List.map_nil, u_E0, u_E1, u_M0, u_M1, w_setE0, w_setE1, w_setM0, w_setM1, reduceIte, Nat.reduceEqDiff]; exact ⟨by repeat' (first | exact trivial | refine ⟨.inr rfl, ?_⟩), by repeat' (first | exact trivial | refine ⟨rfl, ?_⟩), by first | rfl | simp [closedB, refsIn, refsInL, refsInO, dom, refsInL_nr, *], by first | rfl | simp [keepB, dom]⟩) ?_ ?_
    · exact ⟨by omega, by rw [e]; omega⟩
    · omega
  · have e : i = l.length := by omega
    subst e
    simp only [List.take_length]; unfold szS; rw [e0]
def t_szFldS : List AV → Option (Prop × AV)
  | [.sl lt 3 lx, .int .i64 b] => some ((((lx.map unFld).map Fld.row = lx)) ∧ ((0 ≤ b ∧ b ≤ 1048576) ∧ ((lx.map unFld).length ≤ 9223372036854775807 ∧ ∀ y ∈ (lx.map unFld), Fld.fitp y)), .int .i64 (szS Fld.sz (lx.map unFld) b))
  | _ => none
theorem h_szFldS : ∀ args p v, t_szFldS args = some (p, v) → p → Contract P 107 args [] v [] ∧ noref v = true ∧ No99 v := by
  intro args p v h1 h2
  unfold t_szFldS at h1
  split at h1
  · rename_i lt lx b
    cases h1
    obtain ⟨e0, HP⟩ := h2
    have := c_szFldS lt (lx.map unFld) b HP.1 HP.2
    exact ⟨by simpa only [e0] using this, rfl, trivial⟩
  · cases h1
def Ent.fitp (s : Ent) : Prop := s.nm.toList.length ≤ 9223372036854775807 ∧ (s.fs.length ≤ 9223372036854775807 ∧ ∀ y ∈ s.fs, y.fitp)
def Ent.small (s : Ent) : Prop := s.fs.length ≤ 1048576
def Ent.sz (s : Ent) (z0 : Int) : Int := chk (z0 - (s.nm.toList.length : Nat)) (fun z1 => chk (szS Fld.sz s.fs z1) (fun z2 => z2))
theorem meas_Ent : Meas Ent.sz := fun s => chk_sub _ (Meas1.p (chk_g (fun a => meas_szS meas_Fld s.fs a) (measP_id)))
theorem Ent.sz_ok {s : Ent} {a : Int} (ha : a ≤ 1048576) (h : 0 ≤ s.sz a) : s.small := by
  unfold Ent.sz at h
  have b0 : a ≤ 1048576 := ha
  obtain ⟨p0, h⟩ := chk_ok h
  have b1 : (a) - (s.nm.toList.length : Nat) ≤ 1048576 := by omega
  obtain ⟨p1, h⟩ := chk_ok h
  have b2 : szS Fld.sz s.fs ((a) - (s.nm.toList.length : Nat)) ≤ 1048576 := by have := (meas_szS meas_Fld s.fs ((a) - (s.nm.toList.length : Nat)) b1).2.2; omega
  have k1 := szS_ok (p := fun _ => True) meas_Fld (fun _ _ _ _ => trivial) b1 p1
  exact k1.1
theorem c_szEnt (s : Ent) (a : Int) (ha : 0 ≤ a ∧ a ≤ 1048576) (hs : s.fitp) : Contract P 91 [.agg (s.row 1), .int .i64 a] [] (.int .i64 (s.sz a)) [] := by
  unfold Ent.fitp at hs
  simp only [Ent.row]
  refine fn_sound ((Env.nil P).add 107 t_szFldS h_szFldS) hm k_laws_szPlanEntry (Nat.le_of_ble_eq_true rfl) rfl ?_; unfold s_laws_szPlanEntry; simp (config := { maxSteps := 2000000 }) only [bitvec_to_nat, reduceIte, Nat.reduceEqDiff, Nat.reduceAdd, Nat.reduceLeDiff, reduceCtorEq, Nat.reduceBEq, Nat.reduceLT, Nat.reduceMod, List.forall_mem_cons, t_szFldS, tk_map, dp_map, toNat_pred, appE, rowsOf, List.take_length, List.length_cons, List.length_nil, Nat.zero_add, srow, irow, un_s, un_i, Zone.row, Zone_eta, un_Zone, Word.row, Word_eta, Own.row, Own_eta, Part.row, Part_eta, Seen.row, Seen_eta, Book.row, Book_eta, Sector.row, Sector_eta, HCraft.row, HCraft_eta, World.row, World_eta, PKind.row, PKind_eta, PPt.row, PPt_eta, Cell.row, Cell_eta, PBase.row, PBase_eta, Fld.row, Fld_eta, Ent.row, Ent_eta, un_Word, un_Own, un_Part, un_Seen, un_Book, un_Sector, un_HCraft, un_World, un_PKind, un_PPt, un_Cell, un_PBase, un_Fld, un_Ent]
  unfold Ent.sz
  have qfs : (szS Fld.sz s.fs (a - (s.nm.toList.length : Nat))) ≤ max (a - (s.nm.toList.length : Nat)) (-1) := (meas_szS meas_Fld s.fs (a - (s.nm.toList.length : Nat)) (by omega)).2.2
  repeat' (first | with_reducible apply And.intro | with_reducible intro _)
  all_goals first | omega | (exact hs) | (exact hs.1) | (exact hs.2.1) | (exact hs.2.2) | (exact hs.2.2.1) | (exact hs.2.2.2) | (exact hs.2.2.2.1) | (exact hs.2.2.2.2) | (exact hs.1.1) | (exact hs.1.2) | (exact hs.2.1.1) | (exact hs.2.1.2) | (unfold chk; grind) | grind
def t_szEnt : List AV → Option (Prop × AV)
  | [.agg [.str s_nm, .sl 1 3 s_fs], .int .i64 b] => some ((((s_fs.map unFld).map Fld.row = s_fs)) ∧ ((0 ≤ b ∧ b ≤ 1048576) ∧ (Ent.fitp (Ent.mk s_nm (s_fs.map unFld)))), .int .i64 (Ent.sz (Ent.mk s_nm (s_fs.map unFld)) b))
  | _ => none
theorem h_szEnt : ∀ args p v, t_szEnt args = some (p, v) → p → Contract P 91 args [] v [] ∧ noref v = true ∧ No99 v := by
  intro args p v h1 h2
  unfold t_szEnt at h1
  split at h1
  · rename_i s_nm s_fs b
    cases h1
    obtain ⟨e0, HP⟩ := h2
    have := c_szEnt (Ent.mk s_nm (s_fs.map unFld)) b HP.1 HP.2
    exact ⟨by simpa only [e0, Ent.row] using this, rfl, trivial⟩
  · cases h1
theorem c_szEntS (t : Nat) (l : List Ent) (a : Int) (ha : 0 ≤ a ∧ a ≤ 1048576) (hl : l.length ≤ 9223372036854775807 ∧ ∀ y ∈ l, y.fitp) : Contract P 56 [.sl t 2 (l.map (Ent.row 1)), .int .i64 a] [] (.int .i64 (szS Ent.sz l a)) [] := by
  refine fn_sound ((Env.nil P).add 91 t_szEnt h_szEnt) hm k_laws_szPlanEntryS (Nat.le_of_ble_eq_true rfl) rfl ?_; unfold s_laws_szPlanEntryS; simp (config := { maxSteps := 2000000 }) only [bitvec_to_nat, reduceIte, Nat.reduceEqDiff, Nat.reduceAdd, Nat.reduceLeDiff, reduceCtorEq, Nat.reduceBEq, Nat.reduceLT, Nat.reduceMod, List.forall_mem_cons, t_szEnt, tk_map, dp_map, toNat_pred, appE, rowsOf, List.take_length, List.length_cons, List.length_nil, Nat.zero_add, srow, irow, un_s, un_i, Zone.row, Zone_eta, un_Zone, Word.row, Word_eta, Own.row, Own_eta, Part.row, Part_eta, Seen.row, Seen_eta, Book.row, Book_eta, Sector.row, Sector_eta, HCraft.row, HCraft_eta, World.row, World_eta, PKind.row, PKind_eta, PPt.row, PPt_eta, Cell.row, Cell_eta, PBase.row, PBase_eta, Fld.row, Fld_eta, Ent.row, Ent_eta, un_Word, un_Own, un_Part, un_Seen, un_Book, un_Sector, un_HCraft, un_World, un_PKind, un_PPt, un_Cell, un_PBase, un_Fld, un_Ent, List.take_zero, List.foldl_nil]
  have hz : szOf a l.length = if a - l.length < 0 then -1 else a - l.length := rfl
  refine ⟨by omega, fun h1 => ?_, fun h1 => ?_⟩
  · unfold szS
    rw [(fold_meas meas_Ent l _ (by omega) (by omega)).2.1 (by omega)]
  have e0 : szOf a l.length = a - l.length := if_neg h1
  refine loop_st (fun i : Nat => [(1, .int .i64 ((l.take i).foldl (fun a x => x.sz a) (a - l.length))), (5, .int .i64 i)]) (fun _ => []) (fun i => i ≤ l.length ∧ 0 ≤ (l.take i).foldl (fun a x => x.sz a) (a - l.length)) (fun i => l.length - i) (0) (by simp only [u_E0, u_E1, u_M0, u_M1, w_setE0, w_setE1, w_setM0, w_setM1, reduceIte, Nat.reduceEqDiff]; exact ⟨by repeat' (first | exact trivial | refine ⟨.inr rfl, ?_⟩), by repeat' (first | exact trivial | refine ⟨rfl, ?_⟩), by first | rfl | simp [closedB, refsIn, refsInL, refsInO, dom, refsInL_nr, *], by first | rfl | simp [keepB, dom]⟩) ?_ ?_
  · simp only [List.take_zero, List.foldl_nil]; omega
  intro i hi NX hN
  have hm := (fold_meas meas_Ent (l.take i) (a - l.length) (by omega) (by omega)).2.2
  have hg : i < l.length → (l.getD i default).fitp := fun h => hl.2 _ (getD_mem' h)
  have hn : i < l.length → (l.take (i + 1)).foldl (fun a x => x.sz a) (a - l.length) = (l.getD i default).sz ((l.take i).foldl (fun a x => x.sz a) (a - l.length)) := fun h => fold_take (f := Ent.sz) h
  have hs : i < l.length → (l.getD i default).sz ((l.take i).foldl (fun a x => x.sz a) (a - l.length)) < 0 → szS Ent.sz l a = -1 := fun h h2 => by unfold szS; rw [e0]; exact fold_stop meas_Ent h (by omega) (by omega) h2
  unfold l_laws_szPlanEntryS_0; simp (config := { maxSteps := 2000000 }) only [bitvec_to_nat, reduceIte, Nat.reduceEqDiff, Nat.reduceAdd, Nat.reduceLeDiff, reduceCtorEq, Nat.reduceBEq, Nat.reduceLT, Nat.reduceMod, List.forall_mem_cons, t_szEnt, tk_map, dp_map, toNat_pred, appE, rowsOf, List.take_length, List.length_cons, List.length_nil, Nat.zero_add, srow, irow, un_s, un_i, Zone.row, Zone_eta, un_Zone, Word.row, Word_eta, Own.row, Own_eta, Part.row, Part_eta, Seen.row, Seen_eta, Book.row, Book_eta, Sector.row, Sector_eta, HCraft.row, HCraft_eta, World.row, World_eta, PKind.row, PKind_eta, PPt.row, PPt_eta, Cell.row, Cell_eta, PBase.row, PBase_eta, Fld.row, Fld_eta, Ent.row, Ent_eta, un_Word, un_Own, un_Part, un_Seen, un_Book, un_Sector, un_HCraft, un_World, un_PKind, un_PPt, un_Cell, un_PBase, un_Fld, un_Ent, List.take_zero, List.foldl_nil]
  refine ⟨fun h2 => ⟨by omega, by omega, ⟨⟨by omega, by omega⟩, hg (by omega)⟩, fun h3 => by rw [hs (by omega) h3], fun h3 => ⟨by omega, ?_⟩⟩, fun h2 => ?_⟩
  · have e := hn (by omega)
    refine hN (i + 1) _ (by simp only [e, List.length_append, List.length_cons, List.length_nil, Nat.zero_add, List.map_append, List.map_cons, List.map_nil, u_E0, u_E1, u_M0, u_M1, w_setE0, w_setE1, w_setM0, w_setM1, reduceIte, Nat.reduceEqDiff]; exact ⟨by repeat' (first | exact trivial | refine ⟨.inr rfl, ?_⟩), by repeat' (first | exact trivial | refine ⟨rfl, ?_⟩), by first | rfl | simp [closedB, refsIn, refsInL, refsInO, dom, refsInL_nr, *], by first | rfl | simp [keepB, dom]⟩) ?_ ?_
    · exact ⟨by omega, by rw [e]; omega⟩
    · omega
  · have e : i = l.length := by omega
    subst e
    simp only [List.take_length]; unfold szS; rw [e0]
def t_szEntS : List AV → Option (Prop × AV)
  | [.sl lt 2 lx, .int .i64 b] => some ((((lx.map unEnt).map (Ent.row 1) = lx)) ∧ ((0 ≤ b ∧ b ≤ 1048576) ∧ ((lx.map unEnt).length ≤ 9223372036854775807 ∧ ∀ y ∈ (lx.map unEnt), Ent.fitp y)), .int .i64 (szS Ent.sz (lx.map unEnt) b))
  | _ => none
theorem h_szEntS : ∀ args p v, t_szEntS args = some (p, v) → p → Contract P 56 args [] v [] ∧ noref v = true ∧ No99 v := by
  intro args p v h1 h2
  unfold t_szEntS at h1
  split at h1
  · rename_i lt lx b
    cases h1
    obtain ⟨e0, HP⟩ := h2
    have := c_szEntS lt (lx.map unEnt) b HP.1 HP.2
    exact ⟨by simpa only [e0] using this, rfl, trivial⟩
  · cases h1
theorem c_toFld (s : Fld) : Contract P 127 [.agg (s.row)] [] (.agg (s.row)) [] := by
  simp only [Fld.row]
  refine fn_sound (Env.nil P) hm k_laws_toPlanField (Nat.le_of_ble_eq_true rfl) rfl ?_; unfold s_laws_toPlanField; simp (config := { maxSteps := 2000000 }) only [bitvec_to_nat, reduceIte, Nat.reduceEqDiff, Nat.reduceAdd, Nat.reduceLeDiff, reduceCtorEq, Nat.reduceBEq, Nat.reduceLT, Nat.reduceMod, List.forall_mem_cons, tk_map, dp_map, toNat_pred, appE, rowsOf, List.take_length, List.length_cons, List.length_nil, Nat.zero_add, srow, irow, un_s, un_i, Zone.row, Zone_eta, un_Zone, Word.row, Word_eta, Own.row, Own_eta, Part.row, Part_eta, Seen.row, Seen_eta, Book.row, Book_eta, Sector.row, Sector_eta, HCraft.row, HCraft_eta, World.row, World_eta, PKind.row, PKind_eta, PPt.row, PPt_eta, Cell.row, Cell_eta, PBase.row, PBase_eta, Fld.row, Fld_eta, Ent.row, Ent_eta, un_Word, un_Own, un_Part, un_Seen, un_Book, un_Sector, un_HCraft, un_World, un_PKind, un_PPt, un_Cell, un_PBase, un_Fld, un_Ent]
  all_goals trivial
def t_toFld : List AV → Option (Prop × AV)
  | [.agg [.int .i64 s_w, .int .i64 s_nr, .str s_v]] => some ((True) ∧ (True), .agg (Fld.row (Fld.mk s_w s_nr s_v)))
  | _ => none
theorem h_toFld : ∀ args p v, t_toFld args = some (p, v) → p → Contract P 127 args [] v [] ∧ noref v = true ∧ No99 v := by
  intro args p v h1 h2
  unfold t_toFld at h1
  split at h1
  · rename_i s_w s_nr s_v
    cases h1
    obtain ⟨_, HP⟩ := h2
    have := c_toFld (Fld.mk s_w s_nr s_v)
    exact ⟨by simpa only [Fld.row] using this, rfl, by simp [Fld.row, No99, No99L, no99_box, no99_i, no99_str, no99_Zone, no99_Word, no99_Own, no99_Part, no99_Seen, no99_Book, no99_Sector, no99_HCraft, no99_World, no99_PKind, no99_PPt, no99_Cell, no99_PBase, no99_Fld, no99_Ent, -List.map_map]⟩
  · cases h1
theorem set_Fld {lst : List Fld} {idx : Nat} {vw : Int} {vnr : Int} {vv : ByteArray} : (lst.map Fld.row).set idx (setSeg ((lst.map Fld.row).getD idx []) 0 [.int .i64 vw, .int .i64 vnr, .str vv]) = (lst.set idx (Fld.mk vw vnr vv)).map Fld.row :=
  set_rows (α := Fld) (f := Fld.row) (fun s => (Fld.mk vw vnr vv)) fun x => by simp [Fld.row, setSeg]
def to_Fld (a : List Fld) (i : Nat) : List Fld := a.take i ++ List.replicate (a.length - i) ⟨0, 0, ⟨#[]⟩⟩
theorem to_Fld_st {a : List Fld} {i : Nat} (h : i < a.length) : (to_Fld a i).set i (a.getD i default) = to_Fld a (i + 1) := by
  refine List.ext_getElem (by simp [to_Fld]; omega) fun j h1 h2 => ?_
  by_cases e : j = i
  · subst e
    simp [to_Fld, List.getElem_append, h]
    intro h9; omega
  · simp only [List.getElem_set_ne (Ne.symm e)]
    simp only [to_Fld, List.getElem_append, List.length_take, List.getElem_take, List.getElem_replicate]
    split <;> split <;> first | rfl | omega
theorem c_toFldS (t : Nat) (a : List Fld) (ha : a.length ≤ 1048576) : Contract P 108 [.sl t 3 (a.map Fld.row)] [] (.sl 0 3 (a.map Fld.row)) [] := by
  refine fn_sound ((Env.nil P).add 127 t_toFld h_toFld) hm k_laws_toPlanFieldS (Nat.le_of_ble_eq_true rfl) rfl ?_; unfold s_laws_toPlanFieldS; simp (config := { maxSteps := 2000000 }) only [bitvec_to_nat, reduceIte, Nat.reduceEqDiff, Nat.reduceAdd, Nat.reduceLeDiff, reduceCtorEq, Nat.reduceBEq, Nat.reduceLT, Nat.reduceMod, List.forall_mem_cons, t_toFld, tk_map, dp_map, toNat_pred, appE, rowsOf, List.take_length, List.length_cons, List.length_nil, Nat.zero_add, srow, irow, un_s, un_i, Zone.row, Zone_eta, un_Zone, Word.row, Word_eta, Own.row, Own_eta, Part.row, Part_eta, Seen.row, Seen_eta, Book.row, Book_eta, Sector.row, Sector_eta, HCraft.row, HCraft_eta, World.row, World_eta, PKind.row, PKind_eta, PPt.row, PPt_eta, Cell.row, Cell_eta, PBase.row, PBase_eta, Fld.row, Fld_eta, Ent.row, Ent_eta, un_Word, un_Own, un_Part, un_Seen, un_Book, un_Sector, un_HCraft, un_World, un_PKind, un_PPt, un_Cell, un_PBase, un_Fld, un_Ent, set_Fld, Nat.sub_zero]
  have m0 : List.replicate a.length [.int .i64 0, .int .i64 0, .str ⟨#[]⟩] = (to_Fld a 0).map Fld.row := by simp [to_Fld, Fld.row]
  refine ⟨by omega, ?_⟩
  refine loop_st (fun i : Nat => [(4, .int .i64 i)]) (fun i => [(107, .arr 96 0 3 ((to_Fld a i).map Fld.row))]) (fun i => i ≤ a.length) (fun i => a.length - i) 0 (by simp only [u_E0, u_E1, u_M0, u_M1, w_setE0, w_setE1, w_setM0, w_setM1, reduceIte, Nat.reduceEqDiff]; exact ⟨by repeat' (first | exact trivial | refine ⟨.inr rfl, ?_⟩), ⟨congrArg (fun g => some (AObj.arr 96 0 3 g)) m0, trivial⟩, rfl, rfl⟩) (Nat.zero_le _) ?_
  intro i hi NX hN
  skip
  unfold l_laws_toPlanFieldS_0; simp (config := { maxSteps := 2000000 }) only [bitvec_to_nat, reduceIte, Nat.reduceEqDiff, Nat.reduceAdd, Nat.reduceLeDiff, reduceCtorEq, Nat.reduceBEq, Nat.reduceLT, Nat.reduceMod, List.forall_mem_cons, t_toFld, tk_map, dp_map, toNat_pred, appE, rowsOf, List.take_length, List.length_cons, List.length_nil, Nat.zero_add, srow, irow, un_s, un_i, Zone.row, Zone_eta, un_Zone, Word.row, Word_eta, Own.row, Own_eta, Part.row, Part_eta, Seen.row, Seen_eta, Book.row, Book_eta, Sector.row, Sector_eta, HCraft.row, HCraft_eta, World.row, World_eta, PKind.row, PKind_eta, PPt.row, PPt_eta, Cell.row, Cell_eta, PBase.row, PBase_eta, Fld.row, Fld_eta, Ent.row, Ent_eta, un_Word, un_Own, un_Part, un_Seen, un_Book, un_Sector, un_HCraft, un_World, un_PKind, un_PPt, un_Cell, un_PBase, un_Fld, un_Ent, set_Fld, Nat.sub_zero]
  refine ⟨fun h => ?_, fun h => ?_⟩
  · repeat' (first | with_reducible apply And.intro | with_reducible intro _)
    all_goals first
      | omega
      | rfl
      | exact hs2 (by omega)
      | (have e := to_Fld_st (a := a) (i := i) (by omega)
         try simp only [Fld.row] at *
         refine hN (i + 1) _ ⟨by repeat' (first | exact trivial | refine ⟨.inr rfl, ?_⟩), ⟨congrArg (fun g => some (AObj.arr 96 0 3 (List.map Fld.row g))) e, trivial⟩, rfl, rfl⟩ ?_ ?_ <;> omega)
  · have e : i = a.length := by omega
    subst e
    simp only [to_Fld, List.take_length, Nat.sub_self, List.replicate_zero, List.append_nil]
    try rw [List.take_of_length_le (by simp)]
def t_toFldS : List AV → Option (Prop × AV)
  | [.sl st 3 sx] => some ((((sx.map unFld).map Fld.row = sx)) ∧ ((sx.map unFld).length ≤ 1048576), .sl 0 3 ((sx.map unFld).map Fld.row))
  | _ => none
theorem h_toFldS : ∀ args p v, t_toFldS args = some (p, v) → p → Contract P 108 args [] v [] ∧ noref v = true ∧ No99 v := by
  intro args p v h1 h2
  unfold t_toFldS at h1
  split at h1
  · rename_i st sx
    cases h1
    obtain ⟨e0, HP⟩ := h2
    have := c_toFldS st (sx.map unFld) HP
    exact ⟨by simpa only [e0] using this, rfl, by simp [No99, No99L, no99_box, no99_i, no99_str, no99_Zone, no99_Word, no99_Own, no99_Part, no99_Seen, no99_Book, no99_Sector, no99_HCraft, no99_World, no99_PKind, no99_PPt, no99_Cell, no99_PBase, no99_Fld, no99_Ent, -List.map_map]⟩
  · cases h1
theorem c_eqFld (c d : Fld)  : Contract P 128 [.agg (c.row), .agg (d.row)] [] (.bool (decide (c = d))) [] := by
  obtain ⟨c_w, c_nr, c_v⟩ := c
  obtain ⟨d_w, d_nr, d_v⟩ := d
  simp only [Fld.row]
  refine fn_sound (Env.nil P) hm k_laws_eqPlanField (Nat.le_of_ble_eq_true rfl) rfl ?_; unfold s_laws_eqPlanField; simp (config := { maxSteps := 2000000 }) only [bitvec_to_nat, reduceIte, Nat.reduceEqDiff, Nat.reduceAdd, Nat.reduceLeDiff, reduceCtorEq, Nat.reduceBEq, Nat.reduceLT, Nat.reduceMod, List.forall_mem_cons, tk_map, dp_map, toNat_pred, appE, rowsOf, List.take_length, List.length_cons, List.length_nil, Nat.zero_add, srow, irow, un_s, un_i, Zone.row, Zone_eta, un_Zone, Word.row, Word_eta, Own.row, Own_eta, Part.row, Part_eta, Seen.row, Seen_eta, Book.row, Book_eta, Sector.row, Sector_eta, HCraft.row, HCraft_eta, World.row, World_eta, PKind.row, PKind_eta, PPt.row, PPt_eta, Cell.row, Cell_eta, PBase.row, PBase_eta, Fld.row, Fld_eta, Ent.row, Ent_eta, un_Word, un_Own, un_Part, un_Seen, un_Book, un_Sector, un_HCraft, un_World, un_PKind, un_PPt, un_Cell, un_PBase, un_Fld, un_Ent]
  simp only [Fld.mk.injEq]
  repeat' (first | with_reducible apply And.intro | with_reducible intro _)
  all_goals first | omega | (simp_all; done) | grind
def t_eqFld : List AV → Option (Prop × AV)
  | [.agg [.int .i64 c_w, .int .i64 c_nr, .str c_v], .agg [.int .i64 d_w, .int .i64 d_nr, .str d_v]] => some ((True) ∧ (True), .bool (decide ((Fld.mk c_w c_nr c_v) = (Fld.mk d_w d_nr d_v))))
  | _ => none
theorem h_eqFld : ∀ args p v, t_eqFld args = some (p, v) → p → Contract P 128 args [] v [] ∧ noref v = true ∧ No99 v := by
  intro args p v h1 h2
  unfold t_eqFld at h1
  split at h1
  · rename_i c_w c_nr c_v d_w d_nr d_v
    cases h1
    obtain ⟨_, HP⟩ := h2
    have := c_eqFld (Fld.mk c_w c_nr c_v) (Fld.mk d_w d_nr d_v)
    exact ⟨by simpa only [Fld.row, Fld.row] using this, rfl, trivial⟩
  · cases h1
theorem c_eqFldS (t t' : Nat) (p q : List Fld) (hp : p.length ≤ 4611686018427387904) : Contract P 109 [.sl t 3 (p.map Fld.row), .sl t' 3 (q.map Fld.row)] [] (.bool (decide (p = q))) [] := by
  refine fn_sound ((Env.nil P).add 128 t_eqFld h_eqFld) hm k_laws_eqPlanFieldS (Nat.le_of_ble_eq_true rfl) rfl ?_; unfold s_laws_eqPlanFieldS; simp (config := { maxSteps := 2000000 }) only [bitvec_to_nat, reduceIte, Nat.reduceEqDiff, Nat.reduceAdd, Nat.reduceLeDiff, reduceCtorEq, Nat.reduceBEq, Nat.reduceLT, Nat.reduceMod, List.forall_mem_cons, t_eqFld, tk_map, dp_map, toNat_pred, appE, rowsOf, List.take_length, List.length_cons, List.length_nil, Nat.zero_add, srow, irow, un_s, un_i, Zone.row, Zone_eta, un_Zone, Word.row, Word_eta, Own.row, Own_eta, Part.row, Part_eta, Seen.row, Seen_eta, Book.row, Book_eta, Sector.row, Sector_eta, HCraft.row, HCraft_eta, World.row, World_eta, PKind.row, PKind_eta, PPt.row, PPt_eta, Cell.row, Cell_eta, PBase.row, PBase_eta, Fld.row, Fld_eta, Ent.row, Ent_eta, un_Word, un_Own, un_Part, un_Seen, un_Book, un_Sector, un_HCraft, un_World, un_PKind, un_PPt, un_Cell, un_PBase, un_Fld, un_Ent]
  refine ⟨fun h1 h => h1 (by rw [h]), fun h1 => ?_⟩
  refine loop_st (fun i : Nat => [(5, .int .i64 i)]) (fun _ => []) (fun i => i ≤ p.length ∧ ∀ j, j < i → p.getD j default = q.getD j default) (fun i => p.length - i) (0) (by simp only [u_E0, u_E1, u_M0, u_M1, w_setE0, w_setE1, w_setM0, w_setM1, reduceIte, Nat.reduceEqDiff]; exact ⟨by repeat' (first | exact trivial | refine ⟨.inr rfl, ?_⟩), by repeat' (first | exact trivial | refine ⟨rfl, ?_⟩), by first | rfl | simp [closedB, refsIn, refsInL, refsInO, dom, refsInL_nr, *], by first | rfl | simp [keepB, dom]⟩) ?_ ?_
  · exact ⟨Nat.zero_le _, by intro j hj; omega⟩
  intro i hi NX hN
  unfold l_laws_eqPlanFieldS_0; simp (config := { maxSteps := 2000000 }) only [bitvec_to_nat, reduceIte, Nat.reduceEqDiff, Nat.reduceAdd, Nat.reduceLeDiff, reduceCtorEq, Nat.reduceBEq, Nat.reduceLT, Nat.reduceMod, List.forall_mem_cons, t_eqFld, tk_map, dp_map, toNat_pred, appE, rowsOf, List.take_length, List.length_cons, List.length_nil, Nat.zero_add, srow, irow, un_s, un_i, Zone.row, Zone_eta, un_Zone, Word.row, Word_eta, Own.row, Own_eta, Part.row, Part_eta, Seen.row, Seen_eta, Book.row, Book_eta, Sector.row, Sector_eta, HCraft.row, HCraft_eta, World.row, World_eta, PKind.row, PKind_eta, PPt.row, PPt_eta, Cell.row, Cell_eta, PBase.row, PBase_eta, Fld.row, Fld_eta, Ent.row, Ent_eta, un_Word, un_Own, un_Part, un_Seen, un_Book, un_Sector, un_HCraft, un_World, un_PKind, un_PPt, un_Cell, un_PBase, un_Fld, un_Ent]
  skip
  repeat' (first | with_reducible apply And.intro | with_reducible intro _)
  all_goals first
    | omega
    | (refine hN (i + 1) _ (by simp only [u_E0, u_E1, u_M0, u_M1, w_setE0, w_setE1, w_setM0, w_setM1, reduceIte, Nat.reduceEqDiff]; exact ⟨by repeat' (first | exact trivial | refine ⟨.inr rfl, ?_⟩), by repeat' (first | exact trivial | refine ⟨rfl, ?_⟩), by first | rfl | simp [closedB, refsIn, refsInL, refsInO, dom, refsInL_nr, *], by first | rfl | simp [keepB, dom]⟩) ?_ ?_
       · exact ⟨by omega, all_snoc hi.2 (by with_reducible assumption)⟩
       · omega)
    | (intro h; subst h; exact absurd rfl (by with_reducible assumption))
    | (exact ext_of (by omega) fun j hj => hi.2 j (by omega))
    | grind
def t_eqFldS : List AV → Option (Prop × AV)
  | [.sl ct 3 cx, .sl dt 3 dx] => some ((((cx.map unFld).map Fld.row = cx) ∧ ((dx.map unFld).map Fld.row = dx)) ∧ ((cx.map unFld).length ≤ 4611686018427387904), .bool (decide ((cx.map unFld) = (dx.map unFld))))
  | _ => none
theorem h_eqFldS : ∀ args p v, t_eqFldS args = some (p, v) → p → Contract P 109 args [] v [] ∧ noref v = true ∧ No99 v := by
  intro args p v h1 h2
  unfold t_eqFldS at h1
  split at h1
  · rename_i ct cx dt dx
    cases h1
    obtain ⟨⟨e0, e1⟩, HP⟩ := h2
    have := c_eqFldS ct dt (cx.map unFld) (dx.map unFld) HP
    exact ⟨by simpa only [e0, e1] using this, rfl, trivial⟩
  · cases h1
theorem c_toEnt (s : Ent) (hs : s.small) : Contract P 92 [.agg (s.row 1)] [] (.agg (s.row 0)) [] := by
  unfold Ent.small at hs
  simp only [Ent.row]
  refine fn_sound ((Env.nil P).add 108 t_toFldS h_toFldS) hm k_laws_toPlanEntry (Nat.le_of_ble_eq_true rfl) rfl ?_; unfold s_laws_toPlanEntry; simp (config := { maxSteps := 2000000 }) only [bitvec_to_nat, reduceIte, Nat.reduceEqDiff, Nat.reduceAdd, Nat.reduceLeDiff, reduceCtorEq, Nat.reduceBEq, Nat.reduceLT, Nat.reduceMod, List.forall_mem_cons, t_toFldS, tk_map, dp_map, toNat_pred, appE, rowsOf, List.take_length, List.length_cons, List.length_nil, Nat.zero_add, srow, irow, un_s, un_i, Zone.row, Zone_eta, un_Zone, Word.row, Word_eta, Own.row, Own_eta, Part.row, Part_eta, Seen.row, Seen_eta, Book.row, Book_eta, Sector.row, Sector_eta, HCraft.row, HCraft_eta, World.row, World_eta, PKind.row, PKind_eta, PPt.row, PPt_eta, Cell.row, Cell_eta, PBase.row, PBase_eta, Fld.row, Fld_eta, Ent.row, Ent_eta, un_Word, un_Own, un_Part, un_Seen, un_Book, un_Sector, un_HCraft, un_World, un_PKind, un_PPt, un_Cell, un_PBase, un_Fld, un_Ent]
  repeat' (first | with_reducible apply And.intro | with_reducible intro _)
  all_goals first | omega | grind | grind [Word.small, Own.small, Part.small, Book.small, Sector.small, HCraft.small, World.small, PBase.small, Ent.small]
def t_toEnt : List AV → Option (Prop × AV)
  | [.agg [.str s_nm, .sl 1 3 s_fs]] => some ((((s_fs.map unFld).map Fld.row = s_fs)) ∧ (Ent.small (Ent.mk s_nm (s_fs.map unFld))), .agg (Ent.row 0 (Ent.mk s_nm (s_fs.map unFld))))
  | _ => none
theorem h_toEnt : ∀ args p v, t_toEnt args = some (p, v) → p → Contract P 92 args [] v [] ∧ noref v = true ∧ No99 v := by
  intro args p v h1 h2
  unfold t_toEnt at h1
  split at h1
  · rename_i s_nm s_fs
    cases h1
    obtain ⟨e0, HP⟩ := h2
    have := c_toEnt (Ent.mk s_nm (s_fs.map unFld)) HP
    exact ⟨by simpa only [e0, Ent.row] using this, rfl, by simp [Ent.row, No99, No99L, no99_box, no99_i, no99_str, no99_Zone, no99_Word, no99_Own, no99_Part, no99_Seen, no99_Book, no99_Sector, no99_HCraft, no99_World, no99_PKind, no99_PPt, no99_Cell, no99_PBase, no99_Fld, no99_Ent, -List.map_map]⟩
  · cases h1
theorem set_Ent {lst : List Ent} {idx : Nat} {vnm : ByteArray} {vfs : List Fld} : (lst.map (Ent.row 0)).set idx (setSeg ((lst.map (Ent.row 0)).getD idx []) 0 [.str vnm, .sl 0 3 (vfs.map Fld.row)]) = (lst.set idx (Ent.mk vnm vfs)).map (Ent.row 0) :=
  set_rows (α := Ent) (f := (Ent.row 0)) (fun s => (Ent.mk vnm vfs)) fun x => by simp [Ent.row, setSeg]
def to_Ent (a : List Ent) (i : Nat) : List Ent := a.take i ++ List.replicate (a.length - i) ⟨⟨#[]⟩, []⟩
theorem to_Ent_st {a : List Ent} {i : Nat} (h : i < a.length) : (to_Ent a i).set i (a.getD i default) = to_Ent a (i + 1) := by
  refine List.ext_getElem (by simp [to_Ent]; omega) fun j h1 h2 => ?_
  by_cases e : j = i
  · subst e
    simp [to_Ent, List.getElem_append, h]
    intro h9; omega
  · simp only [List.getElem_set_ne (Ne.symm e)]
    simp only [to_Ent, List.getElem_append, List.length_take, List.getElem_take, List.getElem_replicate]
    split <;> split <;> first | rfl | omega
theorem c_toEntS (t : Nat) (a : List Ent) (ha : a.length ≤ 1048576) (hs : ∀ x ∈ a, x.small) : Contract P 58 [.sl t 2 (a.map (Ent.row 1))] [] (.sl 0 2 (a.map (Ent.row 0))) [] := by
  refine fn_sound ((Env.nil P).add 92 t_toEnt h_toEnt) hm k_laws_toPlanEntryS (Nat.le_of_ble_eq_true rfl) rfl ?_; unfold s_laws_toPlanEntryS; simp (config := { maxSteps := 2000000 }) only [bitvec_to_nat, reduceIte, Nat.reduceEqDiff, Nat.reduceAdd, Nat.reduceLeDiff, reduceCtorEq, Nat.reduceBEq, Nat.reduceLT, Nat.reduceMod, List.forall_mem_cons, t_toEnt, tk_map, dp_map, toNat_pred, appE, rowsOf, List.take_length, List.length_cons, List.length_nil, Nat.zero_add, srow, irow, un_s, un_i, Zone.row, Zone_eta, un_Zone, Word.row, Word_eta, Own.row, Own_eta, Part.row, Part_eta, Seen.row, Seen_eta, Book.row, Book_eta, Sector.row, Sector_eta, HCraft.row, HCraft_eta, World.row, World_eta, PKind.row, PKind_eta, PPt.row, PPt_eta, Cell.row, Cell_eta, PBase.row, PBase_eta, Fld.row, Fld_eta, Ent.row, Ent_eta, un_Word, un_Own, un_Part, un_Seen, un_Book, un_Sector, un_HCraft, un_World, un_PKind, un_PPt, un_Cell, un_PBase, un_Fld, un_Ent, set_Ent, Nat.sub_zero]
  have m0 : List.replicate a.length [.str ⟨#[]⟩, .sl 0 3 []] = (to_Ent a 0).map (Ent.row 0) := by simp [to_Ent, Ent.row]
  refine ⟨by omega, ?_⟩
  refine loop_st (fun i : Nat => [(4, .int .i64 i)]) (fun i => [(107, .arr 93 0 2 ((to_Ent a i).map (Ent.row 0)))]) (fun i => i ≤ a.length) (fun i => a.length - i) 0 (by simp only [u_E0, u_E1, u_M0, u_M1, w_setE0, w_setE1, w_setM0, w_setM1, reduceIte, Nat.reduceEqDiff]; exact ⟨by repeat' (first | exact trivial | refine ⟨.inr rfl, ?_⟩), ⟨congrArg (fun g => some (AObj.arr 93 0 2 g)) m0, trivial⟩, rfl, rfl⟩) (Nat.zero_le _) ?_
  intro i hi NX hN
  have hs2 : i < a.length → (a.getD i default).small := fun h => hs _ (getD_mem' h)
  unfold l_laws_toPlanEntryS_0; simp (config := { maxSteps := 2000000 }) only [bitvec_to_nat, reduceIte, Nat.reduceEqDiff, Nat.reduceAdd, Nat.reduceLeDiff, reduceCtorEq, Nat.reduceBEq, Nat.reduceLT, Nat.reduceMod, List.forall_mem_cons, t_toEnt, tk_map, dp_map, toNat_pred, appE, rowsOf, List.take_length, List.length_cons, List.length_nil, Nat.zero_add, srow, irow, un_s, un_i, Zone.row, Zone_eta, un_Zone, Word.row, Word_eta, Own.row, Own_eta, Part.row, Part_eta, Seen.row, Seen_eta, Book.row, Book_eta, Sector.row, Sector_eta, HCraft.row, HCraft_eta, World.row, World_eta, PKind.row, PKind_eta, PPt.row, PPt_eta, Cell.row, Cell_eta, PBase.row, PBase_eta, Fld.row, Fld_eta, Ent.row, Ent_eta, un_Word, un_Own, un_Part, un_Seen, un_Book, un_Sector, un_HCraft, un_World, un_PKind, un_PPt, un_Cell, un_PBase, un_Fld, un_Ent, set_Ent, Nat.sub_zero]
  refine ⟨fun h => ?_, fun h => ?_⟩
  · repeat' (first | with_reducible apply And.intro | with_reducible intro _)
    all_goals first
      | omega
      | rfl
      | exact hs2 (by omega)
      | (have e := to_Ent_st (a := a) (i := i) (by omega)
         try simp only [Ent.row] at *
         refine hN (i + 1) _ ⟨by repeat' (first | exact trivial | refine ⟨.inr rfl, ?_⟩), ⟨congrArg (fun g => some (AObj.arr 93 0 2 (List.map (Ent.row 0) g))) e, trivial⟩, rfl, rfl⟩ ?_ ?_ <;> omega)
  · have e : i = a.length := by omega
    subst e
    simp only [to_Ent, List.take_length, Nat.sub_self, List.replicate_zero, List.append_nil]
    try rw [List.take_of_length_le (by simp)]
def t_toEntS : List AV → Option (Prop × AV)
  | [.sl st 2 sx] => some ((((sx.map unEnt).map (Ent.row 1) = sx)) ∧ ((sx.map unEnt).length ≤ 1048576 ∧ ∀ x ∈ (sx.map unEnt), x.small), .sl 0 2 ((sx.map unEnt).map (Ent.row 0)))
  | _ => none
theorem h_toEntS : ∀ args p v, t_toEntS args = some (p, v) → p → Contract P 58 args [] v [] ∧ noref v = true ∧ No99 v := by
  intro args p v h1 h2
  unfold t_toEntS at h1
  split at h1
  · rename_i st sx
    cases h1
    obtain ⟨e0, HP⟩ := h2
    have := c_toEntS st (sx.map unEnt) HP.1 HP.2
    exact ⟨by simpa only [e0] using this, rfl, by simp [No99, No99L, no99_box, no99_i, no99_str, no99_Zone, no99_Word, no99_Own, no99_Part, no99_Seen, no99_Book, no99_Sector, no99_HCraft, no99_World, no99_PKind, no99_PPt, no99_Cell, no99_PBase, no99_Fld, no99_Ent, -List.map_map]⟩
  · cases h1
theorem c_eqEnt (c d : Ent) (hl : c.fs.length ≤ 4611686018427387904) : Contract P 93 [.agg (c.row 0), .agg (d.row 0)] [] (.bool (decide (c = d))) [] := by
  obtain ⟨c_nm, c_fs⟩ := c
  obtain ⟨d_nm, d_fs⟩ := d
  simp only [Ent.row]
  refine fn_sound ((Env.nil P).add 109 t_eqFldS h_eqFldS) hm k_laws_eqPlanEntry (Nat.le_of_ble_eq_true rfl) rfl ?_; unfold s_laws_eqPlanEntry; simp (config := { maxSteps := 2000000 }) only [bitvec_to_nat, reduceIte, Nat.reduceEqDiff, Nat.reduceAdd, Nat.reduceLeDiff, reduceCtorEq, Nat.reduceBEq, Nat.reduceLT, Nat.reduceMod, List.forall_mem_cons, t_eqFldS, tk_map, dp_map, toNat_pred, appE, rowsOf, List.take_length, List.length_cons, List.length_nil, Nat.zero_add, srow, irow, un_s, un_i, Zone.row, Zone_eta, un_Zone, Word.row, Word_eta, Own.row, Own_eta, Part.row, Part_eta, Seen.row, Seen_eta, Book.row, Book_eta, Sector.row, Sector_eta, HCraft.row, HCraft_eta, World.row, World_eta, PKind.row, PKind_eta, PPt.row, PPt_eta, Cell.row, Cell_eta, PBase.row, PBase_eta, Fld.row, Fld_eta, Ent.row, Ent_eta, un_Word, un_Own, un_Part, un_Seen, un_Book, un_Sector, un_HCraft, un_World, un_PKind, un_PPt, un_Cell, un_PBase, un_Fld, un_Ent]
  simp only [Ent.mk.injEq]
  repeat' (first | with_reducible apply And.intro | with_reducible intro _)
  all_goals first | omega | (simp_all; done) | grind | grind [Word.small, Own.small, Part.small, Book.small, Sector.small, HCraft.small, World.small, PBase.small, Ent.small]
def t_eqEnt : List AV → Option (Prop × AV)
  | [.agg [.str c_nm, .sl 0 3 c_fs], .agg [.str d_nm, .sl 0 3 d_fs]] => some ((((c_fs.map unFld).map Fld.row = c_fs) ∧ ((d_fs.map unFld).map Fld.row = d_fs)) ∧ ((Ent.mk c_nm (c_fs.map unFld)).fs.length ≤ 4611686018427387904), .bool (decide ((Ent.mk c_nm (c_fs.map unFld)) = (Ent.mk d_nm (d_fs.map unFld)))))
  | _ => none
theorem h_eqEnt : ∀ args p v, t_eqEnt args = some (p, v) → p → Contract P 93 args [] v [] ∧ noref v = true ∧ No99 v := by
  intro args p v h1 h2
  unfold t_eqEnt at h1
  split at h1
  · rename_i c_nm c_fs d_nm d_fs
    cases h1
    obtain ⟨⟨e0, e1⟩, HP⟩ := h2
    have := c_eqEnt (Ent.mk c_nm (c_fs.map unFld)) (Ent.mk d_nm (d_fs.map unFld)) HP
    exact ⟨by simpa only [e0, e1, Ent.row, Ent.row] using this, rfl, trivial⟩
  · cases h1
theorem c_eqEntS (t t' : Nat) (p q : List Ent) (hp : p.length ≤ 4611686018427387904) (hx : ∀ x ∈ p, x.fs.length ≤ 4611686018427387904) : Contract P 59 [.sl t 2 (p.map (Ent.row 0)), .sl t' 2 (q.map (Ent.row 0))] [] (.bool (decide (p = q))) [] := by
  refine fn_sound ((Env.nil P).add 93 t_eqEnt h_eqEnt) hm k_laws_eqPlanEntryS (Nat.le_of_ble_eq_true rfl) rfl ?_; unfold s_laws_eqPlanEntryS; simp (config := { maxSteps := 2000000 }) only [bitvec_to_nat, reduceIte, Nat.reduceEqDiff, Nat.reduceAdd, Nat.reduceLeDiff, reduceCtorEq, Nat.reduceBEq, Nat.reduceLT, Nat.reduceMod, List.forall_mem_cons, t_eqEnt, tk_map, dp_map, toNat_pred, appE, rowsOf, List.take_length, List.length_cons, List.length_nil, Nat.zero_add, srow, irow, un_s, un_i, Zone.row, Zone_eta, un_Zone, Word.row, Word_eta, Own.row, Own_eta, Part.row, Part_eta, Seen.row, Seen_eta, Book.row, Book_eta, Sector.row, Sector_eta, HCraft.row, HCraft_eta, World.row, World_eta, PKind.row, PKind_eta, PPt.row, PPt_eta, Cell.row, Cell_eta, PBase.row, PBase_eta, Fld.row, Fld_eta, Ent.row, Ent_eta, un_Word, un_Own, un_Part, un_Seen, un_Book, un_Sector, un_HCraft, un_World, un_PKind, un_PPt, un_Cell, un_PBase, un_Fld, un_Ent]
  refine ⟨fun h1 h => h1 (by rw [h]), fun h1 => ?_⟩
  refine loop_st (fun i : Nat => [(5, .int .i64 i)]) (fun _ => []) (fun i => i ≤ p.length ∧ ∀ j, j < i → p.getD j default = q.getD j default) (fun i => p.length - i) (0) (by simp only [u_E0, u_E1, u_M0, u_M1, w_setE0, w_setE1, w_setM0, w_setM1, reduceIte, Nat.reduceEqDiff]; exact ⟨by repeat' (first | exact trivial | refine ⟨.inr rfl, ?_⟩), by repeat' (first | exact trivial | refine ⟨rfl, ?_⟩), by first | rfl | simp [closedB, refsIn, refsInL, refsInO, dom, refsInL_nr, *], by first | rfl | simp [keepB, dom]⟩) ?_ ?_
  · exact ⟨Nat.zero_le _, by intro j hj; omega⟩
  intro i hi NX hN
  unfold l_laws_eqPlanEntryS_0; simp (config := { maxSteps := 2000000 }) only [bitvec_to_nat, reduceIte, Nat.reduceEqDiff, Nat.reduceAdd, Nat.reduceLeDiff, reduceCtorEq, Nat.reduceBEq, Nat.reduceLT, Nat.reduceMod, List.forall_mem_cons, t_eqEnt, tk_map, dp_map, toNat_pred, appE, rowsOf, List.take_length, List.length_cons, List.length_nil, Nat.zero_add, srow, irow, un_s, un_i, Zone.row, Zone_eta, un_Zone, Word.row, Word_eta, Own.row, Own_eta, Part.row, Part_eta, Seen.row, Seen_eta, Book.row, Book_eta, Sector.row, Sector_eta, HCraft.row, HCraft_eta, World.row, World_eta, PKind.row, PKind_eta, PPt.row, PPt_eta, Cell.row, Cell_eta, PBase.row, PBase_eta, Fld.row, Fld_eta, Ent.row, Ent_eta, un_Word, un_Own, un_Part, un_Seen, un_Book, un_Sector, un_HCraft, un_World, un_PKind, un_PPt, un_Cell, un_PBase, un_Fld, un_Ent]
  have hx2 : i < p.length → _ := fun h => hx _ (getD_mem' h)
  repeat' (first | with_reducible apply And.intro | with_reducible intro _)
  all_goals first
    | omega
    | (refine hN (i + 1) _ (by simp only [u_E0, u_E1, u_M0, u_M1, w_setE0, w_setE1, w_setM0, w_setM1, reduceIte, Nat.reduceEqDiff]; exact ⟨by repeat' (first | exact trivial | refine ⟨.inr rfl, ?_⟩), by repeat' (first | exact trivial | refine ⟨rfl, ?_⟩), by first | rfl | simp [closedB, refsIn, refsInL, refsInO, dom, refsInL_nr, *], by first | rfl | simp [keepB, dom]⟩) ?_ ?_
       · exact ⟨by omega, all_snoc hi.2 (by with_reducible assumption)⟩
       · omega)
    | (intro h; subst h; exact absurd rfl (by with_reducible assumption))
    | (exact ext_of (by omega) fun j hj => hi.2 j (by omega))
    | grind
def t_eqEntS : List AV → Option (Prop × AV)
  | [.sl ct 2 cx, .sl dt 2 dx] => some ((((cx.map unEnt).map (Ent.row 0) = cx) ∧ ((dx.map unEnt).map (Ent.row 0) = dx)) ∧ ((cx.map unEnt).length ≤ 4611686018427387904 ∧ ∀ x ∈ (cx.map unEnt), x.fs.length ≤ 4611686018427387904), .bool (decide ((cx.map unEnt) = (dx.map unEnt))))
  | _ => none
theorem h_eqEntS : ∀ args p v, t_eqEntS args = some (p, v) → p → Contract P 59 args [] v [] ∧ noref v = true ∧ No99 v := by
  intro args p v h1 h2
  unfold t_eqEntS at h1
  split at h1
  · rename_i ct cx dt dx
    cases h1
    obtain ⟨⟨e0, e1⟩, HP⟩ := h2
    have := c_eqEntS ct dt (cx.map unEnt) (dx.map unEnt) HP.1 HP.2
    exact ⟨by simpa only [e0, e1] using this, rfl, trivial⟩
  · cases h1
def sh_Fld : List LSh := [.int .i64, .int .i64, .str]
theorem fit_Fld (r : List AV) (h : fitsL sh_Fld r) : ∃ x : Fld, r = Fld.row x ∧ x.fitp := by
  simp only [sh_Fld, fitsL, fits] at h
  obtain ⟨_, _, rfl, ⟨w, rfl, _⟩, _, _, rfl, ⟨nr, rfl, _⟩, _, _, rfl, ⟨v, rfl, h_v⟩, rfl⟩ := h

  exact ⟨⟨w, nr, v⟩, rfl, (by have e := toList_size v; unfold maxLen at h_v; show v.toList.length ≤ _; omega)⟩
def sh_Ent : List LSh := [.str, .sl sh_Fld]
theorem fit_Ent (r : List AV) (h : fitsL sh_Ent r) : ∃ x : Ent, r = (Ent.row 1) x ∧ x.fitp := by
  simp only [sh_Ent, fitsL, fits] at h
  obtain ⟨_, _, rfl, ⟨nm, rfl, h_nm⟩, _, _, rfl, ⟨fs, rfl, h_fs, r_fs⟩, rfl⟩ := h
  obtain ⟨fs, rfl, p_fs⟩ := fit_rows2 fit_Fld r_fs
  rw [List.length_map] at h_fs
  exact ⟨⟨nm, fs⟩, rfl, ⟨(by have e := toList_size nm; unfold maxLen at h_nm; show nm.toList.length ≤ _; omega), ⟨(by unfold maxLen at h_fs; omega), p_fs⟩⟩⟩
def PBook.fitp (s : PBook) : Prop := (s.ks.length ≤ 9223372036854775807 ∧ ∀ y ∈ s.ks, y.fitp) ∧ (s.ps.length ≤ 9223372036854775807 ∧ ∀ y ∈ s.ps, y.fitp) ∧ (s.es.length ≤ 9223372036854775807 ∧ ∀ y ∈ s.es, y.fitp)
def PBook.small (s : PBook) : Prop := s.ks.length ≤ 1048576 ∧ s.ps.length ≤ 1048576 ∧ (s.es.length ≤ 1048576 ∧ ∀ y ∈ s.es, y.small)
def PBook.sz (s : PBook) (z0 : Int) : Int := chk (szS PKind.sz s.ks z0) (fun z1 => chk (szS PPt.sz s.ps z1) (fun z2 => chk (szS Ent.sz s.es z2) (fun z3 => z3)))
theorem meas_PBook : Meas PBook.sz := fun s => chk_g (fun a => meas_szS meas_PKind s.ks a) (Meas1.p (chk_g (fun a => meas_szS meas_PPt s.ps a) (Meas1.p (chk_g (fun a => meas_szS meas_Ent s.es a) (measP_id)))))
theorem PBook.sz_ok {s : PBook} {a : Int} (ha : a ≤ 1048576) (h : 0 ≤ s.sz a) : s.small := by
  unfold PBook.sz at h
  have b0 : a ≤ 1048576 := ha
  obtain ⟨p0, h⟩ := chk_ok h
  have b1 : szS PKind.sz s.ks (a) ≤ 1048576 := by have := (meas_szS meas_PKind s.ks (a) b0).2.2; omega
  have k0 := szS_ok (p := fun _ => True) meas_PKind (fun _ _ _ _ => trivial) b0 p0
  obtain ⟨p1, h⟩ := chk_ok h
  have b2 : szS PPt.sz s.ps (szS PKind.sz s.ks (a)) ≤ 1048576 := by have := (meas_szS meas_PPt s.ps (szS PKind.sz s.ks (a)) b1).2.2; omega
  have k1 := szS_ok (p := fun _ => True) meas_PPt (fun _ _ _ _ => trivial) b1 p1
  obtain ⟨p2, h⟩ := chk_ok h
  have b3 : szS Ent.sz s.es (szS PPt.sz s.ps (szS PKind.sz s.ks (a))) ≤ 1048576 := by have := (meas_szS meas_Ent s.es (szS PPt.sz s.ps (szS PKind.sz s.ks (a))) b2).2.2; omega
  have k2 := szS_ok (p := fun y => Ent.small y) meas_Ent (fun x a h1 h2 => Ent.sz_ok h1 h2) b2 p2
  exact ⟨k0.1, k1.1, k2⟩
def sh_PBook : List LSh := [.sl sh_PKind, .sl sh_PPt, .sl sh_Ent]
theorem fit_PBook (r : List AV) (h : fitsL sh_PBook r) : ∃ x : PBook, r = (PBook.row 1) x ∧ x.fitp := by
  simp only [sh_PBook, fitsL, fits] at h
  obtain ⟨_, _, rfl, ⟨ks, rfl, h_ks, r_ks⟩, _, _, rfl, ⟨ps, rfl, h_ps, r_ps⟩, _, _, rfl, ⟨es, rfl, h_es, r_es⟩, rfl⟩ := h
  obtain ⟨ks, rfl, p_ks⟩ := fit_rows2 fit_PKind r_ks
  rw [List.length_map] at h_ks
  obtain ⟨ps, rfl, p_ps⟩ := fit_rows2 fit_PPt r_ps
  rw [List.length_map] at h_ps
  obtain ⟨es, rfl, p_es⟩ := fit_rows2 fit_Ent r_es
  rw [List.length_map] at h_es
  exact ⟨⟨ks, ps, es⟩, rfl, ⟨⟨(by unfold maxLen at h_ks; omega), p_ks⟩, ⟨(by unfold maxLen at h_ps; omega), p_ps⟩, ⟨(by unfold maxLen at h_es; omega), p_es⟩⟩⟩
theorem Fld.sz_v {c : Fld} {a : Int} (ha : a ≤ 1048576) (h : 0 ≤ c.sz a) : c.v.toList.length ≤ 1048576 := by
  unfold Fld.sz at h
  obtain ⟨h1, h⟩ := chk_ok h
  omega
theorem Ent.sz_fine {e : Ent} {a : Int} (ha : a ≤ 1048576) (h : 0 ≤ e.sz a) : e.fine := by
  unfold Ent.sz at h
  obtain ⟨p0, h⟩ := chk_ok h
  obtain ⟨p1, h⟩ := chk_ok h
  exact szS_ok (p := fun f : Fld => f.v.toList.length ≤ 1048576) meas_Fld (fun x a h1 h2 => Fld.sz_v h1 h2) (a := a - (e.nm.toList.length : Nat)) (by omega) p1
theorem PBook.sz_fine {b : PBook} {a : Int} (ha : a ≤ 1048576) (h : 0 ≤ b.sz a) : b.fine := by
  have hs := PBook.sz_ok ha h
  unfold PBook.sz at h
  obtain ⟨p0, h⟩ := chk_ok h
  obtain ⟨p1, h⟩ := chk_ok h
  obtain ⟨p2, h⟩ := chk_ok h
  have b1 : szS PKind.sz b.ks a ≤ 1048576 := by have := (meas_szS meas_PKind b.ks a ha).2.2; omega
  have b2 : szS PPt.sz b.ps (szS PKind.sz b.ks a) ≤ 1048576 := by have := (meas_szS meas_PPt b.ps _ b1).2.2; omega
  exact ⟨⟨hs.1, hs.2.1⟩, szS_ok (p := fun e : Ent => e.fine) meas_Ent (fun x a h1 h2 => Ent.sz_fine h1 h2) b2 p2⟩
def PBook.base (b : PBook) : PBase := ⟨b.ks, b.ps⟩
theorem PBook.sz_base (b : PBook) (a : Int) : b.sz a = chk (PBase.sz b.base a) fun z => chk (szS Ent.sz b.es z) fun z => z := by
  unfold PBook.sz PBase.sz PBook.base chk
  simp only
  repeat' split
  all_goals first | rfl | omega | simp_all
theorem c_szPBook (s : PBook) (a : Int) (ha : 0 ≤ a ∧ a ≤ 1048576) (hs : s.fitp) : Contract P 18 [.agg (s.row 1), .int .i64 a] [] (.int .i64 (s.sz a)) [] := by
  have hb : s.base.fitp := ⟨hs.1, hs.2.1⟩
  have hmb := (meas_PBase s.base a (by omega)).2.2
  have hb2 : 0 ≤ PBase.sz s.base a → PBase.sz s.base a ≤ 1048576 := fun h => by omega
  rw [PBook.sz_base]
  unfold chk
  unfold PBook.fitp at hs
  unfold PBook.base at *
  simp only [PBook.row]
  refine fn_sound (((Env.nil P).add 9 t_szPBase h_szPBase).add 56 t_szEntS h_szEntS) hm k_laws_szPlanBook (Nat.le_of_ble_eq_true rfl) rfl ?_; unfold s_laws_szPlanBook; simp (config := { maxSteps := 2000000 }) only [bitvec_to_nat, reduceIte, Nat.reduceEqDiff, Nat.reduceAdd, Nat.reduceLeDiff, reduceCtorEq, Nat.reduceBEq, Nat.reduceLT, Nat.reduceMod, List.forall_mem_cons, t_szPBase, t_szEntS, tk_map, dp_map, toNat_pred, appE, rowsOf, List.take_length, List.length_cons, List.length_nil, Nat.zero_add, srow, irow, un_s, un_i, Zone.row, Zone_eta, un_Zone, Word.row, Word_eta, Own.row, Own_eta, Part.row, Part_eta, Seen.row, Seen_eta, Book.row, Book_eta, Sector.row, Sector_eta, HCraft.row, HCraft_eta, World.row, World_eta, PKind.row, PKind_eta, PPt.row, PPt_eta, Cell.row, Cell_eta, PBase.row, PBase_eta, Fld.row, Fld_eta, Ent.row, Ent_eta, PBook.row, PBook_eta, un_Word, un_Own, un_Part, un_Seen, un_Book, un_Sector, un_HCraft, un_World, un_PKind, un_PPt, un_Cell, un_PBase, un_Fld, un_Ent, un_PBook, Nat.sub_zero, List.nil_append, Int.toNat_one, un_PKind, un_PPt, PBase.row, PBase_eta, PBook.row, PBook_eta]
  generalize PBase.sz ⟨s.ks, s.ps⟩ a = n1 at *
  generalize szS Ent.sz s.es n1 = n2 at *
  repeat' (first | with_reducible apply And.intro | with_reducible intro _)
  all_goals first
    | omega
    | exact hb
    | exact hs.2.2
    | exact hs.2.2.1
    | exact hs.2.2.2
    | exact hs.2.2.2 _ (by assumption)
    | (rw [if_pos (by assumption)])
    | (rw [if_neg (by assumption), if_pos (by assumption)])
    | (rw [if_neg (by assumption), if_neg (by assumption)])
    | trace_state
def t_szPBook : List AV → Option (Prop × AV)
  | [.agg [.sl 1 3 s_ks, .sl 1 3 s_ps, .sl 1 2 s_es], .int .i64 b] => some ((((s_ks.map unPKind).map PKind.row = s_ks) ∧ ((s_ps.map unPPt).map PPt.row = s_ps) ∧ ((s_es.map unEnt).map (Ent.row 1) = s_es)) ∧ ((0 ≤ b ∧ b ≤ 1048576) ∧ (PBook.mk (s_ks.map unPKind) (s_ps.map unPPt) (s_es.map unEnt)).fitp), .int .i64 (PBook.sz (PBook.mk (s_ks.map unPKind) (s_ps.map unPPt) (s_es.map unEnt)) b))
  | _ => none
theorem h_szPBook : ∀ args p v, t_szPBook args = some (p, v) → p → Contract P 18 args [] v [] ∧ noref v = true ∧ No99 v := by
  intro args p v h1 h2
  unfold t_szPBook at h1
  split at h1
  · rename_i s_ks s_ps s_es b
    cases h1
    obtain ⟨⟨e0, e1, e2⟩, HP⟩ := h2
    have := c_szPBook (PBook.mk (s_ks.map unPKind) (s_ps.map unPPt) (s_es.map unEnt)) b HP.1 HP.2
    exact ⟨by simpa only [e0, e1, e2, PBook.row] using this, rfl, trivial⟩
  · cases h1
theorem c_toPBook (s : PBook) (hs : s.small) : Contract P 20 [.agg (s.row 1)] [] (.agg (s.row 0)) [] := by
  unfold PBook.small at hs
  have hb : PBase.small ⟨s.ks, s.ps⟩ := ⟨hs.1, hs.2.1⟩
  simp only [PBook.row]
  refine fn_sound (((Env.nil P).add 11 t_toPBase h_toPBase).add 58 t_toEntS h_toEntS) hm k_laws_toPlanBook (Nat.le_of_ble_eq_true rfl) rfl ?_; unfold s_laws_toPlanBook; simp (config := { maxSteps := 2000000 }) only [bitvec_to_nat, reduceIte, Nat.reduceEqDiff, Nat.reduceAdd, Nat.reduceLeDiff, reduceCtorEq, Nat.reduceBEq, Nat.reduceLT, Nat.reduceMod, List.forall_mem_cons, t_toPBase, t_toEntS, tk_map, dp_map, toNat_pred, appE, rowsOf, List.take_length, List.length_cons, List.length_nil, Nat.zero_add, srow, irow, un_s, un_i, Zone.row, Zone_eta, un_Zone, Word.row, Word_eta, Own.row, Own_eta, Part.row, Part_eta, Seen.row, Seen_eta, Book.row, Book_eta, Sector.row, Sector_eta, HCraft.row, HCraft_eta, World.row, World_eta, PKind.row, PKind_eta, PPt.row, PPt_eta, Cell.row, Cell_eta, PBase.row, PBase_eta, Fld.row, Fld_eta, Ent.row, Ent_eta, PBook.row, PBook_eta, un_Word, un_Own, un_Part, un_Seen, un_Book, un_Sector, un_HCraft, un_World, un_PKind, un_PPt, un_Cell, un_PBase, un_Fld, un_Ent, un_PBook, Nat.sub_zero, List.nil_append, Int.toNat_one, un_PKind, un_PPt, PBase.row, PBase_eta, PBook.row, PBook_eta]
  repeat' (first | with_reducible apply And.intro | with_reducible intro _)
  all_goals first
    | omega
    | rfl
    | exact hb
    | exact hs.2.2
    | exact hs.2.2.1
    | exact hs.2.2.2
    | exact hs.2.2.2 _ (by assumption)
    | trace_state
theorem c_eqPBook (c d : PBook) (hl : c.ks.length ≤ 4611686018427387904 ∧ c.ps.length ≤ 4611686018427387904 ∧ c.es.length ≤ 4611686018427387904 ∧ ∀ x ∈ c.es, x.fs.length ≤ 4611686018427387904) : Contract P 22 [.agg (c.row 0), .agg (d.row 0)] [] (.bool (decide (c = d))) [] := by
  obtain ⟨c1, c2, c3⟩ := c
  obtain ⟨d1, d2, d3⟩ := d
  simp only [PBook.row, PBook.mk.injEq] at *
  refine fn_sound (((Env.nil P).add 13 t_eqPBase h_eqPBase).add 59 t_eqEntS h_eqEntS) hm k_laws_eqPlanBook (Nat.le_of_ble_eq_true rfl) rfl ?_; unfold s_laws_eqPlanBook; simp (config := { maxSteps := 2000000 }) only [bitvec_to_nat, reduceIte, Nat.reduceEqDiff, Nat.reduceAdd, Nat.reduceLeDiff, reduceCtorEq, Nat.reduceBEq, Nat.reduceLT, Nat.reduceMod, List.forall_mem_cons, t_eqPBase, t_eqEntS, tk_map, dp_map, toNat_pred, appE, rowsOf, List.take_length, List.length_cons, List.length_nil, Nat.zero_add, srow, irow, un_s, un_i, Zone.row, Zone_eta, un_Zone, Word.row, Word_eta, Own.row, Own_eta, Part.row, Part_eta, Seen.row, Seen_eta, Book.row, Book_eta, Sector.row, Sector_eta, HCraft.row, HCraft_eta, World.row, World_eta, PKind.row, PKind_eta, PPt.row, PPt_eta, Cell.row, Cell_eta, PBase.row, PBase_eta, Fld.row, Fld_eta, Ent.row, Ent_eta, PBook.row, PBook_eta, un_Word, un_Own, un_Part, un_Seen, un_Book, un_Sector, un_HCraft, un_World, un_PKind, un_PPt, un_Cell, un_PBase, un_Fld, un_Ent, un_PBook, Nat.sub_zero, List.nil_append, Int.toNat_one, un_PKind, un_PPt, PBase.row, PBase_eta, PBook.row, PBook_eta]
  repeat' (first | with_reducible apply And.intro | with_reducible intro _)
  all_goals first
    | omega
    | exact hl.2.2.2
    | exact hl.2.2.2 _ (by assumption)
    | grind
    | (rw [decide_eq_decide]; grind)
    | trace_state
def t_sBookOk : List AV → Option (Prop × AV)
  | [.agg [.sl 0 3 c_ks, .sl 0 3 c_ps, .sl 0 2 c_es]] => some ((((c_ks.map unPKind).map PKind.row = c_ks) ∧ ((c_ps.map unPPt).map PPt.row = c_ps) ∧ ((c_es.map unEnt).map (Ent.row 0) = c_es)) ∧ (PBook.fine (PBook.mk (c_ks.map unPKind) (c_ps.map unPPt) (c_es.map unEnt))), .bool (decide (PBook.ok (PBook.mk (c_ks.map unPKind) (c_ps.map unPPt) (c_es.map unEnt)))))
  | _ => none
theorem h_sBookOk : ∀ args p v, t_sBookOk args = some (p, v) → p → Contract P 19 args [] v [] ∧ noref v = true ∧ No99 v := by
  intro args p v h1 h2
  unfold t_sBookOk at h1
  split at h1
  · rename_i c_ks c_ps c_es
    cases h1
    obtain ⟨⟨e0, e1, e2⟩, HP⟩ := h2
    have := c_sBookOk (PBook.mk (c_ks.map unPKind) (c_ps.map unPPt) (c_es.map unEnt)) HP
    exact ⟨by simpa only [e0, e1, e2, PBook.row] using this, rfl, trivial⟩
  · cases h1
def t_iBookOk : List AV → Option (Prop × AV)
  | [.agg [.sl 0 3 c_ks, .sl 0 3 c_ps, .sl 0 2 c_es]] => some ((((c_ks.map unPKind).map PKind.row = c_ks) ∧ ((c_ps.map unPPt).map PPt.row = c_ps) ∧ ((c_es.map unEnt).map (Ent.row 0) = c_es)) ∧ (PBook.fine (PBook.mk (c_ks.map unPKind) (c_ps.map unPPt) (c_es.map unEnt)) ∧ PBook.names (PBook.mk (c_ks.map unPKind) (c_ps.map unPPt) (c_es.map unEnt))), .bool (decide (PBook.ok (PBook.mk (c_ks.map unPKind) (c_ps.map unPPt) (c_es.map unEnt)))))
  | _ => none
theorem h_iBookOk : ∀ args p v, t_iBookOk args = some (p, v) → p → Contract P 21 args [] v [] ∧ noref v = true ∧ No99 v := by
  intro args p v h1 h2
  unfold t_iBookOk at h1
  split at h1
  · rename_i c_ks c_ps c_es
    cases h1
    obtain ⟨⟨e0, e1, e2⟩, HP⟩ := h2
    have := c_iBookOk (PBook.mk (c_ks.map unPKind) (c_ps.map unPPt) (c_es.map unEnt)) HP.1 HP.2
    exact ⟨by simpa only [e0, e1, e2, PBook.row] using this, rfl, trivial⟩
  · cases h1
end
end Go.Ve

namespace Go.Ve
open Go.Proofs
set_option maxRecDepth 100000
def lO_laws_toPlanEntryS_0 : SCode := (.seq (.seq (.rg [⟨some 8, .mv (.v 4), none, []⟩, ⟨some 9, .mv (.v 0), none, []⟩, ⟨some 10, .lenL (.v 9), none, [9]⟩, ⟨some 11, .bin .lss (.v 8) (.v 10), none, [8, 10]⟩] [0, 3, 4, 11]) (.cond (.v 11) .skip (.exit 0))) (.seq (.block 1 (.rg [⟨some 14, .mv (.v 3), none, []⟩, ⟨some 15, .mv (.v 4), none, []⟩, ⟨some 16, .mv (.v 0), none, []⟩, ⟨some 17, .mv (.v 4), none, []⟩, ⟨some 18, .iaddr 2 (.v 16) (.v 17), none, [16, 17]⟩, ⟨some 19, .loadN 2 (.v 18), none, [18]⟩, ⟨some 20, .call 92 [.v 19], none, [19]⟩, ⟨some 21, .iaddr 2 (.v 14) (.v 15), none, [14, 15]⟩, ⟨none, .store 2 (.v 21) (.v 20), none, [20, 21]⟩] [0, 3, 4])) (.rg [⟨some 12, .mv (.v 4), none, [4]⟩, ⟨some 13, .binN .add (.v 12) (.c (.int .i64 1)), none, [12]⟩, ⟨some 4, .mv (.v 13), none, [13]⟩] [0, 3, 4])))
/-- laws.toPlanEntryS: function 58 -/
def sO_laws_toPlanEntryS : SFun := { n := 23, res := [.t 2], body := (.seq (.rg [⟨some 2, .mv (.c (.sl 0 2 [])), none, [2]⟩] [0]) (.seq (.rg [⟨some 5, .mv (.v 0), none, []⟩, ⟨some 6, .lenL (.v 5), none, [5]⟩, ⟨some 7, .mk 107 1000093 2 [.str ⟨#[]⟩, .sl 0 3 []] (.v 6), none, [6]⟩, ⟨some 3, .mv (.v 7), none, [7]⟩] [0, 3]) (.seq (.seq (.rg [⟨some 4, .mv (.c (.int .i64 0)), none, []⟩] [0, 3, 4]) (.block 0 (.loop lO_laws_toPlanEntryS_0))) (.seq (.rg [⟨some 22, .mv (.v 3), none, [3]⟩, ⟨some 2, .mv (.v 22), none, [22]⟩] [2]) .ret)))) }
theorem kO_laws_toPlanEntryS : okFun Go.Proofs.Tryz.prog 58 sO_laws_toPlanEntryS = true := by kernel_rfl
end Go.Ve

