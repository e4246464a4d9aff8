/- Part 3 of the proof: laws and contracts of functions, each proved; they are joined in the last part. No conditions beyond those that the theorems state. -/
import Derived.Test.YtnggoadnhnbmkaaProg
import Derived.Test.YtnggoadnhnbmkaaLm2
set_option linter.all false
namespace Go.Ve
open Go.Proofs
set_option linter.unusedSimpArgs false
set_option linter.unusedVariables false
set_option maxRecDepth 100000
theorem ext_of {α : Type} [Inhabited α] {a b : List α} (hl : a.length = b.length) (h : ∀ j, j < a.length → a.getD j default = b.getD j default) : a = b := by
  refine List.ext_getElem hl fun j h1 h2 => ?_
  have := h j h1
  simpa [h1, h2] using this
def F_eqIntS (t t' : Nat) (a b : List Int) (i : Nat) : St := ⟨[(0, .sl t 1 (a.map irow)), (1, .sl t' 1 (b.map irow)), (5, .int .i64 i)], []⟩
theorem c_eqIntS (t t' : Nat) (a b : List Int) (ha : a.length ≤ 4611686018427387904) : Contract P 74 [.sl t 1 (a.map irow), .sl t' 1 (b.map irow)] [] (.bool (decide (a = b))) [] := by
  refine fn_sound (Env.nil P) hm k_laws_eqIntS (Nat.le_of_ble_eq_true rfl) rfl ?_
  unfold s_laws_eqIntS
  simp only [w_skip, w_rg, w_rgd, w_seq, w_cond, w_block, w_loop, w_exit, w_ret, w_gh, w_rg0, w_rg1, w_rgT, w_rgF, w_run, w_psd, w_und, w_dr0, w_dr1, w_drT, w_drF, w_drRun, w_drPsd, w_drUnd, w_drKn, w_drKs, w_putK, w_trimK, w_thenN, w_thenE, w_thenR, w_blkN, w_blkE, w_blkR, w_call, w_effK, brU_true, brU_false, brU_u, brU_not, brU_and, brU_or, brU_dec, brU_eq, brU_ne, br_true, br_false, br_not, br_and, br_or, br_dec, br_eq, br_ne, w_getE0, w_getE1, w_setE0, w_setE1, w_dropE0, w_dropE1, w_drop0, w_drop1, w_getM0, w_getM1, w_setM0, w_setM1, ev_v, ev_c, w_putS, w_putN, w_lit, w_apU0, w_apU1, w_trim, enumE0, enumE1, w_callWp, w_callL, w_callT, w_T1, w_T0, o_mv, o_newnil, o_pick, o_bin, o_binN, o_neg, o_not, o_eqB, o_eqS, o_conv, o_alloc, o_box, o_load1, o_loadN, o_store, o_nilck, o_faddr, o_field1, o_fieldN, o_iaddr, o_istr, o_slStr, o_slSl, o_lenS, o_lenL, o_mx, o_mn, o_ext, o_build, o_lit, o_litOwn, o_app, o_mk, o_mvfrz, l_int, l_bool, l_str, l_agg, l_sl, l_own, l_ptr, l_pp, i_int, i_bool, i_str, i_sl, i_own, i_ptr, i_pp, all0, all1, e_ok1, eff, effBin, effBinN, ld_ptr, ld_pp, ld_elt, ia_own, ia_arr, el_1, el_N, load1K, faddrE, r_iaddr, sg_S, sg_c, sg_n, purL, pur, List.map, List.drop, List.take, List.length, List.foldl, List.append_eq, List.nil_append, List.cons_append, List.getD_cons_zero, List.getD_cons_succ, reduceIte, Nat.reduceEqDiff, Nat.reduceAdd, Nat.reduceLeDiff, true_and, and_true, Bool.not_true, Bool.not_false, Bool.and_true, Bool.true_and, Bool.and_self, reduceCtorEq, true_implies, false_implies, implies_true, decide_eq_true_eq, Option.map_some, fpOf, fpX, SOp.xs, oX, refs, refsL, dom, disj, List.all_nil, List.all_cons, List.contains_cons, List.contains_nil, Nat.reduceBEq, Bool.or_false, Bool.false_or, List.append_nil, Bool.not_false, Bool.not_true, List.forall_mem_cons, fm0, List.set, Nat.reduceLT, ne_eq, not_false_eq_true, not_true_eq_false, ret1, ret1N, keep0, keep1, rf_int, rf_bool, rf_str, rf_sl, rf_agg, rf_tup, rfL0, rfL1, re_t, re_cN, re_L0, re_L1, ret_tup, ret_one, decide_true, AV.bool.injEq, AV.int.injEq, Nat.reduceLeDiff, Bool.true_eq, Bool.false_eq, decide_eq_true_eq, decide_eq_false_iff_not, List.length_map, irow, Int.toNat_natCast, Int.natCast_inj]
  refine ⟨fun h1 h => h1 (by rw [h]), fun h1 => ?_⟩
  refine loop_of (F_eqIntS t t' a b) (fun i => i ≤ a.length ∧ ∀ j, j < i → a.getD j default = b.getD j default) (fun i => a.length - i) 0 ⟨⟨.inr rfl, .inr rfl, .inr rfl, trivial⟩, trivial, rfl, rfl⟩ ⟨Nat.zero_le _, fun j hj => by omega⟩ ?_
  intro i hi
  unfold l_laws_eqIntS_0 F_eqIntS
  simp only [w_skip, w_rg, w_rgd, w_seq, w_cond, w_block, w_loop, w_exit, w_ret, w_gh, w_rg0, w_rg1, w_rgT, w_rgF, w_run, w_psd, w_und, w_dr0, w_dr1, w_drT, w_drF, w_drRun, w_drPsd, w_drUnd, w_drKn, w_drKs, w_putK, w_trimK, w_thenN, w_thenE, w_thenR, w_blkN, w_blkE, w_blkR, w_call, w_effK, brU_true, brU_false, brU_u, brU_not, brU_and, brU_or, brU_dec, brU_eq, brU_ne, br_true, br_false, br_not, br_and, br_or, br_dec, br_eq, br_ne, w_getE0, w_getE1, w_setE0, w_setE1, w_dropE0, w_dropE1, w_drop0, w_drop1, w_getM0, w_getM1, w_setM0, w_setM1, ev_v, ev_c, w_putS, w_putN, w_lit, w_apU0, w_apU1, w_trim, enumE0, enumE1, w_callWp, w_callL, w_callT, w_T1, w_T0, o_mv, o_newnil, o_pick, o_bin, o_binN, o_neg, o_not, o_eqB, o_eqS, o_conv, o_alloc, o_box, o_load1, o_loadN, o_store, o_nilck, o_faddr, o_field1, o_fieldN, o_iaddr, o_istr, o_slStr, o_slSl, o_lenS, o_lenL, o_mx, o_mn, o_ext, o_build, o_lit, o_litOwn, o_app, o_mk, o_mvfrz, l_int, l_bool, l_str, l_agg, l_sl, l_own, l_ptr, l_pp, i_int, i_bool, i_str, i_sl, i_own, i_ptr, i_pp, all0, all1, e_ok1, eff, effBin, effBinN, ld_ptr, ld_pp, ld_elt, ia_own, ia_arr, el_1, el_N, load1K, faddrE, r_iaddr, sg_S, sg_c, sg_n, purL, pur, List.map, List.drop, List.take, List.length, List.foldl, List.append_eq, List.nil_append, List.cons_append, List.getD_cons_zero, List.getD_cons_succ, reduceIte, Nat.reduceEqDiff, Nat.reduceAdd, Nat.reduceLeDiff, true_and, and_true, Bool.not_true, Bool.not_false, Bool.and_true, Bool.true_and, Bool.and_self, reduceCtorEq, true_implies, false_implies, implies_true, decide_eq_true_eq, Option.map_some, fpOf, fpX, SOp.xs, oX, refs, refsL, dom, disj, List.all_nil, List.all_cons, List.contains_cons, List.contains_nil, Nat.reduceBEq, Bool.or_false, Bool.false_or, List.append_nil, Bool.not_false, Bool.not_true, List.forall_mem_cons, fm0, List.set, Nat.reduceLT, ne_eq, not_false_eq_true, not_true_eq_false, ret1, ret1N, keep0, keep1, rf_int, rf_bool, rf_str, rf_sl, rf_agg, rf_tup, rfL0, rfL1, re_t, re_cN, re_L0, re_L1, ret_tup, ret_one, decide_true, AV.bool.injEq, AV.int.injEq, Nat.reduceLeDiff, Bool.true_eq, Bool.false_eq, decide_eq_true_eq, decide_eq_false_iff_not, List.length_map, irow, Int.toNat_natCast, Int.natCast_inj]
  refine ⟨fun h2 => ⟨by omega, by omega, by omega, by omega, fun h3 h => h3 (by rw [h]), fun h3 => ⟨by omega, loopK_of (i + 1) ⟨⟨.inr rfl, .inr rfl, .inr rfl, trivial⟩, trivial, rfl, rfl⟩ ⟨by omega, fun j hj => ?_⟩ (by omega)⟩⟩, fun h2 => ext_of (by omega) fun j hj => hi.2 j (by have := hi.1; omega)⟩
  by_cases e : j = i
  · subst e; exact h3
  · exact hi.2 j (by omega)
end Go.Ve
namespace Go.Ve
open Go.Proofs
set_option linter.unusedSimpArgs false
set_option linter.unusedVariables false
set_option maxRecDepth 100000
theorem set_i {l : List Int} {i : Nat} {v : Int} : (l.map irow).set i (setSeg ((l.map irow).getD i []) 0 [.int .i64 v]) = (l.set i v).map irow :=
  set_rows (α := Int) (f := irow) (fun s => v) fun x => by simp [irow, setSeg]
def toI (a : List Int) (i : Nat) : List Int := a.take i ++ List.replicate (a.length - i) 0
def F_toIntS (t : Nat) (a : List Int) (i : Nat) : St := ⟨[(0, .sl t 1 (a.map irow)), (3, .own 107 0 0 a.length), (4, .int .i64 i)], [(107, .arr 3 0 1 ((toI a i).map irow))]⟩
theorem c_toIntS (t : Nat) (a : List Int) (ha : a.length ≤ 4294967296) : Contract P 69 [.sl t 1 (a.map irow)] [] (.sl 0 1 (a.map irow)) [] := by
  refine fn_sound (Env.nil P) hm k_laws_toIntS (Nat.le_of_ble_eq_true rfl) rfl ?_
  unfold s_laws_toIntS
  simp only [w_skip, w_rg, w_rgd, w_seq, w_cond, w_block, w_loop, w_exit, w_ret, w_gh, w_rg0, w_rg1, w_rgT, w_rgF, w_run, w_psd, w_und, w_dr0, w_dr1, w_drT, w_drF, w_drRun, w_drPsd, w_drUnd, w_drKn, w_drKs, w_putK, w_trimK, w_thenN, w_thenE, w_thenR, w_blkN, w_blkE, w_blkR, w_call, w_effK, brU_true, brU_false, brU_u, brU_not, brU_and, brU_or, brU_dec, brU_eq, brU_ne, br_true, br_false, br_not, br_and, br_or, br_dec, br_eq, br_ne, w_getE0, w_getE1, w_setE0, w_setE1, w_dropE0, w_dropE1, w_drop0, w_drop1, w_getM0, w_getM1, w_setM0, w_setM1, ev_v, ev_c, w_putS, w_putN, w_lit, w_apU0, w_apU1, w_trim, enumE0, enumE1, w_callWp, w_callL, w_callT, w_T1, w_T0, o_mv, o_newnil, o_pick, o_bin, o_binN, o_neg, o_not, o_eqB, o_eqS, o_conv, o_alloc, o_box, o_load1, o_loadN, o_store, o_nilck, o_faddr, o_field1, o_fieldN, o_iaddr, o_istr, o_slStr, o_slSl, o_lenS, o_lenL, o_mx, o_mn, o_ext, o_build, o_lit, o_litOwn, o_app, o_mk, o_mvfrz, l_int, l_bool, l_str, l_agg, l_sl, l_own, l_ptr, l_pp, i_int, i_bool, i_str, i_sl, i_own, i_ptr, i_pp, all0, all1, e_ok1, eff, effBin, effBinN, ld_ptr, ld_pp, ld_elt, ia_own, ia_arr, el_1, el_N, load1K, faddrE, r_iaddr, sg_S, sg_c, sg_n, purL, pur, List.map, List.drop, List.take, List.length, List.foldl, List.append_eq, List.nil_append, List.cons_append, List.getD_cons_zero, List.getD_cons_succ, reduceIte, Nat.reduceEqDiff, Nat.reduceAdd, Nat.reduceLeDiff, true_and, and_true, Bool.not_true, Bool.not_false, Bool.and_true, Bool.true_and, Bool.and_self, reduceCtorEq, true_implies, false_implies, implies_true, decide_eq_true_eq, Option.map_some, fpOf, fpX, SOp.xs, oX, refs, refsL, dom, disj, List.all_nil, List.all_cons, List.contains_cons, List.contains_nil, Nat.reduceBEq, Bool.or_false, Bool.false_or, List.append_nil, Bool.not_false, Bool.not_true, List.forall_mem_cons, fm0, List.set, Nat.reduceLT, ne_eq, not_false_eq_true, not_true_eq_false, ret1, ret1N, keep0, keep1, rf_int, rf_bool, rf_str, rf_sl, rf_agg, rf_tup, rfL0, rfL1, re_t, re_cN, re_L0, re_L1, ret_tup, ret_one, decide_true, AV.bool.injEq, AV.int.injEq, Nat.reduceLeDiff, Bool.true_eq, Bool.false_eq, decide_eq_true_eq, decide_eq_false_iff_not, List.length_map, irow, Int.toNat_natCast, ghost, set_i, Nat.zero_add, Nat.sub_zero]
  have m0 : List.replicate a.length [AV.int .i64 0] = (toI a 0).map irow := by simp [toI, irow]
  refine ⟨by omega, loop_of (F_toIntS t a) (fun i => i ≤ a.length) (fun i => a.length - i) 0 ⟨⟨.inr rfl, .inr rfl, .inr rfl, trivial⟩, ⟨congrArg (fun g => some (AObj.arr 3 0 1 g)) m0, trivial⟩, rfl, rfl⟩ (Nat.zero_le _) ?_⟩
  intro i hi
  unfold l_laws_toIntS_0 F_toIntS
  simp only [w_skip, w_rg, w_rgd, w_seq, w_cond, w_block, w_loop, w_exit, w_ret, w_gh, w_rg0, w_rg1, w_rgT, w_rgF, w_run, w_psd, w_und, w_dr0, w_dr1, w_drT, w_drF, w_drRun, w_drPsd, w_drUnd, w_drKn, w_drKs, w_putK, w_trimK, w_thenN, w_thenE, w_thenR, w_blkN, w_blkE, w_blkR, w_call, w_effK, brU_true, brU_false, brU_u, brU_not, brU_and, brU_or, brU_dec, brU_eq, brU_ne, br_true, br_false, br_not, br_and, br_or, br_dec, br_eq, br_ne, w_getE0, w_getE1, w_setE0, w_setE1, w_dropE0, w_dropE1, w_drop0, w_drop1, w_getM0, w_getM1, w_setM0, w_setM1, ev_v, ev_c, w_putS, w_putN, w_lit, w_apU0, w_apU1, w_trim, enumE0, enumE1, w_callWp, w_callL, w_callT, w_T1, w_T0, o_mv, o_newnil, o_pick, o_bin, o_binN, o_neg, o_not, o_eqB, o_eqS, o_conv, o_alloc, o_box, o_load1, o_loadN, o_store, o_nilck, o_faddr, o_field1, o_fieldN, o_iaddr, o_istr, o_slStr, o_slSl, o_lenS, o_lenL, o_mx, o_mn, o_ext, o_build, o_lit, o_litOwn, o_app, o_mk, o_mvfrz, l_int, l_bool, l_str, l_agg, l_sl, l_own, l_ptr, l_pp, i_int, i_bool, i_str, i_sl, i_own, i_ptr, i_pp, all0, all1, e_ok1, eff, effBin, effBinN, ld_ptr, ld_pp, ld_elt, ia_own, ia_arr, el_1, el_N, load1K, faddrE, r_iaddr, sg_S, sg_c, sg_n, purL, pur, List.map, List.drop, List.take, List.length, List.foldl, List.append_eq, List.nil_append, List.cons_append, List.getD_cons_zero, List.getD_cons_succ, reduceIte, Nat.reduceEqDiff, Nat.reduceAdd, Nat.reduceLeDiff, true_and, and_true, Bool.not_true, Bool.not_false, Bool.and_true, Bool.true_and, Bool.and_self, reduceCtorEq, true_implies, false_implies, implies_true, decide_eq_true_eq, Option.map_some, fpOf, fpX, SOp.xs, oX, refs, refsL, dom, disj, List.all_nil, List.all_cons, List.contains_cons, List.contains_nil, Nat.reduceBEq, Bool.or_false, Bool.false_or, List.append_nil, Bool.not_false, Bool.not_true, List.forall_mem_cons, fm0, List.set, Nat.reduceLT, ne_eq, not_false_eq_true, not_true_eq_false, ret1, ret1N, keep0, keep1, rf_int, rf_bool, rf_str, rf_sl, rf_agg, rf_tup, rfL0, rfL1, re_t, re_cN, re_L0, re_L1, ret_tup, ret_one, decide_true, AV.bool.injEq, AV.int.injEq, Nat.reduceLeDiff, Bool.true_eq, Bool.false_eq, decide_eq_true_eq, decide_eq_false_iff_not, List.length_map, irow, Int.toNat_natCast, ghost, set_i, Nat.zero_add, Nat.sub_zero]
  have st : i < a.length → (toI a i).set i (a.getD i default) = toI a (i + 1) := fun h => by
    refine List.ext_getElem (by simp [toI]; omega) fun j h1 h2 => ?_
    by_cases e : j = i
    · subst e
      simp [toI, List.getElem_append, h]
      intro h9; omega
    · simp only [List.getElem_set_ne (Ne.symm e)]
      simp only [toI, List.getElem_append, List.length_take, List.getElem_take, List.getElem_replicate]
      split <;> split <;> first | rfl | omega
  refine ⟨fun h => ⟨by omega, by omega, by omega, rfl, by omega, loopK_of (i + 1) ⟨⟨.inr rfl, .inr rfl, .inr rfl, trivial⟩, ⟨congrArg (fun g => some (AObj.arr 3 0 1 (List.map irow g))) (st (by omega)), trivial⟩, rfl, rfl⟩ (by omega) (by omega)⟩, fun h => ?_⟩
  have e : i = a.length := by omega
  subst e
  simp only [toI, List.take_length, Nat.sub_self, List.replicate_zero, List.append_nil]
  rw [List.take_of_length_le (by simp)]
end Go.Ve
namespace Go.Ve
open Go.Proofs
/-- laws.FnExactLapMust: function 4 -/
def s_laws_FnExactLapMust : SFun := { n := 31, res := [.t 4], body := (.seq (.rg [⟨some 2, .box 102 (.v 0), none, [0]⟩, ⟨some 4, .mv (.c (.bool false)), none, [4]⟩] [1, 2]) (.seq (.rg [⟨some 5, .mv (.c (.int .i64 1048576)), none, []⟩] [1, 2, 5]) (.seq (.rg [⟨some 9, .loadN 7 (.v 2), none, []⟩, ⟨some 10, .mv (.v 5), none, [5]⟩, ⟨some 11, .call 18 [.v 9, .v 10], none, [9, 10]⟩, ⟨some 5, .mv (.v 11), none, [11]⟩] [1, 2, 5]) (.seq (.seq (.rg [⟨some 12, .mv (.v 5), none, [5]⟩, ⟨some 13, .bin .lss (.v 12) (.c (.int .i64 0)), none, [12]⟩] [1, 2, 13]) (.cond (.v 13) (.seq (.rg [⟨some 4, .mv (.c (.bool true)), none, []⟩] [4]) .ret) .skip)) (.seq (.rg [⟨some 14, .loadN 7 (.v 2), none, []⟩, ⟨some 15, .call 20 [.v 14], none, [14]⟩, ⟨some 16, .mv (.v 1), none, []⟩, ⟨some 17, .call 19 [.v 15, .v 16], none, [15, 16]⟩, ⟨some 6, .mv (.v 17), none, [17]⟩] [1, 2, 6]) (.seq (.rg [⟨some 18, .loadN 7 (.v 2), none, []⟩, ⟨some 19, .call 20 [.v 18], none, [18]⟩, ⟨some 7, .alloc 107 [.str ⟨#[]⟩, .int .i64 0, .int .i64 0, .int .i64 0, .int .i64 0, .sl 0 6 [], .sl 0 1 []], none, []⟩, ⟨none, .store 7 (.v 7) (.v 19), none, [19]⟩] [1, 2, 6, 7]) (.seq (.rg [⟨some 20, .loadN 7 (.v 7), none, []⟩, ⟨some 21, .mv (.v 1), none, [1]⟩, ⟨some 22, .call 21 [.v 20, .v 21], none, [20, 21]⟩, ⟨some 8, .mv (.v 22), none, [22]⟩] [2, 6, 7, 8]) (.seq (.seq (.rg [⟨some 23, .mv (.v 8), none, [8]⟩, ⟨some 24, .mv (.v 6), none, [6]⟩, ⟨some 25, .eqB true (.v 23) (.v 24), none, [23, 24]⟩] [2, 7, 25]) (.cond (.v 25) (.seq (.rg [⟨some 4, .mv (.c (.bool false)), none, []⟩] [4]) .ret) .skip)) (.seq (.seq (.rgd [⟨some 26, .loadN 7 (.v 7), none, []⟩, ⟨some 27, .loadN 7 (.v 2), none, []⟩, ⟨some 28, .call 20 [.v 27], none, []⟩, ⟨some 29, .call 22 [.v 26, .v 28], none, []⟩, ⟨some 30, .not (.v 29), none, []⟩] [30] [some [], none, some [1], none, none]) (.cond (.v 30) (.seq (.rg [⟨some 4, .mv (.c (.bool false)), none, []⟩] [4]) .ret) .skip)) (.seq (.rg [⟨some 4, .mv (.c (.bool true)), none, []⟩] [4]) .ret)))))))))) }
theorem k_laws_FnExactLapMust : okFun Go.Proofs.Try.prog 4 s_laws_FnExactLapMust = true := by kernel_rfl
/-- laws.szLapCraft: function 18 -/
def s_laws_szLapCraft : SFun := { n := 25, res := [.t 4], body := (.seq (.rg [⟨some 2, .box 102 (.v 0), none, [0]⟩, ⟨some 4, .mv (.c (.int .i64 0)), none, [4]⟩] [1, 2]) (.seq (.rg [⟨some 5, .mv (.v 1), none, [1]⟩, ⟨some 6, .faddr 0 (.v 2), none, []⟩, ⟨some 7, .load1 (.v 6), none, [6]⟩, ⟨some 8, .lenS (.v 7), none, [7]⟩, ⟨some 9, .binN .sub (.v 5) (.v 8), none, [5, 8]⟩, ⟨some 1, .mv (.v 9), none, [9]⟩] [1, 2]) (.seq (.seq (.rg [⟨some 10, .mv (.v 1), none, []⟩, ⟨some 11, .bin .lss (.v 10) (.c (.int .i64 0)), none, [10]⟩] [1, 2, 11]) (.cond (.v 11) (.seq (.rg [⟨some 4, .mv (.c (.int .i64 (-1))), none, []⟩] [4]) .ret) .skip)) (.seq (.rg [⟨some 12, .faddr 5 (.v 2), none, []⟩, ⟨some 13, .load1 (.v 12), none, [12]⟩, ⟨some 14, .mv (.v 1), none, [1]⟩, ⟨some 15, .call 61 [.v 13, .v 14], none, [13, 14]⟩, ⟨some 1, .mv (.v 15), none, [15]⟩] [1, 2]) (.seq (.seq (.rg [⟨some 16, .mv (.v 1), none, []⟩, ⟨some 17, .bin .lss (.v 16) (.c (.int .i64 0)), none, [16]⟩] [1, 2, 17]) (.cond (.v 17) (.seq (.rg [⟨some 4, .mv (.c (.int .i64 (-1))), none, []⟩] [4]) .ret) .skip)) (.seq (.rg [⟨some 18, .faddr 6 (.v 2), none, [2]⟩, ⟨some 19, .load1 (.v 18), none, [18]⟩, ⟨some 20, .mv (.v 1), none, [1]⟩, ⟨some 21, .call 62 [.v 19, .v 20], none, [19, 20]⟩, ⟨some 1, .mv (.v 21), none, [21]⟩] [1]) (.seq (.seq (.rg [⟨some 22, .mv (.v 1), none, []⟩, ⟨some 23, .bin .lss (.v 22) (.c (.int .i64 0)), none, [22]⟩] [1, 23]) (.cond (.v 23) (.seq (.rg [⟨some 4, .mv (.c (.int .i64 (-1))), none, []⟩] [4]) .ret) .skip)) (.seq (.rg [⟨some 24, .mv (.v 1), none, [1]⟩, ⟨some 4, .mv (.v 24), none, [24]⟩] [4]) .ret)))))))) }
theorem k_laws_szLapCraft : okFun Go.Proofs.Try.prog 18 s_laws_szLapCraft = true := by kernel_rfl
/-- spec.LapMust: function 19 -/
def s_spec_LapMust : SFun := { n := 28, res := [.t 4], body := (.seq (.rg [⟨some 2, .box 102 (.v 0), none, [0]⟩, ⟨some 4, .mv (.c (.bool false)), none, [4]⟩] [1, 2]) (.seq (.rg [⟨some 6, .faddr 1 (.v 2), none, []⟩, ⟨some 7, .loadN 2 (.v 6), none, [6]⟩, ⟨some 8, .faddr 5 (.v 2), none, []⟩, ⟨some 9, .load1 (.v 8), none, [8]⟩, ⟨some 10, .call 63 [.v 7, .v 9], none, [7, 9]⟩, ⟨some 5, .alloc 105 [.int .i64 0, .int .i64 0, .sl 0 7 [], .int .i64 0, .int .i64 0], none, []⟩, ⟨none, .store 5 (.v 5) (.v 10), none, [10]⟩] [1, 2, 5]) (.seq (.rg [⟨some 11, .loadN 5 (.v 5), none, []⟩, ⟨some 12, .faddr 6 (.v 2), none, []⟩, ⟨some 13, .load1 (.v 12), none, [12]⟩, ⟨some 14, .call 64 [.v 11, .v 13], none, [11, 13]⟩, ⟨some 15, .mv (.v 14), none, [14]⟩, ⟨some 16, .loadN 7 (.v 2), some (15, true), []⟩, ⟨some 17, .mv (.v 1), some (15, true), []⟩, ⟨some 18, .call 65 [.v 16, .v 17], some (15, true), [16, 17]⟩, ⟨some 19, .pick (.v 15) (.v 18) (.c (.bool false)), none, [15, 18]⟩, ⟨some 20, .mv (.v 19), none, [19]⟩, ⟨some 21, .loadN 5 (.v 5), some (20, true), [5]⟩, ⟨some 22, .faddr 6 (.v 2), some (20, true), [2]⟩, ⟨some 23, .load1 (.v 22), some (20, true), [22]⟩, ⟨some 24, .mv (.v 1), some (20, true), [1]⟩, ⟨some 25, .call 66 [.v 21, .v 23, .v 24], some (20, true), [21, 23, 24]⟩, ⟨some 26, .not (.v 25), some (20, true), [25]⟩, ⟨some 27, .pick (.v 20) (.v 26) (.c (.bool false)), none, [20, 26]⟩, ⟨some 4, .mv (.v 27), none, [27]⟩] [4]) .ret))) }
theorem k_spec_LapMust : okFun Go.Proofs.Try.prog 19 s_spec_LapMust = true := by kernel_rfl
/-- laws.toLapCraft: function 20 -/
def s_laws_toLapCraft : SFun := { n := 26, res := [.cN 2 7], body := (.seq (.rg [⟨some 1, .box 101 (.v 0), none, [0]⟩, ⟨some 2, .alloc 102 [.str ⟨#[]⟩, .int .i64 0, .int .i64 0, .int .i64 0, .int .i64 0, .sl 0 6 [], .sl 0 1 []], none, []⟩] [1, 2]) (.seq (.rg [⟨some 3, .alloc 103 [.str ⟨#[]⟩, .int .i64 0, .int .i64 0, .int .i64 0, .int .i64 0, .sl 0 6 [], .sl 0 1 []], none, []⟩] [1, 2, 3]) (.seq (.rg [⟨some 4, .faddr 0 (.v 1), none, []⟩, ⟨some 5, .load1 (.v 4), none, [4]⟩, ⟨some 6, .faddr 0 (.v 3), none, []⟩, ⟨none, .store 1 (.v 6) (.v 5), none, [5, 6]⟩] [1, 2, 3]) (.seq (.rg [⟨some 7, .faddr 1 (.v 1), none, []⟩, ⟨some 8, .loadN 2 (.v 7), none, [7]⟩, ⟨some 9, .call 67 [.v 8], none, [8]⟩, ⟨some 10, .faddr 1 (.v 3), none, []⟩, ⟨none, .store 2 (.v 10) (.v 9), none, [9, 10]⟩] [1, 2, 3]) (.seq (.rg [⟨some 11, .faddr 3 (.v 1), none, []⟩, ⟨some 12, .load1 (.v 11), none, [11]⟩, ⟨some 13, .faddr 3 (.v 3), none, []⟩, ⟨none, .store 1 (.v 13) (.v 12), none, [12, 13]⟩] [1, 2, 3]) (.seq (.rg [⟨some 14, .faddr 4 (.v 1), none, []⟩, ⟨some 15, .load1 (.v 14), none, [14]⟩, ⟨some 16, .faddr 4 (.v 3), none, []⟩, ⟨none, .store 1 (.v 16) (.v 15), none, [15, 16]⟩] [1, 2, 3]) (.seq (.rg [⟨some 17, .faddr 5 (.v 1), none, []⟩, ⟨some 18, .load1 (.v 17), none, [17]⟩, ⟨some 19, .call 68 [.v 18], none, [18]⟩, ⟨some 20, .faddr 5 (.v 3), none, []⟩, ⟨none, .store 1 (.v 20) (.v 19), none, [19, 20]⟩] [1, 2, 3]) (.seq (.rg [⟨some 21, .faddr 6 (.v 1), none, [1]⟩, ⟨some 22, .load1 (.v 21), none, [21]⟩, ⟨some 23, .call 69 [.v 22], none, [22]⟩, ⟨some 24, .faddr 6 (.v 3), none, []⟩, ⟨none, .store 1 (.v 24) (.v 23), none, [23, 24]⟩] [2, 3]) (.seq (.rg [⟨some 25, .loadN 7 (.v 3), none, [3]⟩, ⟨none, .store 7 (.v 2) (.v 25), none, [25]⟩] [2]) .ret))))))))) }
theorem k_laws_toLapCraft : okFun Go.Proofs.Try.prog 20 s_laws_toLapCraft = true := by kernel_rfl
/-- impl.LapMust: function 21 -/
def s_impl_LapMust : SFun := { n := 30, res := [.t 4], body := (.seq (.rg [⟨some 2, .box 102 (.v 0), none, [0]⟩, ⟨some 4, .mv (.c (.bool false)), none, [4]⟩] [1, 2]) (.seq (.rg [⟨some 9, .loadN 7 (.v 2), none, []⟩, ⟨some 10, .call 70 [.v 9], none, [9]⟩, ⟨some 8, .mv (.v 10), none, [10]⟩, ⟨some 11, .ext 0 (.v 8), none, []⟩, ⟨some 12, .ext 1 (.v 8), none, []⟩, ⟨some 13, .ext 2 (.v 8), none, [8]⟩, ⟨some 5, .alloc 105 [.int .i64 0, .int .i64 0, .sl 0 7 [], .int .i64 0, .int .i64 0], none, []⟩, ⟨some 6, .alloc 106 [.int .i64 0, .int .i64 0], none, []⟩, ⟨none, .store 5 (.v 5) (.v 11), none, [11]⟩, ⟨none, .store 2 (.v 6) (.v 12), none, [12]⟩, ⟨some 7, .mv (.v 13), none, [13]⟩] [1, 2, 5, 6, 7]) (.seq (.rg [⟨some 14, .mv (.v 7), none, [7]⟩, ⟨some 15, .mv (.v 14), none, [14]⟩, ⟨some 16, .mv (.v 1), some (15, true), []⟩, ⟨some 17, .faddr 0 (.v 6), some (15, true), []⟩, ⟨some 18, .load1 (.v 17), some (15, true), [17]⟩, ⟨some 19, .faddr 1 (.v 6), some (15, true), [6]⟩, ⟨some 20, .load1 (.v 19), some (15, true), [19]⟩, ⟨some 21, .call 56 [.v 16, .v 18, .v 20], some (15, true), [16, 18, 20]⟩, ⟨some 22, .pick (.v 15) (.v 21) (.c (.bool false)), none, [15, 21]⟩, ⟨some 23, .mv (.v 22), none, [22]⟩, ⟨some 24, .loadN 7 (.v 2), some (23, true), [2]⟩, ⟨some 25, .loadN 5 (.v 5), some (23, true), [5]⟩, ⟨some 26, .mv (.v 1), some (23, true), [1]⟩, ⟨some 27, .call 71 [.v 24, .v 25, .v 26], some (23, true), [24, 25, 26]⟩, ⟨some 28, .not (.v 27), some (23, true), [27]⟩, ⟨some 29, .pick (.v 23) (.v 28) (.c (.bool false)), none, [23, 28]⟩, ⟨some 4, .mv (.v 29), none, [29]⟩] [4]) .ret))) }
theorem k_impl_LapMust : okFun Go.Proofs.Try.prog 21 s_impl_LapMust = true := by kernel_rfl
/-- laws.eqLapCraft: function 22 -/
def s_laws_eqLapCraft : SFun := { n := 38, res := [.t 4], body := (.seq (.rg [⟨some 2, .box 102 (.v 0), none, [0]⟩, ⟨some 3, .box 103 (.v 1), none, [1]⟩, ⟨some 4, .mv (.c (.bool false)), none, [4]⟩] [2, 3]) (.seq (.seq (.rg [⟨some 5, .faddr 0 (.v 2), none, []⟩, ⟨some 6, .load1 (.v 5), none, [5]⟩, ⟨some 7, .faddr 0 (.v 3), none, []⟩, ⟨some 8, .load1 (.v 7), none, [7]⟩, ⟨some 9, .bin .neq (.v 6) (.v 8), none, [6, 8]⟩] [2, 3, 9]) (.cond (.v 9) (.seq (.rg [⟨some 4, .mv (.c (.bool false)), none, []⟩] [4]) .ret) .skip)) (.seq (.seq (.rg [⟨some 10, .faddr 1 (.v 2), none, []⟩, ⟨some 11, .loadN 2 (.v 10), none, [10]⟩, ⟨some 12, .faddr 1 (.v 3), none, []⟩, ⟨some 13, .loadN 2 (.v 12), none, [12]⟩, ⟨some 14, .call 72 [.v 11, .v 13], none, [11, 13]⟩, ⟨some 15, .not (.v 14), none, [14]⟩] [2, 3, 15]) (.cond (.v 15) (.seq (.rg [⟨some 4, .mv (.c (.bool false)), none, []⟩] [4]) .ret) .skip)) (.seq (.seq (.rg [⟨some 16, .faddr 3 (.v 2), none, []⟩, ⟨some 17, .load1 (.v 16), none, [16]⟩, ⟨some 18, .faddr 3 (.v 3), none, []⟩, ⟨some 19, .load1 (.v 18), none, [18]⟩, ⟨some 20, .bin .neq (.v 17) (.v 19), none, [17, 19]⟩] [2, 3, 20]) (.cond (.v 20) (.seq (.rg [⟨some 4, .mv (.c (.bool false)), none, []⟩] [4]) .ret) .skip)) (.seq (.seq (.rg [⟨some 21, .faddr 4 (.v 2), none, []⟩, ⟨some 22, .load1 (.v 21), none, [21]⟩, ⟨some 23, .faddr 4 (.v 3), none, []⟩, ⟨some 24, .load1 (.v 23), none, [23]⟩, ⟨some 25, .bin .neq (.v 22) (.v 24), none, [22, 24]⟩] [2, 3, 25]) (.cond (.v 25) (.seq (.rg [⟨some 4, .mv (.c (.bool false)), none, []⟩] [4]) .ret) .skip)) (.seq (.seq (.rg [⟨some 26, .faddr 5 (.v 2), none, []⟩, ⟨some 27, .load1 (.v 26), none, [26]⟩, ⟨some 28, .faddr 5 (.v 3), none, []⟩, ⟨some 29, .load1 (.v 28), none, [28]⟩, ⟨some 30, .call 73 [.v 27, .v 29], none, [27, 29]⟩, ⟨some 31, .not (.v 30), none, [30]⟩] [2, 3, 31]) (.cond (.v 31) (.seq (.rg [⟨some 4, .mv (.c (.bool false)), none, []⟩] [4]) .ret) .skip)) (.seq (.seq (.rg [⟨some 32, .faddr 6 (.v 2), none, [2]⟩, ⟨some 33, .load1 (.v 32), none, [32]⟩, ⟨some 34, .faddr 6 (.v 3), none, [3]⟩, ⟨some 35, .load1 (.v 34), none, [34]⟩, ⟨some 36, .call 74 [.v 33, .v 35], none, [33, 35]⟩, ⟨some 37, .not (.v 36), none, [36]⟩] [37]) (.cond (.v 37) (.seq (.rg [⟨some 4, .mv (.c (.bool false)), none, []⟩] [4]) .ret) .skip)) (.seq (.rg [⟨some 4, .mv (.c (.bool true)), none, []⟩] [4]) .ret)))))))) }
theorem k_laws_eqLapCraft : okFun Go.Proofs.Try.prog 22 s_laws_eqLapCraft = true := by kernel_rfl
/-- impl.FlyRest: function 36 -/
def s_impl_FlyRest : SFun := { n := 58, res := [.cN 8 5, .t 9], body := (.seq (.rg [⟨some 4, .box 104 (.v 0), none, [0]⟩, ⟨some 8, .alloc 108 [.int .i64 0, .int .i64 0, .sl 0 7 [], .int .i64 0, .int .i64 0], none, []⟩, ⟨some 9, .mv (.c (.bool false)), none, [9]⟩] [1, 2, 3, 4, 8]) (.seq (.seq (.rg [⟨some 11, .loadN 5 (.v 4), none, []⟩, ⟨some 12, .call 32 [.v 11], none, [11]⟩, ⟨some 13, .not (.v 12), none, [12]⟩, ⟨some 14, .mv (.v 13), none, [13]⟩, ⟨some 15, .mv (.v 1), some (14, false), []⟩, ⟨some 16, .bin .lss (.v 15) (.c (.int .i64 0)), some (14, false), [15]⟩, ⟨some 17, .pick (.v 14) (.c (.bool true)) (.v 16), none, [14, 16]⟩, ⟨some 18, .mv (.v 17), none, [17]⟩, ⟨some 19, .mv (.v 1), some (18, false), []⟩, ⟨some 20, .faddr 2 (.v 4), some (18, false), []⟩, ⟨some 21, .load1 (.v 20), some (18, false), [20]⟩, ⟨some 22, .lenL (.v 21), some (18, false), [21]⟩, ⟨some 23, .bin .geq (.v 19) (.v 22), some (18, false), [19, 22]⟩, ⟨some 24, .pick (.v 18) (.c (.bool true)) (.v 23), none, [18, 23]⟩, ⟨some 25, .mv (.v 24), none, [24]⟩, ⟨some 26, .mv (.v 3), some (25, false), []⟩, ⟨some 27, .bin .gtr (.v 26) (.c (.int .i64 10000)), some (25, false), [26]⟩, ⟨some 28, .pick (.v 25) (.c (.bool true)) (.v 27), none, [25, 27]⟩, ⟨some 29, .mv (.v 28), none, [28]⟩, ⟨some 30, .mv (.v 2), some (29, false), []⟩, ⟨some 31, .bin .lss (.v 30) (.c (.int .i64 0)), some (29, false), [30]⟩, ⟨some 32, .pick (.v 29) (.c (.bool true)) (.v 31), none, [29, 31]⟩, ⟨some 33, .mv (.v 32), none, [32]⟩, ⟨some 34, .mv (.v 2), some (33, false), []⟩, ⟨some 35, .mv (.v 3), some (33, false), []⟩, ⟨some 36, .bin .gtr (.v 34) (.v 35), some (33, false), [34, 35]⟩, ⟨some 37, .pick (.v 33) (.c (.bool true)) (.v 36), none, [33, 36]⟩] [1, 2, 3, 4, 8, 37]) (.cond (.v 37) (.seq (.rg [⟨some 38, .build [.int .i64 0, .int .i64 0, .sl 0 7 [], .int .i64 0, .int .i64 0] [], none, []⟩, ⟨none, .store 5 (.v 8) (.v 38), none, [38]⟩, ⟨some 9, .mv (.c (.bool false)), none, []⟩] [8, 9]) .ret) .skip)) (.seq (.rg [⟨some 39, .faddr 2 (.v 4), none, []⟩, ⟨some 40, .load1 (.v 39), none, [39]⟩, ⟨some 41, .mv (.v 1), none, []⟩, ⟨some 42, .iaddr 7 (.v 40) (.v 41), none, [40, 41]⟩, ⟨some 43, .loadN 7 (.v 42), none, [42]⟩, ⟨some 10, .alloc 110 [.int .i64 0, .int .i64 0, .int .i64 0, .int .i64 0, .int .i64 0, .int .i64 0, .bool false], none, []⟩, ⟨none, .store 7 (.v 10) (.v 43), none, [43]⟩] [1, 2, 3, 4, 8, 10]) (.seq (.rg [⟨some 44, .loadN 5 (.v 4), none, [4]⟩, ⟨some 45, .mv (.v 1), none, [1]⟩, ⟨some 46, .faddr 4 (.v 10), none, []⟩, ⟨some 47, .load1 (.v 46), none, [46]⟩, ⟨some 48, .mv (.v 2), none, []⟩, ⟨some 49, .mx (.v 47) (.v 48), none, [47, 48]⟩, ⟨some 50, .faddr 5 (.v 10), none, [10]⟩, ⟨some 51, .load1 (.v 50), none, [50]⟩, ⟨some 52, .mv (.v 2), none, [2]⟩, ⟨some 53, .mn (.v 51) (.v 52), none, [51, 52]⟩, ⟨some 54, .mv (.v 3), none, [3]⟩, ⟨some 55, .call 91 [.v 44, .v 45, .v 49, .v 53, .v 54], none, [44, 45, 49, 53, 54]⟩, ⟨some 56, .ext 0 (.v 55), none, []⟩, ⟨some 57, .ext 1 (.v 55), none, [55]⟩, ⟨none, .store 5 (.v 8) (.v 56), none, [56]⟩, ⟨some 9, .mv (.v 57), none, [57]⟩] [8, 9]) .ret)))) }
theorem k_impl_FlyRest : okFun Go.Proofs.Try.prog 36 s_impl_FlyRest = true := by kernel_rfl
/-- spec.FlyRest: function 40 -/
def s_spec_FlyRest : SFun := { n := 67, res := [.cN 8 5, .t 9], body := (.seq (.rg [⟨some 4, .box 104 (.v 0), none, [0]⟩, ⟨some 8, .alloc 108 [.int .i64 0, .int .i64 0, .sl 0 7 [], .int .i64 0, .int .i64 0], none, []⟩, ⟨some 9, .mv (.c (.bool false)), none, [9]⟩] [1, 2, 3, 4, 8]) (.seq (.seq (.rg [⟨some 11, .loadN 5 (.v 4), none, []⟩, ⟨some 12, .call 33 [.v 11], none, [11]⟩, ⟨some 13, .not (.v 12), none, [12]⟩, ⟨some 14, .mv (.v 13), none, [13]⟩, ⟨some 15, .mv (.v 1), some (14, false), []⟩, ⟨some 16, .faddr 2 (.v 4), some (14, false), []⟩, ⟨some 17, .load1 (.v 16), some (14, false), [16]⟩, ⟨some 18, .lenL (.v 17), some (14, false), [17]⟩, ⟨some 19, .binN .sub (.v 18) (.c (.int .i64 1)), some (14, false), [18]⟩, ⟨some 20, .call 57 [.v 15, .c (.int .i64 0), .v 19], some (14, false), [15, 19]⟩, ⟨some 21, .not (.v 20), some (14, false), [20]⟩, ⟨some 22, .pick (.v 14) (.c (.bool true)) (.v 21), none, [14, 21]⟩, ⟨some 23, .mv (.v 22), none, [22]⟩, ⟨some 24, .mv (.v 3), some (23, false), []⟩, ⟨some 25, .mv (.v 2), some (23, false), []⟩, ⟨some 26, .call 57 [.v 24, .v 25, .c (.int .i64 10000)], some (23, false), [24, 25]⟩, ⟨some 27, .not (.v 26), some (23, false), [26]⟩, ⟨some 28, .pick (.v 23) (.c (.bool true)) (.v 27), none, [23, 27]⟩, ⟨some 29, .mv (.v 28), none, [28]⟩, ⟨some 30, .mv (.v 2), some (29, false), []⟩, ⟨some 31, .bin .lss (.v 30) (.c (.int .i64 0)), some (29, false), [30]⟩, ⟨some 32, .pick (.v 29) (.c (.bool true)) (.v 31), none, [29, 31]⟩] [1, 2, 3, 4, 8, 32]) (.cond (.v 32) (.seq (.rg [⟨some 33, .build [.int .i64 0, .int .i64 0, .sl 0 7 [], .int .i64 0, .int .i64 0] [], none, []⟩, ⟨none, .store 5 (.v 8) (.v 33), none, [33]⟩, ⟨some 9, .mv (.c (.bool false)), none, []⟩] [8, 9]) (.gh (.frzB 108 2) .ret)) .skip)) (.seq (.rg [⟨some 34, .loadN 5 (.v 4), none, [4]⟩, ⟨some 35, .lit 3 1 [], none, []⟩, ⟨some 36, .call 94 [.v 34, .v 35], none, [34, 35]⟩, ⟨some 37, .mv (.v 1), none, [1]⟩, ⟨some 38, .call 93 [.v 36, .v 37], none, [36, 37]⟩, ⟨some 10, .alloc 110 [.int .i64 0, .int .i64 0, .sl 0 7 [], .int .i64 0, .int .i64 0], none, []⟩, ⟨none, .store 5 (.v 10) (.v 38), none, [38]⟩] [2, 3, 8, 10]) (.seq (.rgd [⟨some 39, .faddr 2 (.v 10), none, []⟩, ⟨some 40, .load1 (.v 39), none, []⟩, ⟨some 41, .faddr 2 (.v 10), none, []⟩, ⟨some 42, .load1 (.v 41), none, []⟩, ⟨some 43, .iaddr 7 (.v 42) (.c (.int .i64 0)), none, []⟩, ⟨some 44, .faddr 4 (.v 43), none, []⟩, ⟨some 45, .load1 (.v 44), none, []⟩, ⟨some 46, .mv (.v 2), none, []⟩, ⟨some 47, .call 84 [.v 45, .v 46], none, []⟩, ⟨some 48, .iaddr 7 (.v 40) (.c (.int .i64 0)), none, []⟩, ⟨some 49, .faddr 4 (.v 48), none, []⟩, ⟨none, .store 1 (.v 49) (.v 47), none, []⟩] [2, 3, 8, 10] [some [], some [], none, none, none, none, none, none, some [7, 6], none, none, none]) (.seq (.rgd [⟨some 50, .faddr 2 (.v 10), none, []⟩, ⟨some 51, .load1 (.v 50), none, []⟩, ⟨some 52, .faddr 2 (.v 10), none, []⟩, ⟨some 53, .load1 (.v 52), none, []⟩, ⟨some 54, .iaddr 7 (.v 53) (.c (.int .i64 0)), none, []⟩, ⟨some 55, .faddr 5 (.v 54), none, []⟩, ⟨some 56, .load1 (.v 55), none, []⟩, ⟨some 57, .mv (.v 2), none, []⟩, ⟨some 58, .call 83 [.v 56, .v 57], none, []⟩, ⟨some 59, .iaddr 7 (.v 51) (.c (.int .i64 0)), none, []⟩, ⟨some 60, .faddr 5 (.v 59), none, []⟩, ⟨none, .store 1 (.v 60) (.v 58), none, []⟩] [3, 8, 10] [some [], some [], none, none, none, none, none, none, some [7, 6], none, none, none]) (.seq (.rg [⟨some 61, .loadN 5 (.v 10), none, [10]⟩, ⟨some 62, .mv (.v 3), none, [3]⟩, ⟨some 63, .call 96 [.v 61, .v 62], none, [61, 62]⟩, ⟨some 64, .call 95 [.v 63], none, [63]⟩, ⟨some 65, .ext 0 (.v 64), none, []⟩, ⟨some 66, .ext 1 (.v 64), none, [64]⟩, ⟨none, .store 5 (.v 8) (.v 65), none, [65]⟩, ⟨some 9, .mv (.v 66), none, [66]⟩] [8, 9]) (.gh (.frzB 108 2) .ret))))))) }
theorem k_spec_FlyRest : okFun Go.Proofs.Try.prog 40 s_spec_FlyRest = true := by kernel_rfl
/-- laws.szHandBoxS: function 61 -/
def s_laws_szHandBoxS : SFun := { n := 12, res := [.t 4], body := (.seq (.rg [⟨some 4, .mv (.c (.int .i64 0)), none, [4]⟩] [0, 1]) (.seq (.rg [⟨some 5, .mv (.v 1), none, [1]⟩, ⟨some 6, .mv (.v 0), none, [0]⟩, ⟨some 7, .lenL (.v 6), none, [6]⟩, ⟨some 8, .binN .sub (.v 5) (.v 7), none, [5, 7]⟩, ⟨some 1, .mv (.v 8), none, [8]⟩] [1]) (.seq (.seq (.rg [⟨some 9, .mv (.v 1), none, []⟩, ⟨some 10, .bin .lss (.v 9) (.c (.int .i64 0)), none, [9]⟩] [1, 10]) (.cond (.v 10) (.seq (.rg [⟨some 4, .mv (.c (.int .i64 (-1))), none, []⟩] [4]) .ret) .skip)) (.seq (.rg [⟨some 11, .mv (.v 1), none, [1]⟩, ⟨some 4, .mv (.v 11), none, [11]⟩] [4]) .ret)))) }
theorem k_laws_szHandBoxS : okFun Go.Proofs.Try.prog 61 s_laws_szHandBoxS = true := by kernel_rfl
/-- laws.szIntS: function 62 -/
def s_laws_szIntS : SFun := { n := 12, res := [.t 4], body := (.seq (.rg [⟨some 4, .mv (.c (.int .i64 0)), none, [4]⟩] [0, 1]) (.seq (.rg [⟨some 5, .mv (.v 1), none, [1]⟩, ⟨some 6, .mv (.v 0), none, [0]⟩, ⟨some 7, .lenL (.v 6), none, [6]⟩, ⟨some 8, .binN .sub (.v 5) (.v 7), none, [5, 7]⟩, ⟨some 1, .mv (.v 8), none, [8]⟩] [1]) (.seq (.seq (.rg [⟨some 9, .mv (.v 1), none, []⟩, ⟨some 10, .bin .lss (.v 9) (.c (.int .i64 0)), none, [9]⟩] [1, 10]) (.cond (.v 10) (.seq (.rg [⟨some 4, .mv (.c (.int .i64 (-1))), none, []⟩] [4]) .ret) .skip)) (.seq (.rg [⟨some 11, .mv (.v 1), none, [1]⟩, ⟨some 4, .mv (.v 11), none, [11]⟩] [4]) .ret)))) }
theorem k_laws_szIntS : okFun Go.Proofs.Try.prog 62 s_laws_szIntS = true := by kernel_rfl
/-- spec.l43Stays: function 66 -/
def s_spec_l43Stays : SFun := { n := 31, res := [.t 6], body := (.seq (.rg [⟨some 3, .box 103 (.v 0), none, [0]⟩, ⟨some 6, .mv (.c (.bool false)), none, [6]⟩] [1, 2, 3]) (.seq (.seq (.rg [⟨some 10, .mv (.v 1), none, []⟩, ⟨some 11, .lenL (.v 10), none, [10]⟩, ⟨some 12, .bin .eql (.v 11) (.c (.int .i64 0)), none, [11]⟩] [1, 2, 3, 12]) (.cond (.v 12) (.seq (.rg [⟨some 13, .loadN 5 (.v 3), none, [3]⟩, ⟨some 14, .mv (.v 2), none, [2]⟩, ⟨some 15, .call 106 [.v 13, .v 14], none, [13, 14]⟩, ⟨some 6, .mv (.v 15), none, [15]⟩] [6]) .ret) .skip)) (.seq (.rg [⟨some 16, .mv (.v 1), none, []⟩, ⟨some 17, .lenL (.v 16), none, [16]⟩, ⟨some 18, .binN .sub (.v 17) (.c (.int .i64 1)), none, [17]⟩, ⟨some 7, .mv (.v 18), none, [18]⟩] [1, 2, 3, 7]) (.seq (.rgd [⟨some 20, .loadN 5 (.v 3), none, []⟩, ⟨some 21, .mv (.v 7), none, []⟩, ⟨some 22, .mv (.v 1), none, []⟩, ⟨some 23, .mv (.v 7), none, []⟩, ⟨some 24, .iaddr 1 (.v 22) (.v 23), none, []⟩, ⟨some 25, .load1 (.v 24), none, []⟩, ⟨some 26, .mv (.v 2), none, []⟩, ⟨some 27, .call 40 [.v 20, .v 21, .v 25, .v 26], none, []⟩, ⟨some 19, .mv (.v 27), none, []⟩, ⟨some 28, .ext 0 (.v 19), none, []⟩, ⟨some 29, .ext 1 (.v 19), none, []⟩, ⟨some 8, .alloc 108 [.int .i64 0, .int .i64 0, .sl 0 7 [], .int .i64 0, .int .i64 0], none, []⟩, ⟨none, .store 5 (.v 8) (.v 28), none, []⟩, ⟨some 9, .mv (.v 29), none, []⟩] [9] [some [], none, none, none, some [], some [], none, some [], none, none, none, some [10, 6, 5, 3], none, none]) (.seq (.rg [⟨some 30, .mv (.v 9), none, [9]⟩, ⟨some 6, .mv (.v 30), none, [30]⟩] [6]) .ret))))) }
theorem k_spec_l43Stays : okFun Go.Proofs.Try.prog 66 s_spec_l43Stays = true := by kernel_rfl
/-- laws.toFlyKind: function 67 -/
def s_laws_toFlyKind : SFun := { n := 11, res := [.cN 2 2], body := (.seq (.rg [⟨some 1, .box 101 (.v 0), none, [0]⟩, ⟨some 2, .alloc 102 [.int .i64 0, .int .i64 0], none, []⟩] [1, 2]) (.seq (.rg [⟨some 3, .alloc 103 [.int .i64 0, .int .i64 0], none, []⟩] [1, 2, 3]) (.seq (.rg [⟨some 4, .faddr 0 (.v 1), none, []⟩, ⟨some 5, .load1 (.v 4), none, [4]⟩, ⟨some 6, .faddr 0 (.v 3), none, []⟩, ⟨none, .store 1 (.v 6) (.v 5), none, [5, 6]⟩] [1, 2, 3]) (.seq (.rg [⟨some 7, .faddr 1 (.v 1), none, [1]⟩, ⟨some 8, .load1 (.v 7), none, [7]⟩, ⟨some 9, .faddr 1 (.v 3), none, []⟩, ⟨none, .store 1 (.v 9) (.v 8), none, [8, 9]⟩] [2, 3]) (.seq (.rg [⟨some 10, .loadN 2 (.v 3), none, [3]⟩, ⟨none, .store 2 (.v 2) (.v 10), none, [10]⟩] [2]) .ret))))) }
theorem k_laws_toFlyKind : okFun Go.Proofs.Try.prog 67 s_laws_toFlyKind = true := by kernel_rfl
def l_laws_toHandBoxS_0 : SCode := (.seq (.seq (.rg [⟨some 8, .mv (.v 4), none, []⟩, ⟨some 9, .mv (.v 0), none, []⟩, ⟨some 10, .lenL (.v 9), none, [9]⟩, ⟨some 11, .bin .lss (.v 8) (.v 10), none, [8, 10]⟩] [0, 3, 4, 11]) (.cond (.v 11) .skip (.exit 0))) (.seq (.block 1 (.rg [⟨some 14, .mv (.v 3), none, []⟩, ⟨some 15, .mv (.v 4), none, []⟩, ⟨some 16, .mv (.v 0), none, []⟩, ⟨some 17, .mv (.v 4), none, []⟩, ⟨some 18, .iaddr 6 (.v 16) (.v 17), none, [16, 17]⟩, ⟨some 19, .loadN 6 (.v 18), none, [18]⟩, ⟨some 20, .call 107 [.v 19], none, [19]⟩, ⟨some 21, .iaddr 6 (.v 14) (.v 15), none, [14, 15]⟩, ⟨none, .store 6 (.v 21) (.v 20), none, [20, 21]⟩] [0, 3, 4])) (.rg [⟨some 12, .mv (.v 4), none, [4]⟩, ⟨some 13, .binN .add (.v 12) (.c (.int .i64 1)), none, [12]⟩, ⟨some 4, .mv (.v 13), none, [13]⟩] [0, 3, 4])))
/-- laws.toHandBoxS: function 68 -/
def s_laws_toHandBoxS : SFun := { n := 23, res := [.t 2], body := (.seq (.rg [⟨some 2, .mv (.c (.sl 0 6 [])), none, [2]⟩] [0]) (.seq (.rg [⟨some 5, .mv (.v 0), none, []⟩, ⟨some 6, .lenL (.v 5), none, [5]⟩, ⟨some 7, .mk 107 121 6 [.int .i64 0, .int .i64 0, .int .i64 0, .int .i64 0, .int .i64 0, .int .i64 0] (.v 6), none, [6]⟩, ⟨some 3, .mv (.v 7), none, [7]⟩] [0, 3]) (.seq (.seq (.rg [⟨some 4, .mv (.c (.int .i64 0)), none, []⟩] [0, 3, 4]) (.block 0 (.loop l_laws_toHandBoxS_0))) (.seq (.rg [⟨some 22, .mv (.v 3), none, [3]⟩, ⟨some 2, .mv (.v 22), none, [22]⟩] [2]) (.gh (.frzE 2) .ret))))) }
theorem k_laws_toHandBoxS : okFun Go.Proofs.Try.prog 68 s_laws_toHandBoxS = true := by kernel_rfl
/-- impl.LapCraft).stays: function 71 -/
def s_impl_LapCraft_stays : SFun := { n := 46, res := [.t 6], body := (.seq (.rg [⟨some 3, .box 103 (.v 0), none, [0]⟩, ⟨some 4, .box 104 (.v 1), none, [1]⟩, ⟨some 6, .mv (.c (.bool false)), none, [6]⟩] [2, 3, 4]) (.seq (.rg [⟨some 12, .faddr 6 (.v 3), none, []⟩, ⟨some 13, .load1 (.v 12), none, [12]⟩, ⟨some 14, .lenL (.v 13), none, [13]⟩, ⟨some 7, .mv (.v 14), none, [14]⟩] [2, 3, 4, 7]) (.seq (.seq (.rg [⟨some 15, .mv (.v 7), none, []⟩, ⟨some 16, .bin .eql (.v 15) (.c (.int .i64 0)), none, [15]⟩] [2, 3, 4, 7, 16]) (.cond (.v 16) (.seq (.rg [⟨some 18, .loadN 5 (.v 4), none, [4]⟩, ⟨some 19, .call 10 [.v 18], none, [18]⟩, ⟨some 17, .mv (.v 19), none, [19]⟩, ⟨some 20, .ext 0 (.v 17), none, []⟩, ⟨some 21, .ext 1 (.v 17), none, [17]⟩, ⟨some 8, .mv (.v 20), none, [20]⟩, ⟨some 9, .mv (.v 21), none, [21]⟩] [2, 8, 9]) (.seq (.rg [⟨some 22, .mv (.v 9), none, [9]⟩, ⟨some 23, .mv (.v 22), none, [22]⟩, ⟨some 24, .mv (.v 8), some (23, true), [8]⟩, ⟨some 25, .iaddr 2 (.v 24) (.c (.int .i64 0)), some (23, true), [24]⟩, ⟨some 26, .faddr 1 (.v 25), some (23, true), [25]⟩, ⟨some 27, .load1 (.v 26), some (23, true), [26]⟩, ⟨some 28, .mv (.v 2), some (23, true), [2]⟩, ⟨some 29, .bin .gtr (.v 27) (.v 28), some (23, true), [27, 28]⟩, ⟨some 30, .pick (.v 23) (.v 29) (.c (.bool false)), none, [23, 29]⟩, ⟨some 6, .mv (.v 30), none, [30]⟩] [6]) .ret)) .skip)) (.seq (.rgd [⟨some 32, .loadN 5 (.v 4), none, []⟩, ⟨some 33, .mv (.v 7), none, []⟩, ⟨some 34, .binN .sub (.v 33) (.c (.int .i64 1)), none, []⟩, ⟨some 35, .faddr 6 (.v 3), none, []⟩, ⟨some 36, .load1 (.v 35), none, []⟩, ⟨some 37, .mv (.v 7), none, []⟩, ⟨some 38, .binN .sub (.v 37) (.c (.int .i64 1)), none, []⟩, ⟨some 39, .iaddr 1 (.v 36) (.v 38), none, []⟩, ⟨some 40, .load1 (.v 39), none, []⟩, ⟨some 41, .mv (.v 2), none, []⟩, ⟨some 42, .call 36 [.v 32, .v 34, .v 40, .v 41], none, []⟩, ⟨some 31, .mv (.v 42), none, []⟩, ⟨some 43, .ext 0 (.v 31), none, []⟩, ⟨some 44, .ext 1 (.v 31), none, []⟩, ⟨some 10, .alloc 110 [.int .i64 0, .int .i64 0, .sl 0 7 [], .int .i64 0, .int .i64 0], none, []⟩, ⟨none, .store 5 (.v 10) (.v 43), none, []⟩, ⟨some 11, .mv (.v 44), none, []⟩] [11] [some [], none, none, some [], some [], none, none, some [], some [], none, some [], none, none, none, some [13, 10, 9, 6, 5, 3], none, none]) (.seq (.rg [⟨some 45, .mv (.v 11), none, [11]⟩, ⟨some 6, .mv (.v 45), none, [45]⟩] [6]) .ret))))) }
theorem k_impl_LapCraft_stays : okFun Go.Proofs.Try.prog 71 s_impl_LapCraft_stays = true := by kernel_rfl
/-- laws.eqFlyKind: function 72 -/
def s_laws_eqFlyKind : SFun := { n := 15, res := [.t 4], body := (.seq (.rg [⟨some 2, .box 102 (.v 0), none, [0]⟩, ⟨some 3, .box 103 (.v 1), none, [1]⟩, ⟨some 4, .mv (.c (.bool false)), none, [4]⟩] [2, 3]) (.seq (.seq (.rg [⟨some 5, .faddr 0 (.v 2), none, []⟩, ⟨some 6, .load1 (.v 5), none, [5]⟩, ⟨some 7, .faddr 0 (.v 3), none, []⟩, ⟨some 8, .load1 (.v 7), none, [7]⟩, ⟨some 9, .bin .neq (.v 6) (.v 8), none, [6, 8]⟩] [2, 3, 9]) (.cond (.v 9) (.seq (.rg [⟨some 4, .mv (.c (.bool false)), none, []⟩] [4]) .ret) .skip)) (.seq (.seq (.rg [⟨some 10, .faddr 1 (.v 2), none, [2]⟩, ⟨some 11, .load1 (.v 10), none, [10]⟩, ⟨some 12, .faddr 1 (.v 3), none, [3]⟩, ⟨some 13, .load1 (.v 12), none, [12]⟩, ⟨some 14, .bin .neq (.v 11) (.v 13), none, [11, 13]⟩] [14]) (.cond (.v 14) (.seq (.rg [⟨some 4, .mv (.c (.bool false)), none, []⟩] [4]) .ret) .skip)) (.seq (.rg [⟨some 4, .mv (.c (.bool true)), none, []⟩] [4]) .ret)))) }
theorem k_laws_eqFlyKind : okFun Go.Proofs.Try.prog 72 s_laws_eqFlyKind = true := by kernel_rfl
def l_laws_eqHandBoxS_0 : SCode := (.seq (.seq (.rg [⟨some 11, .mv (.v 5), none, []⟩, ⟨some 12, .mv (.v 0), none, []⟩, ⟨some 13, .lenL (.v 12), none, [12]⟩, ⟨some 14, .bin .lss (.v 11) (.v 13), none, [11, 13]⟩] [0, 1, 5, 14]) (.cond (.v 14) .skip (.exit 0))) (.seq (.block 1 (.seq (.rgd [⟨some 17, .mv (.v 0), none, []⟩, ⟨some 18, .mv (.v 5), none, []⟩, ⟨some 19, .iaddr 6 (.v 17) (.v 18), none, []⟩, ⟨some 20, .loadN 6 (.v 19), none, []⟩, ⟨some 21, .mv (.v 1), none, []⟩, ⟨some 22, .mv (.v 5), none, []⟩, ⟨some 23, .iaddr 6 (.v 21) (.v 22), none, []⟩, ⟨some 24, .loadN 6 (.v 23), none, []⟩, ⟨some 25, .call 109 [.v 20, .v 24], none, []⟩, ⟨some 26, .not (.v 25), none, []⟩] [0, 1, 5, 26] [none, none, none, none, none, none, none, none, none, none]) (.cond (.v 26) (.seq (.rg [⟨some 4, .mv (.c (.bool false)), none, []⟩] [4]) .ret) .skip))) (.rg [⟨some 15, .mv (.v 5), none, [5]⟩, ⟨some 16, .binN .add (.v 15) (.c (.int .i64 1)), none, [15]⟩, ⟨some 5, .mv (.v 16), none, [16]⟩] [0, 1, 5])))
/-- laws.eqHandBoxS: function 73 -/
def s_laws_eqHandBoxS : SFun := { n := 27, res := [.t 4], body := (.seq (.rg [⟨some 4, .mv (.c (.bool false)), none, [4]⟩] [0, 1]) (.seq (.seq (.rg [⟨some 6, .mv (.v 0), none, []⟩, ⟨some 7, .lenL (.v 6), none, [6]⟩, ⟨some 8, .mv (.v 1), none, []⟩, ⟨some 9, .lenL (.v 8), none, [8]⟩, ⟨some 10, .bin .neq (.v 7) (.v 9), none, [7, 9]⟩] [0, 1, 10]) (.cond (.v 10) (.seq (.rg [⟨some 4, .mv (.c (.bool false)), none, []⟩] [4]) .ret) .skip)) (.seq (.seq (.rg [⟨some 5, .mv (.c (.int .i64 0)), none, []⟩] [0, 1, 5]) (.block 0 (.loop l_laws_eqHandBoxS_0))) (.seq (.rg [⟨some 4, .mv (.c (.bool true)), none, []⟩] [4]) .ret)))) }
theorem k_laws_eqHandBoxS : okFun Go.Proofs.Try.prog 73 s_laws_eqHandBoxS = true := by kernel_rfl
/-- impl.FlyPath).rest: function 91 -/
def s_impl_FlyPath_rest : SFun := { n := 68, res := [.cN 10 5, .t 11], body := (.seq (.rg [⟨some 5, .box 105 (.v 0), none, [0]⟩, ⟨some 10, .alloc 110 [.int .i64 0, .int .i64 0, .sl 0 7 [], .int .i64 0, .int .i64 0], none, []⟩, ⟨some 11, .mv (.c (.bool false)), none, [11]⟩] [1, 2, 3, 4, 5, 10]) (.seq (.rgd [⟨some 15, .faddr 0 (.v 5), none, []⟩, ⟨some 16, .loadN 2 (.v 15), none, []⟩, ⟨some 17, .faddr 2 (.v 5), none, []⟩, ⟨some 18, .load1 (.v 17), none, []⟩, ⟨some 19, .mv (.v 1), none, []⟩, ⟨some 20, .slSl 7 (.v 18) (some (.v 19)) none, none, []⟩, ⟨some 21, .app 121 64 7 (.c (.sl 0 7 [])) (.v 20), none, []⟩, ⟨some 22, .faddr 3 (.v 5), none, []⟩, ⟨some 23, .load1 (.v 22), none, []⟩, ⟨some 24, .faddr 4 (.v 5), none, []⟩, ⟨some 25, .load1 (.v 24), none, []⟩, ⟨some 26, .build [.int .i64 0, .int .i64 0, .sl 0 7 [], .int .i64 0, .int .i64 0] [(0, 2, .v 16), (2, 1, .v 21), (3, 1, .v 23), (4, 1, .v 25)], none, []⟩, ⟨some 12, .alloc 112 [.int .i64 0, .int .i64 0, .sl 0 7 [], .int .i64 0, .int .i64 0], none, []⟩, ⟨none, .store 5 (.v 12) (.v 26), none, []⟩] [2, 3, 4, 10, 12] [some [], some [], some [], some [], none, some [], some [5, 4], some [0], some [1], some [2], some [3], none, some [11, 10, 9, 8, 6, 5, 4, 3, 2, 1], none]) (.seq (.rgd [⟨some 27, .faddr 2 (.v 12), none, []⟩, ⟨some 28, .load1 (.v 27), none, []⟩, ⟨some 29, .faddr 2 (.v 12), none, []⟩, ⟨some 30, .load1 (.v 29), none, []⟩, ⟨some 31, .mv (.v 2), none, []⟩, ⟨some 32, .mv (.v 3), none, []⟩, ⟨some 33, .iaddr 7 (.v 28) (.c (.int .i64 0)), none, []⟩, ⟨some 34, .faddr 4 (.v 33), none, []⟩, ⟨none, .store 1 (.v 34) (.v 31), none, []⟩, ⟨some 35, .iaddr 7 (.v 30) (.c (.int .i64 0)), none, []⟩, ⟨some 36, .faddr 5 (.v 35), none, []⟩, ⟨none, .store 1 (.v 36) (.v 32), none, []⟩] [4, 10, 12] [none, none, some [], some [], none, none, none, none, some [5, 4], none, none, none]) (.seq (.seq (.rg [⟨some 37, .faddr 2 (.v 12), none, []⟩, ⟨some 38, .load1 (.v 37), none, [37]⟩, ⟨some 39, .lenL (.v 38), none, [38]⟩, ⟨some 40, .bin .gtr (.v 39) (.c (.int .i64 1)), none, [39]⟩] [4, 10, 12, 40]) (.cond (.v 40) (.rgd [⟨some 41, .faddr 2 (.v 12), none, []⟩, ⟨some 42, .load1 (.v 41), none, []⟩, ⟨some 43, .faddr 2 (.v 12), none, []⟩, ⟨some 44, .load1 (.v 43), none, []⟩, ⟨some 45, .iaddr 7 (.v 44) (.c (.int .i64 1)), none, []⟩, ⟨some 46, .faddr 4 (.v 45), none, []⟩, ⟨some 47, .load1 (.v 46), none, []⟩, ⟨some 48, .mv (.v 4), none, []⟩, ⟨some 49, .binN .add (.v 48) (.c (.int .i64 1)), none, []⟩, ⟨some 50, .mx (.v 47) (.v 49), none, []⟩, ⟨some 51, .iaddr 7 (.v 42) (.c (.int .i64 1)), none, []⟩, ⟨some 52, .faddr 4 (.v 51), none, []⟩, ⟨none, .store 1 (.v 52) (.v 50), none, []⟩] [10, 12] [none, none, none, none, none, none, none, none, none, none, none, none, none]) (.rg [⟨some 53, .faddr 3 (.v 12), none, []⟩, ⟨some 54, .load1 (.v 53), none, [53]⟩, ⟨some 55, .mv (.v 4), none, [4]⟩, ⟨some 56, .binN .add (.v 55) (.c (.int .i64 1)), none, [55]⟩, ⟨some 57, .mx (.v 54) (.v 56), none, [54, 56]⟩, ⟨some 58, .faddr 3 (.v 12), none, []⟩, ⟨none, .store 1 (.v 58) (.v 57), none, [57, 58]⟩] [10, 12]))) (.seq (.seq (.rg [⟨some 60, .loadN 5 (.v 12), none, []⟩, ⟨some 61, .call 10 [.v 60], none, [60]⟩, ⟨some 59, .mv (.v 61), none, [61]⟩, ⟨some 62, .ext 0 (.v 59), none, []⟩, ⟨some 63, .ext 1 (.v 59), none, [59]⟩, ⟨some 13, .mv (.v 62), none, [13, 62]⟩, ⟨some 14, .mv (.v 63), none, [63]⟩] [10, 12, 14]) (.seq (.rg [⟨some 64, .mv (.v 14), none, [14]⟩, ⟨some 65, .not (.v 64), none, [64]⟩] [10, 12, 65]) (.cond (.v 65) (.seq (.rg [⟨some 66, .build [.int .i64 0, .int .i64 0, .sl 0 7 [], .int .i64 0, .int .i64 0] [], none, []⟩, ⟨none, .store 5 (.v 10) (.v 66), none, [66]⟩, ⟨some 11, .mv (.c (.bool false)), none, []⟩] [10, 11]) (.gh (.frzB 110 2) .ret)) .skip))) (.seq (.rg [⟨some 67, .loadN 5 (.v 12), none, [12]⟩, ⟨none, .store 5 (.v 10) (.v 67), none, [67]⟩, ⟨some 11, .mv (.c (.bool true)), none, []⟩] [10, 11]) (.gh (.frzB 110 2) .ret))))))) }
theorem k_impl_FlyPath_rest : okFun Go.Proofs.Try.prog 91 s_impl_FlyPath_rest = true := by kernel_rfl
/-- spec.l27Tail: function 93 -/
def s_spec_l27Tail : SFun := { n := 18, res := [.cN 4 5], body := (.seq (.rg [⟨some 2, .box 102 (.v 0), none, [0]⟩, ⟨some 4, .alloc 104 [.int .i64 0, .int .i64 0, .sl 0 7 [], .int .i64 0, .int .i64 0], none, []⟩] [1, 2, 4]) (.seq (.rgd [⟨some 5, .faddr 0 (.v 2), none, []⟩, ⟨some 6, .loadN 2 (.v 5), none, []⟩, ⟨some 7, .litOwn 112 64 7 [], none, []⟩, ⟨some 8, .faddr 2 (.v 2), none, []⟩, ⟨some 9, .load1 (.v 8), none, []⟩, ⟨some 10, .mv (.v 1), none, []⟩, ⟨some 11, .slSl 7 (.v 9) (some (.v 10)) none, none, []⟩, ⟨some 12, .app 112 64 7 (.v 7) (.v 11), none, []⟩, ⟨some 13, .faddr 3 (.v 2), none, []⟩, ⟨some 14, .load1 (.v 13), none, []⟩, ⟨some 15, .faddr 4 (.v 2), none, []⟩, ⟨some 16, .load1 (.v 15), none, []⟩, ⟨some 17, .build [.int .i64 0, .int .i64 0, .sl 0 7 [], .int .i64 0, .int .i64 0] [(0, 2, .v 6), (2, 1, .v 12), (3, 1, .v 14), (4, 1, .v 16)], none, []⟩, ⟨none, .store 5 (.v 4) (.v 17), none, []⟩] [4] [some [], some [], some [1, 0], some [0], some [1], none, some [3], some [6, 5], some [5, 0], some [6, 1], some [7, 2], some [8, 3], none, none]) .ret)) }
theorem k_spec_l27Tail : okFun Go.Proofs.Try.prog 93 s_spec_l27Tail = true := by kernel_rfl
/-- spec.l27Can: function 95 -/
def s_spec_l27Can : SFun := { n := 15, res := [.cN 2 5, .t 3], body := (.seq (.rg [⟨some 1, .box 101 (.v 0), none, [0]⟩, ⟨some 2, .alloc 102 [.int .i64 0, .int .i64 0, .sl 0 7 [], .int .i64 0, .int .i64 0], none, []⟩, ⟨some 3, .mv (.c (.bool false)), none, [3]⟩] [1, 2]) (.seq (.rg [⟨some 7, .loadN 5 (.v 1), none, []⟩, ⟨some 8, .call 54 [.v 7], none, [7]⟩, ⟨some 6, .mv (.v 8), none, [8]⟩, ⟨some 9, .ext 0 (.v 6), none, []⟩, ⟨some 10, .ext 1 (.v 6), none, [6]⟩, ⟨some 4, .mv (.v 9), none, [4, 9]⟩, ⟨some 5, .mv (.v 10), none, [10]⟩] [1, 2, 5]) (.seq (.seq (.rg [⟨some 11, .mv (.v 5), none, [5]⟩, ⟨some 12, .not (.v 11), none, [11]⟩] [1, 2, 12]) (.cond (.v 12) (.seq (.rg [⟨some 13, .build [.int .i64 0, .int .i64 0, .sl 0 7 [], .int .i64 0, .int .i64 0] [], none, []⟩, ⟨none, .store 5 (.v 2) (.v 13), none, [13]⟩, ⟨some 3, .mv (.c (.bool false)), none, []⟩] [2, 3]) .ret) .skip)) (.seq (.rg [⟨some 14, .loadN 5 (.v 1), none, [1]⟩, ⟨none, .store 5 (.v 2) (.v 14), none, [14]⟩, ⟨some 3, .mv (.c (.bool true)), none, []⟩] [2, 3]) .ret)))) }
theorem k_spec_l27Can : okFun Go.Proofs.Try.prog 95 s_spec_l27Can = true := by kernel_rfl
/-- spec.l27After: function 96 -/
def s_spec_l27After : SFun := { n := 28, res := [.cN 4 5], body := (.seq (.rg [⟨some 2, .box 102 (.v 0), none, [0]⟩, ⟨some 4, .alloc 104 [.int .i64 0, .int .i64 0, .sl 0 7 [], .int .i64 0, .int .i64 0], none, []⟩] [1, 2, 4]) (.seq (.seq (.rg [⟨some 5, .faddr 2 (.v 2), none, []⟩, ⟨some 6, .load1 (.v 5), none, [5]⟩, ⟨some 7, .lenL (.v 6), none, [6]⟩, ⟨some 8, .bin .gtr (.v 7) (.c (.int .i64 1)), none, [7]⟩] [1, 2, 4, 8]) (.cond (.v 8) (.rgd [⟨some 9, .faddr 2 (.v 2), none, []⟩, ⟨some 10, .load1 (.v 9), none, []⟩, ⟨some 11, .faddr 2 (.v 2), none, []⟩, ⟨some 12, .load1 (.v 11), none, []⟩, ⟨some 13, .iaddr 7 (.v 12) (.c (.int .i64 1)), none, []⟩, ⟨some 14, .faddr 4 (.v 13), none, []⟩, ⟨some 15, .load1 (.v 14), none, []⟩, ⟨some 16, .mv (.v 1), none, []⟩, ⟨some 17, .binN .add (.v 16) (.c (.int .i64 1)), none, []⟩, ⟨some 18, .call 84 [.v 15, .v 17], none, []⟩, ⟨some 19, .iaddr 7 (.v 10) (.c (.int .i64 1)), none, []⟩, ⟨some 20, .faddr 4 (.v 19), none, []⟩, ⟨none, .store 1 (.v 20) (.v 18), none, []⟩] [2, 4] [some [], some [], none, none, none, none, none, none, none, some [8, 7], none, none, none]) (.rg [⟨some 21, .faddr 3 (.v 2), none, []⟩, ⟨some 22, .load1 (.v 21), none, [21]⟩, ⟨some 23, .mv (.v 1), none, [1]⟩, ⟨some 24, .binN .add (.v 23) (.c (.int .i64 1)), none, [23]⟩, ⟨some 25, .call 84 [.v 22, .v 24], none, [22, 24]⟩, ⟨some 26, .faddr 3 (.v 2), none, []⟩, ⟨none, .store 1 (.v 26) (.v 25), none, [25, 26]⟩] [2, 4]))) (.seq (.rg [⟨some 27, .loadN 5 (.v 2), none, [2]⟩, ⟨none, .store 5 (.v 4) (.v 27), none, [27]⟩] [4]) .ret))) }
theorem k_spec_l27After : okFun Go.Proofs.Try.prog 96 s_spec_l27After = true := by kernel_rfl
/-- spec.l43Waits: function 106 -/
def s_spec_l43Waits : SFun := { n := 36, res := [.t 4], body := (.seq (.rg [⟨some 2, .box 102 (.v 0), none, [0]⟩, ⟨some 4, .mv (.c (.bool false)), none, [4]⟩] [1, 2]) (.seq (.rg [⟨some 8, .loadN 5 (.v 2), none, []⟩, ⟨some 9, .call 112 [.v 8], none, [8]⟩, ⟨some 5, .alloc 105 [.int .i64 0, .int .i64 0, .sl 0 7 [], .int .i64 0, .int .i64 0], none, []⟩, ⟨none, .store 5 (.v 5) (.v 9), none, [9]⟩] [1, 2, 5]) (.seq (.seq (.rg [⟨some 10, .faddr 2 (.v 5), none, []⟩, ⟨some 11, .load1 (.v 10), none, [10]⟩, ⟨some 12, .lenL (.v 11), none, [11]⟩, ⟨some 13, .bin .gtr (.v 12) (.c (.int .i64 0)), none, [12]⟩] [1, 2, 5, 13]) (.cond (.v 13) (.rgd [⟨some 14, .faddr 2 (.v 5), none, []⟩, ⟨some 15, .load1 (.v 14), none, []⟩, ⟨some 16, .faddr 2 (.v 5), none, []⟩, ⟨some 17, .load1 (.v 16), none, []⟩, ⟨some 18, .iaddr 7 (.v 17) (.c (.int .i64 0)), none, []⟩, ⟨some 19, .faddr 4 (.v 18), none, []⟩, ⟨some 20, .load1 (.v 19), none, []⟩, ⟨some 21, .mv (.v 1), none, []⟩, ⟨some 22, .binN .add (.v 21) (.c (.int .i64 1)), none, []⟩, ⟨some 23, .call 84 [.v 20, .v 22], none, []⟩, ⟨some 24, .iaddr 7 (.v 15) (.c (.int .i64 0)), none, []⟩, ⟨some 25, .faddr 4 (.v 24), none, []⟩, ⟨none, .store 1 (.v 25) (.v 23), none, []⟩] [2, 5] [some [], some [], none, none, none, none, none, none, none, some [8, 7], none, none, none]) .skip)) (.seq (.rg [⟨some 27, .loadN 5 (.v 5), none, [5]⟩, ⟨some 28, .call 54 [.v 27], none, [27]⟩, ⟨some 26, .mv (.v 28), none, [28]⟩, ⟨some 29, .ext 0 (.v 26), none, []⟩, ⟨some 30, .ext 1 (.v 26), none, [26]⟩, ⟨some 6, .mv (.v 29), none, [6, 29]⟩, ⟨some 7, .mv (.v 30), none, [30]⟩] [2, 7]) (.seq (.rg [⟨some 31, .loadN 5 (.v 2), none, [2]⟩, ⟨some 32, .call 33 [.v 31], none, [31]⟩, ⟨some 33, .mv (.v 32), none, [32]⟩, ⟨some 34, .mv (.v 7), some (33, true), [7]⟩, ⟨some 35, .pick (.v 33) (.v 34) (.c (.bool false)), none, [33, 34]⟩, ⟨some 4, .mv (.v 35), none, [35]⟩] [4]) .ret))))) }
theorem k_spec_l43Waits : okFun Go.Proofs.Try.prog 106 s_spec_l43Waits = true := by kernel_rfl
/-- laws.toHandBox: function 107 -/
def s_laws_toHandBox : SFun := { n := 23, res := [.cN 2 6], body := (.seq (.rg [⟨some 1, .box 101 (.v 0), none, [0]⟩, ⟨some 2, .alloc 102 [.int .i64 0, .int .i64 0, .int .i64 0, .int .i64 0, .int .i64 0, .int .i64 0], none, []⟩] [1, 2]) (.seq (.rg [⟨some 3, .alloc 103 [.int .i64 0, .int .i64 0, .int .i64 0, .int .i64 0, .int .i64 0, .int .i64 0], none, []⟩] [1, 2, 3]) (.seq (.rg [⟨some 4, .faddr 0 (.v 1), none, []⟩, ⟨some 5, .load1 (.v 4), none, [4]⟩, ⟨some 6, .faddr 0 (.v 3), none, []⟩, ⟨none, .store 1 (.v 6) (.v 5), none, [5, 6]⟩] [1, 2, 3]) (.seq (.rg [⟨some 7, .faddr 1 (.v 1), none, []⟩, ⟨some 8, .load1 (.v 7), none, [7]⟩, ⟨some 9, .faddr 1 (.v 3), none, []⟩, ⟨none, .store 1 (.v 9) (.v 8), none, [8, 9]⟩] [1, 2, 3]) (.seq (.rg [⟨some 10, .faddr 2 (.v 1), none, []⟩, ⟨some 11, .load1 (.v 10), none, [10]⟩, ⟨some 12, .faddr 2 (.v 3), none, []⟩, ⟨none, .store 1 (.v 12) (.v 11), none, [11, 12]⟩] [1, 2, 3]) (.seq (.rg [⟨some 13, .faddr 3 (.v 1), none, []⟩, ⟨some 14, .load1 (.v 13), none, [13]⟩, ⟨some 15, .faddr 3 (.v 3), none, []⟩, ⟨none, .store 1 (.v 15) (.v 14), none, [14, 15]⟩] [1, 2, 3]) (.seq (.rg [⟨some 16, .faddr 4 (.v 1), none, []⟩, ⟨some 17, .load1 (.v 16), none, [16]⟩, ⟨some 18, .faddr 4 (.v 3), none, []⟩, ⟨none, .store 1 (.v 18) (.v 17), none, [17, 18]⟩] [1, 2, 3]) (.seq (.rg [⟨some 19, .faddr 5 (.v 1), none, [1]⟩, ⟨some 20, .load1 (.v 19), none, [19]⟩, ⟨some 21, .faddr 5 (.v 3), none, []⟩, ⟨none, .store 1 (.v 21) (.v 20), none, [20, 21]⟩] [2, 3]) (.seq (.rg [⟨some 22, .loadN 6 (.v 3), none, [3]⟩, ⟨none, .store 6 (.v 2) (.v 22), none, [22]⟩] [2]) .ret))))))))) }
theorem k_laws_toHandBox : okFun Go.Proofs.Try.prog 107 s_laws_toHandBox = true := by kernel_rfl
/-- laws.eqHandBox: function 109 -/
def s_laws_eqHandBox : SFun := { n := 35, res := [.t 4], body := (.seq (.rg [⟨some 2, .box 102 (.v 0), none, [0]⟩, ⟨some 3, .box 103 (.v 1), none, [1]⟩, ⟨some 4, .mv (.c (.bool false)), none, [4]⟩] [2, 3]) (.seq (.seq (.rg [⟨some 5, .faddr 0 (.v 2), none, []⟩, ⟨some 6, .load1 (.v 5), none, [5]⟩, ⟨some 7, .faddr 0 (.v 3), none, []⟩, ⟨some 8, .load1 (.v 7), none, [7]⟩, ⟨some 9, .bin .neq (.v 6) (.v 8), none, [6, 8]⟩] [2, 3, 9]) (.cond (.v 9) (.seq (.rg [⟨some 4, .mv (.c (.bool false)), none, []⟩] [4]) .ret) .skip)) (.seq (.seq (.rg [⟨some 10, .faddr 1 (.v 2), none, []⟩, ⟨some 11, .load1 (.v 10), none, [10]⟩, ⟨some 12, .faddr 1 (.v 3), none, []⟩, ⟨some 13, .load1 (.v 12), none, [12]⟩, ⟨some 14, .bin .neq (.v 11) (.v 13), none, [11, 13]⟩] [2, 3, 14]) (.cond (.v 14) (.seq (.rg [⟨some 4, .mv (.c (.bool false)), none, []⟩] [4]) .ret) .skip)) (.seq (.seq (.rg [⟨some 15, .faddr 2 (.v 2), none, []⟩, ⟨some 16, .load1 (.v 15), none, [15]⟩, ⟨some 17, .faddr 2 (.v 3), none, []⟩, ⟨some 18, .load1 (.v 17), none, [17]⟩, ⟨some 19, .bin .neq (.v 16) (.v 18), none, [16, 18]⟩] [2, 3, 19]) (.cond (.v 19) (.seq (.rg [⟨some 4, .mv (.c (.bool false)), none, []⟩] [4]) .ret) .skip)) (.seq (.seq (.rg [⟨some 20, .faddr 3 (.v 2), none, []⟩, ⟨some 21, .load1 (.v 20), none, [20]⟩, ⟨some 22, .faddr 3 (.v 3), none, []⟩, ⟨some 23, .load1 (.v 22), none, [22]⟩, ⟨some 24, .bin .neq (.v 21) (.v 23), none, [21, 23]⟩] [2, 3, 24]) (.cond (.v 24) (.seq (.rg [⟨some 4, .mv (.c (.bool false)), none, []⟩] [4]) .ret) .skip)) (.seq (.seq (.rg [⟨some 25, .faddr 4 (.v 2), none, []⟩, ⟨some 26, .load1 (.v 25), none, [25]⟩, ⟨some 27, .faddr 4 (.v 3), none, []⟩, ⟨some 28, .load1 (.v 27), none, [27]⟩, ⟨some 29, .bin .neq (.v 26) (.v 28), none, [26, 28]⟩] [2, 3, 29]) (.cond (.v 29) (.seq (.rg [⟨some 4, .mv (.c (.bool false)), none, []⟩] [4]) .ret) .skip)) (.seq (.seq (.rg [⟨some 30, .faddr 5 (.v 2), none, [2]⟩, ⟨some 31, .load1 (.v 30), none, [30]⟩, ⟨some 32, .faddr 5 (.v 3), none, [3]⟩, ⟨some 33, .load1 (.v 32), none, [32]⟩, ⟨some 34, .bin .neq (.v 31) (.v 33), none, [31, 33]⟩] [34]) (.cond (.v 34) (.seq (.rg [⟨some 4, .mv (.c (.bool false)), none, []⟩] [4]) .ret) .skip)) (.seq (.rg [⟨some 4, .mv (.c (.bool true)), none, []⟩] [4]) .ret)))))))) }
theorem k_laws_eqHandBox : okFun Go.Proofs.Try.prog 109 s_laws_eqHandBox = true := by kernel_rfl
end Go.Ve
namespace Go.Ve
open Go.Proofs
set_option linter.unusedSimpArgs false
set_option linter.unusedVariables false
set_option maxRecDepth 100000
theorem take_all {α : Type} {f : α → List AV} {l : List α} : List.take l.length (List.map f l) = List.map f l := List.take_of_length_le (by simp)
def Path5.tail (p : Path5) (k : Nat) : Path5 := { p with l := p.l.drop k }
def Path5.after (p : Path5) (now : Int) : Path5 := if 1 < p.l.length then { p with l := p.l.set 1 { p.l.getD 1 default with f := max (p.l.getD 1 default).f (now + 1) } } else { p with f := max p.f (now + 1) }
def Path5.avO (p : Path5) (o v : Nat) : AV := .agg [.int .i64 p.q, .int .i64 p.s, .own o v 0 p.l.length, .int .i64 p.f, .int .i64 p.b]
theorem c_l27Tail (p : Path5) (t : Nat) (k : Int) (hk : 0 ≤ k ∧ k ≤ p.l.length) (hn : p.l.length ≤ 1048576) : Contract P 93 [.agg [.int .i64 p.q, .int .i64 p.s, .sl t 7 (p.l.map Stp7.row), .int .i64 p.f, .int .i64 p.b], .int .i64 k] [] ((p.tail k.toNat).avO 112 1) [(112, .arr 64 1 7 ((p.tail k.toNat).l.map Stp7.row))] := by
  refine fn_sound (Env.nil P) hm k_spec_l27Tail (Nat.le_of_ble_eq_true rfl) rfl ?_
  unfold s_spec_l27Tail
  simp only [w_skip, w_rg, w_rgd, w_seq, w_cond, w_block, w_loop, w_exit, w_ret, w_gh, w_rg0, w_rg1, w_rgT, w_rgF, w_run, w_psd, w_und, w_dr0, w_dr1, w_drT, w_drF, w_drRun, w_drPsd, w_drUnd, w_drKn, w_drKs, w_putK, w_trimK, w_thenN, w_thenE, w_thenR, w_blkN, w_blkE, w_blkR, w_call, w_effK, brU_true, brU_false, brU_u, brU_not, brU_and, brU_or, brU_dec, brU_eq, brU_ne, br_true, br_false, br_not, br_and, br_or, br_dec, br_eq, br_ne, w_getE0, w_getE1, w_setE0, w_setE1, w_dropE0, w_dropE1, w_drop0, w_drop1, w_getM0, w_getM1, w_setM0, w_setM1, ev_v, ev_c, w_putS, w_putN, w_lit, w_apU0, w_apU1, w_trim, enumE0, enumE1, w_callWp, w_callL, w_callT, w_T1, w_T0, o_mv, o_newnil, o_pick, o_bin, o_binN, o_neg, o_not, o_eqB, o_eqS, o_conv, o_alloc, o_box, o_load1, o_loadN, o_store, o_nilck, o_faddr, o_field1, o_fieldN, o_iaddr, o_istr, o_slStr, o_slSl, o_lenS, o_lenL, o_mx, o_mn, o_ext, o_build, o_lit, o_litOwn, o_app, o_mk, o_mvfrz, l_int, l_bool, l_str, l_agg, l_sl, l_own, l_ptr, l_pp, i_int, i_bool, i_str, i_sl, i_own, i_ptr, i_pp, all0, all1, e_ok1, eff, effBin, effBinN, ld_ptr, ld_pp, ld_elt, ia_own, ia_arr, el_1, el_N, load1K, faddrE, r_iaddr, sg_S, sg_c, sg_n, purL, pur, List.map, List.drop, List.take, List.length, List.foldl, List.append_eq, List.nil_append, List.cons_append, List.getD_cons_zero, List.getD_cons_succ, reduceIte, Nat.reduceEqDiff, Nat.reduceAdd, Nat.reduceLeDiff, true_and, and_true, Bool.not_true, Bool.not_false, Bool.and_true, Bool.true_and, Bool.and_self, reduceCtorEq, true_implies, false_implies, implies_true, decide_eq_true_eq, Option.map_some, fpOf, fpX, SOp.xs, oX, refs, refsL, dom, disj, List.all_nil, List.all_cons, List.contains_cons, List.contains_nil, Nat.reduceBEq, Bool.or_false, Bool.false_or, List.append_nil, Bool.not_false, Bool.not_true, List.forall_mem_cons, fm0, List.set, Nat.reduceLT, ne_eq, not_false_eq_true, not_true_eq_false, ret1, ret1N, keep0, keep1, rf_int, rf_bool, rf_str, rf_sl, rf_agg, rf_tup, rfL0, rfL1, re_t, re_cN, re_L0, re_L1, ret_tup, ret_one, decide_true, AV.bool.injEq, AV.int.injEq, Nat.reduceLeDiff, Bool.true_eq, Bool.false_eq, decide_eq_true_eq, decide_eq_false_iff_not, List.length_map, rowsOf, appE, ghost, retQ_eq, retOk, wkM, refsInO, keepB, Path5.avO, Path5.tail, optI, take_rr, take_all, List.length_drop]
  rw [Int.toNat_natCast, take_all, List.length_map, Nat.zero_add, ← List.map_drop]
  exact ⟨by omega, by omega, rfl, rfl, rfl, rfl⟩
theorem c_l27After (p : Path5) (v : Nat) (now : Int) (hw : -4611686018427387904 ≤ now ∧ now ≤ 4611686018427387904) (hn : p.l.length ≤ 1048576) : Contract P 96 [p.avO 3 v, .int .i64 now] [(3, .arr 64 v 7 (p.l.map Stp7.row))] ((p.after now).avO 3 v) [(3, .arr 64 v 7 ((p.after now).l.map Stp7.row))] := by
  refine fn_sound ((Env.nil P).add 84 t_l21Max h_l21Max) hm k_spec_l27After (Nat.le_of_ble_eq_true rfl) rfl ?_
  unfold s_spec_l27After
  simp only [w_skip, w_rg, w_rgd, w_seq, w_cond, w_block, w_loop, w_exit, w_ret, w_gh, w_rg0, w_rg1, w_rgT, w_rgF, w_run, w_psd, w_und, w_dr0, w_dr1, w_drT, w_drF, w_drRun, w_drPsd, w_drUnd, w_drKn, w_drKs, w_putK, w_trimK, w_thenN, w_thenE, w_thenR, w_blkN, w_blkE, w_blkR, w_call, w_effK, brU_true, brU_false, brU_u, brU_not, brU_and, brU_or, brU_dec, brU_eq, brU_ne, br_true, br_false, br_not, br_and, br_or, br_dec, br_eq, br_ne, w_getE0, w_getE1, w_setE0, w_setE1, w_dropE0, w_dropE1, w_drop0, w_drop1, w_getM0, w_getM1, w_setM0, w_setM1, ev_v, ev_c, w_putS, w_putN, w_lit, w_apU0, w_apU1, w_trim, enumE0, enumE1, w_callWp, w_callL, w_callT, w_T1, w_T0, o_mv, o_newnil, o_pick, o_bin, o_binN, o_neg, o_not, o_eqB, o_eqS, o_conv, o_alloc, o_box, o_load1, o_loadN, o_store, o_nilck, o_faddr, o_field1, o_fieldN, o_iaddr, o_istr, o_slStr, o_slSl, o_lenS, o_lenL, o_mx, o_mn, o_ext, o_build, o_lit, o_litOwn, o_app, o_mk, o_mvfrz, l_int, l_bool, l_str, l_agg, l_sl, l_own, l_ptr, l_pp, i_int, i_bool, i_str, i_sl, i_own, i_ptr, i_pp, all0, all1, e_ok1, eff, effBin, effBinN, ld_ptr, ld_pp, ld_elt, ia_own, ia_arr, el_1, el_N, load1K, faddrE, r_iaddr, sg_S, sg_c, sg_n, purL, pur, List.map, List.drop, List.take, List.length, List.foldl, List.append_eq, List.nil_append, List.cons_append, List.getD_cons_zero, List.getD_cons_succ, reduceIte, Nat.reduceEqDiff, Nat.reduceAdd, Nat.reduceLeDiff, true_and, and_true, Bool.not_true, Bool.not_false, Bool.and_true, Bool.true_and, Bool.and_self, reduceCtorEq, true_implies, false_implies, implies_true, decide_eq_true_eq, Option.map_some, fpOf, fpX, SOp.xs, oX, refs, refsL, dom, disj, List.all_nil, List.all_cons, List.contains_cons, List.contains_nil, Nat.reduceBEq, Bool.or_false, Bool.false_or, List.append_nil, Bool.not_false, Bool.not_true, List.forall_mem_cons, fm0, List.set, Nat.reduceLT, ne_eq, not_false_eq_true, not_true_eq_false, ret1, ret1N, keep0, keep1, rf_int, rf_bool, rf_str, rf_sl, rf_agg, rf_tup, rfL0, rfL1, re_t, re_cN, re_L0, re_L1, ret_tup, ret_one, decide_true, AV.bool.injEq, AV.int.injEq, Nat.reduceLeDiff, Bool.true_eq, Bool.false_eq, decide_eq_true_eq, decide_eq_false_iff_not, t_l21Max, List.length_map, Stp7.row, irow, stp_eta, Int.toNat_natCast, flatOk, noref, ghost, List.length_range, Nat.zero_add, Nat.sub_zero, set_f, set_b, List.length_set, Path5.avO, retQ_eq, retOk, wkM, refsInO, keepB]
  have two : ((2 : Nat) : Int) = 2 := rfl
  unfold Path5.after
  refine ⟨fun h => ?_, fun h => ?_⟩
  · rw [if_pos (by omega)]
    refine ⟨⟨by omega, by omega⟩, by omega, by omega, ⟨by omega, by omega⟩, ?_, rfl, rfl, rfl⟩
    simp only [List.length_set]
  · rw [if_neg (by omega)]
    exact ⟨by omega, rfl, rfl, rfl, rfl⟩
theorem c_l27Can1 (p : Path5) (v : Nat) (hc : p.calm) (hcan : p.can) : Contract P 95 [p.avO 3 v] [(3, .arr 64 v 7 (p.l.map Stp7.row))] (.tup [p.avO 3 v, .bool true]) [(3, .arr 64 v 7 (p.l.map Stp7.row))] := by
  refine fn_sound ((Env.nil P).add 54 t_l24Spans h_l24Spans) hm k_spec_l27Can (Nat.le_of_ble_eq_true rfl) rfl ?_
  unfold s_spec_l27Can
  simp only [w_skip, w_rg, w_rgd, w_seq, w_cond, w_block, w_loop, w_exit, w_ret, w_gh, w_rg0, w_rg1, w_rgT, w_rgF, w_run, w_psd, w_und, w_dr0, w_dr1, w_drT, w_drF, w_drRun, w_drPsd, w_drUnd, w_drKn, w_drKs, w_putK, w_trimK, w_thenN, w_thenE, w_thenR, w_blkN, w_blkE, w_blkR, w_call, w_effK, brU_true, brU_false, brU_u, brU_not, brU_and, brU_or, brU_dec, brU_eq, brU_ne, br_true, br_false, br_not, br_and, br_or, br_dec, br_eq, br_ne, w_getE0, w_getE1, w_setE0, w_setE1, w_dropE0, w_dropE1, w_drop0, w_drop1, w_getM0, w_getM1, w_setM0, w_setM1, ev_v, ev_c, w_putS, w_putN, w_lit, w_apU0, w_apU1, w_trim, enumE0, enumE1, w_callWp, w_callL, w_callT, w_T1, w_T0, o_mv, o_newnil, o_pick, o_bin, o_binN, o_neg, o_not, o_eqB, o_eqS, o_conv, o_alloc, o_box, o_load1, o_loadN, o_store, o_nilck, o_faddr, o_field1, o_fieldN, o_iaddr, o_istr, o_slStr, o_slSl, o_lenS, o_lenL, o_mx, o_mn, o_ext, o_build, o_lit, o_litOwn, o_app, o_mk, o_mvfrz, l_int, l_bool, l_str, l_agg, l_sl, l_own, l_ptr, l_pp, i_int, i_bool, i_str, i_sl, i_own, i_ptr, i_pp, all0, all1, e_ok1, eff, effBin, effBinN, ld_ptr, ld_pp, ld_elt, ia_own, ia_arr, el_1, el_N, load1K, faddrE, r_iaddr, sg_S, sg_c, sg_n, purL, pur, List.map, List.drop, List.take, List.length, List.foldl, List.append_eq, List.nil_append, List.cons_append, List.getD_cons_zero, List.getD_cons_succ, reduceIte, Nat.reduceEqDiff, Nat.reduceAdd, Nat.reduceLeDiff, true_and, and_true, Bool.not_true, Bool.not_false, Bool.and_true, Bool.true_and, Bool.and_self, reduceCtorEq, true_implies, false_implies, implies_true, decide_eq_true_eq, Option.map_some, fpOf, fpX, SOp.xs, oX, refs, refsL, dom, disj, List.all_nil, List.all_cons, List.contains_cons, List.contains_nil, Nat.reduceBEq, Bool.or_false, Bool.false_or, List.append_nil, Bool.not_false, Bool.not_true, List.forall_mem_cons, fm0, List.set, Nat.reduceLT, ne_eq, not_false_eq_true, not_true_eq_false, ret1, ret1N, keep0, keep1, rf_int, rf_bool, rf_str, rf_sl, rf_agg, rf_tup, rfL0, rfL1, re_t, re_cN, re_L0, re_L1, ret_tup, ret_one, decide_true, AV.bool.injEq, AV.int.injEq, Nat.reduceLeDiff, Bool.true_eq, Bool.false_eq, decide_eq_true_eq, decide_eq_false_iff_not, t_l24Spans, List.length_map, irow, un_stp, path_eta, take_rr, take_all, Int.toNat_natCast, flatOk, noref, ghost, List.length_range, Nat.zero_add, Nat.sub_zero, Path5.avO, retQ_eq, retOk, wkM, refsInO, keepB]
  exact ⟨hc, fun _ => ⟨⟨_, by simp only [resLP]; exact ⟨_, _, rfl, ⟨Nat.le_refl _, rfl⟩, _, _, rfl, rfl, rfl⟩, rfl⟩, rfl, rfl⟩, fun h => absurd hcan h⟩
theorem c_l27Can0 (p : Path5) (v : Nat) (hc : p.calm) (hcan : ¬ p.can) : Contract P 95 [p.avO 3 v] [(3, .arr 64 v 7 (p.l.map Stp7.row))] (.tup [.agg [.int .i64 0, .int .i64 0, .sl 0 7 [], .int .i64 0, .int .i64 0], .bool false]) [(3, .arr 64 v 7 (p.l.map Stp7.row))] := by
  refine fn_sound ((Env.nil P).add 54 t_l24Spans h_l24Spans) hm k_spec_l27Can (Nat.le_of_ble_eq_true rfl) rfl ?_
  unfold s_spec_l27Can
  simp only [w_skip, w_rg, w_rgd, w_seq, w_cond, w_block, w_loop, w_exit, w_ret, w_gh, w_rg0, w_rg1, w_rgT, w_rgF, w_run, w_psd, w_und, w_dr0, w_dr1, w_drT, w_drF, w_drRun, w_drPsd, w_drUnd, w_drKn, w_drKs, w_putK, w_trimK, w_thenN, w_thenE, w_thenR, w_blkN, w_blkE, w_blkR, w_call, w_effK, brU_true, brU_false, brU_u, brU_not, brU_and, brU_or, brU_dec, brU_eq, brU_ne, br_true, br_false, br_not, br_and, br_or, br_dec, br_eq, br_ne, w_getE0, w_getE1, w_setE0, w_setE1, w_dropE0, w_dropE1, w_drop0, w_drop1, w_getM0, w_getM1, w_setM0, w_setM1, ev_v, ev_c, w_putS, w_putN, w_lit, w_apU0, w_apU1, w_trim, enumE0, enumE1, w_callWp, w_callL, w_callT, w_T1, w_T0, o_mv, o_newnil, o_pick, o_bin, o_binN, o_neg, o_not, o_eqB, o_eqS, o_conv, o_alloc, o_box, o_load1, o_loadN, o_store, o_nilck, o_faddr, o_field1, o_fieldN, o_iaddr, o_istr, o_slStr, o_slSl, o_lenS, o_lenL, o_mx, o_mn, o_ext, o_build, o_lit, o_litOwn, o_app, o_mk, o_mvfrz, l_int, l_bool, l_str, l_agg, l_sl, l_own, l_ptr, l_pp, i_int, i_bool, i_str, i_sl, i_own, i_ptr, i_pp, all0, all1, e_ok1, eff, effBin, effBinN, ld_ptr, ld_pp, ld_elt, ia_own, ia_arr, el_1, el_N, load1K, faddrE, r_iaddr, sg_S, sg_c, sg_n, purL, pur, List.map, List.drop, List.take, List.length, List.foldl, List.append_eq, List.nil_append, List.cons_append, List.getD_cons_zero, List.getD_cons_succ, reduceIte, Nat.reduceEqDiff, Nat.reduceAdd, Nat.reduceLeDiff, true_and, and_true, Bool.not_true, Bool.not_false, Bool.and_true, Bool.true_and, Bool.and_self, reduceCtorEq, true_implies, false_implies, implies_true, decide_eq_true_eq, Option.map_some, fpOf, fpX, SOp.xs, oX, refs, refsL, dom, disj, List.all_nil, List.all_cons, List.contains_cons, List.contains_nil, Nat.reduceBEq, Bool.or_false, Bool.false_or, List.append_nil, Bool.not_false, Bool.not_true, List.forall_mem_cons, fm0, List.set, Nat.reduceLT, ne_eq, not_false_eq_true, not_true_eq_false, ret1, ret1N, keep0, keep1, rf_int, rf_bool, rf_str, rf_sl, rf_agg, rf_tup, rfL0, rfL1, re_t, re_cN, re_L0, re_L1, ret_tup, ret_one, decide_true, AV.bool.injEq, AV.int.injEq, Nat.reduceLeDiff, Bool.true_eq, Bool.false_eq, decide_eq_true_eq, decide_eq_false_iff_not, t_l24Spans, List.length_map, irow, un_stp, path_eta, take_rr, take_all, Int.toNat_natCast, flatOk, noref, ghost, List.length_range, Nat.zero_add, Nat.sub_zero, Path5.avO, retQ_eq, retOk, wkM, refsInO, keepB]
  exact ⟨hc, fun h => absurd h hcan, fun _ => ⟨⟨_, by simp only [resLP]; exact ⟨_, _, rfl, ⟨Nat.le_refl _, rfl⟩, _, _, rfl, rfl, rfl⟩, rfl⟩, rfl⟩⟩
end Go.Ve
namespace Go.Ve
set_option linter.unusedSimpArgs false
set_option linter.unusedVariables false
/-! The spans are those of flights. -/
def Path5.flight (p : Path5) (t : Nat → Int) : Prop := (∀ k, k ≤ p.l.length → p.low k ≤ t k ∧ t k ≤ p.high k) ∧ ∀ k, k < p.l.length → p.q ≤ t (k + 1) - t k ∧ t (k + 1) - t k ≤ p.most k
section
variable {p : Path5}
theorem flight_fwd {t : Nat → Int} (h : p.flight t) : ∀ k, k ≤ p.l.length → (p.fwd k).lo ≤ t k ∧ t k ≤ (p.fwd k).hi
  | 0, hk => h.1 0 hk
  | k + 1, hk => by
    have ih := flight_fwd h k (by omega)
    have h1 := h.1 (k + 1) hk
    have h2 := h.2 k (by omega)
    simp only [Path5.fwd]; omega
theorem flight_bwd {t : Nat → Int} (h : p.flight t) : ∀ d, d ≤ p.l.length → (p.bwd d).lo ≤ t (p.l.length - d) ∧ t (p.l.length - d) ≤ (p.bwd d).hi
  | 0, hk => by simpa [Path5.bwd] using flight_fwd h p.l.length (by omega)
  | d + 1, hd => by
    have ih := flight_bwd h d (by omega)
    have h1 := flight_fwd h (p.l.length - (d + 1)) (by omega)
    have h2 := h.2 (p.l.length - (d + 1)) (by omega)
    rw [show p.l.length - (d + 1) + 1 = p.l.length - d by omega] at h2
    simp only [Path5.bwd]; omega
/-- Every flight lies within the spans. -/
theorem flight_span {t : Nat → Int} (h : p.flight t) {k : Nat} (hk : k ≤ p.l.length) : (p.span k).lo ≤ t k ∧ t k ≤ (p.span k).hi := by
  have := flight_bwd h (p.l.length - k) (by omega)
  rwa [show p.l.length - (p.l.length - k) = k by omega] at this
theorem flight_can {t : Nat → Int} (h : p.flight t) : p.can := fun k hk => by
  have := flight_span h (k := k) (by omega)
  omega
theorem span_succ {k : Nat} (hk : k < p.l.length) : p.span k = ⟨max (p.fwd k).lo ((p.span (k + 1)).lo - p.most k), min (p.fwd k).hi ((p.span (k + 1)).hi - p.q)⟩ := by
  unfold Path5.span
  rw [show p.l.length - k = (p.l.length - (k + 1)) + 1 by omega]
  simp only [Path5.bwd]
  rw [show p.l.length - (p.l.length - (k + 1) + 1) = k by omega]
theorem span_last : p.span p.l.length = p.fwd p.l.length := by
  unfold Path5.span; rw [Nat.sub_self]; rfl
theorem fwd_low (k : Nat) : p.low k ≤ (p.fwd k).lo := by
  cases k <;> simp only [Path5.fwd] <;> omega
theorem fwd_high (k : Nat) : (p.fwd k).hi ≤ p.high k := by
  cases k <;> simp only [Path5.fwd] <;> omega
theorem span_lo {k : Nat} (hk : k ≤ p.l.length) : (p.fwd k).lo ≤ (p.span k).lo := by
  have := p.bwd_lo (p.l.length - k) (by omega)
  rwa [show p.l.length - (p.l.length - k) = k by omega] at this
theorem span_hi {k : Nat} (hk : k ≤ p.l.length) : (p.span k).hi ≤ (p.fwd k).hi := by
  have := p.bwd_hi (p.l.length - k) (by omega)
  rwa [show p.l.length - (p.l.length - k) = k by omega] at this
theorem can_low (h : p.can) {k : Nat} (hk : k ≤ p.l.length) : p.low k ≤ p.high k := by
  have h1 := p.can_fwd h hk
  have h2 := fwd_low (p := p) k
  have h3 := fwd_high (p := p) k
  omega
theorem span_in (h : p.can) {k : Nat} (hk : k ≤ p.l.length) : p.low k ≤ (p.span k).lo ∧ (p.span k).lo ≤ (p.span k).hi ∧ (p.span k).hi ≤ p.high k := by
  have h1 := fwd_low (p := p) k
  have h2 := fwd_high (p := p) k
  have h3 := span_lo (p := p) hk
  have h4 := span_hi (p := p) hk
  have h5 := h k (by omega)
  omega
/-- The earliest ticks are a flight; the latest are one. -/
theorem first_flight (hq : p.q ≤ p.s ∧ p.q ≤ 10000) (h : p.can) : p.flight fun k => (p.span k).lo := by
  refine ⟨fun k hk => by have := span_in h hk; simp only; omega, fun k hk => ?_⟩
  have hm : p.q ≤ p.most k := by unfold Path5.most; split <;> omega
  have h1 := span_succ (p := p) hk
  have h2 := span_lo (p := p) (k := k + 1) (by omega)
  simp only [Path5.fwd] at h2
  simp only [h1]
  omega
theorem last_flight (hq : p.q ≤ p.s ∧ p.q ≤ 10000) (h : p.can) : p.flight fun k => (p.span k).hi := by
  refine ⟨fun k hk => by have := span_in h hk; simp only; omega, fun k hk => ?_⟩
  have hm : p.q ≤ p.most k := by unfold Path5.most; split <;> omega
  have h1 := span_succ (p := p) hk
  have h2 := span_hi (p := p) (k := k + 1) (by omega)
  simp only [Path5.fwd] at h2
  simp only [h1]
  omega
end

/-! A path begun later, or at a later step. -/
def Path5.like (q p : Path5) (k : Nat) : Prop := q.q = p.q ∧ q.s = p.s ∧ q.l.length + k = p.l.length ∧ ∀ j, j < q.l.length →
  (q.l.getD j default).x = (p.l.getD (k + j) default).x ∧ (q.l.getD j default).y = (p.l.getD (k + j) default).y ∧ (q.l.getD j default).l = (p.l.getD (k + j) default).l ∧ (q.l.getD j default).h = (p.l.getD (k + j) default).h
theorem fit_of_can {p q : Path5} {k : Nat} (hp : pathOk p.q p.s p.l p.f p.b) (hk : k < p.l.length) (hl : q.like p k) (hc : q.calm) : q.fit ↔ q.can := by
  refine ⟨fun h => h.2, fun h => ⟨?_, h⟩⟩
  obtain ⟨h1, h2, h3, h4⟩ := hl
  have hlow : ∀ j, j ≤ q.l.length → 0 ≤ q.low j ∧ q.low j ≤ q.high j ∧ q.high j ≤ 10000 := fun j hj => ⟨hc.lo j hj, can_low h hj, hc.hi j hj⟩
  have hn := hlow q.l.length (Nat.le_refl _)
  unfold Path5.low Path5.high at hn
  simp only [Nat.lt_irrefl, if_false] at hn
  obtain ⟨p1, p2, p3, p4⟩ := hp
  refine ⟨by rw [h1, h2]; exact p1, by omega, by omega, fun i hi => ?_⟩
  have hj := hlow i (by omega)
  unfold Path5.low Path5.high at hj
  simp only [hi, if_true] at hj
  obtain ⟨g1, g2, g3, g4⟩ := h4 i hi
  have p5 := p4 (k + i) (by omega)
  have p6 := p5.1
  refine ⟨?_, fun h0 => ?_⟩
  · unfold Stp7.ok at p6 ⊢
    rw [g1, g2, g3, g4]
    omega
  · obtain ⟨e1, e2, e3, e4⟩ := h4 (i - 1) (by omega)
    have p7 := p5.2 (by omega)
    rw [show k + i - 1 = k + (i - 1) by omega] at p7
    unfold Stp7.nb at p7 ⊢
    rw [g1, g2, g3, g4, e1, e2, e3, e4]
    exact p7
/-- The first step's ticks set anew. -/
def Path5.first (p : Path5) (f b : Int) : Path5 := { p with l := p.l.set 0 { p.l.getD 0 default with f := f, b := b } }
def Path5.rest (p : Path5) (k : Nat) (f b now : Int) : Path5 := ((p.tail k).first f b).after now
theorem getD_set {l : List Stp7} {i j : Nat} {x : Stp7} : (l.set i x).getD j default = if i = j ∧ j < l.length then x else l.getD j default := by
  simp only [List.getD_eq_getElem?_getD, List.getElem?_set]
  by_cases e : i = j
  · subst e
    by_cases h : i < l.length
    · simp [h]
    · simp [h]
  · simp [e]
theorem getD_drop {l : List Stp7} {k j : Nat} : (l.drop k).getD j default = l.getD (k + j) default := by
  simp [List.getD_eq_getElem?_getD]
section
variable {p : Path5} {k : Nat} {f b now : Int}
theorem rest_len : (p.rest k f b now).l.length = p.l.length - k := by
  unfold Path5.rest Path5.after
  split <;> simp [Path5.first, Path5.tail]
theorem rest_getD {j : Nat} (hj : k + j < p.l.length) : (p.rest k f b now).l.getD j default =
    { p.l.getD (k + j) default with f := if j = 0 then f else if j = 1 then max (p.l.getD (k + j) default).f (now + 1) else (p.l.getD (k + j) default).f, b := if j = 0 then b else (p.l.getD (k + j) default).b } := by
  unfold Path5.rest Path5.after
  have hl : ((p.tail k).first f b).l.length = p.l.length - k := by simp [Path5.first, Path5.tail]
  have h0 : ∀ j, k + j < p.l.length → ((p.tail k).first f b).l.getD j default = if j = 0 then { p.l.getD k default with f := f, b := b } else p.l.getD (k + j) default := by
    intro j hj
    simp only [Path5.first, Path5.tail, getD_set, getD_drop, List.length_drop, Nat.add_zero]
    by_cases e : j = 0
    · subst e; rw [if_pos ⟨rfl, by omega⟩, if_pos rfl]
    · rw [if_neg (by omega), if_neg e]
  split
  · rename_i h1
    rw [hl] at h1
    simp only [getD_set, hl, h0 1 (by omega), Nat.one_ne_zero, if_false]
    by_cases e : j = 1
    · subst e; rw [if_pos ⟨rfl, by omega⟩]; simp
    · rw [if_neg (by omega), h0 j hj]
      by_cases e0 : j = 0
      · subst e0; simp
      · rw [if_neg e0]; simp [e, e0]
  · rename_i h1
    rw [hl] at h1
    simp only [h0 j hj]
    have : j = 0 := by omega
    subst this; simp
theorem rest_ff (hk : k < p.l.length) : (p.rest k f b now).f = (if 1 < p.l.length - k then p.f else max p.f (now + 1)) ∧ (p.rest k f b now).b = p.b ∧ (p.rest k f b now).q = p.q ∧ (p.rest k f b now).s = p.s := by
  unfold Path5.rest Path5.after
  have hl : ((p.tail k).first f b).l.length = p.l.length - k := by simp [Path5.first, Path5.tail]
  rw [hl]
  split <;> simp [Path5.first, Path5.tail, *]
theorem rest_like (hk : k < p.l.length) : (p.rest k f b now).like p k := by
  obtain ⟨_, _, h3, h4⟩ := rest_ff (f := f) (b := b) (now := now) hk
  refine ⟨h3, h4, by rw [rest_len]; omega, fun j hj => ?_⟩
  rw [rest_len] at hj
  rw [rest_getD (by omega)]
  exact ⟨rfl, rfl, rfl, rfl⟩
theorem rest_calm (hp : pathOk p.q p.s p.l p.f p.b) (hk : k < p.l.length) (hf : 0 ≤ f) (hb : b ≤ 10000) : (p.rest k f b now).calm := by
  obtain ⟨h1, h2, h3, h4⟩ := rest_ff (f := f) (b := b) (now := now) hk
  obtain ⟨p1, p2, p3, p4⟩ := hp
  have hl := rest_len (p := p) (k := k) (f := f) (b := b) (now := now)
  refine ⟨by rw [h3]; omega, by rw [h4]; omega, by rw [hl]; omega, fun j hj => ?_, fun j hj => ?_⟩
  · unfold Path5.low
    rw [hl] at hj ⊢
    split
    · rename_i hlt
      rw [rest_getD (by omega)]
      have := (p4 (k + j) (by omega)).1
      unfold Stp7.ok at this
      simp only
      split
      · exact hf
      · split <;> omega
    · rw [h1]; split <;> omega
  · unfold Path5.high
    rw [hl] at hj ⊢
    split
    · rename_i hlt
      rw [rest_getD (by omega)]
      have := (p4 (k + j) (by omega)).1
      unfold Stp7.ok at this
      simp only
      split <;> omega
    · rw [h2]; omega
theorem rest_fit (hp : pathOk p.q p.s p.l p.f p.b) (hk : k < p.l.length) (hf : 0 ≤ f) (hb : b ≤ 10000) : (p.rest k f b now).fit ↔ (p.rest k f b now).can :=
  fit_of_can hp hk (rest_like hk) (rest_calm hp hk hf hb)
end
/-! Waiting ahead of the first step. -/
def Path5.wait (p : Path5) (now : Int) : Path5 := { p with l := p.l.set 0 { p.l.getD 0 default with f := max (p.l.getD 0 default).f (now + 1) } }
theorem wait_getD {p : Path5} {now : Int} {j : Nat} (hj : j < p.l.length) : (p.wait now).l.getD j default = if j = 0 then { p.l.getD 0 default with f := max (p.l.getD 0 default).f (now + 1) } else p.l.getD j default := by
  simp only [Path5.wait, getD_set]
  by_cases e : j = 0
  · subst e; rw [if_pos ⟨rfl, hj⟩, if_pos rfl]
  · rw [if_neg (by omega), if_neg e]
theorem wait_len {p : Path5} {now : Int} : (p.wait now).l.length = p.l.length := by simp [Path5.wait]
theorem wait_low {p : Path5} {now : Int} (h0 : 0 < p.l.length) (j : Nat) : (p.wait now).low j = if j = 0 then max (p.low 0) (now + 1) else p.low j := by
  unfold Path5.low
  rw [wait_len]
  by_cases hj : j < p.l.length
  · rw [if_pos hj, wait_getD hj, if_pos h0]
    by_cases e : j = 0
    · rw [if_pos e, if_pos e]
    · rw [if_neg e, if_neg e, if_pos hj]
  · rw [if_neg hj, if_neg (by omega), if_neg hj]; rfl
theorem wait_high {p : Path5} {now : Int} (j : Nat) : (p.wait now).high j = p.high j := by
  unfold Path5.high
  rw [wait_len]
  by_cases hj : j < p.l.length
  · rw [if_pos hj, wait_getD hj, if_pos hj]; split
    · rename_i e; subst e; rfl
    · rfl
  · rw [if_neg hj, if_neg hj]; rfl
theorem wait_most {p : Path5} {now : Int} {j : Nat} (hj : j < p.l.length) : (p.wait now).most j = p.most j := by
  unfold Path5.most
  rw [wait_getD hj]
  split
  · rename_i e; subst e; rfl
  · rfl
theorem wait_flight {p : Path5} {now : Int} (h0 : 0 < p.l.length) {t : Nat → Int} : (p.wait now).flight t ↔ p.flight t ∧ now + 1 ≤ t 0 := by
  unfold Path5.flight
  rw [wait_len]
  constructor
  · rintro ⟨h1, h2⟩
    refine ⟨⟨fun k hk => ?_, fun k hk => ?_⟩, ?_⟩
    · have := h1 k hk
      rw [wait_low h0, wait_high] at this
      split at this
      · rename_i e; subst e; omega
      · exact this
    · have := h2 k hk
      rw [wait_most hk] at this
      exact this
    · have := h1 0 (by omega)
      rw [wait_low h0, if_pos rfl] at this
      omega
  · rintro ⟨⟨h1, h2⟩, h3⟩
    refine ⟨fun k hk => ?_, fun k hk => ?_⟩
    · have := h1 k hk
      rw [wait_low h0, wait_high]
      split
      · rename_i e; subst e; omega
      · exact this
    · have := h2 k hk
      rw [wait_most hk]
      exact this
/-- IT CAN STILL WAIT iff the latest first tick is behind now. -/
theorem wait_can {p : Path5} {now : Int} (h0 : 0 < p.l.length) (hq : p.q ≤ p.s ∧ p.q ≤ 10000) : (p.wait now).can ↔ p.can ∧ now < (p.span 0).hi := by
  constructor
  · intro h
    have h1 := (wait_flight h0).1 (last_flight (p := p.wait now) hq h)
    have h2 := flight_span h1.1 (k := 0) (by omega)
    exact ⟨flight_can h1.1, by omega⟩
  · rintro ⟨h, h1⟩
    exact flight_can ((wait_flight h0).2 ⟨last_flight hq h, by omega⟩)
theorem wait_calm {p : Path5} {now : Int} (h0 : 0 < p.l.length) (h : p.calm) : (p.wait now).calm := by
  refine ⟨h.q, h.s, by rw [wait_len]; exact h.n, fun j hj => ?_, fun j hj => ?_⟩
  · rw [wait_len] at hj
    rw [wait_low h0]
    have := h.lo j hj
    split
    · rename_i e; subst e; omega
    · exact this
  · rw [wait_len] at hj
    rw [wait_high]; exact h.hi j hj
theorem ok_calm {p : Path5} (h : pathOk p.q p.s p.l p.f p.b) : p.calm := by
  have := held_calm (bg := []) h
  rwa [held_nil] at this
end Go.Ve
namespace Go.Ve
open Go.Proofs
set_option linter.unusedSimpArgs false
set_option linter.unusedVariables false
set_option maxRecDepth 100000
def Path5.restAt (p : Path5) (k e now : Int) : Path5 := p.rest k.toNat (max (p.l.getD k.toNat default).f e) (min (p.l.getD k.toNat default).b e) now
def Path5.goes (p : Path5) (k e now : Int) : Prop := pathOk p.q p.s p.l p.f p.b ∧ (0 ≤ k ∧ k < p.l.length) ∧ (0 ≤ e ∧ e ≤ now ∧ now ≤ 10000) ∧ (p.restAt k e now).can
instance (p : Path5) (k e now : Int) : Decidable (p.goes k e now) := by unfold Path5.goes; infer_instance
def Path5.restR (p : Path5) (k e now : Int) : Path5 := if p.goes k e now then p.restAt k e now else ⟨0, 0, [], 0, 0⟩
theorem getD_set_same {l : List Stp7} {x : Stp7} (h : 0 < l.length) : (l.set 0 x).getD 0 default = x := by rw [getD_set, if_pos ⟨rfl, h⟩]
theorem first_len {p : Path5} {f b : Int} : (p.first f b).l.length = p.l.length := by simp [Path5.first]
theorem first_two (p : Path5) (x y : Int) : (⟨p.q, p.s, (p.l.set 0 { p.l.getD 0 default with f := x }).set 0 { (p.l.set 0 { p.l.getD 0 default with f := x }).getD 0 default with b := y }, p.f, p.b⟩ : Path5) = p.first x (if 0 < p.l.length then y else y) := by
  unfold Path5.first
  by_cases h : 0 < p.l.length
  · simp only [List.set_set, getD_set, h, and_self, if_true]
  · have : p.l = [] := List.eq_nil_of_length_eq_zero (by omega)
    simp [this]
theorem c_sFlyRest (p : Path5) (t : Nat) (k e now : Int) : Contract P 40 [.agg [.int .i64 p.q, .int .i64 p.s, .sl t 7 (p.l.map Stp7.row), .int .i64 p.f, .int .i64 p.b], .int .i64 k, .int .i64 e, .int .i64 now] [] (.tup [(p.restR k e now).av, .bool (decide (p.goes k e now))]) [] := by
  refine fn_sound ((((((Env.nil P).add 33 t_sPathOk h_sPathOk).add 57 t_l21In h_l21In).add 94 t_l26Held h_l26Held).add 83 t_l21Min h_l21Min).add 84 t_l21Max h_l21Max) hm k_spec_FlyRest (Nat.le_of_ble_eq_true rfl) rfl ?_
  unfold s_spec_FlyRest
  have hav : p.av = .agg [.int .i64 p.q, .int .i64 p.s, .sl 0 7 (p.l.map Stp7.row), .int .i64 p.f, .int .i64 p.b] := rfl
  simp only [w_skip, w_rg, w_rgd, w_seq, w_cond, w_block, w_loop, w_exit, w_ret, w_gh, w_rg0, w_rg1, w_rgT, w_rgF, w_run, w_psd, w_und, w_dr0, w_dr1, w_drT, w_drF, w_drRun, w_drPsd, w_drUnd, w_drKn, w_drKs, w_putK, w_trimK, w_thenN, w_thenE, w_thenR, w_blkN, w_blkE, w_blkR, w_call, w_effK, brU_true, brU_false, brU_u, brU_not, brU_and, brU_or, brU_dec, brU_eq, brU_ne, br_true, br_false, br_not, br_and, br_or, br_dec, br_eq, br_ne, w_getE0, w_getE1, w_setE0, w_setE1, w_dropE0, w_dropE1, w_drop0, w_drop1, w_getM0, w_getM1, w_setM0, w_setM1, ev_v, ev_c, w_putS, w_putN, w_lit, w_apU0, w_apU1, w_trim, enumE0, enumE1, w_callWp, w_callL, w_callT, w_T1, w_T0, o_mv, o_newnil, o_pick, o_bin, o_binN, o_neg, o_not, o_eqB, o_eqS, o_conv, o_alloc, o_box, o_load1, o_loadN, o_store, o_nilck, o_faddr, o_field1, o_fieldN, o_iaddr, o_istr, o_slStr, o_slSl, o_lenS, o_lenL, o_mx, o_mn, o_ext, o_build, o_lit, o_litOwn, o_app, o_mk, o_mvfrz, l_int, l_bool, l_str, l_agg, l_sl, l_own, l_ptr, l_pp, i_int, i_bool, i_str, i_sl, i_own, i_ptr, i_pp, all0, all1, e_ok1, eff, effBin, effBinN, ld_ptr, ld_pp, ld_elt, ia_own, ia_arr, el_1, el_N, load1K, faddrE, r_iaddr, sg_S, sg_c, sg_n, purL, pur, List.map, List.drop, List.take, List.length, List.foldl, List.append_eq, List.nil_append, List.cons_append, List.getD_cons_zero, List.getD_cons_succ, reduceIte, Nat.reduceEqDiff, Nat.reduceAdd, Nat.reduceLeDiff, true_and, and_true, Bool.not_true, Bool.not_false, Bool.and_true, Bool.true_and, Bool.and_self, reduceCtorEq, true_implies, false_implies, implies_true, decide_eq_true_eq, Option.map_some, fpOf, fpX, SOp.xs, oX, refs, refsL, dom, disj, List.all_nil, List.all_cons, List.contains_cons, List.contains_nil, Nat.reduceBEq, Bool.or_false, Bool.false_or, List.append_nil, Bool.not_false, Bool.not_true, List.forall_mem_cons, fm0, List.set, Nat.reduceLT, ne_eq, not_false_eq_true, not_true_eq_false, ret1, ret1N, keep0, keep1, rf_int, rf_bool, rf_str, rf_sl, rf_agg, rf_tup, rfL0, rfL1, re_t, re_cN, re_L0, re_L1, ret_tup, ret_one, decide_true, AV.bool.injEq, AV.int.injEq, Nat.reduceLeDiff, Bool.true_eq, Bool.false_eq, decide_eq_true_eq, decide_eq_false_iff_not, t_sPathOk, t_l21In, t_l26Held, t_l21Min, t_l21Max, List.length_map, Stp7.row, irow, un_stp, un_i, path_eta, stp_eta, take_all, held_nil, set_f, set_b, List.length_set, hav, Path5.avO, flatOk, noref, ghost, Nat.zero_add, Nat.sub_zero, Int.toNat_natCast]
  have no : ¬ p.goes k e now → ((p.restR k e now).av = AV.agg [AV.int IntKind.i64 0, AV.int IntKind.i64 0, AV.sl 0 7 [], AV.int IntKind.i64 0, AV.int IntKind.i64 0] ∧ ¬ p.goes k e now) ∧ refsIn [] (p.restR k e now).av = true := fun h => ⟨⟨by rw [Path5.restR, if_neg h]; rfl, h⟩, rfl⟩
  refine ⟨fun h1 => ⟨by have := h1.2.1; omega, fun h2 => ⟨fun h3 => ⟨fun h4 => no fun h => absurd h.2.2.1 (by omega), fun h4 => ⟨⟨by have := h1.2.1; omega, Nat.zero_le _⟩, ?_⟩⟩, fun h3 => no fun h => h3 (by have := h.2.2.1; omega)⟩, fun h2 => no fun h => h2 (by have := h.2.1; omega)⟩, fun h1 => no fun h => h1 h.1⟩
  refine ⟨_, _, .inl ⟨[], c_l27Tail p 0 k ⟨h2.1, by omega⟩ (by have := h1.2.1; omega), by simp, by simp [getM], rfl, rfl, rfl, rfl, rfl⟩, ?_⟩
  simp only [w_skip, w_rg, w_rgd, w_seq, w_cond, w_block, w_loop, w_exit, w_ret, w_gh, w_rg0, w_rg1, w_rgT, w_rgF, w_run, w_psd, w_und, w_dr0, w_dr1, w_drT, w_drF, w_drRun, w_drPsd, w_drUnd, w_drKn, w_drKs, w_putK, w_trimK, w_thenN, w_thenE, w_thenR, w_blkN, w_blkE, w_blkR, w_call, w_effK, brU_true, brU_false, brU_u, brU_not, brU_and, brU_or, brU_dec, brU_eq, brU_ne, br_true, br_false, br_not, br_and, br_or, br_dec, br_eq, br_ne, w_getE0, w_getE1, w_setE0, w_setE1, w_dropE0, w_dropE1, w_drop0, w_drop1, w_getM0, w_getM1, w_setM0, w_setM1, ev_v, ev_c, w_putS, w_putN, w_lit, w_apU0, w_apU1, w_trim, enumE0, enumE1, w_callWp, w_callL, w_callT, w_T1, w_T0, o_mv, o_newnil, o_pick, o_bin, o_binN, o_neg, o_not, o_eqB, o_eqS, o_conv, o_alloc, o_box, o_load1, o_loadN, o_store, o_nilck, o_faddr, o_field1, o_fieldN, o_iaddr, o_istr, o_slStr, o_slSl, o_lenS, o_lenL, o_mx, o_mn, o_ext, o_build, o_lit, o_litOwn, o_app, o_mk, o_mvfrz, l_int, l_bool, l_str, l_agg, l_sl, l_own, l_ptr, l_pp, i_int, i_bool, i_str, i_sl, i_own, i_ptr, i_pp, all0, all1, e_ok1, eff, effBin, effBinN, ld_ptr, ld_pp, ld_elt, ia_own, ia_arr, el_1, el_N, load1K, faddrE, r_iaddr, sg_S, sg_c, sg_n, purL, pur, List.map, List.drop, List.take, List.length, List.foldl, List.append_eq, List.nil_append, List.cons_append, List.getD_cons_zero, List.getD_cons_succ, reduceIte, Nat.reduceEqDiff, Nat.reduceAdd, Nat.reduceLeDiff, true_and, and_true, Bool.not_true, Bool.not_false, Bool.and_true, Bool.true_and, Bool.and_self, reduceCtorEq, true_implies, false_implies, implies_true, decide_eq_true_eq, Option.map_some, fpOf, fpX, SOp.xs, oX, refs, refsL, dom, disj, List.all_nil, List.all_cons, List.contains_cons, List.contains_nil, Nat.reduceBEq, Bool.or_false, Bool.false_or, List.append_nil, Bool.not_false, Bool.not_true, List.forall_mem_cons, fm0, List.set, Nat.reduceLT, ne_eq, not_false_eq_true, not_true_eq_false, ret1, ret1N, keep0, keep1, rf_int, rf_bool, rf_str, rf_sl, rf_agg, rf_tup, rfL0, rfL1, re_t, re_cN, re_L0, re_L1, ret_tup, ret_one, decide_true, AV.bool.injEq, AV.int.injEq, Nat.reduceLeDiff, Bool.true_eq, Bool.false_eq, decide_eq_true_eq, decide_eq_false_iff_not, t_sPathOk, t_l21In, t_l26Held, t_l21Min, t_l21Max, List.length_map, Stp7.row, irow, un_stp, un_i, path_eta, stp_eta, take_all, held_nil, set_f, set_b, List.length_set, hav, Path5.avO, flatOk, noref, ghost, Nat.zero_add, Nat.sub_zero, Int.toNat_natCast]
  have hl : 0 < (p.tail k.toNat).l.length := by simp [Path5.tail]; omega
  have hg : (p.tail k.toNat).l.getD 0 default = p.l.getD k.toNat default := by simp only [Path5.tail, getD_drop, Nat.add_zero]
  simp only [Int.toNat_zero, getD_set_same hl, List.set_set, hg]
  refine ⟨⟨by omega, by omega⟩, hl, ⟨by omega, by omega⟩, ⟨by omega, by omega⟩, hl, ⟨by omega, by omega⟩, ?_⟩
  have h96 := (c_l27After ((p.tail k.toNat).first (max (p.l.getD k.toNat default).f e) (min (p.l.getD k.toNat default).b e)) 1 now (by omega) (by have := h1.2.1; rw [first_len]; simp [Path5.tail]; omega)).ren (swp 3 112) (swp_swp 3 112)
  simp only [renL, ren, renM, renO, swp, Path5.avO, reduceIte, first_len] at h96
  refine ⟨_, _, .inl ⟨_, h96, by simp only [List.mem_singleton, forall_eq]; simp only [w_getM0, w_getM1, Nat.reduceEqDiff, reduceIte, Path5.first, hg], by simp [getM, dom], rfl, rfl, rfl, rfl, rfl⟩, ?_⟩
  simp only [w_skip, w_rg, w_rgd, w_seq, w_cond, w_block, w_loop, w_exit, w_ret, w_gh, w_rg0, w_rg1, w_rgT, w_rgF, w_run, w_psd, w_und, w_dr0, w_dr1, w_drT, w_drF, w_drRun, w_drPsd, w_drUnd, w_drKn, w_drKs, w_putK, w_trimK, w_thenN, w_thenE, w_thenR, w_blkN, w_blkE, w_blkR, w_call, w_effK, brU_true, brU_false, brU_u, brU_not, brU_and, brU_or, brU_dec, brU_eq, brU_ne, br_true, br_false, br_not, br_and, br_or, br_dec, br_eq, br_ne, w_getE0, w_getE1, w_setE0, w_setE1, w_dropE0, w_dropE1, w_drop0, w_drop1, w_getM0, w_getM1, w_setM0, w_setM1, ev_v, ev_c, w_putS, w_putN, w_lit, w_apU0, w_apU1, w_trim, enumE0, enumE1, w_callWp, w_callL, w_callT, w_T1, w_T0, o_mv, o_newnil, o_pick, o_bin, o_binN, o_neg, o_not, o_eqB, o_eqS, o_conv, o_alloc, o_box, o_load1, o_loadN, o_store, o_nilck, o_faddr, o_field1, o_fieldN, o_iaddr, o_istr, o_slStr, o_slSl, o_lenS, o_lenL, o_mx, o_mn, o_ext, o_build, o_lit, o_litOwn, o_app, o_mk, o_mvfrz, l_int, l_bool, l_str, l_agg, l_sl, l_own, l_ptr, l_pp, i_int, i_bool, i_str, i_sl, i_own, i_ptr, i_pp, all0, all1, e_ok1, eff, effBin, effBinN, ld_ptr, ld_pp, ld_elt, ia_own, ia_arr, el_1, el_N, load1K, faddrE, r_iaddr, sg_S, sg_c, sg_n, purL, pur, List.map, List.drop, List.take, List.length, List.foldl, List.append_eq, List.nil_append, List.cons_append, List.getD_cons_zero, List.getD_cons_succ, reduceIte, Nat.reduceEqDiff, Nat.reduceAdd, Nat.reduceLeDiff, true_and, and_true, Bool.not_true, Bool.not_false, Bool.and_true, Bool.true_and, Bool.and_self, reduceCtorEq, true_implies, false_implies, implies_true, decide_eq_true_eq, Option.map_some, fpOf, fpX, SOp.xs, oX, refs, refsL, dom, disj, List.all_nil, List.all_cons, List.contains_cons, List.contains_nil, Nat.reduceBEq, Bool.or_false, Bool.false_or, List.append_nil, Bool.not_false, Bool.not_true, List.forall_mem_cons, fm0, List.set, Nat.reduceLT, ne_eq, not_false_eq_true, not_true_eq_false, ret1, ret1N, keep0, keep1, rf_int, rf_bool, rf_str, rf_sl, rf_agg, rf_tup, rfL0, rfL1, re_t, re_cN, re_L0, re_L1, ret_tup, ret_one, decide_true, AV.bool.injEq, AV.int.injEq, Nat.reduceLeDiff, Bool.true_eq, Bool.false_eq, decide_eq_true_eq, decide_eq_false_iff_not, t_sPathOk, t_l21In, t_l26Held, t_l21Min, t_l21Max, List.length_map, Stp7.row, irow, un_stp, un_i, path_eta, stp_eta, take_all, held_nil, set_f, set_b, List.length_set, hav, Path5.avO, flatOk, noref, ghost, Nat.zero_add, Nat.sub_zero, Int.toNat_natCast]
  have hR : ((p.tail k.toNat).first (max (p.l.getD k.toNat default).f e) (min (p.l.getD k.toNat default).b e)).after now = p.restAt k e now := rfl
  have hb := (h1.2.2.2 k.toNat (by omega)).1
  unfold Stp7.ok at hb
  have hc : (p.restAt k e now).calm := rest_calm h1 (by omega) (by omega) (by omega)
  simp only [hR]
  by_cases hcan : (p.restAt k e now).can
  · have hgo : p.goes k e now := ⟨h1, ⟨h2.1, by omega⟩, ⟨by omega, h3⟩, hcan⟩
    have h95 := (c_l27Can1 (p.restAt k e now) 1 hc hcan).ren (swp 3 112) (swp_swp 3 112)
    simp only [renL, ren, renM, renO, swp, Path5.avO, reduceIte] at h95
    refine ⟨_, _, .inl ⟨_, h95, by simp only [List.mem_singleton, forall_eq]; rfl, by simp [getM, dom], rfl, rfl, rfl, rfl, rfl⟩, ?_⟩
    simp only [w_skip, w_rg, w_rgd, w_seq, w_cond, w_block, w_loop, w_exit, w_ret, w_gh, w_rg0, w_rg1, w_rgT, w_rgF, w_run, w_psd, w_und, w_dr0, w_dr1, w_drT, w_drF, w_drRun, w_drPsd, w_drUnd, w_drKn, w_drKs, w_putK, w_trimK, w_thenN, w_thenE, w_thenR, w_blkN, w_blkE, w_blkR, w_call, w_effK, brU_true, brU_false, brU_u, brU_not, brU_and, brU_or, brU_dec, brU_eq, brU_ne, br_true, br_false, br_not, br_and, br_or, br_dec, br_eq, br_ne, w_getE0, w_getE1, w_setE0, w_setE1, w_dropE0, w_dropE1, w_drop0, w_drop1, w_getM0, w_getM1, w_setM0, w_setM1, ev_v, ev_c, w_putS, w_putN, w_lit, w_apU0, w_apU1, w_trim, enumE0, enumE1, w_callWp, w_callL, w_callT, w_T1, w_T0, o_mv, o_newnil, o_pick, o_bin, o_binN, o_neg, o_not, o_eqB, o_eqS, o_conv, o_alloc, o_box, o_load1, o_loadN, o_store, o_nilck, o_faddr, o_field1, o_fieldN, o_iaddr, o_istr, o_slStr, o_slSl, o_lenS, o_lenL, o_mx, o_mn, o_ext, o_build, o_lit, o_litOwn, o_app, o_mk, o_mvfrz, l_int, l_bool, l_str, l_agg, l_sl, l_own, l_ptr, l_pp, i_int, i_bool, i_str, i_sl, i_own, i_ptr, i_pp, all0, all1, e_ok1, eff, effBin, effBinN, ld_ptr, ld_pp, ld_elt, ia_own, ia_arr, el_1, el_N, load1K, faddrE, r_iaddr, sg_S, sg_c, sg_n, purL, pur, List.map, List.drop, List.take, List.length, List.foldl, List.append_eq, List.nil_append, List.cons_append, List.getD_cons_zero, List.getD_cons_succ, reduceIte, Nat.reduceEqDiff, Nat.reduceAdd, Nat.reduceLeDiff, true_and, and_true, Bool.not_true, Bool.not_false, Bool.and_true, Bool.true_and, Bool.and_self, reduceCtorEq, true_implies, false_implies, implies_true, decide_eq_true_eq, Option.map_some, fpOf, fpX, SOp.xs, oX, refs, refsL, dom, disj, List.all_nil, List.all_cons, List.contains_cons, List.contains_nil, Nat.reduceBEq, Bool.or_false, Bool.false_or, List.append_nil, Bool.not_false, Bool.not_true, List.forall_mem_cons, fm0, List.set, Nat.reduceLT, ne_eq, not_false_eq_true, not_true_eq_false, ret1, ret1N, keep0, keep1, rf_int, rf_bool, rf_str, rf_sl, rf_agg, rf_tup, rfL0, rfL1, re_t, re_cN, re_L0, re_L1, ret_tup, ret_one, decide_true, AV.bool.injEq, AV.int.injEq, Nat.reduceLeDiff, Bool.true_eq, Bool.false_eq, decide_eq_true_eq, decide_eq_false_iff_not, t_sPathOk, t_l21In, t_l26Held, t_l21Min, t_l21Max, List.length_map, Stp7.row, irow, un_stp, un_i, path_eta, stp_eta, take_all, held_nil, set_f, set_b, List.length_set, hav, Path5.avO, flatOk, noref, ghost, Nat.zero_add, Nat.sub_zero, Int.toNat_natCast]
    exact ⟨⟨by rw [Path5.restR, if_pos hgo]; rfl, hgo⟩, by rw [Path5.restR, if_pos hgo]; rfl⟩
  · have hgo : ¬ p.goes k e now := fun h => hcan h.2.2.2
    have h95 := (c_l27Can0 (p.restAt k e now) 1 hc hcan).ren (swp 3 112) (swp_swp 3 112)
    simp only [renL, ren, renM, renO, swp, Path5.avO, reduceIte] at h95
    refine ⟨_, _, .inl ⟨_, h95, by simp only [List.mem_singleton, forall_eq]; rfl, by simp [getM, dom], rfl, rfl, rfl, rfl, rfl⟩, ?_⟩
    simp only [w_skip, w_rg, w_rgd, w_seq, w_cond, w_block, w_loop, w_exit, w_ret, w_gh, w_rg0, w_rg1, w_rgT, w_rgF, w_run, w_psd, w_und, w_dr0, w_dr1, w_drT, w_drF, w_drRun, w_drPsd, w_drUnd, w_drKn, w_drKs, w_putK, w_trimK, w_thenN, w_thenE, w_thenR, w_blkN, w_blkE, w_blkR, w_call, w_effK, brU_true, brU_false, brU_u, brU_not, brU_and, brU_or, brU_dec, brU_eq, brU_ne, br_true, br_false, br_not, br_and, br_or, br_dec, br_eq, br_ne, w_getE0, w_getE1, w_setE0, w_setE1, w_dropE0, w_dropE1, w_drop0, w_drop1, w_getM0, w_getM1, w_setM0, w_setM1, ev_v, ev_c, w_putS, w_putN, w_lit, w_apU0, w_apU1, w_trim, enumE0, enumE1, w_callWp, w_callL, w_callT, w_T1, w_T0, o_mv, o_newnil, o_pick, o_bin, o_binN, o_neg, o_not, o_eqB, o_eqS, o_conv, o_alloc, o_box, o_load1, o_loadN, o_store, o_nilck, o_faddr, o_field1, o_fieldN, o_iaddr, o_istr, o_slStr, o_slSl, o_lenS, o_lenL, o_mx, o_mn, o_ext, o_build, o_lit, o_litOwn, o_app, o_mk, o_mvfrz, l_int, l_bool, l_str, l_agg, l_sl, l_own, l_ptr, l_pp, i_int, i_bool, i_str, i_sl, i_own, i_ptr, i_pp, all0, all1, e_ok1, eff, effBin, effBinN, ld_ptr, ld_pp, ld_elt, ia_own, ia_arr, el_1, el_N, load1K, faddrE, r_iaddr, sg_S, sg_c, sg_n, purL, pur, List.map, List.drop, List.take, List.length, List.foldl, List.append_eq, List.nil_append, List.cons_append, List.getD_cons_zero, List.getD_cons_succ, reduceIte, Nat.reduceEqDiff, Nat.reduceAdd, Nat.reduceLeDiff, true_and, and_true, Bool.not_true, Bool.not_false, Bool.and_true, Bool.true_and, Bool.and_self, reduceCtorEq, true_implies, false_implies, implies_true, decide_eq_true_eq, Option.map_some, fpOf, fpX, SOp.xs, oX, refs, refsL, dom, disj, List.all_nil, List.all_cons, List.contains_cons, List.contains_nil, Nat.reduceBEq, Bool.or_false, Bool.false_or, List.append_nil, Bool.not_false, Bool.not_true, List.forall_mem_cons, fm0, List.set, Nat.reduceLT, ne_eq, not_false_eq_true, not_true_eq_false, ret1, ret1N, keep0, keep1, rf_int, rf_bool, rf_str, rf_sl, rf_agg, rf_tup, rfL0, rfL1, re_t, re_cN, re_L0, re_L1, ret_tup, ret_one, decide_true, AV.bool.injEq, AV.int.injEq, Nat.reduceLeDiff, Bool.true_eq, Bool.false_eq, decide_eq_true_eq, decide_eq_false_iff_not, t_sPathOk, t_l21In, t_l26Held, t_l21Min, t_l21Max, List.length_map, Stp7.row, irow, un_stp, un_i, path_eta, stp_eta, take_all, held_nil, set_f, set_b, List.length_set, hav, Path5.avO, flatOk, noref, ghost, Nat.zero_add, Nat.sub_zero, Int.toNat_natCast]
    exact no hgo
end Go.Ve
namespace Go.Ve
open Go.Proofs
set_option linter.unusedSimpArgs false
set_option linter.unusedVariables false
set_option maxRecDepth 100000
def t_fit : List AV → Option (Prop × AV)
  | [.agg [.int .i64 q, .int .i64 s, .sl _ 7 xs, .int .i64 f, .int .i64 b]] => some ((xs.map unStp).map Stp7.row = xs, .tup [.sl 0 2 ((Path5.fitS ⟨q, s, xs.map unStp, f, b⟩).map Span2.row), .bool (decide (Path5.fit ⟨q, s, xs.map unStp, f, b⟩))])
  | _ => none
abbrev t_iFit := t_fit
theorem h_iFit : ∀ args p v, t_fit args = some (p, v) → p → Contract P 10 args [] v [] ∧ noref v = true ∧ No99 v := by
  intro args p v h1 h2
  unfold t_fit at h1
  split at h1
  · rename_i q s t xs f b
    cases h1
    have := c_iFlySpans ⟨q, s, xs.map unStp, f, b⟩ t
    simp only [h2] at this
    exact ⟨this, rfl, ⟨by omega, no99_span _⟩, trivial, trivial⟩
  · cases h1
abbrev t_sFit := t_fit
theorem h_sFit : ∀ args p v, t_fit args = some (p, v) → p → Contract P 11 args [] v [] ∧ noref v = true ∧ No99 v := by
  intro args p v h1 h2
  unfold t_fit at h1
  split at h1
  · rename_i q s t xs f b
    cases h1
    have := c_sFlySpans ⟨q, s, xs.map unStp, f, b⟩ t
    simp only [h2] at this
    exact ⟨this, rfl, ⟨by omega, no99_span _⟩, trivial, trivial⟩
  · cases h1
theorem drop_rows {α : Type} {f : α → List AV} {l : List α} {k : Nat} : List.drop k (List.map f l) = List.map f (List.drop k l) := (List.map_drop).symm
theorem take_s1 {α : Type} {f : α → List AV} {l : List α} {i : Nat} {x : α} : List.take l.length (List.map f (l.set i x)) = List.map f (l.set i x) := List.take_of_length_le (by simp)
theorem take_s2 {α : Type} {f : α → List AV} {l : List α} {i j : Nat} {x y : α} : List.take l.length (List.map f ((l.set i x).set j y)) = List.map f ((l.set i x).set j y) := List.take_of_length_le (by simp)
theorem ite_max {a b : Int} : (if b > a then b else a) = max a b := by omega
theorem ite_min {a b : Int} : (if b < a then b else a) = min a b := by omega
theorem c_rest (p : Path5) (t : Nat) (k f b now : Int) (hk : 0 ≤ k ∧ k < p.l.length) (hn : p.l.length ≤ 1048576) (hw : -4611686018427387904 ≤ now ∧ now ≤ 4611686018427387904) : Contract P 91 [.agg [.int .i64 p.q, .int .i64 p.s, .sl t 7 (p.l.map Stp7.row), .int .i64 p.f, .int .i64 p.b], .int .i64 k, .int .i64 f, .int .i64 b, .int .i64 now] [] (.tup [(if (p.rest k.toNat f b now).fit then p.rest k.toNat f b now else ⟨0, 0, [], 0, 0⟩ : Path5).av, .bool (decide (p.rest k.toNat f b now).fit)]) [] := by
  refine fn_sound ((Env.nil P).add 10 t_iFit h_iFit) hm k_impl_FlyPath_rest (Nat.le_of_ble_eq_true rfl) rfl ?_
  unfold s_impl_FlyPath_rest
  have htl : List.drop k.toNat p.l = (p.tail k.toNat).l := rfl
  have hl : 0 < (p.tail k.toNat).l.length := by simp [Path5.tail]; omega
  have hgs : ∀ x : Stp7, ((p.tail k.toNat).l.set 0 x).getD 0 default = x := fun x => getD_set_same hl
  simp only [w_skip, w_rg, w_rgd, w_seq, w_cond, w_block, w_loop, w_exit, w_ret, w_gh, w_rg0, w_rg1, w_rgT, w_rgF, w_run, w_psd, w_und, w_dr0, w_dr1, w_drT, w_drF, w_drRun, w_drPsd, w_drUnd, w_drKn, w_drKs, w_putK, w_trimK, w_thenN, w_thenE, w_thenR, w_blkN, w_blkE, w_blkR, w_call, w_effK, brU_true, brU_false, brU_u, brU_not, brU_and, brU_or, brU_dec, brU_eq, brU_ne, br_true, br_false, br_not, br_and, br_or, br_dec, br_eq, br_ne, w_getE0, w_getE1, w_setE0, w_setE1, w_dropE0, w_dropE1, w_drop0, w_drop1, w_getM0, w_getM1, w_setM0, w_setM1, ev_v, ev_c, w_putS, w_putN, w_lit, w_apU0, w_apU1, w_trim, enumE0, enumE1, w_callWp, w_callL, w_callT, w_T1, w_T0, o_mv, o_newnil, o_pick, o_bin, o_binN, o_neg, o_not, o_eqB, o_eqS, o_conv, o_alloc, o_box, o_load1, o_loadN, o_store, o_nilck, o_faddr, o_field1, o_fieldN, o_iaddr, o_istr, o_slStr, o_slSl, o_lenS, o_lenL, o_mx, o_mn, o_ext, o_build, o_lit, o_litOwn, o_app, o_mk, o_mvfrz, l_int, l_bool, l_str, l_agg, l_sl, l_own, l_ptr, l_pp, i_int, i_bool, i_str, i_sl, i_own, i_ptr, i_pp, all0, all1, e_ok1, eff, effBin, effBinN, ld_ptr, ld_pp, ld_elt, ia_own, ia_arr, el_1, el_N, load1K, faddrE, r_iaddr, sg_S, sg_c, sg_n, purL, pur, List.map, List.drop, List.take, List.length, List.foldl, List.append_eq, List.nil_append, List.cons_append, List.getD_cons_zero, List.getD_cons_succ, reduceIte, Nat.reduceEqDiff, Nat.reduceAdd, Nat.reduceLeDiff, true_and, and_true, Bool.not_true, Bool.not_false, Bool.and_true, Bool.true_and, Bool.and_self, reduceCtorEq, true_implies, false_implies, implies_true, decide_eq_true_eq, Option.map_some, fpOf, fpX, SOp.xs, oX, refs, refsL, dom, disj, List.all_nil, List.all_cons, List.contains_cons, List.contains_nil, Nat.reduceBEq, Bool.or_false, Bool.false_or, List.append_nil, Bool.not_false, Bool.not_true, List.forall_mem_cons, fm0, List.set, Nat.reduceLT, ne_eq, not_false_eq_true, not_true_eq_false, ret1, ret1N, keep0, keep1, rf_int, rf_bool, rf_str, rf_sl, rf_agg, rf_tup, rfL0, rfL1, re_t, re_cN, re_L0, re_L1, ret_tup, ret_one, decide_true, AV.bool.injEq, AV.int.injEq, Nat.reduceLeDiff, Bool.true_eq, Bool.false_eq, decide_eq_true_eq, decide_eq_false_iff_not, t_iFit, t_fit, drop_rows, htl, ite_max, ite_min, Int.toNat_zero, take_s1, take_s2, hgs, List.set_set, List.length_map, Stp7.row, irow, un_stp, un_i, path_eta, stp_eta, take_all, set_f, set_b, List.length_set, Path5.avO, flatOk, noref, ghost, Nat.zero_add, Nat.sub_zero, Int.toNat_natCast, rowsOf, appE, optI]
  have fin : ∀ R : Path5, R = p.rest k.toNat f b now → (R.fit → ((if (p.rest k.toNat f b now).fit then p.rest k.toNat f b now else ⟨0, 0, [], 0, 0⟩ : Path5).av = R.av ∧ (p.rest k.toNat f b now).fit) ∧ refsIn [] (if (p.rest k.toNat f b now).fit then p.rest k.toNat f b now else ⟨0, 0, [], 0, 0⟩ : Path5).av = true) ∧
      (¬ R.fit → ((if (p.rest k.toNat f b now).fit then p.rest k.toNat f b now else ⟨0, 0, [], 0, 0⟩ : Path5).av = .agg [.int .i64 0, .int .i64 0, .sl 0 7 [], .int .i64 0, .int .i64 0] ∧ ¬ (p.rest k.toNat f b now).fit) ∧ refsIn [] (if (p.rest k.toNat f b now).fit then p.rest k.toNat f b now else ⟨0, 0, [], 0, 0⟩ : Path5).av = true) := by
    rintro R rfl
    exact ⟨fun h => by rw [if_pos h]; exact ⟨⟨rfl, h⟩, rfl⟩, fun h => by rw [if_neg h]; exact ⟨⟨rfl, h⟩, rfl⟩⟩
  have hlen : (p.tail k.toNat).l.length ≤ p.l.length := by simp [Path5.tail]
  refine ⟨by omega, by omega, ⟨by omega, by omega⟩, ⟨by omega, by omega⟩, fun h => ⟨⟨by omega, by omega⟩, by omega, by omega, ⟨by omega, by omega⟩, ?_⟩, fun h => ⟨by omega, ?_⟩⟩
  · refine fin _ ?_
    unfold Path5.rest Path5.after
    rw [if_pos (by rw [first_len]; omega)]
    rfl
  · refine fin _ ?_
    unfold Path5.rest Path5.after
    rw [if_neg (by rw [first_len]; omega)]
    rfl
end Go.Ve
namespace Go.Ve
open Go.Proofs
set_option linter.unusedSimpArgs false
set_option linter.unusedVariables false
set_option maxRecDepth 100000
def Path5.restF (p : Path5) (k : Nat) (f b now : Int) : Path5 := if (p.rest k f b now).fit then p.rest k f b now else ⟨0, 0, [], 0, 0⟩
def t_rest : List AV → Option (Prop × AV)
  | [.agg [.int .i64 q, .int .i64 s, .sl _ 7 xs, .int .i64 f, .int .i64 b], .int .i64 k, .int .i64 fr, .int .i64 by_, .int .i64 now] => some ((xs.map unStp).map Stp7.row = xs ∧ (0 ≤ k ∧ k < (xs.map unStp).length) ∧ (xs.map unStp).length ≤ 1048576 ∧ (-4611686018427387904 ≤ now ∧ now ≤ 4611686018427387904), .tup [(Path5.restF ⟨q, s, xs.map unStp, f, b⟩ k.toNat fr by_ now).av, .bool (decide (Path5.rest ⟨q, s, xs.map unStp, f, b⟩ k.toNat fr by_ now).fit)])
  | _ => none
theorem h_rest : ∀ args p v, t_rest args = some (p, v) → p → Contract P 91 args [] v [] ∧ noref v = true ∧ No99 v := by
  intro args p v h1 h2
  unfold t_rest at h1
  split at h1
  · rename_i q s t xs f b k fr by_ now
    cases h1
    have := c_rest ⟨q, s, xs.map unStp, f, b⟩ t k fr by_ now h2.2.1 h2.2.2.1 h2.2.2.2
    simp only [h2.1] at this
    exact ⟨this, rfl, no99_av _, trivial, trivial⟩
  · cases h1
theorem c_iFlyRest (p : Path5) (t : Nat) (k e now : Int) : Contract P 36 [.agg [.int .i64 p.q, .int .i64 p.s, .sl t 7 (p.l.map Stp7.row), .int .i64 p.f, .int .i64 p.b], .int .i64 k, .int .i64 e, .int .i64 now] [] (.tup [(p.restR k e now).av, .bool (decide (p.goes k e now))]) [] := by
  refine fn_sound (((Env.nil P).add 32 t_iPathOk h_iPathOk).add 91 t_rest h_rest) hm k_impl_FlyRest (Nat.le_of_ble_eq_true rfl) rfl ?_
  unfold s_impl_FlyRest
  simp only [w_skip, w_rg, w_rgd, w_seq, w_cond, w_block, w_loop, w_exit, w_ret, w_gh, w_rg0, w_rg1, w_rgT, w_rgF, w_run, w_psd, w_und, w_dr0, w_dr1, w_drT, w_drF, w_drRun, w_drPsd, w_drUnd, w_drKn, w_drKs, w_putK, w_trimK, w_thenN, w_thenE, w_thenR, w_blkN, w_blkE, w_blkR, w_call, w_effK, brU_true, brU_false, brU_u, brU_not, brU_and, brU_or, brU_dec, brU_eq, brU_ne, br_true, br_false, br_not, br_and, br_or, br_dec, br_eq, br_ne, w_getE0, w_getE1, w_setE0, w_setE1, w_dropE0, w_dropE1, w_drop0, w_drop1, w_getM0, w_getM1, w_setM0, w_setM1, ev_v, ev_c, w_putS, w_putN, w_lit, w_apU0, w_apU1, w_trim, enumE0, enumE1, w_callWp, w_callL, w_callT, w_T1, w_T0, o_mv, o_newnil, o_pick, o_bin, o_binN, o_neg, o_not, o_eqB, o_eqS, o_conv, o_alloc, o_box, o_load1, o_loadN, o_store, o_nilck, o_faddr, o_field1, o_fieldN, o_iaddr, o_istr, o_slStr, o_slSl, o_lenS, o_lenL, o_mx, o_mn, o_ext, o_build, o_lit, o_litOwn, o_app, o_mk, o_mvfrz, l_int, l_bool, l_str, l_agg, l_sl, l_own, l_ptr, l_pp, i_int, i_bool, i_str, i_sl, i_own, i_ptr, i_pp, all0, all1, e_ok1, eff, effBin, effBinN, ld_ptr, ld_pp, ld_elt, ia_own, ia_arr, el_1, el_N, load1K, faddrE, r_iaddr, sg_S, sg_c, sg_n, purL, pur, List.map, List.drop, List.take, List.length, List.foldl, List.append_eq, List.nil_append, List.cons_append, List.getD_cons_zero, List.getD_cons_succ, reduceIte, Nat.reduceEqDiff, Nat.reduceAdd, Nat.reduceLeDiff, true_and, and_true, Bool.not_true, Bool.not_false, Bool.and_true, Bool.true_and, Bool.and_self, reduceCtorEq, true_implies, false_implies, implies_true, decide_eq_true_eq, Option.map_some, fpOf, fpX, SOp.xs, oX, refs, refsL, dom, disj, List.all_nil, List.all_cons, List.contains_cons, List.contains_nil, Nat.reduceBEq, Bool.or_false, Bool.false_or, List.append_nil, Bool.not_false, Bool.not_true, List.forall_mem_cons, fm0, List.set, Nat.reduceLT, ne_eq, not_false_eq_true, not_true_eq_false, ret1, ret1N, keep0, keep1, rf_int, rf_bool, rf_str, rf_sl, rf_agg, rf_tup, rfL0, rfL1, re_t, re_cN, re_L0, re_L1, ret_tup, ret_one, decide_true, AV.bool.injEq, AV.int.injEq, Nat.reduceLeDiff, Bool.true_eq, Bool.false_eq, decide_eq_true_eq, decide_eq_false_iff_not, t_iPathOk, t_rest, drop_rows, ite_max, ite_min, t_sPathOk, Path5.av, Int.toNat_zero, List.length_map, Stp7.row, irow, un_stp, un_i, path_eta, stp_eta, take_all, flatOk, noref, ghost, Nat.zero_add, Nat.sub_zero, Int.toNat_natCast]
  have no : ¬ p.goes k e now → AV.agg [AV.int IntKind.i64 (p.restR k e now).q, AV.int IntKind.i64 (p.restR k e now).s, AV.sl 0 7 (List.map Stp7.row (p.restR k e now).l), AV.int IntKind.i64 (p.restR k e now).f, AV.int IntKind.i64 (p.restR k e now).b] =
      AV.agg [AV.int IntKind.i64 0, AV.int IntKind.i64 0, AV.sl 0 7 [], AV.int IntKind.i64 0, AV.int IntKind.i64 0] ∧ ¬ p.goes k e now := fun h => ⟨by rw [Path5.restR, if_neg h]; rfl, h⟩
  refine ⟨fun h1 => ⟨fun h2 => no fun h => absurd h.2.1.1 (by omega), fun h2 => ⟨fun h3 => no fun h => absurd h.2.1.2 (by omega), fun h3 => ⟨fun h4 => no fun h => absurd h.2.2.1 (by omega), fun h4 => ⟨fun h5 => no fun h => absurd h.2.2.1 (by omega), fun h5 => ⟨fun h6 => no fun h => absurd h.2.2.1 (by omega), fun h6 => ?_⟩⟩⟩⟩⟩, fun h1 => no fun h => h1 h.1⟩
  have hb := (h1.2.2.2 k.toNat (by omega)).1
  unfold Stp7.ok at hb
  have hfit := rest_fit (p := p) (k := k.toNat) (f := max (p.l.getD k.toNat default).f e) (b := min (p.l.getD k.toNat default).b e) (now := now) h1 (by omega) (by omega) (by omega)
  have hgo : (p.rest k.toNat (max (p.l.getD k.toNat default).f e) (min (p.l.getD k.toNat default).b e) now).fit ↔ p.goes k e now :=
    ⟨fun h => ⟨h1, ⟨by omega, by omega⟩, ⟨by omega, by omega, by omega⟩, hfit.1 h⟩, fun h => hfit.2 h.2.2.2⟩
  have hR : p.restR k e now = p.restF k.toNat (max (p.l.getD k.toNat default).f e) (min (p.l.getD k.toNat default).b e) now := by
    unfold Path5.restR Path5.restF
    by_cases h : p.goes k e now
    · rw [if_pos h, if_pos (hgo.2 h)]; rfl
    · rw [if_neg h, if_neg (fun h' => h (hgo.1 h'))]
  exact ⟨by omega, by omega, ⟨⟨by omega, by omega⟩, by have := h1.2.1; omega, by omega, by omega⟩, by rw [hR], decide_eq_decide.2 hgo⟩
def t_frest : List AV → Option (Prop × AV)
  | [.agg [.int .i64 q, .int .i64 s, .sl _ 7 xs, .int .i64 f, .int .i64 b], .int .i64 k, .int .i64 e, .int .i64 now] => some ((xs.map unStp).map Stp7.row = xs, .tup [(Path5.restR ⟨q, s, xs.map unStp, f, b⟩ k e now).av, .bool (decide (Path5.goes ⟨q, s, xs.map unStp, f, b⟩ k e now))])
  | _ => none
abbrev t_iRest := t_frest
theorem h_iRest : ∀ args p v, t_frest args = some (p, v) → p → Contract P 36 args [] v [] ∧ noref v = true ∧ No99 v := by
  intro args p v h1 h2
  unfold t_frest at h1
  split at h1
  · rename_i q s t xs f b k e now
    cases h1
    have := c_iFlyRest ⟨q, s, xs.map unStp, f, b⟩ t k e now
    simp only [h2] at this
    exact ⟨this, rfl, no99_av _, trivial, trivial⟩
  · cases h1
abbrev t_sRest := t_frest
theorem h_sRest : ∀ args p v, t_frest args = some (p, v) → p → Contract P 40 args [] v [] ∧ noref v = true ∧ No99 v := by
  intro args p v h1 h2
  unfold t_frest at h1
  split at h1
  · rename_i q s t xs f b k e now
    cases h1
    have := c_sFlyRest ⟨q, s, xs.map unStp, f, b⟩ t k e now
    simp only [h2] at this
    exact ⟨this, rfl, no99_av _, trivial, trivial⟩
  · cases h1
theorem c_l43Waits (p : Path5) (t : Nat) (now : Int) (hc : p.calm) (hw : -4611686018427387904 ≤ now ∧ now ≤ 4611686018427387904) : Contract P 106 [.agg [.int .i64 p.q, .int .i64 p.s, .sl t 7 (p.l.map Stp7.row), .int .i64 p.f, .int .i64 p.b], .int .i64 now] [] (.bool (decide (pathOk p.q p.s p.l p.f p.b ∧ (p.wait now).can))) [] := by
  refine fn_sound ((((Env.nil P).add 33 t_sPathOk h_sPathOk).add 54 t_l24Spans h_l24Spans).add 84 t_l21Max h_l21Max) hm k_spec_l43Waits (Nat.le_of_ble_eq_true rfl) rfl ?_
  unfold s_spec_l43Waits
  simp only [w_skip, w_rg, w_rgd, w_seq, w_cond, w_block, w_loop, w_exit, w_ret, w_gh, w_rg0, w_rg1, w_rgT, w_rgF, w_run, w_psd, w_und, w_dr0, w_dr1, w_drT, w_drF, w_drRun, w_drPsd, w_drUnd, w_drKn, w_drKs, w_putK, w_trimK, w_thenN, w_thenE, w_thenR, w_blkN, w_blkE, w_blkR, w_call, w_effK, brU_true, brU_false, brU_u, brU_not, brU_and, brU_or, brU_dec, brU_eq, brU_ne, br_true, br_false, br_not, br_and, br_or, br_dec, br_eq, br_ne, w_getE0, w_getE1, w_setE0, w_setE1, w_dropE0, w_dropE1, w_drop0, w_drop1, w_getM0, w_getM1, w_setM0, w_setM1, ev_v, ev_c, w_putS, w_putN, w_lit, w_apU0, w_apU1, w_trim, enumE0, enumE1, w_callWp, w_callL, w_callT, w_T1, w_T0, o_mv, o_newnil, o_pick, o_bin, o_binN, o_neg, o_not, o_eqB, o_eqS, o_conv, o_alloc, o_box, o_load1, o_loadN, o_store, o_nilck, o_faddr, o_field1, o_fieldN, o_iaddr, o_istr, o_slStr, o_slSl, o_lenS, o_lenL, o_mx, o_mn, o_ext, o_build, o_lit, o_litOwn, o_app, o_mk, o_mvfrz, l_int, l_bool, l_str, l_agg, l_sl, l_own, l_ptr, l_pp, i_int, i_bool, i_str, i_sl, i_own, i_ptr, i_pp, all0, all1, e_ok1, eff, effBin, effBinN, ld_ptr, ld_pp, ld_elt, ia_own, ia_arr, el_1, el_N, load1K, faddrE, r_iaddr, sg_S, sg_c, sg_n, purL, pur, List.map, List.drop, List.take, List.length, List.foldl, List.append_eq, List.nil_append, List.cons_append, List.getD_cons_zero, List.getD_cons_succ, reduceIte, Nat.reduceEqDiff, Nat.reduceAdd, Nat.reduceLeDiff, true_and, and_true, Bool.not_true, Bool.not_false, Bool.and_true, Bool.true_and, Bool.and_self, reduceCtorEq, true_implies, false_implies, implies_true, decide_eq_true_eq, Option.map_some, fpOf, fpX, SOp.xs, oX, refs, refsL, dom, disj, List.all_nil, List.all_cons, List.contains_cons, List.contains_nil, Nat.reduceBEq, Bool.or_false, Bool.false_or, List.append_nil, Bool.not_false, Bool.not_true, List.forall_mem_cons, fm0, List.set, Nat.reduceLT, ne_eq, not_false_eq_true, not_true_eq_false, ret1, ret1N, keep0, keep1, rf_int, rf_bool, rf_str, rf_sl, rf_agg, rf_tup, rfL0, rfL1, re_t, re_cN, re_L0, re_L1, ret_tup, ret_one, decide_true, AV.bool.injEq, AV.int.injEq, Nat.reduceLeDiff, Bool.true_eq, Bool.false_eq, decide_eq_true_eq, decide_eq_false_iff_not, t_sPathOk, t_l24Spans, t_l21Max, set_f, List.length_set, take_s1, Path5.av, Int.toNat_zero, List.length_map, Stp7.row, irow, un_stp, un_i, path_eta, stp_eta, take_all, flatOk, noref, ghost, Nat.zero_add, Nat.sub_zero, Int.toNat_natCast]
  refine ⟨_, _, .inl ⟨[], c_l22Copy p t hc.n, by simp, by simp [getM], rfl, rfl, rfl, rfl, rfl⟩, ?_⟩
  simp only [w_skip, w_rg, w_rgd, w_seq, w_cond, w_block, w_loop, w_exit, w_ret, w_gh, w_rg0, w_rg1, w_rgT, w_rgF, w_run, w_psd, w_und, w_dr0, w_dr1, w_drT, w_drF, w_drRun, w_drPsd, w_drUnd, w_drKn, w_drKs, w_putK, w_trimK, w_thenN, w_thenE, w_thenR, w_blkN, w_blkE, w_blkR, w_call, w_effK, brU_true, brU_false, brU_u, brU_not, brU_and, brU_or, brU_dec, brU_eq, brU_ne, br_true, br_false, br_not, br_and, br_or, br_dec, br_eq, br_ne, w_getE0, w_getE1, w_setE0, w_setE1, w_dropE0, w_dropE1, w_drop0, w_drop1, w_getM0, w_getM1, w_setM0, w_setM1, ev_v, ev_c, w_putS, w_putN, w_lit, w_apU0, w_apU1, w_trim, enumE0, enumE1, w_callWp, w_callL, w_callT, w_T1, w_T0, o_mv, o_newnil, o_pick, o_bin, o_binN, o_neg, o_not, o_eqB, o_eqS, o_conv, o_alloc, o_box, o_load1, o_loadN, o_store, o_nilck, o_faddr, o_field1, o_fieldN, o_iaddr, o_istr, o_slStr, o_slSl, o_lenS, o_lenL, o_mx, o_mn, o_ext, o_build, o_lit, o_litOwn, o_app, o_mk, o_mvfrz, l_int, l_bool, l_str, l_agg, l_sl, l_own, l_ptr, l_pp, i_int, i_bool, i_str, i_sl, i_own, i_ptr, i_pp, all0, all1, e_ok1, eff, effBin, effBinN, ld_ptr, ld_pp, ld_elt, ia_own, ia_arr, el_1, el_N, load1K, faddrE, r_iaddr, sg_S, sg_c, sg_n, purL, pur, List.map, List.drop, List.take, List.length, List.foldl, List.append_eq, List.nil_append, List.cons_append, List.getD_cons_zero, List.getD_cons_succ, reduceIte, Nat.reduceEqDiff, Nat.reduceAdd, Nat.reduceLeDiff, true_and, and_true, Bool.not_true, Bool.not_false, Bool.and_true, Bool.true_and, Bool.and_self, reduceCtorEq, true_implies, false_implies, implies_true, decide_eq_true_eq, Option.map_some, fpOf, fpX, SOp.xs, oX, refs, refsL, dom, disj, List.all_nil, List.all_cons, List.contains_cons, List.contains_nil, Nat.reduceBEq, Bool.or_false, Bool.false_or, List.append_nil, Bool.not_false, Bool.not_true, List.forall_mem_cons, fm0, List.set, Nat.reduceLT, ne_eq, not_false_eq_true, not_true_eq_false, ret1, ret1N, keep0, keep1, rf_int, rf_bool, rf_str, rf_sl, rf_agg, rf_tup, rfL0, rfL1, re_t, re_cN, re_L0, re_L1, ret_tup, ret_one, decide_true, AV.bool.injEq, AV.int.injEq, Nat.reduceLeDiff, Bool.true_eq, Bool.false_eq, decide_eq_true_eq, decide_eq_false_iff_not, t_sPathOk, t_l24Spans, t_l21Max, set_f, List.length_set, take_s1, Path5.av, Int.toNat_zero, List.length_map, Stp7.row, irow, un_stp, un_i, path_eta, stp_eta, take_all, flatOk, noref, ghost, Nat.zero_add, Nat.sub_zero, Int.toNat_natCast]
  refine ⟨fun h => ⟨⟨by omega, by omega⟩, by omega, by omega, ⟨by omega, by omega⟩, wait_calm (by omega) hc, fun h1 => decide_eq_decide.2 ⟨fun h2 => ⟨h1, h2⟩, fun h2 => h2.2⟩, fun h1 h2 => h1 h2.1⟩, fun h => ⟨hc, fun h1 => absurd h1.2.1.1 (by omega), fun h1 h2 => h1 h2.1⟩⟩
def t_waits : List AV → Option (Prop × AV)
  | [.agg [.int .i64 q, .int .i64 s, .sl _ 7 xs, .int .i64 f, .int .i64 b], .int .i64 now] => some ((xs.map unStp).map Stp7.row = xs ∧ Path5.calm ⟨q, s, xs.map unStp, f, b⟩ ∧ (-4611686018427387904 ≤ now ∧ now ≤ 4611686018427387904), .bool (decide (pathOk q s (xs.map unStp) f b ∧ (Path5.wait ⟨q, s, xs.map unStp, f, b⟩ now).can)))
  | _ => none
theorem h_waits : ∀ args p v, t_waits args = some (p, v) → p → Contract P 106 args [] v [] ∧ noref v = true ∧ No99 v := by
  intro args p v h1 h2
  unfold t_waits at h1
  split at h1
  · rename_i q s t xs f b now
    cases h1
    have := c_l43Waits ⟨q, s, xs.map unStp, f, b⟩ t now h2.2.1 h2.2.2
    simp only [h2.1] at this
    exact ⟨this, rfl, trivial⟩
  · cases h1
/-- The aircraft can stay where it is behind now. -/
def Path5.stays (p : Path5) (bg : List Int) (now : Int) : Prop := if bg.length = 0 then pathOk p.q p.s p.l p.f p.b ∧ (p.wait now).can else p.goes ((bg.length : Int) - 1) (bg.getD (bg.length - 1) default) now
instance (p : Path5) (bg : List Int) (now : Int) : Decidable (p.stays bg now) := by unfold Path5.stays; infer_instance
theorem nat_pred (n : Nat) : ((n : Int) - 1).toNat = n - 1 := by omega
theorem len_zero (n : Nat) : ((n : Int) = 0) = (n = 0) := by simp
theorem c_l43Stays (p : Path5) (t t' : Nat) (bg : List Int) (now : Int) (hc : p.calm) (hw : -4611686018427387904 ≤ now ∧ now ≤ 4611686018427387904) (hb : bg.length ≤ 1048576) : Contract P 66 [.agg [.int .i64 p.q, .int .i64 p.s, .sl t 7 (p.l.map Stp7.row), .int .i64 p.f, .int .i64 p.b], .sl t' 1 (bg.map irow), .int .i64 now] [] (.bool (decide (p.stays bg now))) [] := by
  refine fn_sound (((Env.nil P).add 106 t_waits h_waits).add 40 t_sRest h_sRest) hm k_spec_l43Stays (Nat.le_of_ble_eq_true rfl) rfl ?_
  unfold s_spec_l43Stays
  simp only [w_skip, w_rg, w_rgd, w_seq, w_cond, w_block, w_loop, w_exit, w_ret, w_gh, w_rg0, w_rg1, w_rgT, w_rgF, w_run, w_psd, w_und, w_dr0, w_dr1, w_drT, w_drF, w_drRun, w_drPsd, w_drUnd, w_drKn, w_drKs, w_putK, w_trimK, w_thenN, w_thenE, w_thenR, w_blkN, w_blkE, w_blkR, w_call, w_effK, brU_true, brU_false, brU_u, brU_not, brU_and, brU_or, brU_dec, brU_eq, brU_ne, br_true, br_false, br_not, br_and, br_or, br_dec, br_eq, br_ne, w_getE0, w_getE1, w_setE0, w_setE1, w_dropE0, w_dropE1, w_drop0, w_drop1, w_getM0, w_getM1, w_setM0, w_setM1, ev_v, ev_c, w_putS, w_putN, w_lit, w_apU0, w_apU1, w_trim, enumE0, enumE1, w_callWp, w_callL, w_callT, w_T1, w_T0, o_mv, o_newnil, o_pick, o_bin, o_binN, o_neg, o_not, o_eqB, o_eqS, o_conv, o_alloc, o_box, o_load1, o_loadN, o_store, o_nilck, o_faddr, o_field1, o_fieldN, o_iaddr, o_istr, o_slStr, o_slSl, o_lenS, o_lenL, o_mx, o_mn, o_ext, o_build, o_lit, o_litOwn, o_app, o_mk, o_mvfrz, l_int, l_bool, l_str, l_agg, l_sl, l_own, l_ptr, l_pp, i_int, i_bool, i_str, i_sl, i_own, i_ptr, i_pp, all0, all1, e_ok1, eff, effBin, effBinN, ld_ptr, ld_pp, ld_elt, ia_own, ia_arr, el_1, el_N, load1K, faddrE, r_iaddr, sg_S, sg_c, sg_n, purL, pur, List.map, List.drop, List.take, List.length, List.foldl, List.append_eq, List.nil_append, List.cons_append, List.getD_cons_zero, List.getD_cons_succ, reduceIte, Nat.reduceEqDiff, Nat.reduceAdd, Nat.reduceLeDiff, true_and, and_true, Bool.not_true, Bool.not_false, Bool.and_true, Bool.true_and, Bool.and_self, reduceCtorEq, true_implies, false_implies, implies_true, decide_eq_true_eq, Option.map_some, fpOf, fpX, SOp.xs, oX, refs, refsL, dom, disj, List.all_nil, List.all_cons, List.contains_cons, List.contains_nil, Nat.reduceBEq, Bool.or_false, Bool.false_or, List.append_nil, Bool.not_false, Bool.not_true, List.forall_mem_cons, fm0, List.set, Nat.reduceLT, ne_eq, not_false_eq_true, not_true_eq_false, ret1, ret1N, keep0, keep1, rf_int, rf_bool, rf_str, rf_sl, rf_agg, rf_tup, rfL0, rfL1, re_t, re_cN, re_L0, re_L1, ret_tup, ret_one, decide_true, AV.bool.injEq, AV.int.injEq, Nat.reduceLeDiff, Bool.true_eq, Bool.false_eq, decide_eq_true_eq, decide_eq_false_iff_not, t_waits, t_sRest, t_frest, nat_pred, Path5.av, Int.toNat_zero, List.length_map, Stp7.row, irow, un_stp, un_i, path_eta, stp_eta, take_all, flatOk, noref, ghost, Nat.zero_add, Nat.sub_zero, Int.toNat_natCast]
  refine ⟨fun h => ⟨⟨hc, hw⟩, by unfold Path5.stays; simp only [show bg.length = 0 from by omega, if_true]⟩, fun h => ⟨by omega, by omega, by omega, ?_⟩⟩
  unfold Path5.stays
  simp only [show ¬ bg.length = 0 from by omega, if_false]
theorem c_stays (nm : ByteArray) (q s nr no : Int) (t t' t2 : Nat) (tu : List Box6) (fl : List Int) (p : Path5) (now : Int) (hp : pathOk p.q p.s p.l p.f p.b) (hb : fl.length ≤ 1048576) : Contract P 71 [.agg [.str nm, .int .i64 q, .int .i64 s, .int .i64 nr, .int .i64 no, .sl t 6 (tu.map Box6.row), .sl t' 1 (fl.map irow)], .agg [.int .i64 p.q, .int .i64 p.s, .sl t2 7 (p.l.map Stp7.row), .int .i64 p.f, .int .i64 p.b], .int .i64 now] [] (.bool (decide (p.stays fl now))) [] := by
  refine fn_sound (((Env.nil P).add 10 t_iFit h_iFit).add 36 t_iRest h_iRest) hm k_impl_LapCraft_stays (Nat.le_of_ble_eq_true rfl) rfl ?_
  unfold s_impl_LapCraft_stays
  simp only [w_skip, w_rg, w_rgd, w_seq, w_cond, w_block, w_loop, w_exit, w_ret, w_gh, w_rg0, w_rg1, w_rgT, w_rgF, w_run, w_psd, w_und, w_dr0, w_dr1, w_drT, w_drF, w_drRun, w_drPsd, w_drUnd, w_drKn, w_drKs, w_putK, w_trimK, w_thenN, w_thenE, w_thenR, w_blkN, w_blkE, w_blkR, w_call, w_effK, brU_true, brU_false, brU_u, brU_not, brU_and, brU_or, brU_dec, brU_eq, brU_ne, br_true, br_false, br_not, br_and, br_or, br_dec, br_eq, br_ne, w_getE0, w_getE1, w_setE0, w_setE1, w_dropE0, w_dropE1, w_drop0, w_drop1, w_getM0, w_getM1, w_setM0, w_setM1, ev_v, ev_c, w_putS, w_putN, w_lit, w_apU0, w_apU1, w_trim, enumE0, enumE1, w_callWp, w_callL, w_callT, w_T1, w_T0, o_mv, o_newnil, o_pick, o_bin, o_binN, o_neg, o_not, o_eqB, o_eqS, o_conv, o_alloc, o_box, o_load1, o_loadN, o_store, o_nilck, o_faddr, o_field1, o_fieldN, o_iaddr, o_istr, o_slStr, o_slSl, o_lenS, o_lenL, o_mx, o_mn, o_ext, o_build, o_lit, o_litOwn, o_app, o_mk, o_mvfrz, l_int, l_bool, l_str, l_agg, l_sl, l_own, l_ptr, l_pp, i_int, i_bool, i_str, i_sl, i_own, i_ptr, i_pp, all0, all1, e_ok1, eff, effBin, effBinN, ld_ptr, ld_pp, ld_elt, ia_own, ia_arr, el_1, el_N, load1K, faddrE, r_iaddr, sg_S, sg_c, sg_n, purL, pur, List.map, List.drop, List.take, List.length, List.foldl, List.append_eq, List.nil_append, List.cons_append, List.getD_cons_zero, List.getD_cons_succ, reduceIte, Nat.reduceEqDiff, Nat.reduceAdd, Nat.reduceLeDiff, true_and, and_true, Bool.not_true, Bool.not_false, Bool.and_true, Bool.true_and, Bool.and_self, reduceCtorEq, true_implies, false_implies, implies_true, decide_eq_true_eq, Option.map_some, fpOf, fpX, SOp.xs, oX, refs, refsL, dom, disj, List.all_nil, List.all_cons, List.contains_cons, List.contains_nil, Nat.reduceBEq, Bool.or_false, Bool.false_or, List.append_nil, Bool.not_false, Bool.not_true, List.forall_mem_cons, fm0, List.set, Nat.reduceLT, ne_eq, not_false_eq_true, not_true_eq_false, ret1, ret1N, keep0, keep1, rf_int, rf_bool, rf_str, rf_sl, rf_agg, rf_tup, rfL0, rfL1, re_t, re_cN, re_L0, re_L1, ret_tup, ret_one, decide_true, AV.bool.injEq, AV.int.injEq, Nat.reduceLeDiff, Bool.true_eq, Bool.false_eq, decide_eq_true_eq, decide_eq_false_iff_not, t_iFit, t_iRest, t_frest, nat_pred, Path5.av, Int.toNat_zero, List.length_map, Stp7.row, irow, un_stp, un_i, path_eta, stp_eta, take_all, flatOk, noref, ghost, Nat.zero_add, Nat.sub_zero, Int.toNat_natCast, t_fit, Span2.row]
  have hf : p.fit ↔ p.can := ⟨fun h => h.2, fun h => ⟨hp, h⟩⟩
  have hq : p.q ≤ p.s ∧ p.q ≤ 10000 := by have := hp.1; omega
  have h0 : 0 < p.l.length := by have := hp.2.1; omega
  have hw := wait_can (now := now) h0 hq
  refine ⟨fun h => ?_, fun h => ⟨by omega, by omega, by omega, by omega, ?_⟩⟩
  · unfold Path5.stays
    simp only [show fl.length = 0 from by omega, if_true]
    refine ⟨fun h1 => ?_, fun h1 h2 => h1 (hf.2 (hw.1 h2.2).1)⟩
    have e : p.fitS = (List.range (p.l.length + 1)).map p.span := by rw [Path5.fitS, if_pos hp]; exact if_pos h1.2
    rw [e, getD_range (by omega)]
    exact ⟨by omega, by simp only [List.length_map, List.length_range]; omega, decide_eq_decide.2 ⟨fun h2 => ⟨hp, hw.2 ⟨h1.2, h2⟩⟩, fun h2 => (hw.1 h2.2).2⟩⟩
  · unfold Path5.stays
    simp only [show ¬ fl.length = 0 from by omega, if_false]
end Go.Ve
namespace Go.Ve
open Go.Proofs
set_option linter.unusedSimpArgs false
set_option linter.unusedVariables false
set_option maxRecDepth 100000
def t_stays : List AV → Option (Prop × AV)
  | [.agg [.str nm, .int .i64 q, .int .i64 s, .int .i64 nr, .int .i64 no, .sl _ 6 tu, .sl _ 1 fl], .agg [.int .i64 pq, .int .i64 ps, .sl _ 7 xs, .int .i64 f, .int .i64 b], .int .i64 now] => some (((tu.map unBox).map Box6.row = tu ∧ (xs.map unStp).map Stp7.row = xs ∧ (fl.map unI).map irow = fl) ∧ pathOk pq ps (xs.map unStp) f b ∧ (fl.map unI).length ≤ 1048576, .bool (decide (Path5.stays ⟨pq, ps, xs.map unStp, f, b⟩ (fl.map unI) now)))
  | _ => none
theorem h_stays : ∀ args p v, t_stays args = some (p, v) → p → Contract P 71 args [] v [] ∧ noref v = true ∧ No99 v := by
  intro args p v h1 h2
  unfold t_stays at h1
  split at h1
  · rename_i nm q s nr no t tu t' fl pq ps t2 xs f b now
    cases h1
    have := c_stays nm q s nr no t t' t2 (tu.map unBox) (fl.map unI) ⟨pq, ps, xs.map unStp, f, b⟩ now h2.2.1 h2.2.2
    simp only [h2.1.1, h2.1.2.1, h2.1.2.2] at this
    exact ⟨this, rfl, trivial⟩
  · cases h1
def t_sStays : List AV → Option (Prop × AV)
  | [.agg [.int .i64 pq, .int .i64 ps, .sl _ 7 xs, .int .i64 f, .int .i64 b], .sl _ 1 fl, .int .i64 now] => some (((xs.map unStp).map Stp7.row = xs ∧ (fl.map unI).map irow = fl) ∧ Path5.calm ⟨pq, ps, xs.map unStp, f, b⟩ ∧ (-4611686018427387904 ≤ now ∧ now ≤ 4611686018427387904) ∧ (fl.map unI).length ≤ 1048576, .bool (decide (Path5.stays ⟨pq, ps, xs.map unStp, f, b⟩ (fl.map unI) now)))
  | _ => none
theorem h_sStays : ∀ args p v, t_sStays args = some (p, v) → p → Contract P 66 args [] v [] ∧ noref v = true ∧ No99 v := by
  intro args p v h1 h2
  unfold t_sStays at h1
  split at h1
  · rename_i pq ps t2 xs f b t' fl now
    cases h1
    have := c_l43Stays ⟨pq, ps, xs.map unStp, f, b⟩ t2 t' (fl.map unI) now h2.2.1 h2.2.2.1 h2.2.2.2
    simp only [h2.1.1, h2.1.2] at this
    exact ⟨this, rfl, trivial⟩
  · cases h1
def t_begun : List AV → Option (Prop × AV)
  | [.agg [.int .i64 q, .int .i64 s, .sl _ 7 xs, .int .i64 f, .int .i64 b], .sl _ 1 ys] => some ((xs.map unStp).map Stp7.row = xs ∧ (ys.map unI).map irow = ys, .bool (decide (Path5.begun ⟨q, s, xs.map unStp, f, b⟩ (ys.map unI))))
  | _ => none
theorem h_begun : ∀ args p v, t_begun args = some (p, v) → p → Contract P 64 args [] v [] ∧ noref v = true ∧ No99 v := by
  intro args p v h1 h2
  unfold t_begun at h1
  split at h1
  · rename_i q s t xs f b t' ys
    cases h1
    have := c_l43Begun ⟨q, s, xs.map unStp, f, b⟩ t t' (ys.map unI)
    simp only [h2.1, h2.2] at this
    exact ⟨this, rfl, trivial⟩
  · cases h1
def t_cnext : List AV → Option (Prop × AV)
  | [.agg [.str nm, .int .i64 q, .int .i64 s, .int .i64 nr, .int .i64 no, .sl _ 6 tu, .sl _ 1 fl]] => some (((tu.map unBox).map Box6.row = tu ∧ (fl.map unI).map irow = fl) ∧ (tu.map unBox).length ≤ 1048576, .tup [(lapPath q s (tu.map unBox)).av, .agg [.int .i64 ((lapPath q s (tu.map unBox)).next (fl.map unI)).lo, .int .i64 ((lapPath q s (tu.map unBox)).next (fl.map unI)).hi], .bool (decide ((lapPath q s (tu.map unBox)).begun (fl.map unI)))])
  | _ => none
theorem h_cnext : ∀ args p v, t_cnext args = some (p, v) → p → Contract P 70 args [] v [] ∧ noref v = true ∧ No99 v := by
  intro args p v h1 h2
  unfold t_cnext at h1
  split at h1
  · rename_i nm q s nr no t tu t' fl
    cases h1
    have := c_next nm q s nr no t t' (tu.map unBox) (fl.map unI) h2.2
    simp only [h2.1.1, h2.1.2] at this
    exact ⟨this, rfl, no99_av _, ⟨trivial, trivial, trivial⟩, trivial, trivial⟩
  · cases h1
def t_l43Next : List AV → Option (Prop × AV)
  | [.agg [.str nm, .int .i64 q, .int .i64 s, .int .i64 nr, .int .i64 no, .sl _ 6 tu, .sl _ 1 fl], .int .i64 now] => some (((tu.map unBox).map Box6.row = tu ∧ (fl.map unI).map irow = fl) ∧ (tu.map unBox).length ≤ 1048576, .bool (decide ((lapPath q s (tu.map unBox)).begun (fl.map unI) ∧ ((lapPath q s (tu.map unBox)).next (fl.map unI)).lo ≤ now ∧ now ≤ ((lapPath q s (tu.map unBox)).next (fl.map unI)).hi)))
  | _ => none
theorem h_l43Next : ∀ args p v, t_l43Next args = some (p, v) → p → Contract P 65 args [] v [] ∧ noref v = true ∧ No99 v := by
  intro args p v h1 h2
  unfold t_l43Next at h1
  split at h1
  · rename_i nm q s nr no t tu t' fl now
    cases h1
    have := c_l43Next nm q s nr no t t' (tu.map unBox) (fl.map unI) now h2.2
    simp only [h2.1.1, h2.1.2] at this
    exact ⟨this, rfl, trivial⟩
  · cases h1
def Path5.must (p : Path5) (bg : List Int) (now : Int) : Prop := p.begun bg ∧ ((p.next bg).lo ≤ now ∧ now ≤ (p.next bg).hi) ∧ ¬ p.stays bg now
instance (p : Path5) (bg : List Int) (now : Int) : Decidable (p.must bg now) := by unfold Path5.must; infer_instance
theorem begun_next {p : Path5} {bg : List Int} (h : p.begun bg) : 0 ≤ (p.next bg).lo ∧ (p.next bg).lo ≤ (p.next bg).hi ∧ (p.next bg).hi ≤ 10000 := by
  have hl : (p.held bg).l.length = p.l.length := held_len
  have h1 := can_in h.1 h.2.2
  rw [Path5.next, if_pos h]
  unfold Path5.span
  exact h1.2 _ (by rw [hl]; omega)
theorem c_sLapMust (nm : ByteArray) (q s nr no : Int) (t t' : Nat) (tu : List Box6) (fl : List Int) (now : Int) (hl : tu.length ≤ 1048576) (hf : fl.length ≤ 1048576) : Contract P 19 [.agg [.str nm, .int .i64 q, .int .i64 s, .int .i64 nr, .int .i64 no, .sl t 6 (tu.map Box6.row), .sl t' 1 (fl.map irow)], .int .i64 now] [] (.bool (decide ((lapPath q s tu).must fl now))) [] := by
  refine fn_sound (((((Env.nil P).add 63 t_sLap h_sLap).add 64 t_begun h_begun).add 65 t_l43Next h_l43Next).add 66 t_sStays h_sStays) hm k_spec_LapMust (Nat.le_of_ble_eq_true rfl) rfl ?_
  unfold s_spec_LapMust
  simp only [w_skip, w_rg, w_rgd, w_seq, w_cond, w_block, w_loop, w_exit, w_ret, w_gh, w_rg0, w_rg1, w_rgT, w_rgF, w_run, w_psd, w_und, w_dr0, w_dr1, w_drT, w_drF, w_drRun, w_drPsd, w_drUnd, w_drKn, w_drKs, w_putK, w_trimK, w_thenN, w_thenE, w_thenR, w_blkN, w_blkE, w_blkR, w_call, w_effK, brU_true, brU_false, brU_u, brU_not, brU_and, brU_or, brU_dec, brU_eq, brU_ne, br_true, br_false, br_not, br_and, br_or, br_dec, br_eq, br_ne, w_getE0, w_getE1, w_setE0, w_setE1, w_dropE0, w_dropE1, w_drop0, w_drop1, w_getM0, w_getM1, w_setM0, w_setM1, ev_v, ev_c, w_putS, w_putN, w_lit, w_apU0, w_apU1, w_trim, enumE0, enumE1, w_callWp, w_callL, w_callT, w_T1, w_T0, o_mv, o_newnil, o_pick, o_bin, o_binN, o_neg, o_not, o_eqB, o_eqS, o_conv, o_alloc, o_box, o_load1, o_loadN, o_store, o_nilck, o_faddr, o_field1, o_fieldN, o_iaddr, o_istr, o_slStr, o_slSl, o_lenS, o_lenL, o_mx, o_mn, o_ext, o_build, o_lit, o_litOwn, o_app, o_mk, o_mvfrz, l_int, l_bool, l_str, l_agg, l_sl, l_own, l_ptr, l_pp, i_int, i_bool, i_str, i_sl, i_own, i_ptr, i_pp, all0, all1, e_ok1, eff, effBin, effBinN, ld_ptr, ld_pp, ld_elt, ia_own, ia_arr, el_1, el_N, load1K, faddrE, r_iaddr, sg_S, sg_c, sg_n, purL, pur, List.map, List.drop, List.take, List.length, List.foldl, List.append_eq, List.nil_append, List.cons_append, List.getD_cons_zero, List.getD_cons_succ, reduceIte, Nat.reduceEqDiff, Nat.reduceAdd, Nat.reduceLeDiff, true_and, and_true, Bool.not_true, Bool.not_false, Bool.and_true, Bool.true_and, Bool.and_self, reduceCtorEq, true_implies, false_implies, implies_true, decide_eq_true_eq, Option.map_some, fpOf, fpX, SOp.xs, oX, refs, refsL, dom, disj, List.all_nil, List.all_cons, List.contains_cons, List.contains_nil, Nat.reduceBEq, Bool.or_false, Bool.false_or, List.append_nil, Bool.not_false, Bool.not_true, List.forall_mem_cons, fm0, List.set, Nat.reduceLT, ne_eq, not_false_eq_true, not_true_eq_false, ret1, ret1N, keep0, keep1, rf_int, rf_bool, rf_str, rf_sl, rf_agg, rf_tup, rfL0, rfL1, re_t, re_cN, re_L0, re_L1, ret_tup, ret_one, decide_true, AV.bool.injEq, AV.int.injEq, Nat.reduceLeDiff, Bool.true_eq, Bool.false_eq, decide_eq_true_eq, decide_eq_false_iff_not, t_sLap, t_begun, t_l43Next, t_sStays, t_lap, Path5.av, Span2.row, List.length_map, un_box, irow, un_stp, un_i, path_eta, flatOk, noref, ghost, Nat.zero_add, Nat.sub_zero, Int.toNat_natCast]
  refine ⟨hl, fun h1 => ⟨hl, fun h2 => ⟨⟨ok_calm h1.1, by have := begun_next h1; omega, hf⟩, ?_⟩, fun h2 h3 => h2 ⟨h1, h3.2.1⟩⟩, fun h1 h2 => h1 h2.1⟩
  rw [← decide_not]
  exact decide_eq_decide.2 ⟨fun h3 => ⟨h1, h2.2, h3⟩, fun h3 => h3.2.2⟩
theorem c_iLapMust (nm : ByteArray) (q s nr no : Int) (t t' : Nat) (tu : List Box6) (fl : List Int) (now : Int) (hl : tu.length ≤ 1048576) (hf : fl.length ≤ 1048576) : Contract P 21 [.agg [.str nm, .int .i64 q, .int .i64 s, .int .i64 nr, .int .i64 no, .sl t 6 (tu.map Box6.row), .sl t' 1 (fl.map irow)], .int .i64 now] [] (.bool (decide ((lapPath q s tu).must fl now))) [] := by
  refine fn_sound ((((Env.nil P).add 70 t_cnext h_cnext).add 56 t_within h_within).add 71 t_stays h_stays) hm k_impl_LapMust (Nat.le_of_ble_eq_true rfl) rfl ?_
  unfold s_impl_LapMust
  simp only [w_skip, w_rg, w_rgd, w_seq, w_cond, w_block, w_loop, w_exit, w_ret, w_gh, w_rg0, w_rg1, w_rgT, w_rgF, w_run, w_psd, w_und, w_dr0, w_dr1, w_drT, w_drF, w_drRun, w_drPsd, w_drUnd, w_drKn, w_drKs, w_putK, w_trimK, w_thenN, w_thenE, w_thenR, w_blkN, w_blkE, w_blkR, w_call, w_effK, brU_true, brU_false, brU_u, brU_not, brU_and, brU_or, brU_dec, brU_eq, brU_ne, br_true, br_false, br_not, br_and, br_or, br_dec, br_eq, br_ne, w_getE0, w_getE1, w_setE0, w_setE1, w_dropE0, w_dropE1, w_drop0, w_drop1, w_getM0, w_getM1, w_setM0, w_setM1, ev_v, ev_c, w_putS, w_putN, w_lit, w_apU0, w_apU1, w_trim, enumE0, enumE1, w_callWp, w_callL, w_callT, w_T1, w_T0, o_mv, o_newnil, o_pick, o_bin, o_binN, o_neg, o_not, o_eqB, o_eqS, o_conv, o_alloc, o_box, o_load1, o_loadN, o_store, o_nilck, o_faddr, o_field1, o_fieldN, o_iaddr, o_istr, o_slStr, o_slSl, o_lenS, o_lenL, o_mx, o_mn, o_ext, o_build, o_lit, o_litOwn, o_app, o_mk, o_mvfrz, l_int, l_bool, l_str, l_agg, l_sl, l_own, l_ptr, l_pp, i_int, i_bool, i_str, i_sl, i_own, i_ptr, i_pp, all0, all1, e_ok1, eff, effBin, effBinN, ld_ptr, ld_pp, ld_elt, ia_own, ia_arr, el_1, el_N, load1K, faddrE, r_iaddr, sg_S, sg_c, sg_n, purL, pur, List.map, List.drop, List.take, List.length, List.foldl, List.append_eq, List.nil_append, List.cons_append, List.getD_cons_zero, List.getD_cons_succ, reduceIte, Nat.reduceEqDiff, Nat.reduceAdd, Nat.reduceLeDiff, true_and, and_true, Bool.not_true, Bool.not_false, Bool.and_true, Bool.true_and, Bool.and_self, reduceCtorEq, true_implies, false_implies, implies_true, decide_eq_true_eq, Option.map_some, fpOf, fpX, SOp.xs, oX, refs, refsL, dom, disj, List.all_nil, List.all_cons, List.contains_cons, List.contains_nil, Nat.reduceBEq, Bool.or_false, Bool.false_or, List.append_nil, Bool.not_false, Bool.not_true, List.forall_mem_cons, fm0, List.set, Nat.reduceLT, ne_eq, not_false_eq_true, not_true_eq_false, ret1, ret1N, keep0, keep1, rf_int, rf_bool, rf_str, rf_sl, rf_agg, rf_tup, rfL0, rfL1, re_t, re_cN, re_L0, re_L1, ret_tup, ret_one, decide_true, AV.bool.injEq, AV.int.injEq, Nat.reduceLeDiff, Bool.true_eq, Bool.false_eq, decide_eq_true_eq, decide_eq_false_iff_not, t_cnext, t_within, t_stays, t_lap, Path5.av, Span2.row, List.length_map, un_box, irow, un_stp, un_i, path_eta, flatOk, noref, ghost, Nat.zero_add, Nat.sub_zero, Int.toNat_natCast]
  refine ⟨hl, fun h1 => ⟨fun h2 => ⟨⟨h1.1, hf⟩, ?_⟩, fun h2 h3 => h2 h3.2.1⟩, fun h1 h2 => h1 h2.1⟩
  rw [← decide_not]
  exact decide_eq_decide.2 ⟨fun h3 => ⟨h1, h2, h3⟩, fun h3 => h3.2.2⟩
end Go.Ve
namespace Go.Ve
open Go.Proofs
set_option linter.unusedSimpArgs false
set_option linter.unusedVariables false
set_option maxRecDepth 100000
def szOf (a : Int) (n : Nat) : Int := if a - n < 0 then -1 else a - n
theorem Box6.eq_iff (a b : Box6) : a = b ↔ a.x = b.x ∧ a.y = b.y ∧ a.l = b.l ∧ a.h = b.h ∧ a.i = b.i ∧ a.o = b.o := ⟨fun h => by subst h; exact ⟨rfl, rfl, rfl, rfl, rfl, rfl⟩, fun h => by
  cases a; cases b; simp only at h; simp only [Box6.mk.injEq]; exact h⟩
instance : DecidableEq Box6 := fun a b => decidable_of_iff _ (Box6.eq_iff a b).symm
theorem c_szBoxS (t sz : Nat) (xs : List (List AV)) (a : Int) (hp : (0 ≤ a ∧ a ≤ 1048576) ∧ xs.length ≤ 9223372036854775807) : Contract P 61 [.sl t sz xs, .int .i64 a] [] (.int .i64 (szOf a xs.length)) [] := by
  refine fn_sound (Env.nil P) hm k_laws_szHandBoxS (Nat.le_of_ble_eq_true rfl) rfl ?_
  unfold s_laws_szHandBoxS
  simp only [w_skip, w_rg, w_rgd, w_seq, w_cond, w_block, w_loop, w_exit, w_ret, w_gh, w_rg0, w_rg1, w_rgT, w_rgF, w_run, w_psd, w_und, w_dr0, w_dr1, w_drT, w_drF, w_drRun, w_drPsd, w_drUnd, w_drKn, w_drKs, w_putK, w_trimK, w_thenN, w_thenE, w_thenR, w_blkN, w_blkE, w_blkR, w_call, w_effK, brU_true, brU_false, brU_u, brU_not, brU_and, brU_or, brU_dec, brU_eq, brU_ne, br_true, br_false, br_not, br_and, br_or, br_dec, br_eq, br_ne, w_getE0, w_getE1, w_setE0, w_setE1, w_dropE0, w_dropE1, w_drop0, w_drop1, w_getM0, w_getM1, w_setM0, w_setM1, ev_v, ev_c, w_putS, w_putN, w_lit, w_apU0, w_apU1, w_trim, enumE0, enumE1, w_callWp, w_callL, w_callT, w_T1, w_T0, o_mv, o_newnil, o_pick, o_bin, o_binN, o_neg, o_not, o_eqB, o_eqS, o_conv, o_alloc, o_box, o_load1, o_loadN, o_store, o_nilck, o_faddr, o_field1, o_fieldN, o_iaddr, o_istr, o_slStr, o_slSl, o_lenS, o_lenL, o_mx, o_mn, o_ext, o_build, o_lit, o_litOwn, o_app, o_mk, o_mvfrz, l_int, l_bool, l_str, l_agg, l_sl, l_own, l_ptr, l_pp, i_int, i_bool, i_str, i_sl, i_own, i_ptr, i_pp, all0, all1, e_ok1, eff, effBin, effBinN, ld_ptr, ld_pp, ld_elt, ia_own, ia_arr, el_1, el_N, load1K, faddrE, r_iaddr, sg_S, sg_c, sg_n, purL, pur, List.map, List.drop, List.take, List.length, List.foldl, List.append_eq, List.nil_append, List.cons_append, List.getD_cons_zero, List.getD_cons_succ, reduceIte, Nat.reduceEqDiff, Nat.reduceAdd, Nat.reduceLeDiff, true_and, and_true, Bool.not_true, Bool.not_false, Bool.and_true, Bool.true_and, Bool.and_self, reduceCtorEq, true_implies, false_implies, implies_true, decide_eq_true_eq, Option.map_some, fpOf, fpX, SOp.xs, oX, refs, refsL, dom, disj, List.all_nil, List.all_cons, List.contains_cons, List.contains_nil, Nat.reduceBEq, Bool.or_false, Bool.false_or, List.append_nil, Bool.not_false, Bool.not_true, List.forall_mem_cons, fm0, List.set, Nat.reduceLT, ne_eq, not_false_eq_true, not_true_eq_false, ret1, ret1N, keep0, keep1, rf_int, rf_bool, rf_str, rf_sl, rf_agg, rf_tup, rfL0, rfL1, re_t, re_cN, re_L0, re_L1, ret_tup, ret_one, decide_true, AV.bool.injEq, AV.int.injEq, Nat.reduceLeDiff, Bool.true_eq, Bool.false_eq, decide_eq_true_eq, decide_eq_false_iff_not]
  unfold szOf
  exact ⟨by omega, fun h => by rw [if_pos (by omega)], fun h => by rw [if_neg (by omega)]⟩
def t_szBoxS : List AV → Option (Prop × AV)
  | [.sl t sz xs, .int .i64 a] => some ((0 ≤ a ∧ a ≤ 1048576) ∧ xs.length ≤ 9223372036854775807, .int .i64 (szOf a xs.length))
  | _ => none
theorem h_szBoxS : ∀ args p v, t_szBoxS args = some (p, v) → p → Contract P 61 args [] v [] ∧ noref v = true ∧ No99 v := by
  intro args p v h1 h2
  unfold t_szBoxS at h1
  split at h1
  · cases h1; exact ⟨c_szBoxS _ _ _ _ h2, rfl, trivial⟩
  · cases h1
theorem c_szIntS (t sz : Nat) (xs : List (List AV)) (a : Int) (hp : (0 ≤ a ∧ a ≤ 1048576) ∧ xs.length ≤ 9223372036854775807) : Contract P 62 [.sl t sz xs, .int .i64 a] [] (.int .i64 (szOf a xs.length)) [] := by
  refine fn_sound (Env.nil P) hm k_laws_szIntS (Nat.le_of_ble_eq_true rfl) rfl ?_
  unfold s_laws_szIntS
  simp only [w_skip, w_rg, w_rgd, w_seq, w_cond, w_block, w_loop, w_exit, w_ret, w_gh, w_rg0, w_rg1, w_rgT, w_rgF, w_run, w_psd, w_und, w_dr0, w_dr1, w_drT, w_drF, w_drRun, w_drPsd, w_drUnd, w_drKn, w_drKs, w_putK, w_trimK, w_thenN, w_thenE, w_thenR, w_blkN, w_blkE, w_blkR, w_call, w_effK, brU_true, brU_false, brU_u, brU_not, brU_and, brU_or, brU_dec, brU_eq, brU_ne, br_true, br_false, br_not, br_and, br_or, br_dec, br_eq, br_ne, w_getE0, w_getE1, w_setE0, w_setE1, w_dropE0, w_dropE1, w_drop0, w_drop1, w_getM0, w_getM1, w_setM0, w_setM1, ev_v, ev_c, w_putS, w_putN, w_lit, w_apU0, w_apU1, w_trim, enumE0, enumE1, w_callWp, w_callL, w_callT, w_T1, w_T0, o_mv, o_newnil, o_pick, o_bin, o_binN, o_neg, o_not, o_eqB, o_eqS, o_conv, o_alloc, o_box, o_load1, o_loadN, o_store, o_nilck, o_faddr, o_field1, o_fieldN, o_iaddr, o_istr, o_slStr, o_slSl, o_lenS, o_lenL, o_mx, o_mn, o_ext, o_build, o_lit, o_litOwn, o_app, o_mk, o_mvfrz, l_int, l_bool, l_str, l_agg, l_sl, l_own, l_ptr, l_pp, i_int, i_bool, i_str, i_sl, i_own, i_ptr, i_pp, all0, all1, e_ok1, eff, effBin, effBinN, ld_ptr, ld_pp, ld_elt, ia_own, ia_arr, el_1, el_N, load1K, faddrE, r_iaddr, sg_S, sg_c, sg_n, purL, pur, List.map, List.drop, List.take, List.length, List.foldl, List.append_eq, List.nil_append, List.cons_append, List.getD_cons_zero, List.getD_cons_succ, reduceIte, Nat.reduceEqDiff, Nat.reduceAdd, Nat.reduceLeDiff, true_and, and_true, Bool.not_true, Bool.not_false, Bool.and_true, Bool.true_and, Bool.and_self, reduceCtorEq, true_implies, false_implies, implies_true, decide_eq_true_eq, Option.map_some, fpOf, fpX, SOp.xs, oX, refs, refsL, dom, disj, List.all_nil, List.all_cons, List.contains_cons, List.contains_nil, Nat.reduceBEq, Bool.or_false, Bool.false_or, List.append_nil, Bool.not_false, Bool.not_true, List.forall_mem_cons, fm0, List.set, Nat.reduceLT, ne_eq, not_false_eq_true, not_true_eq_false, ret1, ret1N, keep0, keep1, rf_int, rf_bool, rf_str, rf_sl, rf_agg, rf_tup, rfL0, rfL1, re_t, re_cN, re_L0, re_L1, ret_tup, ret_one, decide_true, AV.bool.injEq, AV.int.injEq, Nat.reduceLeDiff, Bool.true_eq, Bool.false_eq, decide_eq_true_eq, decide_eq_false_iff_not]
  unfold szOf
  exact ⟨by omega, fun h => by rw [if_pos (by omega)], fun h => by rw [if_neg (by omega)]⟩
def t_szIntS : List AV → Option (Prop × AV)
  | [.sl t sz xs, .int .i64 a] => some ((0 ≤ a ∧ a ≤ 1048576) ∧ xs.length ≤ 9223372036854775807, .int .i64 (szOf a xs.length))
  | _ => none
theorem h_szIntS : ∀ args p v, t_szIntS args = some (p, v) → p → Contract P 62 args [] v [] ∧ noref v = true ∧ No99 v := by
  intro args p v h1 h2
  unfold t_szIntS at h1
  split at h1
  · cases h1; exact ⟨c_szIntS _ _ _ _ h2, rfl, trivial⟩
  · cases h1
theorem c_toBox (x : Int) (y : Int) (l : Int) (h : Int) (i : Int) (o : Int) (hp : True) : Contract P 107 [.agg [.int .i64 x, .int .i64 y, .int .i64 l, .int .i64 h, .int .i64 i, .int .i64 o]] [] (.agg [.int .i64 x, .int .i64 y, .int .i64 l, .int .i64 h, .int .i64 i, .int .i64 o]) [] := by
  refine fn_sound (Env.nil P) hm k_laws_toHandBox (Nat.le_of_ble_eq_true rfl) rfl ?_
  unfold s_laws_toHandBox
  simp only [w_skip, w_rg, w_rgd, w_seq, w_cond, w_block, w_loop, w_exit, w_ret, w_gh, w_rg0, w_rg1, w_rgT, w_rgF, w_run, w_psd, w_und, w_dr0, w_dr1, w_drT, w_drF, w_drRun, w_drPsd, w_drUnd, w_drKn, w_drKs, w_putK, w_trimK, w_thenN, w_thenE, w_thenR, w_blkN, w_blkE, w_blkR, w_call, w_effK, brU_true, brU_false, brU_u, brU_not, brU_and, brU_or, brU_dec, brU_eq, brU_ne, br_true, br_false, br_not, br_and, br_or, br_dec, br_eq, br_ne, w_getE0, w_getE1, w_setE0, w_setE1, w_dropE0, w_dropE1, w_drop0, w_drop1, w_getM0, w_getM1, w_setM0, w_setM1, ev_v, ev_c, w_putS, w_putN, w_lit, w_apU0, w_apU1, w_trim, enumE0, enumE1, w_callWp, w_callL, w_callT, w_T1, w_T0, o_mv, o_newnil, o_pick, o_bin, o_binN, o_neg, o_not, o_eqB, o_eqS, o_conv, o_alloc, o_box, o_load1, o_loadN, o_store, o_nilck, o_faddr, o_field1, o_fieldN, o_iaddr, o_istr, o_slStr, o_slSl, o_lenS, o_lenL, o_mx, o_mn, o_ext, o_build, o_lit, o_litOwn, o_app, o_mk, o_mvfrz, l_int, l_bool, l_str, l_agg, l_sl, l_own, l_ptr, l_pp, i_int, i_bool, i_str, i_sl, i_own, i_ptr, i_pp, all0, all1, e_ok1, eff, effBin, effBinN, ld_ptr, ld_pp, ld_elt, ia_own, ia_arr, el_1, el_N, load1K, faddrE, r_iaddr, sg_S, sg_c, sg_n, purL, pur, List.map, List.drop, List.take, List.length, List.foldl, List.append_eq, List.nil_append, List.cons_append, List.getD_cons_zero, List.getD_cons_succ, reduceIte, Nat.reduceEqDiff, Nat.reduceAdd, Nat.reduceLeDiff, true_and, and_true, Bool.not_true, Bool.not_false, Bool.and_true, Bool.true_and, Bool.and_self, reduceCtorEq, true_implies, false_implies, implies_true, decide_eq_true_eq, Option.map_some, fpOf, fpX, SOp.xs, oX, refs, refsL, dom, disj, List.all_nil, List.all_cons, List.contains_cons, List.contains_nil, Nat.reduceBEq, Bool.or_false, Bool.false_or, List.append_nil, Bool.not_false, Bool.not_true, List.forall_mem_cons, fm0, List.set, Nat.reduceLT, ne_eq, not_false_eq_true, not_true_eq_false, ret1, ret1N, keep0, keep1, rf_int, rf_bool, rf_str, rf_sl, rf_agg, rf_tup, rfL0, rfL1, re_t, re_cN, re_L0, re_L1, ret_tup, ret_one, decide_true, AV.bool.injEq, AV.int.injEq, Nat.reduceLeDiff, Bool.true_eq, Bool.false_eq, decide_eq_true_eq, decide_eq_false_iff_not]

def t_toBox : List AV → Option (Prop × AV)
  | [.agg [.int .i64 x, .int .i64 y, .int .i64 l, .int .i64 h, .int .i64 i, .int .i64 o]] => some (True, .agg [.int .i64 x, .int .i64 y, .int .i64 l, .int .i64 h, .int .i64 i, .int .i64 o])
  | _ => none
theorem h_toBox : ∀ args p v, t_toBox args = some (p, v) → p → Contract P 107 args [] v [] ∧ noref v = true ∧ No99 v := by
  intro args p v h1 h2
  unfold t_toBox at h1
  split at h1
  · cases h1; exact ⟨c_toBox _ _ _ _ _ _ h2, rfl, by simp [No99, No99L]⟩
  · cases h1
theorem c_eqBox (x : Int) (y : Int) (l : Int) (h : Int) (i : Int) (o : Int) (ox : Int) (oy : Int) (ol : Int) (oh : Int) (oi : Int) (oo : Int) : Contract P 109 [.agg [.int .i64 x, .int .i64 y, .int .i64 l, .int .i64 h, .int .i64 i, .int .i64 o], .agg [.int .i64 ox, .int .i64 oy, .int .i64 ol, .int .i64 oh, .int .i64 oi, .int .i64 oo]] [] (.bool (decide ((⟨x, y, l, h, i, o⟩ : Box6) = ⟨ox, oy, ol, oh, oi, oo⟩))) [] := by
  refine fn_sound (Env.nil P) hm k_laws_eqHandBox (Nat.le_of_ble_eq_true rfl) rfl ?_
  unfold s_laws_eqHandBox
  simp only [w_skip, w_rg, w_rgd, w_seq, w_cond, w_block, w_loop, w_exit, w_ret, w_gh, w_rg0, w_rg1, w_rgT, w_rgF, w_run, w_psd, w_und, w_dr0, w_dr1, w_drT, w_drF, w_drRun, w_drPsd, w_drUnd, w_drKn, w_drKs, w_putK, w_trimK, w_thenN, w_thenE, w_thenR, w_blkN, w_blkE, w_blkR, w_call, w_effK, brU_true, brU_false, brU_u, brU_not, brU_and, brU_or, brU_dec, brU_eq, brU_ne, br_true, br_false, br_not, br_and, br_or, br_dec, br_eq, br_ne, w_getE0, w_getE1, w_setE0, w_setE1, w_dropE0, w_dropE1, w_drop0, w_drop1, w_getM0, w_getM1, w_setM0, w_setM1, ev_v, ev_c, w_putS, w_putN, w_lit, w_apU0, w_apU1, w_trim, enumE0, enumE1, w_callWp, w_callL, w_callT, w_T1, w_T0, o_mv, o_newnil, o_pick, o_bin, o_binN, o_neg, o_not, o_eqB, o_eqS, o_conv, o_alloc, o_box, o_load1, o_loadN, o_store, o_nilck, o_faddr, o_field1, o_fieldN, o_iaddr, o_istr, o_slStr, o_slSl, o_lenS, o_lenL, o_mx, o_mn, o_ext, o_build, o_lit, o_litOwn, o_app, o_mk, o_mvfrz, l_int, l_bool, l_str, l_agg, l_sl, l_own, l_ptr, l_pp, i_int, i_bool, i_str, i_sl, i_own, i_ptr, i_pp, all0, all1, e_ok1, eff, effBin, effBinN, ld_ptr, ld_pp, ld_elt, ia_own, ia_arr, el_1, el_N, load1K, faddrE, r_iaddr, sg_S, sg_c, sg_n, purL, pur, List.map, List.drop, List.take, List.length, List.foldl, List.append_eq, List.nil_append, List.cons_append, List.getD_cons_zero, List.getD_cons_succ, reduceIte, Nat.reduceEqDiff, Nat.reduceAdd, Nat.reduceLeDiff, true_and, and_true, Bool.not_true, Bool.not_false, Bool.and_true, Bool.true_and, Bool.and_self, reduceCtorEq, true_implies, false_implies, implies_true, decide_eq_true_eq, Option.map_some, fpOf, fpX, SOp.xs, oX, refs, refsL, dom, disj, List.all_nil, List.all_cons, List.contains_cons, List.contains_nil, Nat.reduceBEq, Bool.or_false, Bool.false_or, List.append_nil, Bool.not_false, Bool.not_true, List.forall_mem_cons, fm0, List.set, Nat.reduceLT, ne_eq, not_false_eq_true, not_true_eq_false, ret1, ret1N, keep0, keep1, rf_int, rf_bool, rf_str, rf_sl, rf_agg, rf_tup, rfL0, rfL1, re_t, re_cN, re_L0, re_L1, ret_tup, ret_one, decide_true, AV.bool.injEq, AV.int.injEq, Nat.reduceLeDiff, Bool.true_eq, Bool.false_eq, decide_eq_true_eq, decide_eq_false_iff_not]
  simp only [Box6.mk.injEq]
  repeat' (first | apply And.intro | intro _)
  all_goals (first | trivial | (simp_all; done))
def t_eqBox : List AV → Option (Prop × AV)
  | [.agg [.int .i64 x, .int .i64 y, .int .i64 l, .int .i64 h, .int .i64 i, .int .i64 o], .agg [.int .i64 ox, .int .i64 oy, .int .i64 ol, .int .i64 oh, .int .i64 oi, .int .i64 oo]] => some (True, .bool (decide ((⟨x, y, l, h, i, o⟩ : Box6) = ⟨ox, oy, ol, oh, oi, oo⟩)))
  | _ => none
theorem h_eqBox : ∀ args p v, t_eqBox args = some (p, v) → p → Contract P 109 args [] v [] ∧ noref v = true ∧ No99 v := by
  intro args p v h1 h2
  unfold t_eqBox at h1
  split at h1
  · cases h1; exact ⟨c_eqBox _ _ _ _ _ _ _ _ _ _ _ _, rfl, trivial⟩
  · cases h1
def F_eqBoxS (t t' : Nat) (a b : List Box6) (i : Nat) : St := ⟨[(0, .sl t 6 (a.map Box6.row)), (1, .sl t' 6 (b.map Box6.row)), (5, .int .i64 i)], []⟩
theorem c_eqBoxS (t t' : Nat) (a b : List Box6) (ha : a.length ≤ 4611686018427387904) : Contract P 73 [.sl t 6 (a.map Box6.row), .sl t' 6 (b.map Box6.row)] [] (.bool (decide (a = b))) [] := by
  refine fn_sound ((Env.nil P).add 109 t_eqBox h_eqBox) hm k_laws_eqHandBoxS (Nat.le_of_ble_eq_true rfl) rfl ?_
  unfold s_laws_eqHandBoxS
  simp only [w_skip, w_rg, w_rgd, w_seq, w_cond, w_block, w_loop, w_exit, w_ret, w_gh, w_rg0, w_rg1, w_rgT, w_rgF, w_run, w_psd, w_und, w_dr0, w_dr1, w_drT, w_drF, w_drRun, w_drPsd, w_drUnd, w_drKn, w_drKs, w_putK, w_trimK, w_thenN, w_thenE, w_thenR, w_blkN, w_blkE, w_blkR, w_call, w_effK, brU_true, brU_false, brU_u, brU_not, brU_and, brU_or, brU_dec, brU_eq, brU_ne, br_true, br_false, br_not, br_and, br_or, br_dec, br_eq, br_ne, w_getE0, w_getE1, w_setE0, w_setE1, w_dropE0, w_dropE1, w_drop0, w_drop1, w_getM0, w_getM1, w_setM0, w_setM1, ev_v, ev_c, w_putS, w_putN, w_lit, w_apU0, w_apU1, w_trim, enumE0, enumE1, w_callWp, w_callL, w_callT, w_T1, w_T0, o_mv, o_newnil, o_pick, o_bin, o_binN, o_neg, o_not, o_eqB, o_eqS, o_conv, o_alloc, o_box, o_load1, o_loadN, o_store, o_nilck, o_faddr, o_field1, o_fieldN, o_iaddr, o_istr, o_slStr, o_slSl, o_lenS, o_lenL, o_mx, o_mn, o_ext, o_build, o_lit, o_litOwn, o_app, o_mk, o_mvfrz, l_int, l_bool, l_str, l_agg, l_sl, l_own, l_ptr, l_pp, i_int, i_bool, i_str, i_sl, i_own, i_ptr, i_pp, all0, all1, e_ok1, eff, effBin, effBinN, ld_ptr, ld_pp, ld_elt, ia_own, ia_arr, el_1, el_N, load1K, faddrE, r_iaddr, sg_S, sg_c, sg_n, purL, pur, List.map, List.drop, List.take, List.length, List.foldl, List.append_eq, List.nil_append, List.cons_append, List.getD_cons_zero, List.getD_cons_succ, reduceIte, Nat.reduceEqDiff, Nat.reduceAdd, Nat.reduceLeDiff, true_and, and_true, Bool.not_true, Bool.not_false, Bool.and_true, Bool.true_and, Bool.and_self, reduceCtorEq, true_implies, false_implies, implies_true, decide_eq_true_eq, Option.map_some, fpOf, fpX, SOp.xs, oX, refs, refsL, dom, disj, List.all_nil, List.all_cons, List.contains_cons, List.contains_nil, Nat.reduceBEq, Bool.or_false, Bool.false_or, List.append_nil, Bool.not_false, Bool.not_true, List.forall_mem_cons, fm0, List.set, Nat.reduceLT, ne_eq, not_false_eq_true, not_true_eq_false, ret1, ret1N, keep0, keep1, rf_int, rf_bool, rf_str, rf_sl, rf_agg, rf_tup, rfL0, rfL1, re_t, re_cN, re_L0, re_L1, ret_tup, ret_one, decide_true, AV.bool.injEq, AV.int.injEq, Nat.reduceLeDiff, Bool.true_eq, Bool.false_eq, decide_eq_true_eq, decide_eq_false_iff_not, t_eqBox, List.length_map, Box6.row, Int.toNat_natCast, Int.natCast_inj]
  refine ⟨fun h1 h => h1 (by rw [h]), fun h1 => ?_⟩
  refine loop_of (F_eqBoxS t t' a b) (fun i => i ≤ a.length ∧ ∀ j, j < i → a.getD j default = b.getD j default) (fun i => a.length - i) 0 ⟨⟨.inr rfl, .inr rfl, .inr rfl, trivial⟩, trivial, rfl, rfl⟩ ⟨Nat.zero_le _, fun j hj => by omega⟩ ?_
  intro i hi
  unfold l_laws_eqHandBoxS_0 F_eqBoxS
  simp only [w_skip, w_rg, w_rgd, w_seq, w_cond, w_block, w_loop, w_exit, w_ret, w_gh, w_rg0, w_rg1, w_rgT, w_rgF, w_run, w_psd, w_und, w_dr0, w_dr1, w_drT, w_drF, w_drRun, w_drPsd, w_drUnd, w_drKn, w_drKs, w_putK, w_trimK, w_thenN, w_thenE, w_thenR, w_blkN, w_blkE, w_blkR, w_call, w_effK, brU_true, brU_false, brU_u, brU_not, brU_and, brU_or, brU_dec, brU_eq, brU_ne, br_true, br_false, br_not, br_and, br_or, br_dec, br_eq, br_ne, w_getE0, w_getE1, w_setE0, w_setE1, w_dropE0, w_dropE1, w_drop0, w_drop1, w_getM0, w_getM1, w_setM0, w_setM1, ev_v, ev_c, w_putS, w_putN, w_lit, w_apU0, w_apU1, w_trim, enumE0, enumE1, w_callWp, w_callL, w_callT, w_T1, w_T0, o_mv, o_newnil, o_pick, o_bin, o_binN, o_neg, o_not, o_eqB, o_eqS, o_conv, o_alloc, o_box, o_load1, o_loadN, o_store, o_nilck, o_faddr, o_field1, o_fieldN, o_iaddr, o_istr, o_slStr, o_slSl, o_lenS, o_lenL, o_mx, o_mn, o_ext, o_build, o_lit, o_litOwn, o_app, o_mk, o_mvfrz, l_int, l_bool, l_str, l_agg, l_sl, l_own, l_ptr, l_pp, i_int, i_bool, i_str, i_sl, i_own, i_ptr, i_pp, all0, all1, e_ok1, eff, effBin, effBinN, ld_ptr, ld_pp, ld_elt, ia_own, ia_arr, el_1, el_N, load1K, faddrE, r_iaddr, sg_S, sg_c, sg_n, purL, pur, List.map, List.drop, List.take, List.length, List.foldl, List.append_eq, List.nil_append, List.cons_append, List.getD_cons_zero, List.getD_cons_succ, reduceIte, Nat.reduceEqDiff, Nat.reduceAdd, Nat.reduceLeDiff, true_and, and_true, Bool.not_true, Bool.not_false, Bool.and_true, Bool.true_and, Bool.and_self, reduceCtorEq, true_implies, false_implies, implies_true, decide_eq_true_eq, Option.map_some, fpOf, fpX, SOp.xs, oX, refs, refsL, dom, disj, List.all_nil, List.all_cons, List.contains_cons, List.contains_nil, Nat.reduceBEq, Bool.or_false, Bool.false_or, List.append_nil, Bool.not_false, Bool.not_true, List.forall_mem_cons, fm0, List.set, Nat.reduceLT, ne_eq, not_false_eq_true, not_true_eq_false, ret1, ret1N, keep0, keep1, rf_int, rf_bool, rf_str, rf_sl, rf_agg, rf_tup, rfL0, rfL1, re_t, re_cN, re_L0, re_L1, ret_tup, ret_one, decide_true, AV.bool.injEq, AV.int.injEq, Nat.reduceLeDiff, Bool.true_eq, Bool.false_eq, decide_eq_true_eq, decide_eq_false_iff_not, t_eqBox, List.length_map, Box6.row, Int.toNat_natCast, Int.natCast_inj]
  refine ⟨fun h2 => ⟨by omega, by omega, by omega, by omega, fun h3 => ⟨by omega, loopK_of (i + 1) ⟨⟨.inr rfl, .inr rfl, .inr rfl, trivial⟩, trivial, rfl, rfl⟩ ⟨by omega, fun j hj => ?_⟩ (by omega)⟩, fun h3 h => h3 (by rw [h])⟩, fun h2 => ext_of (by omega) fun j hj => hi.2 j (by have := hi.1; omega)⟩
  by_cases e : j = i
  · subst e; exact h3
  · exact hi.2 j (by omega)
theorem set_Box6 {lst : List Box6} {idx : Nat} {vx : Int} {vy : Int} {vl : Int} {vh : Int} {vi : Int} {vo : Int} : (lst.map Box6.row).set idx (setSeg ((lst.map Box6.row).getD idx []) 0 [.int .i64 vx, .int .i64 vy, .int .i64 vl, .int .i64 vh, .int .i64 vi, .int .i64 vo]) = (lst.set idx ⟨vx, vy, vl, vh, vi, vo⟩).map Box6.row :=
  set_rows (α := Box6) (f := Box6.row) (fun s => ⟨vx, vy, vl, vh, vi, vo⟩) fun x => by simp [Box6.row, setSeg]
def to_Box6 (a : List Box6) (i : Nat) : List Box6 := a.take i ++ List.replicate (a.length - i) ⟨0, 0, 0, 0, 0, 0⟩
def F_toBoxS (t : Nat) (a : List Box6) (i : Nat) : St := ⟨[(0, .sl t 6 (a.map Box6.row)), (3, .own 107 0 0 a.length), (4, .int .i64 i)], [(107, .arr 121 0 6 ((to_Box6 a i).map Box6.row))]⟩
theorem c_toBoxS (t : Nat) (a : List Box6) (ha : a.length ≤ 1048576) : Contract P 68 [.sl t 6 (a.map Box6.row)] [] (.sl 0 6 (a.map Box6.row)) [] := by
  refine fn_sound ((Env.nil P).add 107 t_toBox h_toBox) hm k_laws_toHandBoxS (Nat.le_of_ble_eq_true rfl) rfl ?_
  unfold s_laws_toHandBoxS
  simp only [w_skip, w_rg, w_rgd, w_seq, w_cond, w_block, w_loop, w_exit, w_ret, w_gh, w_rg0, w_rg1, w_rgT, w_rgF, w_run, w_psd, w_und, w_dr0, w_dr1, w_drT, w_drF, w_drRun, w_drPsd, w_drUnd, w_drKn, w_drKs, w_putK, w_trimK, w_thenN, w_thenE, w_thenR, w_blkN, w_blkE, w_blkR, w_call, w_effK, brU_true, brU_false, brU_u, brU_not, brU_and, brU_or, brU_dec, brU_eq, brU_ne, br_true, br_false, br_not, br_and, br_or, br_dec, br_eq, br_ne, w_getE0, w_getE1, w_setE0, w_setE1, w_dropE0, w_dropE1, w_drop0, w_drop1, w_getM0, w_getM1, w_setM0, w_setM1, ev_v, ev_c, w_putS, w_putN, w_lit, w_apU0, w_apU1, w_trim, enumE0, enumE1, w_callWp, w_callL, w_callT, w_T1, w_T0, o_mv, o_newnil, o_pick, o_bin, o_binN, o_neg, o_not, o_eqB, o_eqS, o_conv, o_alloc, o_box, o_load1, o_loadN, o_store, o_nilck, o_faddr, o_field1, o_fieldN, o_iaddr, o_istr, o_slStr, o_slSl, o_lenS, o_lenL, o_mx, o_mn, o_ext, o_build, o_lit, o_litOwn, o_app, o_mk, o_mvfrz, l_int, l_bool, l_str, l_agg, l_sl, l_own, l_ptr, l_pp, i_int, i_bool, i_str, i_sl, i_own, i_ptr, i_pp, all0, all1, e_ok1, eff, effBin, effBinN, ld_ptr, ld_pp, ld_elt, ia_own, ia_arr, el_1, el_N, load1K, faddrE, r_iaddr, sg_S, sg_c, sg_n, purL, pur, List.map, List.drop, List.take, List.length, List.foldl, List.append_eq, List.nil_append, List.cons_append, List.getD_cons_zero, List.getD_cons_succ, reduceIte, Nat.reduceEqDiff, Nat.reduceAdd, Nat.reduceLeDiff, true_and, and_true, Bool.not_true, Bool.not_false, Bool.and_true, Bool.true_and, Bool.and_self, reduceCtorEq, true_implies, false_implies, implies_true, decide_eq_true_eq, Option.map_some, fpOf, fpX, SOp.xs, oX, refs, refsL, dom, disj, List.all_nil, List.all_cons, List.contains_cons, List.contains_nil, Nat.reduceBEq, Bool.or_false, Bool.false_or, List.append_nil, Bool.not_false, Bool.not_true, List.forall_mem_cons, fm0, List.set, Nat.reduceLT, ne_eq, not_false_eq_true, not_true_eq_false, ret1, ret1N, keep0, keep1, rf_int, rf_bool, rf_str, rf_sl, rf_agg, rf_tup, rfL0, rfL1, re_t, re_cN, re_L0, re_L1, ret_tup, ret_one, decide_true, AV.bool.injEq, AV.int.injEq, Nat.reduceLeDiff, Bool.true_eq, Bool.false_eq, decide_eq_true_eq, decide_eq_false_iff_not, t_toBox, List.length_map, Box6.row, Int.toNat_natCast, ghost, set_Box6, Nat.zero_add, Nat.sub_zero]
  have m0 : List.replicate a.length [.int .i64 0, .int .i64 0, .int .i64 0, .int .i64 0, .int .i64 0, .int .i64 0] = (to_Box6 a 0).map Box6.row := by simp [to_Box6, Box6.row]
  refine ⟨by omega, loop_of (F_toBoxS t a) (fun i => i ≤ a.length) (fun i => a.length - i) 0 ⟨⟨.inr rfl, .inr rfl, .inr rfl, trivial⟩, ⟨congrArg (fun g => some (AObj.arr 121 0 6 g)) m0, trivial⟩, rfl, rfl⟩ (Nat.zero_le _) ?_⟩
  intro i hi
  unfold l_laws_toHandBoxS_0 F_toBoxS
  simp only [w_skip, w_rg, w_rgd, w_seq, w_cond, w_block, w_loop, w_exit, w_ret, w_gh, w_rg0, w_rg1, w_rgT, w_rgF, w_run, w_psd, w_und, w_dr0, w_dr1, w_drT, w_drF, w_drRun, w_drPsd, w_drUnd, w_drKn, w_drKs, w_putK, w_trimK, w_thenN, w_thenE, w_thenR, w_blkN, w_blkE, w_blkR, w_call, w_effK, brU_true, brU_false, brU_u, brU_not, brU_and, brU_or, brU_dec, brU_eq, brU_ne, br_true, br_false, br_not, br_and, br_or, br_dec, br_eq, br_ne, w_getE0, w_getE1, w_setE0, w_setE1, w_dropE0, w_dropE1, w_drop0, w_drop1, w_getM0, w_getM1, w_setM0, w_setM1, ev_v, ev_c, w_putS, w_putN, w_lit, w_apU0, w_apU1, w_trim, enumE0, enumE1, w_callWp, w_callL, w_callT, w_T1, w_T0, o_mv, o_newnil, o_pick, o_bin, o_binN, o_neg, o_not, o_eqB, o_eqS, o_conv, o_alloc, o_box, o_load1, o_loadN, o_store, o_nilck, o_faddr, o_field1, o_fieldN, o_iaddr, o_istr, o_slStr, o_slSl, o_lenS, o_lenL, o_mx, o_mn, o_ext, o_build, o_lit, o_litOwn, o_app, o_mk, o_mvfrz, l_int, l_bool, l_str, l_agg, l_sl, l_own, l_ptr, l_pp, i_int, i_bool, i_str, i_sl, i_own, i_ptr, i_pp, all0, all1, e_ok1, eff, effBin, effBinN, ld_ptr, ld_pp, ld_elt, ia_own, ia_arr, el_1, el_N, load1K, faddrE, r_iaddr, sg_S, sg_c, sg_n, purL, pur, List.map, List.drop, List.take, List.length, List.foldl, List.append_eq, List.nil_append, List.cons_append, List.getD_cons_zero, List.getD_cons_succ, reduceIte, Nat.reduceEqDiff, Nat.reduceAdd, Nat.reduceLeDiff, true_and, and_true, Bool.not_true, Bool.not_false, Bool.and_true, Bool.true_and, Bool.and_self, reduceCtorEq, true_implies, false_implies, implies_true, decide_eq_true_eq, Option.map_some, fpOf, fpX, SOp.xs, oX, refs, refsL, dom, disj, List.all_nil, List.all_cons, List.contains_cons, List.contains_nil, Nat.reduceBEq, Bool.or_false, Bool.false_or, List.append_nil, Bool.not_false, Bool.not_true, List.forall_mem_cons, fm0, List.set, Nat.reduceLT, ne_eq, not_false_eq_true, not_true_eq_false, ret1, ret1N, keep0, keep1, rf_int, rf_bool, rf_str, rf_sl, rf_agg, rf_tup, rfL0, rfL1, re_t, re_cN, re_L0, re_L1, ret_tup, ret_one, decide_true, AV.bool.injEq, AV.int.injEq, Nat.reduceLeDiff, Bool.true_eq, Bool.false_eq, decide_eq_true_eq, decide_eq_false_iff_not, t_toBox, List.length_map, Box6.row, Int.toNat_natCast, ghost, set_Box6, Nat.zero_add, Nat.sub_zero]
  have st : i < a.length → (to_Box6 a i).set i (a.getD i default) = to_Box6 a (i + 1) := fun h => by
    refine List.ext_getElem (by simp [to_Box6]; omega) fun j h1 h2 => ?_
    by_cases e : j = i
    · subst e
      simp [to_Box6, List.getElem_append, h]
      intro h9; omega
    · simp only [List.getElem_set_ne (Ne.symm e)]
      simp only [to_Box6, List.getElem_append, List.length_take, List.getElem_take, List.getElem_replicate]
      split <;> split <;> first | rfl | omega
  refine ⟨fun h => ⟨by omega, by omega, by omega, rfl, by omega, loopK_of (i + 1) ⟨⟨.inr rfl, .inr rfl, .inr rfl, trivial⟩, ⟨congrArg (fun g => some (AObj.arr 121 0 6 (List.map Box6.row g))) (st (by omega)), trivial⟩, rfl, rfl⟩ (by omega) (by omega)⟩, fun h => ?_⟩
  have e : i = a.length := by omega
  subst e
  simp only [to_Box6, List.take_length, Nat.sub_self, List.replicate_zero, List.append_nil]
  rw [List.take_of_length_le (by simp)]
end Go.Ve
namespace Go.Ve
open Go.Proofs
set_option linter.unusedSimpArgs false
set_option linter.unusedVariables false
set_option maxRecDepth 100000
structure Kind2 where
  q : Int
  s : Int
  deriving Inhabited
def szCraft (a : Int) (n m k : Nat) : Int := if a - n - m - k < 0 then -1 else a - n - m - k
def t_eqIntS : List AV → Option (Prop × AV)
  | [.sl _ 1 xs, .sl _ 1 ys] => some (((xs.map unI).map irow = xs ∧ (ys.map unI).map irow = ys) ∧ (xs.map unI).length ≤ 4611686018427387904, .bool (decide (xs.map unI = ys.map unI)))
  | _ => none
theorem h_eqIntS : ∀ args p v, t_eqIntS args = some (p, v) → p → Contract P 74 args [] v [] ∧ noref v = true ∧ No99 v := by
  intro args p v h1 h2
  unfold t_eqIntS at h1
  split at h1
  · rename_i t xs t' ys
    cases h1
    have := c_eqIntS t t' (xs.map unI) (ys.map unI) h2.2
    simp only [h2.1.1, h2.1.2] at this
    exact ⟨this, rfl, trivial⟩
  · cases h1
def t_toIntS : List AV → Option (Prop × AV)
  | [.sl _ 1 xs] => some ((xs.map unI).map irow = xs ∧ (xs.map unI).length ≤ 1048576, .sl 0 1 ((xs.map unI).map irow))
  | _ => none
theorem no99_i (l : List Int) : No99LL (l.map irow) := by
  induction l with
  | nil => trivial
  | cons x l ih => exact ⟨⟨trivial, trivial⟩, ih⟩
theorem no99_box (l : List Box6) : No99LL (l.map Box6.row) := by
  induction l with
  | nil => trivial
  | cons x l ih => exact ⟨⟨trivial, trivial, trivial, trivial, trivial, trivial, trivial⟩, ih⟩
theorem h_toIntS : ∀ args p v, t_toIntS args = some (p, v) → p → Contract P 69 args [] v [] ∧ noref v = true ∧ No99 v := by
  intro args p v h1 h2
  unfold t_toIntS at h1
  split at h1
  · rename_i t xs
    cases h1
    have := c_toIntS t (xs.map unI) (by have := h2.2; omega)
    rw [h2.1] at this ⊢
    exact ⟨this, rfl, by omega, by rw [← h2.1]; exact no99_i _⟩
  · cases h1
def t_eqBoxS : List AV → Option (Prop × AV)
  | [.sl _ 6 xs, .sl _ 6 ys] => some (((xs.map unBox).map Box6.row = xs ∧ (ys.map unBox).map Box6.row = ys) ∧ (xs.map unBox).length ≤ 4611686018427387904, .bool (decide (xs.map unBox = ys.map unBox)))
  | _ => none
theorem h_eqBoxS : ∀ args p v, t_eqBoxS args = some (p, v) → p → Contract P 73 args [] v [] ∧ noref v = true ∧ No99 v := by
  intro args p v h1 h2
  unfold t_eqBoxS at h1
  split at h1
  · rename_i t xs t' ys
    cases h1
    have := c_eqBoxS t t' (xs.map unBox) (ys.map unBox) h2.2
    simp only [h2.1.1, h2.1.2] at this
    exact ⟨this, rfl, trivial⟩
  · cases h1
def t_toBoxS : List AV → Option (Prop × AV)
  | [.sl _ 6 xs] => some ((xs.map unBox).map Box6.row = xs ∧ (xs.map unBox).length ≤ 1048576, .sl 0 6 ((xs.map unBox).map Box6.row))
  | _ => none
theorem h_toBoxS : ∀ args p v, t_toBoxS args = some (p, v) → p → Contract P 68 args [] v [] ∧ noref v = true ∧ No99 v := by
  intro args p v h1 h2
  unfold t_toBoxS at h1
  split at h1
  · rename_i t xs
    cases h1
    have := c_toBoxS t (xs.map unBox) h2.2
    rw [h2.1] at this ⊢
    exact ⟨this, rfl, by omega, by rw [← h2.1]; exact no99_box _⟩
  · cases h1
theorem Kind2.eq_iff (a b : Kind2) : a = b ↔ a.q = b.q ∧ a.s = b.s := ⟨fun h => by subst h; exact ⟨rfl, rfl⟩, fun h => by
  cases a; cases b; simp only at h; simp only [Kind2.mk.injEq]; exact h⟩
instance : DecidableEq Kind2 := fun a b => decidable_of_iff _ (Kind2.eq_iff a b).symm
theorem c_toKind (q : Int) (s : Int) (hp : True) : Contract P 67 [.agg [.int .i64 q, .int .i64 s]] [] (.agg [.int .i64 q, .int .i64 s]) [] := by
  refine fn_sound (Env.nil P) hm k_laws_toFlyKind (Nat.le_of_ble_eq_true rfl) rfl ?_
  unfold s_laws_toFlyKind
  simp only [w_skip, w_rg, w_rgd, w_seq, w_cond, w_block, w_loop, w_exit, w_ret, w_gh, w_rg0, w_rg1, w_rgT, w_rgF, w_run, w_psd, w_und, w_dr0, w_dr1, w_drT, w_drF, w_drRun, w_drPsd, w_drUnd, w_drKn, w_drKs, w_putK, w_trimK, w_thenN, w_thenE, w_thenR, w_blkN, w_blkE, w_blkR, w_call, w_effK, brU_true, brU_false, brU_u, brU_not, brU_and, brU_or, brU_dec, brU_eq, brU_ne, br_true, br_false, br_not, br_and, br_or, br_dec, br_eq, br_ne, w_getE0, w_getE1, w_setE0, w_setE1, w_dropE0, w_dropE1, w_drop0, w_drop1, w_getM0, w_getM1, w_setM0, w_setM1, ev_v, ev_c, w_putS, w_putN, w_lit, w_apU0, w_apU1, w_trim, enumE0, enumE1, w_callWp, w_callL, w_callT, w_T1, w_T0, o_mv, o_newnil, o_pick, o_bin, o_binN, o_neg, o_not, o_eqB, o_eqS, o_conv, o_alloc, o_box, o_load1, o_loadN, o_store, o_nilck, o_faddr, o_field1, o_fieldN, o_iaddr, o_istr, o_slStr, o_slSl, o_lenS, o_lenL, o_mx, o_mn, o_ext, o_build, o_lit, o_litOwn, o_app, o_mk, o_mvfrz, l_int, l_bool, l_str, l_agg, l_sl, l_own, l_ptr, l_pp, i_int, i_bool, i_str, i_sl, i_own, i_ptr, i_pp, all0, all1, e_ok1, eff, effBin, effBinN, ld_ptr, ld_pp, ld_elt, ia_own, ia_arr, el_1, el_N, load1K, faddrE, r_iaddr, sg_S, sg_c, sg_n, purL, pur, List.map, List.drop, List.take, List.length, List.foldl, List.append_eq, List.nil_append, List.cons_append, List.getD_cons_zero, List.getD_cons_succ, reduceIte, Nat.reduceEqDiff, Nat.reduceAdd, Nat.reduceLeDiff, true_and, and_true, Bool.not_true, Bool.not_false, Bool.and_true, Bool.true_and, Bool.and_self, reduceCtorEq, true_implies, false_implies, implies_true, decide_eq_true_eq, Option.map_some, fpOf, fpX, SOp.xs, oX, refs, refsL, dom, disj, List.all_nil, List.all_cons, List.contains_cons, List.contains_nil, Nat.reduceBEq, Bool.or_false, Bool.false_or, List.append_nil, Bool.not_false, Bool.not_true, List.forall_mem_cons, fm0, List.set, Nat.reduceLT, ne_eq, not_false_eq_true, not_true_eq_false, ret1, ret1N, keep0, keep1, rf_int, rf_bool, rf_str, rf_sl, rf_agg, rf_tup, rfL0, rfL1, re_t, re_cN, re_L0, re_L1, ret_tup, ret_one, decide_true, AV.bool.injEq, AV.int.injEq, Nat.reduceLeDiff, Bool.true_eq, Bool.false_eq, decide_eq_true_eq, decide_eq_false_iff_not]

def t_toKind : List AV → Option (Prop × AV)
  | [.agg [.int .i64 q, .int .i64 s]] => some (True, .agg [.int .i64 q, .int .i64 s])
  | _ => none
theorem h_toKind : ∀ args p v, t_toKind args = some (p, v) → p → Contract P 67 args [] v [] ∧ noref v = true ∧ No99 v := by
  intro args p v h1 h2
  unfold t_toKind at h1
  split at h1
  · cases h1; exact ⟨c_toKind _ _ h2, rfl, by simp [No99, No99L]⟩
  · cases h1
theorem c_eqKind (q : Int) (s : Int) (oq : Int) (os : Int) : Contract P 72 [.agg [.int .i64 q, .int .i64 s], .agg [.int .i64 oq, .int .i64 os]] [] (.bool (decide ((⟨q, s⟩ : Kind2) = ⟨oq, os⟩))) [] := by
  refine fn_sound (Env.nil P) hm k_laws_eqFlyKind (Nat.le_of_ble_eq_true rfl) rfl ?_
  unfold s_laws_eqFlyKind
  simp only [w_skip, w_rg, w_rgd, w_seq, w_cond, w_block, w_loop, w_exit, w_ret, w_gh, w_rg0, w_rg1, w_rgT, w_rgF, w_run, w_psd, w_und, w_dr0, w_dr1, w_drT, w_drF, w_drRun, w_drPsd, w_drUnd, w_drKn, w_drKs, w_putK, w_trimK, w_thenN, w_thenE, w_thenR, w_blkN, w_blkE, w_blkR, w_call, w_effK, brU_true, brU_false, brU_u, brU_not, brU_and, brU_or, brU_dec, brU_eq, brU_ne, br_true, br_false, br_not, br_and, br_or, br_dec, br_eq, br_ne, w_getE0, w_getE1, w_setE0, w_setE1, w_dropE0, w_dropE1, w_drop0, w_drop1, w_getM0, w_getM1, w_setM0, w_setM1, ev_v, ev_c, w_putS, w_putN, w_lit, w_apU0, w_apU1, w_trim, enumE0, enumE1, w_callWp, w_callL, w_callT, w_T1, w_T0, o_mv, o_newnil, o_pick, o_bin, o_binN, o_neg, o_not, o_eqB, o_eqS, o_conv, o_alloc, o_box, o_load1, o_loadN, o_store, o_nilck, o_faddr, o_field1, o_fieldN, o_iaddr, o_istr, o_slStr, o_slSl, o_lenS, o_lenL, o_mx, o_mn, o_ext, o_build, o_lit, o_litOwn, o_app, o_mk, o_mvfrz, l_int, l_bool, l_str, l_agg, l_sl, l_own, l_ptr, l_pp, i_int, i_bool, i_str, i_sl, i_own, i_ptr, i_pp, all0, all1, e_ok1, eff, effBin, effBinN, ld_ptr, ld_pp, ld_elt, ia_own, ia_arr, el_1, el_N, load1K, faddrE, r_iaddr, sg_S, sg_c, sg_n, purL, pur, List.map, List.drop, List.take, List.length, List.foldl, List.append_eq, List.nil_append, List.cons_append, List.getD_cons_zero, List.getD_cons_succ, reduceIte, Nat.reduceEqDiff, Nat.reduceAdd, Nat.reduceLeDiff, true_and, and_true, Bool.not_true, Bool.not_false, Bool.and_true, Bool.true_and, Bool.and_self, reduceCtorEq, true_implies, false_implies, implies_true, decide_eq_true_eq, Option.map_some, fpOf, fpX, SOp.xs, oX, refs, refsL, dom, disj, List.all_nil, List.all_cons, List.contains_cons, List.contains_nil, Nat.reduceBEq, Bool.or_false, Bool.false_or, List.append_nil, Bool.not_false, Bool.not_true, List.forall_mem_cons, fm0, List.set, Nat.reduceLT, ne_eq, not_false_eq_true, not_true_eq_false, ret1, ret1N, keep0, keep1, rf_int, rf_bool, rf_str, rf_sl, rf_agg, rf_tup, rfL0, rfL1, re_t, re_cN, re_L0, re_L1, ret_tup, ret_one, decide_true, AV.bool.injEq, AV.int.injEq, Nat.reduceLeDiff, Bool.true_eq, Bool.false_eq, decide_eq_true_eq, decide_eq_false_iff_not]
  simp only [Kind2.mk.injEq]
  repeat' (first | apply And.intro | intro _)
  all_goals (first | trivial | (simp_all; done))
def t_eqKind : List AV → Option (Prop × AV)
  | [.agg [.int .i64 q, .int .i64 s], .agg [.int .i64 oq, .int .i64 os]] => some (True, .bool (decide ((⟨q, s⟩ : Kind2) = ⟨oq, os⟩)))
  | _ => none
theorem h_eqKind : ∀ args p v, t_eqKind args = some (p, v) → p → Contract P 72 args [] v [] ∧ noref v = true ∧ No99 v := by
  intro args p v h1 h2
  unfold t_eqKind at h1
  split at h1
  · cases h1; exact ⟨c_eqKind _ _ _ _, rfl, trivial⟩
  · cases h1
theorem c_szCraft (nm : ByteArray) (q s nr no : Int) (t t' : Nat) (tu : List Box6) (fl : List Int) (a : Int) (ha : 0 ≤ a ∧ a ≤ 1048576) (hn : nm.toList.length ≤ 9223372036854775807) (hu : tu.length ≤ 9223372036854775807) (hk : fl.length ≤ 9223372036854775807) : Contract P 18 [.agg [.str nm, .int .i64 q, .int .i64 s, .int .i64 nr, .int .i64 no, .sl t 6 (tu.map Box6.row), .sl t' 1 (fl.map irow)], .int .i64 a] [] (.int .i64 (szCraft a nm.toList.length tu.length fl.length)) [] := by
  refine fn_sound (((Env.nil P).add 61 t_szBoxS h_szBoxS).add 62 t_szIntS h_szIntS) hm k_laws_szLapCraft (Nat.le_of_ble_eq_true rfl) rfl ?_
  unfold s_laws_szLapCraft
  simp only [w_skip, w_rg, w_rgd, w_seq, w_cond, w_block, w_loop, w_exit, w_ret, w_gh, w_rg0, w_rg1, w_rgT, w_rgF, w_run, w_psd, w_und, w_dr0, w_dr1, w_drT, w_drF, w_drRun, w_drPsd, w_drUnd, w_drKn, w_drKs, w_putK, w_trimK, w_thenN, w_thenE, w_thenR, w_blkN, w_blkE, w_blkR, w_call, w_effK, brU_true, brU_false, brU_u, brU_not, brU_and, brU_or, brU_dec, brU_eq, brU_ne, br_true, br_false, br_not, br_and, br_or, br_dec, br_eq, br_ne, w_getE0, w_getE1, w_setE0, w_setE1, w_dropE0, w_dropE1, w_drop0, w_drop1, w_getM0, w_getM1, w_setM0, w_setM1, ev_v, ev_c, w_putS, w_putN, w_lit, w_apU0, w_apU1, w_trim, enumE0, enumE1, w_callWp, w_callL, w_callT, w_T1, w_T0, o_mv, o_newnil, o_pick, o_bin, o_binN, o_neg, o_not, o_eqB, o_eqS, o_conv, o_alloc, o_box, o_load1, o_loadN, o_store, o_nilck, o_faddr, o_field1, o_fieldN, o_iaddr, o_istr, o_slStr, o_slSl, o_lenS, o_lenL, o_mx, o_mn, o_ext, o_build, o_lit, o_litOwn, o_app, o_mk, o_mvfrz, l_int, l_bool, l_str, l_agg, l_sl, l_own, l_ptr, l_pp, i_int, i_bool, i_str, i_sl, i_own, i_ptr, i_pp, all0, all1, e_ok1, eff, effBin, effBinN, ld_ptr, ld_pp, ld_elt, ia_own, ia_arr, el_1, el_N, load1K, faddrE, r_iaddr, sg_S, sg_c, sg_n, purL, pur, List.map, List.drop, List.take, List.length, List.foldl, List.append_eq, List.nil_append, List.cons_append, List.getD_cons_zero, List.getD_cons_succ, reduceIte, Nat.reduceEqDiff, Nat.reduceAdd, Nat.reduceLeDiff, true_and, and_true, Bool.not_true, Bool.not_false, Bool.and_true, Bool.true_and, Bool.and_self, reduceCtorEq, true_implies, false_implies, implies_true, decide_eq_true_eq, Option.map_some, fpOf, fpX, SOp.xs, oX, refs, refsL, dom, disj, List.all_nil, List.all_cons, List.contains_cons, List.contains_nil, Nat.reduceBEq, Bool.or_false, Bool.false_or, List.append_nil, Bool.not_false, Bool.not_true, List.forall_mem_cons, fm0, List.set, Nat.reduceLT, ne_eq, not_false_eq_true, not_true_eq_false, ret1, ret1N, keep0, keep1, rf_int, rf_bool, rf_str, rf_sl, rf_agg, rf_tup, rfL0, rfL1, re_t, re_cN, re_L0, re_L1, ret_tup, ret_one, decide_true, AV.bool.injEq, AV.int.injEq, Nat.reduceLeDiff, Bool.true_eq, Bool.false_eq, decide_eq_true_eq, decide_eq_false_iff_not, t_szBoxS, t_szIntS, beq_self_eq_true, eq_self, un_i, un_box, bne_self_eq_false, List.length_map, un_box, irow, un_i, flatOk, noref, ghost, Nat.zero_add, Nat.sub_zero, Int.toNat_natCast]
  generalize nm.toList.length = n at *
  have sz1 : ∀ (x : Int) (m : Nat), szOf x m < 0 ↔ x - m < 0 := fun x m => by unfold szOf; split <;> omega
  have sz2 : ∀ (x : Int) (m : Nat), ¬ x - m < 0 → szOf x m = x - m := fun x m h => by unfold szOf; rw [if_neg h]
  refine ⟨by omega, fun h => by rw [szCraft, if_pos (by omega)], fun h => ⟨by omega, fun h2 => ?_, fun h2 => ?_⟩⟩
  · rw [szCraft, if_pos (by have := (sz1 _ _).1 h2; omega)]
  · have h3 : ¬ a - n - tu.length < 0 := fun h => h2 ((sz1 _ _).2 h)
    simp only [sz2 _ _ h3]
    refine ⟨by omega, fun h4 => ?_, fun h4 => ?_⟩
    · rw [szCraft, if_pos (by have := (sz1 _ _).1 h4; omega)]
    · have h5 : ¬ a - n - tu.length - fl.length < 0 := fun h => h4 ((sz1 _ _).2 h)
      rw [szCraft, if_neg h5, sz2 _ _ h5]
theorem c_toCraft (nm : ByteArray) (q s nr no : Int) (t t' : Nat) (tu : List Box6) (fl : List Int) (hu : tu.length ≤ 1048576) (hk : fl.length ≤ 1048576) : Contract P 20 [.agg [.str nm, .int .i64 q, .int .i64 s, .int .i64 nr, .int .i64 no, .sl t 6 (tu.map Box6.row), .sl t' 1 (fl.map irow)]] [] (.agg [.str nm, .int .i64 q, .int .i64 s, .int .i64 nr, .int .i64 no, .sl 0 6 (tu.map Box6.row), .sl 0 1 (fl.map irow)]) [] := by
  refine fn_sound ((((Env.nil P).add 67 t_toKind h_toKind).add 68 t_toBoxS h_toBoxS).add 69 t_toIntS h_toIntS) hm k_laws_toLapCraft (Nat.le_of_ble_eq_true rfl) rfl ?_
  unfold s_laws_toLapCraft
  simp only [w_skip, w_rg, w_rgd, w_seq, w_cond, w_block, w_loop, w_exit, w_ret, w_gh, w_rg0, w_rg1, w_rgT, w_rgF, w_run, w_psd, w_und, w_dr0, w_dr1, w_drT, w_drF, w_drRun, w_drPsd, w_drUnd, w_drKn, w_drKs, w_putK, w_trimK, w_thenN, w_thenE, w_thenR, w_blkN, w_blkE, w_blkR, w_call, w_effK, brU_true, brU_false, brU_u, brU_not, brU_and, brU_or, brU_dec, brU_eq, brU_ne, br_true, br_false, br_not, br_and, br_or, br_dec, br_eq, br_ne, w_getE0, w_getE1, w_setE0, w_setE1, w_dropE0, w_dropE1, w_drop0, w_drop1, w_getM0, w_getM1, w_setM0, w_setM1, ev_v, ev_c, w_putS, w_putN, w_lit, w_apU0, w_apU1, w_trim, enumE0, enumE1, w_callWp, w_callL, w_callT, w_T1, w_T0, o_mv, o_newnil, o_pick, o_bin, o_binN, o_neg, o_not, o_eqB, o_eqS, o_conv, o_alloc, o_box, o_load1, o_loadN, o_store, o_nilck, o_faddr, o_field1, o_fieldN, o_iaddr, o_istr, o_slStr, o_slSl, o_lenS, o_lenL, o_mx, o_mn, o_ext, o_build, o_lit, o_litOwn, o_app, o_mk, o_mvfrz, l_int, l_bool, l_str, l_agg, l_sl, l_own, l_ptr, l_pp, i_int, i_bool, i_str, i_sl, i_own, i_ptr, i_pp, all0, all1, e_ok1, eff, effBin, effBinN, ld_ptr, ld_pp, ld_elt, ia_own, ia_arr, el_1, el_N, load1K, faddrE, r_iaddr, sg_S, sg_c, sg_n, purL, pur, List.map, List.drop, List.take, List.length, List.foldl, List.append_eq, List.nil_append, List.cons_append, List.getD_cons_zero, List.getD_cons_succ, reduceIte, Nat.reduceEqDiff, Nat.reduceAdd, Nat.reduceLeDiff, true_and, and_true, Bool.not_true, Bool.not_false, Bool.and_true, Bool.true_and, Bool.and_self, reduceCtorEq, true_implies, false_implies, implies_true, decide_eq_true_eq, Option.map_some, fpOf, fpX, SOp.xs, oX, refs, refsL, dom, disj, List.all_nil, List.all_cons, List.contains_cons, List.contains_nil, Nat.reduceBEq, Bool.or_false, Bool.false_or, List.append_nil, Bool.not_false, Bool.not_true, List.forall_mem_cons, fm0, List.set, Nat.reduceLT, ne_eq, not_false_eq_true, not_true_eq_false, ret1, ret1N, keep0, keep1, rf_int, rf_bool, rf_str, rf_sl, rf_agg, rf_tup, rfL0, rfL1, re_t, re_cN, re_L0, re_L1, ret_tup, ret_one, decide_true, AV.bool.injEq, AV.int.injEq, Nat.reduceLeDiff, Bool.true_eq, Bool.false_eq, decide_eq_true_eq, decide_eq_false_iff_not, t_toKind, t_toBoxS, t_toIntS, beq_self_eq_true, eq_self, un_i, un_box, bne_self_eq_false, List.length_map, un_box, irow, un_i, flatOk, noref, ghost, Nat.zero_add, Nat.sub_zero, Int.toNat_natCast]
  exact ⟨hu, hk⟩
theorem c_eqCraft1 (nm : ByteArray) (q s nr no : Int) (t t' : Nat) (tu : List Box6) (fl : List Int) (t2 t3 : Nat) (hu : tu.length ≤ 1048576) (hk : fl.length ≤ 1048576) : Contract P 22 [.agg [.str nm, .int .i64 q, .int .i64 s, .int .i64 nr, .int .i64 no, .sl t 6 (tu.map Box6.row), .sl t' 1 (fl.map irow)], .agg [.str nm, .int .i64 q, .int .i64 s, .int .i64 nr, .int .i64 no, .sl t2 6 (tu.map Box6.row), .sl t3 1 (fl.map irow)]] [] (.bool true) [] := by
  refine fn_sound ((((Env.nil P).add 72 t_eqKind h_eqKind).add 73 t_eqBoxS h_eqBoxS).add 74 t_eqIntS h_eqIntS) hm k_laws_eqLapCraft (Nat.le_of_ble_eq_true rfl) rfl ?_
  unfold s_laws_eqLapCraft
  simp only [w_skip, w_rg, w_rgd, w_seq, w_cond, w_block, w_loop, w_exit, w_ret, w_gh, w_rg0, w_rg1, w_rgT, w_rgF, w_run, w_psd, w_und, w_dr0, w_dr1, w_drT, w_drF, w_drRun, w_drPsd, w_drUnd, w_drKn, w_drKs, w_putK, w_trimK, w_thenN, w_thenE, w_thenR, w_blkN, w_blkE, w_blkR, w_call, w_effK, brU_true, brU_false, brU_u, brU_not, brU_and, brU_or, brU_dec, brU_eq, brU_ne, br_true, br_false, br_not, br_and, br_or, br_dec, br_eq, br_ne, w_getE0, w_getE1, w_setE0, w_setE1, w_dropE0, w_dropE1, w_drop0, w_drop1, w_getM0, w_getM1, w_setM0, w_setM1, ev_v, ev_c, w_putS, w_putN, w_lit, w_apU0, w_apU1, w_trim, enumE0, enumE1, w_callWp, w_callL, w_callT, w_T1, w_T0, o_mv, o_newnil, o_pick, o_bin, o_binN, o_neg, o_not, o_eqB, o_eqS, o_conv, o_alloc, o_box, o_load1, o_loadN, o_store, o_nilck, o_faddr, o_field1, o_fieldN, o_iaddr, o_istr, o_slStr, o_slSl, o_lenS, o_lenL, o_mx, o_mn, o_ext, o_build, o_lit, o_litOwn, o_app, o_mk, o_mvfrz, l_int, l_bool, l_str, l_agg, l_sl, l_own, l_ptr, l_pp, i_int, i_bool, i_str, i_sl, i_own, i_ptr, i_pp, all0, all1, e_ok1, eff, effBin, effBinN, ld_ptr, ld_pp, ld_elt, ia_own, ia_arr, el_1, el_N, load1K, faddrE, r_iaddr, sg_S, sg_c, sg_n, purL, pur, List.map, List.drop, List.take, List.length, List.foldl, List.append_eq, List.nil_append, List.cons_append, List.getD_cons_zero, List.getD_cons_succ, reduceIte, Nat.reduceEqDiff, Nat.reduceAdd, Nat.reduceLeDiff, true_and, and_true, Bool.not_true, Bool.not_false, Bool.and_true, Bool.true_and, Bool.and_self, reduceCtorEq, true_implies, false_implies, implies_true, decide_eq_true_eq, Option.map_some, fpOf, fpX, SOp.xs, oX, refs, refsL, dom, disj, List.all_nil, List.all_cons, List.contains_cons, List.contains_nil, Nat.reduceBEq, Bool.or_false, Bool.false_or, List.append_nil, Bool.not_false, Bool.not_true, List.forall_mem_cons, fm0, List.set, Nat.reduceLT, ne_eq, not_false_eq_true, not_true_eq_false, ret1, ret1N, keep0, keep1, rf_int, rf_bool, rf_str, rf_sl, rf_agg, rf_tup, rfL0, rfL1, re_t, re_cN, re_L0, re_L1, ret_tup, ret_one, decide_true, AV.bool.injEq, AV.int.injEq, Nat.reduceLeDiff, Bool.true_eq, Bool.false_eq, decide_eq_true_eq, decide_eq_false_iff_not, t_eqKind, t_eqBoxS, t_eqIntS, beq_self_eq_true, eq_self, un_i, un_box, bne_self_eq_false, List.length_map, un_box, irow, un_i, flatOk, noref, ghost, Nat.zero_add, Nat.sub_zero, Int.toNat_natCast]
  exact ⟨by omega, by omega⟩
theorem no99_craft (nm : ByteArray) (q s nr no : Int) (tu : List Box6) (fl : List Int) : No99 (.agg [.str nm, .int .i64 q, .int .i64 s, .int .i64 nr, .int .i64 no, .sl 0 6 (tu.map Box6.row), .sl 0 1 (fl.map irow)]) := by simp [No99, No99L, no99_box, no99_i]
def t_szCraft : List AV → Option (Prop × AV)
  | [.agg [.str nm, .int .i64 q, .int .i64 s, .int .i64 nr, .int .i64 no, .sl _ 6 tu, .sl _ 1 fl], .int .i64 a] => some (((tu.map unBox).map Box6.row = tu ∧ (fl.map unI).map irow = fl) ∧ (0 ≤ a ∧ a ≤ 1048576) ∧ nm.toList.length ≤ 9223372036854775807 ∧ (tu.map unBox).length ≤ 9223372036854775807 ∧ (fl.map unI).length ≤ 9223372036854775807, .int .i64 (szCraft a nm.toList.length (tu.map unBox).length (fl.map unI).length))
  | _ => none
theorem h_szCraft : ∀ args p v, t_szCraft args = some (p, v) → p → Contract P 18 args [] v [] ∧ noref v = true ∧ No99 v := by
  intro args p v h1 h2
  unfold t_szCraft at h1
  split at h1
  · rename_i nm q s nr no t tu t' fl a
    cases h1
    have := c_szCraft nm q s nr no t t' (tu.map unBox) (fl.map unI) a h2.2.1 h2.2.2.1 h2.2.2.2.1 h2.2.2.2.2
    simp only [h2.1.1, h2.1.2] at this
    exact ⟨this, rfl, trivial⟩
  · cases h1
def t_toCraft : List AV → Option (Prop × AV)
  | [.agg [.str nm, .int .i64 q, .int .i64 s, .int .i64 nr, .int .i64 no, .sl _ 6 tu, .sl _ 1 fl]] => some (((tu.map unBox).map Box6.row = tu ∧ (fl.map unI).map irow = fl) ∧ (tu.map unBox).length ≤ 1048576 ∧ (fl.map unI).length ≤ 1048576, .agg [.str nm, .int .i64 q, .int .i64 s, .int .i64 nr, .int .i64 no, .sl 0 6 ((tu.map unBox).map Box6.row), .sl 0 1 ((fl.map unI).map irow)])
  | _ => none
theorem h_toCraft : ∀ args p v, t_toCraft args = some (p, v) → p → Contract P 20 args [] v [] ∧ noref v = true ∧ No99 v := by
  intro args p v h1 h2
  unfold t_toCraft at h1
  split at h1
  · rename_i nm q s nr no t tu t' fl
    cases h1
    have := c_toCraft nm q s nr no t t' (tu.map unBox) (fl.map unI) h2.2.1 h2.2.2
    have n9 := no99_craft nm q s nr no (tu.map unBox) (fl.map unI)
    simp only [h2.1.1, h2.1.2] at this n9 ⊢
    exact ⟨this, rfl, n9⟩
  · cases h1
def t_sMust : List AV → Option (Prop × AV)
  | [.agg [.str nm, .int .i64 q, .int .i64 s, .int .i64 nr, .int .i64 no, .sl _ 6 tu, .sl _ 1 fl], .int .i64 now] => some (((tu.map unBox).map Box6.row = tu ∧ (fl.map unI).map irow = fl) ∧ (tu.map unBox).length ≤ 1048576 ∧ (fl.map unI).length ≤ 1048576, .bool (decide ((lapPath q s (tu.map unBox)).must (fl.map unI) now)))
  | _ => none
theorem h_sMust : ∀ args p v, t_sMust args = some (p, v) → p → Contract P 19 args [] v [] ∧ noref v = true ∧ No99 v := by
  intro args p v h1 h2
  unfold t_sMust at h1
  split at h1
  · rename_i nm q s nr no t tu t' fl now
    cases h1
    have := c_sLapMust nm q s nr no t t' (tu.map unBox) (fl.map unI) now h2.2.1 h2.2.2
    simp only [h2.1.1, h2.1.2] at this
    exact ⟨this, rfl, trivial⟩
  · cases h1
def t_iMust : List AV → Option (Prop × AV)
  | [.agg [.str nm, .int .i64 q, .int .i64 s, .int .i64 nr, .int .i64 no, .sl _ 6 tu, .sl _ 1 fl], .int .i64 now] => some (((tu.map unBox).map Box6.row = tu ∧ (fl.map unI).map irow = fl) ∧ (tu.map unBox).length ≤ 1048576 ∧ (fl.map unI).length ≤ 1048576, .bool (decide ((lapPath q s (tu.map unBox)).must (fl.map unI) now)))
  | _ => none
theorem h_iMust : ∀ args p v, t_iMust args = some (p, v) → p → Contract P 21 args [] v [] ∧ noref v = true ∧ No99 v := by
  intro args p v h1 h2
  unfold t_iMust at h1
  split at h1
  · rename_i nm q s nr no t tu t' fl now
    cases h1
    have := c_iLapMust nm q s nr no t t' (tu.map unBox) (fl.map unI) now h2.2.1 h2.2.2
    simp only [h2.1.1, h2.1.2] at this
    exact ⟨this, rfl, trivial⟩
  · cases h1
theorem c_FnExactLapMust (nm : ByteArray) (q s nr no : Int) (t t' : Nat) (tu : List Box6) (fl : List Int) (now : Int) (hn : nm.toList.length ≤ 9223372036854775807) (hu : tu.length ≤ 9223372036854775807) (hk : fl.length ≤ 9223372036854775807) : Contract P 4 [.agg [.str nm, .int .i64 q, .int .i64 s, .int .i64 nr, .int .i64 no, .sl t 6 (tu.map Box6.row), .sl t' 1 (fl.map irow)], .int .i64 now] [] (.bool true) [] := by
  refine fn_sound (((((Env.nil P).add 18 t_szCraft h_szCraft).add 20 t_toCraft h_toCraft).add 19 t_sMust h_sMust).add 21 t_iMust h_iMust) hm k_laws_FnExactLapMust (Nat.le_of_ble_eq_true rfl) rfl ?_
  unfold s_laws_FnExactLapMust
  simp only [w_skip, w_rg, w_rgd, w_seq, w_cond, w_block, w_loop, w_exit, w_ret, w_gh, w_rg0, w_rg1, w_rgT, w_rgF, w_run, w_psd, w_und, w_dr0, w_dr1, w_drT, w_drF, w_drRun, w_drPsd, w_drUnd, w_drKn, w_drKs, w_putK, w_trimK, w_thenN, w_thenE, w_thenR, w_blkN, w_blkE, w_blkR, w_call, w_effK, brU_true, brU_false, brU_u, brU_not, brU_and, brU_or, brU_dec, brU_eq, brU_ne, br_true, br_false, br_not, br_and, br_or, br_dec, br_eq, br_ne, w_getE0, w_getE1, w_setE0, w_setE1, w_dropE0, w_dropE1, w_drop0, w_drop1, w_getM0, w_getM1, w_setM0, w_setM1, ev_v, ev_c, w_putS, w_putN, w_lit, w_apU0, w_apU1, w_trim, enumE0, enumE1, w_callWp, w_callL, w_callT, w_T1, w_T0, o_mv, o_newnil, o_pick, o_bin, o_binN, o_neg, o_not, o_eqB, o_eqS, o_conv, o_alloc, o_box, o_load1, o_loadN, o_store, o_nilck, o_faddr, o_field1, o_fieldN, o_iaddr, o_istr, o_slStr, o_slSl, o_lenS, o_lenL, o_mx, o_mn, o_ext, o_build, o_lit, o_litOwn, o_app, o_mk, o_mvfrz, l_int, l_bool, l_str, l_agg, l_sl, l_own, l_ptr, l_pp, i_int, i_bool, i_str, i_sl, i_own, i_ptr, i_pp, all0, all1, e_ok1, eff, effBin, effBinN, ld_ptr, ld_pp, ld_elt, ia_own, ia_arr, el_1, el_N, load1K, faddrE, r_iaddr, sg_S, sg_c, sg_n, purL, pur, List.map, List.drop, List.take, List.length, List.foldl, List.append_eq, List.nil_append, List.cons_append, List.getD_cons_zero, List.getD_cons_succ, reduceIte, Nat.reduceEqDiff, Nat.reduceAdd, Nat.reduceLeDiff, true_and, and_true, Bool.not_true, Bool.not_false, Bool.and_true, Bool.true_and, Bool.and_self, reduceCtorEq, true_implies, false_implies, implies_true, decide_eq_true_eq, Option.map_some, fpOf, fpX, SOp.xs, oX, refs, refsL, dom, disj, List.all_nil, List.all_cons, List.contains_cons, List.contains_nil, Nat.reduceBEq, Bool.or_false, Bool.false_or, List.append_nil, Bool.not_false, Bool.not_true, List.forall_mem_cons, fm0, List.set, Nat.reduceLT, ne_eq, not_false_eq_true, not_true_eq_false, ret1, ret1N, keep0, keep1, rf_int, rf_bool, rf_str, rf_sl, rf_agg, rf_tup, rfL0, rfL1, re_t, re_cN, re_L0, re_L1, ret_tup, ret_one, decide_true, AV.bool.injEq, AV.int.injEq, Nat.reduceLeDiff, Bool.true_eq, Bool.false_eq, decide_eq_true_eq, decide_eq_false_iff_not, t_szCraft, t_toCraft, t_sMust, t_iMust, beq_self_eq_true, eq_self, un_i, un_box, bne_self_eq_false, List.length_map, un_box, irow, un_i, flatOk, noref, ghost, Nat.zero_add, Nat.sub_zero, Int.toNat_natCast]
  refine ⟨⟨by omega, hn, hu, hk⟩, fun h => ?_⟩
  have hb : tu.length ≤ 1048576 ∧ fl.length ≤ 1048576 := by
    unfold szCraft at h; split at h <;> omega
  refine ⟨hb, hb, hb, hb, hb, _, _, .inr (.inl ⟨rfl, _, rfl, c_eqCraft1 nm q s nr no 0 0 tu fl 0 0 hb.1 hb.2, rfl, trivial⟩), ?_⟩
  simp only [w_skip, w_rg, w_rgd, w_seq, w_cond, w_block, w_loop, w_exit, w_ret, w_gh, w_rg0, w_rg1, w_rgT, w_rgF, w_run, w_psd, w_und, w_dr0, w_dr1, w_drT, w_drF, w_drRun, w_drPsd, w_drUnd, w_drKn, w_drKs, w_putK, w_trimK, w_thenN, w_thenE, w_thenR, w_blkN, w_blkE, w_blkR, w_call, w_effK, brU_true, brU_false, brU_u, brU_not, brU_and, brU_or, brU_dec, brU_eq, brU_ne, br_true, br_false, br_not, br_and, br_or, br_dec, br_eq, br_ne, w_getE0, w_getE1, w_setE0, w_setE1, w_dropE0, w_dropE1, w_drop0, w_drop1, w_getM0, w_getM1, w_setM0, w_setM1, ev_v, ev_c, w_putS, w_putN, w_lit, w_apU0, w_apU1, w_trim, enumE0, enumE1, w_callWp, w_callL, w_callT, w_T1, w_T0, o_mv, o_newnil, o_pick, o_bin, o_binN, o_neg, o_not, o_eqB, o_eqS, o_conv, o_alloc, o_box, o_load1, o_loadN, o_store, o_nilck, o_faddr, o_field1, o_fieldN, o_iaddr, o_istr, o_slStr, o_slSl, o_lenS, o_lenL, o_mx, o_mn, o_ext, o_build, o_lit, o_litOwn, o_app, o_mk, o_mvfrz, l_int, l_bool, l_str, l_agg, l_sl, l_own, l_ptr, l_pp, i_int, i_bool, i_str, i_sl, i_own, i_ptr, i_pp, all0, all1, e_ok1, eff, effBin, effBinN, ld_ptr, ld_pp, ld_elt, ia_own, ia_arr, el_1, el_N, load1K, faddrE, r_iaddr, sg_S, sg_c, sg_n, purL, pur, List.map, List.drop, List.take, List.length, List.foldl, List.append_eq, List.nil_append, List.cons_append, List.getD_cons_zero, List.getD_cons_succ, reduceIte, Nat.reduceEqDiff, Nat.reduceAdd, Nat.reduceLeDiff, true_and, and_true, Bool.not_true, Bool.not_false, Bool.and_true, Bool.true_and, Bool.and_self, reduceCtorEq, true_implies, false_implies, implies_true, decide_eq_true_eq, Option.map_some, fpOf, fpX, SOp.xs, oX, refs, refsL, dom, disj, List.all_nil, List.all_cons, List.contains_cons, List.contains_nil, Nat.reduceBEq, Bool.or_false, Bool.false_or, List.append_nil, Bool.not_false, Bool.not_true, List.forall_mem_cons, fm0, List.set, Nat.reduceLT, ne_eq, not_false_eq_true, not_true_eq_false, ret1, ret1N, keep0, keep1, rf_int, rf_bool, rf_str, rf_sl, rf_agg, rf_tup, rfL0, rfL1, re_t, re_cN, re_L0, re_L1, ret_tup, ret_one, decide_true, AV.bool.injEq, AV.int.injEq, Nat.reduceLeDiff, Bool.true_eq, Bool.false_eq, decide_eq_true_eq, decide_eq_false_iff_not, t_szCraft, t_toCraft, t_sMust, t_iMust, beq_self_eq_true, eq_self, un_i, un_box, bne_self_eq_false, List.length_map, un_box, irow, un_i, flatOk, noref, ghost, Nat.zero_add, Nat.sub_zero, Int.toNat_natCast]
end Go.Ve
