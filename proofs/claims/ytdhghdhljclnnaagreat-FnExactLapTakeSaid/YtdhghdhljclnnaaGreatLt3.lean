/- Part 3 of the proof: laws and contracts of functions, each proved; they are joined in the last part. No conditions beyond those that the theorems state. -/
import Derived.Test.YtdhghdhljclnnaaGreatLt2
set_option linter.all false
namespace Go.Ve
open Go.Proofs
set_option linter.unusedSimpArgs false
set_option linter.unusedVariables false
set_option maxRecDepth 100000
noncomputable abbrev P := Go.Proofs.Tryz.prog
theorem hm : P.follows .mixedOrders = true := by kernel_rfl
theorem c_within (n lo hi : Int) (hp : True) : Contract P 82 [.int .i64 n, .int .i64 lo, .int .i64 hi] [] (.bool (decide (lo ≤ n ∧ n ≤ hi))) [] := by
  refine fn_sound (Env.nil P) hm k_impl_within (Nat.le_of_ble_eq_true rfl) rfl ?_
  unfold s_impl_within
  simp only [w_skip, w_rg, w_rgd, w_seq, w_cond, w_block, w_loop, w_exit, w_ret, w_gh, w_rg0, w_rg1, w_rgT, w_rgF, w_run, w_psd, w_und, w_dr0, w_dr1, w_drT, w_drF, w_drRun, w_drPsd, w_drUnd, w_drKn, w_drKs, w_putK, w_trimK, w_thenN, w_thenE, w_thenR, w_scope, w_label, w_blkN, w_blkE, w_blkR, w_call, w_effK, brU_true, brU_false, brU_u, brU_not, brU_and, brU_or, brU_dec, brU_eq, brU_ne, br_true, br_false, br_not, br_and, br_or, br_dec, br_eq, br_ne, w_getE0, w_getE1, w_setE0, w_setE1, w_dropE0, w_dropE1, w_drop0, w_drop1, w_getM0, w_getM1, w_setM0, w_setM1, ev_v, ev_c, w_putS, w_putN, w_lit, w_apU0, w_apU1, w_apU2, w_trim, enumE0, enumE1, w_callWp, w_callA0, w_callA1, w_R0, w_R1, w_R2, w_T2, w_callL, w_callT, w_T1, w_T0, o_mv, o_newnil, o_pick, o_bin, o_binN, o_neg, o_not, o_eqB, o_eqS, o_conv, o_alloc, o_box, o_load1, o_loadN, o_store, o_nilck, o_faddr, o_field1, o_fieldN, o_iaddr, o_istr, o_slStr, o_slSl, o_lenS, o_lenL, o_mx, o_mn, o_ext, o_build, o_lit, o_litOwn, o_app, o_mk, o_mvfrz, l_int, l_bool, l_str, l_agg, l_sl, l_own, l_ptr, l_pp, i_int, i_bool, i_str, i_sl, i_own, i_ptr, i_pp, all0, all1, e_ok1, eff, effBin, effBinN, ld_ptr, ld_pp, ld_elt, ia_own, ia_arr, el_1, el_N, load1K, faddrE, r_iaddr, sg_S, sg_c, sg_n, purL, pur, List.map, List.drop, List.take, List.length, List.foldl, List.append_eq, List.nil_append, List.cons_append, List.getD_cons_zero, List.getD_cons_succ, reduceIte, Nat.reduceEqDiff, Nat.reduceAdd, Nat.reduceLeDiff, true_and, and_true, Bool.not_true, Bool.not_false, Bool.and_true, Bool.true_and, Bool.and_self, reduceCtorEq, true_implies, false_implies, implies_true, decide_eq_true_eq, Option.map_some, fpOf, fpX, SOp.xs, oX, refs, refsL, dom, disj, List.all_nil, List.all_cons, List.contains_cons, List.contains_nil, Nat.reduceBEq, Bool.or_false, Bool.false_or, List.append_nil, Bool.not_false, Bool.not_true, List.forall_mem_cons, fm0, List.set, Nat.reduceLT, ne_eq, not_false_eq_true, not_true_eq_false
, ret1, ret1N, keep0, keep1, rf_int, rf_bool, rf_str, rf_sl, rf_agg, rf_tup, rfL0, rfL1, re_t, re_cN, re_L0, re_L1, ret_tup, ret_one, decide_true, AV.bool.injEq, AV.int.injEq, Nat.reduceLeDiff, Bool.true_eq, Bool.false_eq, decide_eq_true_eq, decide_eq_false_iff_not]
  repeat' (first | apply And.intro | intro _)
  all_goals (first | trivial | omega | (simp_all; done) | (simp_all; omega))
def t_within : List AV → Option (Prop × AV)
  | [.int .i64 n, .int .i64 lo, .int .i64 hi] => some (True, .bool (decide (lo ≤ n ∧ n ≤ hi)))
  | _ => none
theorem h_within : ∀ args p v, t_within args = some (p, v) → p → Contract P 82 args [] v [] ∧ noref v = true ∧ No99 v := by
  intro args p v h1 h2
  unfold t_within at h1
  split at h1
  · cases h1; exact ⟨c_within _ _ _ h2, rfl, trivial⟩
  · cases h1
theorem c_l21In (n lo hi : Int) (hp : True) : Contract P 71 [.int .i64 n, .int .i64 lo, .int .i64 hi] [] (.bool (decide (lo ≤ n ∧ n ≤ hi))) [] := by
  refine fn_sound (Env.nil P) hm k_spec_l21In (Nat.le_of_ble_eq_true rfl) rfl ?_
  unfold s_spec_l21In
  simp only [w_skip, w_rg, w_rgd, w_seq, w_cond, w_block, w_loop, w_exit, w_ret, w_gh, w_rg0, w_rg1, w_rgT, w_rgF, w_run, w_psd, w_und, w_dr0, w_dr1, w_drT, w_drF, w_drRun, w_drPsd, w_drUnd, w_drKn, w_drKs, w_putK, w_trimK, w_thenN, w_thenE, w_thenR, w_scope, w_label, w_blkN, w_blkE, w_blkR, w_call, w_effK, brU_true, brU_false, brU_u, brU_not, brU_and, brU_or, brU_dec, brU_eq, brU_ne, br_true, br_false, br_not, br_and, br_or, br_dec, br_eq, br_ne, w_getE0, w_getE1, w_setE0, w_setE1, w_dropE0, w_dropE1, w_drop0, w_drop1, w_getM0, w_getM1, w_setM0, w_setM1, ev_v, ev_c, w_putS, w_putN, w_lit, w_apU0, w_apU1, w_apU2, w_trim, enumE0, enumE1, w_callWp, w_callA0, w_callA1, w_R0, w_R1, w_R2, w_T2, w_callL, w_callT, w_T1, w_T0, o_mv, o_newnil, o_pick, o_bin, o_binN, o_neg, o_not, o_eqB, o_eqS, o_conv, o_alloc, o_box, o_load1, o_loadN, o_store, o_nilck, o_faddr, o_field1, o_fieldN, o_iaddr, o_istr, o_slStr, o_slSl, o_lenS, o_lenL, o_mx, o_mn, o_ext, o_build, o_lit, o_litOwn, o_app, o_mk, o_mvfrz, l_int, l_bool, l_str, l_agg, l_sl, l_own, l_ptr, l_pp, i_int, i_bool, i_str, i_sl, i_own, i_ptr, i_pp, all0, all1, e_ok1, eff, effBin, effBinN, ld_ptr, ld_pp, ld_elt, ia_own, ia_arr, el_1, el_N, load1K, faddrE, r_iaddr, sg_S, sg_c, sg_n, purL, pur, List.map, List.drop, List.take, List.length, List.foldl, List.append_eq, List.nil_append, List.cons_append, List.getD_cons_zero, List.getD_cons_succ, reduceIte, Nat.reduceEqDiff, Nat.reduceAdd, Nat.reduceLeDiff, true_and, and_true, Bool.not_true, Bool.not_false, Bool.and_true, Bool.true_and, Bool.and_self, reduceCtorEq, true_implies, false_implies, implies_true, decide_eq_true_eq, Option.map_some, fpOf, fpX, SOp.xs, oX, refs, refsL, dom, disj, List.all_nil, List.all_cons, List.contains_cons, List.contains_nil, Nat.reduceBEq, Bool.or_false, Bool.false_or, List.append_nil, Bool.not_false, Bool.not_true, List.forall_mem_cons, fm0, List.set, Nat.reduceLT, ne_eq, not_false_eq_true, not_true_eq_false
, ret1, ret1N, keep0, keep1, rf_int, rf_bool, rf_str, rf_sl, rf_agg, rf_tup, rfL0, rfL1, re_t, re_cN, re_L0, re_L1, ret_tup, ret_one, decide_true, AV.bool.injEq, AV.int.injEq, Nat.reduceLeDiff, Bool.true_eq, Bool.false_eq, decide_eq_true_eq, decide_eq_false_iff_not]
  repeat' (first | apply And.intro | intro _)
  all_goals (first | trivial | omega | (simp_all; done) | (simp_all; omega))
def t_l21In : List AV → Option (Prop × AV)
  | [.int .i64 n, .int .i64 lo, .int .i64 hi] => some (True, .bool (decide (lo ≤ n ∧ n ≤ hi)))
  | _ => none
theorem h_l21In : ∀ args p v, t_l21In args = some (p, v) → p → Contract P 71 args [] v [] ∧ noref v = true ∧ No99 v := by
  intro args p v h1 h2
  unfold t_l21In at h1
  split at h1
  · cases h1; exact ⟨c_l21In _ _ _ h2, rfl, trivial⟩
  · cases h1
theorem c_l1In (n lo hi : Int) (hp : True) : Contract P 48 [.int .i64 n, .int .i64 lo, .int .i64 hi] [] (.bool (decide (lo ≤ n ∧ n ≤ hi))) [] := by
  refine fn_sound (Env.nil P) hm k_spec_l1In (Nat.le_of_ble_eq_true rfl) rfl ?_
  unfold s_spec_l1In
  simp only [w_skip, w_rg, w_rgd, w_seq, w_cond, w_block, w_loop, w_exit, w_ret, w_gh, w_rg0, w_rg1, w_rgT, w_rgF, w_run, w_psd, w_und, w_dr0, w_dr1, w_drT, w_drF, w_drRun, w_drPsd, w_drUnd, w_drKn, w_drKs, w_putK, w_trimK, w_thenN, w_thenE, w_thenR, w_scope, w_label, w_blkN, w_blkE, w_blkR, w_call, w_effK, brU_true, brU_false, brU_u, brU_not, brU_and, brU_or, brU_dec, brU_eq, brU_ne, br_true, br_false, br_not, br_and, br_or, br_dec, br_eq, br_ne, w_getE0, w_getE1, w_setE0, w_setE1, w_dropE0, w_dropE1, w_drop0, w_drop1, w_getM0, w_getM1, w_setM0, w_setM1, ev_v, ev_c, w_putS, w_putN, w_lit, w_apU0, w_apU1, w_apU2, w_trim, enumE0, enumE1, w_callWp, w_callA0, w_callA1, w_R0, w_R1, w_R2, w_T2, w_callL, w_callT, w_T1, w_T0, o_mv, o_newnil, o_pick, o_bin, o_binN, o_neg, o_not, o_eqB, o_eqS, o_conv, o_alloc, o_box, o_load1, o_loadN, o_store, o_nilck, o_faddr, o_field1, o_fieldN, o_iaddr, o_istr, o_slStr, o_slSl, o_lenS, o_lenL, o_mx, o_mn, o_ext, o_build, o_lit, o_litOwn, o_app, o_mk, o_mvfrz, l_int, l_bool, l_str, l_agg, l_sl, l_own, l_ptr, l_pp, i_int, i_bool, i_str, i_sl, i_own, i_ptr, i_pp, all0, all1, e_ok1, eff, effBin, effBinN, ld_ptr, ld_pp, ld_elt, ia_own, ia_arr, el_1, el_N, load1K, faddrE, r_iaddr, sg_S, sg_c, sg_n, purL, pur, List.map, List.drop, List.take, List.length, List.foldl, List.append_eq, List.nil_append, List.cons_append, List.getD_cons_zero, List.getD_cons_succ, reduceIte, Nat.reduceEqDiff, Nat.reduceAdd, Nat.reduceLeDiff, true_and, and_true, Bool.not_true, Bool.not_false, Bool.and_true, Bool.true_and, Bool.and_self, reduceCtorEq, true_implies, false_implies, implies_true, decide_eq_true_eq, Option.map_some, fpOf, fpX, SOp.xs, oX, refs, refsL, dom, disj, List.all_nil, List.all_cons, List.contains_cons, List.contains_nil, Nat.reduceBEq, Bool.or_false, Bool.false_or, List.append_nil, Bool.not_false, Bool.not_true, List.forall_mem_cons, fm0, List.set, Nat.reduceLT, ne_eq, not_false_eq_true, not_true_eq_false
, ret1, ret1N, keep0, keep1, rf_int, rf_bool, rf_str, rf_sl, rf_agg, rf_tup, rfL0, rfL1, re_t, re_cN, re_L0, re_L1, ret_tup, ret_one, decide_true, AV.bool.injEq, AV.int.injEq, Nat.reduceLeDiff, Bool.true_eq, Bool.false_eq, decide_eq_true_eq, decide_eq_false_iff_not]
  repeat' (first | apply And.intro | intro _)
  all_goals (first | trivial | omega | (simp_all; done) | (simp_all; omega))
def t_l1In : List AV → Option (Prop × AV)
  | [.int .i64 n, .int .i64 lo, .int .i64 hi] => some (True, .bool (decide (lo ≤ n ∧ n ≤ hi)))
  | _ => none
theorem h_l1In : ∀ args p v, t_l1In args = some (p, v) → p → Contract P 48 args [] v [] ∧ noref v = true ∧ No99 v := by
  intro args p v h1 h2
  unfold t_l1In at h1
  split at h1
  · cases h1; exact ⟨c_l1In _ _ _ h2, rfl, trivial⟩
  · cases h1
theorem c_l31In (n lo hi : Int) (hp : True) : Contract P 51 [.int .i64 n, .int .i64 lo, .int .i64 hi] [] (.bool (decide (lo ≤ n ∧ n ≤ hi))) [] := by
  refine fn_sound (Env.nil P) hm k_spec_l31In (Nat.le_of_ble_eq_true rfl) rfl ?_
  unfold s_spec_l31In
  simp only [w_skip, w_rg, w_rgd, w_seq, w_cond, w_block, w_loop, w_exit, w_ret, w_gh, w_rg0, w_rg1, w_rgT, w_rgF, w_run, w_psd, w_und, w_dr0, w_dr1, w_drT, w_drF, w_drRun, w_drPsd, w_drUnd, w_drKn, w_drKs, w_putK, w_trimK, w_thenN, w_thenE, w_thenR, w_scope, w_label, w_blkN, w_blkE, w_blkR, w_call, w_effK, brU_true, brU_false, brU_u, brU_not, brU_and, brU_or, brU_dec, brU_eq, brU_ne, br_true, br_false, br_not, br_and, br_or, br_dec, br_eq, br_ne, w_getE0, w_getE1, w_setE0, w_setE1, w_dropE0, w_dropE1, w_drop0, w_drop1, w_getM0, w_getM1, w_setM0, w_setM1, ev_v, ev_c, w_putS, w_putN, w_lit, w_apU0, w_apU1, w_apU2, w_trim, enumE0, enumE1, w_callWp, w_callA0, w_callA1, w_R0, w_R1, w_R2, w_T2, w_callL, w_callT, w_T1, w_T0, o_mv, o_newnil, o_pick, o_bin, o_binN, o_neg, o_not, o_eqB, o_eqS, o_conv, o_alloc, o_box, o_load1, o_loadN, o_store, o_nilck, o_faddr, o_field1, o_fieldN, o_iaddr, o_istr, o_slStr, o_slSl, o_lenS, o_lenL, o_mx, o_mn, o_ext, o_build, o_lit, o_litOwn, o_app, o_mk, o_mvfrz, l_int, l_bool, l_str, l_agg, l_sl, l_own, l_ptr, l_pp, i_int, i_bool, i_str, i_sl, i_own, i_ptr, i_pp, all0, all1, e_ok1, eff, effBin, effBinN, ld_ptr, ld_pp, ld_elt, ia_own, ia_arr, el_1, el_N, load1K, faddrE, r_iaddr, sg_S, sg_c, sg_n, purL, pur, List.map, List.drop, List.take, List.length, List.foldl, List.append_eq, List.nil_append, List.cons_append, List.getD_cons_zero, List.getD_cons_succ, reduceIte, Nat.reduceEqDiff, Nat.reduceAdd, Nat.reduceLeDiff, true_and, and_true, Bool.not_true, Bool.not_false, Bool.and_true, Bool.true_and, Bool.and_self, reduceCtorEq, true_implies, false_implies, implies_true, decide_eq_true_eq, Option.map_some, fpOf, fpX, SOp.xs, oX, refs, refsL, dom, disj, List.all_nil, List.all_cons, List.contains_cons, List.contains_nil, Nat.reduceBEq, Bool.or_false, Bool.false_or, List.append_nil, Bool.not_false, Bool.not_true, List.forall_mem_cons, fm0, List.set, Nat.reduceLT, ne_eq, not_false_eq_true, not_true_eq_false
, ret1, ret1N, keep0, keep1, rf_int, rf_bool, rf_str, rf_sl, rf_agg, rf_tup, rfL0, rfL1, re_t, re_cN, re_L0, re_L1, ret_tup, ret_one, decide_true, AV.bool.injEq, AV.int.injEq, Nat.reduceLeDiff, Bool.true_eq, Bool.false_eq, decide_eq_true_eq, decide_eq_false_iff_not]
  repeat' (first | apply And.intro | intro _)
  all_goals (first | trivial | omega | (simp_all; done) | (simp_all; omega))
def t_l31In : List AV → Option (Prop × AV)
  | [.int .i64 n, .int .i64 lo, .int .i64 hi] => some (True, .bool (decide (lo ≤ n ∧ n ≤ hi)))
  | _ => none
theorem h_l31In : ∀ args p v, t_l31In args = some (p, v) → p → Contract P 51 args [] v [] ∧ noref v = true ∧ No99 v := by
  intro args p v h1 h2
  unfold t_l31In at h1
  split at h1
  · cases h1; exact ⟨c_l31In _ _ _ h2, rfl, trivial⟩
  · cases h1
theorem c_l21Min (a b : Int) (hp : True) : Contract P 77 [.int .i64 a, .int .i64 b] [] (.int .i64 (min a b)) [] := by
  refine fn_sound (Env.nil P) hm k_spec_l21Min (Nat.le_of_ble_eq_true rfl) rfl ?_
  unfold s_spec_l21Min
  simp only [w_skip, w_rg, w_rgd, w_seq, w_cond, w_block, w_loop, w_exit, w_ret, w_gh, w_rg0, w_rg1, w_rgT, w_rgF, w_run, w_psd, w_und, w_dr0, w_dr1, w_drT, w_drF, w_drRun, w_drPsd, w_drUnd, w_drKn, w_drKs, w_putK, w_trimK, w_thenN, w_thenE, w_thenR, w_scope, w_label, w_blkN, w_blkE, w_blkR, w_call, w_effK, brU_true, brU_false, brU_u, brU_not, brU_and, brU_or, brU_dec, brU_eq, brU_ne, br_true, br_false, br_not, br_and, br_or, br_dec, br_eq, br_ne, w_getE0, w_getE1, w_setE0, w_setE1, w_dropE0, w_dropE1, w_drop0, w_drop1, w_getM0, w_getM1, w_setM0, w_setM1, ev_v, ev_c, w_putS, w_putN, w_lit, w_apU0, w_apU1, w_apU2, w_trim, enumE0, enumE1, w_callWp, w_callA0, w_callA1, w_R0, w_R1, w_R2, w_T2, w_callL, w_callT, w_T1, w_T0, o_mv, o_newnil, o_pick, o_bin, o_binN, o_neg, o_not, o_eqB, o_eqS, o_conv, o_alloc, o_box, o_load1, o_loadN, o_store, o_nilck, o_faddr, o_field1, o_fieldN, o_iaddr, o_istr, o_slStr, o_slSl, o_lenS, o_lenL, o_mx, o_mn, o_ext, o_build, o_lit, o_litOwn, o_app, o_mk, o_mvfrz, l_int, l_bool, l_str, l_agg, l_sl, l_own, l_ptr, l_pp, i_int, i_bool, i_str, i_sl, i_own, i_ptr, i_pp, all0, all1, e_ok1, eff, effBin, effBinN, ld_ptr, ld_pp, ld_elt, ia_own, ia_arr, el_1, el_N, load1K, faddrE, r_iaddr, sg_S, sg_c, sg_n, purL, pur, List.map, List.drop, List.take, List.length, List.foldl, List.append_eq, List.nil_append, List.cons_append, List.getD_cons_zero, List.getD_cons_succ, reduceIte, Nat.reduceEqDiff, Nat.reduceAdd, Nat.reduceLeDiff, true_and, and_true, Bool.not_true, Bool.not_false, Bool.and_true, Bool.true_and, Bool.and_self, reduceCtorEq, true_implies, false_implies, implies_true, decide_eq_true_eq, Option.map_some, fpOf, fpX, SOp.xs, oX, refs, refsL, dom, disj, List.all_nil, List.all_cons, List.contains_cons, List.contains_nil, Nat.reduceBEq, Bool.or_false, Bool.false_or, List.append_nil, Bool.not_false, Bool.not_true, List.forall_mem_cons, fm0, List.set, Nat.reduceLT, ne_eq, not_false_eq_true, not_true_eq_false
, ret1, ret1N, keep0, keep1, rf_int, rf_bool, rf_str, rf_sl, rf_agg, rf_tup, rfL0, rfL1, re_t, re_cN, re_L0, re_L1, ret_tup, ret_one, decide_true, AV.bool.injEq, AV.int.injEq, Nat.reduceLeDiff, Bool.true_eq, Bool.false_eq, decide_eq_true_eq, decide_eq_false_iff_not]
  repeat' (first | apply And.intro | intro _)
  all_goals (first | trivial | omega | (simp_all; done) | (simp_all; omega))
def t_l21Min : List AV → Option (Prop × AV)
  | [.int .i64 a, .int .i64 b] => some (True, .int .i64 (min a b))
  | _ => none
theorem h_l21Min : ∀ args p v, t_l21Min args = some (p, v) → p → Contract P 77 args [] v [] ∧ noref v = true ∧ No99 v := by
  intro args p v h1 h2
  unfold t_l21Min at h1
  split at h1
  · cases h1; exact ⟨c_l21Min _ _ h2, rfl, trivial⟩
  · cases h1
theorem c_l21Max (a b : Int) (hp : True) : Contract P 27 [.int .i64 a, .int .i64 b] [] (.int .i64 (max a b)) [] := by
  refine fn_sound (Env.nil P) hm k_spec_l21Max (Nat.le_of_ble_eq_true rfl) rfl ?_
  unfold s_spec_l21Max
  simp only [w_skip, w_rg, w_rgd, w_seq, w_cond, w_block, w_loop, w_exit, w_ret, w_gh, w_rg0, w_rg1, w_rgT, w_rgF, w_run, w_psd, w_und, w_dr0, w_dr1, w_drT, w_drF, w_drRun, w_drPsd, w_drUnd, w_drKn, w_drKs, w_putK, w_trimK, w_thenN, w_thenE, w_thenR, w_scope, w_label, w_blkN, w_blkE, w_blkR, w_call, w_effK, brU_true, brU_false, brU_u, brU_not, brU_and, brU_or, brU_dec, brU_eq, brU_ne, br_true, br_false, br_not, br_and, br_or, br_dec, br_eq, br_ne, w_getE0, w_getE1, w_setE0, w_setE1, w_dropE0, w_dropE1, w_drop0, w_drop1, w_getM0, w_getM1, w_setM0, w_setM1, ev_v, ev_c, w_putS, w_putN, w_lit, w_apU0, w_apU1, w_apU2, w_trim, enumE0, enumE1, w_callWp, w_callA0, w_callA1, w_R0, w_R1, w_R2, w_T2, w_callL, w_callT, w_T1, w_T0, o_mv, o_newnil, o_pick, o_bin, o_binN, o_neg, o_not, o_eqB, o_eqS, o_conv, o_alloc, o_box, o_load1, o_loadN, o_store, o_nilck, o_faddr, o_field1, o_fieldN, o_iaddr, o_istr, o_slStr, o_slSl, o_lenS, o_lenL, o_mx, o_mn, o_ext, o_build, o_lit, o_litOwn, o_app, o_mk, o_mvfrz, l_int, l_bool, l_str, l_agg, l_sl, l_own, l_ptr, l_pp, i_int, i_bool, i_str, i_sl, i_own, i_ptr, i_pp, all0, all1, e_ok1, eff, effBin, effBinN, ld_ptr, ld_pp, ld_elt, ia_own, ia_arr, el_1, el_N, load1K, faddrE, r_iaddr, sg_S, sg_c, sg_n, purL, pur, List.map, List.drop, List.take, List.length, List.foldl, List.append_eq, List.nil_append, List.cons_append, List.getD_cons_zero, List.getD_cons_succ, reduceIte, Nat.reduceEqDiff, Nat.reduceAdd, Nat.reduceLeDiff, true_and, and_true, Bool.not_true, Bool.not_false, Bool.and_true, Bool.true_and, Bool.and_self, reduceCtorEq, true_implies, false_implies, implies_true, decide_eq_true_eq, Option.map_some, fpOf, fpX, SOp.xs, oX, refs, refsL, dom, disj, List.all_nil, List.all_cons, List.contains_cons, List.contains_nil, Nat.reduceBEq, Bool.or_false, Bool.false_or, List.append_nil, Bool.not_false, Bool.not_true, List.forall_mem_cons, fm0, List.set, Nat.reduceLT, ne_eq, not_false_eq_true, not_true_eq_false
, ret1, ret1N, keep0, keep1, rf_int, rf_bool, rf_str, rf_sl, rf_agg, rf_tup, rfL0, rfL1, re_t, re_cN, re_L0, re_L1, ret_tup, ret_one, decide_true, AV.bool.injEq, AV.int.injEq, Nat.reduceLeDiff, Bool.true_eq, Bool.false_eq, decide_eq_true_eq, decide_eq_false_iff_not]
  repeat' (first | apply And.intro | intro _)
  all_goals (first | trivial | omega | (simp_all; done) | (simp_all; omega))
def t_l21Max : List AV → Option (Prop × AV)
  | [.int .i64 a, .int .i64 b] => some (True, .int .i64 (max a b))
  | _ => none
theorem h_l21Max : ∀ args p v, t_l21Max args = some (p, v) → p → Contract P 27 args [] v [] ∧ noref v = true ∧ No99 v := by
  intro args p v h1 h2
  unfold t_l21Max at h1
  split at h1
  · cases h1; exact ⟨c_l21Max _ _ h2, rfl, trivial⟩
  · cases h1
theorem c_iKindOk (q s : Int) (hp : True) : Contract P 84 [.agg [.int .i64 q, .int .i64 s]] [] (.bool (decide (1 ≤ q ∧ q ≤ s ∧ s ≤ 50))) [] := by
  refine fn_sound (Env.nil P) hm k_impl_FlyKindOk (Nat.le_of_ble_eq_true rfl) rfl ?_
  unfold s_impl_FlyKindOk
  simp only [w_skip, w_rg, w_rgd, w_seq, w_cond, w_block, w_loop, w_exit, w_ret, w_gh, w_rg0, w_rg1, w_rgT, w_rgF, w_run, w_psd, w_und, w_dr0, w_dr1, w_drT, w_drF, w_drRun, w_drPsd, w_drUnd, w_drKn, w_drKs, w_putK, w_trimK, w_thenN, w_thenE, w_thenR, w_scope, w_label, w_blkN, w_blkE, w_blkR, w_call, w_effK, brU_true, brU_false, brU_u, brU_not, brU_and, brU_or, brU_dec, brU_eq, brU_ne, br_true, br_false, br_not, br_and, br_or, br_dec, br_eq, br_ne, w_getE0, w_getE1, w_setE0, w_setE1, w_dropE0, w_dropE1, w_drop0, w_drop1, w_getM0, w_getM1, w_setM0, w_setM1, ev_v, ev_c, w_putS, w_putN, w_lit, w_apU0, w_apU1, w_apU2, w_trim, enumE0, enumE1, w_callWp, w_callA0, w_callA1, w_R0, w_R1, w_R2, w_T2, w_callL, w_callT, w_T1, w_T0, o_mv, o_newnil, o_pick, o_bin, o_binN, o_neg, o_not, o_eqB, o_eqS, o_conv, o_alloc, o_box, o_load1, o_loadN, o_store, o_nilck, o_faddr, o_field1, o_fieldN, o_iaddr, o_istr, o_slStr, o_slSl, o_lenS, o_lenL, o_mx, o_mn, o_ext, o_build, o_lit, o_litOwn, o_app, o_mk, o_mvfrz, l_int, l_bool, l_str, l_agg, l_sl, l_own, l_ptr, l_pp, i_int, i_bool, i_str, i_sl, i_own, i_ptr, i_pp, all0, all1, e_ok1, eff, effBin, effBinN, ld_ptr, ld_pp, ld_elt, ia_own, ia_arr, el_1, el_N, load1K, faddrE, r_iaddr, sg_S, sg_c, sg_n, purL, pur, List.map, List.drop, List.take, List.length, List.foldl, List.append_eq, List.nil_append, List.cons_append, List.getD_cons_zero, List.getD_cons_succ, reduceIte, Nat.reduceEqDiff, Nat.reduceAdd, Nat.reduceLeDiff, true_and, and_true, Bool.not_true, Bool.not_false, Bool.and_true, Bool.true_and, Bool.and_self, reduceCtorEq, true_implies, false_implies, implies_true, decide_eq_true_eq, Option.map_some, fpOf, fpX, SOp.xs, oX, refs, refsL, dom, disj, List.all_nil, List.all_cons, List.contains_cons, List.contains_nil, Nat.reduceBEq, Bool.or_false, Bool.false_or, List.append_nil, Bool.not_false, Bool.not_true, List.forall_mem_cons, fm0, List.set, Nat.reduceLT, ne_eq, not_false_eq_true, not_true_eq_false
, ret1, ret1N, keep0, keep1, rf_int, rf_bool, rf_str, rf_sl, rf_agg, rf_tup, rfL0, rfL1, re_t, re_cN, re_L0, re_L1, ret_tup, ret_one, decide_true, AV.bool.injEq, AV.int.injEq, Nat.reduceLeDiff, Bool.true_eq, Bool.false_eq, decide_eq_true_eq, decide_eq_false_iff_not]
  repeat' (first | apply And.intro | intro _)
  all_goals (first | trivial | omega | (simp_all; done) | (simp_all; omega))
def t_iKindOk : List AV → Option (Prop × AV)
  | [.agg [.int .i64 q, .int .i64 s]] => some (True, .bool (decide (1 ≤ q ∧ q ≤ s ∧ s ≤ 50)))
  | _ => none
theorem h_iKindOk : ∀ args p v, t_iKindOk args = some (p, v) → p → Contract P 84 args [] v [] ∧ noref v = true ∧ No99 v := by
  intro args p v h1 h2
  unfold t_iKindOk at h1
  split at h1
  · cases h1; exact ⟨c_iKindOk _ _ h2, rfl, trivial⟩
  · cases h1
theorem c_sKindOk (q s : Int) (hp : True) : Contract P 47 [.agg [.int .i64 q, .int .i64 s]] [] (.bool (decide (1 ≤ q ∧ q ≤ s ∧ s ≤ 50))) [] := by
  refine fn_sound ((Env.nil P).add 71 t_l21In h_l21In) hm k_spec_FlyKindOk (Nat.le_of_ble_eq_true rfl) rfl ?_
  unfold s_spec_FlyKindOk
  simp only [w_skip, w_rg, w_rgd, w_seq, w_cond, w_block, w_loop, w_exit, w_ret, w_gh, w_rg0, w_rg1, w_rgT, w_rgF, w_run, w_psd, w_und, w_dr0, w_dr1, w_drT, w_drF, w_drRun, w_drPsd, w_drUnd, w_drKn, w_drKs, w_putK, w_trimK, w_thenN, w_thenE, w_thenR, w_scope, w_label, w_blkN, w_blkE, w_blkR, w_call, w_effK, brU_true, brU_false, brU_u, brU_not, brU_and, brU_or, brU_dec, brU_eq, brU_ne, br_true, br_false, br_not, br_and, br_or, br_dec, br_eq, br_ne, w_getE0, w_getE1, w_setE0, w_setE1, w_dropE0, w_dropE1, w_drop0, w_drop1, w_getM0, w_getM1, w_setM0, w_setM1, ev_v, ev_c, w_putS, w_putN, w_lit, w_apU0, w_apU1, w_apU2, w_trim, enumE0, enumE1, w_callWp, w_callA0, w_callA1, w_R0, w_R1, w_R2, w_T2, w_callL, w_callT, w_T1, w_T0, o_mv, o_newnil, o_pick, o_bin, o_binN, o_neg, o_not, o_eqB, o_eqS, o_conv, o_alloc, o_box, o_load1, o_loadN, o_store, o_nilck, o_faddr, o_field1, o_fieldN, o_iaddr, o_istr, o_slStr, o_slSl, o_lenS, o_lenL, o_mx, o_mn, o_ext, o_build, o_lit, o_litOwn, o_app, o_mk, o_mvfrz, l_int, l_bool, l_str, l_agg, l_sl, l_own, l_ptr, l_pp, i_int, i_bool, i_str, i_sl, i_own, i_ptr, i_pp, all0, all1, e_ok1, eff, effBin, effBinN, ld_ptr, ld_pp, ld_elt, ia_own, ia_arr, el_1, el_N, load1K, faddrE, r_iaddr, sg_S, sg_c, sg_n, purL, pur, List.map, List.drop, List.take, List.length, List.foldl, List.append_eq, List.nil_append, List.cons_append, List.getD_cons_zero, List.getD_cons_succ, reduceIte, Nat.reduceEqDiff, Nat.reduceAdd, Nat.reduceLeDiff, true_and, and_true, Bool.not_true, Bool.not_false, Bool.and_true, Bool.true_and, Bool.and_self, reduceCtorEq, true_implies, false_implies, implies_true, decide_eq_true_eq, Option.map_some, fpOf, fpX, SOp.xs, oX, refs, refsL, dom, disj, List.all_nil, List.all_cons, List.contains_cons, List.contains_nil, Nat.reduceBEq, Bool.or_false, Bool.false_or, List.append_nil, Bool.not_false, Bool.not_true, List.forall_mem_cons, fm0, List.set, Nat.reduceLT, ne_eq, not_false_eq_true, not_true_eq_false
, ret1, ret1N, keep0, keep1, rf_int, rf_bool, rf_str, rf_sl, rf_agg, rf_tup, rfL0, rfL1, re_t, re_cN, re_L0, re_L1, ret_tup, ret_one, decide_true, AV.bool.injEq, AV.int.injEq, Nat.reduceLeDiff, Bool.true_eq, Bool.false_eq, decide_eq_true_eq, decide_eq_false_iff_not, t_l21In]
  repeat' (first | apply And.intro | intro _)
  all_goals (first | trivial | omega | (simp_all; done) | (simp_all; omega))
def t_sKindOk : List AV → Option (Prop × AV)
  | [.agg [.int .i64 q, .int .i64 s]] => some (True, .bool (decide (1 ≤ q ∧ q ≤ s ∧ s ≤ 50)))
  | _ => none
theorem h_sKindOk : ∀ args p v, t_sKindOk args = some (p, v) → p → Contract P 47 args [] v [] ∧ noref v = true ∧ No99 v := by
  intro args p v h1 h2
  unfold t_sKindOk at h1
  split at h1
  · cases h1; exact ⟨c_sKindOk _ _ h2, rfl, trivial⟩
  · cases h1
theorem c_window (f b : Int) (hp : True) : Contract P 111 [.int .i64 f, .int .i64 b] [] (.bool (decide (0 ≤ f ∧ f ≤ b ∧ b ≤ 10000))) [] := by
  refine fn_sound (Env.nil P) hm k_impl_window (Nat.le_of_ble_eq_true rfl) rfl ?_
  unfold s_impl_window
  simp only [w_skip, w_rg, w_rgd, w_seq, w_cond, w_block, w_loop, w_exit, w_ret, w_gh, w_rg0, w_rg1, w_rgT, w_rgF, w_run, w_psd, w_und, w_dr0, w_dr1, w_drT, w_drF, w_drRun, w_drPsd, w_drUnd, w_drKn, w_drKs, w_putK, w_trimK, w_thenN, w_thenE, w_thenR, w_scope, w_label, w_blkN, w_blkE, w_blkR, w_call, w_effK, brU_true, brU_false, brU_u, brU_not, brU_and, brU_or, brU_dec, brU_eq, brU_ne, br_true, br_false, br_not, br_and, br_or, br_dec, br_eq, br_ne, w_getE0, w_getE1, w_setE0, w_setE1, w_dropE0, w_dropE1, w_drop0, w_drop1, w_getM0, w_getM1, w_setM0, w_setM1, ev_v, ev_c, w_putS, w_putN, w_lit, w_apU0, w_apU1, w_apU2, w_trim, enumE0, enumE1, w_callWp, w_callA0, w_callA1, w_R0, w_R1, w_R2, w_T2, w_callL, w_callT, w_T1, w_T0, o_mv, o_newnil, o_pick, o_bin, o_binN, o_neg, o_not, o_eqB, o_eqS, o_conv, o_alloc, o_box, o_load1, o_loadN, o_store, o_nilck, o_faddr, o_field1, o_fieldN, o_iaddr, o_istr, o_slStr, o_slSl, o_lenS, o_lenL, o_mx, o_mn, o_ext, o_build, o_lit, o_litOwn, o_app, o_mk, o_mvfrz, l_int, l_bool, l_str, l_agg, l_sl, l_own, l_ptr, l_pp, i_int, i_bool, i_str, i_sl, i_own, i_ptr, i_pp, all0, all1, e_ok1, eff, effBin, effBinN, ld_ptr, ld_pp, ld_elt, ia_own, ia_arr, el_1, el_N, load1K, faddrE, r_iaddr, sg_S, sg_c, sg_n, purL, pur, List.map, List.drop, List.take, List.length, List.foldl, List.append_eq, List.nil_append, List.cons_append, List.getD_cons_zero, List.getD_cons_succ, reduceIte, Nat.reduceEqDiff, Nat.reduceAdd, Nat.reduceLeDiff, true_and, and_true, Bool.not_true, Bool.not_false, Bool.and_true, Bool.true_and, Bool.and_self, reduceCtorEq, true_implies, false_implies, implies_true, decide_eq_true_eq, Option.map_some, fpOf, fpX, SOp.xs, oX, refs, refsL, dom, disj, List.all_nil, List.all_cons, List.contains_cons, List.contains_nil, Nat.reduceBEq, Bool.or_false, Bool.false_or, List.append_nil, Bool.not_false, Bool.not_true, List.forall_mem_cons, fm0, List.set, Nat.reduceLT, ne_eq, not_false_eq_true, not_true_eq_false
, ret1, ret1N, keep0, keep1, rf_int, rf_bool, rf_str, rf_sl, rf_agg, rf_tup, rfL0, rfL1, re_t, re_cN, re_L0, re_L1, ret_tup, ret_one, decide_true, AV.bool.injEq, AV.int.injEq, Nat.reduceLeDiff, Bool.true_eq, Bool.false_eq, decide_eq_true_eq, decide_eq_false_iff_not]
  repeat' (first | apply And.intro | intro _)
  all_goals (first | trivial | omega | (simp_all; done) | (simp_all; omega))
def t_window : List AV → Option (Prop × AV)
  | [.int .i64 f, .int .i64 b] => some (True, .bool (decide (0 ≤ f ∧ f ≤ b ∧ b ≤ 10000)))
  | _ => none
theorem h_window : ∀ args p v, t_window args = some (p, v) → p → Contract P 111 args [] v [] ∧ noref v = true ∧ No99 v := by
  intro args p v h1 h2
  unfold t_window at h1
  split at h1
  · cases h1; exact ⟨c_window _ _ h2, rfl, trivial⟩
  · cases h1
theorem c_dist (a b : Int) (hp : -9223372036854775808 ≤ a - b ∧ a - b ≤ 9223372036854775807 ∧ -9223372036854775808 ≤ b - a ∧ b - a ≤ 9223372036854775807) : Contract P 112 [.int .i64 a, .int .i64 b] [] (.int .i64 (max (a - b) (b - a))) [] := by
  refine fn_sound (Env.nil P) hm k_impl_dist (Nat.le_of_ble_eq_true rfl) rfl ?_
  unfold s_impl_dist
  simp only [w_skip, w_rg, w_rgd, w_seq, w_cond, w_block, w_loop, w_exit, w_ret, w_gh, w_rg0, w_rg1, w_rgT, w_rgF, w_run, w_psd, w_und, w_dr0, w_dr1, w_drT, w_drF, w_drRun, w_drPsd, w_drUnd, w_drKn, w_drKs, w_putK, w_trimK, w_thenN, w_thenE, w_thenR, w_scope, w_label, w_blkN, w_blkE, w_blkR, w_call, w_effK, brU_true, brU_false, brU_u, brU_not, brU_and, brU_or, brU_dec, brU_eq, brU_ne, br_true, br_false, br_not, br_and, br_or, br_dec, br_eq, br_ne, w_getE0, w_getE1, w_setE0, w_setE1, w_dropE0, w_dropE1, w_drop0, w_drop1, w_getM0, w_getM1, w_setM0, w_setM1, ev_v, ev_c, w_putS, w_putN, w_lit, w_apU0, w_apU1, w_apU2, w_trim, enumE0, enumE1, w_callWp, w_callA0, w_callA1, w_R0, w_R1, w_R2, w_T2, w_callL, w_callT, w_T1, w_T0, o_mv, o_newnil, o_pick, o_bin, o_binN, o_neg, o_not, o_eqB, o_eqS, o_conv, o_alloc, o_box, o_load1, o_loadN, o_store, o_nilck, o_faddr, o_field1, o_fieldN, o_iaddr, o_istr, o_slStr, o_slSl, o_lenS, o_lenL, o_mx, o_mn, o_ext, o_build, o_lit, o_litOwn, o_app, o_mk, o_mvfrz, l_int, l_bool, l_str, l_agg, l_sl, l_own, l_ptr, l_pp, i_int, i_bool, i_str, i_sl, i_own, i_ptr, i_pp, all0, all1, e_ok1, eff, effBin, effBinN, ld_ptr, ld_pp, ld_elt, ia_own, ia_arr, el_1, el_N, load1K, faddrE, r_iaddr, sg_S, sg_c, sg_n, purL, pur, List.map, List.drop, List.take, List.length, List.foldl, List.append_eq, List.nil_append, List.cons_append, List.getD_cons_zero, List.getD_cons_succ, reduceIte, Nat.reduceEqDiff, Nat.reduceAdd, Nat.reduceLeDiff, true_and, and_true, Bool.not_true, Bool.not_false, Bool.and_true, Bool.true_and, Bool.and_self, reduceCtorEq, true_implies, false_implies, implies_true, decide_eq_true_eq, Option.map_some, fpOf, fpX, SOp.xs, oX, refs, refsL, dom, disj, List.all_nil, List.all_cons, List.contains_cons, List.contains_nil, Nat.reduceBEq, Bool.or_false, Bool.false_or, List.append_nil, Bool.not_false, Bool.not_true, List.forall_mem_cons, fm0, List.set, Nat.reduceLT, ne_eq, not_false_eq_true, not_true_eq_false
, ret1, ret1N, keep0, keep1, rf_int, rf_bool, rf_str, rf_sl, rf_agg, rf_tup, rfL0, rfL1, re_t, re_cN, re_L0, re_L1, ret_tup, ret_one, decide_true, AV.bool.injEq, AV.int.injEq, Nat.reduceLeDiff, Bool.true_eq, Bool.false_eq, decide_eq_true_eq, decide_eq_false_iff_not]
  repeat' (first | apply And.intro | intro _)
  all_goals (first | trivial | omega | (simp_all; done) | (simp_all; omega))
def t_dist : List AV → Option (Prop × AV)
  | [.int .i64 a, .int .i64 b] => some (-9223372036854775808 ≤ a - b ∧ a - b ≤ 9223372036854775807 ∧ -9223372036854775808 ≤ b - a ∧ b - a ≤ 9223372036854775807, .int .i64 (max (a - b) (b - a)))
  | _ => none
theorem h_dist : ∀ args p v, t_dist args = some (p, v) → p → Contract P 112 args [] v [] ∧ noref v = true ∧ No99 v := by
  intro args p v h1 h2
  unfold t_dist at h1
  split at h1
  · cases h1; exact ⟨c_dist _ _ h2, rfl, trivial⟩
  · cases h1
structure Box6 where
  x : Int
  y : Int
  l : Int
  h : Int
  i : Int
  o : Int
  deriving Inhabited
def Box6.row (b : Box6) : List AV := [.int .i64 b.x, .int .i64 b.y, .int .i64 b.l, .int .i64 b.h, .int .i64 b.i, .int .i64 b.o]
def Box6.ok (b : Box6) : Prop := (0 ≤ b.x ∧ b.x ≤ 15) ∧ (0 ≤ b.y ∧ b.y ≤ 15) ∧ 0 ≤ b.l ∧ b.l ≤ b.h ∧ b.h ≤ 6 ∧ 0 ≤ b.i ∧ b.i ≤ b.o ∧ b.o ≤ 10000
instance (b : Box6) : Decidable b.ok := by unfold Box6.ok; infer_instance
structure Stp7 where
  x : Int
  y : Int
  l : Int
  h : Int
  f : Int
  b : Int
  hold : Bool
  deriving Inhabited
def Stp7.row (s : Stp7) : List AV := [.int .i64 s.x, .int .i64 s.y, .int .i64 s.l, .int .i64 s.h, .int .i64 s.f, .int .i64 s.b, .bool s.hold]
def Stp7.ok (s : Stp7) : Prop := (0 ≤ s.x ∧ s.x ≤ 15) ∧ (0 ≤ s.y ∧ s.y ≤ 15) ∧ 0 ≤ s.l ∧ s.l ≤ s.h ∧ s.h ≤ 6 ∧ 0 ≤ s.f ∧ s.f ≤ s.b ∧ s.b ≤ 10000
instance (s : Stp7) : Decidable s.ok := by unfold Stp7.ok; infer_instance
def Stp7.nb (a s : Stp7) : Prop := (-1 ≤ a.x - s.x ∧ a.x - s.x ≤ 1) ∧ (-1 ≤ a.y - s.y ∧ a.y - s.y ≤ 1) ∧ ¬ (a.x = s.x ∧ a.y = s.y) ∧ a.l ≤ s.h ∧ s.l ≤ a.h
instance (a s : Stp7) : Decidable (a.nb s) := by unfold Stp7.nb; infer_instance
theorem c_handBox (x y l h i o : Int) (hp : True) : Contract P 91 [.agg [.int .i64 x, .int .i64 y, .int .i64 l, .int .i64 h, .int .i64 i, .int .i64 o]] [] (.bool (decide (Box6.ok ⟨x, y, l, h, i, o⟩))) [] := by
  refine fn_sound ((Env.nil P).add 82 t_within h_within) hm k_impl_handBox (Nat.le_of_ble_eq_true rfl) rfl ?_
  unfold s_impl_handBox
  simp only [w_skip, w_rg, w_rgd, w_seq, w_cond, w_block, w_loop, w_exit, w_ret, w_gh, w_rg0, w_rg1, w_rgT, w_rgF, w_run, w_psd, w_und, w_dr0, w_dr1, w_drT, w_drF, w_drRun, w_drPsd, w_drUnd, w_drKn, w_drKs, w_putK, w_trimK, w_thenN, w_thenE, w_thenR, w_scope, w_label, w_blkN, w_blkE, w_blkR, w_call, w_effK, brU_true, brU_false, brU_u, brU_not, brU_and, brU_or, brU_dec, brU_eq, brU_ne, br_true, br_false, br_not, br_and, br_or, br_dec, br_eq, br_ne, w_getE0, w_getE1, w_setE0, w_setE1, w_dropE0, w_dropE1, w_drop0, w_drop1, w_getM0, w_getM1, w_setM0, w_setM1, ev_v, ev_c, w_putS, w_putN, w_lit, w_apU0, w_apU1, w_apU2, w_trim, enumE0, enumE1, w_callWp, w_callA0, w_callA1, w_R0, w_R1, w_R2, w_T2, w_callL, w_callT, w_T1, w_T0, o_mv, o_newnil, o_pick, o_bin, o_binN, o_neg, o_not, o_eqB, o_eqS, o_conv, o_alloc, o_box, o_load1, o_loadN, o_store, o_nilck, o_faddr, o_field1, o_fieldN, o_iaddr, o_istr, o_slStr, o_slSl, o_lenS, o_lenL, o_mx, o_mn, o_ext, o_build, o_lit, o_litOwn, o_app, o_mk, o_mvfrz, l_int, l_bool, l_str, l_agg, l_sl, l_own, l_ptr, l_pp, i_int, i_bool, i_str, i_sl, i_own, i_ptr, i_pp, all0, all1, e_ok1, eff, effBin, effBinN, ld_ptr, ld_pp, ld_elt, ia_own, ia_arr, el_1, el_N, load1K, faddrE, r_iaddr, sg_S, sg_c, sg_n, purL, pur, List.map, List.drop, List.take, List.length, List.foldl, List.append_eq, List.nil_append, List.cons_append, List.getD_cons_zero, List.getD_cons_succ, reduceIte, Nat.reduceEqDiff, Nat.reduceAdd, Nat.reduceLeDiff, true_and, and_true, Bool.not_true, Bool.not_false, Bool.and_true, Bool.true_and, Bool.and_self, reduceCtorEq, true_implies, false_implies, implies_true, decide_eq_true_eq, Option.map_some, fpOf, fpX, SOp.xs, oX, refs, refsL, dom, disj, List.all_nil, List.all_cons, List.contains_cons, List.contains_nil, Nat.reduceBEq, Bool.or_false, Bool.false_or, List.append_nil, Bool.not_false, Bool.not_true, List.forall_mem_cons, fm0, List.set, Nat.reduceLT, ne_eq, not_false_eq_true, not_true_eq_false
, ret1, ret1N, keep0, keep1, rf_int, rf_bool, rf_str, rf_sl, rf_agg, rf_tup, rfL0, rfL1, re_t, re_cN, re_L0, re_L1, ret_tup, ret_one, decide_true, AV.bool.injEq, AV.int.injEq, Nat.reduceLeDiff, Bool.true_eq, Bool.false_eq, decide_eq_true_eq, decide_eq_false_iff_not, t_within]
  simp only [Box6.ok]
  repeat' (first | apply And.intro | intro _)
  all_goals (first | trivial | omega | (simp_all; done) | (simp_all; omega))
def t_handBox : List AV → Option (Prop × AV)
  | [.agg [.int .i64 x, .int .i64 y, .int .i64 l, .int .i64 h, .int .i64 i, .int .i64 o]] => some (True, .bool (decide (Box6.ok ⟨x, y, l, h, i, o⟩)))
  | _ => none
theorem h_handBox : ∀ args p v, t_handBox args = some (p, v) → p → Contract P 91 args [] v [] ∧ noref v = true ∧ No99 v := by
  intro args p v h1 h2
  unfold t_handBox at h1
  split at h1
  · cases h1; exact ⟨c_handBox _ _ _ _ _ _ h2, rfl, trivial⟩
  · cases h1
theorem c_l31BoxOk (x y l h i o : Int) (hp : True) : Contract P 76 [.agg [.int .i64 x, .int .i64 y, .int .i64 l, .int .i64 h, .int .i64 i, .int .i64 o]] [] (.bool (decide (Box6.ok ⟨x, y, l, h, i, o⟩))) [] := by
  refine fn_sound ((Env.nil P).add 51 t_l31In h_l31In) hm k_spec_l31BoxOk (Nat.le_of_ble_eq_true rfl) rfl ?_
  unfold s_spec_l31BoxOk
  simp only [w_skip, w_rg, w_rgd, w_seq, w_cond, w_block, w_loop, w_exit, w_ret, w_gh, w_rg0, w_rg1, w_rgT, w_rgF, w_run, w_psd, w_und, w_dr0, w_dr1, w_drT, w_drF, w_drRun, w_drPsd, w_drUnd, w_drKn, w_drKs, w_putK, w_trimK, w_thenN, w_thenE, w_thenR, w_scope, w_label, w_blkN, w_blkE, w_blkR, w_call, w_effK, brU_true, brU_false, brU_u, brU_not, brU_and, brU_or, brU_dec, brU_eq, brU_ne, br_true, br_false, br_not, br_and, br_or, br_dec, br_eq, br_ne, w_getE0, w_getE1, w_setE0, w_setE1, w_dropE0, w_dropE1, w_drop0, w_drop1, w_getM0, w_getM1, w_setM0, w_setM1, ev_v, ev_c, w_putS, w_putN, w_lit, w_apU0, w_apU1, w_apU2, w_trim, enumE0, enumE1, w_callWp, w_callA0, w_callA1, w_R0, w_R1, w_R2, w_T2, w_callL, w_callT, w_T1, w_T0, o_mv, o_newnil, o_pick, o_bin, o_binN, o_neg, o_not, o_eqB, o_eqS, o_conv, o_alloc, o_box, o_load1, o_loadN, o_store, o_nilck, o_faddr, o_field1, o_fieldN, o_iaddr, o_istr, o_slStr, o_slSl, o_lenS, o_lenL, o_mx, o_mn, o_ext, o_build, o_lit, o_litOwn, o_app, o_mk, o_mvfrz, l_int, l_bool, l_str, l_agg, l_sl, l_own, l_ptr, l_pp, i_int, i_bool, i_str, i_sl, i_own, i_ptr, i_pp, all0, all1, e_ok1, eff, effBin, effBinN, ld_ptr, ld_pp, ld_elt, ia_own, ia_arr, el_1, el_N, load1K, faddrE, r_iaddr, sg_S, sg_c, sg_n, purL, pur, List.map, List.drop, List.take, List.length, List.foldl, List.append_eq, List.nil_append, List.cons_append, List.getD_cons_zero, List.getD_cons_succ, reduceIte, Nat.reduceEqDiff, Nat.reduceAdd, Nat.reduceLeDiff, true_and, and_true, Bool.not_true, Bool.not_false, Bool.and_true, Bool.true_and, Bool.and_self, reduceCtorEq, true_implies, false_implies, implies_true, decide_eq_true_eq, Option.map_some, fpOf, fpX, SOp.xs, oX, refs, refsL, dom, disj, List.all_nil, List.all_cons, List.contains_cons, List.contains_nil, Nat.reduceBEq, Bool.or_false, Bool.false_or, List.append_nil, Bool.not_false, Bool.not_true, List.forall_mem_cons, fm0, List.set, Nat.reduceLT, ne_eq, not_false_eq_true, not_true_eq_false
, ret1, ret1N, keep0, keep1, rf_int, rf_bool, rf_str, rf_sl, rf_agg, rf_tup, rfL0, rfL1, re_t, re_cN, re_L0, re_L1, ret_tup, ret_one, decide_true, AV.bool.injEq, AV.int.injEq, Nat.reduceLeDiff, Bool.true_eq, Bool.false_eq, decide_eq_true_eq, decide_eq_false_iff_not, t_l31In]
  simp only [Box6.ok]
  repeat' (first | apply And.intro | intro _)
  all_goals (first | trivial | omega | (simp_all; done) | (simp_all; omega))
def t_l31BoxOk : List AV → Option (Prop × AV)
  | [.agg [.int .i64 x, .int .i64 y, .int .i64 l, .int .i64 h, .int .i64 i, .int .i64 o]] => some (True, .bool (decide (Box6.ok ⟨x, y, l, h, i, o⟩)))
  | _ => none
theorem h_l31BoxOk : ∀ args p v, t_l31BoxOk args = some (p, v) → p → Contract P 76 args [] v [] ∧ noref v = true ∧ No99 v := by
  intro args p v h1 h2
  unfold t_l31BoxOk at h1
  split at h1
  · cases h1; exact ⟨c_l31BoxOk _ _ _ _ _ _ h2, rfl, trivial⟩
  · cases h1
theorem c_l22StepOk (x y l h f b : Int) (hd : Bool) (hp : True) : Contract P 99 [.agg [.int .i64 x, .int .i64 y, .int .i64 l, .int .i64 h, .int .i64 f, .int .i64 b, .bool hd]] [] (.bool (decide (Stp7.ok ⟨x, y, l, h, f, b, hd⟩))) [] := by
  refine fn_sound ((Env.nil P).add 71 t_l21In h_l21In) hm k_spec_l22StepOk (Nat.le_of_ble_eq_true rfl) rfl ?_
  unfold s_spec_l22StepOk
  simp only [w_skip, w_rg, w_rgd, w_seq, w_cond, w_block, w_loop, w_exit, w_ret, w_gh, w_rg0, w_rg1, w_rgT, w_rgF, w_run, w_psd, w_und, w_dr0, w_dr1, w_drT, w_drF, w_drRun, w_drPsd, w_drUnd, w_drKn, w_drKs, w_putK, w_trimK, w_thenN, w_thenE, w_thenR, w_scope, w_label, w_blkN, w_blkE, w_blkR, w_call, w_effK, brU_true, brU_false, brU_u, brU_not, brU_and, brU_or, brU_dec, brU_eq, brU_ne, br_true, br_false, br_not, br_and, br_or, br_dec, br_eq, br_ne, w_getE0, w_getE1, w_setE0, w_setE1, w_dropE0, w_dropE1, w_drop0, w_drop1, w_getM0, w_getM1, w_setM0, w_setM1, ev_v, ev_c, w_putS, w_putN, w_lit, w_apU0, w_apU1, w_apU2, w_trim, enumE0, enumE1, w_callWp, w_callA0, w_callA1, w_R0, w_R1, w_R2, w_T2, w_callL, w_callT, w_T1, w_T0, o_mv, o_newnil, o_pick, o_bin, o_binN, o_neg, o_not, o_eqB, o_eqS, o_conv, o_alloc, o_box, o_load1, o_loadN, o_store, o_nilck, o_faddr, o_field1, o_fieldN, o_iaddr, o_istr, o_slStr, o_slSl, o_lenS, o_lenL, o_mx, o_mn, o_ext, o_build, o_lit, o_litOwn, o_app, o_mk, o_mvfrz, l_int, l_bool, l_str, l_agg, l_sl, l_own, l_ptr, l_pp, i_int, i_bool, i_str, i_sl, i_own, i_ptr, i_pp, all0, all1, e_ok1, eff, effBin, effBinN, ld_ptr, ld_pp, ld_elt, ia_own, ia_arr, el_1, el_N, load1K, faddrE, r_iaddr, sg_S, sg_c, sg_n, purL, pur, List.map, List.drop, List.take, List.length, List.foldl, List.append_eq, List.nil_append, List.cons_append, List.getD_cons_zero, List.getD_cons_succ, reduceIte, Nat.reduceEqDiff, Nat.reduceAdd, Nat.reduceLeDiff, true_and, and_true, Bool.not_true, Bool.not_false, Bool.and_true, Bool.true_and, Bool.and_self, reduceCtorEq, true_implies, false_implies, implies_true, decide_eq_true_eq, Option.map_some, fpOf, fpX, SOp.xs, oX, refs, refsL, dom, disj, List.all_nil, List.all_cons, List.contains_cons, List.contains_nil, Nat.reduceBEq, Bool.or_false, Bool.false_or, List.append_nil, Bool.not_false, Bool.not_true, List.forall_mem_cons, fm0, List.set, Nat.reduceLT, ne_eq, not_false_eq_true, not_true_eq_false
, ret1, ret1N, keep0, keep1, rf_int, rf_bool, rf_str, rf_sl, rf_agg, rf_tup, rfL0, rfL1, re_t, re_cN, re_L0, re_L1, ret_tup, ret_one, decide_true, AV.bool.injEq, AV.int.injEq, Nat.reduceLeDiff, Bool.true_eq, Bool.false_eq, decide_eq_true_eq, decide_eq_false_iff_not, t_l21In]
  simp only [Stp7.ok]
  repeat' (first | apply And.intro | intro _)
  all_goals (first | trivial | omega | (simp_all; done) | (simp_all; omega))
def t_l22StepOk : List AV → Option (Prop × AV)
  | [.agg [.int .i64 x, .int .i64 y, .int .i64 l, .int .i64 h, .int .i64 f, .int .i64 b, .bool hd]] => some (True, .bool (decide (Stp7.ok ⟨x, y, l, h, f, b, hd⟩)))
  | _ => none
theorem h_l22StepOk : ∀ args p v, t_l22StepOk args = some (p, v) → p → Contract P 99 args [] v [] ∧ noref v = true ∧ No99 v := by
  intro args p v h1 h2
  unfold t_l22StepOk at h1
  split at h1
  · cases h1; exact ⟨c_l22StepOk _ _ _ _ _ _ _ h2, rfl, trivial⟩
  · cases h1
theorem c_l22Next (x y l h f b : Int) (hd : Bool) (x' y' l' h' f' b' : Int) (hd' : Bool) (hp : (0 ≤ x ∧ x ≤ 15) ∧ (0 ≤ y ∧ y ≤ 15) ∧ (0 ≤ x' ∧ x' ≤ 15) ∧ (0 ≤ y' ∧ y' ≤ 15)) : Contract P 100 [.agg [.int .i64 x, .int .i64 y, .int .i64 l, .int .i64 h, .int .i64 f, .int .i64 b, .bool hd], .agg [.int .i64 x', .int .i64 y', .int .i64 l', .int .i64 h', .int .i64 f', .int .i64 b', .bool hd']] [] (.bool (decide (Stp7.nb ⟨x, y, l, h, f, b, hd⟩ ⟨x', y', l', h', f', b', hd'⟩))) [] := by
  refine fn_sound ((Env.nil P).add 71 t_l21In h_l21In) hm k_spec_l22Next (Nat.le_of_ble_eq_true rfl) rfl ?_
  unfold s_spec_l22Next
  simp only [w_skip, w_rg, w_rgd, w_seq, w_cond, w_block, w_loop, w_exit, w_ret, w_gh, w_rg0, w_rg1, w_rgT, w_rgF, w_run, w_psd, w_und, w_dr0, w_dr1, w_drT, w_drF, w_drRun, w_drPsd, w_drUnd, w_drKn, w_drKs, w_putK, w_trimK, w_thenN, w_thenE, w_thenR, w_scope, w_label, w_blkN, w_blkE, w_blkR, w_call, w_effK, brU_true, brU_false, brU_u, brU_not, brU_and, brU_or, brU_dec, brU_eq, brU_ne, br_true, br_false, br_not, br_and, br_or, br_dec, br_eq, br_ne, w_getE0, w_getE1, w_setE0, w_setE1, w_dropE0, w_dropE1, w_drop0, w_drop1, w_getM0, w_getM1, w_setM0, w_setM1, ev_v, ev_c, w_putS, w_putN, w_lit, w_apU0, w_apU1, w_apU2, w_trim, enumE0, enumE1, w_callWp, w_callA0, w_callA1, w_R0, w_R1, w_R2, w_T2, w_callL, w_callT, w_T1, w_T0, o_mv, o_newnil, o_pick, o_bin, o_binN, o_neg, o_not, o_eqB, o_eqS, o_conv, o_alloc, o_box, o_load1, o_loadN, o_store, o_nilck, o_faddr, o_field1, o_fieldN, o_iaddr, o_istr, o_slStr, o_slSl, o_lenS, o_lenL, o_mx, o_mn, o_ext, o_build, o_lit, o_litOwn, o_app, o_mk, o_mvfrz, l_int, l_bool, l_str, l_agg, l_sl, l_own, l_ptr, l_pp, i_int, i_bool, i_str, i_sl, i_own, i_ptr, i_pp, all0, all1, e_ok1, eff, effBin, effBinN, ld_ptr, ld_pp, ld_elt, ia_own, ia_arr, el_1, el_N, load1K, faddrE, r_iaddr, sg_S, sg_c, sg_n, purL, pur, List.map, List.drop, List.take, List.length, List.foldl, List.append_eq, List.nil_append, List.cons_append, List.getD_cons_zero, List.getD_cons_succ, reduceIte, Nat.reduceEqDiff, Nat.reduceAdd, Nat.reduceLeDiff, true_and, and_true, Bool.not_true, Bool.not_false, Bool.and_true, Bool.true_and, Bool.and_self, reduceCtorEq, true_implies, false_implies, implies_true, decide_eq_true_eq, Option.map_some, fpOf, fpX, SOp.xs, oX, refs, refsL, dom, disj, List.all_nil, List.all_cons, List.contains_cons, List.contains_nil, Nat.reduceBEq, Bool.or_false, Bool.false_or, List.append_nil, Bool.not_false, Bool.not_true, List.forall_mem_cons, fm0, List.set, Nat.reduceLT, ne_eq, not_false_eq_true, not_true_eq_false
, ret1, ret1N, keep0, keep1, rf_int, rf_bool, rf_str, rf_sl, rf_agg, rf_tup, rfL0, rfL1, re_t, re_cN, re_L0, re_L1, ret_tup, ret_one, decide_true, AV.bool.injEq, AV.int.injEq, Nat.reduceLeDiff, Bool.true_eq, Bool.false_eq, decide_eq_true_eq, decide_eq_false_iff_not, t_l21In]
  simp only [Stp7.nb]
  repeat' (first | apply And.intro | intro _)
  all_goals (first | trivial | omega | (simp_all; done) | (simp_all; omega))
def t_l22Next : List AV → Option (Prop × AV)
  | [.agg [.int .i64 x, .int .i64 y, .int .i64 l, .int .i64 h, .int .i64 f, .int .i64 b, .bool hd], .agg [.int .i64 x', .int .i64 y', .int .i64 l', .int .i64 h', .int .i64 f', .int .i64 b', .bool hd']] => some ((0 ≤ x ∧ x ≤ 15) ∧ (0 ≤ y ∧ y ≤ 15) ∧ (0 ≤ x' ∧ x' ≤ 15) ∧ (0 ≤ y' ∧ y' ≤ 15), .bool (decide (Stp7.nb ⟨x, y, l, h, f, b, hd⟩ ⟨x', y', l', h', f', b', hd'⟩)))
  | _ => none
theorem h_l22Next : ∀ args p v, t_l22Next args = some (p, v) → p → Contract P 100 args [] v [] ∧ noref v = true ∧ No99 v := by
  intro args p v h1 h2
  unfold t_l22Next at h1
  split at h1
  · cases h1; exact ⟨c_l22Next _ _ _ _ _ _ _ _ _ _ _ _ _ _ h2, rfl, trivial⟩
  · cases h1
end Go.Ve

namespace Go.Ve
open Go.Proofs
set_option linter.unusedSimpArgs false
set_option linter.unusedVariables false
set_option maxRecDepth 100000
def unStp : List AV → Stp7
  | [.int _ x, .int _ y, .int _ l, .int _ h, .int _ f, .int _ b, .bool hd] => ⟨x, y, l, h, f, b, hd⟩
  | _ => default
theorem un_stp (l : List Stp7) : (l.map Stp7.row).map unStp = l := by
  rw [List.map_map]; exact List.map_id'' (fun s => rfl) l
theorem stp_eta (s : Stp7) : (⟨s.x, s.y, s.l, s.h, s.f, s.b, s.hold⟩ : Stp7) = s := (rfl)
theorem toNat_pred (i : Nat) : ((i : Int) - 1).toNat = i - 1 := by omega
def pathOk (q s : Int) (l : List Stp7) (f b : Int) : Prop :=
  (1 ≤ q ∧ q ≤ s ∧ s ≤ 50) ∧ (1 ≤ l.length ∧ l.length ≤ 40) ∧ (0 ≤ f ∧ f ≤ b ∧ b ≤ 10000) ∧ ∀ i, i < l.length → (l.getD i default).ok ∧ (0 < i → Stp7.nb (l.getD (i - 1) default) (l.getD i default))
instance (q s : Int) (l : List Stp7) (f b : Int) : Decidable (pathOk q s l f b) := by unfold pathOk; infer_instance
def F_sPathOk (q s : Int) (t : Nat) (l : List Stp7) (f b : Int) (i : Nat) : St := ⟨[(1, .ptr 101 0), (3, .int .i64 i)], [(101, .box [.int .i64 q, .int .i64 s, .sl t 7 (l.map Stp7.row), .int .i64 f, .int .i64 b])]⟩
def G_sPathOk (l : List Stp7) (i : Nat) : Prop := i ≤ l.length ∧ ∀ j, j < i → (l.getD j default).ok ∧ (0 < j → Stp7.nb (l.getD (j - 1) default) (l.getD j default))
theorem c_sPathOk (q s : Int) (t : Nat) (l : List Stp7) (f b : Int) : Contract P 78 [.agg [.int .i64 q, .int .i64 s, .sl t 7 (l.map Stp7.row), .int .i64 f, .int .i64 b]] [] (.bool (decide (pathOk q s l f b))) [] := by
  refine fn_sound (((((Env.nil P).add 71 t_l21In h_l21In).add 47 t_sKindOk h_sKindOk).add 99 t_l22StepOk h_l22StepOk).add 100 t_l22Next h_l22Next) hm k_spec_FlyPathOk (Nat.le_of_ble_eq_true rfl) rfl ?_
  unfold s_spec_FlyPathOk
  simp only [w_skip, w_rg, w_rgd, w_seq, w_cond, w_block, w_loop, w_exit, w_ret, w_gh, w_rg0, w_rg1, w_rgT, w_rgF, w_run, w_psd, w_und, w_dr0, w_dr1, w_drT, w_drF, w_drRun, w_drPsd, w_drUnd, w_drKn, w_drKs, w_putK, w_trimK, w_thenN, w_thenE, w_thenR, w_scope, w_label, w_blkN, w_blkE, w_blkR, w_call, w_effK, brU_true, brU_false, brU_u, brU_not, brU_and, brU_or, brU_dec, brU_eq, brU_ne, br_true, br_false, br_not, br_and, br_or, br_dec, br_eq, br_ne, w_getE0, w_getE1, w_setE0, w_setE1, w_dropE0, w_dropE1, w_drop0, w_drop1, w_getM0, w_getM1, w_setM0, w_setM1, ev_v, ev_c, w_putS, w_putN, w_lit, w_apU0, w_apU1, w_apU2, w_trim, enumE0, enumE1, w_callWp, w_callA0, w_callA1, w_R0, w_R1, w_R2, w_T2, w_callL, w_callT, w_T1, w_T0, o_mv, o_newnil, o_pick, o_bin, o_binN, o_neg, o_not, o_eqB, o_eqS, o_conv, o_alloc, o_box, o_load1, o_loadN, o_store, o_nilck, o_faddr, o_field1, o_fieldN, o_iaddr, o_istr, o_slStr, o_slSl, o_lenS, o_lenL, o_mx, o_mn, o_ext, o_build, o_lit, o_litOwn, o_app, o_mk, o_mvfrz, l_int, l_bool, l_str, l_agg, l_sl, l_own, l_ptr, l_pp, i_int, i_bool, i_str, i_sl, i_own, i_ptr, i_pp, all0, all1, e_ok1, eff, effBin, effBinN, ld_ptr, ld_pp, ld_elt, ia_own, ia_arr, el_1, el_N, load1K, faddrE, r_iaddr, sg_S, sg_c, sg_n, purL, pur, List.map, List.drop, List.take, List.length, List.foldl, List.append_eq, List.nil_append, List.cons_append, List.getD_cons_zero, List.getD_cons_succ, reduceIte, Nat.reduceEqDiff, Nat.reduceAdd, Nat.reduceLeDiff, true_and, and_true, Bool.not_true, Bool.not_false, Bool.and_true, Bool.true_and, Bool.and_self, reduceCtorEq, true_implies, false_implies, implies_true, decide_eq_true_eq, Option.map_some, fpOf, fpX, SOp.xs, oX, refs, refsL, dom, disj, List.all_nil, List.all_cons, List.contains_cons, List.contains_nil, Nat.reduceBEq, Bool.or_false, Bool.false_or, List.append_nil, Bool.not_false, Bool.not_true, List.forall_mem_cons, fm0, List.set, Nat.reduceLT, ne_eq, not_false_eq_true, not_true_eq_false
, ret1, ret1N, keep0, keep1, rf_int, rf_bool, rf_str, rf_sl, rf_agg, rf_tup, rfL0, rfL1, re_t, re_cN, re_L0, re_L1, ret_tup, ret_one, decide_true, AV.bool.injEq, AV.int.injEq, Nat.reduceLeDiff, Bool.true_eq, Bool.false_eq, decide_eq_true_eq, decide_eq_false_iff_not, t_l21In, t_sKindOk, t_l22StepOk, t_l22Next, List.length_map, Stp7.row, stp_eta, Int.toNat_natCast, toNat_pred]
  refine ⟨fun h1 => ⟨fun h2 => ⟨fun h3 => ⟨fun h4 => ?_, fun h4 => ?_⟩, fun h3 => ?_⟩, fun h2 => ?_⟩, fun h1 => ?_⟩
  · intro h; have := h.2.2.1; omega
  · refine loop_of (F_sPathOk q s t l f b) (G_sPathOk l) (fun i => l.length - i) 0 ⟨⟨.inr rfl, .inr rfl, trivial⟩, ⟨rfl, trivial⟩, rfl, rfl⟩ ⟨Nat.zero_le _, fun j hj => by omega⟩ ?_
    intro i hg
    unfold l_spec_FlyPathOk_0 F_sPathOk
    simp only [w_skip, w_rg, w_rgd, w_seq, w_cond, w_block, w_loop, w_exit, w_ret, w_gh, w_rg0, w_rg1, w_rgT, w_rgF, w_run, w_psd, w_und, w_dr0, w_dr1, w_drT, w_drF, w_drRun, w_drPsd, w_drUnd, w_drKn, w_drKs, w_putK, w_trimK, w_thenN, w_thenE, w_thenR, w_scope, w_label, w_blkN, w_blkE, w_blkR, w_call, w_effK, brU_true, brU_false, brU_u, brU_not, brU_and, brU_or, brU_dec, brU_eq, brU_ne, br_true, br_false, br_not, br_and, br_or, br_dec, br_eq, br_ne, w_getE0, w_getE1, w_setE0, w_setE1, w_dropE0, w_dropE1, w_drop0, w_drop1, w_getM0, w_getM1, w_setM0, w_setM1, ev_v, ev_c, w_putS, w_putN, w_lit, w_apU0, w_apU1, w_apU2, w_trim, enumE0, enumE1, w_callWp, w_callA0, w_callA1, w_R0, w_R1, w_R2, w_T2, w_callL, w_callT, w_T1, w_T0, o_mv, o_newnil, o_pick, o_bin, o_binN, o_neg, o_not, o_eqB, o_eqS, o_conv, o_alloc, o_box, o_load1, o_loadN, o_store, o_nilck, o_faddr, o_field1, o_fieldN, o_iaddr, o_istr, o_slStr, o_slSl, o_lenS, o_lenL, o_mx, o_mn, o_ext, o_build, o_lit, o_litOwn, o_app, o_mk, o_mvfrz, l_int, l_bool, l_str, l_agg, l_sl, l_own, l_ptr, l_pp, i_int, i_bool, i_str, i_sl, i_own, i_ptr, i_pp, all0, all1, e_ok1, eff, effBin, effBinN, ld_ptr, ld_pp, ld_elt, ia_own, ia_arr, el_1, el_N, load1K, faddrE, r_iaddr, sg_S, sg_c, sg_n, purL, pur, List.map, List.drop, List.take, List.length, List.foldl, List.append_eq, List.nil_append, List.cons_append, List.getD_cons_zero, List.getD_cons_succ, reduceIte, Nat.reduceEqDiff, Nat.reduceAdd, Nat.reduceLeDiff, true_and, and_true, Bool.not_true, Bool.not_false, Bool.and_true, Bool.true_and, Bool.and_self, reduceCtorEq, true_implies, false_implies, implies_true, decide_eq_true_eq, Option.map_some, fpOf, fpX, SOp.xs, oX, refs, refsL, dom, disj, List.all_nil, List.all_cons, List.contains_cons, List.contains_nil, Nat.reduceBEq, Bool.or_false, Bool.false_or, List.append_nil, Bool.not_false, Bool.not_true, List.forall_mem_cons, fm0, List.set, Nat.reduceLT, ne_eq, not_false_eq_true, not_true_eq_false
, ret1, ret1N, keep0, keep1, rf_int, rf_bool, rf_str, rf_sl, rf_agg, rf_tup, rfL0, rfL1, re_t, re_cN, re_L0, re_L1, ret_tup, ret_one, decide_true, AV.bool.injEq, AV.int.injEq, Nat.reduceLeDiff, Bool.true_eq, Bool.false_eq, decide_eq_true_eq, decide_eq_false_iff_not, t_l21In, t_sKindOk, t_l22StepOk, t_l22Next, List.length_map, Stp7.row, stp_eta, Int.toNat_natCast, toNat_pred]
    have hok : ∀ {j}, j < i → (l.getD j default).ok := fun h => (hg.2 _ h).1
    have go : ∀ (_ : i < l.length) (_ : (l.getD i default).ok) (_ : 0 < i → Stp7.nb (l.getD (i - 1) default) (l.getD i default)), loopK (fun m st => ∃ a, st = F_sPathOk q s t l f b a ∧ G_sPathOk l a ∧ l.length - a = m) (l.length - i) ⟨[(1, .ptr 101 0), (3, .int .i64 ((i : Int) + 1))], [(101, .box [.int .i64 q, .int .i64 s, .sl t 7 (l.map Stp7.row), .int .i64 f, .int .i64 b])]⟩ := by
      intro h1 h2 h3
      refine loopK_of (i + 1) ⟨⟨.inr rfl, .inr rfl, trivial⟩, ⟨rfl, trivial⟩, rfl, rfl⟩ ⟨h1, fun j hj => ?_⟩ (by omega)
      by_cases e : j = i
      · subst e; exact ⟨h2, h3⟩
      · exact hg.2 j (by omega)
    refine ⟨fun h5 => ⟨by omega, h5, fun h6 => ⟨fun h7 => ⟨by omega, by omega, by omega, by omega, h5, ⟨?_, fun h8 => ⟨by omega, go (by omega) h6 fun _ => h8⟩, fun h8 hp => h8 ((hp.2.2.2 i (by omega)).2 (by omega))⟩⟩, fun h7 => ⟨by omega, go (by omega) h6 fun h => absurd h (by omega)⟩⟩, fun h6 hp => h6 (hp.2.2.2 i (by omega)).1⟩, fun h5 => ?_⟩
    · have h9 := hok (j := i - 1) (by omega)
      exact ⟨h9.1, h9.2.1, h6.1, h6.2.1⟩
    · exact ⟨h1, by omega, by omega, fun j hj => hg.2 j (by have := hg.1; omega)⟩
  · intro h; have := h.2.2.1; omega
  · intro h; have := h.2.1; omega
  · intro h; have := h.1; omega
end Go.Ve

namespace Go.Ve
open Go.Proofs
set_option linter.unusedSimpArgs false
set_option linter.unusedVariables false
set_option maxRecDepth 100000
def F_iPathOk (q s : Int) (t : Nat) (l : List Stp7) (f b : Int) (i : Nat) : St := ⟨[(1, .ptr 101 0), (26, .sl t 7 (l.map Stp7.row)), (27, .int .i64 l.length), (28, .int .i64 i)], [(101, .box [.int .i64 q, .int .i64 s, .sl t 7 (l.map Stp7.row), .int .i64 f, .int .i64 b])]⟩
theorem c_iPathOk (q s : Int) (t : Nat) (l : List Stp7) (f b : Int) : Contract P 92 [.agg [.int .i64 q, .int .i64 s, .sl t 7 (l.map Stp7.row), .int .i64 f, .int .i64 b]] [] (.bool (decide (pathOk q s l f b))) [] := by
  refine fn_sound (((((Env.nil P).add 82 t_within h_within).add 84 t_iKindOk h_iKindOk).add 111 t_window h_window).add 112 t_dist h_dist) hm k_impl_FlyPathOk (Nat.le_of_ble_eq_true rfl) rfl ?_
  unfold s_impl_FlyPathOk
  simp only [w_skip, w_rg, w_rgd, w_seq, w_cond, w_block, w_loop, w_exit, w_ret, w_gh, w_rg0, w_rg1, w_rgT, w_rgF, w_run, w_psd, w_und, w_dr0, w_dr1, w_drT, w_drF, w_drRun, w_drPsd, w_drUnd, w_drKn, w_drKs, w_putK, w_trimK, w_thenN, w_thenE, w_thenR, w_scope, w_label, w_blkN, w_blkE, w_blkR, w_call, w_effK, brU_true, brU_false, brU_u, brU_not, brU_and, brU_or, brU_dec, brU_eq, brU_ne, br_true, br_false, br_not, br_and, br_or, br_dec, br_eq, br_ne, w_getE0, w_getE1, w_setE0, w_setE1, w_dropE0, w_dropE1, w_drop0, w_drop1, w_getM0, w_getM1, w_setM0, w_setM1, ev_v, ev_c, w_putS, w_putN, w_lit, w_apU0, w_apU1, w_apU2, w_trim, enumE0, enumE1, w_callWp, w_callA0, w_callA1, w_R0, w_R1, w_R2, w_T2, w_callL, w_callT, w_T1, w_T0, o_mv, o_newnil, o_pick, o_bin, o_binN, o_neg, o_not, o_eqB, o_eqS, o_conv, o_alloc, o_box, o_load1, o_loadN, o_store, o_nilck, o_faddr, o_field1, o_fieldN, o_iaddr, o_istr, o_slStr, o_slSl, o_lenS, o_lenL, o_mx, o_mn, o_ext, o_build, o_lit, o_litOwn, o_app, o_mk, o_mvfrz, l_int, l_bool, l_str, l_agg, l_sl, l_own, l_ptr, l_pp, i_int, i_bool, i_str, i_sl, i_own, i_ptr, i_pp, all0, all1, e_ok1, eff, effBin, effBinN, ld_ptr, ld_pp, ld_elt, ia_own, ia_arr, el_1, el_N, load1K, faddrE, r_iaddr, sg_S, sg_c, sg_n, purL, pur, List.map, List.drop, List.take, List.length, List.foldl, List.append_eq, List.nil_append, List.cons_append, List.getD_cons_zero, List.getD_cons_succ, reduceIte, Nat.reduceEqDiff, Nat.reduceAdd, Nat.reduceLeDiff, true_and, and_true, Bool.not_true, Bool.not_false, Bool.and_true, Bool.true_and, Bool.and_self, reduceCtorEq, true_implies, false_implies, implies_true, decide_eq_true_eq, Option.map_some, fpOf, fpX, SOp.xs, oX, refs, refsL, dom, disj, List.all_nil, List.all_cons, List.contains_cons, List.contains_nil, Nat.reduceBEq, Bool.or_false, Bool.false_or, List.append_nil, Bool.not_false, Bool.not_true, List.forall_mem_cons, fm0, List.set, Nat.reduceLT, ne_eq, not_false_eq_true, not_true_eq_false
, ret1, ret1N, keep0, keep1, rf_int, rf_bool, rf_str, rf_sl, rf_agg, rf_tup, rfL0, rfL1, re_t, re_cN, re_L0, re_L1, ret_tup, ret_one, decide_true, AV.bool.injEq, AV.int.injEq, Nat.reduceLeDiff, Bool.true_eq, Bool.false_eq, decide_eq_true_eq, decide_eq_false_iff_not, t_within, t_iKindOk, t_window, t_dist, List.length_map, Stp7.row, stp_eta, Int.toNat_natCast, toNat_pred]
  refine ⟨fun h1 => ⟨fun h2 => ⟨fun h3 => ?_, fun h3 => ?_⟩, fun h2 => ?_⟩, fun h1 => ?_⟩
  · refine loop_of (F_iPathOk q s t l f b) (G_sPathOk l) (fun i => l.length - i) 0 ⟨⟨.inr rfl, .inr rfl, .inr rfl, .inr rfl, trivial⟩, ⟨rfl, trivial⟩, rfl, rfl⟩ ⟨Nat.zero_le _, fun j hj => by omega⟩ ?_
    intro i hg
    unfold l_impl_FlyPathOk_0 F_iPathOk
    simp only [w_skip, w_rg, w_rgd, w_seq, w_cond, w_block, w_loop, w_exit, w_ret, w_gh, w_rg0, w_rg1, w_rgT, w_rgF, w_run, w_psd, w_und, w_dr0, w_dr1, w_drT, w_drF, w_drRun, w_drPsd, w_drUnd, w_drKn, w_drKs, w_putK, w_trimK, w_thenN, w_thenE, w_thenR, w_scope, w_label, w_blkN, w_blkE, w_blkR, w_call, w_effK, brU_true, brU_false, brU_u, brU_not, brU_and, brU_or, brU_dec, brU_eq, brU_ne, br_true, br_false, br_not, br_and, br_or, br_dec, br_eq, br_ne, w_getE0, w_getE1, w_setE0, w_setE1, w_dropE0, w_dropE1, w_drop0, w_drop1, w_getM0, w_getM1, w_setM0, w_setM1, ev_v, ev_c, w_putS, w_putN, w_lit, w_apU0, w_apU1, w_apU2, w_trim, enumE0, enumE1, w_callWp, w_callA0, w_callA1, w_R0, w_R1, w_R2, w_T2, w_callL, w_callT, w_T1, w_T0, o_mv, o_newnil, o_pick, o_bin, o_binN, o_neg, o_not, o_eqB, o_eqS, o_conv, o_alloc, o_box, o_load1, o_loadN, o_store, o_nilck, o_faddr, o_field1, o_fieldN, o_iaddr, o_istr, o_slStr, o_slSl, o_lenS, o_lenL, o_mx, o_mn, o_ext, o_build, o_lit, o_litOwn, o_app, o_mk, o_mvfrz, l_int, l_bool, l_str, l_agg, l_sl, l_own, l_ptr, l_pp, i_int, i_bool, i_str, i_sl, i_own, i_ptr, i_pp, all0, all1, e_ok1, eff, effBin, effBinN, ld_ptr, ld_pp, ld_elt, ia_own, ia_arr, el_1, el_N, load1K, faddrE, r_iaddr, sg_S, sg_c, sg_n, purL, pur, List.map, List.drop, List.take, List.length, List.foldl, List.append_eq, List.nil_append, List.cons_append, List.getD_cons_zero, List.getD_cons_succ, reduceIte, Nat.reduceEqDiff, Nat.reduceAdd, Nat.reduceLeDiff, true_and, and_true, Bool.not_true, Bool.not_false, Bool.and_true, Bool.true_and, Bool.and_self, reduceCtorEq, true_implies, false_implies, implies_true, decide_eq_true_eq, Option.map_some, fpOf, fpX, SOp.xs, oX, refs, refsL, dom, disj, List.all_nil, List.all_cons, List.contains_cons, List.contains_nil, Nat.reduceBEq, Bool.or_false, Bool.false_or, List.append_nil, Bool.not_false, Bool.not_true, List.forall_mem_cons, fm0, List.set, Nat.reduceLT, ne_eq, not_false_eq_true, not_true_eq_false
, ret1, ret1N, keep0, keep1, rf_int, rf_bool, rf_str, rf_sl, rf_agg, rf_tup, rfL0, rfL1, re_t, re_cN, re_L0, re_L1, ret_tup, ret_one, decide_true, AV.bool.injEq, AV.int.injEq, Nat.reduceLeDiff, Bool.true_eq, Bool.false_eq, decide_eq_true_eq, decide_eq_false_iff_not, t_within, t_iKindOk, t_window, t_dist, List.length_map, Stp7.row, stp_eta, Int.toNat_natCast, toNat_pred]
    have A : pathOk q s l f b → i < l.length → (l.getD i default).ok ∧ (0 < i → Stp7.nb (l.getD (i - 1) default) (l.getD i default)) := fun hp h => hp.2.2.2 i h
    have B : 0 < i → (l.getD (i - 1) default).ok := fun h => (hg.2 (i - 1) (by omega)).1
    have N : i < l.length → (l.getD i default).ok → (0 < i → Stp7.nb (l.getD (i - 1) default) (l.getD i default)) → G_sPathOk l (i + 1) := fun h2 h3 h4 => ⟨h2, fun j hj => by
      by_cases e : j = i
      · subst e; exact ⟨h3, h4⟩
      · exact hg.2 j (by omega)⟩
    have Z : ¬ (i : Int) < l.length → pathOk q s l f b := fun h => ⟨h1, by omega, h3, fun j hj => hg.2 j (by have := hg.1; omega)⟩
    generalize hP : pathOk q s l f b = PP at *
    have hlen := hg.1
    simp only [Stp7.ok, Stp7.nb] at A B N
    repeat' (first | apply And.intro | intro _)
    all_goals first
      | omega
      | (exact Z (by assumption))
      | (refine loopK_of (i + 1) ⟨⟨.inr rfl, .inr rfl, .inr rfl, .inr rfl, trivial⟩, ⟨rfl, trivial⟩, rfl, rfl⟩ (N (by omega) (by omega) (by omega)) (by omega))
      | (rename_i hp; have := A hp (by omega); omega)
  · intro h; have := h.2.2.1; omega
  · intro h; have := h.2.1; omega
  · intro h; have := h.1; omega
end Go.Ve

namespace Go.Ve
open Go.Proofs
set_option linter.unusedSimpArgs false
set_option linter.unusedVariables false
set_option maxRecDepth 100000
structure Path5 where
  q : Int
  s : Int
  l : List Stp7
  f : Int
  b : Int
  deriving Inhabited
def Path5.av (p : Path5) : AV := .agg [.int .i64 p.q, .int .i64 p.s, .sl 0 7 (p.l.map Stp7.row), .int .i64 p.f, .int .i64 p.b]
def lapStep (l : List Box6) (i : Nat) : Stp7 := ⟨(l.getD i default).x, (l.getD i default).y, (l.getD i default).l, (l.getD i default).h, (l.getD i default).i, if 0 < i then min (l.getD i default).o ((l.getD (i - 1) default).o + 1) else (l.getD i default).o, false⟩
def lapF (l : List Box6) (i : Nat) : Int := if 0 < i then (l.getD (i - 1) default).i else 0
def lapB (l : List Box6) (i : Nat) : Int := if 0 < i then (l.getD (i - 1) default).o + 1 else 0
def lapTo (q s : Int) (l : List Box6) (i : Nat) : Path5 := ⟨q, s, (List.range i).map (lapStep l), lapF l i, lapB l i⟩
def lapOk (q s : Int) (l : List Box6) : Prop := (∀ i, i < l.length → (l.getD i default).ok) ∧ pathOk q s (lapTo q s l l.length).l (lapF l l.length) (lapB l l.length)
instance (q s : Int) (l : List Box6) : Decidable (lapOk q s l) := by unfold lapOk; infer_instance
def lapPath (q s : Int) (l : List Box6) : Path5 := if lapOk q s l then lapTo q s l l.length else ⟨0, 0, [], 0, 0⟩
theorem min_if (a b : Int) : (if b < a then b else a) = min a b := by omega
theorem box_eta (s : Box6) : (⟨s.x, s.y, s.l, s.h, s.i, s.o⟩ : Box6) = s := (rfl)
def t_sPathOk : List AV → Option (Prop × AV)
  | [.agg [.int .i64 q, .int .i64 s, .sl _ 7 xs, .int .i64 f, .int .i64 b]] => some ((xs.map unStp).map Stp7.row = xs, .bool (decide (pathOk q s (xs.map unStp) f b)))
  | _ => none
theorem h_sPathOk : ∀ args p v, t_sPathOk args = some (p, v) → p → Contract P 78 args [] v [] ∧ noref v = true ∧ No99 v := by
  intro args p v h1 h2
  unfold t_sPathOk at h1
  split at h1
  · rename_i q s t xs f b
    cases h1
    have := c_sPathOk q s t (xs.map unStp) f b
    rw [h2] at this
    exact ⟨this, rfl, trivial⟩
  · cases h1
theorem h_iPathOk : ∀ args p v, t_sPathOk args = some (p, v) → p → Contract P 92 args [] v [] ∧ noref v = true ∧ No99 v := by
  intro args p v h1 h2
  unfold t_sPathOk at h1
  split at h1
  · rename_i q s t xs f b
    cases h1
    have := c_iPathOk q s t (xs.map unStp) f b
    rw [h2] at this
    exact ⟨this, rfl, trivial⟩
  · cases h1
abbrev t_iPathOk := t_sPathOk
def F_sLapPath (q s : Int) (t : Nat) (l : List Box6) (i : Nat) : St := ⟨[(1, .sl t 6 (l.map Box6.row)), (4, .ptr 104 0), (5, .ptr 105 0), (6, .int .i64 l.length), (7, .int .i64 i)],
  [(104, .box [.int .i64 0, .int .i64 0, .sl 0 7 [], .int .i64 0, .int .i64 0]), (105, .box [.int .i64 q, .int .i64 s, .own 157 i 0 i, .int .i64 (lapF l i), .int .i64 (lapB l i)]), (157, .arr 105 i 7 (((List.range i).map (lapStep l)).map Stp7.row))]⟩
def G_LapPath (l : List Box6) (i : Nat) : Prop := i ≤ l.length ∧ ∀ j, j < i → (l.getD j default).ok
theorem c_sLapPath (q s : Int) (t : Nat) (l : List Box6) (hl : l.length ≤ 1048576) : Contract P 56 [.agg [.int .i64 q, .int .i64 s], .sl t 6 (l.map Box6.row)] [] (lapPath q s l).av [] := by
  refine fn_sound ((((Env.nil P).add 76 t_l31BoxOk h_l31BoxOk).add 77 t_l21Min h_l21Min).add 78 t_sPathOk h_sPathOk) hm k_spec_LapPath (Nat.le_of_ble_eq_true rfl) rfl ?_
  unfold s_spec_LapPath
  simp only [w_skip, w_rg, w_rgd, w_seq, w_cond, w_block, w_loop, w_exit, w_ret, w_gh, w_rg0, w_rg1, w_rgT, w_rgF, w_run, w_psd, w_und, w_dr0, w_dr1, w_drT, w_drF, w_drRun, w_drPsd, w_drUnd, w_drKn, w_drKs, w_putK, w_trimK, w_thenN, w_thenE, w_thenR, w_scope, w_label, w_blkN, w_blkE, w_blkR, w_call, w_effK, brU_true, brU_false, brU_u, brU_not, brU_and, brU_or, brU_dec, brU_eq, brU_ne, br_true, br_false, br_not, br_and, br_or, br_dec, br_eq, br_ne, w_getE0, w_getE1, w_setE0, w_setE1, w_dropE0, w_dropE1, w_drop0, w_drop1, w_getM0, w_getM1, w_setM0, w_setM1, ev_v, ev_c, w_putS, w_putN, w_lit, w_apU0, w_apU1, w_apU2, w_trim, enumE0, enumE1, w_callWp, w_callA0, w_callA1, w_R0, w_R1, w_R2, w_T2, w_callL, w_callT, w_T1, w_T0, o_mv, o_newnil, o_pick, o_bin, o_binN, o_neg, o_not, o_eqB, o_eqS, o_conv, o_alloc, o_box, o_load1, o_loadN, o_store, o_nilck, o_faddr, o_field1, o_fieldN, o_iaddr, o_istr, o_slStr, o_slSl, o_lenS, o_lenL, o_mx, o_mn, o_ext, o_build, o_lit, o_litOwn, o_app, o_mk, o_mvfrz, l_int, l_bool, l_str, l_agg, l_sl, l_own, l_ptr, l_pp, i_int, i_bool, i_str, i_sl, i_own, i_ptr, i_pp, all0, all1, e_ok1, eff, effBin, effBinN, ld_ptr, ld_pp, ld_elt, ia_own, ia_arr, el_1, el_N, load1K, faddrE, r_iaddr, sg_S, sg_c, sg_n, purL, pur, List.map, List.drop, List.take, List.length, List.foldl, List.append_eq, List.nil_append, List.cons_append, List.getD_cons_zero, List.getD_cons_succ, reduceIte, Nat.reduceEqDiff, Nat.reduceAdd, Nat.reduceLeDiff, true_and, and_true, Bool.not_true, Bool.not_false, Bool.and_true, Bool.true_and, Bool.and_self, reduceCtorEq, true_implies, false_implies, implies_true, decide_eq_true_eq, Option.map_some, fpOf, fpX, SOp.xs, oX, refs, refsL, dom, disj, List.all_nil, List.all_cons, List.contains_cons, List.contains_nil, Nat.reduceBEq, Bool.or_false, Bool.false_or, List.append_nil, Bool.not_false, Bool.not_true, List.forall_mem_cons, fm0, List.set, Nat.reduceLT, ne_eq, not_false_eq_true, not_true_eq_false
, ret1, ret1N, keep0, keep1, rf_int, rf_bool, rf_str, rf_sl, rf_agg, rf_tup, rfL0, rfL1, re_t, re_cN, re_L0, re_L1, ret_tup, ret_one, decide_true, AV.bool.injEq, AV.int.injEq, Nat.reduceLeDiff, Bool.true_eq, Bool.false_eq, decide_eq_true_eq, decide_eq_false_iff_not, t_l31BoxOk, t_l21Min, t_sPathOk, List.length_map, Box6.row, box_eta, Int.toNat_natCast, toNat_pred, ghost, appE, rowsOf, un_stp, take_rr, flatOk, noref]


  refine loop_of (F_sLapPath q s t l) (G_LapPath l) (fun i => l.length - i) 0 ⟨⟨.inr rfl, .inr rfl, .inr rfl, .inr rfl, .inr rfl, trivial⟩, ⟨rfl, rfl, rfl, trivial⟩, rfl, rfl⟩ ⟨Nat.zero_le _, fun j hj => by omega⟩ ?_
  intro i hg
  unfold l_spec_LapPath_0 F_sLapPath
  simp only [w_skip, w_rg, w_rgd, w_seq, w_cond, w_block, w_loop, w_exit, w_ret, w_gh, w_rg0, w_rg1, w_rgT, w_rgF, w_run, w_psd, w_und, w_dr0, w_dr1, w_drT, w_drF, w_drRun, w_drPsd, w_drUnd, w_drKn, w_drKs, w_putK, w_trimK, w_thenN, w_thenE, w_thenR, w_scope, w_label, w_blkN, w_blkE, w_blkR, w_call, w_effK, brU_true, brU_false, brU_u, brU_not, brU_and, brU_or, brU_dec, brU_eq, brU_ne, br_true, br_false, br_not, br_and, br_or, br_dec, br_eq, br_ne, w_getE0, w_getE1, w_setE0, w_setE1, w_dropE0, w_dropE1, w_drop0, w_drop1, w_getM0, w_getM1, w_setM0, w_setM1, ev_v, ev_c, w_putS, w_putN, w_lit, w_apU0, w_apU1, w_apU2, w_trim, enumE0, enumE1, w_callWp, w_callA0, w_callA1, w_R0, w_R1, w_R2, w_T2, w_callL, w_callT, w_T1, w_T0, o_mv, o_newnil, o_pick, o_bin, o_binN, o_neg, o_not, o_eqB, o_eqS, o_conv, o_alloc, o_box, o_load1, o_loadN, o_store, o_nilck, o_faddr, o_field1, o_fieldN, o_iaddr, o_istr, o_slStr, o_slSl, o_lenS, o_lenL, o_mx, o_mn, o_ext, o_build, o_lit, o_litOwn, o_app, o_mk, o_mvfrz, l_int, l_bool, l_str, l_agg, l_sl, l_own, l_ptr, l_pp, i_int, i_bool, i_str, i_sl, i_own, i_ptr, i_pp, all0, all1, e_ok1, eff, effBin, effBinN, ld_ptr, ld_pp, ld_elt, ia_own, ia_arr, el_1, el_N, load1K, faddrE, r_iaddr, sg_S, sg_c, sg_n, purL, pur, List.map, List.drop, List.take, List.length, List.foldl, List.append_eq, List.nil_append, List.cons_append, List.getD_cons_zero, List.getD_cons_succ, reduceIte, Nat.reduceEqDiff, Nat.reduceAdd, Nat.reduceLeDiff, true_and, and_true, Bool.not_true, Bool.not_false, Bool.and_true, Bool.true_and, Bool.and_self, reduceCtorEq, true_implies, false_implies, implies_true, decide_eq_true_eq, Option.map_some, fpOf, fpX, SOp.xs, oX, refs, refsL, dom, disj, List.all_nil, List.all_cons, List.contains_cons, List.contains_nil, Nat.reduceBEq, Bool.or_false, Bool.false_or, List.append_nil, Bool.not_false, Bool.not_true, List.forall_mem_cons, fm0, List.set, Nat.reduceLT, ne_eq, not_false_eq_true, not_true_eq_false
, ret1, ret1N, keep0, keep1, rf_int, rf_bool, rf_str, rf_sl, rf_agg, rf_tup, rfL0, rfL1, re_t, re_cN, re_L0, re_L1, ret_tup, ret_one, decide_true, AV.bool.injEq, AV.int.injEq, Nat.reduceLeDiff, Bool.true_eq, Bool.false_eq, decide_eq_true_eq, decide_eq_false_iff_not, t_l31BoxOk, t_l21Min, t_sPathOk, List.length_map, Box6.row, box_eta, Int.toNat_natCast, toNat_pred, ghost, appE, rowsOf, un_stp, take_rr, flatOk, noref]

  have e1 : lapF l (i + 1) = (l.getD i default).i := by simp [lapF]
  have e2 : lapB l (i + 1) = (l.getD i default).o + 1 := by simp [lapB]
  have e3 : List.map Stp7.row (List.map (lapStep l) (List.range (i + 1))) = List.map Stp7.row (List.map (lapStep l) (List.range i)) ++ [(lapStep l i).row] := by simp [List.range_succ]
  have hb : ∀ j, j < i → (l.getD j default).ok := hg.2
  have e4 : l.length = i → (lapOk q s l ↔ pathOk q s (List.map (lapStep l) (List.range i)) (lapF l i) (lapB l i)) := by
    intro e
    unfold lapOk lapTo
    rw [e]
    exact ⟨fun h => h.2, fun h => ⟨hb, h⟩⟩
  have N : (l.getD i default).ok → i < l.length → G_LapPath l (i + 1) := fun h h2 => ⟨h2, fun j hj => by
    by_cases e : j = i
    · subst e; exact h
    · exact hb j (by omega)⟩
  refine ⟨fun h1 => ⟨by omega, h1, fun h2 => ⟨fun h3 => ?_, fun h3 => ?_⟩, fun h2 => ?_⟩, fun h1 => ?_⟩
  · have h4 := hb (i - 1) (by omega)
    have h5 := h2
    unfold Box6.ok at h4 h5
    refine ⟨by omega, by omega, by omega, by omega, by omega, by omega, by omega, ?_⟩
    refine loopK_of (i + 1) ⟨⟨.inr rfl, .inr rfl, .inr rfl, .inr rfl, .inr rfl, trivial⟩, ?_, rfl, rfl⟩ (N h2 (by omega)) (by omega)
    simp only [F_sLapPath, e1, e2, e3]
    refine ⟨rfl, rfl, ?_, trivial⟩
    simp only [w_getM1, reduceIte, Nat.reduceEqDiff, lapStep, Stp7.row, if_pos (show 0 < i by omega), Int.min_comm]
  · have h5 := h2
    unfold Box6.ok at h5
    refine ⟨by omega, by omega, by omega, ?_⟩
    refine loopK_of (i + 1) ⟨⟨.inr rfl, .inr rfl, .inr rfl, .inr rfl, .inr rfl, trivial⟩, ?_, rfl, rfl⟩ (N h2 (by omega)) (by omega)
    simp only [F_sLapPath, e1, e2, e3]
    refine ⟨rfl, rfl, ?_, trivial⟩
    simp only [w_getM1, reduceIte, Nat.reduceEqDiff, lapStep, Stp7.row, if_neg (show ¬ 0 < i by omega)]
  · have : lapPath q s l = ⟨0, 0, [], 0, 0⟩ := if_neg fun h => h2 (h.1 i (by omega))
    rw [this]; exact ⟨rfl, rfl⟩
  · have hi : i = l.length := by have := hg.1; omega
    subst hi
    have e5 := e4 rfl
    refine ⟨fun h2 => ?_, fun h2 => ?_⟩
    · have : lapPath q s l = lapTo q s l l.length := if_pos (e5.2 h2)
      rw [this]; exact ⟨rfl, rfl⟩
    · have : lapPath q s l = ⟨0, 0, [], 0, 0⟩ := if_neg fun h => h2 (e5.1 h)
      rw [this]; exact ⟨rfl, rfl⟩

def F_iLapPath (q s : Int) (t : Nat) (l : List Box6) (i : Nat) : St := ⟨[(1, .sl t 6 (l.map Box6.row)), (4, .ptr 104 0), (5, .ptr 105 0), (11, .sl t 6 (l.map Box6.row)), (12, .int .i64 l.length), (13, .int .i64 i)],
  [(104, .box [.int .i64 0, .int .i64 0, .sl 0 7 [], .int .i64 0, .int .i64 0]), (105, .box [.int .i64 q, .int .i64 s, .own 150 i 0 i, .int .i64 (lapF l i), .int .i64 (lapB l i)]), (150, .arr 105 i 7 (((List.range i).map (lapStep l)).map Stp7.row))]⟩
theorem c_iLapPath (q s : Int) (t : Nat) (l : List Box6) (hl : l.length ≤ 1048576) : Contract P 66 [.agg [.int .i64 q, .int .i64 s], .sl t 6 (l.map Box6.row)] [] (lapPath q s l).av [] := by
  refine fn_sound (((Env.nil P).add 91 t_handBox h_handBox).add 92 t_iPathOk h_iPathOk) hm k_impl_LapPath (Nat.le_of_ble_eq_true rfl) rfl ?_
  unfold s_impl_LapPath
  simp only [w_skip, w_rg, w_rgd, w_seq, w_cond, w_block, w_loop, w_exit, w_ret, w_gh, w_rg0, w_rg1, w_rgT, w_rgF, w_run, w_psd, w_und, w_dr0, w_dr1, w_drT, w_drF, w_drRun, w_drPsd, w_drUnd, w_drKn, w_drKs, w_putK, w_trimK, w_thenN, w_thenE, w_thenR, w_scope, w_label, w_blkN, w_blkE, w_blkR, w_call, w_effK, brU_true, brU_false, brU_u, brU_not, brU_and, brU_or, brU_dec, brU_eq, brU_ne, br_true, br_false, br_not, br_and, br_or, br_dec, br_eq, br_ne, w_getE0, w_getE1, w_setE0, w_setE1, w_dropE0, w_dropE1, w_drop0, w_drop1, w_getM0, w_getM1, w_setM0, w_setM1, ev_v, ev_c, w_putS, w_putN, w_lit, w_apU0, w_apU1, w_apU2, w_trim, enumE0, enumE1, w_callWp, w_callA0, w_callA1, w_R0, w_R1, w_R2, w_T2, w_callL, w_callT, w_T1, w_T0, o_mv, o_newnil, o_pick, o_bin, o_binN, o_neg, o_not, o_eqB, o_eqS, o_conv, o_alloc, o_box, o_load1, o_loadN, o_store, o_nilck, o_faddr, o_field1, o_fieldN, o_iaddr, o_istr, o_slStr, o_slSl, o_lenS, o_lenL, o_mx, o_mn, o_ext, o_build, o_lit, o_litOwn, o_app, o_mk, o_mvfrz, l_int, l_bool, l_str, l_agg, l_sl, l_own, l_ptr, l_pp, i_int, i_bool, i_str, i_sl, i_own, i_ptr, i_pp, all0, all1, e_ok1, eff, effBin, effBinN, ld_ptr, ld_pp, ld_elt, ia_own, ia_arr, el_1, el_N, load1K, faddrE, r_iaddr, sg_S, sg_c, sg_n, purL, pur, List.map, List.drop, List.take, List.length, List.foldl, List.append_eq, List.nil_append, List.cons_append, List.getD_cons_zero, List.getD_cons_succ, reduceIte, Nat.reduceEqDiff, Nat.reduceAdd, Nat.reduceLeDiff, true_and, and_true, Bool.not_true, Bool.not_false, Bool.and_true, Bool.true_and, Bool.and_self, reduceCtorEq, true_implies, false_implies, implies_true, decide_eq_true_eq, Option.map_some, fpOf, fpX, SOp.xs, oX, refs, refsL, dom, disj, List.all_nil, List.all_cons, List.contains_cons, List.contains_nil, Nat.reduceBEq, Bool.or_false, Bool.false_or, List.append_nil, Bool.not_false, Bool.not_true, List.forall_mem_cons, fm0, List.set, Nat.reduceLT, ne_eq, not_false_eq_true, not_true_eq_false
, ret1, ret1N, keep0, keep1, rf_int, rf_bool, rf_str, rf_sl, rf_agg, rf_tup, rfL0, rfL1, re_t, re_cN, re_L0, re_L1, ret_tup, ret_one, decide_true, AV.bool.injEq, AV.int.injEq, Nat.reduceLeDiff, Bool.true_eq, Bool.false_eq, decide_eq_true_eq, decide_eq_false_iff_not, t_handBox, t_iPathOk, List.length_map, Box6.row, box_eta, Int.toNat_natCast, toNat_pred, ghost, appE, rowsOf, un_stp, take_rr, flatOk, noref, min_if, t_sPathOk]


  refine loop_of (F_iLapPath q s t l) (G_LapPath l) (fun i => l.length - i) 0 ⟨⟨.inr rfl, .inr rfl, .inr rfl, .inr rfl, .inr rfl, .inr rfl, trivial⟩, ⟨rfl, rfl, rfl, trivial⟩, rfl, rfl⟩ ⟨Nat.zero_le _, fun j hj => by omega⟩ ?_
  intro i hg
  unfold l_impl_LapPath_0 F_iLapPath
  simp only [w_skip, w_rg, w_rgd, w_seq, w_cond, w_block, w_loop, w_exit, w_ret, w_gh, w_rg0, w_rg1, w_rgT, w_rgF, w_run, w_psd, w_und, w_dr0, w_dr1, w_drT, w_drF, w_drRun, w_drPsd, w_drUnd, w_drKn, w_drKs, w_putK, w_trimK, w_thenN, w_thenE, w_thenR, w_scope, w_label, w_blkN, w_blkE, w_blkR, w_call, w_effK, brU_true, brU_false, brU_u, brU_not, brU_and, brU_or, brU_dec, brU_eq, brU_ne, br_true, br_false, br_not, br_and, br_or, br_dec, br_eq, br_ne, w_getE0, w_getE1, w_setE0, w_setE1, w_dropE0, w_dropE1, w_drop0, w_drop1, w_getM0, w_getM1, w_setM0, w_setM1, ev_v, ev_c, w_putS, w_putN, w_lit, w_apU0, w_apU1, w_apU2, w_trim, enumE0, enumE1, w_callWp, w_callA0, w_callA1, w_R0, w_R1, w_R2, w_T2, w_callL, w_callT, w_T1, w_T0, o_mv, o_newnil, o_pick, o_bin, o_binN, o_neg, o_not, o_eqB, o_eqS, o_conv, o_alloc, o_box, o_load1, o_loadN, o_store, o_nilck, o_faddr, o_field1, o_fieldN, o_iaddr, o_istr, o_slStr, o_slSl, o_lenS, o_lenL, o_mx, o_mn, o_ext, o_build, o_lit, o_litOwn, o_app, o_mk, o_mvfrz, l_int, l_bool, l_str, l_agg, l_sl, l_own, l_ptr, l_pp, i_int, i_bool, i_str, i_sl, i_own, i_ptr, i_pp, all0, all1, e_ok1, eff, effBin, effBinN, ld_ptr, ld_pp, ld_elt, ia_own, ia_arr, el_1, el_N, load1K, faddrE, r_iaddr, sg_S, sg_c, sg_n, purL, pur, List.map, List.drop, List.take, List.length, List.foldl, List.append_eq, List.nil_append, List.cons_append, List.getD_cons_zero, List.getD_cons_succ, reduceIte, Nat.reduceEqDiff, Nat.reduceAdd, Nat.reduceLeDiff, true_and, and_true, Bool.not_true, Bool.not_false, Bool.and_true, Bool.true_and, Bool.and_self, reduceCtorEq, true_implies, false_implies, implies_true, decide_eq_true_eq, Option.map_some, fpOf, fpX, SOp.xs, oX, refs, refsL, dom, disj, List.all_nil, List.all_cons, List.contains_cons, List.contains_nil, Nat.reduceBEq, Bool.or_false, Bool.false_or, List.append_nil, Bool.not_false, Bool.not_true, List.forall_mem_cons, fm0, List.set, Nat.reduceLT, ne_eq, not_false_eq_true, not_true_eq_false
, ret1, ret1N, keep0, keep1, rf_int, rf_bool, rf_str, rf_sl, rf_agg, rf_tup, rfL0, rfL1, re_t, re_cN, re_L0, re_L1, ret_tup, ret_one, decide_true, AV.bool.injEq, AV.int.injEq, Nat.reduceLeDiff, Bool.true_eq, Bool.false_eq, decide_eq_true_eq, decide_eq_false_iff_not, t_handBox, t_iPathOk, List.length_map, Box6.row, box_eta, Int.toNat_natCast, toNat_pred, ghost, appE, rowsOf, un_stp, take_rr, flatOk, noref, min_if, t_sPathOk]

  have e1 : lapF l (i + 1) = (l.getD i default).i := by simp [lapF]
  have e2 : lapB l (i + 1) = (l.getD i default).o + 1 := by simp [lapB]
  have e3 : List.map Stp7.row (List.map (lapStep l) (List.range (i + 1))) = List.map Stp7.row (List.map (lapStep l) (List.range i)) ++ [(lapStep l i).row] := by simp [List.range_succ]
  have hb : ∀ j, j < i → (l.getD j default).ok := hg.2
  have e4 : l.length = i → (lapOk q s l ↔ pathOk q s (List.map (lapStep l) (List.range i)) (lapF l i) (lapB l i)) := by
    intro e
    unfold lapOk lapTo
    rw [e]
    exact ⟨fun h => h.2, fun h => ⟨hb, h⟩⟩
  have N : (l.getD i default).ok → i < l.length → G_LapPath l (i + 1) := fun h h2 => ⟨h2, fun j hj => by
    by_cases e : j = i
    · subst e; exact h
    · exact hb j (by omega)⟩
  refine ⟨fun h1 => ⟨by omega, h1, fun h2 => ⟨fun h3 => ?_, fun h3 => ?_⟩, fun h2 => ?_⟩, fun h1 => ?_⟩
  · have h4 := hb (i - 1) (by omega)
    have h5 := h2
    unfold Box6.ok at h4 h5
    refine ⟨by omega, by omega, by omega, by omega, by omega, by omega, by omega, ?_⟩
    refine loopK_of (i + 1) ⟨⟨.inr rfl, .inr rfl, .inr rfl, .inr rfl, .inr rfl, .inr rfl, trivial⟩, ?_, rfl, rfl⟩ (N h2 (by omega)) (by omega)
    simp only [F_iLapPath, e1, e2, e3]
    refine ⟨rfl, rfl, ?_, trivial⟩
    simp only [w_getM1, reduceIte, Nat.reduceEqDiff, lapStep, Stp7.row, if_pos (show 0 < i by omega), Int.min_comm]
  · have h5 := h2
    unfold Box6.ok at h5
    refine ⟨by omega, by omega, by omega, ?_⟩
    refine loopK_of (i + 1) ⟨⟨.inr rfl, .inr rfl, .inr rfl, .inr rfl, .inr rfl, .inr rfl, trivial⟩, ?_, rfl, rfl⟩ (N h2 (by omega)) (by omega)
    simp only [F_iLapPath, e1, e2, e3]
    refine ⟨rfl, rfl, ?_, trivial⟩
    simp only [w_getM1, reduceIte, Nat.reduceEqDiff, lapStep, Stp7.row, if_neg (show ¬ 0 < i by omega)]
  · have : lapPath q s l = ⟨0, 0, [], 0, 0⟩ := if_neg fun h => h2 (h.1 i (by omega))
    rw [this]; exact ⟨rfl, rfl⟩
  · have hi : i = l.length := by have := hg.1; omega
    subst hi
    have e5 := e4 rfl
    refine ⟨fun h2 => ?_, fun h2 => ?_⟩
    · have : lapPath q s l = lapTo q s l l.length := if_pos (e5.2 h2)
      rw [this]; exact ⟨rfl, rfl⟩
    · have : lapPath q s l = ⟨0, 0, [], 0, 0⟩ := if_neg fun h => h2 (e5.1 h)
      rw [this]; exact ⟨rfl, rfl⟩
end Go.Ve

namespace Go.Ve
open Go.Proofs
set_option linter.unusedSimpArgs false
set_option linter.unusedVariables false
set_option maxRecDepth 100000
def Path5.low (p : Path5) (k : Nat) : Int := if k < p.l.length then (p.l.getD k default).f else p.f
def Path5.high (p : Path5) (k : Nat) : Int := if k < p.l.length then (p.l.getD k default).b else p.b
def Path5.most (p : Path5) (k : Nat) : Int := if (p.l.getD k default).hold then 10000 else p.s
structure Span2 where
  lo : Int
  hi : Int
  deriving Inhabited
def Span2.row (s : Span2) : List AV := [.int .i64 s.lo, .int .i64 s.hi]
theorem path_eta (p : Path5) : (⟨p.q, p.s, p.l, p.f, p.b⟩ : Path5) = p := (rfl)
theorem span_eta (s : Span2) : (⟨s.lo, s.hi⟩ : Span2) = s := (rfl)
theorem c_l23Low (q s : Int) (t : Nat) (l : List Stp7) (f b k : Int) (hp : 0 ≤ k) : Contract P 95 [.agg [.int .i64 q, .int .i64 s, .sl t 7 (l.map Stp7.row), .int .i64 f, .int .i64 b], .int .i64 k] [] (.int .i64 (Path5.low ⟨q, s, l, f, b⟩ k.toNat)) [] := by
  refine fn_sound (Env.nil P) hm k_spec_l23Low (Nat.le_of_ble_eq_true rfl) rfl ?_
  unfold s_spec_l23Low
  simp only [w_skip, w_rg, w_rgd, w_seq, w_cond, w_block, w_loop, w_exit, w_ret, w_gh, w_rg0, w_rg1, w_rgT, w_rgF, w_run, w_psd, w_und, w_dr0, w_dr1, w_drT, w_drF, w_drRun, w_drPsd, w_drUnd, w_drKn, w_drKs, w_putK, w_trimK, w_thenN, w_thenE, w_thenR, w_scope, w_label, w_blkN, w_blkE, w_blkR, w_call, w_effK, brU_true, brU_false, brU_u, brU_not, brU_and, brU_or, brU_dec, brU_eq, brU_ne, br_true, br_false, br_not, br_and, br_or, br_dec, br_eq, br_ne, w_getE0, w_getE1, w_setE0, w_setE1, w_dropE0, w_dropE1, w_drop0, w_drop1, w_getM0, w_getM1, w_setM0, w_setM1, ev_v, ev_c, w_putS, w_putN, w_lit, w_apU0, w_apU1, w_apU2, w_trim, enumE0, enumE1, w_callWp, w_callA0, w_callA1, w_R0, w_R1, w_R2, w_T2, w_callL, w_callT, w_T1, w_T0, o_mv, o_newnil, o_pick, o_bin, o_binN, o_neg, o_not, o_eqB, o_eqS, o_conv, o_alloc, o_box, o_load1, o_loadN, o_store, o_nilck, o_faddr, o_field1, o_fieldN, o_iaddr, o_istr, o_slStr, o_slSl, o_lenS, o_lenL, o_mx, o_mn, o_ext, o_build, o_lit, o_litOwn, o_app, o_mk, o_mvfrz, l_int, l_bool, l_str, l_agg, l_sl, l_own, l_ptr, l_pp, i_int, i_bool, i_str, i_sl, i_own, i_ptr, i_pp, all0, all1, e_ok1, eff, effBin, effBinN, ld_ptr, ld_pp, ld_elt, ia_own, ia_arr, el_1, el_N, load1K, faddrE, r_iaddr, sg_S, sg_c, sg_n, purL, pur, List.map, List.drop, List.take, List.length, List.foldl, List.append_eq, List.nil_append, List.cons_append, List.getD_cons_zero, List.getD_cons_succ, reduceIte, Nat.reduceEqDiff, Nat.reduceAdd, Nat.reduceLeDiff, true_and, and_true, Bool.not_true, Bool.not_false, Bool.and_true, Bool.true_and, Bool.and_self, reduceCtorEq, true_implies, false_implies, implies_true, decide_eq_true_eq, Option.map_some, fpOf, fpX, SOp.xs, oX, refs, refsL, dom, disj, List.all_nil, List.all_cons, List.contains_cons, List.contains_nil, Nat.reduceBEq, Bool.or_false, Bool.false_or, List.append_nil, Bool.not_false, Bool.not_true, List.forall_mem_cons, fm0, List.set, Nat.reduceLT, ne_eq, not_false_eq_true, not_true_eq_false
, ret1, ret1N, keep0, keep1, rf_int, rf_bool, rf_str, rf_sl, rf_agg, rf_tup, rfL0, rfL1, re_t, re_cN, re_L0, re_L1, ret_tup, ret_one, decide_true, AV.bool.injEq, AV.int.injEq, Nat.reduceLeDiff, Bool.true_eq, Bool.false_eq, decide_eq_true_eq, decide_eq_false_iff_not, List.length_map, Stp7.row]
  simp only [Path5.low]
  refine ⟨fun h1 => ?_, fun h1 => ?_⟩
  · refine ⟨by omega, by omega, ?_⟩
    rw [if_pos (by omega)]
  · rw [if_neg (by omega)]
def t_l23Low : List AV → Option (Prop × AV)
  | [.agg [.int .i64 q, .int .i64 s, .sl t 7 xs, .int .i64 f, .int .i64 b], .int .i64 k] => some ((xs.map unStp).map Stp7.row = xs ∧ (let l := xs.map unStp; 0 ≤ k), let l := xs.map unStp; .int .i64 (Path5.low ⟨q, s, l, f, b⟩ k.toNat))
  | _ => none
theorem h_l23Low : ∀ args p v, t_l23Low args = some (p, v) → p → Contract P 95 args [] v [] ∧ noref v = true ∧ No99 v := by
  intro args p v h1 h2
  unfold t_l23Low at h1
  split at h1
  · rename_i q s t xs f b k
    cases h1
    have := c_l23Low q s t (xs.map unStp) f b k h2.2
    rw [h2.1] at this
    exact ⟨this, rfl, trivial⟩
  · cases h1
theorem c_l23High (q s : Int) (t : Nat) (l : List Stp7) (f b k : Int) (hp : 0 ≤ k) : Contract P 96 [.agg [.int .i64 q, .int .i64 s, .sl t 7 (l.map Stp7.row), .int .i64 f, .int .i64 b], .int .i64 k] [] (.int .i64 (Path5.high ⟨q, s, l, f, b⟩ k.toNat)) [] := by
  refine fn_sound (Env.nil P) hm k_spec_l23High (Nat.le_of_ble_eq_true rfl) rfl ?_
  unfold s_spec_l23High
  simp only [w_skip, w_rg, w_rgd, w_seq, w_cond, w_block, w_loop, w_exit, w_ret, w_gh, w_rg0, w_rg1, w_rgT, w_rgF, w_run, w_psd, w_und, w_dr0, w_dr1, w_drT, w_drF, w_drRun, w_drPsd, w_drUnd, w_drKn, w_drKs, w_putK, w_trimK, w_thenN, w_thenE, w_thenR, w_scope, w_label, w_blkN, w_blkE, w_blkR, w_call, w_effK, brU_true, brU_false, brU_u, brU_not, brU_and, brU_or, brU_dec, brU_eq, brU_ne, br_true, br_false, br_not, br_and, br_or, br_dec, br_eq, br_ne, w_getE0, w_getE1, w_setE0, w_setE1, w_dropE0, w_dropE1, w_drop0, w_drop1, w_getM0, w_getM1, w_setM0, w_setM1, ev_v, ev_c, w_putS, w_putN, w_lit, w_apU0, w_apU1, w_apU2, w_trim, enumE0, enumE1, w_callWp, w_callA0, w_callA1, w_R0, w_R1, w_R2, w_T2, w_callL, w_callT, w_T1, w_T0, o_mv, o_newnil, o_pick, o_bin, o_binN, o_neg, o_not, o_eqB, o_eqS, o_conv, o_alloc, o_box, o_load1, o_loadN, o_store, o_nilck, o_faddr, o_field1, o_fieldN, o_iaddr, o_istr, o_slStr, o_slSl, o_lenS, o_lenL, o_mx, o_mn, o_ext, o_build, o_lit, o_litOwn, o_app, o_mk, o_mvfrz, l_int, l_bool, l_str, l_agg, l_sl, l_own, l_ptr, l_pp, i_int, i_bool, i_str, i_sl, i_own, i_ptr, i_pp, all0, all1, e_ok1, eff, effBin, effBinN, ld_ptr, ld_pp, ld_elt, ia_own, ia_arr, el_1, el_N, load1K, faddrE, r_iaddr, sg_S, sg_c, sg_n, purL, pur, List.map, List.drop, List.take, List.length, List.foldl, List.append_eq, List.nil_append, List.cons_append, List.getD_cons_zero, List.getD_cons_succ, reduceIte, Nat.reduceEqDiff, Nat.reduceAdd, Nat.reduceLeDiff, true_and, and_true, Bool.not_true, Bool.not_false, Bool.and_true, Bool.true_and, Bool.and_self, reduceCtorEq, true_implies, false_implies, implies_true, decide_eq_true_eq, Option.map_some, fpOf, fpX, SOp.xs, oX, refs, refsL, dom, disj, List.all_nil, List.all_cons, List.contains_cons, List.contains_nil, Nat.reduceBEq, Bool.or_false, Bool.false_or, List.append_nil, Bool.not_false, Bool.not_true, List.forall_mem_cons, fm0, List.set, Nat.reduceLT, ne_eq, not_false_eq_true, not_true_eq_false
, ret1, ret1N, keep0, keep1, rf_int, rf_bool, rf_str, rf_sl, rf_agg, rf_tup, rfL0, rfL1, re_t, re_cN, re_L0, re_L1, ret_tup, ret_one, decide_true, AV.bool.injEq, AV.int.injEq, Nat.reduceLeDiff, Bool.true_eq, Bool.false_eq, decide_eq_true_eq, decide_eq_false_iff_not, List.length_map, Stp7.row]
  simp only [Path5.high]
  refine ⟨fun h1 => ?_, fun h1 => ?_⟩
  · refine ⟨by omega, by omega, ?_⟩
    rw [if_pos (by omega)]
  · rw [if_neg (by omega)]
def t_l23High : List AV → Option (Prop × AV)
  | [.agg [.int .i64 q, .int .i64 s, .sl t 7 xs, .int .i64 f, .int .i64 b], .int .i64 k] => some ((xs.map unStp).map Stp7.row = xs ∧ (let l := xs.map unStp; 0 ≤ k), let l := xs.map unStp; .int .i64 (Path5.high ⟨q, s, l, f, b⟩ k.toNat))
  | _ => none
theorem h_l23High : ∀ args p v, t_l23High args = some (p, v) → p → Contract P 96 args [] v [] ∧ noref v = true ∧ No99 v := by
  intro args p v h1 h2
  unfold t_l23High at h1
  split at h1
  · rename_i q s t xs f b k
    cases h1
    have := c_l23High q s t (xs.map unStp) f b k h2.2
    rw [h2.1] at this
    exact ⟨this, rfl, trivial⟩
  · cases h1
theorem c_l23Most (q s : Int) (t : Nat) (l : List Stp7) (f b k : Int) (hp : 0 ≤ k ∧ k < l.length) : Contract P 97 [.agg [.int .i64 q, .int .i64 s, .sl t 7 (l.map Stp7.row), .int .i64 f, .int .i64 b], .int .i64 k] [] (.int .i64 (Path5.most ⟨q, s, l, f, b⟩ k.toNat)) [] := by
  refine fn_sound (Env.nil P) hm k_spec_l23Most (Nat.le_of_ble_eq_true rfl) rfl ?_
  unfold s_spec_l23Most
  simp only [w_skip, w_rg, w_rgd, w_seq, w_cond, w_block, w_loop, w_exit, w_ret, w_gh, w_rg0, w_rg1, w_rgT, w_rgF, w_run, w_psd, w_und, w_dr0, w_dr1, w_drT, w_drF, w_drRun, w_drPsd, w_drUnd, w_drKn, w_drKs, w_putK, w_trimK, w_thenN, w_thenE, w_thenR, w_scope, w_label, w_blkN, w_blkE, w_blkR, w_call, w_effK, brU_true, brU_false, brU_u, brU_not, brU_and, brU_or, brU_dec, brU_eq, brU_ne, br_true, br_false, br_not, br_and, br_or, br_dec, br_eq, br_ne, w_getE0, w_getE1, w_setE0, w_setE1, w_dropE0, w_dropE1, w_drop0, w_drop1, w_getM0, w_getM1, w_setM0, w_setM1, ev_v, ev_c, w_putS, w_putN, w_lit, w_apU0, w_apU1, w_apU2, w_trim, enumE0, enumE1, w_callWp, w_callA0, w_callA1, w_R0, w_R1, w_R2, w_T2, w_callL, w_callT, w_T1, w_T0, o_mv, o_newnil, o_pick, o_bin, o_binN, o_neg, o_not, o_eqB, o_eqS, o_conv, o_alloc, o_box, o_load1, o_loadN, o_store, o_nilck, o_faddr, o_field1, o_fieldN, o_iaddr, o_istr, o_slStr, o_slSl, o_lenS, o_lenL, o_mx, o_mn, o_ext, o_build, o_lit, o_litOwn, o_app, o_mk, o_mvfrz, l_int, l_bool, l_str, l_agg, l_sl, l_own, l_ptr, l_pp, i_int, i_bool, i_str, i_sl, i_own, i_ptr, i_pp, all0, all1, e_ok1, eff, effBin, effBinN, ld_ptr, ld_pp, ld_elt, ia_own, ia_arr, el_1, el_N, load1K, faddrE, r_iaddr, sg_S, sg_c, sg_n, purL, pur, List.map, List.drop, List.take, List.length, List.foldl, List.append_eq, List.nil_append, List.cons_append, List.getD_cons_zero, List.getD_cons_succ, reduceIte, Nat.reduceEqDiff, Nat.reduceAdd, Nat.reduceLeDiff, true_and, and_true, Bool.not_true, Bool.not_false, Bool.and_true, Bool.true_and, Bool.and_self, reduceCtorEq, true_implies, false_implies, implies_true, decide_eq_true_eq, Option.map_some, fpOf, fpX, SOp.xs, oX, refs, refsL, dom, disj, List.all_nil, List.all_cons, List.contains_cons, List.contains_nil, Nat.reduceBEq, Bool.or_false, Bool.false_or, List.append_nil, Bool.not_false, Bool.not_true, List.forall_mem_cons, fm0, List.set, Nat.reduceLT, ne_eq, not_false_eq_true, not_true_eq_false
, ret1, ret1N, keep0, keep1, rf_int, rf_bool, rf_str, rf_sl, rf_agg, rf_tup, rfL0, rfL1, re_t, re_cN, re_L0, re_L1, ret_tup, ret_one, decide_true, AV.bool.injEq, AV.int.injEq, Nat.reduceLeDiff, Bool.true_eq, Bool.false_eq, decide_eq_true_eq, decide_eq_false_iff_not, List.length_map, Stp7.row]
  refine ⟨hp.1, hp.2, ?_⟩
  cases hh : (l.getD k.toNat default).hold <;> simp only [w_skip, w_rg, w_rgd, w_seq, w_cond, w_block, w_loop, w_exit, w_ret, w_gh, w_rg0, w_rg1, w_rgT, w_rgF, w_run, w_psd, w_und, w_dr0, w_dr1, w_drT, w_drF, w_drRun, w_drPsd, w_drUnd, w_drKn, w_drKs, w_putK, w_trimK, w_thenN, w_thenE, w_thenR, w_scope, w_label, w_blkN, w_blkE, w_blkR, w_call, w_effK, brU_true, brU_false, brU_u, brU_not, brU_and, brU_or, brU_dec, brU_eq, brU_ne, br_true, br_false, br_not, br_and, br_or, br_dec, br_eq, br_ne, w_getE0, w_getE1, w_setE0, w_setE1, w_dropE0, w_dropE1, w_drop0, w_drop1, w_getM0, w_getM1, w_setM0, w_setM1, ev_v, ev_c, w_putS, w_putN, w_lit, w_apU0, w_apU1, w_apU2, w_trim, enumE0, enumE1, w_callWp, w_callA0, w_callA1, w_R0, w_R1, w_R2, w_T2, w_callL, w_callT, w_T1, w_T0, o_mv, o_newnil, o_pick, o_bin, o_binN, o_neg, o_not, o_eqB, o_eqS, o_conv, o_alloc, o_box, o_load1, o_loadN, o_store, o_nilck, o_faddr, o_field1, o_fieldN, o_iaddr, o_istr, o_slStr, o_slSl, o_lenS, o_lenL, o_mx, o_mn, o_ext, o_build, o_lit, o_litOwn, o_app, o_mk, o_mvfrz, l_int, l_bool, l_str, l_agg, l_sl, l_own, l_ptr, l_pp, i_int, i_bool, i_str, i_sl, i_own, i_ptr, i_pp, all0, all1, e_ok1, eff, effBin, effBinN, ld_ptr, ld_pp, ld_elt, ia_own, ia_arr, el_1, el_N, load1K, faddrE, r_iaddr, sg_S, sg_c, sg_n, purL, pur, List.map, List.drop, List.take, List.length, List.foldl, List.append_eq, List.nil_append, List.cons_append, List.getD_cons_zero, List.getD_cons_succ, reduceIte, Nat.reduceEqDiff, Nat.reduceAdd, Nat.reduceLeDiff, true_and, and_true, Bool.not_true, Bool.not_false, Bool.and_true, Bool.true_and, Bool.and_self, reduceCtorEq, true_implies, false_implies, implies_true, decide_eq_true_eq, Option.map_some, fpOf, fpX, SOp.xs, oX, refs, refsL, dom, disj, List.all_nil, List.all_cons, List.contains_cons, List.contains_nil, Nat.reduceBEq, Bool.or_false, Bool.false_or, List.append_nil, Bool.not_false, Bool.not_true, List.forall_mem_cons, fm0, List.set, Nat.reduceLT, ne_eq, not_false_eq_true, not_true_eq_false
, ret1, ret1N, keep0, keep1, rf_int, rf_bool, rf_str, rf_sl, rf_agg, rf_tup, rfL0, rfL1, re_t, re_cN, re_L0, re_L1, ret_tup, ret_one, decide_true, AV.bool.injEq, AV.int.injEq, Nat.reduceLeDiff, Bool.true_eq, Bool.false_eq, decide_eq_true_eq, decide_eq_false_iff_not, List.length_map, Stp7.row] <;> simp only [Path5.most, hh] <;> rfl
def t_l23Most : List AV → Option (Prop × AV)
  | [.agg [.int .i64 q, .int .i64 s, .sl t 7 xs, .int .i64 f, .int .i64 b], .int .i64 k] => some ((xs.map unStp).map Stp7.row = xs ∧ (let l := xs.map unStp; 0 ≤ k ∧ k < l.length), let l := xs.map unStp; .int .i64 (Path5.most ⟨q, s, l, f, b⟩ k.toNat))
  | _ => none
theorem h_l23Most : ∀ args p v, t_l23Most args = some (p, v) → p → Contract P 97 args [] v [] ∧ noref v = true ∧ No99 v := by
  intro args p v h1 h2
  unfold t_l23Most at h1
  split at h1
  · rename_i q s t xs f b k
    cases h1
    have := c_l23Most q s t (xs.map unStp) f b k h2.2
    rw [h2.1] at this
    exact ⟨this, rfl, trivial⟩
  · cases h1
/-- Ahead: the earliest and the latest, from the first step on. -/
def Path5.fwd (p : Path5) : Nat → Span2
  | 0 => ⟨p.low 0, p.high 0⟩
  | k + 1 => ⟨max (p.low (k + 1)) ((p.fwd k).lo + p.q), min (p.high (k + 1)) ((p.fwd k).hi + p.most k)⟩
/-- Back again, from the last one. -/
def Path5.bwd (p : Path5) : Nat → Span2
  | 0 => p.fwd p.l.length
  | d + 1 => ⟨max (p.fwd (p.l.length - (d + 1))).lo ((p.bwd d).lo - p.most (p.l.length - (d + 1))), min (p.fwd (p.l.length - (d + 1))).hi ((p.bwd d).hi - p.q)⟩
def Path5.span (p : Path5) (k : Nat) : Span2 := p.bwd (p.l.length - k)
def Path5.can (p : Path5) : Prop := ∀ k, k < p.l.length + 1 → (p.span k).lo ≤ (p.span k).hi
instance (p : Path5) : Decidable p.can := by unfold Path5.can; infer_instance
def Path5.spans (p : Path5) : List Span2 := if p.can then (List.range (p.l.length + 1)).map p.span else []
/-- What the passes ask of the numbers. -/
structure Path5.calm (p : Path5) : Prop where
  q : 0 ≤ p.q ∧ p.q ≤ 50
  s : 0 ≤ p.s ∧ p.s ≤ 50
  n : p.l.length ≤ 1048576
  lo : ∀ k, k ≤ p.l.length → 0 ≤ p.low k
  hi : ∀ k, k ≤ p.l.length → p.high k ≤ 10000
theorem Path5.calm.most {p : Path5} (h : p.calm) (k : Nat) : 0 ≤ p.most k ∧ p.most k ≤ 10000 := by
  unfold Path5.most
  have := h.s
  split <;> omega
theorem Path5.fwd_lo {p : Path5} (h : p.calm) : ∀ k, k ≤ p.l.length → 0 ≤ (p.fwd k).lo
  | 0, hk => h.lo 0 hk
  | k + 1, hk => by have := h.lo (k + 1) hk; simp only [Path5.fwd]; omega
theorem Path5.fwd_hi {p : Path5} (h : p.calm) : ∀ k, k ≤ p.l.length → (p.fwd k).hi ≤ 10000
  | 0, hk => h.hi 0 hk
  | k + 1, hk => by have := h.hi (k + 1) hk; simp only [Path5.fwd]; omega
theorem Path5.bwd_lo (p : Path5) : ∀ d, d ≤ p.l.length → (p.fwd (p.l.length - d)).lo ≤ (p.bwd d).lo
  | 0, _ => by simp [Path5.bwd]
  | d + 1, _ => by simp only [Path5.bwd]; omega
theorem Path5.bwd_hi (p : Path5) : ∀ d, d ≤ p.l.length → (p.bwd d).hi ≤ (p.fwd (p.l.length - d)).hi
  | 0, _ => by simp [Path5.bwd]
  | d + 1, _ => by simp only [Path5.bwd]; omega
theorem Path5.can_fwd {p : Path5} (h : p.can) {k : Nat} (hk : k ≤ p.l.length) : (p.fwd k).lo ≤ (p.fwd k).hi := by
  have h1 := p.bwd_lo (p.l.length - k) (by omega)
  have h2 := p.bwd_hi (p.l.length - k) (by omega)
  have h3 := h k (by omega)
  unfold Path5.span at h3
  have e : p.l.length - (p.l.length - k) = k := by omega
  rw [e] at h1 h2
  omega
def Path5.mid (p : Path5) (d j : Nat) : Span2 := if p.l.length - d ≤ j then p.span j else p.fwd j
def Path5.mids (p : Path5) (d : Nat) : List Span2 := (List.range (p.l.length + 1)).map (p.mid d)
theorem set_lo {l : List Span2} {i : Nat} {v : Int} : (l.map Span2.row).set i (setSeg ((l.map Span2.row).getD i []) 0 [.int .i64 v]) = (l.set i ⟨v, (l.getD i default).hi⟩).map Span2.row :=
  set_rows (α := Span2) (f := Span2.row) (fun s => ⟨v, s.hi⟩) fun x => by simp [Span2.row, setSeg]
theorem set_hi {l : List Span2} {i : Nat} {v : Int} : (l.map Span2.row).set i (setSeg ((l.map Span2.row).getD i []) 1 [.int .i64 v]) = (l.set i ⟨(l.getD i default).lo, v⟩).map Span2.row :=
  set_rows (α := Span2) (f := Span2.row) (fun s => ⟨s.lo, v⟩) fun x => by simp [Span2.row, setSeg]
theorem toNat_succ (i : Nat) : ((i : Int) + 1).toNat = i + 1 := by omega
def F_l24b (p : Path5) (t : Nat) (d : Nat) : St := ⟨[(1, .ptr 101 0), (4, .own 165 (p.l.length + 1) 0 (p.l.length + 1)), (8, .int .i64 ((p.l.length : Int) - 1 - d))],
  [(101, .box [.int .i64 p.q, .int .i64 p.s, .sl t 7 (p.l.map Stp7.row), .int .i64 p.f, .int .i64 p.b]), (165, .arr 114 (p.l.length + 1) 2 ((p.mids d).map Span2.row))]⟩
def G_l24b (p : Path5) (d : Nat) : Prop := d ≤ p.l.length ∧ ∀ j, p.l.length - d ≤ j → j < p.l.length + 1 → (p.span j).lo ≤ (p.span j).hi
def F_l24a (p : Path5) (t : Nat) (i : Nat) : St := ⟨[(1, .ptr 101 0), (4, .own 165 i 0 i), (5, .int .i64 p.l.length), (6, .int .i64 i)],
  [(101, .box [.int .i64 p.q, .int .i64 p.s, .sl t 7 (p.l.map Stp7.row), .int .i64 p.f, .int .i64 p.b]), (165, .arr 114 i 2 (((List.range i).map p.fwd).map Span2.row))]⟩
def G_l24a (p : Path5) (i : Nat) : Prop := i ≤ p.l.length + 1 ∧ ∀ j, j < i → (p.fwd j).lo ≤ (p.fwd j).hi
theorem c_l24Spans (p : Path5) (t : Nat) (hc : p.calm) : Contract P 80 [.agg [.int .i64 p.q, .int .i64 p.s, .sl t 7 (p.l.map Stp7.row), .int .i64 p.f, .int .i64 p.b]] [] (.tup [.sl 0 2 (p.spans.map Span2.row), .bool (decide p.can)]) [] := by
  refine fn_sound ((((((Env.nil P).add 95 t_l23Low h_l23Low).add 96 t_l23High h_l23High).add 97 t_l23Most h_l23Most).add 77 t_l21Min h_l21Min).add 27 t_l21Max h_l21Max) hm k_spec_l24Spans (Nat.le_of_ble_eq_true rfl) rfl ?_
  unfold s_spec_l24Spans
  simp only [w_skip, w_rg, w_rgd, w_seq, w_cond, w_block, w_loop, w_exit, w_ret, w_gh, w_rg0, w_rg1, w_rgT, w_rgF, w_run, w_psd, w_und, w_dr0, w_dr1, w_drT, w_drF, w_drRun, w_drPsd, w_drUnd, w_drKn, w_drKs, w_putK, w_trimK, w_thenN, w_thenE, w_thenR, w_scope, w_label, w_blkN, w_blkE, w_blkR, w_call, w_effK, brU_true, brU_false, brU_u, brU_not, brU_and, brU_or, brU_dec, brU_eq, brU_ne, br_true, br_false, br_not, br_and, br_or, br_dec, br_eq, br_ne, w_getE0, w_getE1, w_setE0, w_setE1, w_dropE0, w_dropE1, w_drop0, w_drop1, w_getM0, w_getM1, w_setM0, w_setM1, ev_v, ev_c, w_putS, w_putN, w_lit, w_apU0, w_apU1, w_apU2, w_trim, enumE0, enumE1, w_callWp, w_callA0, w_callA1, w_R0, w_R1, w_R2, w_T2, w_callL, w_callT, w_T1, w_T0, o_mv, o_newnil, o_pick, o_bin, o_binN, o_neg, o_not, o_eqB, o_eqS, o_conv, o_alloc, o_box, o_load1, o_loadN, o_store, o_nilck, o_faddr, o_field1, o_fieldN, o_iaddr, o_istr, o_slStr, o_slSl, o_lenS, o_lenL, o_mx, o_mn, o_ext, o_build, o_lit, o_litOwn, o_app, o_mk, o_mvfrz, l_int, l_bool, l_str, l_agg, l_sl, l_own, l_ptr, l_pp, i_int, i_bool, i_str, i_sl, i_own, i_ptr, i_pp, all0, all1, e_ok1, eff, effBin, effBinN, ld_ptr, ld_pp, ld_elt, ia_own, ia_arr, el_1, el_N, load1K, faddrE, r_iaddr, sg_S, sg_c, sg_n, purL, pur, List.map, List.drop, List.take, List.length, List.foldl, List.append_eq, List.nil_append, List.cons_append, List.getD_cons_zero, List.getD_cons_succ, reduceIte, Nat.reduceEqDiff, Nat.reduceAdd, Nat.reduceLeDiff, true_and, and_true, Bool.not_true, Bool.not_false, Bool.and_true, Bool.true_and, Bool.and_self, reduceCtorEq, true_implies, false_implies, implies_true, decide_eq_true_eq, Option.map_some, fpOf, fpX, SOp.xs, oX, refs, refsL, dom, disj, List.all_nil, List.all_cons, List.contains_cons, List.contains_nil, Nat.reduceBEq, Bool.or_false, Bool.false_or, List.append_nil, Bool.not_false, Bool.not_true, List.forall_mem_cons, fm0, List.set, Nat.reduceLT, ne_eq, not_false_eq_true, not_true_eq_false
, ret1, ret1N, keep0, keep1, rf_int, rf_bool, rf_str, rf_sl, rf_agg, rf_tup, rfL0, rfL1, re_t, re_cN, re_L0, re_L1, ret_tup, ret_one, decide_true, AV.bool.injEq, AV.int.injEq, Nat.reduceLeDiff, Bool.true_eq, Bool.false_eq, decide_eq_true_eq, decide_eq_false_iff_not, t_l23Low, t_l23High, t_l23Most, t_l21Min, t_l21Max, List.length_map, Stp7.row, Span2.row, span_eta, Int.toNat_natCast, toNat_pred, un_stp, take_rr, flatOk, noref, appE, rowsOf, ghost, path_eta, List.length_range, Nat.zero_add, Nat.sub_zero, set_lo, set_hi, toNat_succ, List.length_set]
  refine loop_of (F_l24a p t) (G_l24a p) (fun i => p.l.length + 1 - i) 0 ⟨⟨.inr rfl, .inr rfl, .inr rfl, .inr rfl, trivial⟩, ⟨rfl, rfl, trivial⟩, rfl, rfl⟩ ⟨by omega, fun j hj => by omega⟩ ?_
  intro i hg
  unfold l_spec_l24Spans_0 F_l24a
  simp only [w_skip, w_rg, w_rgd, w_seq, w_cond, w_block, w_loop, w_exit, w_ret, w_gh, w_rg0, w_rg1, w_rgT, w_rgF, w_run, w_psd, w_und, w_dr0, w_dr1, w_drT, w_drF, w_drRun, w_drPsd, w_drUnd, w_drKn, w_drKs, w_putK, w_trimK, w_thenN, w_thenE, w_thenR, w_scope, w_label, w_blkN, w_blkE, w_blkR, w_call, w_effK, brU_true, brU_false, brU_u, brU_not, brU_and, brU_or, brU_dec, brU_eq, brU_ne, br_true, br_false, br_not, br_and, br_or, br_dec, br_eq, br_ne, w_getE0, w_getE1, w_setE0, w_setE1, w_dropE0, w_dropE1, w_drop0, w_drop1, w_getM0, w_getM1, w_setM0, w_setM1, ev_v, ev_c, w_putS, w_putN, w_lit, w_apU0, w_apU1, w_apU2, w_trim, enumE0, enumE1, w_callWp, w_callA0, w_callA1, w_R0, w_R1, w_R2, w_T2, w_callL, w_callT, w_T1, w_T0, o_mv, o_newnil, o_pick, o_bin, o_binN, o_neg, o_not, o_eqB, o_eqS, o_conv, o_alloc, o_box, o_load1, o_loadN, o_store, o_nilck, o_faddr, o_field1, o_fieldN, o_iaddr, o_istr, o_slStr, o_slSl, o_lenS, o_lenL, o_mx, o_mn, o_ext, o_build, o_lit, o_litOwn, o_app, o_mk, o_mvfrz, l_int, l_bool, l_str, l_agg, l_sl, l_own, l_ptr, l_pp, i_int, i_bool, i_str, i_sl, i_own, i_ptr, i_pp, all0, all1, e_ok1, eff, effBin, effBinN, ld_ptr, ld_pp, ld_elt, ia_own, ia_arr, el_1, el_N, load1K, faddrE, r_iaddr, sg_S, sg_c, sg_n, purL, pur, List.map, List.drop, List.take, List.length, List.foldl, List.append_eq, List.nil_append, List.cons_append, List.getD_cons_zero, List.getD_cons_succ, reduceIte, Nat.reduceEqDiff, Nat.reduceAdd, Nat.reduceLeDiff, true_and, and_true, Bool.not_true, Bool.not_false, Bool.and_true, Bool.true_and, Bool.and_self, reduceCtorEq, true_implies, false_implies, implies_true, decide_eq_true_eq, Option.map_some, fpOf, fpX, SOp.xs, oX, refs, refsL, dom, disj, List.all_nil, List.all_cons, List.contains_cons, List.contains_nil, Nat.reduceBEq, Bool.or_false, Bool.false_or, List.append_nil, Bool.not_false, Bool.not_true, List.forall_mem_cons, fm0, List.set, Nat.reduceLT, ne_eq, not_false_eq_true, not_true_eq_false
, ret1, ret1N, keep0, keep1, rf_int, rf_bool, rf_str, rf_sl, rf_agg, rf_tup, rfL0, rfL1, re_t, re_cN, re_L0, re_L1, ret_tup, ret_one, decide_true, AV.bool.injEq, AV.int.injEq, Nat.reduceLeDiff, Bool.true_eq, Bool.false_eq, decide_eq_true_eq, decide_eq_false_iff_not, t_l23Low, t_l23High, t_l23Most, t_l21Min, t_l21Max, List.length_map, Stp7.row, Span2.row, span_eta, Int.toNat_natCast, toNat_pred, un_stp, take_rr, flatOk, noref, appE, rowsOf, ghost, path_eta, List.length_range, Nat.zero_add, Nat.sub_zero, set_lo, set_hi, toNat_succ, List.length_set]
  have no : ∀ k, k ≤ p.l.length → ¬ (p.fwd k).lo ≤ (p.fwd k).hi → AV.sl 0 2 [] = AV.sl 0 2 (List.map Span2.row p.spans) ∧ ¬ p.can := by
    intro k hk h
    have hn : ¬ p.can := fun hq => h (Path5.can_fwd hq hk)
    exact ⟨by rw [Path5.spans, if_neg hn]; rfl, hn⟩
  have e3 : List.map Span2.row (List.map p.fwd (List.range (i + 1))) = List.map Span2.row (List.map p.fwd (List.range i)) ++ [(p.fwd i).row] := by simp [List.range_succ]
  have N : i ≤ p.l.length → (p.fwd i).lo ≤ (p.fwd i).hi → G_l24a p (i + 1) := fun h h2 => ⟨by omega, fun j hj => by
    by_cases e : j = i
    · subst e; exact h2
    · exact hg.2 j (by omega)⟩
  refine ⟨fun h1 => ⟨by omega, by omega, fun h2 => ?_, fun h2 => ?_⟩, fun h1 => ?_⟩
  · obtain ⟨k, rfl⟩ : ∃ k, i = k + 1 := ⟨i - 1, by omega⟩
    have eg : ((List.range (k + 1)).map p.fwd).getD k default = p.fwd k := by simp
    have A := hg.2 k (by omega)
    have l1 := Path5.fwd_lo hc k (by omega)
    have l2 := Path5.fwd_hi hc k (by omega)
    have l3 := hc.most k
    have l4 := hc.q
    have l5 := hc.n
    have l6 := no (k + 1) (by omega)
    have l7 := N (by omega)
    simp only [Nat.add_sub_cancel, eg]
    simp only [Path5.fwd] at l6 l7 e3
    refine ⟨by omega, by omega, by omega, by omega, by omega, by omega, by omega, by omega, by omega, by omega, fun h3 => l6 (by omega), fun h3 => ⟨by omega, by omega, ?_⟩⟩
    refine loopK_of (k + 1 + 1) ⟨⟨.inr rfl, .inr rfl, .inr rfl, .inr rfl, trivial⟩, ?_, rfl, rfl⟩ (l7 (by omega)) (by omega)
    simp only [F_l24a, e3]
    exact ⟨rfl, rfl, trivial⟩
  · have e0 : i = 0 := by omega
    subst e0
    have l6 := no 0 (by omega)
    have l7 := N (by omega)
    simp only [Path5.fwd] at l6 l7 e3
    refine ⟨fun h3 => l6 (by omega), fun h3 => ⟨by omega, by omega, ?_⟩⟩
    refine loopK_of 1 ⟨⟨.inr rfl, .inr rfl, .inr rfl, .inr rfl, trivial⟩, ?_, rfl, rfl⟩ (l7 (by omega)) (by omega)
    simp only [F_l24a]
    exact ⟨rfl, rfl, trivial⟩
  · have hi : i = p.l.length + 1 := by have := hg.1; omega
    subst hi
    have hn := hc.n
    refine ⟨by omega, ?_⟩
    have m0 : p.mids 0 = (List.range (p.l.length + 1)).map p.fwd := by
      refine List.map_congr_left fun j hj => ?_
      have := List.mem_range.1 hj
      unfold Path5.mid
      split
      · have e : j = p.l.length := by omega
        subst e
        simp [Path5.span, Path5.bwd]
      · rfl
    refine loop_of (F_l24b p t) (G_l24b p) (fun d => p.l.length - d) 0 ⟨⟨.inr rfl, .inr rfl, .inr (by simp [w_getE1]), trivial⟩, ⟨rfl, by rw [m0]; rfl, trivial⟩, rfl, rfl⟩ ⟨by omega, fun j h1 h2 => ?_⟩ ?_
    · have e : j = p.l.length := by omega
      subst e
      have := hg.2 p.l.length (by omega)
      simpa [Path5.span, Path5.bwd] using this
    intro d hd
    unfold l_spec_l24Spans_1 F_l24b
    by_cases hdn : d < p.l.length
    · obtain ⟨k, hk⟩ : ∃ k, p.l.length = k + 1 + d := ⟨p.l.length - 1 - d, by omega⟩
      have e8 : (p.l.length : Int) - 1 - d = k := by omega
      rw [e8]
      simp only [w_skip, w_rg, w_rgd, w_seq, w_cond, w_block, w_loop, w_exit, w_ret, w_gh, w_rg0, w_rg1, w_rgT, w_rgF, w_run, w_psd, w_und, w_dr0, w_dr1, w_drT, w_drF, w_drRun, w_drPsd, w_drUnd, w_drKn, w_drKs, w_putK, w_trimK, w_thenN, w_thenE, w_thenR, w_scope, w_label, w_blkN, w_blkE, w_blkR, w_call, w_effK, brU_true, brU_false, brU_u, brU_not, brU_and, brU_or, brU_dec, brU_eq, brU_ne, br_true, br_false, br_not, br_and, br_or, br_dec, br_eq, br_ne, w_getE0, w_getE1, w_setE0, w_setE1, w_dropE0, w_dropE1, w_drop0, w_drop1, w_getM0, w_getM1, w_setM0, w_setM1, ev_v, ev_c, w_putS, w_putN, w_lit, w_apU0, w_apU1, w_apU2, w_trim, enumE0, enumE1, w_callWp, w_callA0, w_callA1, w_R0, w_R1, w_R2, w_T2, w_callL, w_callT, w_T1, w_T0, o_mv, o_newnil, o_pick, o_bin, o_binN, o_neg, o_not, o_eqB, o_eqS, o_conv, o_alloc, o_box, o_load1, o_loadN, o_store, o_nilck, o_faddr, o_field1, o_fieldN, o_iaddr, o_istr, o_slStr, o_slSl, o_lenS, o_lenL, o_mx, o_mn, o_ext, o_build, o_lit, o_litOwn, o_app, o_mk, o_mvfrz, l_int, l_bool, l_str, l_agg, l_sl, l_own, l_ptr, l_pp, i_int, i_bool, i_str, i_sl, i_own, i_ptr, i_pp, all0, all1, e_ok1, eff, effBin, effBinN, ld_ptr, ld_pp, ld_elt, ia_own, ia_arr, el_1, el_N, load1K, faddrE, r_iaddr, sg_S, sg_c, sg_n, purL, pur, List.map, List.drop, List.take, List.length, List.foldl, List.append_eq, List.nil_append, List.cons_append, List.getD_cons_zero, List.getD_cons_succ, reduceIte, Nat.reduceEqDiff, Nat.reduceAdd, Nat.reduceLeDiff, true_and, and_true, Bool.not_true, Bool.not_false, Bool.and_true, Bool.true_and, Bool.and_self, reduceCtorEq, true_implies, false_implies, implies_true, decide_eq_true_eq, Option.map_some, fpOf, fpX, SOp.xs, oX, refs, refsL, dom, disj, List.all_nil, List.all_cons, List.contains_cons, List.contains_nil, Nat.reduceBEq, Bool.or_false, Bool.false_or, List.append_nil, Bool.not_false, Bool.not_true, List.forall_mem_cons, fm0, List.set, Nat.reduceLT, ne_eq, not_false_eq_true, not_true_eq_false
, ret1, ret1N, keep0, keep1, rf_int, rf_bool, rf_str, rf_sl, rf_agg, rf_tup, rfL0, rfL1, re_t, re_cN, re_L0, re_L1, ret_tup, ret_one, decide_true, AV.bool.injEq, AV.int.injEq, Nat.reduceLeDiff, Bool.true_eq, Bool.false_eq, decide_eq_true_eq, decide_eq_false_iff_not, t_l23Low, t_l23High, t_l23Most, t_l21Min, t_l21Max, List.length_map, Stp7.row, Span2.row, span_eta, Int.toNat_natCast, toNat_pred, un_stp, take_rr, flatOk, noref, appE, rowsOf, ghost, path_eta, List.length_range, Nat.zero_add, Nat.sub_zero, set_lo, set_hi, toNat_succ, List.length_set]
      have len : (p.mids d).length = p.l.length + 1 := by simp [Path5.mids]
      have gk : (p.mids d).getD k default = p.fwd k := by
        simp [Path5.mids, Path5.mid, show k < p.l.length + 1 by omega]
        omega
      have gk1 : (p.mids d).getD (k + 1) default = p.span (k + 1) := by
        simp [Path5.mids, Path5.mid, show k + 1 < p.l.length + 1 by omega]
        omega
      have s1 : ∀ x, ((p.mids d).set k x).getD (k + 1) default = p.span (k + 1) := fun x => by
        rw [← gk1]; simp [List.getD_eq_getElem?_getD, List.getElem?_set_ne]
      have s2 : ∀ x, ((p.mids d).set k x).getD k default = x := fun x => by
        simp [List.getD_eq_getElem?_getD, len, show k < p.l.length + 1 by omega]
      have sp : p.span k = ⟨max (p.fwd k).lo ((p.span (k + 1)).lo - p.most k), min (p.fwd k).hi ((p.span (k + 1)).hi - p.q)⟩ := by
        have h1 : p.l.length - k = d + 1 := by omega
        have h2 : p.l.length - (k + 1) = d := by omega
        have h3 : p.l.length - (d + 1) = k := by omega
        simp only [Path5.span, h1, h2, Path5.bwd, h3]
      have fin : (p.mids d).set k (p.span k) = p.mids (d + 1) := by
        refine List.ext_getElem (by simp [Path5.mids]) fun j h1 h2 => ?_
        simp only [Path5.mids, List.length_map, List.length_range] at h2
        by_cases e : j = k
        · subst e
          simp [Path5.mids, Path5.mid, show p.l.length - (d + 1) ≤ j by omega]
        · simp [Path5.mids, Path5.mid, List.getElem_set_ne (Ne.symm e)]
          have h3 : p.l.length ≤ j + d ↔ p.l.length ≤ j + (d + 1) := by omega
          simp only [h3]
      have l1 := Path5.fwd_lo hc k (by omega)
      have l2 := Path5.fwd_hi hc k (by omega)
      have l3 := hc.most k
      have l4 := hc.q
      have b1 := hd.2 (k + 1) (by omega) (by omega)
      have b2 := p.bwd_lo d (by omega)
      have b3 := p.bwd_hi d (by omega)
      rw [show p.l.length - d = k + 1 by omega] at b2 b3
      have b4 := Path5.fwd_lo hc (k + 1) (by omega)
      have b5 := Path5.fwd_hi hc (k + 1) (by omega)
      have hs1 : p.span (k + 1) = p.bwd d := by simp only [Path5.span]; rw [show p.l.length - (k + 1) = d by omega]
      rw [hs1] at b1
      simp only [gk, gk1, s1, s2, List.set_set, len]
      rw [← sp, fin]
      rw [hs1]
      rw [hs1] at sp
      have e9 : (p.l.length : Int) - 1 - ((d + 1 : Nat) : Int) = (k : Int) - 1 := by omega
      refine ⟨fun _ => ⟨by omega, by omega, by omega, by omega, by omega, by omega, by omega, by omega, by omega, by omega, by omega, by omega, by omega, by omega, by omega, by omega, by omega, by omega, by omega, fun h3 => ?_, fun h3 => ⟨by omega, ?_⟩⟩, fun h => absurd (by omega) h⟩
      · have hq : ¬ p.can := fun hq => by have := hq k (by omega); rw [sp] at this; simp only at this; omega
        exact ⟨by rw [Path5.spans, if_neg hq]; rfl, hq⟩
      · refine loopK_of (d + 1) ⟨⟨.inr rfl, .inr rfl, .inr (by rw [e9]; rfl), trivial⟩, ⟨rfl, rfl, trivial⟩, rfl, rfl⟩ ⟨by omega, fun j h4 h5 => ?_⟩ (by omega)
        by_cases e : j = k
        · subst e; rw [sp]; simp only; omega
        · exact hd.2 j (by omega) h5
    · have e8 : (p.l.length : Int) - 1 - d = -1 := by have := hd.1; omega
      rw [e8]
      simp only [w_skip, w_rg, w_rgd, w_seq, w_cond, w_block, w_loop, w_exit, w_ret, w_gh, w_rg0, w_rg1, w_rgT, w_rgF, w_run, w_psd, w_und, w_dr0, w_dr1, w_drT, w_drF, w_drRun, w_drPsd, w_drUnd, w_drKn, w_drKs, w_putK, w_trimK, w_thenN, w_thenE, w_thenR, w_scope, w_label, w_blkN, w_blkE, w_blkR, w_call, w_effK, brU_true, brU_false, brU_u, brU_not, brU_and, brU_or, brU_dec, brU_eq, brU_ne, br_true, br_false, br_not, br_and, br_or, br_dec, br_eq, br_ne, w_getE0, w_getE1, w_setE0, w_setE1, w_dropE0, w_dropE1, w_drop0, w_drop1, w_getM0, w_getM1, w_setM0, w_setM1, ev_v, ev_c, w_putS, w_putN, w_lit, w_apU0, w_apU1, w_apU2, w_trim, enumE0, enumE1, w_callWp, w_callA0, w_callA1, w_R0, w_R1, w_R2, w_T2, w_callL, w_callT, w_T1, w_T0, o_mv, o_newnil, o_pick, o_bin, o_binN, o_neg, o_not, o_eqB, o_eqS, o_conv, o_alloc, o_box, o_load1, o_loadN, o_store, o_nilck, o_faddr, o_field1, o_fieldN, o_iaddr, o_istr, o_slStr, o_slSl, o_lenS, o_lenL, o_mx, o_mn, o_ext, o_build, o_lit, o_litOwn, o_app, o_mk, o_mvfrz, l_int, l_bool, l_str, l_agg, l_sl, l_own, l_ptr, l_pp, i_int, i_bool, i_str, i_sl, i_own, i_ptr, i_pp, all0, all1, e_ok1, eff, effBin, effBinN, ld_ptr, ld_pp, ld_elt, ia_own, ia_arr, el_1, el_N, load1K, faddrE, r_iaddr, sg_S, sg_c, sg_n, purL, pur, List.map, List.drop, List.take, List.length, List.foldl, List.append_eq, List.nil_append, List.cons_append, List.getD_cons_zero, List.getD_cons_succ, reduceIte, Nat.reduceEqDiff, Nat.reduceAdd, Nat.reduceLeDiff, true_and, and_true, Bool.not_true, Bool.not_false, Bool.and_true, Bool.true_and, Bool.and_self, reduceCtorEq, true_implies, false_implies, implies_true, decide_eq_true_eq, Option.map_some, fpOf, fpX, SOp.xs, oX, refs, refsL, dom, disj, List.all_nil, List.all_cons, List.contains_cons, List.contains_nil, Nat.reduceBEq, Bool.or_false, Bool.false_or, List.append_nil, Bool.not_false, Bool.not_true, List.forall_mem_cons, fm0, List.set, Nat.reduceLT, ne_eq, not_false_eq_true, not_true_eq_false
, ret1, ret1N, keep0, keep1, rf_int, rf_bool, rf_str, rf_sl, rf_agg, rf_tup, rfL0, rfL1, re_t, re_cN, re_L0, re_L1, ret_tup, ret_one, decide_true, AV.bool.injEq, AV.int.injEq, Nat.reduceLeDiff, Bool.true_eq, Bool.false_eq, decide_eq_true_eq, decide_eq_false_iff_not, t_l23Low, t_l23High, t_l23Most, t_l21Min, t_l21Max, List.length_map, Stp7.row, Span2.row, span_eta, Int.toNat_natCast, toNat_pred, un_stp, take_rr, flatOk, noref, appE, rowsOf, ghost, path_eta, List.length_range, Nat.zero_add, Nat.sub_zero, set_lo, set_hi, toNat_succ, List.length_set]
      have hcan : p.can := fun j hj => hd.2 j (by omega) hj
      have hmm : p.mids d = (List.range (p.l.length + 1)).map p.span := List.map_congr_left fun j hj => if_pos (by omega)
      exact ⟨fun h => absurd h (by decide), fun _ => ⟨by rw [Path5.spans, if_pos hcan, hmm, List.take_of_length_le (by simp)], hcan⟩⟩
end Go.Ve

namespace Go.Ve
open Go.Proofs
set_option linter.unusedSimpArgs false
set_option linter.unusedVariables false
set_option maxRecDepth 100000
theorem c_bound (q s : Int) (t : Nat) (l : List Stp7) (f b k : Int) (hp : 0 ≤ k ∧ k ≤ l.length) : Contract P 107 [.agg [.int .i64 q, .int .i64 s, .sl t 7 (l.map Stp7.row), .int .i64 f, .int .i64 b], .int .i64 k] [] (.tup [.int .i64 (Path5.low ⟨q, s, l, f, b⟩ k.toNat), .int .i64 (Path5.high ⟨q, s, l, f, b⟩ k.toNat)]) [] := by
  refine fn_sound (Env.nil P) hm k_impl_FlyPath_bound (Nat.le_of_ble_eq_true rfl) rfl ?_
  unfold s_impl_FlyPath_bound
  simp only [w_skip, w_rg, w_rgd, w_seq, w_cond, w_block, w_loop, w_exit, w_ret, w_gh, w_rg0, w_rg1, w_rgT, w_rgF, w_run, w_psd, w_und, w_dr0, w_dr1, w_drT, w_drF, w_drRun, w_drPsd, w_drUnd, w_drKn, w_drKs, w_putK, w_trimK, w_thenN, w_thenE, w_thenR, w_scope, w_label, w_blkN, w_blkE, w_blkR, w_call, w_effK, brU_true, brU_false, brU_u, brU_not, brU_and, brU_or, brU_dec, brU_eq, brU_ne, br_true, br_false, br_not, br_and, br_or, br_dec, br_eq, br_ne, w_getE0, w_getE1, w_setE0, w_setE1, w_dropE0, w_dropE1, w_drop0, w_drop1, w_getM0, w_getM1, w_setM0, w_setM1, ev_v, ev_c, w_putS, w_putN, w_lit, w_apU0, w_apU1, w_apU2, w_trim, enumE0, enumE1, w_callWp, w_callA0, w_callA1, w_R0, w_R1, w_R2, w_T2, w_callL, w_callT, w_T1, w_T0, o_mv, o_newnil, o_pick, o_bin, o_binN, o_neg, o_not, o_eqB, o_eqS, o_conv, o_alloc, o_box, o_load1, o_loadN, o_store, o_nilck, o_faddr, o_field1, o_fieldN, o_iaddr, o_istr, o_slStr, o_slSl, o_lenS, o_lenL, o_mx, o_mn, o_ext, o_build, o_lit, o_litOwn, o_app, o_mk, o_mvfrz, l_int, l_bool, l_str, l_agg, l_sl, l_own, l_ptr, l_pp, i_int, i_bool, i_str, i_sl, i_own, i_ptr, i_pp, all0, all1, e_ok1, eff, effBin, effBinN, ld_ptr, ld_pp, ld_elt, ia_own, ia_arr, el_1, el_N, load1K, faddrE, r_iaddr, sg_S, sg_c, sg_n, purL, pur, List.map, List.drop, List.take, List.length, List.foldl, List.append_eq, List.nil_append, List.cons_append, List.getD_cons_zero, List.getD_cons_succ, reduceIte, Nat.reduceEqDiff, Nat.reduceAdd, Nat.reduceLeDiff, true_and, and_true, Bool.not_true, Bool.not_false, Bool.and_true, Bool.true_and, Bool.and_self, reduceCtorEq, true_implies, false_implies, implies_true, decide_eq_true_eq, Option.map_some, fpOf, fpX, SOp.xs, oX, refs, refsL, dom, disj, List.all_nil, List.all_cons, List.contains_cons, List.contains_nil, Nat.reduceBEq, Bool.or_false, Bool.false_or, List.append_nil, Bool.not_false, Bool.not_true, List.forall_mem_cons, fm0, List.set, Nat.reduceLT, ne_eq, not_false_eq_true, not_true_eq_false
, ret1, ret1N, keep0, keep1, rf_int, rf_bool, rf_str, rf_sl, rf_agg, rf_tup, rfL0, rfL1, re_t, re_cN, re_L0, re_L1, ret_tup, ret_one, decide_true, AV.bool.injEq, AV.int.injEq, Nat.reduceLeDiff, Bool.true_eq, Bool.false_eq, decide_eq_true_eq, decide_eq_false_iff_not, List.length_map, Stp7.row]
  simp only [Path5.low, Path5.high]
  refine ⟨fun h => ?_, fun h => ?_⟩
  · rw [if_neg (by omega), if_neg (by omega)]; exact ⟨rfl, rfl⟩
  · rw [if_pos (by omega), if_pos (by omega)]; exact ⟨by omega, by omega, by omega, by omega, rfl, rfl⟩
def t_bound : List AV → Option (Prop × AV)
  | [.agg [.int .i64 q, .int .i64 s, .sl t 7 xs, .int .i64 f, .int .i64 b], .int .i64 k] => some ((xs.map unStp).map Stp7.row = xs ∧ (let l := xs.map unStp; 0 ≤ k ∧ k ≤ l.length), let l := xs.map unStp; .tup [.int .i64 (Path5.low ⟨q, s, l, f, b⟩ k.toNat), .int .i64 (Path5.high ⟨q, s, l, f, b⟩ k.toNat)])
  | _ => none
theorem h_bound : ∀ args p v, t_bound args = some (p, v) → p → Contract P 107 args [] v [] ∧ noref v = true ∧ No99 v := by
  intro args p v h1 h2
  unfold t_bound at h1
  split at h1
  · rename_i q s t xs f b k
    cases h1
    have := c_bound q s t (xs.map unStp) f b k h2.2
    rw [h2.1] at this
    exact ⟨this, rfl, trivial, trivial, trivial⟩
  · cases h1
def irow (n : Int) : List AV := [.int .i64 n]
def unI : List AV → Int
  | [.int _ n] => n
  | _ => 0
theorem un_i (l : List Int) : (l.map irow).map unI = l := by
  rw [List.map_map]; exact List.map_id'' (fun s => rfl) l
theorem getD_range {g : Nat → Span2} {m k : Nat} (h : k < m) : ((List.range m).map g).getD k default = g k := by simp [h]
theorem set_range {g : Nat → Span2} {m k : Nat} {x : Span2} : ((List.range m).map g).set k x = (List.range m).map fun j => if j = k then x else g j := by
  refine List.ext_getElem (by simp) fun j h1 h2 => ?_
  by_cases e : j = k
  · subst e; simp
  · simp [e, List.getElem_set_ne (Ne.symm e)]
/-- What the program starts from. -/
def Path5.ini (p : Path5) (bg : List Int) (k : Nat) : Span2 := if k < bg.length then ⟨max (p.low k) (bg.getD k default), min (p.high k) (bg.getD k default)⟩ else ⟨p.low k, p.high k⟩
def sp0 (p : Path5) (bg : List Int) (k j : Nat) : Span2 := if j < k then p.ini bg j else ⟨0, 0⟩
def F_sp0 (p : Path5) (t t' : Nat) (bg : List Int) (k : Nat) : St := ⟨[(1, .sl t' 1 (bg.map irow)), (2, .ptr 102 0), (6, .int .i64 p.l.length), (7, .own 118 0 0 (p.l.length + 1)), (20, .int .i64 ((p.l.length + 1 : Nat) : Int)), (21, .int .i64 k)],
  [(102, .box [.int .i64 p.q, .int .i64 p.s, .sl t 7 (p.l.map Stp7.row), .int .i64 p.f, .int .i64 p.b]), (118, .arr 114 0 2 (((List.range (p.l.length + 1)).map (sp0 p bg k)).map Span2.row))]⟩
theorem br_hold {s : Stp7} {A B : St → Prop} {sa sb : St} : br (.bool s.hold) A sa B sb = ((s.hold = true → A sa) ∧ (s.hold = false → B sb)) := (rfl)
/-- Ahead, as the program does it. -/
def Path5.wf (p : Path5) (bg : List Int) : Nat → Span2
  | 0 => p.ini bg 0
  | k + 1 => ⟨max (p.ini bg (k + 1)).lo (IntKind.i64.wrap ((p.wf bg k).lo + p.q)), if (p.l.getD k default).hold then (p.ini bg (k + 1)).hi else min (p.ini bg (k + 1)).hi (IntKind.i64.wrap ((p.wf bg k).hi + p.s))⟩
def sp1 (p : Path5) (bg : List Int) (k j : Nat) : Span2 := if j < k then p.wf bg j else p.ini bg j
def F_sp1 (p : Path5) (t : Nat) (bg : List Int) (k : Nat) : St := ⟨[(2, .ptr 102 0), (6, .int .i64 p.l.length), (7, .own 118 0 0 (p.l.length + 1)), (9, .int .i64 k)],
  [(102, .box [.int .i64 p.q, .int .i64 p.s, .sl t 7 (p.l.map Stp7.row), .int .i64 p.f, .int .i64 p.b]), (118, .arr 114 0 2 (((List.range (p.l.length + 1)).map (sp1 p bg k)).map Span2.row))]⟩
/-- Back again, as the program does it. -/
def Path5.wb (p : Path5) (bg : List Int) : Nat → Span2
  | 0 => p.wf bg p.l.length
  | d + 1 => ⟨if (p.l.getD (p.l.length - (d + 1)) default).hold then (p.wf bg (p.l.length - (d + 1))).lo else max (p.wf bg (p.l.length - (d + 1))).lo (IntKind.i64.wrap ((p.wb bg d).lo - p.s)), min (p.wf bg (p.l.length - (d + 1))).hi (IntKind.i64.wrap ((p.wb bg d).hi - p.q))⟩
def Path5.wsp (p : Path5) (bg : List Int) (j : Nat) : Span2 := p.wb bg (p.l.length - j)
def Path5.wcan (p : Path5) (bg : List Int) : Prop := ∀ k, k < p.l.length + 1 → (p.wsp bg k).lo ≤ (p.wsp bg k).hi
instance (p : Path5) (bg : List Int) : Decidable (p.wcan bg) := by unfold Path5.wcan; infer_instance
def Path5.wspans (p : Path5) (bg : List Int) : List Span2 := if p.wcan bg then (List.range (p.l.length + 1)).map (p.wsp bg) else []
def F_sp3 (p : Path5) (t : Nat) (bg : List Int) (k : Nat) : St := ⟨[(7, .own 118 0 0 (p.l.length + 1)), (177, .own 118 0 0 (p.l.length + 1)), (178, .int .i64 ((p.l.length + 1 : Nat) : Int)), (179, .int .i64 k)],
  [(118, .arr 114 0 2 (((List.range (p.l.length + 1)).map (p.wsp bg)).map Span2.row))]⟩
def sp2 (p : Path5) (bg : List Int) (d j : Nat) : Span2 := if p.l.length - d ≤ j then p.wsp bg j else p.wf bg j
def F_sp2 (p : Path5) (t : Nat) (bg : List Int) (d : Nat) : St := ⟨[(2, .ptr 102 0), (7, .own 118 0 0 (p.l.length + 1)), (10, .int .i64 ((p.l.length : Int) - 1 - d))],
  [(102, .box [.int .i64 p.q, .int .i64 p.s, .sl t 7 (p.l.map Stp7.row), .int .i64 p.f, .int .i64 p.b]), (118, .arr 114 0 2 (((List.range (p.l.length + 1)).map (sp2 p bg d)).map Span2.row))]⟩
theorem max_if (a b : Int) : (if b > a then b else a) = max a b := by omega
theorem c_spans (p : Path5) (t t' : Nat) (bg : List Int) (hn : p.l.length ≤ 40) (hb : bg.length ≤ p.l.length) : Contract P 113 [.agg [.int .i64 p.q, .int .i64 p.s, .sl t 7 (p.l.map Stp7.row), .int .i64 p.f, .int .i64 p.b], .sl t' 1 (bg.map irow)] [] (.tup [.sl 0 2 ((p.wspans bg).map Span2.row), .bool (decide (p.wcan bg))]) [] := by
  refine fn_sound ((Env.nil P).add 107 t_bound h_bound) hm k_impl_FlyPath_spans (Nat.le_of_ble_eq_true rfl) rfl ?_
  unfold s_impl_FlyPath_spans
  simp only [w_skip, w_rg, w_rgd, w_seq, w_cond, w_block, w_loop, w_exit, w_ret, w_gh, w_rg0, w_rg1, w_rgT, w_rgF, w_run, w_psd, w_und, w_dr0, w_dr1, w_drT, w_drF, w_drRun, w_drPsd, w_drUnd, w_drKn, w_drKs, w_putK, w_trimK, w_thenN, w_thenE, w_thenR, w_scope, w_label, w_blkN, w_blkE, w_blkR, w_call, w_effK, brU_true, brU_false, brU_u, brU_not, brU_and, brU_or, brU_dec, brU_eq, brU_ne, br_true, br_false, br_not, br_and, br_or, br_dec, br_eq, br_ne, w_getE0, w_getE1, w_setE0, w_setE1, w_dropE0, w_dropE1, w_drop0, w_drop1, w_getM0, w_getM1, w_setM0, w_setM1, ev_v, ev_c, w_putS, w_putN, w_lit, w_apU0, w_apU1, w_apU2, w_trim, enumE0, enumE1, w_callWp, w_callA0, w_callA1, w_R0, w_R1, w_R2, w_T2, w_callL, w_callT, w_T1, w_T0, o_mv, o_newnil, o_pick, o_bin, o_binN, o_neg, o_not, o_eqB, o_eqS, o_conv, o_alloc, o_box, o_load1, o_loadN, o_store, o_nilck, o_faddr, o_field1, o_fieldN, o_iaddr, o_istr, o_slStr, o_slSl, o_lenS, o_lenL, o_mx, o_mn, o_ext, o_build, o_lit, o_litOwn, o_app, o_mk, o_mvfrz, l_int, l_bool, l_str, l_agg, l_sl, l_own, l_ptr, l_pp, i_int, i_bool, i_str, i_sl, i_own, i_ptr, i_pp, all0, all1, e_ok1, eff, effBin, effBinN, ld_ptr, ld_pp, ld_elt, ia_own, ia_arr, el_1, el_N, load1K, faddrE, r_iaddr, sg_S, sg_c, sg_n, purL, pur, List.map, List.drop, List.take, List.length, List.foldl, List.append_eq, List.nil_append, List.cons_append, List.getD_cons_zero, List.getD_cons_succ, reduceIte, Nat.reduceEqDiff, Nat.reduceAdd, Nat.reduceLeDiff, true_and, and_true, Bool.not_true, Bool.not_false, Bool.and_true, Bool.true_and, Bool.and_self, reduceCtorEq, true_implies, false_implies, implies_true, decide_eq_true_eq, Option.map_some, fpOf, fpX, SOp.xs, oX, refs, refsL, dom, disj, List.all_nil, List.all_cons, List.contains_cons, List.contains_nil, Nat.reduceBEq, Bool.or_false, Bool.false_or, List.append_nil, Bool.not_false, Bool.not_true, List.forall_mem_cons, fm0, List.set, Nat.reduceLT, ne_eq, not_false_eq_true, not_true_eq_false
, ret1, ret1N, keep0, keep1, rf_int, rf_bool, rf_str, rf_sl, rf_agg, rf_tup, rfL0, rfL1, re_t, re_cN, re_L0, re_L1, ret_tup, ret_one, decide_true, AV.bool.injEq, AV.int.injEq, Nat.reduceLeDiff, Bool.true_eq, Bool.false_eq, decide_eq_true_eq, decide_eq_false_iff_not, t_bound, List.length_map, Stp7.row, Span2.row, irow, span_eta, path_eta, Int.toNat_natCast, toNat_pred, toNat_succ, un_stp, flatOk, noref, ghost, List.length_range, Nat.zero_add, Nat.sub_zero, set_lo, set_hi, List.length_set, min_if, max_if, br_hold]
  have i0 : List.replicate (p.l.length + 1) [AV.int .i64 0, AV.int .i64 0] = ((List.range (p.l.length + 1)).map (sp0 p bg 0)).map Span2.row := by
    refine List.ext_getElem (by simp) fun j h1 h2 => by simp [sp0, Span2.row]
  refine ⟨by omega, by omega, loop_of (F_sp0 p t t' bg) (fun k => k ≤ p.l.length + 1) (fun k => p.l.length + 1 - k) 0 ⟨⟨.inr rfl, .inr rfl, .inr rfl, .inr rfl, .inr rfl, .inr rfl, trivial⟩, ⟨rfl, by rw [← i0]; rfl, trivial⟩, rfl, rfl⟩ (Nat.zero_le _) ?_⟩
  intro k hk
  unfold l_impl_FlyPath_spans_0 F_sp0
  simp only [w_skip, w_rg, w_rgd, w_seq, w_cond, w_block, w_loop, w_exit, w_ret, w_gh, w_rg0, w_rg1, w_rgT, w_rgF, w_run, w_psd, w_und, w_dr0, w_dr1, w_drT, w_drF, w_drRun, w_drPsd, w_drUnd, w_drKn, w_drKs, w_putK, w_trimK, w_thenN, w_thenE, w_thenR, w_scope, w_label, w_blkN, w_blkE, w_blkR, w_call, w_effK, brU_true, brU_false, brU_u, brU_not, brU_and, brU_or, brU_dec, brU_eq, brU_ne, br_true, br_false, br_not, br_and, br_or, br_dec, br_eq, br_ne, w_getE0, w_getE1, w_setE0, w_setE1, w_dropE0, w_dropE1, w_drop0, w_drop1, w_getM0, w_getM1, w_setM0, w_setM1, ev_v, ev_c, w_putS, w_putN, w_lit, w_apU0, w_apU1, w_apU2, w_trim, enumE0, enumE1, w_callWp, w_callA0, w_callA1, w_R0, w_R1, w_R2, w_T2, w_callL, w_callT, w_T1, w_T0, o_mv, o_newnil, o_pick, o_bin, o_binN, o_neg, o_not, o_eqB, o_eqS, o_conv, o_alloc, o_box, o_load1, o_loadN, o_store, o_nilck, o_faddr, o_field1, o_fieldN, o_iaddr, o_istr, o_slStr, o_slSl, o_lenS, o_lenL, o_mx, o_mn, o_ext, o_build, o_lit, o_litOwn, o_app, o_mk, o_mvfrz, l_int, l_bool, l_str, l_agg, l_sl, l_own, l_ptr, l_pp, i_int, i_bool, i_str, i_sl, i_own, i_ptr, i_pp, all0, all1, e_ok1, eff, effBin, effBinN, ld_ptr, ld_pp, ld_elt, ia_own, ia_arr, el_1, el_N, load1K, faddrE, r_iaddr, sg_S, sg_c, sg_n, purL, pur, List.map, List.drop, List.take, List.length, List.foldl, List.append_eq, List.nil_append, List.cons_append, List.getD_cons_zero, List.getD_cons_succ, reduceIte, Nat.reduceEqDiff, Nat.reduceAdd, Nat.reduceLeDiff, true_and, and_true, Bool.not_true, Bool.not_false, Bool.and_true, Bool.true_and, Bool.and_self, reduceCtorEq, true_implies, false_implies, implies_true, decide_eq_true_eq, Option.map_some, fpOf, fpX, SOp.xs, oX, refs, refsL, dom, disj, List.all_nil, List.all_cons, List.contains_cons, List.contains_nil, Nat.reduceBEq, Bool.or_false, Bool.false_or, List.append_nil, Bool.not_false, Bool.not_true, List.forall_mem_cons, fm0, List.set, Nat.reduceLT, ne_eq, not_false_eq_true, not_true_eq_false
, ret1, ret1N, keep0, keep1, rf_int, rf_bool, rf_str, rf_sl, rf_agg, rf_tup, rfL0, rfL1, re_t, re_cN, re_L0, re_L1, ret_tup, ret_one, decide_true, AV.bool.injEq, AV.int.injEq, Nat.reduceLeDiff, Bool.true_eq, Bool.false_eq, decide_eq_true_eq, decide_eq_false_iff_not, t_bound, List.length_map, Stp7.row, Span2.row, irow, span_eta, path_eta, Int.toNat_natCast, toNat_pred, toNat_succ, un_stp, flatOk, noref, ghost, List.length_range, Nat.zero_add, Nat.sub_zero, set_lo, set_hi, List.length_set, min_if, max_if, br_hold]
  refine ⟨fun h1 => ?_, fun h1 => ?_⟩
  · have h1' : k < p.l.length + 1 := by omega
    have rw0 : ∀ (g : Nat → Span2), g = sp0 p bg (k + 1) → some (AObj.arr 114 0 2 (List.map Span2.row (List.map g (List.range (p.l.length + 1))))) = some (AObj.arr 114 0 2 (List.map Span2.row (List.map (sp0 p bg (k + 1)) (List.range (p.l.length + 1))))) := fun g h => by rw [h]
    simp only [set_range, getD_range h1', reduceIte]
    refine ⟨by omega, by omega, by omega, fun h2 => ⟨by omega, by omega, by omega, by omega, by omega, by omega, by omega, by omega, by omega, by omega, by omega, loopK_of (k + 1) ⟨⟨.inr rfl, .inr rfl, .inr rfl, .inr rfl, .inr rfl, .inr rfl, trivial⟩, ⟨rfl, rw0 _ (funext fun j => ?_), trivial⟩, rfl, rfl⟩ h1' (by omega)⟩, fun h2 => ⟨by omega, loopK_of (k + 1) ⟨⟨.inr rfl, .inr rfl, .inr rfl, .inr rfl, .inr rfl, .inr rfl, trivial⟩, ⟨rfl, rw0 _ (funext fun j => ?_), trivial⟩, rfl, rfl⟩ h1' (by omega)⟩⟩
    · by_cases e : j = k
      · subst e; simp only [reduceIte, sp0, Path5.ini, if_pos (show j < j + 1 by omega), if_pos (show j < bg.length by omega)]
      · simp only [if_neg e, sp0, show (j < k + 1) = (j < k) from propext (by omega)]
    · by_cases e : j = k
      · subst e; simp only [reduceIte, sp0, Path5.ini, if_pos (show j < j + 1 by omega), if_neg (show ¬ j < bg.length by omega)]
      · simp only [if_neg e, sp0, show (j < k + 1) = (j < k) from propext (by omega)]
  · have hkn : k = p.l.length + 1 := by omega
    subst hkn
    refine loop_of (F_sp1 p t bg) (fun k => 1 ≤ k ∧ k ≤ p.l.length + 1) (fun k => p.l.length + 1 - k) 1 ⟨⟨.inr rfl, .inr rfl, .inr rfl, .inr rfl, trivial⟩, ⟨rfl, congrArg (fun g => some (AObj.arr 114 0 2 (List.map Span2.row g))) (List.map_congr_left fun j hj => ?_), trivial⟩, rfl, rfl⟩ ⟨by omega, by omega⟩ ?_
    · have := List.mem_range.1 hj
      by_cases e : j = 0
      · subst e; simp [sp0, sp1, Path5.wf]
      · simp only [sp0, sp1, if_pos this, if_neg (show ¬ j < 1 by omega)]
    intro k hk
    unfold l_impl_FlyPath_spans_1 F_sp1
    simp only [w_skip, w_rg, w_rgd, w_seq, w_cond, w_block, w_loop, w_exit, w_ret, w_gh, w_rg0, w_rg1, w_rgT, w_rgF, w_run, w_psd, w_und, w_dr0, w_dr1, w_drT, w_drF, w_drRun, w_drPsd, w_drUnd, w_drKn, w_drKs, w_putK, w_trimK, w_thenN, w_thenE, w_thenR, w_scope, w_label, w_blkN, w_blkE, w_blkR, w_call, w_effK, brU_true, brU_false, brU_u, brU_not, brU_and, brU_or, brU_dec, brU_eq, brU_ne, br_true, br_false, br_not, br_and, br_or, br_dec, br_eq, br_ne, w_getE0, w_getE1, w_setE0, w_setE1, w_dropE0, w_dropE1, w_drop0, w_drop1, w_getM0, w_getM1, w_setM0, w_setM1, ev_v, ev_c, w_putS, w_putN, w_lit, w_apU0, w_apU1, w_apU2, w_trim, enumE0, enumE1, w_callWp, w_callA0, w_callA1, w_R0, w_R1, w_R2, w_T2, w_callL, w_callT, w_T1, w_T0, o_mv, o_newnil, o_pick, o_bin, o_binN, o_neg, o_not, o_eqB, o_eqS, o_conv, o_alloc, o_box, o_load1, o_loadN, o_store, o_nilck, o_faddr, o_field1, o_fieldN, o_iaddr, o_istr, o_slStr, o_slSl, o_lenS, o_lenL, o_mx, o_mn, o_ext, o_build, o_lit, o_litOwn, o_app, o_mk, o_mvfrz, l_int, l_bool, l_str, l_agg, l_sl, l_own, l_ptr, l_pp, i_int, i_bool, i_str, i_sl, i_own, i_ptr, i_pp, all0, all1, e_ok1, eff, effBin, effBinN, ld_ptr, ld_pp, ld_elt, ia_own, ia_arr, el_1, el_N, load1K, faddrE, r_iaddr, sg_S, sg_c, sg_n, purL, pur, List.map, List.drop, List.take, List.length, List.foldl, List.append_eq, List.nil_append, List.cons_append, List.getD_cons_zero, List.getD_cons_succ, reduceIte, Nat.reduceEqDiff, Nat.reduceAdd, Nat.reduceLeDiff, true_and, and_true, Bool.not_true, Bool.not_false, Bool.and_true, Bool.true_and, Bool.and_self, reduceCtorEq, true_implies, false_implies, implies_true, decide_eq_true_eq, Option.map_some, fpOf, fpX, SOp.xs, oX, refs, refsL, dom, disj, List.all_nil, List.all_cons, List.contains_cons, List.contains_nil, Nat.reduceBEq, Bool.or_false, Bool.false_or, List.append_nil, Bool.not_false, Bool.not_true, List.forall_mem_cons, fm0, List.set, Nat.reduceLT, ne_eq, not_false_eq_true, not_true_eq_false
, ret1, ret1N, keep0, keep1, rf_int, rf_bool, rf_str, rf_sl, rf_agg, rf_tup, rfL0, rfL1, re_t, re_cN, re_L0, re_L1, ret_tup, ret_one, decide_true, AV.bool.injEq, AV.int.injEq, Nat.reduceLeDiff, Bool.true_eq, Bool.false_eq, decide_eq_true_eq, decide_eq_false_iff_not, t_bound, List.length_map, Stp7.row, Span2.row, irow, span_eta, path_eta, Int.toNat_natCast, toNat_pred, toNat_succ, un_stp, flatOk, noref, ghost, List.length_range, Nat.zero_add, Nat.sub_zero, set_lo, set_hi, List.length_set, min_if, max_if, br_hold]
    refine ⟨fun h1 => ?_, fun h1 => ?_⟩
    · obtain ⟨i, rfl⟩ : ∃ i, k = i + 1 := ⟨k - 1, by omega⟩
      have h1' : i + 1 < p.l.length + 1 := by omega
      have h2' : i < p.l.length + 1 := by omega
      have ne : ¬ i = i + 1 := by omega
      have rw0 : ∀ (g : Nat → Span2), g = sp1 p bg (i + 1 + 1) → some (AObj.arr 114 0 2 (List.map Span2.row (List.map g (List.range (p.l.length + 1))))) = some (AObj.arr 114 0 2 (List.map Span2.row (List.map (sp1 p bg (i + 1 + 1)) (List.range (p.l.length + 1))))) := fun g h => by rw [h]
      simp only [Nat.add_sub_cancel, set_range, getD_range h1', getD_range h2', reduceIte, if_neg ne]
      refine ⟨by omega, by omega, by omega, by omega, by omega, by omega, by omega, by omega, by omega, fun h2 => ⟨by omega, loopK_of (i + 1 + 1) ⟨⟨.inr rfl, .inr rfl, .inr rfl, .inr rfl, trivial⟩, ⟨rfl, rw0 _ (funext fun j => ?_), trivial⟩, rfl, rfl⟩ (by omega) (by omega)⟩,
        fun h2 => ⟨by omega, by omega, by omega, by omega, by omega, by omega, by omega, loopK_of (i + 1 + 1) ⟨⟨.inr rfl, .inr rfl, .inr rfl, .inr rfl, trivial⟩, ⟨rfl, rw0 _ (funext fun j => ?_), trivial⟩, rfl, rfl⟩ (by omega) (by omega)⟩⟩
      · by_cases e : j = i + 1
        · subst e; simp only [reduceIte, sp1, if_pos (show i + 1 < i + 1 + 1 by omega), if_pos (show i < i + 1 by omega), if_neg (show ¬ i + 1 < i + 1 by omega), Path5.wf, h2]
        · simp only [if_neg e, sp1, show (j < i + 1 + 1) = (j < i + 1) from propext (by omega)]
      · by_cases e : j = i + 1
        · subst e; simp only [reduceIte, sp1, if_pos (show i + 1 < i + 1 + 1 by omega), if_pos (show i < i + 1 by omega), if_neg (show ¬ i + 1 < i + 1 by omega), Path5.wf, h2, Bool.false_eq_true]
        · simp only [if_neg e, sp1, show (j < i + 1 + 1) = (j < i + 1) from propext (by omega)]
    · have hkn : k = p.l.length + 1 := by omega
      subst hkn
      have m0 : (List.range (p.l.length + 1)).map (sp1 p bg (p.l.length + 1)) = (List.range (p.l.length + 1)).map (sp2 p bg 0) := by
        refine List.map_congr_left fun j hj => ?_
        have := List.mem_range.1 hj
        simp only [sp1, if_pos this, sp2]
        by_cases e : j = p.l.length
        · subst e; simp [Path5.wsp, Path5.wb]
        · rw [if_neg (by omega)]
      refine ⟨by omega, loop_of (F_sp2 p t bg) (fun d => d ≤ p.l.length) (fun d => p.l.length - d) 0 ⟨⟨.inr rfl, .inr rfl, .inr (by simp [w_getE1]), trivial⟩, ⟨rfl, congrArg (fun g => some (AObj.arr 114 0 2 (List.map Span2.row g))) m0, trivial⟩, rfl, rfl⟩ (Nat.zero_le _) ?_⟩
      intro d hd
      unfold l_impl_FlyPath_spans_2 F_sp2
      by_cases hdn : d < p.l.length
      · obtain ⟨k, hk'⟩ : ∃ k, p.l.length = k + 1 + d := ⟨p.l.length - 1 - d, by omega⟩
        have e8 : (p.l.length : Int) - 1 - d = k := by omega
        have e9 : (p.l.length : Int) - 1 - ((d + 1 : Nat) : Int) = (k : Int) - 1 := by omega
        have h1' : k + 1 < p.l.length + 1 := by omega
        have h2' : k < p.l.length + 1 := by omega
        have ne : ¬ k + 1 = k := by omega
        rw [e8]
        simp only [w_skip, w_rg, w_rgd, w_seq, w_cond, w_block, w_loop, w_exit, w_ret, w_gh, w_rg0, w_rg1, w_rgT, w_rgF, w_run, w_psd, w_und, w_dr0, w_dr1, w_drT, w_drF, w_drRun, w_drPsd, w_drUnd, w_drKn, w_drKs, w_putK, w_trimK, w_thenN, w_thenE, w_thenR, w_scope, w_label, w_blkN, w_blkE, w_blkR, w_call, w_effK, brU_true, brU_false, brU_u, brU_not, brU_and, brU_or, brU_dec, brU_eq, brU_ne, br_true, br_false, br_not, br_and, br_or, br_dec, br_eq, br_ne, w_getE0, w_getE1, w_setE0, w_setE1, w_dropE0, w_dropE1, w_drop0, w_drop1, w_getM0, w_getM1, w_setM0, w_setM1, ev_v, ev_c, w_putS, w_putN, w_lit, w_apU0, w_apU1, w_apU2, w_trim, enumE0, enumE1, w_callWp, w_callA0, w_callA1, w_R0, w_R1, w_R2, w_T2, w_callL, w_callT, w_T1, w_T0, o_mv, o_newnil, o_pick, o_bin, o_binN, o_neg, o_not, o_eqB, o_eqS, o_conv, o_alloc, o_box, o_load1, o_loadN, o_store, o_nilck, o_faddr, o_field1, o_fieldN, o_iaddr, o_istr, o_slStr, o_slSl, o_lenS, o_lenL, o_mx, o_mn, o_ext, o_build, o_lit, o_litOwn, o_app, o_mk, o_mvfrz, l_int, l_bool, l_str, l_agg, l_sl, l_own, l_ptr, l_pp, i_int, i_bool, i_str, i_sl, i_own, i_ptr, i_pp, all0, all1, e_ok1, eff, effBin, effBinN, ld_ptr, ld_pp, ld_elt, ia_own, ia_arr, el_1, el_N, load1K, faddrE, r_iaddr, sg_S, sg_c, sg_n, purL, pur, List.map, List.drop, List.take, List.length, List.foldl, List.append_eq, List.nil_append, List.cons_append, List.getD_cons_zero, List.getD_cons_succ, reduceIte, Nat.reduceEqDiff, Nat.reduceAdd, Nat.reduceLeDiff, true_and, and_true, Bool.not_true, Bool.not_false, Bool.and_true, Bool.true_and, Bool.and_self, reduceCtorEq, true_implies, false_implies, implies_true, decide_eq_true_eq, Option.map_some, fpOf, fpX, SOp.xs, oX, refs, refsL, dom, disj, List.all_nil, List.all_cons, List.contains_cons, List.contains_nil, Nat.reduceBEq, Bool.or_false, Bool.false_or, List.append_nil, Bool.not_false, Bool.not_true, List.forall_mem_cons, fm0, List.set, Nat.reduceLT, ne_eq, not_false_eq_true, not_true_eq_false
, ret1, ret1N, keep0, keep1, rf_int, rf_bool, rf_str, rf_sl, rf_agg, rf_tup, rfL0, rfL1, re_t, re_cN, re_L0, re_L1, ret_tup, ret_one, decide_true, AV.bool.injEq, AV.int.injEq, Nat.reduceLeDiff, Bool.true_eq, Bool.false_eq, decide_eq_true_eq, decide_eq_false_iff_not, t_bound, List.length_map, Stp7.row, Span2.row, irow, span_eta, path_eta, Int.toNat_natCast, toNat_pred, toNat_succ, un_stp, flatOk, noref, ghost, List.length_range, Nat.zero_add, Nat.sub_zero, set_lo, set_hi, List.length_set, min_if, max_if, br_hold]
        simp only [set_range, getD_range h1', getD_range h2', reduceIte, if_neg ne]
        have rw0 : ∀ (g : Nat → Span2), g = sp2 p bg (d + 1) → some (AObj.arr 114 0 2 (List.map Span2.row (List.map g (List.range (p.l.length + 1))))) = some (AObj.arr 114 0 2 (List.map Span2.row (List.map (sp2 p bg (d + 1)) (List.range (p.l.length + 1))))) := fun g h => by rw [h]
        have v0 : sp2 p bg d k = p.wf bg k := if_neg (by omega)
        have v1 : sp2 p bg d (k + 1) = p.wb bg d := by
          simp only [sp2, if_pos (show p.l.length - d ≤ k + 1 by omega), Path5.wsp, show p.l.length - (k + 1) = d by omega]
        have v2 : p.wsp bg k = p.wb bg (d + 1) := by simp only [Path5.wsp, show p.l.length - k = d + 1 by omega]
        have v3 : ∀ j, ¬ j = k → sp2 p bg (d + 1) j = sp2 p bg d j := fun j e => by
          simp only [sp2, show (p.l.length - (d + 1) ≤ j) = (p.l.length - d ≤ j) from propext (by omega)]
        have v4 : sp2 p bg (d + 1) k = p.wb bg (d + 1) := by simp only [sp2, if_pos (show p.l.length - (d + 1) ≤ k by omega), v2]
        simp only [v0, v1]
        refine ⟨fun _ => ⟨by omega, by omega, by omega, by omega, by omega, by omega, by omega, by omega, fun h2 => ⟨by omega, loopK_of (d + 1) ⟨⟨.inr rfl, .inr rfl, .inr (by rw [e9]; rfl), trivial⟩, ⟨rfl, rw0 _ (funext fun j => ?_), trivial⟩, rfl, rfl⟩ (by omega) (by omega)⟩,
          fun h2 => ⟨by omega, by omega, by omega, by omega, by omega, by omega, by omega, loopK_of (d + 1) ⟨⟨.inr rfl, .inr rfl, .inr (by rw [e9]; rfl), trivial⟩, ⟨rfl, rw0 _ (funext fun j => ?_), trivial⟩, rfl, rfl⟩ (by omega) (by omega)⟩⟩, fun h => absurd (by omega) h⟩
        · by_cases e : j = k
          · rw [if_pos e, e, v4]; simp only [Path5.wb, show p.l.length - (d + 1) = k by omega, h2, reduceIte]
          · rw [if_neg e, v3 j e]
        · by_cases e : j = k
          · rw [if_pos e, e, v4]; simp only [Path5.wb, show p.l.length - (d + 1) = k by omega, h2, reduceIte, Bool.false_eq_true]
          · rw [if_neg e, if_neg e, v3 j e]
      · have e8 : (p.l.length : Int) - 1 - d = -1 := by omega
        rw [e8]
        simp only [w_skip, w_rg, w_rgd, w_seq, w_cond, w_block, w_loop, w_exit, w_ret, w_gh, w_rg0, w_rg1, w_rgT, w_rgF, w_run, w_psd, w_und, w_dr0, w_dr1, w_drT, w_drF, w_drRun, w_drPsd, w_drUnd, w_drKn, w_drKs, w_putK, w_trimK, w_thenN, w_thenE, w_thenR, w_scope, w_label, w_blkN, w_blkE, w_blkR, w_call, w_effK, brU_true, brU_false, brU_u, brU_not, brU_and, brU_or, brU_dec, brU_eq, brU_ne, br_true, br_false, br_not, br_and, br_or, br_dec, br_eq, br_ne, w_getE0, w_getE1, w_setE0, w_setE1, w_dropE0, w_dropE1, w_drop0, w_drop1, w_getM0, w_getM1, w_setM0, w_setM1, ev_v, ev_c, w_putS, w_putN, w_lit, w_apU0, w_apU1, w_apU2, w_trim, enumE0, enumE1, w_callWp, w_callA0, w_callA1, w_R0, w_R1, w_R2, w_T2, w_callL, w_callT, w_T1, w_T0, o_mv, o_newnil, o_pick, o_bin, o_binN, o_neg, o_not, o_eqB, o_eqS, o_conv, o_alloc, o_box, o_load1, o_loadN, o_store, o_nilck, o_faddr, o_field1, o_fieldN, o_iaddr, o_istr, o_slStr, o_slSl, o_lenS, o_lenL, o_mx, o_mn, o_ext, o_build, o_lit, o_litOwn, o_app, o_mk, o_mvfrz, l_int, l_bool, l_str, l_agg, l_sl, l_own, l_ptr, l_pp, i_int, i_bool, i_str, i_sl, i_own, i_ptr, i_pp, all0, all1, e_ok1, eff, effBin, effBinN, ld_ptr, ld_pp, ld_elt, ia_own, ia_arr, el_1, el_N, load1K, faddrE, r_iaddr, sg_S, sg_c, sg_n, purL, pur, List.map, List.drop, List.take, List.length, List.foldl, List.append_eq, List.nil_append, List.cons_append, List.getD_cons_zero, List.getD_cons_succ, reduceIte, Nat.reduceEqDiff, Nat.reduceAdd, Nat.reduceLeDiff, true_and, and_true, Bool.not_true, Bool.not_false, Bool.and_true, Bool.true_and, Bool.and_self, reduceCtorEq, true_implies, false_implies, implies_true, decide_eq_true_eq, Option.map_some, fpOf, fpX, SOp.xs, oX, refs, refsL, dom, disj, List.all_nil, List.all_cons, List.contains_cons, List.contains_nil, Nat.reduceBEq, Bool.or_false, Bool.false_or, List.append_nil, Bool.not_false, Bool.not_true, List.forall_mem_cons, fm0, List.set, Nat.reduceLT, ne_eq, not_false_eq_true, not_true_eq_false
, ret1, ret1N, keep0, keep1, rf_int, rf_bool, rf_str, rf_sl, rf_agg, rf_tup, rfL0, rfL1, re_t, re_cN, re_L0, re_L1, ret_tup, ret_one, decide_true, AV.bool.injEq, AV.int.injEq, Nat.reduceLeDiff, Bool.true_eq, Bool.false_eq, decide_eq_true_eq, decide_eq_false_iff_not, t_bound, List.length_map, Stp7.row, Span2.row, irow, span_eta, path_eta, Int.toNat_natCast, toNat_pred, toNat_succ, un_stp, flatOk, noref, ghost, List.length_range, Nat.zero_add, Nat.sub_zero, set_lo, set_hi, List.length_set, min_if, max_if, br_hold]
        refine ⟨fun h => absurd h (by decide), fun _ => ?_⟩
        have m1 : (List.range (p.l.length + 1)).map (sp2 p bg d) = (List.range (p.l.length + 1)).map (p.wsp bg) := List.map_congr_left fun j hj => if_pos (by omega)
        refine loop_of (F_sp3 p t bg) (fun k => k ≤ p.l.length + 1 ∧ ∀ j, j < k → (p.wsp bg j).lo ≤ (p.wsp bg j).hi) (fun k => p.l.length + 1 - k) 0 ⟨⟨.inr rfl, .inr rfl, .inr rfl, .inr rfl, trivial⟩, ⟨congrArg (fun g => some (AObj.arr 114 0 2 (List.map Span2.row g))) m1, trivial⟩, rfl, rfl⟩ ⟨Nat.zero_le _, fun j hj => by omega⟩ ?_
        intro k hk
        unfold l_impl_FlyPath_spans_3 F_sp3
        simp only [w_skip, w_rg, w_rgd, w_seq, w_cond, w_block, w_loop, w_exit, w_ret, w_gh, w_rg0, w_rg1, w_rgT, w_rgF, w_run, w_psd, w_und, w_dr0, w_dr1, w_drT, w_drF, w_drRun, w_drPsd, w_drUnd, w_drKn, w_drKs, w_putK, w_trimK, w_thenN, w_thenE, w_thenR, w_scope, w_label, w_blkN, w_blkE, w_blkR, w_call, w_effK, brU_true, brU_false, brU_u, brU_not, brU_and, brU_or, brU_dec, brU_eq, brU_ne, br_true, br_false, br_not, br_and, br_or, br_dec, br_eq, br_ne, w_getE0, w_getE1, w_setE0, w_setE1, w_dropE0, w_dropE1, w_drop0, w_drop1, w_getM0, w_getM1, w_setM0, w_setM1, ev_v, ev_c, w_putS, w_putN, w_lit, w_apU0, w_apU1, w_apU2, w_trim, enumE0, enumE1, w_callWp, w_callA0, w_callA1, w_R0, w_R1, w_R2, w_T2, w_callL, w_callT, w_T1, w_T0, o_mv, o_newnil, o_pick, o_bin, o_binN, o_neg, o_not, o_eqB, o_eqS, o_conv, o_alloc, o_box, o_load1, o_loadN, o_store, o_nilck, o_faddr, o_field1, o_fieldN, o_iaddr, o_istr, o_slStr, o_slSl, o_lenS, o_lenL, o_mx, o_mn, o_ext, o_build, o_lit, o_litOwn, o_app, o_mk, o_mvfrz, l_int, l_bool, l_str, l_agg, l_sl, l_own, l_ptr, l_pp, i_int, i_bool, i_str, i_sl, i_own, i_ptr, i_pp, all0, all1, e_ok1, eff, effBin, effBinN, ld_ptr, ld_pp, ld_elt, ia_own, ia_arr, el_1, el_N, load1K, faddrE, r_iaddr, sg_S, sg_c, sg_n, purL, pur, List.map, List.drop, List.take, List.length, List.foldl, List.append_eq, List.nil_append, List.cons_append, List.getD_cons_zero, List.getD_cons_succ, reduceIte, Nat.reduceEqDiff, Nat.reduceAdd, Nat.reduceLeDiff, true_and, and_true, Bool.not_true, Bool.not_false, Bool.and_true, Bool.true_and, Bool.and_self, reduceCtorEq, true_implies, false_implies, implies_true, decide_eq_true_eq, Option.map_some, fpOf, fpX, SOp.xs, oX, refs, refsL, dom, disj, List.all_nil, List.all_cons, List.contains_cons, List.contains_nil, Nat.reduceBEq, Bool.or_false, Bool.false_or, List.append_nil, Bool.not_false, Bool.not_true, List.forall_mem_cons, fm0, List.set, Nat.reduceLT, ne_eq, not_false_eq_true, not_true_eq_false
, ret1, ret1N, keep0, keep1, rf_int, rf_bool, rf_str, rf_sl, rf_agg, rf_tup, rfL0, rfL1, re_t, re_cN, re_L0, re_L1, ret_tup, ret_one, decide_true, AV.bool.injEq, AV.int.injEq, Nat.reduceLeDiff, Bool.true_eq, Bool.false_eq, decide_eq_true_eq, decide_eq_false_iff_not, t_bound, List.length_map, Stp7.row, Span2.row, irow, span_eta, path_eta, Int.toNat_natCast, toNat_pred, toNat_succ, un_stp, flatOk, noref, ghost, List.length_range, Nat.zero_add, Nat.sub_zero, set_lo, set_hi, List.length_set, min_if, max_if, br_hold]
        refine ⟨fun h1 => ?_, fun h1 => ?_⟩
        · have h1' : k < p.l.length + 1 := by omega
          simp only [getD_range h1']
          refine ⟨by omega, by omega, fun h2 => ?_, fun h2 => ⟨by omega, loopK_of (k + 1) ⟨⟨.inr rfl, .inr rfl, .inr rfl, .inr rfl, trivial⟩, ⟨rfl, trivial⟩, rfl, rfl⟩ ⟨by omega, fun j hj => ?_⟩ (by omega)⟩⟩
          · have hq : ¬ p.wcan bg := fun hq => by have := hq k h1'; omega
            exact ⟨by rw [Path5.wspans, if_neg hq]; rfl, hq⟩
          · by_cases e : j = k
            · subst e; omega
            · exact hk.2 j (by omega)
        · have hq : p.wcan bg := fun j hj => hk.2 j (by omega)
          exact ⟨by rw [Path5.wspans, if_pos hq, List.take_of_length_le (by simp)], hq⟩
end Go.Ve

namespace Go.Ve
open Go.Proofs
set_option linter.unusedSimpArgs false
set_option linter.unusedVariables false
set_option maxRecDepth 100000
theorem c_l22Copy (p : Path5) (t : Nat) (hn : p.l.length ≤ 1048576) : Contract P 79 [.agg [.int .i64 p.q, .int .i64 p.s, .sl t 7 (p.l.map Stp7.row), .int .i64 p.f, .int .i64 p.b]] [] (.agg [.int .i64 p.q, .int .i64 p.s, .own 106 1 0 p.l.length, .int .i64 p.f, .int .i64 p.b]) [(106, .arr 105 1 7 (p.l.map Stp7.row))] := by
  refine fn_sound (Env.nil P) hm k_spec_l22Copy (Nat.le_of_ble_eq_true rfl) rfl ?_
  unfold s_spec_l22Copy
  simp only [w_skip, w_rg, w_rgd, w_seq, w_cond, w_block, w_loop, w_exit, w_ret, w_gh, w_rg0, w_rg1, w_rgT, w_rgF, w_run, w_psd, w_und, w_dr0, w_dr1, w_drT, w_drF, w_drRun, w_drPsd, w_drUnd, w_drKn, w_drKs, w_putK, w_trimK, w_thenN, w_thenE, w_thenR, w_scope, w_label, w_blkN, w_blkE, w_blkR, w_call, w_effK, brU_true, brU_false, brU_u, brU_not, brU_and, brU_or, brU_dec, brU_eq, brU_ne, br_true, br_false, br_not, br_and, br_or, br_dec, br_eq, br_ne, w_getE0, w_getE1, w_setE0, w_setE1, w_dropE0, w_dropE1, w_drop0, w_drop1, w_getM0, w_getM1, w_setM0, w_setM1, ev_v, ev_c, w_putS, w_putN, w_lit, w_apU0, w_apU1, w_apU2, w_trim, enumE0, enumE1, w_callWp, w_callA0, w_callA1, w_R0, w_R1, w_R2, w_T2, w_callL, w_callT, w_T1, w_T0, o_mv, o_newnil, o_pick, o_bin, o_binN, o_neg, o_not, o_eqB, o_eqS, o_conv, o_alloc, o_box, o_load1, o_loadN, o_store, o_nilck, o_faddr, o_field1, o_fieldN, o_iaddr, o_istr, o_slStr, o_slSl, o_lenS, o_lenL, o_mx, o_mn, o_ext, o_build, o_lit, o_litOwn, o_app, o_mk, o_mvfrz, l_int, l_bool, l_str, l_agg, l_sl, l_own, l_ptr, l_pp, i_int, i_bool, i_str, i_sl, i_own, i_ptr, i_pp, all0, all1, e_ok1, eff, effBin, effBinN, ld_ptr, ld_pp, ld_elt, ia_own, ia_arr, el_1, el_N, load1K, faddrE, r_iaddr, sg_S, sg_c, sg_n, purL, pur, List.map, List.drop, List.take, List.length, List.foldl, List.append_eq, List.nil_append, List.cons_append, List.getD_cons_zero, List.getD_cons_succ, reduceIte, Nat.reduceEqDiff, Nat.reduceAdd, Nat.reduceLeDiff, true_and, and_true, Bool.not_true, Bool.not_false, Bool.and_true, Bool.true_and, Bool.and_self, reduceCtorEq, true_implies, false_implies, implies_true, decide_eq_true_eq, Option.map_some, fpOf, fpX, SOp.xs, oX, refs, refsL, dom, disj, List.all_nil, List.all_cons, List.contains_cons, List.contains_nil, Nat.reduceBEq, Bool.or_false, Bool.false_or, List.append_nil, Bool.not_false, Bool.not_true, List.forall_mem_cons, fm0, List.set, Nat.reduceLT, ne_eq, not_false_eq_true, not_true_eq_false
, ret1, ret1N, keep0, keep1, rf_int, rf_bool, rf_str, rf_sl, rf_agg, rf_tup, rfL0, rfL1, re_t, re_cN, re_L0, re_L1, ret_tup, ret_one, decide_true, AV.bool.injEq, AV.int.injEq, Nat.reduceLeDiff, Bool.true_eq, Bool.false_eq, decide_eq_true_eq, decide_eq_false_iff_not, List.length_map, rowsOf, appE, ghost, retQ_eq, retOk, wkM, refsInO, keepB]
  simp only [Nat.zero_add]
  exact ⟨by omega, trivial, rfl, rfl⟩
theorem set_f {l : List Stp7} {i : Nat} {v : Int} : (l.map Stp7.row).set i (setSeg ((l.map Stp7.row).getD i []) 4 [.int .i64 v]) = (l.set i { l.getD i default with f := v }).map Stp7.row :=
  set_rows (α := Stp7) (f := Stp7.row) (fun s => { s with f := v }) fun x => by simp [Stp7.row, setSeg]
theorem set_b {l : List Stp7} {i : Nat} {v : Int} : (l.map Stp7.row).set i (setSeg ((l.map Stp7.row).getD i []) 5 [.int .i64 v]) = (l.set i { l.getD i default with b := v }).map Stp7.row :=
  set_rows (α := Stp7) (f := Stp7.row) (fun s => { s with b := v }) fun x => by simp [Stp7.row, setSeg]
theorem getD_range7 {g : Nat → Stp7} {m k : Nat} (h : k < m) : ((List.range m).map g).getD k default = g k := by simp [h]
theorem set_range7 {g : Nat → Stp7} {m k : Nat} {x : Stp7} : ((List.range m).map g).set k x = (List.range m).map fun j => if j = k then x else g j := by
  refine List.ext_getElem (by simp) fun j h1 h2 => ?_
  by_cases e : j = k
  · subst e; simp
  · simp [e, List.getElem_set_ne (Ne.symm e)]
def heldStep (p : Path5) (bg : List Int) (k j : Nat) : Stp7 := if j < k then { p.l.getD j default with f := max (p.l.getD j default).f (bg.getD j default), b := min (p.l.getD j default).b (bg.getD j default) } else p.l.getD j default
def Path5.held (p : Path5) (bg : List Int) : Path5 := ⟨p.q, p.s, (List.range p.l.length).map (heldStep p bg bg.length), p.f, p.b⟩
def F_l26 (p : Path5) (t' : Nat) (bg : List Int) (k : Nat) : St := ⟨[(1, .sl t' 1 (bg.map irow)), (4, .ptr 104 0), (5, .ptr 105 0), (6, .int .i64 k)],
  [(104, .box [.int .i64 0, .int .i64 0, .sl 0 7 [], .int .i64 0, .int .i64 0]), (105, .box [.int .i64 p.q, .int .i64 p.s, .own 106 1 0 p.l.length, .int .i64 p.f, .int .i64 p.b]), (106, .arr 105 1 7 (((List.range p.l.length).map (heldStep p bg k)).map Stp7.row))]⟩
theorem c_l26Held (p : Path5) (t t' : Nat) (bg : List Int) (hn : p.l.length ≤ 1048576) (hb : bg.length ≤ p.l.length) : Contract P 98 [.agg [.int .i64 p.q, .int .i64 p.s, .sl t 7 (p.l.map Stp7.row), .int .i64 p.f, .int .i64 p.b], .sl t' 1 (bg.map irow)] [] (p.held bg).av [] := by
  refine fn_sound (((Env.nil P).add 77 t_l21Min h_l21Min).add 27 t_l21Max h_l21Max) hm k_spec_l26Held (Nat.le_of_ble_eq_true rfl) rfl ?_
  unfold s_spec_l26Held
  simp only [w_skip, w_rg, w_rgd, w_seq, w_cond, w_block, w_loop, w_exit, w_ret, w_gh, w_rg0, w_rg1, w_rgT, w_rgF, w_run, w_psd, w_und, w_dr0, w_dr1, w_drT, w_drF, w_drRun, w_drPsd, w_drUnd, w_drKn, w_drKs, w_putK, w_trimK, w_thenN, w_thenE, w_thenR, w_scope, w_label, w_blkN, w_blkE, w_blkR, w_call, w_effK, brU_true, brU_false, brU_u, brU_not, brU_and, brU_or, brU_dec, brU_eq, brU_ne, br_true, br_false, br_not, br_and, br_or, br_dec, br_eq, br_ne, w_getE0, w_getE1, w_setE0, w_setE1, w_dropE0, w_dropE1, w_drop0, w_drop1, w_getM0, w_getM1, w_setM0, w_setM1, ev_v, ev_c, w_putS, w_putN, w_lit, w_apU0, w_apU1, w_apU2, w_trim, enumE0, enumE1, w_callWp, w_callA0, w_callA1, w_R0, w_R1, w_R2, w_T2, w_callL, w_callT, w_T1, w_T0, o_mv, o_newnil, o_pick, o_bin, o_binN, o_neg, o_not, o_eqB, o_eqS, o_conv, o_alloc, o_box, o_load1, o_loadN, o_store, o_nilck, o_faddr, o_field1, o_fieldN, o_iaddr, o_istr, o_slStr, o_slSl, o_lenS, o_lenL, o_mx, o_mn, o_ext, o_build, o_lit, o_litOwn, o_app, o_mk, o_mvfrz, l_int, l_bool, l_str, l_agg, l_sl, l_own, l_ptr, l_pp, i_int, i_bool, i_str, i_sl, i_own, i_ptr, i_pp, all0, all1, e_ok1, eff, effBin, effBinN, ld_ptr, ld_pp, ld_elt, ia_own, ia_arr, el_1, el_N, load1K, faddrE, r_iaddr, sg_S, sg_c, sg_n, purL, pur, List.map, List.drop, List.take, List.length, List.foldl, List.append_eq, List.nil_append, List.cons_append, List.getD_cons_zero, List.getD_cons_succ, reduceIte, Nat.reduceEqDiff, Nat.reduceAdd, Nat.reduceLeDiff, true_and, and_true, Bool.not_true, Bool.not_false, Bool.and_true, Bool.true_and, Bool.and_self, reduceCtorEq, true_implies, false_implies, implies_true, decide_eq_true_eq, Option.map_some, fpOf, fpX, SOp.xs, oX, refs, refsL, dom, disj, List.all_nil, List.all_cons, List.contains_cons, List.contains_nil, Nat.reduceBEq, Bool.or_false, Bool.false_or, List.append_nil, Bool.not_false, Bool.not_true, List.forall_mem_cons, fm0, List.set, Nat.reduceLT, ne_eq, not_false_eq_true, not_true_eq_false
, ret1, ret1N, keep0, keep1, rf_int, rf_bool, rf_str, rf_sl, rf_agg, rf_tup, rfL0, rfL1, re_t, re_cN, re_L0, re_L1, ret_tup, ret_one, decide_true, AV.bool.injEq, AV.int.injEq, Nat.reduceLeDiff, Bool.true_eq, Bool.false_eq, decide_eq_true_eq, decide_eq_false_iff_not, t_l21Min, t_l21Max, List.length_map, Stp7.row, irow, stp_eta, Int.toNat_natCast, flatOk, noref, ghost, List.length_range, Nat.zero_add, Nat.sub_zero, set_f, set_b, List.length_set]
  refine ⟨_, _, .inl ⟨[], c_l22Copy p t hn, by simp, by simp [getM], rfl, rfl, rfl, rfl, rfl⟩, ?_⟩
  simp only [w_skip, w_rg, w_rgd, w_seq, w_cond, w_block, w_loop, w_exit, w_ret, w_gh, w_rg0, w_rg1, w_rgT, w_rgF, w_run, w_psd, w_und, w_dr0, w_dr1, w_drT, w_drF, w_drRun, w_drPsd, w_drUnd, w_drKn, w_drKs, w_putK, w_trimK, w_thenN, w_thenE, w_thenR, w_scope, w_label, w_blkN, w_blkE, w_blkR, w_call, w_effK, brU_true, brU_false, brU_u, brU_not, brU_and, brU_or, brU_dec, brU_eq, brU_ne, br_true, br_false, br_not, br_and, br_or, br_dec, br_eq, br_ne, w_getE0, w_getE1, w_setE0, w_setE1, w_dropE0, w_dropE1, w_drop0, w_drop1, w_getM0, w_getM1, w_setM0, w_setM1, ev_v, ev_c, w_putS, w_putN, w_lit, w_apU0, w_apU1, w_apU2, w_trim, enumE0, enumE1, w_callWp, w_callA0, w_callA1, w_R0, w_R1, w_R2, w_T2, w_callL, w_callT, w_T1, w_T0, o_mv, o_newnil, o_pick, o_bin, o_binN, o_neg, o_not, o_eqB, o_eqS, o_conv, o_alloc, o_box, o_load1, o_loadN, o_store, o_nilck, o_faddr, o_field1, o_fieldN, o_iaddr, o_istr, o_slStr, o_slSl, o_lenS, o_lenL, o_mx, o_mn, o_ext, o_build, o_lit, o_litOwn, o_app, o_mk, o_mvfrz, l_int, l_bool, l_str, l_agg, l_sl, l_own, l_ptr, l_pp, i_int, i_bool, i_str, i_sl, i_own, i_ptr, i_pp, all0, all1, e_ok1, eff, effBin, effBinN, ld_ptr, ld_pp, ld_elt, ia_own, ia_arr, el_1, el_N, load1K, faddrE, r_iaddr, sg_S, sg_c, sg_n, purL, pur, List.map, List.drop, List.take, List.length, List.foldl, List.append_eq, List.nil_append, List.cons_append, List.getD_cons_zero, List.getD_cons_succ, reduceIte, Nat.reduceEqDiff, Nat.reduceAdd, Nat.reduceLeDiff, true_and, and_true, Bool.not_true, Bool.not_false, Bool.and_true, Bool.true_and, Bool.and_self, reduceCtorEq, true_implies, false_implies, implies_true, decide_eq_true_eq, Option.map_some, fpOf, fpX, SOp.xs, oX, refs, refsL, dom, disj, List.all_nil, List.all_cons, List.contains_cons, List.contains_nil, Nat.reduceBEq, Bool.or_false, Bool.false_or, List.append_nil, Bool.not_false, Bool.not_true, List.forall_mem_cons, fm0, List.set, Nat.reduceLT, ne_eq, not_false_eq_true, not_true_eq_false
, ret1, ret1N, keep0, keep1, rf_int, rf_bool, rf_str, rf_sl, rf_agg, rf_tup, rfL0, rfL1, re_t, re_cN, re_L0, re_L1, ret_tup, ret_one, decide_true, AV.bool.injEq, AV.int.injEq, Nat.reduceLeDiff, Bool.true_eq, Bool.false_eq, decide_eq_true_eq, decide_eq_false_iff_not, t_l21Min, t_l21Max, List.length_map, Stp7.row, irow, stp_eta, Int.toNat_natCast, flatOk, noref, ghost, List.length_range, Nat.zero_add, Nat.sub_zero, set_f, set_b, List.length_set]
  have m0 : p.l = (List.range p.l.length).map (heldStep p bg 0) := by
    refine List.ext_getElem (by simp) fun j h1 h2 => by simp [heldStep, h1]
  refine loop_of (F_l26 p t' bg) (fun k => k ≤ bg.length) (fun k => bg.length - k) 0 ⟨⟨.inr rfl, .inr rfl, .inr rfl, .inr rfl, trivial⟩, ⟨rfl, rfl, congrArg (fun g => some (AObj.arr 105 1 7 (List.map Stp7.row g))) m0, trivial⟩, rfl, rfl⟩ (Nat.zero_le _) ?_
  intro k hk
  unfold l_spec_l26Held_0 F_l26
  simp only [w_skip, w_rg, w_rgd, w_seq, w_cond, w_block, w_loop, w_exit, w_ret, w_gh, w_rg0, w_rg1, w_rgT, w_rgF, w_run, w_psd, w_und, w_dr0, w_dr1, w_drT, w_drF, w_drRun, w_drPsd, w_drUnd, w_drKn, w_drKs, w_putK, w_trimK, w_thenN, w_thenE, w_thenR, w_scope, w_label, w_blkN, w_blkE, w_blkR, w_call, w_effK, brU_true, brU_false, brU_u, brU_not, brU_and, brU_or, brU_dec, brU_eq, brU_ne, br_true, br_false, br_not, br_and, br_or, br_dec, br_eq, br_ne, w_getE0, w_getE1, w_setE0, w_setE1, w_dropE0, w_dropE1, w_drop0, w_drop1, w_getM0, w_getM1, w_setM0, w_setM1, ev_v, ev_c, w_putS, w_putN, w_lit, w_apU0, w_apU1, w_apU2, w_trim, enumE0, enumE1, w_callWp, w_callA0, w_callA1, w_R0, w_R1, w_R2, w_T2, w_callL, w_callT, w_T1, w_T0, o_mv, o_newnil, o_pick, o_bin, o_binN, o_neg, o_not, o_eqB, o_eqS, o_conv, o_alloc, o_box, o_load1, o_loadN, o_store, o_nilck, o_faddr, o_field1, o_fieldN, o_iaddr, o_istr, o_slStr, o_slSl, o_lenS, o_lenL, o_mx, o_mn, o_ext, o_build, o_lit, o_litOwn, o_app, o_mk, o_mvfrz, l_int, l_bool, l_str, l_agg, l_sl, l_own, l_ptr, l_pp, i_int, i_bool, i_str, i_sl, i_own, i_ptr, i_pp, all0, all1, e_ok1, eff, effBin, effBinN, ld_ptr, ld_pp, ld_elt, ia_own, ia_arr, el_1, el_N, load1K, faddrE, r_iaddr, sg_S, sg_c, sg_n, purL, pur, List.map, List.drop, List.take, List.length, List.foldl, List.append_eq, List.nil_append, List.cons_append, List.getD_cons_zero, List.getD_cons_succ, reduceIte, Nat.reduceEqDiff, Nat.reduceAdd, Nat.reduceLeDiff, true_and, and_true, Bool.not_true, Bool.not_false, Bool.and_true, Bool.true_and, Bool.and_self, reduceCtorEq, true_implies, false_implies, implies_true, decide_eq_true_eq, Option.map_some, fpOf, fpX, SOp.xs, oX, refs, refsL, dom, disj, List.all_nil, List.all_cons, List.contains_cons, List.contains_nil, Nat.reduceBEq, Bool.or_false, Bool.false_or, List.append_nil, Bool.not_false, Bool.not_true, List.forall_mem_cons, fm0, List.set, Nat.reduceLT, ne_eq, not_false_eq_true, not_true_eq_false
, ret1, ret1N, keep0, keep1, rf_int, rf_bool, rf_str, rf_sl, rf_agg, rf_tup, rfL0, rfL1, re_t, re_cN, re_L0, re_L1, ret_tup, ret_one, decide_true, AV.bool.injEq, AV.int.injEq, Nat.reduceLeDiff, Bool.true_eq, Bool.false_eq, decide_eq_true_eq, decide_eq_false_iff_not, t_l21Min, t_l21Max, List.length_map, Stp7.row, irow, stp_eta, Int.toNat_natCast, flatOk, noref, ghost, List.length_range, Nat.zero_add, Nat.sub_zero, set_f, set_b, List.length_set]
  refine ⟨fun h1 => ⟨fun h2 => ?_, fun h2 => absurd (by omega) h2⟩, fun h1 => ?_⟩
  · have h1' : k < p.l.length := by omega
    have rw0 : ∀ (g : Nat → Stp7), g = heldStep p bg (k + 1) → some (AObj.arr 105 1 7 (List.map Stp7.row (List.map g (List.range p.l.length)))) = some (AObj.arr 105 1 7 (List.map Stp7.row (List.map (heldStep p bg (k + 1)) (List.range p.l.length)))) := fun g h => by rw [h]
    simp only [set_range7, getD_range7 h1', reduceIte]
    refine ⟨by omega, by omega, by omega, by omega, by omega, by omega, by omega, by omega, by omega, by omega, by omega, loopK_of (k + 1) ⟨⟨.inr rfl, .inr rfl, .inr rfl, .inr rfl, trivial⟩, ⟨rfl, rfl, rw0 _ (funext fun j => ?_), trivial⟩, rfl, rfl⟩ (by omega) (by omega)⟩
    by_cases e : j = k
    · subst e; simp only [reduceIte, heldStep, if_pos (show j < j + 1 by omega), if_neg (show ¬ j < j by omega)]
    · simp only [if_neg e, heldStep, show (j < k + 1) = (j < k) from propext (by omega)]
  · have hkb : k = bg.length := by omega
    subst hkb
    exact ⟨by rw [List.take_of_length_le (by simp)]; rfl, rfl⟩
end Go.Ve

namespace Go.Ve
open Go.Proofs
set_option linter.unusedSimpArgs false
set_option linter.unusedVariables false
set_option maxRecDepth 100000
theorem no99_step (l : List Stp7) : No99LL (l.map Stp7.row) := by
  induction l with
  | nil => trivial
  | cons x l ih => exact ⟨⟨trivial, trivial, trivial, trivial, trivial, trivial, trivial, trivial⟩, ih⟩
theorem no99_span (l : List Span2) : No99LL (l.map Span2.row) := by
  induction l with
  | nil => trivial
  | cons x l ih => exact ⟨⟨trivial, trivial, trivial⟩, ih⟩
def t_l26Held : List AV → Option (Prop × AV)
  | [.agg [.int .i64 q, .int .i64 s, .sl _ 7 xs, .int .i64 f, .int .i64 b], .sl _ 1 ys] => some (((xs.map unStp).map Stp7.row = xs ∧ (ys.map unI).map irow = ys) ∧ (xs.map unStp).length ≤ 1048576 ∧ (ys.map unI).length ≤ (xs.map unStp).length, (Path5.held ⟨q, s, xs.map unStp, f, b⟩ (ys.map unI)).av)
  | _ => none
theorem h_l26Held : ∀ args p v, t_l26Held args = some (p, v) → p → Contract P 98 args [] v [] ∧ noref v = true ∧ No99 v := by
  intro args p v h1 h2
  unfold t_l26Held at h1
  split at h1
  · rename_i q s t xs f b t' ys
    cases h1
    have := c_l26Held ⟨q, s, xs.map unStp, f, b⟩ t t' (ys.map unI) h2.2.1 h2.2.2
    simp only [h2.1.1, h2.1.2] at this
    refine ⟨this, rfl, ?_⟩
    simp [Path5.av, No99, No99L, no99_step]
  · cases h1
def t_l24Spans : List AV → Option (Prop × AV)
  | [.agg [.int .i64 q, .int .i64 s, .sl _ 7 xs, .int .i64 f, .int .i64 b]] => some ((xs.map unStp).map Stp7.row = xs ∧ Path5.calm ⟨q, s, xs.map unStp, f, b⟩, .tup [.sl 0 2 ((Path5.spans ⟨q, s, xs.map unStp, f, b⟩).map Span2.row), .bool (decide (Path5.can ⟨q, s, xs.map unStp, f, b⟩))])
  | _ => none
theorem h_l24Spans : ∀ args p v, t_l24Spans args = some (p, v) → p → Contract P 80 args [] v [] ∧ noref v = true ∧ No99 v := by
  intro args p v h1 h2
  unfold t_l24Spans at h1
  split at h1
  · rename_i q s t xs f b
    cases h1
    have := c_l24Spans ⟨q, s, xs.map unStp, f, b⟩ t h2.2
    simp only [h2.1] at this
    exact ⟨this, rfl, ⟨by omega, no99_span _⟩, trivial, trivial⟩
  · cases h1
theorem held_calm {p : Path5} {bg : List Int} (h : pathOk p.q p.s p.l p.f p.b) : (p.held bg).calm := by
  have hl : (p.held bg).l.length = p.l.length := by simp [Path5.held]
  have hg : ∀ k, k < p.l.length → (p.held bg).l.getD k default = heldStep p bg bg.length k := fun k hk => getD_range7 hk
  refine ⟨by have := h.1; simp only [Path5.held]; omega, by have := h.1; simp only [Path5.held]; omega, by rw [hl]; have := h.2.1; omega, fun k hk => ?_, fun k hk => ?_⟩
  · unfold Path5.low
    split
    · rename_i hk2
      rw [hl] at hk2
      rw [hg k hk2]
      have := (h.2.2.2 k hk2).1
      unfold Stp7.ok at this
      unfold heldStep
      split <;> (try simp only) <;> omega
    · have := h.2.2.1; simp only [Path5.held]; omega
  · unfold Path5.high
    split
    · rename_i hk2
      rw [hl] at hk2
      rw [hg k hk2]
      have := (h.2.2.2 k hk2).1
      unfold Stp7.ok at this
      unfold heldStep
      split <;> (try simp only) <;> omega
    · have := h.2.2.1; simp only [Path5.held]; omega
def Path5.begun (p : Path5) (bg : List Int) : Prop := pathOk p.q p.s p.l p.f p.b ∧ bg.length ≤ p.l.length ∧ (p.held bg).can
instance (p : Path5) (bg : List Int) : Decidable (p.begun bg) := by unfold Path5.begun; infer_instance
theorem c_l43Begun (p : Path5) (t t' : Nat) (bg : List Int) : Contract P 73 [.agg [.int .i64 p.q, .int .i64 p.s, .sl t 7 (p.l.map Stp7.row), .int .i64 p.f, .int .i64 p.b], .sl t' 1 (bg.map irow)] [] (.bool (decide (p.begun bg))) [] := by
  refine fn_sound ((((Env.nil P).add 78 t_sPathOk h_sPathOk).add 98 t_l26Held h_l26Held).add 80 t_l24Spans h_l24Spans) hm k_spec_l43Begun (Nat.le_of_ble_eq_true rfl) rfl ?_
  unfold s_spec_l43Begun
  simp only [w_skip, w_rg, w_rgd, w_seq, w_cond, w_block, w_loop, w_exit, w_ret, w_gh, w_rg0, w_rg1, w_rgT, w_rgF, w_run, w_psd, w_und, w_dr0, w_dr1, w_drT, w_drF, w_drRun, w_drPsd, w_drUnd, w_drKn, w_drKs, w_putK, w_trimK, w_thenN, w_thenE, w_thenR, w_scope, w_label, w_blkN, w_blkE, w_blkR, w_call, w_effK, brU_true, brU_false, brU_u, brU_not, brU_and, brU_or, brU_dec, brU_eq, brU_ne, br_true, br_false, br_not, br_and, br_or, br_dec, br_eq, br_ne, w_getE0, w_getE1, w_setE0, w_setE1, w_dropE0, w_dropE1, w_drop0, w_drop1, w_getM0, w_getM1, w_setM0, w_setM1, ev_v, ev_c, w_putS, w_putN, w_lit, w_apU0, w_apU1, w_apU2, w_trim, enumE0, enumE1, w_callWp, w_callA0, w_callA1, w_R0, w_R1, w_R2, w_T2, w_callL, w_callT, w_T1, w_T0, o_mv, o_newnil, o_pick, o_bin, o_binN, o_neg, o_not, o_eqB, o_eqS, o_conv, o_alloc, o_box, o_load1, o_loadN, o_store, o_nilck, o_faddr, o_field1, o_fieldN, o_iaddr, o_istr, o_slStr, o_slSl, o_lenS, o_lenL, o_mx, o_mn, o_ext, o_build, o_lit, o_litOwn, o_app, o_mk, o_mvfrz, l_int, l_bool, l_str, l_agg, l_sl, l_own, l_ptr, l_pp, i_int, i_bool, i_str, i_sl, i_own, i_ptr, i_pp, all0, all1, e_ok1, eff, effBin, effBinN, ld_ptr, ld_pp, ld_elt, ia_own, ia_arr, el_1, el_N, load1K, faddrE, r_iaddr, sg_S, sg_c, sg_n, purL, pur, List.map, List.drop, List.take, List.length, List.foldl, List.append_eq, List.nil_append, List.cons_append, List.getD_cons_zero, List.getD_cons_succ, reduceIte, Nat.reduceEqDiff, Nat.reduceAdd, Nat.reduceLeDiff, true_and, and_true, Bool.not_true, Bool.not_false, Bool.and_true, Bool.true_and, Bool.and_self, reduceCtorEq, true_implies, false_implies, implies_true, decide_eq_true_eq, Option.map_some, fpOf, fpX, SOp.xs, oX, refs, refsL, dom, disj, List.all_nil, List.all_cons, List.contains_cons, List.contains_nil, Nat.reduceBEq, Bool.or_false, Bool.false_or, List.append_nil, Bool.not_false, Bool.not_true, List.forall_mem_cons, fm0, List.set, Nat.reduceLT, ne_eq, not_false_eq_true, not_true_eq_false
, ret1, ret1N, keep0, keep1, rf_int, rf_bool, rf_str, rf_sl, rf_agg, rf_tup, rfL0, rfL1, re_t, re_cN, re_L0, re_L1, ret_tup, ret_one, decide_true, AV.bool.injEq, AV.int.injEq, Nat.reduceLeDiff, Bool.true_eq, Bool.false_eq, decide_eq_true_eq, decide_eq_false_iff_not, t_sPathOk, t_l26Held, t_l24Spans, List.length_map, irow, un_stp, un_i, path_eta, Path5.av, flatOk, noref, ghost, Nat.zero_add, Nat.sub_zero]
  exact ⟨fun h1 => ⟨fun h2 h => absurd h.2.1 (by omega), fun h2 => ⟨⟨by have := h1.2.1; omega, by omega⟩, held_calm h1, decide_eq_decide.2 ⟨fun h => ⟨h1, by omega, h⟩, fun h => h.2.2⟩⟩⟩, fun h1 h => h1 h.1⟩
def Path5.next (p : Path5) (bg : List Int) : Span2 := if p.begun bg then (p.held bg).span bg.length else ⟨0, 0⟩
end Go.Ve

namespace Go.Ve
set_option linter.unusedSimpArgs false
set_option linter.unusedVariables false
/-! The program's passes and the reference's come to the same. -/
section
variable {p : Path5} {bg : List Int}
theorem held_len : (p.held bg).l.length = p.l.length := by simp [Path5.held]
theorem held_getD {k : Nat} (hk : k < p.l.length) : (p.held bg).l.getD k default = heldStep p bg bg.length k := getD_range7 hk
theorem held_hold {k : Nat} (hk : k < p.l.length) : ((p.held bg).l.getD k default).hold = (p.l.getD k default).hold := by
  rw [held_getD hk]; unfold heldStep; split <;> rfl
theorem held_low (hb : bg.length ≤ p.l.length) (k : Nat) : (p.held bg).low k = (p.ini bg k).lo := by
  unfold Path5.low Path5.ini
  rw [held_len]
  by_cases hk : k < p.l.length
  · rw [if_pos hk, held_getD hk]
    unfold heldStep
    by_cases h2 : k < bg.length
    · rw [if_pos h2, if_pos h2]; simp only [Path5.low, if_pos hk]
    · rw [if_neg h2, if_neg h2]; simp only [Path5.low, if_pos hk]
  · rw [if_neg hk, if_neg (by omega)]; simp only [Path5.low, if_neg hk, Path5.held]
theorem held_high (hb : bg.length ≤ p.l.length) (k : Nat) : (p.held bg).high k = (p.ini bg k).hi := by
  unfold Path5.high Path5.ini
  rw [held_len]
  by_cases hk : k < p.l.length
  · rw [if_pos hk, held_getD hk]
    unfold heldStep
    by_cases h2 : k < bg.length
    · rw [if_pos h2, if_pos h2]; simp only [Path5.high, if_pos hk]
    · rw [if_neg h2, if_neg h2]; simp only [Path5.high, if_pos hk]
  · rw [if_neg hk, if_neg (by omega)]; simp only [Path5.high, if_neg hk, Path5.held]
theorem held_most {k : Nat} (hk : k < p.l.length) : (p.held bg).most k = if (p.l.getD k default).hold then 10000 else p.s := by
  unfold Path5.most; rw [held_hold hk]; rfl
def inR (s : Span2) : Prop := 0 ≤ s.lo ∧ s.lo ≤ s.hi ∧ s.hi ≤ 10000

/-- One step ahead, from numbers in their range. -/
theorem wf_eq (hq : 0 ≤ p.q ∧ p.q ≤ 50) (hs : 0 ≤ p.s ∧ p.s ≤ 50) (hb : bg.length ≤ p.l.length) (hi : ∀ k, k ≤ p.l.length → (p.ini bg k).hi ≤ 10000) : ∀ k, k ≤ p.l.length → ((∀ j, j ≤ p.l.length → inR (p.wf bg j)) ∨ (∀ j, j ≤ p.l.length → inR ((p.held bg).fwd j))) → (p.held bg).fwd k = p.wf bg k
  | 0, _, _ => by simp only [Path5.fwd, Path5.wf, held_low hb, held_high hb]
  | k + 1, hk, h => by
    have ih := wf_eq hq hs hb hi k (by omega) h
    have hr : inR (p.wf bg k) := by
      rcases h with h | h
      · exact h k (by omega)
      · rw [← ih]; exact h k (by omega)
    unfold inR at hr
    have h1 := hi (k + 1) hk
    have hqq : (p.held bg).q = p.q := rfl
    simp only [Path5.fwd, Path5.wf, held_low hb, held_high hb, held_most (show k < p.l.length by omega), ih, hqq]
    rw [IntWalk.i64_in ((p.wf bg k).lo + p.q) (by omega), IntWalk.i64_in ((p.wf bg k).hi + p.s) (by omega)]
    congr 1
    split <;> omega
theorem wb_eq (hq : 0 ≤ p.q ∧ p.q ≤ 50) (hs : 0 ≤ p.s ∧ p.s ≤ 50) (hf : ∀ j, j ≤ p.l.length → (p.held bg).fwd j = p.wf bg j) (hr0 : ∀ j, j ≤ p.l.length → inR (p.wf bg j)) : ∀ d, d ≤ p.l.length → ((∀ j, j ≤ p.l.length → inR (p.wb bg j)) ∨ (∀ j, j ≤ p.l.length → inR ((p.held bg).bwd j))) → (p.held bg).bwd d = p.wb bg d
  | 0, _, _ => by simp only [Path5.bwd, Path5.wb, held_len]; exact hf _ (by omega)
  | d + 1, hd, h => by
    have ih := wb_eq hq hs hf hr0 d (by omega) h
    have hr : inR (p.wb bg d) := by
      rcases h with h | h
      · exact h d (by omega)
      · rw [← ih]; exact h d (by omega)
    have h0 := hr0 (p.l.length - (d + 1)) (by omega)
    unfold inR at hr h0
    have hqq : (p.held bg).q = p.q := rfl
    simp only [Path5.bwd, Path5.wb, held_len, held_most (show p.l.length - (d + 1) < p.l.length by omega), ih, hqq, hf _ (show p.l.length - (d + 1) ≤ p.l.length by omega)]
    rw [IntWalk.i64_in ((p.wb bg d).lo - p.s) (by omega), IntWalk.i64_in ((p.wb bg d).hi - p.q) (by omega)]
    congr 1
    split <;> omega
theorem ini_in (hp : pathOk p.q p.s p.l p.f p.b) (hb : bg.length ≤ p.l.length) {k : Nat} (hk : k ≤ p.l.length) : 0 ≤ (p.ini bg k).lo ∧ (p.ini bg k).hi ≤ 10000 := by
  have hc := held_calm (bg := bg) hp
  have h1 := hc.lo k (by rw [held_len]; exact hk)
  have h2 := hc.hi k (by rw [held_len]; exact hk)
  rw [held_low hb] at h1
  rw [held_high hb] at h2
  exact ⟨h1, h2⟩
theorem wf_ini (k : Nat) : (p.ini bg k).lo ≤ (p.wf bg k).lo ∧ (p.wf bg k).hi ≤ (p.ini bg k).hi := by
  cases k with
  | zero => simp [Path5.wf]
  | succ k =>
    simp only [Path5.wf]
    refine ⟨by omega, ?_⟩
    split <;> omega
theorem wb_wf (d : Nat) : (p.wf bg (p.l.length - d)).lo ≤ (p.wb bg d).lo ∧ (p.wb bg d).hi ≤ (p.wf bg (p.l.length - d)).hi := by
  cases d with
  | zero => simp [Path5.wb]
  | succ d =>
    simp only [Path5.wb]
    refine ⟨?_, by omega⟩
    split <;> omega
theorem can_in (hp : pathOk p.q p.s p.l p.f p.b) (h : (p.held bg).can) : (∀ j, j ≤ p.l.length → inR ((p.held bg).fwd j)) ∧ ∀ d, d ≤ p.l.length → inR ((p.held bg).bwd d) := by
  have hc := held_calm (bg := bg) hp
  have hl := held_len (p := p) (bg := bg)
  have hf : ∀ j, j ≤ p.l.length → inR ((p.held bg).fwd j) := fun j hj => ⟨Path5.fwd_lo hc j (by omega), Path5.can_fwd h (by omega), Path5.fwd_hi hc j (by omega)⟩
  refine ⟨hf, fun d hd => ?_⟩
  have h1 := (p.held bg).bwd_lo d (by omega)
  have h2 := (p.held bg).bwd_hi d (by omega)
  have h3 := hf (p.l.length - d) (by omega)
  have h4 := h (p.l.length - d) (by omega)
  unfold Path5.span at h4
  rw [hl, show p.l.length - (p.l.length - d) = d by omega] at h4
  rw [hl] at h1 h2
  unfold inR at h3 ⊢
  omega
theorem wcan_in (hp : pathOk p.q p.s p.l p.f p.b) (hb : bg.length ≤ p.l.length) (h : p.wcan bg) : (∀ j, j ≤ p.l.length → inR (p.wf bg j)) ∧ ∀ d, d ≤ p.l.length → inR (p.wb bg d) := by
  have hd : ∀ d, d ≤ p.l.length → inR (p.wb bg d) ∧ inR (p.wf bg (p.l.length - d)) := fun d hd => by
    have h1 := wb_wf (p := p) (bg := bg) d
    have h2 := wf_ini (p := p) (bg := bg) (p.l.length - d)
    have h3 := ini_in (bg := bg) hp hb (k := p.l.length - d) (by omega)
    have h4 := h (p.l.length - d) (by omega)
    unfold Path5.wsp at h4
    rw [show p.l.length - (p.l.length - d) = d by omega] at h4
    unfold inR
    omega
  refine ⟨fun j hj => ?_, fun d h => (hd d h).1⟩
  have := (hd (p.l.length - j) (by omega)).2
  rwa [show p.l.length - (p.l.length - j) = j by omega] at this
/-- THE TWO COME TO THE SAME. -/
theorem spans_same (hp : pathOk p.q p.s p.l p.f p.b) (hb : bg.length ≤ p.l.length) : ((p.held bg).can ↔ p.wcan bg) ∧ (p.held bg).spans = p.wspans bg := by
  have hq : 0 ≤ p.q ∧ p.q ≤ 50 := by have := hp.1; omega
  have hs : 0 ≤ p.s ∧ p.s ≤ 50 := by have := hp.1; omega
  have hi : ∀ k, k ≤ p.l.length → (p.ini bg k).hi ≤ 10000 := fun k hk => (ini_in hp hb hk).2
  have hl := held_len (p := p) (bg := bg)
  have key : ((p.held bg).can ∨ p.wcan bg) → ∀ k, k < p.l.length + 1 → (p.held bg).span k = p.wsp bg k := by
    intro h
    have hff : (∀ j, j ≤ p.l.length → inR (p.wf bg j)) ∨ (∀ j, j ≤ p.l.length → inR ((p.held bg).fwd j)) := h.elim (fun h => .inr (can_in hp h).1) (fun h => .inl (wcan_in hp hb h).1)
    have hf : ∀ j, j ≤ p.l.length → (p.held bg).fwd j = p.wf bg j := fun j hj => wf_eq hq hs hb hi j hj hff
    have hr0 : ∀ j, j ≤ p.l.length → inR (p.wf bg j) := hff.elim id fun h j hj => by rw [← hf j hj]; exact h j hj
    intro k hk
    unfold Path5.span Path5.wsp
    rw [hl]
    exact wb_eq hq hs hf hr0 _ (by omega) (h.elim (fun h => .inr (can_in hp h).2) (fun h => .inl (wcan_in hp hb h).2))
  have hiff : (p.held bg).can ↔ p.wcan bg := by
    refine ⟨fun h k hk => ?_, fun h k hk => ?_⟩
    · rw [← key (.inl h) k hk]; exact h k (by omega)
    · rw [hl] at hk; rw [key (.inr h) k hk]; exact h k hk
  refine ⟨hiff, ?_⟩
  unfold Path5.spans Path5.wspans
  by_cases h : p.wcan bg
  · rw [if_pos h, if_pos (hiff.2 h), hl]
    exact List.map_congr_left fun k hk => key (.inr h) k (List.mem_range.1 hk)
  · rw [if_neg h, if_neg fun h2 => h (hiff.1 h2)]
end
end Go.Ve

namespace Go.Ve
open Go.Proofs
set_option linter.unusedSimpArgs false
set_option linter.unusedVariables false
set_option maxRecDepth 100000
def t_spans : List AV → Option (Prop × AV)
  | [.agg [.int .i64 q, .int .i64 s, .sl _ 7 xs, .int .i64 f, .int .i64 b], .sl _ 1 ys] => some (((xs.map unStp).map Stp7.row = xs ∧ (ys.map unI).map irow = ys) ∧ (xs.map unStp).length ≤ 40 ∧ (ys.map unI).length ≤ (xs.map unStp).length, .tup [.sl 0 2 ((Path5.wspans ⟨q, s, xs.map unStp, f, b⟩ (ys.map unI)).map Span2.row), .bool (decide (Path5.wcan ⟨q, s, xs.map unStp, f, b⟩ (ys.map unI)))])
  | _ => none
theorem h_spans : ∀ args p v, t_spans args = some (p, v) → p → Contract P 113 args [] v [] ∧ noref v = true ∧ No99 v := by
  intro args p v h1 h2
  unfold t_spans at h1
  split at h1
  · rename_i q s t xs f b t' ys
    cases h1
    have := c_spans ⟨q, s, xs.map unStp, f, b⟩ t t' (ys.map unI) h2.2.1 h2.2.2
    simp only [h2.1.1, h2.1.2] at this
    exact ⟨this, rfl, ⟨by omega, no99_span _⟩, trivial, trivial⟩
  · cases h1
theorem c_iFlyNext (p : Path5) (t t' : Nat) (bg : List Int) : Contract P 108 [.agg [.int .i64 p.q, .int .i64 p.s, .sl t 7 (p.l.map Stp7.row), .int .i64 p.f, .int .i64 p.b], .sl t' 1 (bg.map irow)] [] (.tup [.agg [.int .i64 (p.next bg).lo, .int .i64 (p.next bg).hi], .bool (decide (p.begun bg))]) [] := by
  refine fn_sound (((Env.nil P).add 92 t_iPathOk h_iPathOk).add 113 t_spans h_spans) hm k_impl_FlyNext (Nat.le_of_ble_eq_true rfl) rfl ?_
  unfold s_impl_FlyNext
  simp only [w_skip, w_rg, w_rgd, w_seq, w_cond, w_block, w_loop, w_exit, w_ret, w_gh, w_rg0, w_rg1, w_rgT, w_rgF, w_run, w_psd, w_und, w_dr0, w_dr1, w_drT, w_drF, w_drRun, w_drPsd, w_drUnd, w_drKn, w_drKs, w_putK, w_trimK, w_thenN, w_thenE, w_thenR, w_scope, w_label, w_blkN, w_blkE, w_blkR, w_call, w_effK, brU_true, brU_false, brU_u, brU_not, brU_and, brU_or, brU_dec, brU_eq, brU_ne, br_true, br_false, br_not, br_and, br_or, br_dec, br_eq, br_ne, w_getE0, w_getE1, w_setE0, w_setE1, w_dropE0, w_dropE1, w_drop0, w_drop1, w_getM0, w_getM1, w_setM0, w_setM1, ev_v, ev_c, w_putS, w_putN, w_lit, w_apU0, w_apU1, w_apU2, w_trim, enumE0, enumE1, w_callWp, w_callA0, w_callA1, w_R0, w_R1, w_R2, w_T2, w_callL, w_callT, w_T1, w_T0, o_mv, o_newnil, o_pick, o_bin, o_binN, o_neg, o_not, o_eqB, o_eqS, o_conv, o_alloc, o_box, o_load1, o_loadN, o_store, o_nilck, o_faddr, o_field1, o_fieldN, o_iaddr, o_istr, o_slStr, o_slSl, o_lenS, o_lenL, o_mx, o_mn, o_ext, o_build, o_lit, o_litOwn, o_app, o_mk, o_mvfrz, l_int, l_bool, l_str, l_agg, l_sl, l_own, l_ptr, l_pp, i_int, i_bool, i_str, i_sl, i_own, i_ptr, i_pp, all0, all1, e_ok1, eff, effBin, effBinN, ld_ptr, ld_pp, ld_elt, ia_own, ia_arr, el_1, el_N, load1K, faddrE, r_iaddr, sg_S, sg_c, sg_n, purL, pur, List.map, List.drop, List.take, List.length, List.foldl, List.append_eq, List.nil_append, List.cons_append, List.getD_cons_zero, List.getD_cons_succ, reduceIte, Nat.reduceEqDiff, Nat.reduceAdd, Nat.reduceLeDiff, true_and, and_true, Bool.not_true, Bool.not_false, Bool.and_true, Bool.true_and, Bool.and_self, reduceCtorEq, true_implies, false_implies, implies_true, decide_eq_true_eq, Option.map_some, fpOf, fpX, SOp.xs, oX, refs, refsL, dom, disj, List.all_nil, List.all_cons, List.contains_cons, List.contains_nil, Nat.reduceBEq, Bool.or_false, Bool.false_or, List.append_nil, Bool.not_false, Bool.not_true, List.forall_mem_cons, fm0, List.set, Nat.reduceLT, ne_eq, not_false_eq_true, not_true_eq_false
, ret1, ret1N, keep0, keep1, rf_int, rf_bool, rf_str, rf_sl, rf_agg, rf_tup, rfL0, rfL1, re_t, re_cN, re_L0, re_L1, ret_tup, ret_one, decide_true, AV.bool.injEq, AV.int.injEq, Nat.reduceLeDiff, Bool.true_eq, Bool.false_eq, decide_eq_true_eq, decide_eq_false_iff_not, t_iPathOk, t_spans, t_sPathOk, List.length_map, irow, Span2.row, un_stp, un_i, path_eta, Path5.av, flatOk, noref, ghost, Nat.zero_add, Nat.sub_zero, Int.toNat_natCast]
  have no : ¬ p.begun bg → AV.agg [AV.int IntKind.i64 (p.next bg).lo, AV.int IntKind.i64 (p.next bg).hi] = AV.agg [AV.int IntKind.i64 0, AV.int IntKind.i64 0] ∧ ¬ p.begun bg := fun h => ⟨by rw [Path5.next, if_neg h], h⟩
  have hl : (p.held bg).l.length = p.l.length := by simp [Path5.held]
  refine ⟨fun h1 => ⟨fun h2 => no fun h => absurd h.2.1 (by omega), fun h2 => ⟨⟨by have := h1.2.1; omega, by omega⟩, fun h3 => ?_, fun h3 => no fun h => h3 ((spans_same h1 (by omega)).1.1 h.2.2)⟩⟩, fun h1 => no fun h => h1 h.1⟩
  have hs := spans_same (bg := bg) h1 (by omega)
  have h3 := hs.1.2 h3
  have hb : p.begun bg := ⟨h1, by omega, h3⟩
  have e : (p.held bg).spans = (List.range ((p.held bg).l.length + 1)).map (p.held bg).span := if_pos h3
  rw [← hs.2, e, getD_range (by omega), Path5.next, if_pos hb]
  exact ⟨by omega, by simp; omega, rfl, hb⟩
end Go.Ve

namespace Go.Ve
open Go.Proofs
set_option linter.unusedSimpArgs false
set_option linter.unusedVariables false
set_option maxRecDepth 100000
theorem held_nil (p : Path5) : p.held [] = p := by
  have : (List.range p.l.length).map (heldStep p [] 0) = p.l := by
    refine List.ext_getElem (by simp) fun j h1 h2 => by simp [heldStep, h2]
  unfold Path5.held
  rw [show ([] : List Int).length = 0 from rfl, this]
def Path5.fit (p : Path5) : Prop := pathOk p.q p.s p.l p.f p.b ∧ p.can
instance (p : Path5) : Decidable p.fit := by unfold Path5.fit; infer_instance
def Path5.fitS (p : Path5) : List Span2 := if pathOk p.q p.s p.l p.f p.b then p.spans else []
theorem c_iFlySpans (p : Path5) (t : Nat) : Contract P 93 [.agg [.int .i64 p.q, .int .i64 p.s, .sl t 7 (p.l.map Stp7.row), .int .i64 p.f, .int .i64 p.b]] [] (.tup [.sl 0 2 (p.fitS.map Span2.row), .bool (decide p.fit)]) [] := by
  refine fn_sound (((Env.nil P).add 92 t_iPathOk h_iPathOk).add 113 t_spans h_spans) hm k_impl_FlySpans (Nat.le_of_ble_eq_true rfl) rfl ?_
  unfold s_impl_FlySpans
  simp only [w_skip, w_rg, w_rgd, w_seq, w_cond, w_block, w_loop, w_exit, w_ret, w_gh, w_rg0, w_rg1, w_rgT, w_rgF, w_run, w_psd, w_und, w_dr0, w_dr1, w_drT, w_drF, w_drRun, w_drPsd, w_drUnd, w_drKn, w_drKs, w_putK, w_trimK, w_thenN, w_thenE, w_thenR, w_scope, w_label, w_blkN, w_blkE, w_blkR, w_call, w_effK, brU_true, brU_false, brU_u, brU_not, brU_and, brU_or, brU_dec, brU_eq, brU_ne, br_true, br_false, br_not, br_and, br_or, br_dec, br_eq, br_ne, w_getE0, w_getE1, w_setE0, w_setE1, w_dropE0, w_dropE1, w_drop0, w_drop1, w_getM0, w_getM1, w_setM0, w_setM1, ev_v, ev_c, w_putS, w_putN, w_lit, w_apU0, w_apU1, w_apU2, w_trim, enumE0, enumE1, w_callWp, w_callA0, w_callA1, w_R0, w_R1, w_R2, w_T2, w_callL, w_callT, w_T1, w_T0, o_mv, o_newnil, o_pick, o_bin, o_binN, o_neg, o_not, o_eqB, o_eqS, o_conv, o_alloc, o_box, o_load1, o_loadN, o_store, o_nilck, o_faddr, o_field1, o_fieldN, o_iaddr, o_istr, o_slStr, o_slSl, o_lenS, o_lenL, o_mx, o_mn, o_ext, o_build, o_lit, o_litOwn, o_app, o_mk, o_mvfrz, l_int, l_bool, l_str, l_agg, l_sl, l_own, l_ptr, l_pp, i_int, i_bool, i_str, i_sl, i_own, i_ptr, i_pp, all0, all1, e_ok1, eff, effBin, effBinN, ld_ptr, ld_pp, ld_elt, ia_own, ia_arr, el_1, el_N, load1K, faddrE, r_iaddr, sg_S, sg_c, sg_n, purL, pur, List.map, List.drop, List.take, List.length, List.foldl, List.append_eq, List.nil_append, List.cons_append, List.getD_cons_zero, List.getD_cons_succ, reduceIte, Nat.reduceEqDiff, Nat.reduceAdd, Nat.reduceLeDiff, true_and, and_true, Bool.not_true, Bool.not_false, Bool.and_true, Bool.true_and, Bool.and_self, reduceCtorEq, true_implies, false_implies, implies_true, decide_eq_true_eq, Option.map_some, fpOf, fpX, SOp.xs, oX, refs, refsL, dom, disj, List.all_nil, List.all_cons, List.contains_cons, List.contains_nil, Nat.reduceBEq, Bool.or_false, Bool.false_or, List.append_nil, Bool.not_false, Bool.not_true, List.forall_mem_cons, fm0, List.set, Nat.reduceLT, ne_eq, not_false_eq_true, not_true_eq_false
, ret1, ret1N, keep0, keep1, rf_int, rf_bool, rf_str, rf_sl, rf_agg, rf_tup, rfL0, rfL1, re_t, re_cN, re_L0, re_L1, ret_tup, ret_one, decide_true, AV.bool.injEq, AV.int.injEq, Nat.reduceLeDiff, Bool.true_eq, Bool.false_eq, decide_eq_true_eq, decide_eq_false_iff_not, t_iPathOk, t_spans, t_sPathOk, List.length_map, irow, Span2.row, un_stp, un_i, path_eta, Path5.av, flatOk, noref, ghost, Nat.zero_add, Nat.sub_zero, Int.toNat_natCast]
  have no : ¬ pathOk p.q p.s p.l p.f p.b → AV.sl 0 2 [] = AV.sl 0 2 (List.map Span2.row p.fitS) ∧ ¬ p.fit := fun h => ⟨by rw [Path5.fitS, if_neg h]; rfl, fun h2 => h h2.1⟩
  refine ⟨fun h1 => ?_, no⟩
  have hs := spans_same (bg := []) h1 (Nat.zero_le _)
  rw [held_nil] at hs
  exact ⟨⟨by have := h1.2.1; omega, Nat.zero_le _⟩, by rw [Path5.fitS, if_pos h1, hs.2], decide_eq_decide.2 ⟨fun h => ⟨h1, hs.1.2 h⟩, fun h => hs.1.1 h.2⟩⟩
end Go.Ve

namespace Go.Ve
open Go.Proofs
set_option linter.unusedSimpArgs false
set_option linter.unusedVariables false
set_option maxRecDepth 100000
def unBox : List AV → Box6
  | [.int _ x, .int _ y, .int _ l, .int _ h, .int _ i, .int _ o] => ⟨x, y, l, h, i, o⟩
  | _ => default
theorem un_box (l : List Box6) : (l.map Box6.row).map unBox = l := by
  rw [List.map_map]; exact List.map_id'' (fun s => rfl) l
def t_lap : List AV → Option (Prop × AV)
  | [.agg [.int .i64 q, .int .i64 s], .sl _ 6 xs] => some ((xs.map unBox).map Box6.row = xs ∧ (xs.map unBox).length ≤ 1048576, (lapPath q s (xs.map unBox)).av)
  | _ => none
theorem no99_av (p : Path5) : No99 p.av := by
  simp [Path5.av, No99, No99L, no99_step]
def t_next : List AV → Option (Prop × AV)
  | [.agg [.int .i64 q, .int .i64 s, .sl _ 7 xs, .int .i64 f, .int .i64 b], .sl _ 1 ys] => some ((xs.map unStp).map Stp7.row = xs ∧ (ys.map unI).map irow = ys, .tup [.agg [.int .i64 (Path5.next ⟨q, s, xs.map unStp, f, b⟩ (ys.map unI)).lo, .int .i64 (Path5.next ⟨q, s, xs.map unStp, f, b⟩ (ys.map unI)).hi], .bool (decide (Path5.begun ⟨q, s, xs.map unStp, f, b⟩ (ys.map unI)))])
  | _ => none
abbrev t_sLap := t_lap
theorem h_sLap : ∀ args p v, t_lap args = some (p, v) → p → Contract P 56 args [] v [] ∧ noref v = true ∧ No99 v := by
  intro args p v h1 h2
  unfold t_lap at h1
  split at h1
  · rename_i q s t xs
    cases h1
    have := c_sLapPath q s t (xs.map unBox) h2.2
    rw [h2.1] at this
    exact ⟨this, rfl, no99_av _⟩
  · cases h1
abbrev t_iLap := t_lap
theorem h_iLap : ∀ args p v, t_lap args = some (p, v) → p → Contract P 66 args [] v [] ∧ noref v = true ∧ No99 v := by
  intro args p v h1 h2
  unfold t_lap at h1
  split at h1
  · rename_i q s t xs
    cases h1
    have := c_iLapPath q s t (xs.map unBox) h2.2
    rw [h2.1] at this
    exact ⟨this, rfl, no99_av _⟩
  · cases h1
abbrev t_iNext := t_next
theorem h_iNext : ∀ args p v, t_next args = some (p, v) → p → Contract P 108 args [] v [] ∧ noref v = true ∧ No99 v := by
  intro args p v h1 h2
  unfold t_next at h1
  split at h1
  · rename_i q s t xs f b t' ys
    cases h1
    have := c_iFlyNext ⟨q, s, xs.map unStp, f, b⟩ t t' (ys.map unI)
    simp only [h2.1, h2.2] at this
    exact ⟨this, rfl, ⟨trivial, trivial, trivial⟩, trivial, trivial⟩
  · cases h1
theorem c_next (nm : ByteArray) (q s nr no : Int) (t t' : Nat) (tu : List Box6) (fl : List Int) (hl : tu.length ≤ 1048576) : Contract P 87 [.agg [.str nm, .int .i64 q, .int .i64 s, .int .i64 nr, .int .i64 no, .sl t 6 (tu.map Box6.row), .sl t' 1 (fl.map irow)]] [] (.tup [(lapPath q s tu).av, .agg [.int .i64 ((lapPath q s tu).next fl).lo, .int .i64 ((lapPath q s tu).next fl).hi], .bool (decide ((lapPath q s tu).begun fl))]) [] := by
  refine fn_sound (((Env.nil P).add 66 t_iLap h_iLap).add 108 t_iNext h_iNext) hm k_impl_LapCraft_next (Nat.le_of_ble_eq_true rfl) rfl ?_
  unfold s_impl_LapCraft_next
  simp only [w_skip, w_rg, w_rgd, w_seq, w_cond, w_block, w_loop, w_exit, w_ret, w_gh, w_rg0, w_rg1, w_rgT, w_rgF, w_run, w_psd, w_und, w_dr0, w_dr1, w_drT, w_drF, w_drRun, w_drPsd, w_drUnd, w_drKn, w_drKs, w_putK, w_trimK, w_thenN, w_thenE, w_thenR, w_scope, w_label, w_blkN, w_blkE, w_blkR, w_call, w_effK, brU_true, brU_false, brU_u, brU_not, brU_and, brU_or, brU_dec, brU_eq, brU_ne, br_true, br_false, br_not, br_and, br_or, br_dec, br_eq, br_ne, w_getE0, w_getE1, w_setE0, w_setE1, w_dropE0, w_dropE1, w_drop0, w_drop1, w_getM0, w_getM1, w_setM0, w_setM1, ev_v, ev_c, w_putS, w_putN, w_lit, w_apU0, w_apU1, w_apU2, w_trim, enumE0, enumE1, w_callWp, w_callA0, w_callA1, w_R0, w_R1, w_R2, w_T2, w_callL, w_callT, w_T1, w_T0, o_mv, o_newnil, o_pick, o_bin, o_binN, o_neg, o_not, o_eqB, o_eqS, o_conv, o_alloc, o_box, o_load1, o_loadN, o_store, o_nilck, o_faddr, o_field1, o_fieldN, o_iaddr, o_istr, o_slStr, o_slSl, o_lenS, o_lenL, o_mx, o_mn, o_ext, o_build, o_lit, o_litOwn, o_app, o_mk, o_mvfrz, l_int, l_bool, l_str, l_agg, l_sl, l_own, l_ptr, l_pp, i_int, i_bool, i_str, i_sl, i_own, i_ptr, i_pp, all0, all1, e_ok1, eff, effBin, effBinN, ld_ptr, ld_pp, ld_elt, ia_own, ia_arr, el_1, el_N, load1K, faddrE, r_iaddr, sg_S, sg_c, sg_n, purL, pur, List.map, List.drop, List.take, List.length, List.foldl, List.append_eq, List.nil_append, List.cons_append, List.getD_cons_zero, List.getD_cons_succ, reduceIte, Nat.reduceEqDiff, Nat.reduceAdd, Nat.reduceLeDiff, true_and, and_true, Bool.not_true, Bool.not_false, Bool.and_true, Bool.true_and, Bool.and_self, reduceCtorEq, true_implies, false_implies, implies_true, decide_eq_true_eq, Option.map_some, fpOf, fpX, SOp.xs, oX, refs, refsL, dom, disj, List.all_nil, List.all_cons, List.contains_cons, List.contains_nil, Nat.reduceBEq, Bool.or_false, Bool.false_or, List.append_nil, Bool.not_false, Bool.not_true, List.forall_mem_cons, fm0, List.set, Nat.reduceLT, ne_eq, not_false_eq_true, not_true_eq_false
, ret1, ret1N, keep0, keep1, rf_int, rf_bool, rf_str, rf_sl, rf_agg, rf_tup, rfL0, rfL1, re_t, re_cN, re_L0, re_L1, ret_tup, ret_one, decide_true, AV.bool.injEq, AV.int.injEq, Nat.reduceLeDiff, Bool.true_eq, Bool.false_eq, decide_eq_true_eq, decide_eq_false_iff_not, t_iLap, t_iNext, t_lap, t_next, List.length_map, irow, un_box, un_stp, un_i, path_eta, Path5.av, flatOk, noref, ghost, Nat.zero_add, Nat.sub_zero, Int.toNat_natCast]
  exact hl
end Go.Ve

namespace Go.Ve
open Go.Proofs
set_option linter.unusedSimpArgs false
set_option linter.unusedVariables false
set_option maxRecDepth 100000
theorem ext_of {α : Type} [Inhabited α] {a b : List α} (hl : a.length = b.length) (h : ∀ j, j < a.length → a.getD j default = b.getD j default) : a = b := by
  refine List.ext_getElem hl fun j h1 h2 => ?_
  have := h j h1
  simpa [h1, h2] using this
def F_eqIntS (t t' : Nat) (a b : List Int) (i : Nat) : St := ⟨[(0, .sl t 1 (a.map irow)), (1, .sl t' 1 (b.map irow)), (5, .int .i64 i)], []⟩
theorem c_eqIntS (t t' : Nat) (a b : List Int) (ha : a.length ≤ 4611686018427387904) : Contract P 39 [.sl t 1 (a.map irow), .sl t' 1 (b.map irow)] [] (.bool (decide (a = b))) [] := by
  refine fn_sound (Env.nil P) hm k_laws_eqIntS (Nat.le_of_ble_eq_true rfl) rfl ?_
  unfold s_laws_eqIntS
  simp only [w_skip, w_rg, w_rgd, w_seq, w_cond, w_block, w_loop, w_exit, w_ret, w_gh, w_rg0, w_rg1, w_rgT, w_rgF, w_run, w_psd, w_und, w_dr0, w_dr1, w_drT, w_drF, w_drRun, w_drPsd, w_drUnd, w_drKn, w_drKs, w_putK, w_trimK, w_thenN, w_thenE, w_thenR, w_scope, w_label, w_blkN, w_blkE, w_blkR, w_call, w_effK, brU_true, brU_false, brU_u, brU_not, brU_and, brU_or, brU_dec, brU_eq, brU_ne, br_true, br_false, br_not, br_and, br_or, br_dec, br_eq, br_ne, w_getE0, w_getE1, w_setE0, w_setE1, w_dropE0, w_dropE1, w_drop0, w_drop1, w_getM0, w_getM1, w_setM0, w_setM1, ev_v, ev_c, w_putS, w_putN, w_lit, w_apU0, w_apU1, w_apU2, w_trim, enumE0, enumE1, w_callWp, w_callA0, w_callA1, w_R0, w_R1, w_R2, w_T2, w_callL, w_callT, w_T1, w_T0, o_mv, o_newnil, o_pick, o_bin, o_binN, o_neg, o_not, o_eqB, o_eqS, o_conv, o_alloc, o_box, o_load1, o_loadN, o_store, o_nilck, o_faddr, o_field1, o_fieldN, o_iaddr, o_istr, o_slStr, o_slSl, o_lenS, o_lenL, o_mx, o_mn, o_ext, o_build, o_lit, o_litOwn, o_app, o_mk, o_mvfrz, l_int, l_bool, l_str, l_agg, l_sl, l_own, l_ptr, l_pp, i_int, i_bool, i_str, i_sl, i_own, i_ptr, i_pp, all0, all1, e_ok1, eff, effBin, effBinN, ld_ptr, ld_pp, ld_elt, ia_own, ia_arr, el_1, el_N, load1K, faddrE, r_iaddr, sg_S, sg_c, sg_n, purL, pur, List.map, List.drop, List.take, List.length, List.foldl, List.append_eq, List.nil_append, List.cons_append, List.getD_cons_zero, List.getD_cons_succ, reduceIte, Nat.reduceEqDiff, Nat.reduceAdd, Nat.reduceLeDiff, true_and, and_true, Bool.not_true, Bool.not_false, Bool.and_true, Bool.true_and, Bool.and_self, reduceCtorEq, true_implies, false_implies, implies_true, decide_eq_true_eq, Option.map_some, fpOf, fpX, SOp.xs, oX, refs, refsL, dom, disj, List.all_nil, List.all_cons, List.contains_cons, List.contains_nil, Nat.reduceBEq, Bool.or_false, Bool.false_or, List.append_nil, Bool.not_false, Bool.not_true, List.forall_mem_cons, fm0, List.set, Nat.reduceLT, ne_eq, not_false_eq_true, not_true_eq_false
, ret1, ret1N, keep0, keep1, rf_int, rf_bool, rf_str, rf_sl, rf_agg, rf_tup, rfL0, rfL1, re_t, re_cN, re_L0, re_L1, ret_tup, ret_one, decide_true, AV.bool.injEq, AV.int.injEq, Nat.reduceLeDiff, Bool.true_eq, Bool.false_eq, decide_eq_true_eq, decide_eq_false_iff_not, List.length_map, irow, Int.toNat_natCast, Int.natCast_inj]
  refine ⟨fun h1 h => h1 (by rw [h]), fun h1 => ?_⟩
  refine loop_of (F_eqIntS t t' a b) (fun i => i ≤ a.length ∧ ∀ j, j < i → a.getD j default = b.getD j default) (fun i => a.length - i) 0 ⟨⟨.inr rfl, .inr rfl, .inr rfl, trivial⟩, trivial, rfl, rfl⟩ ⟨Nat.zero_le _, fun j hj => by omega⟩ ?_
  intro i hi
  unfold l_laws_eqIntS_0 F_eqIntS
  simp only [w_skip, w_rg, w_rgd, w_seq, w_cond, w_block, w_loop, w_exit, w_ret, w_gh, w_rg0, w_rg1, w_rgT, w_rgF, w_run, w_psd, w_und, w_dr0, w_dr1, w_drT, w_drF, w_drRun, w_drPsd, w_drUnd, w_drKn, w_drKs, w_putK, w_trimK, w_thenN, w_thenE, w_thenR, w_scope, w_label, w_blkN, w_blkE, w_blkR, w_call, w_effK, brU_true, brU_false, brU_u, brU_not, brU_and, brU_or, brU_dec, brU_eq, brU_ne, br_true, br_false, br_not, br_and, br_or, br_dec, br_eq, br_ne, w_getE0, w_getE1, w_setE0, w_setE1, w_dropE0, w_dropE1, w_drop0, w_drop1, w_getM0, w_getM1, w_setM0, w_setM1, ev_v, ev_c, w_putS, w_putN, w_lit, w_apU0, w_apU1, w_apU2, w_trim, enumE0, enumE1, w_callWp, w_callA0, w_callA1, w_R0, w_R1, w_R2, w_T2, w_callL, w_callT, w_T1, w_T0, o_mv, o_newnil, o_pick, o_bin, o_binN, o_neg, o_not, o_eqB, o_eqS, o_conv, o_alloc, o_box, o_load1, o_loadN, o_store, o_nilck, o_faddr, o_field1, o_fieldN, o_iaddr, o_istr, o_slStr, o_slSl, o_lenS, o_lenL, o_mx, o_mn, o_ext, o_build, o_lit, o_litOwn, o_app, o_mk, o_mvfrz, l_int, l_bool, l_str, l_agg, l_sl, l_own, l_ptr, l_pp, i_int, i_bool, i_str, i_sl, i_own, i_ptr, i_pp, all0, all1, e_ok1, eff, effBin, effBinN, ld_ptr, ld_pp, ld_elt, ia_own, ia_arr, el_1, el_N, load1K, faddrE, r_iaddr, sg_S, sg_c, sg_n, purL, pur, List.map, List.drop, List.take, List.length, List.foldl, List.append_eq, List.nil_append, List.cons_append, List.getD_cons_zero, List.getD_cons_succ, reduceIte, Nat.reduceEqDiff, Nat.reduceAdd, Nat.reduceLeDiff, true_and, and_true, Bool.not_true, Bool.not_false, Bool.and_true, Bool.true_and, Bool.and_self, reduceCtorEq, true_implies, false_implies, implies_true, decide_eq_true_eq, Option.map_some, fpOf, fpX, SOp.xs, oX, refs, refsL, dom, disj, List.all_nil, List.all_cons, List.contains_cons, List.contains_nil, Nat.reduceBEq, Bool.or_false, Bool.false_or, List.append_nil, Bool.not_false, Bool.not_true, List.forall_mem_cons, fm0, List.set, Nat.reduceLT, ne_eq, not_false_eq_true, not_true_eq_false
, ret1, ret1N, keep0, keep1, rf_int, rf_bool, rf_str, rf_sl, rf_agg, rf_tup, rfL0, rfL1, re_t, re_cN, re_L0, re_L1, ret_tup, ret_one, decide_true, AV.bool.injEq, AV.int.injEq, Nat.reduceLeDiff, Bool.true_eq, Bool.false_eq, decide_eq_true_eq, decide_eq_false_iff_not, List.length_map, irow, Int.toNat_natCast, Int.natCast_inj]
  refine ⟨fun h2 => ⟨by omega, by omega, by omega, by omega, fun h3 h => h3 (by rw [h]), fun h3 => ⟨by omega, loopK_of (i + 1) ⟨⟨.inr rfl, .inr rfl, .inr rfl, trivial⟩, trivial, rfl, rfl⟩ ⟨by omega, fun j hj => ?_⟩ (by omega)⟩⟩, fun h2 => ext_of (by omega) fun j hj => hi.2 j (by have := hi.1; omega)⟩
  by_cases e : j = i
  · subst e; exact h3
  · exact hi.2 j (by omega)
end Go.Ve

namespace Go.Ve
open Go.Proofs
set_option linter.unusedSimpArgs false
set_option linter.unusedVariables false
set_option maxRecDepth 100000
theorem set_i {l : List Int} {i : Nat} {v : Int} : (l.map irow).set i (setSeg ((l.map irow).getD i []) 0 [.int .i64 v]) = (l.set i v).map irow :=
  set_rows (α := Int) (f := irow) (fun s => v) fun x => by simp [irow, setSeg]
def toI (a : List Int) (i : Nat) : List Int := a.take i ++ List.replicate (a.length - i) 0
def F_toIntS (t : Nat) (a : List Int) (i : Nat) : St := ⟨[(0, .sl t 1 (a.map irow)), (3, .own 107 0 0 a.length), (4, .int .i64 i)], [(107, .arr 3 0 1 ((toI a i).map irow))]⟩
theorem c_toIntS (t : Nat) (a : List Int) (ha : a.length ≤ 4294967296) : Contract P 32 [.sl t 1 (a.map irow)] [] (.sl 0 1 (a.map irow)) [] := by
  refine fn_sound (Env.nil P) hm k_laws_toIntS (Nat.le_of_ble_eq_true rfl) rfl ?_
  unfold s_laws_toIntS
  simp only [w_skip, w_rg, w_rgd, w_seq, w_cond, w_block, w_loop, w_exit, w_ret, w_gh, w_rg0, w_rg1, w_rgT, w_rgF, w_run, w_psd, w_und, w_dr0, w_dr1, w_drT, w_drF, w_drRun, w_drPsd, w_drUnd, w_drKn, w_drKs, w_putK, w_trimK, w_thenN, w_thenE, w_thenR, w_scope, w_label, w_blkN, w_blkE, w_blkR, w_call, w_effK, brU_true, brU_false, brU_u, brU_not, brU_and, brU_or, brU_dec, brU_eq, brU_ne, br_true, br_false, br_not, br_and, br_or, br_dec, br_eq, br_ne, w_getE0, w_getE1, w_setE0, w_setE1, w_dropE0, w_dropE1, w_drop0, w_drop1, w_getM0, w_getM1, w_setM0, w_setM1, ev_v, ev_c, w_putS, w_putN, w_lit, w_apU0, w_apU1, w_apU2, w_trim, enumE0, enumE1, w_callWp, w_callA0, w_callA1, w_R0, w_R1, w_R2, w_T2, w_callL, w_callT, w_T1, w_T0, o_mv, o_newnil, o_pick, o_bin, o_binN, o_neg, o_not, o_eqB, o_eqS, o_conv, o_alloc, o_box, o_load1, o_loadN, o_store, o_nilck, o_faddr, o_field1, o_fieldN, o_iaddr, o_istr, o_slStr, o_slSl, o_lenS, o_lenL, o_mx, o_mn, o_ext, o_build, o_lit, o_litOwn, o_app, o_mk, o_mvfrz, l_int, l_bool, l_str, l_agg, l_sl, l_own, l_ptr, l_pp, i_int, i_bool, i_str, i_sl, i_own, i_ptr, i_pp, all0, all1, e_ok1, eff, effBin, effBinN, ld_ptr, ld_pp, ld_elt, ia_own, ia_arr, el_1, el_N, load1K, faddrE, r_iaddr, sg_S, sg_c, sg_n, purL, pur, List.map, List.drop, List.take, List.length, List.foldl, List.append_eq, List.nil_append, List.cons_append, List.getD_cons_zero, List.getD_cons_succ, reduceIte, Nat.reduceEqDiff, Nat.reduceAdd, Nat.reduceLeDiff, true_and, and_true, Bool.not_true, Bool.not_false, Bool.and_true, Bool.true_and, Bool.and_self, reduceCtorEq, true_implies, false_implies, implies_true, decide_eq_true_eq, Option.map_some, fpOf, fpX, SOp.xs, oX, refs, refsL, dom, disj, List.all_nil, List.all_cons, List.contains_cons, List.contains_nil, Nat.reduceBEq, Bool.or_false, Bool.false_or, List.append_nil, Bool.not_false, Bool.not_true, List.forall_mem_cons, fm0, List.set, Nat.reduceLT, ne_eq, not_false_eq_true, not_true_eq_false
, ret1, ret1N, keep0, keep1, rf_int, rf_bool, rf_str, rf_sl, rf_agg, rf_tup, rfL0, rfL1, re_t, re_cN, re_L0, re_L1, ret_tup, ret_one, decide_true, AV.bool.injEq, AV.int.injEq, Nat.reduceLeDiff, Bool.true_eq, Bool.false_eq, decide_eq_true_eq, decide_eq_false_iff_not, List.length_map, irow, Int.toNat_natCast, ghost, set_i, Nat.zero_add, Nat.sub_zero]
  have m0 : List.replicate a.length [AV.int .i64 0] = (toI a 0).map irow := by simp [toI, irow]
  refine ⟨by omega, loop_of (F_toIntS t a) (fun i => i ≤ a.length) (fun i => a.length - i) 0 ⟨⟨.inr rfl, .inr rfl, .inr rfl, trivial⟩, ⟨congrArg (fun g => some (AObj.arr 3 0 1 g)) m0, trivial⟩, rfl, rfl⟩ (Nat.zero_le _) ?_⟩
  intro i hi
  unfold l_laws_toIntS_0 F_toIntS
  simp only [w_skip, w_rg, w_rgd, w_seq, w_cond, w_block, w_loop, w_exit, w_ret, w_gh, w_rg0, w_rg1, w_rgT, w_rgF, w_run, w_psd, w_und, w_dr0, w_dr1, w_drT, w_drF, w_drRun, w_drPsd, w_drUnd, w_drKn, w_drKs, w_putK, w_trimK, w_thenN, w_thenE, w_thenR, w_scope, w_label, w_blkN, w_blkE, w_blkR, w_call, w_effK, brU_true, brU_false, brU_u, brU_not, brU_and, brU_or, brU_dec, brU_eq, brU_ne, br_true, br_false, br_not, br_and, br_or, br_dec, br_eq, br_ne, w_getE0, w_getE1, w_setE0, w_setE1, w_dropE0, w_dropE1, w_drop0, w_drop1, w_getM0, w_getM1, w_setM0, w_setM1, ev_v, ev_c, w_putS, w_putN, w_lit, w_apU0, w_apU1, w_apU2, w_trim, enumE0, enumE1, w_callWp, w_callA0, w_callA1, w_R0, w_R1, w_R2, w_T2, w_callL, w_callT, w_T1, w_T0, o_mv, o_newnil, o_pick, o_bin, o_binN, o_neg, o_not, o_eqB, o_eqS, o_conv, o_alloc, o_box, o_load1, o_loadN, o_store, o_nilck, o_faddr, o_field1, o_fieldN, o_iaddr, o_istr, o_slStr, o_slSl, o_lenS, o_lenL, o_mx, o_mn, o_ext, o_build, o_lit, o_litOwn, o_app, o_mk, o_mvfrz, l_int, l_bool, l_str, l_agg, l_sl, l_own, l_ptr, l_pp, i_int, i_bool, i_str, i_sl, i_own, i_ptr, i_pp, all0, all1, e_ok1, eff, effBin, effBinN, ld_ptr, ld_pp, ld_elt, ia_own, ia_arr, el_1, el_N, load1K, faddrE, r_iaddr, sg_S, sg_c, sg_n, purL, pur, List.map, List.drop, List.take, List.length, List.foldl, List.append_eq, List.nil_append, List.cons_append, List.getD_cons_zero, List.getD_cons_succ, reduceIte, Nat.reduceEqDiff, Nat.reduceAdd, Nat.reduceLeDiff, true_and, and_true, Bool.not_true, Bool.not_false, Bool.and_true, Bool.true_and, Bool.and_self, reduceCtorEq, true_implies, false_implies, implies_true, decide_eq_true_eq, Option.map_some, fpOf, fpX, SOp.xs, oX, refs, refsL, dom, disj, List.all_nil, List.all_cons, List.contains_cons, List.contains_nil, Nat.reduceBEq, Bool.or_false, Bool.false_or, List.append_nil, Bool.not_false, Bool.not_true, List.forall_mem_cons, fm0, List.set, Nat.reduceLT, ne_eq, not_false_eq_true, not_true_eq_false
, ret1, ret1N, keep0, keep1, rf_int, rf_bool, rf_str, rf_sl, rf_agg, rf_tup, rfL0, rfL1, re_t, re_cN, re_L0, re_L1, ret_tup, ret_one, decide_true, AV.bool.injEq, AV.int.injEq, Nat.reduceLeDiff, Bool.true_eq, Bool.false_eq, decide_eq_true_eq, decide_eq_false_iff_not, List.length_map, irow, Int.toNat_natCast, ghost, set_i, Nat.zero_add, Nat.sub_zero]
  have st : i < a.length → (toI a i).set i (a.getD i default) = toI a (i + 1) := fun h => by
    refine List.ext_getElem (by simp [toI]; omega) fun j h1 h2 => ?_
    by_cases e : j = i
    · subst e
      simp [toI, List.getElem_append, h]
      intro h9; omega
    · simp only [List.getElem_set_ne (Ne.symm e)]
      simp only [toI, List.getElem_append, List.length_take, List.getElem_take, List.getElem_replicate]
      split <;> split <;> first | rfl | omega
  refine ⟨fun h => ⟨by omega, by omega, by omega, rfl, by omega, loopK_of (i + 1) ⟨⟨.inr rfl, .inr rfl, .inr rfl, trivial⟩, ⟨congrArg (fun g => some (AObj.arr 3 0 1 (List.map irow g))) (st (by omega)), trivial⟩, rfl, rfl⟩ (by omega) (by omega)⟩, fun h => ?_⟩
  have e : i = a.length := by omega
  subst e
  simp only [toI, List.take_length, Nat.sub_self, List.replicate_zero, List.append_nil]
  rw [List.take_of_length_le (by simp)]
end Go.Ve

namespace Go.Ve
open Go.Proofs
set_option linter.unusedSimpArgs false
set_option linter.unusedVariables false
set_option maxRecDepth 100000
theorem take_all {α : Type} {f : α → List AV} {l : List α} : List.take l.length (List.map f l) = List.map f l := List.take_of_length_le (by simp)
def Path5.tail (p : Path5) (k : Nat) : Path5 := { p with l := p.l.drop k }
def Path5.after (p : Path5) (now : Int) : Path5 := if 1 < p.l.length then { p with l := p.l.set 1 { p.l.getD 1 default with f := max (p.l.getD 1 default).f (now + 1) } } else { p with f := max p.f (now + 1) }
def Path5.avO (p : Path5) (o v : Nat) : AV := .agg [.int .i64 p.q, .int .i64 p.s, .own o v 0 p.l.length, .int .i64 p.f, .int .i64 p.b]
theorem c_l27Tail (p : Path5) (t : Nat) (k : Int) (hk : 0 ≤ k ∧ k ≤ p.l.length) (hn : p.l.length ≤ 1048576) : Contract P 101 [.agg [.int .i64 p.q, .int .i64 p.s, .sl t 7 (p.l.map Stp7.row), .int .i64 p.f, .int .i64 p.b], .int .i64 k] [] ((p.tail k.toNat).avO 112 1) [(112, .arr 105 1 7 ((p.tail k.toNat).l.map Stp7.row))] := by
  refine fn_sound (Env.nil P) hm k_spec_l27Tail (Nat.le_of_ble_eq_true rfl) rfl ?_
  unfold s_spec_l27Tail
  simp only [w_skip, w_rg, w_rgd, w_seq, w_cond, w_block, w_loop, w_exit, w_ret, w_gh, w_rg0, w_rg1, w_rgT, w_rgF, w_run, w_psd, w_und, w_dr0, w_dr1, w_drT, w_drF, w_drRun, w_drPsd, w_drUnd, w_drKn, w_drKs, w_putK, w_trimK, w_thenN, w_thenE, w_thenR, w_scope, w_label, w_blkN, w_blkE, w_blkR, w_call, w_effK, brU_true, brU_false, brU_u, brU_not, brU_and, brU_or, brU_dec, brU_eq, brU_ne, br_true, br_false, br_not, br_and, br_or, br_dec, br_eq, br_ne, w_getE0, w_getE1, w_setE0, w_setE1, w_dropE0, w_dropE1, w_drop0, w_drop1, w_getM0, w_getM1, w_setM0, w_setM1, ev_v, ev_c, w_putS, w_putN, w_lit, w_apU0, w_apU1, w_apU2, w_trim, enumE0, enumE1, w_callWp, w_callA0, w_callA1, w_R0, w_R1, w_R2, w_T2, w_callL, w_callT, w_T1, w_T0, o_mv, o_newnil, o_pick, o_bin, o_binN, o_neg, o_not, o_eqB, o_eqS, o_conv, o_alloc, o_box, o_load1, o_loadN, o_store, o_nilck, o_faddr, o_field1, o_fieldN, o_iaddr, o_istr, o_slStr, o_slSl, o_lenS, o_lenL, o_mx, o_mn, o_ext, o_build, o_lit, o_litOwn, o_app, o_mk, o_mvfrz, l_int, l_bool, l_str, l_agg, l_sl, l_own, l_ptr, l_pp, i_int, i_bool, i_str, i_sl, i_own, i_ptr, i_pp, all0, all1, e_ok1, eff, effBin, effBinN, ld_ptr, ld_pp, ld_elt, ia_own, ia_arr, el_1, el_N, load1K, faddrE, r_iaddr, sg_S, sg_c, sg_n, purL, pur, List.map, List.drop, List.take, List.length, List.foldl, List.append_eq, List.nil_append, List.cons_append, List.getD_cons_zero, List.getD_cons_succ, reduceIte, Nat.reduceEqDiff, Nat.reduceAdd, Nat.reduceLeDiff, true_and, and_true, Bool.not_true, Bool.not_false, Bool.and_true, Bool.true_and, Bool.and_self, reduceCtorEq, true_implies, false_implies, implies_true, decide_eq_true_eq, Option.map_some, fpOf, fpX, SOp.xs, oX, refs, refsL, dom, disj, List.all_nil, List.all_cons, List.contains_cons, List.contains_nil, Nat.reduceBEq, Bool.or_false, Bool.false_or, List.append_nil, Bool.not_false, Bool.not_true, List.forall_mem_cons, fm0, List.set, Nat.reduceLT, ne_eq, not_false_eq_true, not_true_eq_false
, ret1, ret1N, keep0, keep1, rf_int, rf_bool, rf_str, rf_sl, rf_agg, rf_tup, rfL0, rfL1, re_t, re_cN, re_L0, re_L1, ret_tup, ret_one, decide_true, AV.bool.injEq, AV.int.injEq, Nat.reduceLeDiff, Bool.true_eq, Bool.false_eq, decide_eq_true_eq, decide_eq_false_iff_not, List.length_map, rowsOf, appE, ghost, retQ_eq, retOk, wkM, refsInO, keepB, Path5.avO, Path5.tail, optI, take_rr, take_all, List.length_drop]
  rw [Int.toNat_natCast, take_all, List.length_map, Nat.zero_add, ← List.map_drop]
  exact ⟨by omega, by omega, rfl, rfl, rfl, rfl⟩
theorem c_l27After (p : Path5) (v : Nat) (now : Int) (hw : -4611686018427387904 ≤ now ∧ now ≤ 4611686018427387904) (hn : p.l.length ≤ 1048576) : Contract P 103 [p.avO 3 v, .int .i64 now] [(3, .arr 105 v 7 (p.l.map Stp7.row))] ((p.after now).avO 3 v) [(3, .arr 105 v 7 ((p.after now).l.map Stp7.row))] := by
  refine fn_sound ((Env.nil P).add 27 t_l21Max h_l21Max) hm k_spec_l27After (Nat.le_of_ble_eq_true rfl) rfl ?_
  unfold s_spec_l27After
  simp only [w_skip, w_rg, w_rgd, w_seq, w_cond, w_block, w_loop, w_exit, w_ret, w_gh, w_rg0, w_rg1, w_rgT, w_rgF, w_run, w_psd, w_und, w_dr0, w_dr1, w_drT, w_drF, w_drRun, w_drPsd, w_drUnd, w_drKn, w_drKs, w_putK, w_trimK, w_thenN, w_thenE, w_thenR, w_scope, w_label, w_blkN, w_blkE, w_blkR, w_call, w_effK, brU_true, brU_false, brU_u, brU_not, brU_and, brU_or, brU_dec, brU_eq, brU_ne, br_true, br_false, br_not, br_and, br_or, br_dec, br_eq, br_ne, w_getE0, w_getE1, w_setE0, w_setE1, w_dropE0, w_dropE1, w_drop0, w_drop1, w_getM0, w_getM1, w_setM0, w_setM1, ev_v, ev_c, w_putS, w_putN, w_lit, w_apU0, w_apU1, w_apU2, w_trim, enumE0, enumE1, w_callWp, w_callA0, w_callA1, w_R0, w_R1, w_R2, w_T2, w_callL, w_callT, w_T1, w_T0, o_mv, o_newnil, o_pick, o_bin, o_binN, o_neg, o_not, o_eqB, o_eqS, o_conv, o_alloc, o_box, o_load1, o_loadN, o_store, o_nilck, o_faddr, o_field1, o_fieldN, o_iaddr, o_istr, o_slStr, o_slSl, o_lenS, o_lenL, o_mx, o_mn, o_ext, o_build, o_lit, o_litOwn, o_app, o_mk, o_mvfrz, l_int, l_bool, l_str, l_agg, l_sl, l_own, l_ptr, l_pp, i_int, i_bool, i_str, i_sl, i_own, i_ptr, i_pp, all0, all1, e_ok1, eff, effBin, effBinN, ld_ptr, ld_pp, ld_elt, ia_own, ia_arr, el_1, el_N, load1K, faddrE, r_iaddr, sg_S, sg_c, sg_n, purL, pur, List.map, List.drop, List.take, List.length, List.foldl, List.append_eq, List.nil_append, List.cons_append, List.getD_cons_zero, List.getD_cons_succ, reduceIte, Nat.reduceEqDiff, Nat.reduceAdd, Nat.reduceLeDiff, true_and, and_true, Bool.not_true, Bool.not_false, Bool.and_true, Bool.true_and, Bool.and_self, reduceCtorEq, true_implies, false_implies, implies_true, decide_eq_true_eq, Option.map_some, fpOf, fpX, SOp.xs, oX, refs, refsL, dom, disj, List.all_nil, List.all_cons, List.contains_cons, List.contains_nil, Nat.reduceBEq, Bool.or_false, Bool.false_or, List.append_nil, Bool.not_false, Bool.not_true, List.forall_mem_cons, fm0, List.set, Nat.reduceLT, ne_eq, not_false_eq_true, not_true_eq_false
, ret1, ret1N, keep0, keep1, rf_int, rf_bool, rf_str, rf_sl, rf_agg, rf_tup, rfL0, rfL1, re_t, re_cN, re_L0, re_L1, ret_tup, ret_one, decide_true, AV.bool.injEq, AV.int.injEq, Nat.reduceLeDiff, Bool.true_eq, Bool.false_eq, decide_eq_true_eq, decide_eq_false_iff_not, t_l21Max, List.length_map, Stp7.row, irow, stp_eta, Int.toNat_natCast, flatOk, noref, ghost, List.length_range, Nat.zero_add, Nat.sub_zero, set_f, set_b, List.length_set, Path5.avO, retQ_eq, retOk, wkM, refsInO, keepB]
  have two : ((2 : Nat) : Int) = 2 := rfl
  unfold Path5.after
  refine ⟨fun h => ?_, fun h => ?_⟩
  · rw [if_pos (by omega)]
    refine ⟨⟨by omega, by omega⟩, by omega, by omega, ⟨by omega, by omega⟩, ?_, rfl, rfl, rfl⟩
    simp only [List.length_set]
  · rw [if_neg (by omega)]
    exact ⟨by omega, rfl, rfl, rfl, rfl⟩
theorem c_l27Can1 (p : Path5) (v : Nat) (hc : p.calm) (hcan : p.can) : Contract P 102 [p.avO 3 v] [(3, .arr 105 v 7 (p.l.map Stp7.row))] (.tup [p.avO 3 v, .bool true]) [(3, .arr 105 v 7 (p.l.map Stp7.row))] := by
  refine fn_sound ((Env.nil P).add 80 t_l24Spans h_l24Spans) hm k_spec_l27Can (Nat.le_of_ble_eq_true rfl) rfl ?_
  unfold s_spec_l27Can
  simp only [w_skip, w_rg, w_rgd, w_seq, w_cond, w_block, w_loop, w_exit, w_ret, w_gh, w_rg0, w_rg1, w_rgT, w_rgF, w_run, w_psd, w_und, w_dr0, w_dr1, w_drT, w_drF, w_drRun, w_drPsd, w_drUnd, w_drKn, w_drKs, w_putK, w_trimK, w_thenN, w_thenE, w_thenR, w_scope, w_label, w_blkN, w_blkE, w_blkR, w_call, w_effK, brU_true, brU_false, brU_u, brU_not, brU_and, brU_or, brU_dec, brU_eq, brU_ne, br_true, br_false, br_not, br_and, br_or, br_dec, br_eq, br_ne, w_getE0, w_getE1, w_setE0, w_setE1, w_dropE0, w_dropE1, w_drop0, w_drop1, w_getM0, w_getM1, w_setM0, w_setM1, ev_v, ev_c, w_putS, w_putN, w_lit, w_apU0, w_apU1, w_apU2, w_trim, enumE0, enumE1, w_callWp, w_callA0, w_callA1, w_R0, w_R1, w_R2, w_T2, w_callL, w_callT, w_T1, w_T0, o_mv, o_newnil, o_pick, o_bin, o_binN, o_neg, o_not, o_eqB, o_eqS, o_conv, o_alloc, o_box, o_load1, o_loadN, o_store, o_nilck, o_faddr, o_field1, o_fieldN, o_iaddr, o_istr, o_slStr, o_slSl, o_lenS, o_lenL, o_mx, o_mn, o_ext, o_build, o_lit, o_litOwn, o_app, o_mk, o_mvfrz, l_int, l_bool, l_str, l_agg, l_sl, l_own, l_ptr, l_pp, i_int, i_bool, i_str, i_sl, i_own, i_ptr, i_pp, all0, all1, e_ok1, eff, effBin, effBinN, ld_ptr, ld_pp, ld_elt, ia_own, ia_arr, el_1, el_N, load1K, faddrE, r_iaddr, sg_S, sg_c, sg_n, purL, pur, List.map, List.drop, List.take, List.length, List.foldl, List.append_eq, List.nil_append, List.cons_append, List.getD_cons_zero, List.getD_cons_succ, reduceIte, Nat.reduceEqDiff, Nat.reduceAdd, Nat.reduceLeDiff, true_and, and_true, Bool.not_true, Bool.not_false, Bool.and_true, Bool.true_and, Bool.and_self, reduceCtorEq, true_implies, false_implies, implies_true, decide_eq_true_eq, Option.map_some, fpOf, fpX, SOp.xs, oX, refs, refsL, dom, disj, List.all_nil, List.all_cons, List.contains_cons, List.contains_nil, Nat.reduceBEq, Bool.or_false, Bool.false_or, List.append_nil, Bool.not_false, Bool.not_true, List.forall_mem_cons, fm0, List.set, Nat.reduceLT, ne_eq, not_false_eq_true, not_true_eq_false
, ret1, ret1N, keep0, keep1, rf_int, rf_bool, rf_str, rf_sl, rf_agg, rf_tup, rfL0, rfL1, re_t, re_cN, re_L0, re_L1, ret_tup, ret_one, decide_true, AV.bool.injEq, AV.int.injEq, Nat.reduceLeDiff, Bool.true_eq, Bool.false_eq, decide_eq_true_eq, decide_eq_false_iff_not, t_l24Spans, List.length_map, irow, un_stp, path_eta, take_rr, take_all, Int.toNat_natCast, flatOk, noref, ghost, List.length_range, Nat.zero_add, Nat.sub_zero, Path5.avO, retQ_eq, retOk, wkM, refsInO, keepB]
  exact ⟨hc, fun _ => ⟨⟨_, by simp only [resLP]; exact ⟨_, _, rfl, ⟨Nat.le_refl _, rfl⟩, _, _, rfl, rfl, rfl⟩, rfl⟩, rfl, rfl⟩, fun h => absurd hcan h⟩
theorem c_l27Can0 (p : Path5) (v : Nat) (hc : p.calm) (hcan : ¬ p.can) : Contract P 102 [p.avO 3 v] [(3, .arr 105 v 7 (p.l.map Stp7.row))] (.tup [.agg [.int .i64 0, .int .i64 0, .sl 0 7 [], .int .i64 0, .int .i64 0], .bool false]) [(3, .arr 105 v 7 (p.l.map Stp7.row))] := by
  refine fn_sound ((Env.nil P).add 80 t_l24Spans h_l24Spans) hm k_spec_l27Can (Nat.le_of_ble_eq_true rfl) rfl ?_
  unfold s_spec_l27Can
  simp only [w_skip, w_rg, w_rgd, w_seq, w_cond, w_block, w_loop, w_exit, w_ret, w_gh, w_rg0, w_rg1, w_rgT, w_rgF, w_run, w_psd, w_und, w_dr0, w_dr1, w_drT, w_drF, w_drRun, w_drPsd, w_drUnd, w_drKn, w_drKs, w_putK, w_trimK, w_thenN, w_thenE, w_thenR, w_scope, w_label, w_blkN, w_blkE, w_blkR, w_call, w_effK, brU_true, brU_false, brU_u, brU_not, brU_and, brU_or, brU_dec, brU_eq, brU_ne, br_true, br_false, br_not, br_and, br_or, br_dec, br_eq, br_ne, w_getE0, w_getE1, w_setE0, w_setE1, w_dropE0, w_dropE1, w_drop0, w_drop1, w_getM0, w_getM1, w_setM0, w_setM1, ev_v, ev_c, w_putS, w_putN, w_lit, w_apU0, w_apU1, w_apU2, w_trim, enumE0, enumE1, w_callWp, w_callA0, w_callA1, w_R0, w_R1, w_R2, w_T2, w_callL, w_callT, w_T1, w_T0, o_mv, o_newnil, o_pick, o_bin, o_binN, o_neg, o_not, o_eqB, o_eqS, o_conv, o_alloc, o_box, o_load1, o_loadN, o_store, o_nilck, o_faddr, o_field1, o_fieldN, o_iaddr, o_istr, o_slStr, o_slSl, o_lenS, o_lenL, o_mx, o_mn, o_ext, o_build, o_lit, o_litOwn, o_app, o_mk, o_mvfrz, l_int, l_bool, l_str, l_agg, l_sl, l_own, l_ptr, l_pp, i_int, i_bool, i_str, i_sl, i_own, i_ptr, i_pp, all0, all1, e_ok1, eff, effBin, effBinN, ld_ptr, ld_pp, ld_elt, ia_own, ia_arr, el_1, el_N, load1K, faddrE, r_iaddr, sg_S, sg_c, sg_n, purL, pur, List.map, List.drop, List.take, List.length, List.foldl, List.append_eq, List.nil_append, List.cons_append, List.getD_cons_zero, List.getD_cons_succ, reduceIte, Nat.reduceEqDiff, Nat.reduceAdd, Nat.reduceLeDiff, true_and, and_true, Bool.not_true, Bool.not_false, Bool.and_true, Bool.true_and, Bool.and_self, reduceCtorEq, true_implies, false_implies, implies_true, decide_eq_true_eq, Option.map_some, fpOf, fpX, SOp.xs, oX, refs, refsL, dom, disj, List.all_nil, List.all_cons, List.contains_cons, List.contains_nil, Nat.reduceBEq, Bool.or_false, Bool.false_or, List.append_nil, Bool.not_false, Bool.not_true, List.forall_mem_cons, fm0, List.set, Nat.reduceLT, ne_eq, not_false_eq_true, not_true_eq_false
, ret1, ret1N, keep0, keep1, rf_int, rf_bool, rf_str, rf_sl, rf_agg, rf_tup, rfL0, rfL1, re_t, re_cN, re_L0, re_L1, ret_tup, ret_one, decide_true, AV.bool.injEq, AV.int.injEq, Nat.reduceLeDiff, Bool.true_eq, Bool.false_eq, decide_eq_true_eq, decide_eq_false_iff_not, t_l24Spans, List.length_map, irow, un_stp, path_eta, take_rr, take_all, Int.toNat_natCast, flatOk, noref, ghost, List.length_range, Nat.zero_add, Nat.sub_zero, Path5.avO, retQ_eq, retOk, wkM, refsInO, keepB]
  exact ⟨hc, fun h => absurd h hcan, fun _ => ⟨⟨_, by simp only [resLP]; exact ⟨_, _, rfl, ⟨Nat.le_refl _, rfl⟩, _, _, rfl, rfl, rfl⟩, rfl⟩, rfl⟩⟩
end Go.Ve

namespace Go.Ve
set_option linter.unusedSimpArgs false
set_option linter.unusedVariables false
/-! The spans are those of flights. -/
def Path5.flight (p : Path5) (t : Nat → Int) : Prop := (∀ k, k ≤ p.l.length → p.low k ≤ t k ∧ t k ≤ p.high k) ∧ ∀ k, k < p.l.length → p.q ≤ t (k + 1) - t k ∧ t (k + 1) - t k ≤ p.most k
section
variable {p : Path5}
theorem flight_fwd {t : Nat → Int} (h : p.flight t) : ∀ k, k ≤ p.l.length → (p.fwd k).lo ≤ t k ∧ t k ≤ (p.fwd k).hi
  | 0, hk => h.1 0 hk
  | k + 1, hk => by
    have ih := flight_fwd h k (by omega)
    have h1 := h.1 (k + 1) hk
    have h2 := h.2 k (by omega)
    simp only [Path5.fwd]; omega
theorem flight_bwd {t : Nat → Int} (h : p.flight t) : ∀ d, d ≤ p.l.length → (p.bwd d).lo ≤ t (p.l.length - d) ∧ t (p.l.length - d) ≤ (p.bwd d).hi
  | 0, hk => by simpa [Path5.bwd] using flight_fwd h p.l.length (by omega)
  | d + 1, hd => by
    have ih := flight_bwd h d (by omega)
    have h1 := flight_fwd h (p.l.length - (d + 1)) (by omega)
    have h2 := h.2 (p.l.length - (d + 1)) (by omega)
    rw [show p.l.length - (d + 1) + 1 = p.l.length - d by omega] at h2
    simp only [Path5.bwd]; omega
/-- Every flight lies within the spans. -/
theorem flight_span {t : Nat → Int} (h : p.flight t) {k : Nat} (hk : k ≤ p.l.length) : (p.span k).lo ≤ t k ∧ t k ≤ (p.span k).hi := by
  have := flight_bwd h (p.l.length - k) (by omega)
  rwa [show p.l.length - (p.l.length - k) = k by omega] at this
theorem flight_can {t : Nat → Int} (h : p.flight t) : p.can := fun k hk => by
  have := flight_span h (k := k) (by omega)
  omega
theorem span_succ {k : Nat} (hk : k < p.l.length) : p.span k = ⟨max (p.fwd k).lo ((p.span (k + 1)).lo - p.most k), min (p.fwd k).hi ((p.span (k + 1)).hi - p.q)⟩ := by
  unfold Path5.span
  rw [show p.l.length - k = (p.l.length - (k + 1)) + 1 by omega]
  simp only [Path5.bwd]
  rw [show p.l.length - (p.l.length - (k + 1) + 1) = k by omega]
theorem fwd_low (k : Nat) : p.low k ≤ (p.fwd k).lo := by
  cases k <;> simp only [Path5.fwd] <;> omega
theorem fwd_high (k : Nat) : (p.fwd k).hi ≤ p.high k := by
  cases k <;> simp only [Path5.fwd] <;> omega
theorem span_lo {k : Nat} (hk : k ≤ p.l.length) : (p.fwd k).lo ≤ (p.span k).lo := by
  have := p.bwd_lo (p.l.length - k) (by omega)
  rwa [show p.l.length - (p.l.length - k) = k by omega] at this
theorem span_hi {k : Nat} (hk : k ≤ p.l.length) : (p.span k).hi ≤ (p.fwd k).hi := by
  have := p.bwd_hi (p.l.length - k) (by omega)
  rwa [show p.l.length - (p.l.length - k) = k by omega] at this
theorem can_low (h : p.can) {k : Nat} (hk : k ≤ p.l.length) : p.low k ≤ p.high k := by
  have h1 := p.can_fwd h hk
  have h2 := fwd_low (p := p) k
  have h3 := fwd_high (p := p) k
  omega
theorem span_in (h : p.can) {k : Nat} (hk : k ≤ p.l.length) : p.low k ≤ (p.span k).lo ∧ (p.span k).lo ≤ (p.span k).hi ∧ (p.span k).hi ≤ p.high k := by
  have h1 := fwd_low (p := p) k
  have h2 := fwd_high (p := p) k
  have h3 := span_lo (p := p) hk
  have h4 := span_hi (p := p) hk
  have h5 := h k (by omega)
  omega
theorem last_flight (hq : p.q ≤ p.s ∧ p.q ≤ 10000) (h : p.can) : p.flight fun k => (p.span k).hi := by
  refine ⟨fun k hk => by have := span_in h hk; simp only; omega, fun k hk => ?_⟩
  have hm : p.q ≤ p.most k := by unfold Path5.most; split <;> omega
  have h1 := span_succ (p := p) hk
  have h2 := span_hi (p := p) (k := k + 1) (by omega)
  simp only [Path5.fwd] at h2
  simp only [h1]
  omega
end

/-! A path begun later, or at a later step. -/
def Path5.like (q p : Path5) (k : Nat) : Prop := q.q = p.q ∧ q.s = p.s ∧ q.l.length + k = p.l.length ∧ ∀ j, j < q.l.length →
  (q.l.getD j default).x = (p.l.getD (k + j) default).x ∧ (q.l.getD j default).y = (p.l.getD (k + j) default).y ∧ (q.l.getD j default).l = (p.l.getD (k + j) default).l ∧ (q.l.getD j default).h = (p.l.getD (k + j) default).h
theorem fit_of_can {p q : Path5} {k : Nat} (hp : pathOk p.q p.s p.l p.f p.b) (hk : k < p.l.length) (hl : q.like p k) (hc : q.calm) : q.fit ↔ q.can := by
  refine ⟨fun h => h.2, fun h => ⟨?_, h⟩⟩
  obtain ⟨h1, h2, h3, h4⟩ := hl
  have hlow : ∀ j, j ≤ q.l.length → 0 ≤ q.low j ∧ q.low j ≤ q.high j ∧ q.high j ≤ 10000 := fun j hj => ⟨hc.lo j hj, can_low h hj, hc.hi j hj⟩
  have hn := hlow q.l.length (Nat.le_refl _)
  unfold Path5.low Path5.high at hn
  simp only [Nat.lt_irrefl, if_false] at hn
  obtain ⟨p1, p2, p3, p4⟩ := hp
  refine ⟨by rw [h1, h2]; exact p1, by omega, by omega, fun i hi => ?_⟩
  have hj := hlow i (by omega)
  unfold Path5.low Path5.high at hj
  simp only [hi, if_true] at hj
  obtain ⟨g1, g2, g3, g4⟩ := h4 i hi
  have p5 := p4 (k + i) (by omega)
  have p6 := p5.1
  refine ⟨?_, fun h0 => ?_⟩
  · unfold Stp7.ok at p6 ⊢
    rw [g1, g2, g3, g4]
    omega
  · obtain ⟨e1, e2, e3, e4⟩ := h4 (i - 1) (by omega)
    have p7 := p5.2 (by omega)
    rw [show k + i - 1 = k + (i - 1) by omega] at p7
    unfold Stp7.nb at p7 ⊢
    rw [g1, g2, g3, g4, e1, e2, e3, e4]
    exact p7
/-- The first step's ticks set anew. -/
def Path5.first (p : Path5) (f b : Int) : Path5 := { p with l := p.l.set 0 { p.l.getD 0 default with f := f, b := b } }
def Path5.rest (p : Path5) (k : Nat) (f b now : Int) : Path5 := ((p.tail k).first f b).after now
theorem getD_set {l : List Stp7} {i j : Nat} {x : Stp7} : (l.set i x).getD j default = if i = j ∧ j < l.length then x else l.getD j default := by
  simp only [List.getD_eq_getElem?_getD, List.getElem?_set]
  by_cases e : i = j
  · subst e
    by_cases h : i < l.length
    · simp [h]
    · simp [h]
  · simp [e]
theorem getD_drop {l : List Stp7} {k j : Nat} : (l.drop k).getD j default = l.getD (k + j) default := by
  simp [List.getD_eq_getElem?_getD]
section
variable {p : Path5} {k : Nat} {f b now : Int}
theorem rest_len : (p.rest k f b now).l.length = p.l.length - k := by
  unfold Path5.rest Path5.after
  split <;> simp [Path5.first, Path5.tail]
theorem rest_getD {j : Nat} (hj : k + j < p.l.length) : (p.rest k f b now).l.getD j default =
    { p.l.getD (k + j) default with f := if j = 0 then f else if j = 1 then max (p.l.getD (k + j) default).f (now + 1) else (p.l.getD (k + j) default).f, b := if j = 0 then b else (p.l.getD (k + j) default).b } := by
  unfold Path5.rest Path5.after
  have hl : ((p.tail k).first f b).l.length = p.l.length - k := by simp [Path5.first, Path5.tail]
  have h0 : ∀ j, k + j < p.l.length → ((p.tail k).first f b).l.getD j default = if j = 0 then { p.l.getD k default with f := f, b := b } else p.l.getD (k + j) default := by
    intro j hj
    simp only [Path5.first, Path5.tail, getD_set, getD_drop, List.length_drop, Nat.add_zero]
    by_cases e : j = 0
    · subst e; rw [if_pos ⟨rfl, by omega⟩, if_pos rfl]
    · rw [if_neg (by omega), if_neg e]
  split
  · rename_i h1
    rw [hl] at h1
    simp only [getD_set, hl, h0 1 (by omega), Nat.one_ne_zero, if_false]
    by_cases e : j = 1
    · subst e; rw [if_pos ⟨rfl, by omega⟩]; simp
    · rw [if_neg (by omega), h0 j hj]
      by_cases e0 : j = 0
      · subst e0; simp
      · rw [if_neg e0]; simp [e, e0]
  · rename_i h1
    rw [hl] at h1
    simp only [h0 j hj]
    have : j = 0 := by omega
    subst this; simp
theorem rest_ff (hk : k < p.l.length) : (p.rest k f b now).f = (if 1 < p.l.length - k then p.f else max p.f (now + 1)) ∧ (p.rest k f b now).b = p.b ∧ (p.rest k f b now).q = p.q ∧ (p.rest k f b now).s = p.s := by
  unfold Path5.rest Path5.after
  have hl : ((p.tail k).first f b).l.length = p.l.length - k := by simp [Path5.first, Path5.tail]
  rw [hl]
  split <;> simp [Path5.first, Path5.tail, *]
theorem rest_like (hk : k < p.l.length) : (p.rest k f b now).like p k := by
  obtain ⟨_, _, h3, h4⟩ := rest_ff (f := f) (b := b) (now := now) hk
  refine ⟨h3, h4, by rw [rest_len]; omega, fun j hj => ?_⟩
  rw [rest_len] at hj
  rw [rest_getD (by omega)]
  exact ⟨rfl, rfl, rfl, rfl⟩
theorem rest_calm (hp : pathOk p.q p.s p.l p.f p.b) (hk : k < p.l.length) (hf : 0 ≤ f) (hb : b ≤ 10000) : (p.rest k f b now).calm := by
  obtain ⟨h1, h2, h3, h4⟩ := rest_ff (f := f) (b := b) (now := now) hk
  obtain ⟨p1, p2, p3, p4⟩ := hp
  have hl := rest_len (p := p) (k := k) (f := f) (b := b) (now := now)
  refine ⟨by rw [h3]; omega, by rw [h4]; omega, by rw [hl]; omega, fun j hj => ?_, fun j hj => ?_⟩
  · unfold Path5.low
    rw [hl] at hj ⊢
    split
    · rename_i hlt
      rw [rest_getD (by omega)]
      have := (p4 (k + j) (by omega)).1
      unfold Stp7.ok at this
      simp only
      split
      · exact hf
      · split <;> omega
    · rw [h1]; split <;> omega
  · unfold Path5.high
    rw [hl] at hj ⊢
    split
    · rename_i hlt
      rw [rest_getD (by omega)]
      have := (p4 (k + j) (by omega)).1
      unfold Stp7.ok at this
      simp only
      split <;> omega
    · rw [h2]; omega
theorem rest_fit (hp : pathOk p.q p.s p.l p.f p.b) (hk : k < p.l.length) (hf : 0 ≤ f) (hb : b ≤ 10000) : (p.rest k f b now).fit ↔ (p.rest k f b now).can :=
  fit_of_can hp hk (rest_like hk) (rest_calm hp hk hf hb)
end
/-! Waiting ahead of the first step. -/
def Path5.wait (p : Path5) (now : Int) : Path5 := { p with l := p.l.set 0 { p.l.getD 0 default with f := max (p.l.getD 0 default).f (now + 1) } }
theorem wait_getD {p : Path5} {now : Int} {j : Nat} (hj : j < p.l.length) : (p.wait now).l.getD j default = if j = 0 then { p.l.getD 0 default with f := max (p.l.getD 0 default).f (now + 1) } else p.l.getD j default := by
  simp only [Path5.wait, getD_set]
  by_cases e : j = 0
  · subst e; rw [if_pos ⟨rfl, hj⟩, if_pos rfl]
  · rw [if_neg (by omega), if_neg e]
theorem wait_len {p : Path5} {now : Int} : (p.wait now).l.length = p.l.length := by simp [Path5.wait]
theorem wait_low {p : Path5} {now : Int} (h0 : 0 < p.l.length) (j : Nat) : (p.wait now).low j = if j = 0 then max (p.low 0) (now + 1) else p.low j := by
  unfold Path5.low
  rw [wait_len]
  by_cases hj : j < p.l.length
  · rw [if_pos hj, wait_getD hj, if_pos h0]
    by_cases e : j = 0
    · rw [if_pos e, if_pos e]
    · rw [if_neg e, if_neg e, if_pos hj]
  · rw [if_neg hj, if_neg (by omega), if_neg hj]; rfl
theorem wait_high {p : Path5} {now : Int} (j : Nat) : (p.wait now).high j = p.high j := by
  unfold Path5.high
  rw [wait_len]
  by_cases hj : j < p.l.length
  · rw [if_pos hj, wait_getD hj, if_pos hj]; split
    · rename_i e; subst e; rfl
    · rfl
  · rw [if_neg hj, if_neg hj]; rfl
theorem wait_most {p : Path5} {now : Int} {j : Nat} (hj : j < p.l.length) : (p.wait now).most j = p.most j := by
  unfold Path5.most
  rw [wait_getD hj]
  split
  · rename_i e; subst e; rfl
  · rfl
theorem wait_flight {p : Path5} {now : Int} (h0 : 0 < p.l.length) {t : Nat → Int} : (p.wait now).flight t ↔ p.flight t ∧ now + 1 ≤ t 0 := by
  unfold Path5.flight
  rw [wait_len]
  constructor
  · rintro ⟨h1, h2⟩
    refine ⟨⟨fun k hk => ?_, fun k hk => ?_⟩, ?_⟩
    · have := h1 k hk
      rw [wait_low h0, wait_high] at this
      split at this
      · rename_i e; subst e; omega
      · exact this
    · have := h2 k hk
      rw [wait_most hk] at this
      exact this
    · have := h1 0 (by omega)
      rw [wait_low h0, if_pos rfl] at this
      omega
  · rintro ⟨⟨h1, h2⟩, h3⟩
    refine ⟨fun k hk => ?_, fun k hk => ?_⟩
    · have := h1 k hk
      rw [wait_low h0, wait_high]
      split
      · rename_i e; subst e; omega
      · exact this
    · have := h2 k hk
      rw [wait_most hk]
      exact this
/-- IT CAN STILL WAIT iff the latest first tick is behind now. -/
theorem wait_can {p : Path5} {now : Int} (h0 : 0 < p.l.length) (hq : p.q ≤ p.s ∧ p.q ≤ 10000) : (p.wait now).can ↔ p.can ∧ now < (p.span 0).hi := by
  constructor
  · intro h
    have h1 := (wait_flight h0).1 (last_flight (p := p.wait now) hq h)
    have h2 := flight_span h1.1 (k := 0) (by omega)
    exact ⟨flight_can h1.1, by omega⟩
  · rintro ⟨h, h1⟩
    exact flight_can ((wait_flight h0).2 ⟨last_flight hq h, by omega⟩)
theorem wait_calm {p : Path5} {now : Int} (h0 : 0 < p.l.length) (h : p.calm) : (p.wait now).calm := by
  refine ⟨h.q, h.s, by rw [wait_len]; exact h.n, fun j hj => ?_, fun j hj => ?_⟩
  · rw [wait_len] at hj
    rw [wait_low h0]
    have := h.lo j hj
    split
    · rename_i e; subst e; omega
    · exact this
  · rw [wait_len] at hj
    rw [wait_high]; exact h.hi j hj
theorem ok_calm {p : Path5} (h : pathOk p.q p.s p.l p.f p.b) : p.calm := by
  have := held_calm (bg := []) h
  rwa [held_nil] at this
end Go.Ve

namespace Go.Ve
open Go.Proofs
set_option linter.unusedSimpArgs false
set_option linter.unusedVariables false
set_option maxRecDepth 100000
def Path5.restAt (p : Path5) (k e now : Int) : Path5 := p.rest k.toNat (max (p.l.getD k.toNat default).f e) (min (p.l.getD k.toNat default).b e) now
def Path5.goes (p : Path5) (k e now : Int) : Prop := pathOk p.q p.s p.l p.f p.b ∧ (0 ≤ k ∧ k < p.l.length) ∧ (0 ≤ e ∧ e ≤ now ∧ now ≤ 10000) ∧ (p.restAt k e now).can
instance (p : Path5) (k e now : Int) : Decidable (p.goes k e now) := by unfold Path5.goes; infer_instance
def Path5.restR (p : Path5) (k e now : Int) : Path5 := if p.goes k e now then p.restAt k e now else ⟨0, 0, [], 0, 0⟩
theorem getD_set_same {l : List Stp7} {x : Stp7} (h : 0 < l.length) : (l.set 0 x).getD 0 default = x := by rw [getD_set, if_pos ⟨rfl, h⟩]
theorem first_len {p : Path5} {f b : Int} : (p.first f b).l.length = p.l.length := by simp [Path5.first]
theorem c_sFlyRest (p : Path5) (t : Nat) (k e now : Int) : Contract P 81 [.agg [.int .i64 p.q, .int .i64 p.s, .sl t 7 (p.l.map Stp7.row), .int .i64 p.f, .int .i64 p.b], .int .i64 k, .int .i64 e, .int .i64 now] [] (.tup [(p.restR k e now).av, .bool (decide (p.goes k e now))]) [] := by
  refine fn_sound ((((((Env.nil P).add 78 t_sPathOk h_sPathOk).add 71 t_l21In h_l21In).add 98 t_l26Held h_l26Held).add 77 t_l21Min h_l21Min).add 27 t_l21Max h_l21Max) hm k_spec_FlyRest (Nat.le_of_ble_eq_true rfl) rfl ?_
  unfold s_spec_FlyRest
  have hav : p.av = .agg [.int .i64 p.q, .int .i64 p.s, .sl 0 7 (p.l.map Stp7.row), .int .i64 p.f, .int .i64 p.b] := rfl
  simp only [w_skip, w_rg, w_rgd, w_seq, w_cond, w_block, w_loop, w_exit, w_ret, w_gh, w_rg0, w_rg1, w_rgT, w_rgF, w_run, w_psd, w_und, w_dr0, w_dr1, w_drT, w_drF, w_drRun, w_drPsd, w_drUnd, w_drKn, w_drKs, w_putK, w_trimK, w_thenN, w_thenE, w_thenR, w_scope, w_label, w_blkN, w_blkE, w_blkR, w_call, w_effK, brU_true, brU_false, brU_u, brU_not, brU_and, brU_or, brU_dec, brU_eq, brU_ne, br_true, br_false, br_not, br_and, br_or, br_dec, br_eq, br_ne, w_getE0, w_getE1, w_setE0, w_setE1, w_dropE0, w_dropE1, w_drop0, w_drop1, w_getM0, w_getM1, w_setM0, w_setM1, ev_v, ev_c, w_putS, w_putN, w_lit, w_apU0, w_apU1, w_apU2, w_trim, enumE0, enumE1, w_callWp, w_callA0, w_callA1, w_R0, w_R1, w_R2, w_T2, w_callL, w_callT, w_T1, w_T0, o_mv, o_newnil, o_pick, o_bin, o_binN, o_neg, o_not, o_eqB, o_eqS, o_conv, o_alloc, o_box, o_load1, o_loadN, o_store, o_nilck, o_faddr, o_field1, o_fieldN, o_iaddr, o_istr, o_slStr, o_slSl, o_lenS, o_lenL, o_mx, o_mn, o_ext, o_build, o_lit, o_litOwn, o_app, o_mk, o_mvfrz, l_int, l_bool, l_str, l_agg, l_sl, l_own, l_ptr, l_pp, i_int, i_bool, i_str, i_sl, i_own, i_ptr, i_pp, all0, all1, e_ok1, eff, effBin, effBinN, ld_ptr, ld_pp, ld_elt, ia_own, ia_arr, el_1, el_N, load1K, faddrE, r_iaddr, sg_S, sg_c, sg_n, purL, pur, List.map, List.drop, List.take, List.length, List.foldl, List.append_eq, List.nil_append, List.cons_append, List.getD_cons_zero, List.getD_cons_succ, reduceIte, Nat.reduceEqDiff, Nat.reduceAdd, Nat.reduceLeDiff, true_and, and_true, Bool.not_true, Bool.not_false, Bool.and_true, Bool.true_and, Bool.and_self, reduceCtorEq, true_implies, false_implies, implies_true, decide_eq_true_eq, Option.map_some, fpOf, fpX, SOp.xs, oX, refs, refsL, dom, disj, List.all_nil, List.all_cons, List.contains_cons, List.contains_nil, Nat.reduceBEq, Bool.or_false, Bool.false_or, List.append_nil, Bool.not_false, Bool.not_true, List.forall_mem_cons, fm0, List.set, Nat.reduceLT, ne_eq, not_false_eq_true, not_true_eq_false
, ret1, ret1N, keep0, keep1, rf_int, rf_bool, rf_str, rf_sl, rf_agg, rf_tup, rfL0, rfL1, re_t, re_cN, re_L0, re_L1, ret_tup, ret_one, decide_true, AV.bool.injEq, AV.int.injEq, Nat.reduceLeDiff, Bool.true_eq, Bool.false_eq, decide_eq_true_eq, decide_eq_false_iff_not, t_sPathOk, t_l21In, t_l26Held, t_l21Min, t_l21Max, List.length_map, Stp7.row, irow, un_stp, un_i, path_eta, stp_eta, take_all, held_nil, set_f, set_b, List.length_set, hav, Path5.avO, flatOk, noref, ghost, Nat.zero_add, Nat.sub_zero, Int.toNat_natCast]
  have no : ¬ p.goes k e now → ((p.restR k e now).av = AV.agg [AV.int IntKind.i64 0, AV.int IntKind.i64 0, AV.sl 0 7 [], AV.int IntKind.i64 0, AV.int IntKind.i64 0] ∧ ¬ p.goes k e now) ∧ refsIn [] (p.restR k e now).av = true := fun h => ⟨⟨by rw [Path5.restR, if_neg h]; rfl, h⟩, rfl⟩
  refine ⟨fun h1 => ⟨by have := h1.2.1; omega, fun h2 => ⟨fun h3 => ⟨fun h4 => no fun h => absurd h.2.2.1 (by omega), fun h4 => ⟨⟨by have := h1.2.1; omega, Nat.zero_le _⟩, ?_⟩⟩, fun h3 => no fun h => h3 (by have := h.2.2.1; omega)⟩, fun h2 => no fun h => h2 (by have := h.2.1; omega)⟩, fun h1 => no fun h => h1 h.1⟩
  refine ⟨_, _, .inl ⟨[], c_l27Tail p 0 k ⟨h2.1, by omega⟩ (by have := h1.2.1; omega), by simp, by simp [getM], rfl, rfl, rfl, rfl, rfl⟩, ?_⟩
  simp only [w_skip, w_rg, w_rgd, w_seq, w_cond, w_block, w_loop, w_exit, w_ret, w_gh, w_rg0, w_rg1, w_rgT, w_rgF, w_run, w_psd, w_und, w_dr0, w_dr1, w_drT, w_drF, w_drRun, w_drPsd, w_drUnd, w_drKn, w_drKs, w_putK, w_trimK, w_thenN, w_thenE, w_thenR, w_scope, w_label, w_blkN, w_blkE, w_blkR, w_call, w_effK, brU_true, brU_false, brU_u, brU_not, brU_and, brU_or, brU_dec, brU_eq, brU_ne, br_true, br_false, br_not, br_and, br_or, br_dec, br_eq, br_ne, w_getE0, w_getE1, w_setE0, w_setE1, w_dropE0, w_dropE1, w_drop0, w_drop1, w_getM0, w_getM1, w_setM0, w_setM1, ev_v, ev_c, w_putS, w_putN, w_lit, w_apU0, w_apU1, w_apU2, w_trim, enumE0, enumE1, w_callWp, w_callA0, w_callA1, w_R0, w_R1, w_R2, w_T2, w_callL, w_callT, w_T1, w_T0, o_mv, o_newnil, o_pick, o_bin, o_binN, o_neg, o_not, o_eqB, o_eqS, o_conv, o_alloc, o_box, o_load1, o_loadN, o_store, o_nilck, o_faddr, o_field1, o_fieldN, o_iaddr, o_istr, o_slStr, o_slSl, o_lenS, o_lenL, o_mx, o_mn, o_ext, o_build, o_lit, o_litOwn, o_app, o_mk, o_mvfrz, l_int, l_bool, l_str, l_agg, l_sl, l_own, l_ptr, l_pp, i_int, i_bool, i_str, i_sl, i_own, i_ptr, i_pp, all0, all1, e_ok1, eff, effBin, effBinN, ld_ptr, ld_pp, ld_elt, ia_own, ia_arr, el_1, el_N, load1K, faddrE, r_iaddr, sg_S, sg_c, sg_n, purL, pur, List.map, List.drop, List.take, List.length, List.foldl, List.append_eq, List.nil_append, List.cons_append, List.getD_cons_zero, List.getD_cons_succ, reduceIte, Nat.reduceEqDiff, Nat.reduceAdd, Nat.reduceLeDiff, true_and, and_true, Bool.not_true, Bool.not_false, Bool.and_true, Bool.true_and, Bool.and_self, reduceCtorEq, true_implies, false_implies, implies_true, decide_eq_true_eq, Option.map_some, fpOf, fpX, SOp.xs, oX, refs, refsL, dom, disj, List.all_nil, List.all_cons, List.contains_cons, List.contains_nil, Nat.reduceBEq, Bool.or_false, Bool.false_or, List.append_nil, Bool.not_false, Bool.not_true, List.forall_mem_cons, fm0, List.set, Nat.reduceLT, ne_eq, not_false_eq_true, not_true_eq_false
, ret1, ret1N, keep0, keep1, rf_int, rf_bool, rf_str, rf_sl, rf_agg, rf_tup, rfL0, rfL1, re_t, re_cN, re_L0, re_L1, ret_tup, ret_one, decide_true, AV.bool.injEq, AV.int.injEq, Nat.reduceLeDiff, Bool.true_eq, Bool.false_eq, decide_eq_true_eq, decide_eq_false_iff_not, t_sPathOk, t_l21In, t_l26Held, t_l21Min, t_l21Max, List.length_map, Stp7.row, irow, un_stp, un_i, path_eta, stp_eta, take_all, held_nil, set_f, set_b, List.length_set, hav, Path5.avO, flatOk, noref, ghost, Nat.zero_add, Nat.sub_zero, Int.toNat_natCast]
  have hl : 0 < (p.tail k.toNat).l.length := by simp [Path5.tail]; omega
  have hg : (p.tail k.toNat).l.getD 0 default = p.l.getD k.toNat default := by simp only [Path5.tail, getD_drop, Nat.add_zero]
  simp only [Int.toNat_zero, getD_set_same hl, List.set_set, hg]
  refine ⟨⟨by omega, by omega⟩, hl, ⟨by omega, by omega⟩, ⟨by omega, by omega⟩, hl, ⟨by omega, by omega⟩, ?_⟩
  have h96 := (c_l27After ((p.tail k.toNat).first (max (p.l.getD k.toNat default).f e) (min (p.l.getD k.toNat default).b e)) 1 now (by omega) (by have := h1.2.1; rw [first_len]; simp [Path5.tail]; omega)).ren (swp 3 112) (swp_swp 3 112)
  simp only [renL, ren, renM, renO, swp, Path5.avO, reduceIte, first_len] at h96
  refine ⟨_, _, .inl ⟨_, h96, by simp only [List.mem_singleton, forall_eq]; simp only [w_getM0, w_getM1, Nat.reduceEqDiff, reduceIte, Path5.first, hg], by simp [getM, dom], rfl, rfl, rfl, rfl, rfl⟩, ?_⟩
  simp only [w_skip, w_rg, w_rgd, w_seq, w_cond, w_block, w_loop, w_exit, w_ret, w_gh, w_rg0, w_rg1, w_rgT, w_rgF, w_run, w_psd, w_und, w_dr0, w_dr1, w_drT, w_drF, w_drRun, w_drPsd, w_drUnd, w_drKn, w_drKs, w_putK, w_trimK, w_thenN, w_thenE, w_thenR, w_scope, w_label, w_blkN, w_blkE, w_blkR, w_call, w_effK, brU_true, brU_false, brU_u, brU_not, brU_and, brU_or, brU_dec, brU_eq, brU_ne, br_true, br_false, br_not, br_and, br_or, br_dec, br_eq, br_ne, w_getE0, w_getE1, w_setE0, w_setE1, w_dropE0, w_dropE1, w_drop0, w_drop1, w_getM0, w_getM1, w_setM0, w_setM1, ev_v, ev_c, w_putS, w_putN, w_lit, w_apU0, w_apU1, w_apU2, w_trim, enumE0, enumE1, w_callWp, w_callA0, w_callA1, w_R0, w_R1, w_R2, w_T2, w_callL, w_callT, w_T1, w_T0, o_mv, o_newnil, o_pick, o_bin, o_binN, o_neg, o_not, o_eqB, o_eqS, o_conv, o_alloc, o_box, o_load1, o_loadN, o_store, o_nilck, o_faddr, o_field1, o_fieldN, o_iaddr, o_istr, o_slStr, o_slSl, o_lenS, o_lenL, o_mx, o_mn, o_ext, o_build, o_lit, o_litOwn, o_app, o_mk, o_mvfrz, l_int, l_bool, l_str, l_agg, l_sl, l_own, l_ptr, l_pp, i_int, i_bool, i_str, i_sl, i_own, i_ptr, i_pp, all0, all1, e_ok1, eff, effBin, effBinN, ld_ptr, ld_pp, ld_elt, ia_own, ia_arr, el_1, el_N, load1K, faddrE, r_iaddr, sg_S, sg_c, sg_n, purL, pur, List.map, List.drop, List.take, List.length, List.foldl, List.append_eq, List.nil_append, List.cons_append, List.getD_cons_zero, List.getD_cons_succ, reduceIte, Nat.reduceEqDiff, Nat.reduceAdd, Nat.reduceLeDiff, true_and, and_true, Bool.not_true, Bool.not_false, Bool.and_true, Bool.true_and, Bool.and_self, reduceCtorEq, true_implies, false_implies, implies_true, decide_eq_true_eq, Option.map_some, fpOf, fpX, SOp.xs, oX, refs, refsL, dom, disj, List.all_nil, List.all_cons, List.contains_cons, List.contains_nil, Nat.reduceBEq, Bool.or_false, Bool.false_or, List.append_nil, Bool.not_false, Bool.not_true, List.forall_mem_cons, fm0, List.set, Nat.reduceLT, ne_eq, not_false_eq_true, not_true_eq_false
, ret1, ret1N, keep0, keep1, rf_int, rf_bool, rf_str, rf_sl, rf_agg, rf_tup, rfL0, rfL1, re_t, re_cN, re_L0, re_L1, ret_tup, ret_one, decide_true, AV.bool.injEq, AV.int.injEq, Nat.reduceLeDiff, Bool.true_eq, Bool.false_eq, decide_eq_true_eq, decide_eq_false_iff_not, t_sPathOk, t_l21In, t_l26Held, t_l21Min, t_l21Max, List.length_map, Stp7.row, irow, un_stp, un_i, path_eta, stp_eta, take_all, held_nil, set_f, set_b, List.length_set, hav, Path5.avO, flatOk, noref, ghost, Nat.zero_add, Nat.sub_zero, Int.toNat_natCast]
  have hR : ((p.tail k.toNat).first (max (p.l.getD k.toNat default).f e) (min (p.l.getD k.toNat default).b e)).after now = p.restAt k e now := rfl
  have hb := (h1.2.2.2 k.toNat (by omega)).1
  unfold Stp7.ok at hb
  have hc : (p.restAt k e now).calm := rest_calm h1 (by omega) (by omega) (by omega)
  simp only [hR]
  by_cases hcan : (p.restAt k e now).can
  · have hgo : p.goes k e now := ⟨h1, ⟨h2.1, by omega⟩, ⟨by omega, h3⟩, hcan⟩
    have h95 := (c_l27Can1 (p.restAt k e now) 1 hc hcan).ren (swp 3 112) (swp_swp 3 112)
    simp only [renL, ren, renM, renO, swp, Path5.avO, reduceIte] at h95
    refine ⟨_, _, .inl ⟨_, h95, by simp only [List.mem_singleton, forall_eq]; rfl, by simp [getM, dom], rfl, rfl, rfl, rfl, rfl⟩, ?_⟩
    simp only [w_skip, w_rg, w_rgd, w_seq, w_cond, w_block, w_loop, w_exit, w_ret, w_gh, w_rg0, w_rg1, w_rgT, w_rgF, w_run, w_psd, w_und, w_dr0, w_dr1, w_drT, w_drF, w_drRun, w_drPsd, w_drUnd, w_drKn, w_drKs, w_putK, w_trimK, w_thenN, w_thenE, w_thenR, w_scope, w_label, w_blkN, w_blkE, w_blkR, w_call, w_effK, brU_true, brU_false, brU_u, brU_not, brU_and, brU_or, brU_dec, brU_eq, brU_ne, br_true, br_false, br_not, br_and, br_or, br_dec, br_eq, br_ne, w_getE0, w_getE1, w_setE0, w_setE1, w_dropE0, w_dropE1, w_drop0, w_drop1, w_getM0, w_getM1, w_setM0, w_setM1, ev_v, ev_c, w_putS, w_putN, w_lit, w_apU0, w_apU1, w_apU2, w_trim, enumE0, enumE1, w_callWp, w_callA0, w_callA1, w_R0, w_R1, w_R2, w_T2, w_callL, w_callT, w_T1, w_T0, o_mv, o_newnil, o_pick, o_bin, o_binN, o_neg, o_not, o_eqB, o_eqS, o_conv, o_alloc, o_box, o_load1, o_loadN, o_store, o_nilck, o_faddr, o_field1, o_fieldN, o_iaddr, o_istr, o_slStr, o_slSl, o_lenS, o_lenL, o_mx, o_mn, o_ext, o_build, o_lit, o_litOwn, o_app, o_mk, o_mvfrz, l_int, l_bool, l_str, l_agg, l_sl, l_own, l_ptr, l_pp, i_int, i_bool, i_str, i_sl, i_own, i_ptr, i_pp, all0, all1, e_ok1, eff, effBin, effBinN, ld_ptr, ld_pp, ld_elt, ia_own, ia_arr, el_1, el_N, load1K, faddrE, r_iaddr, sg_S, sg_c, sg_n, purL, pur, List.map, List.drop, List.take, List.length, List.foldl, List.append_eq, List.nil_append, List.cons_append, List.getD_cons_zero, List.getD_cons_succ, reduceIte, Nat.reduceEqDiff, Nat.reduceAdd, Nat.reduceLeDiff, true_and, and_true, Bool.not_true, Bool.not_false, Bool.and_true, Bool.true_and, Bool.and_self, reduceCtorEq, true_implies, false_implies, implies_true, decide_eq_true_eq, Option.map_some, fpOf, fpX, SOp.xs, oX, refs, refsL, dom, disj, List.all_nil, List.all_cons, List.contains_cons, List.contains_nil, Nat.reduceBEq, Bool.or_false, Bool.false_or, List.append_nil, Bool.not_false, Bool.not_true, List.forall_mem_cons, fm0, List.set, Nat.reduceLT, ne_eq, not_false_eq_true, not_true_eq_false
, ret1, ret1N, keep0, keep1, rf_int, rf_bool, rf_str, rf_sl, rf_agg, rf_tup, rfL0, rfL1, re_t, re_cN, re_L0, re_L1, ret_tup, ret_one, decide_true, AV.bool.injEq, AV.int.injEq, Nat.reduceLeDiff, Bool.true_eq, Bool.false_eq, decide_eq_true_eq, decide_eq_false_iff_not, t_sPathOk, t_l21In, t_l26Held, t_l21Min, t_l21Max, List.length_map, Stp7.row, irow, un_stp, un_i, path_eta, stp_eta, take_all, held_nil, set_f, set_b, List.length_set, hav, Path5.avO, flatOk, noref, ghost, Nat.zero_add, Nat.sub_zero, Int.toNat_natCast]
    exact ⟨⟨by rw [Path5.restR, if_pos hgo]; rfl, hgo⟩, by rw [Path5.restR, if_pos hgo]; rfl⟩
  · have hgo : ¬ p.goes k e now := fun h => hcan h.2.2.2
    have h95 := (c_l27Can0 (p.restAt k e now) 1 hc hcan).ren (swp 3 112) (swp_swp 3 112)
    simp only [renL, ren, renM, renO, swp, Path5.avO, reduceIte] at h95
    refine ⟨_, _, .inl ⟨_, h95, by simp only [List.mem_singleton, forall_eq]; rfl, by simp [getM, dom], rfl, rfl, rfl, rfl, rfl⟩, ?_⟩
    simp only [w_skip, w_rg, w_rgd, w_seq, w_cond, w_block, w_loop, w_exit, w_ret, w_gh, w_rg0, w_rg1, w_rgT, w_rgF, w_run, w_psd, w_und, w_dr0, w_dr1, w_drT, w_drF, w_drRun, w_drPsd, w_drUnd, w_drKn, w_drKs, w_putK, w_trimK, w_thenN, w_thenE, w_thenR, w_scope, w_label, w_blkN, w_blkE, w_blkR, w_call, w_effK, brU_true, brU_false, brU_u, brU_not, brU_and, brU_or, brU_dec, brU_eq, brU_ne, br_true, br_false, br_not, br_and, br_or, br_dec, br_eq, br_ne, w_getE0, w_getE1, w_setE0, w_setE1, w_dropE0, w_dropE1, w_drop0, w_drop1, w_getM0, w_getM1, w_setM0, w_setM1, ev_v, ev_c, w_putS, w_putN, w_lit, w_apU0, w_apU1, w_apU2, w_trim, enumE0, enumE1, w_callWp, w_callA0, w_callA1, w_R0, w_R1, w_R2, w_T2, w_callL, w_callT, w_T1, w_T0, o_mv, o_newnil, o_pick, o_bin, o_binN, o_neg, o_not, o_eqB, o_eqS, o_conv, o_alloc, o_box, o_load1, o_loadN, o_store, o_nilck, o_faddr, o_field1, o_fieldN, o_iaddr, o_istr, o_slStr, o_slSl, o_lenS, o_lenL, o_mx, o_mn, o_ext, o_build, o_lit, o_litOwn, o_app, o_mk, o_mvfrz, l_int, l_bool, l_str, l_agg, l_sl, l_own, l_ptr, l_pp, i_int, i_bool, i_str, i_sl, i_own, i_ptr, i_pp, all0, all1, e_ok1, eff, effBin, effBinN, ld_ptr, ld_pp, ld_elt, ia_own, ia_arr, el_1, el_N, load1K, faddrE, r_iaddr, sg_S, sg_c, sg_n, purL, pur, List.map, List.drop, List.take, List.length, List.foldl, List.append_eq, List.nil_append, List.cons_append, List.getD_cons_zero, List.getD_cons_succ, reduceIte, Nat.reduceEqDiff, Nat.reduceAdd, Nat.reduceLeDiff, true_and, and_true, Bool.not_true, Bool.not_false, Bool.and_true, Bool.true_and, Bool.and_self, reduceCtorEq, true_implies, false_implies, implies_true, decide_eq_true_eq, Option.map_some, fpOf, fpX, SOp.xs, oX, refs, refsL, dom, disj, List.all_nil, List.all_cons, List.contains_cons, List.contains_nil, Nat.reduceBEq, Bool.or_false, Bool.false_or, List.append_nil, Bool.not_false, Bool.not_true, List.forall_mem_cons, fm0, List.set, Nat.reduceLT, ne_eq, not_false_eq_true, not_true_eq_false
, ret1, ret1N, keep0, keep1, rf_int, rf_bool, rf_str, rf_sl, rf_agg, rf_tup, rfL0, rfL1, re_t, re_cN, re_L0, re_L1, ret_tup, ret_one, decide_true, AV.bool.injEq, AV.int.injEq, Nat.reduceLeDiff, Bool.true_eq, Bool.false_eq, decide_eq_true_eq, decide_eq_false_iff_not, t_sPathOk, t_l21In, t_l26Held, t_l21Min, t_l21Max, List.length_map, Stp7.row, irow, un_stp, un_i, path_eta, stp_eta, take_all, held_nil, set_f, set_b, List.length_set, hav, Path5.avO, flatOk, noref, ghost, Nat.zero_add, Nat.sub_zero, Int.toNat_natCast]
    exact no hgo
end Go.Ve

namespace Go.Ve
open Go.Proofs
set_option linter.unusedSimpArgs false
set_option linter.unusedVariables false
set_option maxRecDepth 100000
def t_fit : List AV → Option (Prop × AV)
  | [.agg [.int .i64 q, .int .i64 s, .sl _ 7 xs, .int .i64 f, .int .i64 b]] => some ((xs.map unStp).map Stp7.row = xs, .tup [.sl 0 2 ((Path5.fitS ⟨q, s, xs.map unStp, f, b⟩).map Span2.row), .bool (decide (Path5.fit ⟨q, s, xs.map unStp, f, b⟩))])
  | _ => none
abbrev t_iFit := t_fit
theorem h_iFit : ∀ args p v, t_fit args = some (p, v) → p → Contract P 93 args [] v [] ∧ noref v = true ∧ No99 v := by
  intro args p v h1 h2
  unfold t_fit at h1
  split at h1
  · rename_i q s t xs f b
    cases h1
    have := c_iFlySpans ⟨q, s, xs.map unStp, f, b⟩ t
    simp only [h2] at this
    exact ⟨this, rfl, ⟨by omega, no99_span _⟩, trivial, trivial⟩
  · cases h1
theorem drop_rows {α : Type} {f : α → List AV} {l : List α} {k : Nat} : List.drop k (List.map f l) = List.map f (List.drop k l) := (List.map_drop).symm
theorem take_s1 {α : Type} {f : α → List AV} {l : List α} {i : Nat} {x : α} : List.take l.length (List.map f (l.set i x)) = List.map f (l.set i x) := List.take_of_length_le (by simp)
theorem take_s2 {α : Type} {f : α → List AV} {l : List α} {i j : Nat} {x y : α} : List.take l.length (List.map f ((l.set i x).set j y)) = List.map f ((l.set i x).set j y) := List.take_of_length_le (by simp)
theorem ite_max {a b : Int} : (if b > a then b else a) = max a b := by omega
theorem ite_min {a b : Int} : (if b < a then b else a) = min a b := by omega
theorem c_rest (p : Path5) (t : Nat) (k f b now : Int) (hk : 0 ≤ k ∧ k < p.l.length) (hn : p.l.length ≤ 1048576) (hw : -4611686018427387904 ≤ now ∧ now ≤ 4611686018427387904) : Contract P 114 [.agg [.int .i64 p.q, .int .i64 p.s, .sl t 7 (p.l.map Stp7.row), .int .i64 p.f, .int .i64 p.b], .int .i64 k, .int .i64 f, .int .i64 b, .int .i64 now] [] (.tup [(if (p.rest k.toNat f b now).fit then p.rest k.toNat f b now else ⟨0, 0, [], 0, 0⟩ : Path5).av, .bool (decide (p.rest k.toNat f b now).fit)]) [] := by
  refine fn_sound ((Env.nil P).add 93 t_iFit h_iFit) hm k_impl_FlyPath_rest (Nat.le_of_ble_eq_true rfl) rfl ?_
  unfold s_impl_FlyPath_rest
  have htl : List.drop k.toNat p.l = (p.tail k.toNat).l := rfl
  have hl : 0 < (p.tail k.toNat).l.length := by simp [Path5.tail]; omega
  have hgs : ∀ x : Stp7, ((p.tail k.toNat).l.set 0 x).getD 0 default = x := fun x => getD_set_same hl
  simp only [w_skip, w_rg, w_rgd, w_seq, w_cond, w_block, w_loop, w_exit, w_ret, w_gh, w_rg0, w_rg1, w_rgT, w_rgF, w_run, w_psd, w_und, w_dr0, w_dr1, w_drT, w_drF, w_drRun, w_drPsd, w_drUnd, w_drKn, w_drKs, w_putK, w_trimK, w_thenN, w_thenE, w_thenR, w_scope, w_label, w_blkN, w_blkE, w_blkR, w_call, w_effK, brU_true, brU_false, brU_u, brU_not, brU_and, brU_or, brU_dec, brU_eq, brU_ne, br_true, br_false, br_not, br_and, br_or, br_dec, br_eq, br_ne, w_getE0, w_getE1, w_setE0, w_setE1, w_dropE0, w_dropE1, w_drop0, w_drop1, w_getM0, w_getM1, w_setM0, w_setM1, ev_v, ev_c, w_putS, w_putN, w_lit, w_apU0, w_apU1, w_apU2, w_trim, enumE0, enumE1, w_callWp, w_callA0, w_callA1, w_R0, w_R1, w_R2, w_T2, w_callL, w_callT, w_T1, w_T0, o_mv, o_newnil, o_pick, o_bin, o_binN, o_neg, o_not, o_eqB, o_eqS, o_conv, o_alloc, o_box, o_load1, o_loadN, o_store, o_nilck, o_faddr, o_field1, o_fieldN, o_iaddr, o_istr, o_slStr, o_slSl, o_lenS, o_lenL, o_mx, o_mn, o_ext, o_build, o_lit, o_litOwn, o_app, o_mk, o_mvfrz, l_int, l_bool, l_str, l_agg, l_sl, l_own, l_ptr, l_pp, i_int, i_bool, i_str, i_sl, i_own, i_ptr, i_pp, all0, all1, e_ok1, eff, effBin, effBinN, ld_ptr, ld_pp, ld_elt, ia_own, ia_arr, el_1, el_N, load1K, faddrE, r_iaddr, sg_S, sg_c, sg_n, purL, pur, List.map, List.drop, List.take, List.length, List.foldl, List.append_eq, List.nil_append, List.cons_append, List.getD_cons_zero, List.getD_cons_succ, reduceIte, Nat.reduceEqDiff, Nat.reduceAdd, Nat.reduceLeDiff, true_and, and_true, Bool.not_true, Bool.not_false, Bool.and_true, Bool.true_and, Bool.and_self, reduceCtorEq, true_implies, false_implies, implies_true, decide_eq_true_eq, Option.map_some, fpOf, fpX, SOp.xs, oX, refs, refsL, dom, disj, List.all_nil, List.all_cons, List.contains_cons, List.contains_nil, Nat.reduceBEq, Bool.or_false, Bool.false_or, List.append_nil, Bool.not_false, Bool.not_true, List.forall_mem_cons, fm0, List.set, Nat.reduceLT, ne_eq, not_false_eq_true, not_true_eq_false
, ret1, ret1N, keep0, keep1, rf_int, rf_bool, rf_str, rf_sl, rf_agg, rf_tup, rfL0, rfL1, re_t, re_cN, re_L0, re_L1, ret_tup, ret_one, decide_true, AV.bool.injEq, AV.int.injEq, Nat.reduceLeDiff, Bool.true_eq, Bool.false_eq, decide_eq_true_eq, decide_eq_false_iff_not, t_iFit, t_fit, drop_rows, htl, ite_max, ite_min, Int.toNat_zero, take_s1, take_s2, hgs, List.set_set, List.length_map, Stp7.row, irow, un_stp, un_i, path_eta, stp_eta, take_all, set_f, set_b, List.length_set, Path5.avO, flatOk, noref, ghost, Nat.zero_add, Nat.sub_zero, Int.toNat_natCast, rowsOf, appE, optI]
  have fin : ∀ R : Path5, R = p.rest k.toNat f b now → (R.fit → ((if (p.rest k.toNat f b now).fit then p.rest k.toNat f b now else ⟨0, 0, [], 0, 0⟩ : Path5).av = R.av ∧ (p.rest k.toNat f b now).fit) ∧ refsIn [] (if (p.rest k.toNat f b now).fit then p.rest k.toNat f b now else ⟨0, 0, [], 0, 0⟩ : Path5).av = true) ∧
      (¬ R.fit → ((if (p.rest k.toNat f b now).fit then p.rest k.toNat f b now else ⟨0, 0, [], 0, 0⟩ : Path5).av = .agg [.int .i64 0, .int .i64 0, .sl 0 7 [], .int .i64 0, .int .i64 0] ∧ ¬ (p.rest k.toNat f b now).fit) ∧ refsIn [] (if (p.rest k.toNat f b now).fit then p.rest k.toNat f b now else ⟨0, 0, [], 0, 0⟩ : Path5).av = true) := by
    rintro R rfl
    exact ⟨fun h => by rw [if_pos h]; exact ⟨⟨rfl, h⟩, rfl⟩, fun h => by rw [if_neg h]; exact ⟨⟨rfl, h⟩, rfl⟩⟩
  have hlen : (p.tail k.toNat).l.length ≤ p.l.length := by simp [Path5.tail]
  refine ⟨by omega, by omega, ⟨by omega, by omega⟩, ⟨by omega, by omega⟩, fun h => ⟨⟨by omega, by omega⟩, by omega, by omega, ⟨by omega, by omega⟩, ?_⟩, fun h => ⟨by omega, ?_⟩⟩
  · refine fin _ ?_
    unfold Path5.rest Path5.after
    rw [if_pos (by rw [first_len]; omega)]
    rfl
  · refine fin _ ?_
    unfold Path5.rest Path5.after
    rw [if_neg (by rw [first_len]; omega)]
    rfl
end Go.Ve

namespace Go.Ve
open Go.Proofs
set_option linter.unusedSimpArgs false
set_option linter.unusedVariables false
set_option maxRecDepth 100000
def Path5.restF (p : Path5) (k : Nat) (f b now : Int) : Path5 := if (p.rest k f b now).fit then p.rest k f b now else ⟨0, 0, [], 0, 0⟩
def t_rest : List AV → Option (Prop × AV)
  | [.agg [.int .i64 q, .int .i64 s, .sl _ 7 xs, .int .i64 f, .int .i64 b], .int .i64 k, .int .i64 fr, .int .i64 by_, .int .i64 now] => some ((xs.map unStp).map Stp7.row = xs ∧ (0 ≤ k ∧ k < (xs.map unStp).length) ∧ (xs.map unStp).length ≤ 1048576 ∧ (-4611686018427387904 ≤ now ∧ now ≤ 4611686018427387904), .tup [(Path5.restF ⟨q, s, xs.map unStp, f, b⟩ k.toNat fr by_ now).av, .bool (decide (Path5.rest ⟨q, s, xs.map unStp, f, b⟩ k.toNat fr by_ now).fit)])
  | _ => none
theorem h_rest : ∀ args p v, t_rest args = some (p, v) → p → Contract P 114 args [] v [] ∧ noref v = true ∧ No99 v := by
  intro args p v h1 h2
  unfold t_rest at h1
  split at h1
  · rename_i q s t xs f b k fr by_ now
    cases h1
    have := c_rest ⟨q, s, xs.map unStp, f, b⟩ t k fr by_ now h2.2.1 h2.2.2.1 h2.2.2.2
    simp only [h2.1] at this
    exact ⟨this, rfl, no99_av _, trivial, trivial⟩
  · cases h1
theorem c_iFlyRest (p : Path5) (t : Nat) (k e now : Int) : Contract P 94 [.agg [.int .i64 p.q, .int .i64 p.s, .sl t 7 (p.l.map Stp7.row), .int .i64 p.f, .int .i64 p.b], .int .i64 k, .int .i64 e, .int .i64 now] [] (.tup [(p.restR k e now).av, .bool (decide (p.goes k e now))]) [] := by
  refine fn_sound (((Env.nil P).add 92 t_iPathOk h_iPathOk).add 114 t_rest h_rest) hm k_impl_FlyRest (Nat.le_of_ble_eq_true rfl) rfl ?_
  unfold s_impl_FlyRest
  simp only [w_skip, w_rg, w_rgd, w_seq, w_cond, w_block, w_loop, w_exit, w_ret, w_gh, w_rg0, w_rg1, w_rgT, w_rgF, w_run, w_psd, w_und, w_dr0, w_dr1, w_drT, w_drF, w_drRun, w_drPsd, w_drUnd, w_drKn, w_drKs, w_putK, w_trimK, w_thenN, w_thenE, w_thenR, w_scope, w_label, w_blkN, w_blkE, w_blkR, w_call, w_effK, brU_true, brU_false, brU_u, brU_not, brU_and, brU_or, brU_dec, brU_eq, brU_ne, br_true, br_false, br_not, br_and, br_or, br_dec, br_eq, br_ne, w_getE0, w_getE1, w_setE0, w_setE1, w_dropE0, w_dropE1, w_drop0, w_drop1, w_getM0, w_getM1, w_setM0, w_setM1, ev_v, ev_c, w_putS, w_putN, w_lit, w_apU0, w_apU1, w_apU2, w_trim, enumE0, enumE1, w_callWp, w_callA0, w_callA1, w_R0, w_R1, w_R2, w_T2, w_callL, w_callT, w_T1, w_T0, o_mv, o_newnil, o_pick, o_bin, o_binN, o_neg, o_not, o_eqB, o_eqS, o_conv, o_alloc, o_box, o_load1, o_loadN, o_store, o_nilck, o_faddr, o_field1, o_fieldN, o_iaddr, o_istr, o_slStr, o_slSl, o_lenS, o_lenL, o_mx, o_mn, o_ext, o_build, o_lit, o_litOwn, o_app, o_mk, o_mvfrz, l_int, l_bool, l_str, l_agg, l_sl, l_own, l_ptr, l_pp, i_int, i_bool, i_str, i_sl, i_own, i_ptr, i_pp, all0, all1, e_ok1, eff, effBin, effBinN, ld_ptr, ld_pp, ld_elt, ia_own, ia_arr, el_1, el_N, load1K, faddrE, r_iaddr, sg_S, sg_c, sg_n, purL, pur, List.map, List.drop, List.take, List.length, List.foldl, List.append_eq, List.nil_append, List.cons_append, List.getD_cons_zero, List.getD_cons_succ, reduceIte, Nat.reduceEqDiff, Nat.reduceAdd, Nat.reduceLeDiff, true_and, and_true, Bool.not_true, Bool.not_false, Bool.and_true, Bool.true_and, Bool.and_self, reduceCtorEq, true_implies, false_implies, implies_true, decide_eq_true_eq, Option.map_some, fpOf, fpX, SOp.xs, oX, refs, refsL, dom, disj, List.all_nil, List.all_cons, List.contains_cons, List.contains_nil, Nat.reduceBEq, Bool.or_false, Bool.false_or, List.append_nil, Bool.not_false, Bool.not_true, List.forall_mem_cons, fm0, List.set, Nat.reduceLT, ne_eq, not_false_eq_true, not_true_eq_false
, ret1, ret1N, keep0, keep1, rf_int, rf_bool, rf_str, rf_sl, rf_agg, rf_tup, rfL0, rfL1, re_t, re_cN, re_L0, re_L1, ret_tup, ret_one, decide_true, AV.bool.injEq, AV.int.injEq, Nat.reduceLeDiff, Bool.true_eq, Bool.false_eq, decide_eq_true_eq, decide_eq_false_iff_not, t_iPathOk, t_rest, drop_rows, ite_max, ite_min, t_sPathOk, Path5.av, Int.toNat_zero, List.length_map, Stp7.row, irow, un_stp, un_i, path_eta, stp_eta, take_all, flatOk, noref, ghost, Nat.zero_add, Nat.sub_zero, Int.toNat_natCast]
  have no : ¬ p.goes k e now → AV.agg [AV.int IntKind.i64 (p.restR k e now).q, AV.int IntKind.i64 (p.restR k e now).s, AV.sl 0 7 (List.map Stp7.row (p.restR k e now).l), AV.int IntKind.i64 (p.restR k e now).f, AV.int IntKind.i64 (p.restR k e now).b] =
      AV.agg [AV.int IntKind.i64 0, AV.int IntKind.i64 0, AV.sl 0 7 [], AV.int IntKind.i64 0, AV.int IntKind.i64 0] ∧ ¬ p.goes k e now := fun h => ⟨by rw [Path5.restR, if_neg h]; rfl, h⟩
  refine ⟨fun h1 => ⟨fun h2 => no fun h => absurd h.2.1.1 (by omega), fun h2 => ⟨fun h3 => no fun h => absurd h.2.1.2 (by omega), fun h3 => ⟨fun h4 => no fun h => absurd h.2.2.1 (by omega), fun h4 => ⟨fun h5 => no fun h => absurd h.2.2.1 (by omega), fun h5 => ⟨fun h6 => no fun h => absurd h.2.2.1 (by omega), fun h6 => ?_⟩⟩⟩⟩⟩, fun h1 => no fun h => h1 h.1⟩
  have hb := (h1.2.2.2 k.toNat (by omega)).1
  unfold Stp7.ok at hb
  have hfit := rest_fit (p := p) (k := k.toNat) (f := max (p.l.getD k.toNat default).f e) (b := min (p.l.getD k.toNat default).b e) (now := now) h1 (by omega) (by omega) (by omega)
  have hgo : (p.rest k.toNat (max (p.l.getD k.toNat default).f e) (min (p.l.getD k.toNat default).b e) now).fit ↔ p.goes k e now :=
    ⟨fun h => ⟨h1, ⟨by omega, by omega⟩, ⟨by omega, by omega, by omega⟩, hfit.1 h⟩, fun h => hfit.2 h.2.2.2⟩
  have hR : p.restR k e now = p.restF k.toNat (max (p.l.getD k.toNat default).f e) (min (p.l.getD k.toNat default).b e) now := by
    unfold Path5.restR Path5.restF
    by_cases h : p.goes k e now
    · rw [if_pos h, if_pos (hgo.2 h)]; rfl
    · rw [if_neg h, if_neg (fun h' => h (hgo.1 h'))]
  exact ⟨by omega, by omega, ⟨⟨by omega, by omega⟩, by have := h1.2.1; omega, by omega, by omega⟩, by rw [hR], decide_eq_decide.2 hgo⟩
def t_frest : List AV → Option (Prop × AV)
  | [.agg [.int .i64 q, .int .i64 s, .sl _ 7 xs, .int .i64 f, .int .i64 b], .int .i64 k, .int .i64 e, .int .i64 now] => some ((xs.map unStp).map Stp7.row = xs, .tup [(Path5.restR ⟨q, s, xs.map unStp, f, b⟩ k e now).av, .bool (decide (Path5.goes ⟨q, s, xs.map unStp, f, b⟩ k e now))])
  | _ => none
abbrev t_iRest := t_frest
theorem h_iRest : ∀ args p v, t_frest args = some (p, v) → p → Contract P 94 args [] v [] ∧ noref v = true ∧ No99 v := by
  intro args p v h1 h2
  unfold t_frest at h1
  split at h1
  · rename_i q s t xs f b k e now
    cases h1
    have := c_iFlyRest ⟨q, s, xs.map unStp, f, b⟩ t k e now
    simp only [h2] at this
    exact ⟨this, rfl, no99_av _, trivial, trivial⟩
  · cases h1
abbrev t_sRest := t_frest
theorem h_sRest : ∀ args p v, t_frest args = some (p, v) → p → Contract P 81 args [] v [] ∧ noref v = true ∧ No99 v := by
  intro args p v h1 h2
  unfold t_frest at h1
  split at h1
  · rename_i q s t xs f b k e now
    cases h1
    have := c_sFlyRest ⟨q, s, xs.map unStp, f, b⟩ t k e now
    simp only [h2] at this
    exact ⟨this, rfl, no99_av _, trivial, trivial⟩
  · cases h1
theorem c_l43Waits (p : Path5) (t : Nat) (now : Int) (hc : p.calm) (hw : -4611686018427387904 ≤ now ∧ now ≤ 4611686018427387904) : Contract P 57 [.agg [.int .i64 p.q, .int .i64 p.s, .sl t 7 (p.l.map Stp7.row), .int .i64 p.f, .int .i64 p.b], .int .i64 now] [] (.bool (decide (pathOk p.q p.s p.l p.f p.b ∧ (p.wait now).can))) [] := by
  refine fn_sound ((((Env.nil P).add 78 t_sPathOk h_sPathOk).add 80 t_l24Spans h_l24Spans).add 27 t_l21Max h_l21Max) hm k_spec_l43Waits (Nat.le_of_ble_eq_true rfl) rfl ?_
  unfold s_spec_l43Waits
  simp only [w_skip, w_rg, w_rgd, w_seq, w_cond, w_block, w_loop, w_exit, w_ret, w_gh, w_rg0, w_rg1, w_rgT, w_rgF, w_run, w_psd, w_und, w_dr0, w_dr1, w_drT, w_drF, w_drRun, w_drPsd, w_drUnd, w_drKn, w_drKs, w_putK, w_trimK, w_thenN, w_thenE, w_thenR, w_scope, w_label, w_blkN, w_blkE, w_blkR, w_call, w_effK, brU_true, brU_false, brU_u, brU_not, brU_and, brU_or, brU_dec, brU_eq, brU_ne, br_true, br_false, br_not, br_and, br_or, br_dec, br_eq, br_ne, w_getE0, w_getE1, w_setE0, w_setE1, w_dropE0, w_dropE1, w_drop0, w_drop1, w_getM0, w_getM1, w_setM0, w_setM1, ev_v, ev_c, w_putS, w_putN, w_lit, w_apU0, w_apU1, w_apU2, w_trim, enumE0, enumE1, w_callWp, w_callA0, w_callA1, w_R0, w_R1, w_R2, w_T2, w_callL, w_callT, w_T1, w_T0, o_mv, o_newnil, o_pick, o_bin, o_binN, o_neg, o_not, o_eqB, o_eqS, o_conv, o_alloc, o_box, o_load1, o_loadN, o_store, o_nilck, o_faddr, o_field1, o_fieldN, o_iaddr, o_istr, o_slStr, o_slSl, o_lenS, o_lenL, o_mx, o_mn, o_ext, o_build, o_lit, o_litOwn, o_app, o_mk, o_mvfrz, l_int, l_bool, l_str, l_agg, l_sl, l_own, l_ptr, l_pp, i_int, i_bool, i_str, i_sl, i_own, i_ptr, i_pp, all0, all1, e_ok1, eff, effBin, effBinN, ld_ptr, ld_pp, ld_elt, ia_own, ia_arr, el_1, el_N, load1K, faddrE, r_iaddr, sg_S, sg_c, sg_n, purL, pur, List.map, List.drop, List.take, List.length, List.foldl, List.append_eq, List.nil_append, List.cons_append, List.getD_cons_zero, List.getD_cons_succ, reduceIte, Nat.reduceEqDiff, Nat.reduceAdd, Nat.reduceLeDiff, true_and, and_true, Bool.not_true, Bool.not_false, Bool.and_true, Bool.true_and, Bool.and_self, reduceCtorEq, true_implies, false_implies, implies_true, decide_eq_true_eq, Option.map_some, fpOf, fpX, SOp.xs, oX, refs, refsL, dom, disj, List.all_nil, List.all_cons, List.contains_cons, List.contains_nil, Nat.reduceBEq, Bool.or_false, Bool.false_or, List.append_nil, Bool.not_false, Bool.not_true, List.forall_mem_cons, fm0, List.set, Nat.reduceLT, ne_eq, not_false_eq_true, not_true_eq_false
, ret1, ret1N, keep0, keep1, rf_int, rf_bool, rf_str, rf_sl, rf_agg, rf_tup, rfL0, rfL1, re_t, re_cN, re_L0, re_L1, ret_tup, ret_one, decide_true, AV.bool.injEq, AV.int.injEq, Nat.reduceLeDiff, Bool.true_eq, Bool.false_eq, decide_eq_true_eq, decide_eq_false_iff_not, t_sPathOk, t_l24Spans, t_l21Max, set_f, List.length_set, take_s1, Path5.av, Int.toNat_zero, List.length_map, Stp7.row, irow, un_stp, un_i, path_eta, stp_eta, take_all, flatOk, noref, ghost, Nat.zero_add, Nat.sub_zero, Int.toNat_natCast]
  refine ⟨_, _, .inl ⟨[], c_l22Copy p t hc.n, by simp, by simp [getM], rfl, rfl, rfl, rfl, rfl⟩, ?_⟩
  simp only [w_skip, w_rg, w_rgd, w_seq, w_cond, w_block, w_loop, w_exit, w_ret, w_gh, w_rg0, w_rg1, w_rgT, w_rgF, w_run, w_psd, w_und, w_dr0, w_dr1, w_drT, w_drF, w_drRun, w_drPsd, w_drUnd, w_drKn, w_drKs, w_putK, w_trimK, w_thenN, w_thenE, w_thenR, w_scope, w_label, w_blkN, w_blkE, w_blkR, w_call, w_effK, brU_true, brU_false, brU_u, brU_not, brU_and, brU_or, brU_dec, brU_eq, brU_ne, br_true, br_false, br_not, br_and, br_or, br_dec, br_eq, br_ne, w_getE0, w_getE1, w_setE0, w_setE1, w_dropE0, w_dropE1, w_drop0, w_drop1, w_getM0, w_getM1, w_setM0, w_setM1, ev_v, ev_c, w_putS, w_putN, w_lit, w_apU0, w_apU1, w_apU2, w_trim, enumE0, enumE1, w_callWp, w_callA0, w_callA1, w_R0, w_R1, w_R2, w_T2, w_callL, w_callT, w_T1, w_T0, o_mv, o_newnil, o_pick, o_bin, o_binN, o_neg, o_not, o_eqB, o_eqS, o_conv, o_alloc, o_box, o_load1, o_loadN, o_store, o_nilck, o_faddr, o_field1, o_fieldN, o_iaddr, o_istr, o_slStr, o_slSl, o_lenS, o_lenL, o_mx, o_mn, o_ext, o_build, o_lit, o_litOwn, o_app, o_mk, o_mvfrz, l_int, l_bool, l_str, l_agg, l_sl, l_own, l_ptr, l_pp, i_int, i_bool, i_str, i_sl, i_own, i_ptr, i_pp, all0, all1, e_ok1, eff, effBin, effBinN, ld_ptr, ld_pp, ld_elt, ia_own, ia_arr, el_1, el_N, load1K, faddrE, r_iaddr, sg_S, sg_c, sg_n, purL, pur, List.map, List.drop, List.take, List.length, List.foldl, List.append_eq, List.nil_append, List.cons_append, List.getD_cons_zero, List.getD_cons_succ, reduceIte, Nat.reduceEqDiff, Nat.reduceAdd, Nat.reduceLeDiff, true_and, and_true, Bool.not_true, Bool.not_false, Bool.and_true, Bool.true_and, Bool.and_self, reduceCtorEq, true_implies, false_implies, implies_true, decide_eq_true_eq, Option.map_some, fpOf, fpX, SOp.xs, oX, refs, refsL, dom, disj, List.all_nil, List.all_cons, List.contains_cons, List.contains_nil, Nat.reduceBEq, Bool.or_false, Bool.false_or, List.append_nil, Bool.not_false, Bool.not_true, List.forall_mem_cons, fm0, List.set, Nat.reduceLT, ne_eq, not_false_eq_true, not_true_eq_false
, ret1, ret1N, keep0, keep1, rf_int, rf_bool, rf_str, rf_sl, rf_agg, rf_tup, rfL0, rfL1, re_t, re_cN, re_L0, re_L1, ret_tup, ret_one, decide_true, AV.bool.injEq, AV.int.injEq, Nat.reduceLeDiff, Bool.true_eq, Bool.false_eq, decide_eq_true_eq, decide_eq_false_iff_not, t_sPathOk, t_l24Spans, t_l21Max, set_f, List.length_set, take_s1, Path5.av, Int.toNat_zero, List.length_map, Stp7.row, irow, un_stp, un_i, path_eta, stp_eta, take_all, flatOk, noref, ghost, Nat.zero_add, Nat.sub_zero, Int.toNat_natCast]
  refine ⟨fun h => ⟨⟨by omega, by omega⟩, by omega, by omega, ⟨by omega, by omega⟩, wait_calm (by omega) hc, fun h1 => decide_eq_decide.2 ⟨fun h2 => ⟨h1, h2⟩, fun h2 => h2.2⟩, fun h1 h2 => h1 h2.1⟩, fun h => ⟨hc, fun h1 => absurd h1.2.1.1 (by omega), fun h1 h2 => h1 h2.1⟩⟩
def t_waits : List AV → Option (Prop × AV)
  | [.agg [.int .i64 q, .int .i64 s, .sl _ 7 xs, .int .i64 f, .int .i64 b], .int .i64 now] => some ((xs.map unStp).map Stp7.row = xs ∧ Path5.calm ⟨q, s, xs.map unStp, f, b⟩ ∧ (-4611686018427387904 ≤ now ∧ now ≤ 4611686018427387904), .bool (decide (pathOk q s (xs.map unStp) f b ∧ (Path5.wait ⟨q, s, xs.map unStp, f, b⟩ now).can)))
  | _ => none
theorem h_waits : ∀ args p v, t_waits args = some (p, v) → p → Contract P 57 args [] v [] ∧ noref v = true ∧ No99 v := by
  intro args p v h1 h2
  unfold t_waits at h1
  split at h1
  · rename_i q s t xs f b now
    cases h1
    have := c_l43Waits ⟨q, s, xs.map unStp, f, b⟩ t now h2.2.1 h2.2.2
    simp only [h2.1] at this
    exact ⟨this, rfl, trivial⟩
  · cases h1
/-- The aircraft can stay where it is behind now. -/
def Path5.stays (p : Path5) (bg : List Int) (now : Int) : Prop := if bg.length = 0 then pathOk p.q p.s p.l p.f p.b ∧ (p.wait now).can else p.goes ((bg.length : Int) - 1) (bg.getD (bg.length - 1) default) now
instance (p : Path5) (bg : List Int) (now : Int) : Decidable (p.stays bg now) := by unfold Path5.stays; infer_instance
theorem nat_pred (n : Nat) : ((n : Int) - 1).toNat = n - 1 := by omega
theorem c_l43Stays (p : Path5) (t t' : Nat) (bg : List Int) (now : Int) (hc : p.calm) (hw : -4611686018427387904 ≤ now ∧ now ≤ 4611686018427387904) (hb : bg.length ≤ 1048576) : Contract P 60 [.agg [.int .i64 p.q, .int .i64 p.s, .sl t 7 (p.l.map Stp7.row), .int .i64 p.f, .int .i64 p.b], .sl t' 1 (bg.map irow), .int .i64 now] [] (.bool (decide (p.stays bg now))) [] := by
  refine fn_sound (((Env.nil P).add 57 t_waits h_waits).add 81 t_sRest h_sRest) hm k_spec_l43Stays (Nat.le_of_ble_eq_true rfl) rfl ?_
  unfold s_spec_l43Stays
  simp only [w_skip, w_rg, w_rgd, w_seq, w_cond, w_block, w_loop, w_exit, w_ret, w_gh, w_rg0, w_rg1, w_rgT, w_rgF, w_run, w_psd, w_und, w_dr0, w_dr1, w_drT, w_drF, w_drRun, w_drPsd, w_drUnd, w_drKn, w_drKs, w_putK, w_trimK, w_thenN, w_thenE, w_thenR, w_scope, w_label, w_blkN, w_blkE, w_blkR, w_call, w_effK, brU_true, brU_false, brU_u, brU_not, brU_and, brU_or, brU_dec, brU_eq, brU_ne, br_true, br_false, br_not, br_and, br_or, br_dec, br_eq, br_ne, w_getE0, w_getE1, w_setE0, w_setE1, w_dropE0, w_dropE1, w_drop0, w_drop1, w_getM0, w_getM1, w_setM0, w_setM1, ev_v, ev_c, w_putS, w_putN, w_lit, w_apU0, w_apU1, w_apU2, w_trim, enumE0, enumE1, w_callWp, w_callA0, w_callA1, w_R0, w_R1, w_R2, w_T2, w_callL, w_callT, w_T1, w_T0, o_mv, o_newnil, o_pick, o_bin, o_binN, o_neg, o_not, o_eqB, o_eqS, o_conv, o_alloc, o_box, o_load1, o_loadN, o_store, o_nilck, o_faddr, o_field1, o_fieldN, o_iaddr, o_istr, o_slStr, o_slSl, o_lenS, o_lenL, o_mx, o_mn, o_ext, o_build, o_lit, o_litOwn, o_app, o_mk, o_mvfrz, l_int, l_bool, l_str, l_agg, l_sl, l_own, l_ptr, l_pp, i_int, i_bool, i_str, i_sl, i_own, i_ptr, i_pp, all0, all1, e_ok1, eff, effBin, effBinN, ld_ptr, ld_pp, ld_elt, ia_own, ia_arr, el_1, el_N, load1K, faddrE, r_iaddr, sg_S, sg_c, sg_n, purL, pur, List.map, List.drop, List.take, List.length, List.foldl, List.append_eq, List.nil_append, List.cons_append, List.getD_cons_zero, List.getD_cons_succ, reduceIte, Nat.reduceEqDiff, Nat.reduceAdd, Nat.reduceLeDiff, true_and, and_true, Bool.not_true, Bool.not_false, Bool.and_true, Bool.true_and, Bool.and_self, reduceCtorEq, true_implies, false_implies, implies_true, decide_eq_true_eq, Option.map_some, fpOf, fpX, SOp.xs, oX, refs, refsL, dom, disj, List.all_nil, List.all_cons, List.contains_cons, List.contains_nil, Nat.reduceBEq, Bool.or_false, Bool.false_or, List.append_nil, Bool.not_false, Bool.not_true, List.forall_mem_cons, fm0, List.set, Nat.reduceLT, ne_eq, not_false_eq_true, not_true_eq_false
, ret1, ret1N, keep0, keep1, rf_int, rf_bool, rf_str, rf_sl, rf_agg, rf_tup, rfL0, rfL1, re_t, re_cN, re_L0, re_L1, ret_tup, ret_one, decide_true, AV.bool.injEq, AV.int.injEq, Nat.reduceLeDiff, Bool.true_eq, Bool.false_eq, decide_eq_true_eq, decide_eq_false_iff_not, t_waits, t_sRest, t_frest, nat_pred, Path5.av, Int.toNat_zero, List.length_map, Stp7.row, irow, un_stp, un_i, path_eta, stp_eta, take_all, flatOk, noref, ghost, Nat.zero_add, Nat.sub_zero, Int.toNat_natCast]
  refine ⟨fun h => ⟨⟨hc, hw⟩, by unfold Path5.stays; simp only [show bg.length = 0 from by omega, if_true]⟩, fun h => ⟨by omega, by omega, by omega, ?_⟩⟩
  unfold Path5.stays
  simp only [show ¬ bg.length = 0 from by omega, if_false]
theorem c_stays (nm : ByteArray) (q s nr no : Int) (t t' t2 : Nat) (tu : List Box6) (fl : List Int) (p : Path5) (now : Int) (hp : pathOk p.q p.s p.l p.f p.b) (hb : fl.length ≤ 1048576) : Contract P 68 [.agg [.str nm, .int .i64 q, .int .i64 s, .int .i64 nr, .int .i64 no, .sl t 6 (tu.map Box6.row), .sl t' 1 (fl.map irow)], .agg [.int .i64 p.q, .int .i64 p.s, .sl t2 7 (p.l.map Stp7.row), .int .i64 p.f, .int .i64 p.b], .int .i64 now] [] (.bool (decide (p.stays fl now))) [] := by
  refine fn_sound (((Env.nil P).add 93 t_iFit h_iFit).add 94 t_iRest h_iRest) hm k_impl_LapCraft_stays (Nat.le_of_ble_eq_true rfl) rfl ?_
  unfold s_impl_LapCraft_stays
  simp only [w_skip, w_rg, w_rgd, w_seq, w_cond, w_block, w_loop, w_exit, w_ret, w_gh, w_rg0, w_rg1, w_rgT, w_rgF, w_run, w_psd, w_und, w_dr0, w_dr1, w_drT, w_drF, w_drRun, w_drPsd, w_drUnd, w_drKn, w_drKs, w_putK, w_trimK, w_thenN, w_thenE, w_thenR, w_scope, w_label, w_blkN, w_blkE, w_blkR, w_call, w_effK, brU_true, brU_false, brU_u, brU_not, brU_and, brU_or, brU_dec, brU_eq, brU_ne, br_true, br_false, br_not, br_and, br_or, br_dec, br_eq, br_ne, w_getE0, w_getE1, w_setE0, w_setE1, w_dropE0, w_dropE1, w_drop0, w_drop1, w_getM0, w_getM1, w_setM0, w_setM1, ev_v, ev_c, w_putS, w_putN, w_lit, w_apU0, w_apU1, w_apU2, w_trim, enumE0, enumE1, w_callWp, w_callA0, w_callA1, w_R0, w_R1, w_R2, w_T2, w_callL, w_callT, w_T1, w_T0, o_mv, o_newnil, o_pick, o_bin, o_binN, o_neg, o_not, o_eqB, o_eqS, o_conv, o_alloc, o_box, o_load1, o_loadN, o_store, o_nilck, o_faddr, o_field1, o_fieldN, o_iaddr, o_istr, o_slStr, o_slSl, o_lenS, o_lenL, o_mx, o_mn, o_ext, o_build, o_lit, o_litOwn, o_app, o_mk, o_mvfrz, l_int, l_bool, l_str, l_agg, l_sl, l_own, l_ptr, l_pp, i_int, i_bool, i_str, i_sl, i_own, i_ptr, i_pp, all0, all1, e_ok1, eff, effBin, effBinN, ld_ptr, ld_pp, ld_elt, ia_own, ia_arr, el_1, el_N, load1K, faddrE, r_iaddr, sg_S, sg_c, sg_n, purL, pur, List.map, List.drop, List.take, List.length, List.foldl, List.append_eq, List.nil_append, List.cons_append, List.getD_cons_zero, List.getD_cons_succ, reduceIte, Nat.reduceEqDiff, Nat.reduceAdd, Nat.reduceLeDiff, true_and, and_true, Bool.not_true, Bool.not_false, Bool.and_true, Bool.true_and, Bool.and_self, reduceCtorEq, true_implies, false_implies, implies_true, decide_eq_true_eq, Option.map_some, fpOf, fpX, SOp.xs, oX, refs, refsL, dom, disj, List.all_nil, List.all_cons, List.contains_cons, List.contains_nil, Nat.reduceBEq, Bool.or_false, Bool.false_or, List.append_nil, Bool.not_false, Bool.not_true, List.forall_mem_cons, fm0, List.set, Nat.reduceLT, ne_eq, not_false_eq_true, not_true_eq_false
, ret1, ret1N, keep0, keep1, rf_int, rf_bool, rf_str, rf_sl, rf_agg, rf_tup, rfL0, rfL1, re_t, re_cN, re_L0, re_L1, ret_tup, ret_one, decide_true, AV.bool.injEq, AV.int.injEq, Nat.reduceLeDiff, Bool.true_eq, Bool.false_eq, decide_eq_true_eq, decide_eq_false_iff_not, t_iFit, t_iRest, t_frest, nat_pred, Path5.av, Int.toNat_zero, List.length_map, Stp7.row, irow, un_stp, un_i, path_eta, stp_eta, take_all, flatOk, noref, ghost, Nat.zero_add, Nat.sub_zero, Int.toNat_natCast, t_fit, Span2.row]
  have hf : p.fit ↔ p.can := ⟨fun h => h.2, fun h => ⟨hp, h⟩⟩
  have hq : p.q ≤ p.s ∧ p.q ≤ 10000 := by have := hp.1; omega
  have h0 : 0 < p.l.length := by have := hp.2.1; omega
  have hw := wait_can (now := now) h0 hq
  refine ⟨fun h => ?_, fun h => ⟨by omega, by omega, by omega, by omega, ?_⟩⟩
  · unfold Path5.stays
    simp only [show fl.length = 0 from by omega, if_true]
    refine ⟨fun h1 => ?_, fun h1 h2 => h1 (hf.2 (hw.1 h2.2).1)⟩
    have e : p.fitS = (List.range (p.l.length + 1)).map p.span := by rw [Path5.fitS, if_pos hp]; exact if_pos h1.2
    rw [e, getD_range (by omega)]
    exact ⟨by omega, by simp only [List.length_map, List.length_range]; omega, decide_eq_decide.2 ⟨fun h2 => ⟨hp, hw.2 ⟨h1.2, h2⟩⟩, fun h2 => (hw.1 h2.2).2⟩⟩
  · unfold Path5.stays
    simp only [show ¬ fl.length = 0 from by omega, if_false]
end Go.Ve

namespace Go.Ve
open Go.Proofs
set_option linter.unusedSimpArgs false
set_option linter.unusedVariables false
set_option maxRecDepth 100000
def t_stays : List AV → Option (Prop × AV)
  | [.agg [.str nm, .int .i64 q, .int .i64 s, .int .i64 nr, .int .i64 no, .sl _ 6 tu, .sl _ 1 fl], .agg [.int .i64 pq, .int .i64 ps, .sl _ 7 xs, .int .i64 f, .int .i64 b], .int .i64 now] => some (((tu.map unBox).map Box6.row = tu ∧ (xs.map unStp).map Stp7.row = xs ∧ (fl.map unI).map irow = fl) ∧ pathOk pq ps (xs.map unStp) f b ∧ (fl.map unI).length ≤ 1048576, .bool (decide (Path5.stays ⟨pq, ps, xs.map unStp, f, b⟩ (fl.map unI) now)))
  | _ => none
theorem h_stays : ∀ args p v, t_stays args = some (p, v) → p → Contract P 68 args [] v [] ∧ noref v = true ∧ No99 v := by
  intro args p v h1 h2
  unfold t_stays at h1
  split at h1
  · rename_i nm q s nr no t tu t' fl pq ps t2 xs f b now
    cases h1
    have := c_stays nm q s nr no t t' t2 (tu.map unBox) (fl.map unI) ⟨pq, ps, xs.map unStp, f, b⟩ now h2.2.1 h2.2.2
    simp only [h2.1.1, h2.1.2.1, h2.1.2.2] at this
    exact ⟨this, rfl, trivial⟩
  · cases h1
def t_sStays : List AV → Option (Prop × AV)
  | [.agg [.int .i64 pq, .int .i64 ps, .sl _ 7 xs, .int .i64 f, .int .i64 b], .sl _ 1 fl, .int .i64 now] => some (((xs.map unStp).map Stp7.row = xs ∧ (fl.map unI).map irow = fl) ∧ Path5.calm ⟨pq, ps, xs.map unStp, f, b⟩ ∧ (-4611686018427387904 ≤ now ∧ now ≤ 4611686018427387904) ∧ (fl.map unI).length ≤ 1048576, .bool (decide (Path5.stays ⟨pq, ps, xs.map unStp, f, b⟩ (fl.map unI) now)))
  | _ => none
theorem h_sStays : ∀ args p v, t_sStays args = some (p, v) → p → Contract P 60 args [] v [] ∧ noref v = true ∧ No99 v := by
  intro args p v h1 h2
  unfold t_sStays at h1
  split at h1
  · rename_i pq ps t2 xs f b t' fl now
    cases h1
    have := c_l43Stays ⟨pq, ps, xs.map unStp, f, b⟩ t2 t' (fl.map unI) now h2.2.1 h2.2.2.1 h2.2.2.2
    simp only [h2.1.1, h2.1.2] at this
    exact ⟨this, rfl, trivial⟩
  · cases h1
def t_begun : List AV → Option (Prop × AV)
  | [.agg [.int .i64 q, .int .i64 s, .sl _ 7 xs, .int .i64 f, .int .i64 b], .sl _ 1 ys] => some ((xs.map unStp).map Stp7.row = xs ∧ (ys.map unI).map irow = ys, .bool (decide (Path5.begun ⟨q, s, xs.map unStp, f, b⟩ (ys.map unI))))
  | _ => none
theorem h_begun : ∀ args p v, t_begun args = some (p, v) → p → Contract P 73 args [] v [] ∧ noref v = true ∧ No99 v := by
  intro args p v h1 h2
  unfold t_begun at h1
  split at h1
  · rename_i q s t xs f b t' ys
    cases h1
    have := c_l43Begun ⟨q, s, xs.map unStp, f, b⟩ t t' (ys.map unI)
    simp only [h2.1, h2.2] at this
    exact ⟨this, rfl, trivial⟩
  · cases h1
def t_cnext : List AV → Option (Prop × AV)
  | [.agg [.str nm, .int .i64 q, .int .i64 s, .int .i64 nr, .int .i64 no, .sl _ 6 tu, .sl _ 1 fl]] => some (((tu.map unBox).map Box6.row = tu ∧ (fl.map unI).map irow = fl) ∧ (tu.map unBox).length ≤ 1048576, .tup [(lapPath q s (tu.map unBox)).av, .agg [.int .i64 ((lapPath q s (tu.map unBox)).next (fl.map unI)).lo, .int .i64 ((lapPath q s (tu.map unBox)).next (fl.map unI)).hi], .bool (decide ((lapPath q s (tu.map unBox)).begun (fl.map unI)))])
  | _ => none
theorem h_cnext : ∀ args p v, t_cnext args = some (p, v) → p → Contract P 87 args [] v [] ∧ noref v = true ∧ No99 v := by
  intro args p v h1 h2
  unfold t_cnext at h1
  split at h1
  · rename_i nm q s nr no t tu t' fl
    cases h1
    have := c_next nm q s nr no t t' (tu.map unBox) (fl.map unI) h2.2
    simp only [h2.1.1, h2.1.2] at this
    exact ⟨this, rfl, no99_av _, ⟨trivial, trivial, trivial⟩, trivial, trivial⟩
  · cases h1
def Path5.must (p : Path5) (bg : List Int) (now : Int) : Prop := p.begun bg ∧ ((p.next bg).lo ≤ now ∧ now ≤ (p.next bg).hi) ∧ ¬ p.stays bg now
instance (p : Path5) (bg : List Int) (now : Int) : Decidable (p.must bg now) := by unfold Path5.must; infer_instance
end Go.Ve

