/- Part 4 of the proof: laws and contracts of functions, each proved; they are joined in the last part. No conditions beyond those that the theorems state. -/
import Derived.Test.YtdhghdhljclnnaaGreatProg
import Derived.Test.YtdhghdhljclnnaaGreatLt3
set_option linter.all false
namespace Go.Ve
open Go.Proofs
set_option linter.unusedSimpArgs false
set_option linter.unusedVariables false
set_option maxRecDepth 100000
def szOf (a : Int) (n : Nat) : Int := if a - n < 0 then -1 else a - n
theorem Box6.eq_iff (a b : Box6) : a = b ↔ a.x = b.x ∧ a.y = b.y ∧ a.l = b.l ∧ a.h = b.h ∧ a.i = b.i ∧ a.o = b.o := ⟨fun h => by subst h; exact ⟨rfl, rfl, rfl, rfl, rfl, rfl⟩, fun h => by
  cases a; cases b; simp only at h; simp only [Box6.mk.injEq]; exact h⟩
instance : DecidableEq Box6 := fun a b => decidable_of_iff _ (Box6.eq_iff a b).symm
theorem c_szBoxS (t sz : Nat) (xs : List (List AV)) (a : Int) (hp : (0 ≤ a ∧ a ≤ 1048576) ∧ xs.length ≤ 9223372036854775807) : Contract P 21 [.sl t sz xs, .int .i64 a] [] (.int .i64 (szOf a xs.length)) [] := by
  refine fn_sound (Env.nil P) hm k_laws_szHandBoxS (Nat.le_of_ble_eq_true rfl) rfl ?_
  unfold s_laws_szHandBoxS
  simp only [w_skip, w_rg, w_rgd, w_seq, w_cond, w_block, w_loop, w_exit, w_ret, w_gh, w_rg0, w_rg1, w_rgT, w_rgF, w_run, w_psd, w_und, w_dr0, w_dr1, w_drT, w_drF, w_drRun, w_drPsd, w_drUnd, w_drKn, w_drKs, w_putK, w_trimK, w_thenN, w_thenE, w_thenR, w_scope, w_label, w_blkN, w_blkE, w_blkR, w_call, w_effK, brU_true, brU_false, brU_u, brU_not, brU_and, brU_or, brU_dec, brU_eq, brU_ne, br_true, br_false, br_not, br_and, br_or, br_dec, br_eq, br_ne, w_getE0, w_getE1, w_setE0, w_setE1, w_dropE0, w_dropE1, w_drop0, w_drop1, w_getM0, w_getM1, w_setM0, w_setM1, ev_v, ev_c, w_putS, w_putN, w_lit, w_apU0, w_apU1, w_apU2, w_trim, enumE0, enumE1, w_callWp, w_callA0, w_callA1, w_R0, w_R1, w_R2, w_T2, w_callL, w_callT, w_T1, w_T0, o_mv, o_newnil, o_pick, o_bin, o_binN, o_neg, o_not, o_eqB, o_eqS, o_conv, o_alloc, o_box, o_load1, o_loadN, o_store, o_nilck, o_faddr, o_field1, o_fieldN, o_iaddr, o_istr, o_slStr, o_slSl, o_lenS, o_lenL, o_mx, o_mn, o_ext, o_build, o_lit, o_litOwn, o_app, o_mk, o_mvfrz, l_int, l_bool, l_str, l_agg, l_sl, l_own, l_ptr, l_pp, i_int, i_bool, i_str, i_sl, i_own, i_ptr, i_pp, all0, all1, e_ok1, eff, effBin, effBinN, ld_ptr, ld_pp, ld_elt, ia_own, ia_arr, el_1, el_N, load1K, faddrE, r_iaddr, sg_S, sg_c, sg_n, purL, pur, List.map, List.drop, List.take, List.length, List.foldl, List.append_eq, List.nil_append, List.cons_append, List.getD_cons_zero, List.getD_cons_succ, reduceIte, Nat.reduceEqDiff, Nat.reduceAdd, Nat.reduceLeDiff, true_and, and_true, Bool.not_true, Bool.not_false, Bool.and_true, Bool.true_and, Bool.and_self, reduceCtorEq, true_implies, false_implies, implies_true, decide_eq_true_eq, Option.map_some, fpOf, fpX, SOp.xs, oX, refs, refsL, dom, disj, List.all_nil, List.all_cons, List.contains_cons, List.contains_nil, Nat.reduceBEq, Bool.or_false, Bool.false_or, List.append_nil, Bool.not_false, Bool.not_true, List.forall_mem_cons, fm0, List.set, Nat.reduceLT, ne_eq, not_false_eq_true, not_true_eq_false
, ret1, ret1N, keep0, keep1, rf_int, rf_bool, rf_str, rf_sl, rf_agg, rf_tup, rfL0, rfL1, re_t, re_cN, re_L0, re_L1, ret_tup, ret_one, decide_true, AV.bool.injEq, AV.int.injEq, Nat.reduceLeDiff, Bool.true_eq, Bool.false_eq, decide_eq_true_eq, decide_eq_false_iff_not]
  unfold szOf
  exact ⟨by omega, fun h => by rw [if_pos (by omega)], fun h => by rw [if_neg (by omega)]⟩
def t_szBoxS : List AV → Option (Prop × AV)
  | [.sl t sz xs, .int .i64 a] => some ((0 ≤ a ∧ a ≤ 1048576) ∧ xs.length ≤ 9223372036854775807, .int .i64 (szOf a xs.length))
  | _ => none
theorem h_szBoxS : ∀ args p v, t_szBoxS args = some (p, v) → p → Contract P 21 args [] v [] ∧ noref v = true ∧ No99 v := by
  intro args p v h1 h2
  unfold t_szBoxS at h1
  split at h1
  · cases h1; exact ⟨c_szBoxS _ _ _ _ h2, rfl, trivial⟩
  · cases h1
theorem c_szIntS (t sz : Nat) (xs : List (List AV)) (a : Int) (hp : (0 ≤ a ∧ a ≤ 1048576) ∧ xs.length ≤ 9223372036854775807) : Contract P 22 [.sl t sz xs, .int .i64 a] [] (.int .i64 (szOf a xs.length)) [] := by
  refine fn_sound (Env.nil P) hm k_laws_szIntS (Nat.le_of_ble_eq_true rfl) rfl ?_
  unfold s_laws_szIntS
  simp only [w_skip, w_rg, w_rgd, w_seq, w_cond, w_block, w_loop, w_exit, w_ret, w_gh, w_rg0, w_rg1, w_rgT, w_rgF, w_run, w_psd, w_und, w_dr0, w_dr1, w_drT, w_drF, w_drRun, w_drPsd, w_drUnd, w_drKn, w_drKs, w_putK, w_trimK, w_thenN, w_thenE, w_thenR, w_scope, w_label, w_blkN, w_blkE, w_blkR, w_call, w_effK, brU_true, brU_false, brU_u, brU_not, brU_and, brU_or, brU_dec, brU_eq, brU_ne, br_true, br_false, br_not, br_and, br_or, br_dec, br_eq, br_ne, w_getE0, w_getE1, w_setE0, w_setE1, w_dropE0, w_dropE1, w_drop0, w_drop1, w_getM0, w_getM1, w_setM0, w_setM1, ev_v, ev_c, w_putS, w_putN, w_lit, w_apU0, w_apU1, w_apU2, w_trim, enumE0, enumE1, w_callWp, w_callA0, w_callA1, w_R0, w_R1, w_R2, w_T2, w_callL, w_callT, w_T1, w_T0, o_mv, o_newnil, o_pick, o_bin, o_binN, o_neg, o_not, o_eqB, o_eqS, o_conv, o_alloc, o_box, o_load1, o_loadN, o_store, o_nilck, o_faddr, o_field1, o_fieldN, o_iaddr, o_istr, o_slStr, o_slSl, o_lenS, o_lenL, o_mx, o_mn, o_ext, o_build, o_lit, o_litOwn, o_app, o_mk, o_mvfrz, l_int, l_bool, l_str, l_agg, l_sl, l_own, l_ptr, l_pp, i_int, i_bool, i_str, i_sl, i_own, i_ptr, i_pp, all0, all1, e_ok1, eff, effBin, effBinN, ld_ptr, ld_pp, ld_elt, ia_own, ia_arr, el_1, el_N, load1K, faddrE, r_iaddr, sg_S, sg_c, sg_n, purL, pur, List.map, List.drop, List.take, List.length, List.foldl, List.append_eq, List.nil_append, List.cons_append, List.getD_cons_zero, List.getD_cons_succ, reduceIte, Nat.reduceEqDiff, Nat.reduceAdd, Nat.reduceLeDiff, true_and, and_true, Bool.not_true, Bool.not_false, Bool.and_true, Bool.true_and, Bool.and_self, reduceCtorEq, true_implies, false_implies, implies_true, decide_eq_true_eq, Option.map_some, fpOf, fpX, SOp.xs, oX, refs, refsL, dom, disj, List.all_nil, List.all_cons, List.contains_cons, List.contains_nil, Nat.reduceBEq, Bool.or_false, Bool.false_or, List.append_nil, Bool.not_false, Bool.not_true, List.forall_mem_cons, fm0, List.set, Nat.reduceLT, ne_eq, not_false_eq_true, not_true_eq_false
, ret1, ret1N, keep0, keep1, rf_int, rf_bool, rf_str, rf_sl, rf_agg, rf_tup, rfL0, rfL1, re_t, re_cN, re_L0, re_L1, ret_tup, ret_one, decide_true, AV.bool.injEq, AV.int.injEq, Nat.reduceLeDiff, Bool.true_eq, Bool.false_eq, decide_eq_true_eq, decide_eq_false_iff_not]
  unfold szOf
  exact ⟨by omega, fun h => by rw [if_pos (by omega)], fun h => by rw [if_neg (by omega)]⟩
def t_szIntS : List AV → Option (Prop × AV)
  | [.sl t sz xs, .int .i64 a] => some ((0 ≤ a ∧ a ≤ 1048576) ∧ xs.length ≤ 9223372036854775807, .int .i64 (szOf a xs.length))
  | _ => none
theorem h_szIntS : ∀ args p v, t_szIntS args = some (p, v) → p → Contract P 22 args [] v [] ∧ noref v = true ∧ No99 v := by
  intro args p v h1 h2
  unfold t_szIntS at h1
  split at h1
  · cases h1; exact ⟨c_szIntS _ _ _ _ h2, rfl, trivial⟩
  · cases h1
theorem c_toBox (x : Int) (y : Int) (l : Int) (h : Int) (i : Int) (o : Int) (hp : True) : Contract P 61 [.agg [.int .i64 x, .int .i64 y, .int .i64 l, .int .i64 h, .int .i64 i, .int .i64 o]] [] (.agg [.int .i64 x, .int .i64 y, .int .i64 l, .int .i64 h, .int .i64 i, .int .i64 o]) [] := by
  refine fn_sound (Env.nil P) hm k_laws_toHandBox (Nat.le_of_ble_eq_true rfl) rfl ?_
  unfold s_laws_toHandBox
  simp only [w_skip, w_rg, w_rgd, w_seq, w_cond, w_block, w_loop, w_exit, w_ret, w_gh, w_rg0, w_rg1, w_rgT, w_rgF, w_run, w_psd, w_und, w_dr0, w_dr1, w_drT, w_drF, w_drRun, w_drPsd, w_drUnd, w_drKn, w_drKs, w_putK, w_trimK, w_thenN, w_thenE, w_thenR, w_scope, w_label, w_blkN, w_blkE, w_blkR, w_call, w_effK, brU_true, brU_false, brU_u, brU_not, brU_and, brU_or, brU_dec, brU_eq, brU_ne, br_true, br_false, br_not, br_and, br_or, br_dec, br_eq, br_ne, w_getE0, w_getE1, w_setE0, w_setE1, w_dropE0, w_dropE1, w_drop0, w_drop1, w_getM0, w_getM1, w_setM0, w_setM1, ev_v, ev_c, w_putS, w_putN, w_lit, w_apU0, w_apU1, w_apU2, w_trim, enumE0, enumE1, w_callWp, w_callA0, w_callA1, w_R0, w_R1, w_R2, w_T2, w_callL, w_callT, w_T1, w_T0, o_mv, o_newnil, o_pick, o_bin, o_binN, o_neg, o_not, o_eqB, o_eqS, o_conv, o_alloc, o_box, o_load1, o_loadN, o_store, o_nilck, o_faddr, o_field1, o_fieldN, o_iaddr, o_istr, o_slStr, o_slSl, o_lenS, o_lenL, o_mx, o_mn, o_ext, o_build, o_lit, o_litOwn, o_app, o_mk, o_mvfrz, l_int, l_bool, l_str, l_agg, l_sl, l_own, l_ptr, l_pp, i_int, i_bool, i_str, i_sl, i_own, i_ptr, i_pp, all0, all1, e_ok1, eff, effBin, effBinN, ld_ptr, ld_pp, ld_elt, ia_own, ia_arr, el_1, el_N, load1K, faddrE, r_iaddr, sg_S, sg_c, sg_n, purL, pur, List.map, List.drop, List.take, List.length, List.foldl, List.append_eq, List.nil_append, List.cons_append, List.getD_cons_zero, List.getD_cons_succ, reduceIte, Nat.reduceEqDiff, Nat.reduceAdd, Nat.reduceLeDiff, true_and, and_true, Bool.not_true, Bool.not_false, Bool.and_true, Bool.true_and, Bool.and_self, reduceCtorEq, true_implies, false_implies, implies_true, decide_eq_true_eq, Option.map_some, fpOf, fpX, SOp.xs, oX, refs, refsL, dom, disj, List.all_nil, List.all_cons, List.contains_cons, List.contains_nil, Nat.reduceBEq, Bool.or_false, Bool.false_or, List.append_nil, Bool.not_false, Bool.not_true, List.forall_mem_cons, fm0, List.set, Nat.reduceLT, ne_eq, not_false_eq_true, not_true_eq_false
, ret1, ret1N, keep0, keep1, rf_int, rf_bool, rf_str, rf_sl, rf_agg, rf_tup, rfL0, rfL1, re_t, re_cN, re_L0, re_L1, ret_tup, ret_one, decide_true, AV.bool.injEq, AV.int.injEq, Nat.reduceLeDiff, Bool.true_eq, Bool.false_eq, decide_eq_true_eq, decide_eq_false_iff_not]

def t_toBox : List AV → Option (Prop × AV)
  | [.agg [.int .i64 x, .int .i64 y, .int .i64 l, .int .i64 h, .int .i64 i, .int .i64 o]] => some (True, .agg [.int .i64 x, .int .i64 y, .int .i64 l, .int .i64 h, .int .i64 i, .int .i64 o])
  | _ => none
theorem h_toBox : ∀ args p v, t_toBox args = some (p, v) → p → Contract P 61 args [] v [] ∧ noref v = true ∧ No99 v := by
  intro args p v h1 h2
  unfold t_toBox at h1
  split at h1
  · cases h1; exact ⟨c_toBox _ _ _ _ _ _ h2, rfl, by simp [No99, No99L]⟩
  · cases h1
theorem c_eqBox (x : Int) (y : Int) (l : Int) (h : Int) (i : Int) (o : Int) (ox : Int) (oy : Int) (ol : Int) (oh : Int) (oi : Int) (oo : Int) : Contract P 70 [.agg [.int .i64 x, .int .i64 y, .int .i64 l, .int .i64 h, .int .i64 i, .int .i64 o], .agg [.int .i64 ox, .int .i64 oy, .int .i64 ol, .int .i64 oh, .int .i64 oi, .int .i64 oo]] [] (.bool (decide ((⟨x, y, l, h, i, o⟩ : Box6) = ⟨ox, oy, ol, oh, oi, oo⟩))) [] := by
  refine fn_sound (Env.nil P) hm k_laws_eqHandBox (Nat.le_of_ble_eq_true rfl) rfl ?_
  unfold s_laws_eqHandBox
  simp only [w_skip, w_rg, w_rgd, w_seq, w_cond, w_block, w_loop, w_exit, w_ret, w_gh, w_rg0, w_rg1, w_rgT, w_rgF, w_run, w_psd, w_und, w_dr0, w_dr1, w_drT, w_drF, w_drRun, w_drPsd, w_drUnd, w_drKn, w_drKs, w_putK, w_trimK, w_thenN, w_thenE, w_thenR, w_scope, w_label, w_blkN, w_blkE, w_blkR, w_call, w_effK, brU_true, brU_false, brU_u, brU_not, brU_and, brU_or, brU_dec, brU_eq, brU_ne, br_true, br_false, br_not, br_and, br_or, br_dec, br_eq, br_ne, w_getE0, w_getE1, w_setE0, w_setE1, w_dropE0, w_dropE1, w_drop0, w_drop1, w_getM0, w_getM1, w_setM0, w_setM1, ev_v, ev_c, w_putS, w_putN, w_lit, w_apU0, w_apU1, w_apU2, w_trim, enumE0, enumE1, w_callWp, w_callA0, w_callA1, w_R0, w_R1, w_R2, w_T2, w_callL, w_callT, w_T1, w_T0, o_mv, o_newnil, o_pick, o_bin, o_binN, o_neg, o_not, o_eqB, o_eqS, o_conv, o_alloc, o_box, o_load1, o_loadN, o_store, o_nilck, o_faddr, o_field1, o_fieldN, o_iaddr, o_istr, o_slStr, o_slSl, o_lenS, o_lenL, o_mx, o_mn, o_ext, o_build, o_lit, o_litOwn, o_app, o_mk, o_mvfrz, l_int, l_bool, l_str, l_agg, l_sl, l_own, l_ptr, l_pp, i_int, i_bool, i_str, i_sl, i_own, i_ptr, i_pp, all0, all1, e_ok1, eff, effBin, effBinN, ld_ptr, ld_pp, ld_elt, ia_own, ia_arr, el_1, el_N, load1K, faddrE, r_iaddr, sg_S, sg_c, sg_n, purL, pur, List.map, List.drop, List.take, List.length, List.foldl, List.append_eq, List.nil_append, List.cons_append, List.getD_cons_zero, List.getD_cons_succ, reduceIte, Nat.reduceEqDiff, Nat.reduceAdd, Nat.reduceLeDiff, true_and, and_true, Bool.not_true, Bool.not_false, Bool.and_true, Bool.true_and, Bool.and_self, reduceCtorEq, true_implies, false_implies, implies_true, decide_eq_true_eq, Option.map_some, fpOf, fpX, SOp.xs, oX, refs, refsL, dom, disj, List.all_nil, List.all_cons, List.contains_cons, List.contains_nil, Nat.reduceBEq, Bool.or_false, Bool.false_or, List.append_nil, Bool.not_false, Bool.not_true, List.forall_mem_cons, fm0, List.set, Nat.reduceLT, ne_eq, not_false_eq_true, not_true_eq_false
, ret1, ret1N, keep0, keep1, rf_int, rf_bool, rf_str, rf_sl, rf_agg, rf_tup, rfL0, rfL1, re_t, re_cN, re_L0, re_L1, ret_tup, ret_one, decide_true, AV.bool.injEq, AV.int.injEq, Nat.reduceLeDiff, Bool.true_eq, Bool.false_eq, decide_eq_true_eq, decide_eq_false_iff_not]
  simp only [Box6.mk.injEq]
  repeat' (first | apply And.intro | intro _)
  all_goals (first | trivial | (simp_all; done))
def t_eqBox : List AV → Option (Prop × AV)
  | [.agg [.int .i64 x, .int .i64 y, .int .i64 l, .int .i64 h, .int .i64 i, .int .i64 o], .agg [.int .i64 ox, .int .i64 oy, .int .i64 ol, .int .i64 oh, .int .i64 oi, .int .i64 oo]] => some (True, .bool (decide ((⟨x, y, l, h, i, o⟩ : Box6) = ⟨ox, oy, ol, oh, oi, oo⟩)))
  | _ => none
theorem h_eqBox : ∀ args p v, t_eqBox args = some (p, v) → p → Contract P 70 args [] v [] ∧ noref v = true ∧ No99 v := by
  intro args p v h1 h2
  unfold t_eqBox at h1
  split at h1
  · cases h1; exact ⟨c_eqBox _ _ _ _ _ _ _ _ _ _ _ _, rfl, trivial⟩
  · cases h1
def F_eqBoxS (t t' : Nat) (a b : List Box6) (i : Nat) : St := ⟨[(0, .sl t 6 (a.map Box6.row)), (1, .sl t' 6 (b.map Box6.row)), (5, .int .i64 i)], []⟩
theorem c_eqBoxS (t t' : Nat) (a b : List Box6) (ha : a.length ≤ 4611686018427387904) : Contract P 38 [.sl t 6 (a.map Box6.row), .sl t' 6 (b.map Box6.row)] [] (.bool (decide (a = b))) [] := by
  refine fn_sound ((Env.nil P).add 70 t_eqBox h_eqBox) hm k_laws_eqHandBoxS (Nat.le_of_ble_eq_true rfl) rfl ?_
  unfold s_laws_eqHandBoxS
  simp only [w_skip, w_rg, w_rgd, w_seq, w_cond, w_block, w_loop, w_exit, w_ret, w_gh, w_rg0, w_rg1, w_rgT, w_rgF, w_run, w_psd, w_und, w_dr0, w_dr1, w_drT, w_drF, w_drRun, w_drPsd, w_drUnd, w_drKn, w_drKs, w_putK, w_trimK, w_thenN, w_thenE, w_thenR, w_scope, w_label, w_blkN, w_blkE, w_blkR, w_call, w_effK, brU_true, brU_false, brU_u, brU_not, brU_and, brU_or, brU_dec, brU_eq, brU_ne, br_true, br_false, br_not, br_and, br_or, br_dec, br_eq, br_ne, w_getE0, w_getE1, w_setE0, w_setE1, w_dropE0, w_dropE1, w_drop0, w_drop1, w_getM0, w_getM1, w_setM0, w_setM1, ev_v, ev_c, w_putS, w_putN, w_lit, w_apU0, w_apU1, w_apU2, w_trim, enumE0, enumE1, w_callWp, w_callA0, w_callA1, w_R0, w_R1, w_R2, w_T2, w_callL, w_callT, w_T1, w_T0, o_mv, o_newnil, o_pick, o_bin, o_binN, o_neg, o_not, o_eqB, o_eqS, o_conv, o_alloc, o_box, o_load1, o_loadN, o_store, o_nilck, o_faddr, o_field1, o_fieldN, o_iaddr, o_istr, o_slStr, o_slSl, o_lenS, o_lenL, o_mx, o_mn, o_ext, o_build, o_lit, o_litOwn, o_app, o_mk, o_mvfrz, l_int, l_bool, l_str, l_agg, l_sl, l_own, l_ptr, l_pp, i_int, i_bool, i_str, i_sl, i_own, i_ptr, i_pp, all0, all1, e_ok1, eff, effBin, effBinN, ld_ptr, ld_pp, ld_elt, ia_own, ia_arr, el_1, el_N, load1K, faddrE, r_iaddr, sg_S, sg_c, sg_n, purL, pur, List.map, List.drop, List.take, List.length, List.foldl, List.append_eq, List.nil_append, List.cons_append, List.getD_cons_zero, List.getD_cons_succ, reduceIte, Nat.reduceEqDiff, Nat.reduceAdd, Nat.reduceLeDiff, true_and, and_true, Bool.not_true, Bool.not_false, Bool.and_true, Bool.true_and, Bool.and_self, reduceCtorEq, true_implies, false_implies, implies_true, decide_eq_true_eq, Option.map_some, fpOf, fpX, SOp.xs, oX, refs, refsL, dom, disj, List.all_nil, List.all_cons, List.contains_cons, List.contains_nil, Nat.reduceBEq, Bool.or_false, Bool.false_or, List.append_nil, Bool.not_false, Bool.not_true, List.forall_mem_cons, fm0, List.set, Nat.reduceLT, ne_eq, not_false_eq_true, not_true_eq_false
, ret1, ret1N, keep0, keep1, rf_int, rf_bool, rf_str, rf_sl, rf_agg, rf_tup, rfL0, rfL1, re_t, re_cN, re_L0, re_L1, ret_tup, ret_one, decide_true, AV.bool.injEq, AV.int.injEq, Nat.reduceLeDiff, Bool.true_eq, Bool.false_eq, decide_eq_true_eq, decide_eq_false_iff_not, t_eqBox, List.length_map, Box6.row, Int.toNat_natCast, Int.natCast_inj]
  refine ⟨fun h1 h => h1 (by rw [h]), fun h1 => ?_⟩
  refine loop_of (F_eqBoxS t t' a b) (fun i => i ≤ a.length ∧ ∀ j, j < i → a.getD j default = b.getD j default) (fun i => a.length - i) 0 ⟨⟨.inr rfl, .inr rfl, .inr rfl, trivial⟩, trivial, rfl, rfl⟩ ⟨Nat.zero_le _, fun j hj => by omega⟩ ?_
  intro i hi
  unfold l_laws_eqHandBoxS_0 F_eqBoxS
  simp only [w_skip, w_rg, w_rgd, w_seq, w_cond, w_block, w_loop, w_exit, w_ret, w_gh, w_rg0, w_rg1, w_rgT, w_rgF, w_run, w_psd, w_und, w_dr0, w_dr1, w_drT, w_drF, w_drRun, w_drPsd, w_drUnd, w_drKn, w_drKs, w_putK, w_trimK, w_thenN, w_thenE, w_thenR, w_scope, w_label, w_blkN, w_blkE, w_blkR, w_call, w_effK, brU_true, brU_false, brU_u, brU_not, brU_and, brU_or, brU_dec, brU_eq, brU_ne, br_true, br_false, br_not, br_and, br_or, br_dec, br_eq, br_ne, w_getE0, w_getE1, w_setE0, w_setE1, w_dropE0, w_dropE1, w_drop0, w_drop1, w_getM0, w_getM1, w_setM0, w_setM1, ev_v, ev_c, w_putS, w_putN, w_lit, w_apU0, w_apU1, w_apU2, w_trim, enumE0, enumE1, w_callWp, w_callA0, w_callA1, w_R0, w_R1, w_R2, w_T2, w_callL, w_callT, w_T1, w_T0, o_mv, o_newnil, o_pick, o_bin, o_binN, o_neg, o_not, o_eqB, o_eqS, o_conv, o_alloc, o_box, o_load1, o_loadN, o_store, o_nilck, o_faddr, o_field1, o_fieldN, o_iaddr, o_istr, o_slStr, o_slSl, o_lenS, o_lenL, o_mx, o_mn, o_ext, o_build, o_lit, o_litOwn, o_app, o_mk, o_mvfrz, l_int, l_bool, l_str, l_agg, l_sl, l_own, l_ptr, l_pp, i_int, i_bool, i_str, i_sl, i_own, i_ptr, i_pp, all0, all1, e_ok1, eff, effBin, effBinN, ld_ptr, ld_pp, ld_elt, ia_own, ia_arr, el_1, el_N, load1K, faddrE, r_iaddr, sg_S, sg_c, sg_n, purL, pur, List.map, List.drop, List.take, List.length, List.foldl, List.append_eq, List.nil_append, List.cons_append, List.getD_cons_zero, List.getD_cons_succ, reduceIte, Nat.reduceEqDiff, Nat.reduceAdd, Nat.reduceLeDiff, true_and, and_true, Bool.not_true, Bool.not_false, Bool.and_true, Bool.true_and, Bool.and_self, reduceCtorEq, true_implies, false_implies, implies_true, decide_eq_true_eq, Option.map_some, fpOf, fpX, SOp.xs, oX, refs, refsL, dom, disj, List.all_nil, List.all_cons, List.contains_cons, List.contains_nil, Nat.reduceBEq, Bool.or_false, Bool.false_or, List.append_nil, Bool.not_false, Bool.not_true, List.forall_mem_cons, fm0, List.set, Nat.reduceLT, ne_eq, not_false_eq_true, not_true_eq_false
, ret1, ret1N, keep0, keep1, rf_int, rf_bool, rf_str, rf_sl, rf_agg, rf_tup, rfL0, rfL1, re_t, re_cN, re_L0, re_L1, ret_tup, ret_one, decide_true, AV.bool.injEq, AV.int.injEq, Nat.reduceLeDiff, Bool.true_eq, Bool.false_eq, decide_eq_true_eq, decide_eq_false_iff_not, t_eqBox, List.length_map, Box6.row, Int.toNat_natCast, Int.natCast_inj]
  refine ⟨fun h2 => ⟨by omega, by omega, by omega, by omega, fun h3 => ⟨by omega, loopK_of (i + 1) ⟨⟨.inr rfl, .inr rfl, .inr rfl, trivial⟩, trivial, rfl, rfl⟩ ⟨by omega, fun j hj => ?_⟩ (by omega)⟩, fun h3 h => h3 (by rw [h])⟩, fun h2 => ext_of (by omega) fun j hj => hi.2 j (by have := hi.1; omega)⟩
  by_cases e : j = i
  · subst e; exact h3
  · exact hi.2 j (by omega)
theorem set_Box6 {lst : List Box6} {idx : Nat} {vx : Int} {vy : Int} {vl : Int} {vh : Int} {vi : Int} {vo : Int} : (lst.map Box6.row).set idx (setSeg ((lst.map Box6.row).getD idx []) 0 [.int .i64 vx, .int .i64 vy, .int .i64 vl, .int .i64 vh, .int .i64 vi, .int .i64 vo]) = (lst.set idx ⟨vx, vy, vl, vh, vi, vo⟩).map Box6.row :=
  set_rows (α := Box6) (f := Box6.row) (fun s => ⟨vx, vy, vl, vh, vi, vo⟩) fun x => by simp [Box6.row, setSeg]
def to_Box6 (a : List Box6) (i : Nat) : List Box6 := a.take i ++ List.replicate (a.length - i) ⟨0, 0, 0, 0, 0, 0⟩
def F_toBoxS (t : Nat) (a : List Box6) (i : Nat) : St := ⟨[(0, .sl t 6 (a.map Box6.row)), (3, .own 107 0 0 a.length), (4, .int .i64 i)], [(107, .arr 93 0 6 ((to_Box6 a i).map Box6.row))]⟩
theorem c_toBoxS (t : Nat) (a : List Box6) (ha : a.length ≤ 1048576) : Contract P 31 [.sl t 6 (a.map Box6.row)] [] (.sl 0 6 (a.map Box6.row)) [] := by
  refine fn_sound ((Env.nil P).add 61 t_toBox h_toBox) hm k_laws_toHandBoxS (Nat.le_of_ble_eq_true rfl) rfl ?_
  unfold s_laws_toHandBoxS
  simp only [w_skip, w_rg, w_rgd, w_seq, w_cond, w_block, w_loop, w_exit, w_ret, w_gh, w_rg0, w_rg1, w_rgT, w_rgF, w_run, w_psd, w_und, w_dr0, w_dr1, w_drT, w_drF, w_drRun, w_drPsd, w_drUnd, w_drKn, w_drKs, w_putK, w_trimK, w_thenN, w_thenE, w_thenR, w_scope, w_label, w_blkN, w_blkE, w_blkR, w_call, w_effK, brU_true, brU_false, brU_u, brU_not, brU_and, brU_or, brU_dec, brU_eq, brU_ne, br_true, br_false, br_not, br_and, br_or, br_dec, br_eq, br_ne, w_getE0, w_getE1, w_setE0, w_setE1, w_dropE0, w_dropE1, w_drop0, w_drop1, w_getM0, w_getM1, w_setM0, w_setM1, ev_v, ev_c, w_putS, w_putN, w_lit, w_apU0, w_apU1, w_apU2, w_trim, enumE0, enumE1, w_callWp, w_callA0, w_callA1, w_R0, w_R1, w_R2, w_T2, w_callL, w_callT, w_T1, w_T0, o_mv, o_newnil, o_pick, o_bin, o_binN, o_neg, o_not, o_eqB, o_eqS, o_conv, o_alloc, o_box, o_load1, o_loadN, o_store, o_nilck, o_faddr, o_field1, o_fieldN, o_iaddr, o_istr, o_slStr, o_slSl, o_lenS, o_lenL, o_mx, o_mn, o_ext, o_build, o_lit, o_litOwn, o_app, o_mk, o_mvfrz, l_int, l_bool, l_str, l_agg, l_sl, l_own, l_ptr, l_pp, i_int, i_bool, i_str, i_sl, i_own, i_ptr, i_pp, all0, all1, e_ok1, eff, effBin, effBinN, ld_ptr, ld_pp, ld_elt, ia_own, ia_arr, el_1, el_N, load1K, faddrE, r_iaddr, sg_S, sg_c, sg_n, purL, pur, List.map, List.drop, List.take, List.length, List.foldl, List.append_eq, List.nil_append, List.cons_append, List.getD_cons_zero, List.getD_cons_succ, reduceIte, Nat.reduceEqDiff, Nat.reduceAdd, Nat.reduceLeDiff, true_and, and_true, Bool.not_true, Bool.not_false, Bool.and_true, Bool.true_and, Bool.and_self, reduceCtorEq, true_implies, false_implies, implies_true, decide_eq_true_eq, Option.map_some, fpOf, fpX, SOp.xs, oX, refs, refsL, dom, disj, List.all_nil, List.all_cons, List.contains_cons, List.contains_nil, Nat.reduceBEq, Bool.or_false, Bool.false_or, List.append_nil, Bool.not_false, Bool.not_true, List.forall_mem_cons, fm0, List.set, Nat.reduceLT, ne_eq, not_false_eq_true, not_true_eq_false
, ret1, ret1N, keep0, keep1, rf_int, rf_bool, rf_str, rf_sl, rf_agg, rf_tup, rfL0, rfL1, re_t, re_cN, re_L0, re_L1, ret_tup, ret_one, decide_true, AV.bool.injEq, AV.int.injEq, Nat.reduceLeDiff, Bool.true_eq, Bool.false_eq, decide_eq_true_eq, decide_eq_false_iff_not, t_toBox, List.length_map, Box6.row, Int.toNat_natCast, ghost, set_Box6, Nat.zero_add, Nat.sub_zero]
  have m0 : List.replicate a.length [.int .i64 0, .int .i64 0, .int .i64 0, .int .i64 0, .int .i64 0, .int .i64 0] = (to_Box6 a 0).map Box6.row := by simp [to_Box6, Box6.row]
  refine ⟨by omega, loop_of (F_toBoxS t a) (fun i => i ≤ a.length) (fun i => a.length - i) 0 ⟨⟨.inr rfl, .inr rfl, .inr rfl, trivial⟩, ⟨congrArg (fun g => some (AObj.arr 93 0 6 g)) m0, trivial⟩, rfl, rfl⟩ (Nat.zero_le _) ?_⟩
  intro i hi
  unfold l_laws_toHandBoxS_0 F_toBoxS
  simp only [w_skip, w_rg, w_rgd, w_seq, w_cond, w_block, w_loop, w_exit, w_ret, w_gh, w_rg0, w_rg1, w_rgT, w_rgF, w_run, w_psd, w_und, w_dr0, w_dr1, w_drT, w_drF, w_drRun, w_drPsd, w_drUnd, w_drKn, w_drKs, w_putK, w_trimK, w_thenN, w_thenE, w_thenR, w_scope, w_label, w_blkN, w_blkE, w_blkR, w_call, w_effK, brU_true, brU_false, brU_u, brU_not, brU_and, brU_or, brU_dec, brU_eq, brU_ne, br_true, br_false, br_not, br_and, br_or, br_dec, br_eq, br_ne, w_getE0, w_getE1, w_setE0, w_setE1, w_dropE0, w_dropE1, w_drop0, w_drop1, w_getM0, w_getM1, w_setM0, w_setM1, ev_v, ev_c, w_putS, w_putN, w_lit, w_apU0, w_apU1, w_apU2, w_trim, enumE0, enumE1, w_callWp, w_callA0, w_callA1, w_R0, w_R1, w_R2, w_T2, w_callL, w_callT, w_T1, w_T0, o_mv, o_newnil, o_pick, o_bin, o_binN, o_neg, o_not, o_eqB, o_eqS, o_conv, o_alloc, o_box, o_load1, o_loadN, o_store, o_nilck, o_faddr, o_field1, o_fieldN, o_iaddr, o_istr, o_slStr, o_slSl, o_lenS, o_lenL, o_mx, o_mn, o_ext, o_build, o_lit, o_litOwn, o_app, o_mk, o_mvfrz, l_int, l_bool, l_str, l_agg, l_sl, l_own, l_ptr, l_pp, i_int, i_bool, i_str, i_sl, i_own, i_ptr, i_pp, all0, all1, e_ok1, eff, effBin, effBinN, ld_ptr, ld_pp, ld_elt, ia_own, ia_arr, el_1, el_N, load1K, faddrE, r_iaddr, sg_S, sg_c, sg_n, purL, pur, List.map, List.drop, List.take, List.length, List.foldl, List.append_eq, List.nil_append, List.cons_append, List.getD_cons_zero, List.getD_cons_succ, reduceIte, Nat.reduceEqDiff, Nat.reduceAdd, Nat.reduceLeDiff, true_and, and_true, Bool.not_true, Bool.not_false, Bool.and_true, Bool.true_and, Bool.and_self, reduceCtorEq, true_implies, false_implies, implies_true, decide_eq_true_eq, Option.map_some, fpOf, fpX, SOp.xs, oX, refs, refsL, dom, disj, List.all_nil, List.all_cons, List.contains_cons, List.contains_nil, Nat.reduceBEq, Bool.or_false, Bool.false_or, List.append_nil, Bool.not_false, Bool.not_true, List.forall_mem_cons, fm0, List.set, Nat.reduceLT, ne_eq, not_false_eq_true, not_true_eq_false
, ret1, ret1N, keep0, keep1, rf_int, rf_bool, rf_str, rf_sl, rf_agg, rf_tup, rfL0, rfL1, re_t, re_cN, re_L0, re_L1, ret_tup, ret_one, decide_true, AV.bool.injEq, AV.int.injEq, Nat.reduceLeDiff, Bool.true_eq, Bool.false_eq, decide_eq_true_eq, decide_eq_false_iff_not, t_toBox, List.length_map, Box6.row, Int.toNat_natCast, ghost, set_Box6, Nat.zero_add, Nat.sub_zero]
  have st : i < a.length → (to_Box6 a i).set i (a.getD i default) = to_Box6 a (i + 1) := fun h => by
    refine List.ext_getElem (by simp [to_Box6]; omega) fun j h1 h2 => ?_
    by_cases e : j = i
    · subst e
      simp [to_Box6, List.getElem_append, h]
      intro h9; omega
    · simp only [List.getElem_set_ne (Ne.symm e)]
      simp only [to_Box6, List.getElem_append, List.length_take, List.getElem_take, List.getElem_replicate]
      split <;> split <;> first | rfl | omega
  refine ⟨fun h => ⟨by omega, by omega, by omega, rfl, by omega, loopK_of (i + 1) ⟨⟨.inr rfl, .inr rfl, .inr rfl, trivial⟩, ⟨congrArg (fun g => some (AObj.arr 93 0 6 (List.map Box6.row g))) (st (by omega)), trivial⟩, rfl, rfl⟩ (by omega) (by omega)⟩, fun h => ?_⟩
  have e : i = a.length := by omega
  subst e
  simp only [to_Box6, List.take_length, Nat.sub_self, List.replicate_zero, List.append_nil]
  rw [List.take_of_length_le (by simp)]
end Go.Ve

namespace Go.Ve
open Go.Proofs
set_option linter.unusedSimpArgs false
set_option linter.unusedVariables false
set_option maxRecDepth 100000
structure Kind2 where
  q : Int
  s : Int
  deriving Inhabited
def szCraft (a : Int) (n m k : Nat) : Int := if a - n - m - k < 0 then -1 else a - n - m - k
def t_eqIntS : List AV → Option (Prop × AV)
  | [.sl _ 1 xs, .sl _ 1 ys] => some (((xs.map unI).map irow = xs ∧ (ys.map unI).map irow = ys) ∧ (xs.map unI).length ≤ 4611686018427387904, .bool (decide (xs.map unI = ys.map unI)))
  | _ => none
theorem h_eqIntS : ∀ args p v, t_eqIntS args = some (p, v) → p → Contract P 39 args [] v [] ∧ noref v = true ∧ No99 v := by
  intro args p v h1 h2
  unfold t_eqIntS at h1
  split at h1
  · rename_i t xs t' ys
    cases h1
    have := c_eqIntS t t' (xs.map unI) (ys.map unI) h2.2
    simp only [h2.1.1, h2.1.2] at this
    exact ⟨this, rfl, trivial⟩
  · cases h1
def t_toIntS : List AV → Option (Prop × AV)
  | [.sl _ 1 xs] => some ((xs.map unI).map irow = xs ∧ (xs.map unI).length ≤ 1048576, .sl 0 1 ((xs.map unI).map irow))
  | _ => none
theorem no99_i (l : List Int) : No99LL (l.map irow) := by
  induction l with
  | nil => trivial
  | cons x l ih => exact ⟨⟨trivial, trivial⟩, ih⟩
theorem no99_box (l : List Box6) : No99LL (l.map Box6.row) := by
  induction l with
  | nil => trivial
  | cons x l ih => exact ⟨⟨trivial, trivial, trivial, trivial, trivial, trivial, trivial⟩, ih⟩
theorem h_toIntS : ∀ args p v, t_toIntS args = some (p, v) → p → Contract P 32 args [] v [] ∧ noref v = true ∧ No99 v := by
  intro args p v h1 h2
  unfold t_toIntS at h1
  split at h1
  · rename_i t xs
    cases h1
    have := c_toIntS t (xs.map unI) (by have := h2.2; omega)
    rw [h2.1] at this ⊢
    exact ⟨this, rfl, by omega, by rw [← h2.1]; exact no99_i _⟩
  · cases h1
def t_eqBoxS : List AV → Option (Prop × AV)
  | [.sl _ 6 xs, .sl _ 6 ys] => some (((xs.map unBox).map Box6.row = xs ∧ (ys.map unBox).map Box6.row = ys) ∧ (xs.map unBox).length ≤ 4611686018427387904, .bool (decide (xs.map unBox = ys.map unBox)))
  | _ => none
theorem h_eqBoxS : ∀ args p v, t_eqBoxS args = some (p, v) → p → Contract P 38 args [] v [] ∧ noref v = true ∧ No99 v := by
  intro args p v h1 h2
  unfold t_eqBoxS at h1
  split at h1
  · rename_i t xs t' ys
    cases h1
    have := c_eqBoxS t t' (xs.map unBox) (ys.map unBox) h2.2
    simp only [h2.1.1, h2.1.2] at this
    exact ⟨this, rfl, trivial⟩
  · cases h1
def t_toBoxS : List AV → Option (Prop × AV)
  | [.sl _ 6 xs] => some ((xs.map unBox).map Box6.row = xs ∧ (xs.map unBox).length ≤ 1048576, .sl 0 6 ((xs.map unBox).map Box6.row))
  | _ => none
theorem h_toBoxS : ∀ args p v, t_toBoxS args = some (p, v) → p → Contract P 31 args [] v [] ∧ noref v = true ∧ No99 v := by
  intro args p v h1 h2
  unfold t_toBoxS at h1
  split at h1
  · rename_i t xs
    cases h1
    have := c_toBoxS t (xs.map unBox) h2.2
    rw [h2.1] at this ⊢
    exact ⟨this, rfl, by omega, by rw [← h2.1]; exact no99_box _⟩
  · cases h1
theorem Kind2.eq_iff (a b : Kind2) : a = b ↔ a.q = b.q ∧ a.s = b.s := ⟨fun h => by subst h; exact ⟨rfl, rfl⟩, fun h => by
  cases a; cases b; simp only at h; simp only [Kind2.mk.injEq]; exact h⟩
instance : DecidableEq Kind2 := fun a b => decidable_of_iff _ (Kind2.eq_iff a b).symm
theorem c_toKind (q : Int) (s : Int) (hp : True) : Contract P 30 [.agg [.int .i64 q, .int .i64 s]] [] (.agg [.int .i64 q, .int .i64 s]) [] := by
  refine fn_sound (Env.nil P) hm k_laws_toFlyKind (Nat.le_of_ble_eq_true rfl) rfl ?_
  unfold s_laws_toFlyKind
  simp only [w_skip, w_rg, w_rgd, w_seq, w_cond, w_block, w_loop, w_exit, w_ret, w_gh, w_rg0, w_rg1, w_rgT, w_rgF, w_run, w_psd, w_und, w_dr0, w_dr1, w_drT, w_drF, w_drRun, w_drPsd, w_drUnd, w_drKn, w_drKs, w_putK, w_trimK, w_thenN, w_thenE, w_thenR, w_scope, w_label, w_blkN, w_blkE, w_blkR, w_call, w_effK, brU_true, brU_false, brU_u, brU_not, brU_and, brU_or, brU_dec, brU_eq, brU_ne, br_true, br_false, br_not, br_and, br_or, br_dec, br_eq, br_ne, w_getE0, w_getE1, w_setE0, w_setE1, w_dropE0, w_dropE1, w_drop0, w_drop1, w_getM0, w_getM1, w_setM0, w_setM1, ev_v, ev_c, w_putS, w_putN, w_lit, w_apU0, w_apU1, w_apU2, w_trim, enumE0, enumE1, w_callWp, w_callA0, w_callA1, w_R0, w_R1, w_R2, w_T2, w_callL, w_callT, w_T1, w_T0, o_mv, o_newnil, o_pick, o_bin, o_binN, o_neg, o_not, o_eqB, o_eqS, o_conv, o_alloc, o_box, o_load1, o_loadN, o_store, o_nilck, o_faddr, o_field1, o_fieldN, o_iaddr, o_istr, o_slStr, o_slSl, o_lenS, o_lenL, o_mx, o_mn, o_ext, o_build, o_lit, o_litOwn, o_app, o_mk, o_mvfrz, l_int, l_bool, l_str, l_agg, l_sl, l_own, l_ptr, l_pp, i_int, i_bool, i_str, i_sl, i_own, i_ptr, i_pp, all0, all1, e_ok1, eff, effBin, effBinN, ld_ptr, ld_pp, ld_elt, ia_own, ia_arr, el_1, el_N, load1K, faddrE, r_iaddr, sg_S, sg_c, sg_n, purL, pur, List.map, List.drop, List.take, List.length, List.foldl, List.append_eq, List.nil_append, List.cons_append, List.getD_cons_zero, List.getD_cons_succ, reduceIte, Nat.reduceEqDiff, Nat.reduceAdd, Nat.reduceLeDiff, true_and, and_true, Bool.not_true, Bool.not_false, Bool.and_true, Bool.true_and, Bool.and_self, reduceCtorEq, true_implies, false_implies, implies_true, decide_eq_true_eq, Option.map_some, fpOf, fpX, SOp.xs, oX, refs, refsL, dom, disj, List.all_nil, List.all_cons, List.contains_cons, List.contains_nil, Nat.reduceBEq, Bool.or_false, Bool.false_or, List.append_nil, Bool.not_false, Bool.not_true, List.forall_mem_cons, fm0, List.set, Nat.reduceLT, ne_eq, not_false_eq_true, not_true_eq_false
, ret1, ret1N, keep0, keep1, rf_int, rf_bool, rf_str, rf_sl, rf_agg, rf_tup, rfL0, rfL1, re_t, re_cN, re_L0, re_L1, ret_tup, ret_one, decide_true, AV.bool.injEq, AV.int.injEq, Nat.reduceLeDiff, Bool.true_eq, Bool.false_eq, decide_eq_true_eq, decide_eq_false_iff_not]

def t_toKind : List AV → Option (Prop × AV)
  | [.agg [.int .i64 q, .int .i64 s]] => some (True, .agg [.int .i64 q, .int .i64 s])
  | _ => none
theorem h_toKind : ∀ args p v, t_toKind args = some (p, v) → p → Contract P 30 args [] v [] ∧ noref v = true ∧ No99 v := by
  intro args p v h1 h2
  unfold t_toKind at h1
  split at h1
  · cases h1; exact ⟨c_toKind _ _ h2, rfl, by simp [No99, No99L]⟩
  · cases h1
theorem c_eqKind (q : Int) (s : Int) (oq : Int) (os : Int) : Contract P 37 [.agg [.int .i64 q, .int .i64 s], .agg [.int .i64 oq, .int .i64 os]] [] (.bool (decide ((⟨q, s⟩ : Kind2) = ⟨oq, os⟩))) [] := by
  refine fn_sound (Env.nil P) hm k_laws_eqFlyKind (Nat.le_of_ble_eq_true rfl) rfl ?_
  unfold s_laws_eqFlyKind
  simp only [w_skip, w_rg, w_rgd, w_seq, w_cond, w_block, w_loop, w_exit, w_ret, w_gh, w_rg0, w_rg1, w_rgT, w_rgF, w_run, w_psd, w_und, w_dr0, w_dr1, w_drT, w_drF, w_drRun, w_drPsd, w_drUnd, w_drKn, w_drKs, w_putK, w_trimK, w_thenN, w_thenE, w_thenR, w_scope, w_label, w_blkN, w_blkE, w_blkR, w_call, w_effK, brU_true, brU_false, brU_u, brU_not, brU_and, brU_or, brU_dec, brU_eq, brU_ne, br_true, br_false, br_not, br_and, br_or, br_dec, br_eq, br_ne, w_getE0, w_getE1, w_setE0, w_setE1, w_dropE0, w_dropE1, w_drop0, w_drop1, w_getM0, w_getM1, w_setM0, w_setM1, ev_v, ev_c, w_putS, w_putN, w_lit, w_apU0, w_apU1, w_apU2, w_trim, enumE0, enumE1, w_callWp, w_callA0, w_callA1, w_R0, w_R1, w_R2, w_T2, w_callL, w_callT, w_T1, w_T0, o_mv, o_newnil, o_pick, o_bin, o_binN, o_neg, o_not, o_eqB, o_eqS, o_conv, o_alloc, o_box, o_load1, o_loadN, o_store, o_nilck, o_faddr, o_field1, o_fieldN, o_iaddr, o_istr, o_slStr, o_slSl, o_lenS, o_lenL, o_mx, o_mn, o_ext, o_build, o_lit, o_litOwn, o_app, o_mk, o_mvfrz, l_int, l_bool, l_str, l_agg, l_sl, l_own, l_ptr, l_pp, i_int, i_bool, i_str, i_sl, i_own, i_ptr, i_pp, all0, all1, e_ok1, eff, effBin, effBinN, ld_ptr, ld_pp, ld_elt, ia_own, ia_arr, el_1, el_N, load1K, faddrE, r_iaddr, sg_S, sg_c, sg_n, purL, pur, List.map, List.drop, List.take, List.length, List.foldl, List.append_eq, List.nil_append, List.cons_append, List.getD_cons_zero, List.getD_cons_succ, reduceIte, Nat.reduceEqDiff, Nat.reduceAdd, Nat.reduceLeDiff, true_and, and_true, Bool.not_true, Bool.not_false, Bool.and_true, Bool.true_and, Bool.and_self, reduceCtorEq, true_implies, false_implies, implies_true, decide_eq_true_eq, Option.map_some, fpOf, fpX, SOp.xs, oX, refs, refsL, dom, disj, List.all_nil, List.all_cons, List.contains_cons, List.contains_nil, Nat.reduceBEq, Bool.or_false, Bool.false_or, List.append_nil, Bool.not_false, Bool.not_true, List.forall_mem_cons, fm0, List.set, Nat.reduceLT, ne_eq, not_false_eq_true, not_true_eq_false
, ret1, ret1N, keep0, keep1, rf_int, rf_bool, rf_str, rf_sl, rf_agg, rf_tup, rfL0, rfL1, re_t, re_cN, re_L0, re_L1, ret_tup, ret_one, decide_true, AV.bool.injEq, AV.int.injEq, Nat.reduceLeDiff, Bool.true_eq, Bool.false_eq, decide_eq_true_eq, decide_eq_false_iff_not]
  simp only [Kind2.mk.injEq]
  repeat' (first | apply And.intro | intro _)
  all_goals (first | trivial | (simp_all; done))
def t_eqKind : List AV → Option (Prop × AV)
  | [.agg [.int .i64 q, .int .i64 s], .agg [.int .i64 oq, .int .i64 os]] => some (True, .bool (decide ((⟨q, s⟩ : Kind2) = ⟨oq, os⟩)))
  | _ => none
theorem h_eqKind : ∀ args p v, t_eqKind args = some (p, v) → p → Contract P 37 args [] v [] ∧ noref v = true ∧ No99 v := by
  intro args p v h1 h2
  unfold t_eqKind at h1
  split at h1
  · cases h1; exact ⟨c_eqKind _ _ _ _, rfl, trivial⟩
  · cases h1
theorem c_szCraft (nm : ByteArray) (q s nr no : Int) (t t' : Nat) (tu : List Box6) (fl : List Int) (a : Int) (ha : 0 ≤ a ∧ a ≤ 1048576) (hn : nm.toList.length ≤ 9223372036854775807) (hu : tu.length ≤ 9223372036854775807) (hk : fl.length ≤ 9223372036854775807) : Contract P 5 [.agg [.str nm, .int .i64 q, .int .i64 s, .int .i64 nr, .int .i64 no, .sl t 6 (tu.map Box6.row), .sl t' 1 (fl.map irow)], .int .i64 a] [] (.int .i64 (szCraft a nm.toList.length tu.length fl.length)) [] := by
  refine fn_sound (((Env.nil P).add 21 t_szBoxS h_szBoxS).add 22 t_szIntS h_szIntS) hm k_laws_szLapCraft (Nat.le_of_ble_eq_true rfl) rfl ?_
  unfold s_laws_szLapCraft
  simp only [w_skip, w_rg, w_rgd, w_seq, w_cond, w_block, w_loop, w_exit, w_ret, w_gh, w_rg0, w_rg1, w_rgT, w_rgF, w_run, w_psd, w_und, w_dr0, w_dr1, w_drT, w_drF, w_drRun, w_drPsd, w_drUnd, w_drKn, w_drKs, w_putK, w_trimK, w_thenN, w_thenE, w_thenR, w_scope, w_label, w_blkN, w_blkE, w_blkR, w_call, w_effK, brU_true, brU_false, brU_u, brU_not, brU_and, brU_or, brU_dec, brU_eq, brU_ne, br_true, br_false, br_not, br_and, br_or, br_dec, br_eq, br_ne, w_getE0, w_getE1, w_setE0, w_setE1, w_dropE0, w_dropE1, w_drop0, w_drop1, w_getM0, w_getM1, w_setM0, w_setM1, ev_v, ev_c, w_putS, w_putN, w_lit, w_apU0, w_apU1, w_apU2, w_trim, enumE0, enumE1, w_callWp, w_callA0, w_callA1, w_R0, w_R1, w_R2, w_T2, w_callL, w_callT, w_T1, w_T0, o_mv, o_newnil, o_pick, o_bin, o_binN, o_neg, o_not, o_eqB, o_eqS, o_conv, o_alloc, o_box, o_load1, o_loadN, o_store, o_nilck, o_faddr, o_field1, o_fieldN, o_iaddr, o_istr, o_slStr, o_slSl, o_lenS, o_lenL, o_mx, o_mn, o_ext, o_build, o_lit, o_litOwn, o_app, o_mk, o_mvfrz, l_int, l_bool, l_str, l_agg, l_sl, l_own, l_ptr, l_pp, i_int, i_bool, i_str, i_sl, i_own, i_ptr, i_pp, all0, all1, e_ok1, eff, effBin, effBinN, ld_ptr, ld_pp, ld_elt, ia_own, ia_arr, el_1, el_N, load1K, faddrE, r_iaddr, sg_S, sg_c, sg_n, purL, pur, List.map, List.drop, List.take, List.length, List.foldl, List.append_eq, List.nil_append, List.cons_append, List.getD_cons_zero, List.getD_cons_succ, reduceIte, Nat.reduceEqDiff, Nat.reduceAdd, Nat.reduceLeDiff, true_and, and_true, Bool.not_true, Bool.not_false, Bool.and_true, Bool.true_and, Bool.and_self, reduceCtorEq, true_implies, false_implies, implies_true, decide_eq_true_eq, Option.map_some, fpOf, fpX, SOp.xs, oX, refs, refsL, dom, disj, List.all_nil, List.all_cons, List.contains_cons, List.contains_nil, Nat.reduceBEq, Bool.or_false, Bool.false_or, List.append_nil, Bool.not_false, Bool.not_true, List.forall_mem_cons, fm0, List.set, Nat.reduceLT, ne_eq, not_false_eq_true, not_true_eq_false
, ret1, ret1N, keep0, keep1, rf_int, rf_bool, rf_str, rf_sl, rf_agg, rf_tup, rfL0, rfL1, re_t, re_cN, re_L0, re_L1, ret_tup, ret_one, decide_true, AV.bool.injEq, AV.int.injEq, Nat.reduceLeDiff, Bool.true_eq, Bool.false_eq, decide_eq_true_eq, decide_eq_false_iff_not, t_szBoxS, t_szIntS, beq_self_eq_true, eq_self, un_i, un_box, bne_self_eq_false, List.length_map, un_box, irow, un_i, flatOk, noref, ghost, Nat.zero_add, Nat.sub_zero, Int.toNat_natCast]
  generalize nm.toList.length = n at *
  have sz1 : ∀ (x : Int) (m : Nat), szOf x m < 0 ↔ x - m < 0 := fun x m => by unfold szOf; split <;> omega
  have sz2 : ∀ (x : Int) (m : Nat), ¬ x - m < 0 → szOf x m = x - m := fun x m h => by unfold szOf; rw [if_neg h]
  refine ⟨by omega, fun h => by rw [szCraft, if_pos (by omega)], fun h => ⟨by omega, fun h2 => ?_, fun h2 => ?_⟩⟩
  · rw [szCraft, if_pos (by have := (sz1 _ _).1 h2; omega)]
  · have h3 : ¬ a - n - tu.length < 0 := fun h => h2 ((sz1 _ _).2 h)
    simp only [sz2 _ _ h3]
    refine ⟨by omega, fun h4 => ?_, fun h4 => ?_⟩
    · rw [szCraft, if_pos (by have := (sz1 _ _).1 h4; omega)]
    · have h5 : ¬ a - n - tu.length - fl.length < 0 := fun h => h4 ((sz1 _ _).2 h)
      rw [szCraft, if_neg h5, sz2 _ _ h5]
theorem c_toCraft (nm : ByteArray) (q s nr no : Int) (t t' : Nat) (tu : List Box6) (fl : List Int) (hu : tu.length ≤ 1048576) (hk : fl.length ≤ 1048576) : Contract P 9 [.agg [.str nm, .int .i64 q, .int .i64 s, .int .i64 nr, .int .i64 no, .sl t 6 (tu.map Box6.row), .sl t' 1 (fl.map irow)]] [] (.agg [.str nm, .int .i64 q, .int .i64 s, .int .i64 nr, .int .i64 no, .sl 0 6 (tu.map Box6.row), .sl 0 1 (fl.map irow)]) [] := by
  refine fn_sound ((((Env.nil P).add 30 t_toKind h_toKind).add 31 t_toBoxS h_toBoxS).add 32 t_toIntS h_toIntS) hm k_laws_toLapCraft (Nat.le_of_ble_eq_true rfl) rfl ?_
  unfold s_laws_toLapCraft
  simp only [w_skip, w_rg, w_rgd, w_seq, w_cond, w_block, w_loop, w_exit, w_ret, w_gh, w_rg0, w_rg1, w_rgT, w_rgF, w_run, w_psd, w_und, w_dr0, w_dr1, w_drT, w_drF, w_drRun, w_drPsd, w_drUnd, w_drKn, w_drKs, w_putK, w_trimK, w_thenN, w_thenE, w_thenR, w_scope, w_label, w_blkN, w_blkE, w_blkR, w_call, w_effK, brU_true, brU_false, brU_u, brU_not, brU_and, brU_or, brU_dec, brU_eq, brU_ne, br_true, br_false, br_not, br_and, br_or, br_dec, br_eq, br_ne, w_getE0, w_getE1, w_setE0, w_setE1, w_dropE0, w_dropE1, w_drop0, w_drop1, w_getM0, w_getM1, w_setM0, w_setM1, ev_v, ev_c, w_putS, w_putN, w_lit, w_apU0, w_apU1, w_apU2, w_trim, enumE0, enumE1, w_callWp, w_callA0, w_callA1, w_R0, w_R1, w_R2, w_T2, w_callL, w_callT, w_T1, w_T0, o_mv, o_newnil, o_pick, o_bin, o_binN, o_neg, o_not, o_eqB, o_eqS, o_conv, o_alloc, o_box, o_load1, o_loadN, o_store, o_nilck, o_faddr, o_field1, o_fieldN, o_iaddr, o_istr, o_slStr, o_slSl, o_lenS, o_lenL, o_mx, o_mn, o_ext, o_build, o_lit, o_litOwn, o_app, o_mk, o_mvfrz, l_int, l_bool, l_str, l_agg, l_sl, l_own, l_ptr, l_pp, i_int, i_bool, i_str, i_sl, i_own, i_ptr, i_pp, all0, all1, e_ok1, eff, effBin, effBinN, ld_ptr, ld_pp, ld_elt, ia_own, ia_arr, el_1, el_N, load1K, faddrE, r_iaddr, sg_S, sg_c, sg_n, purL, pur, List.map, List.drop, List.take, List.length, List.foldl, List.append_eq, List.nil_append, List.cons_append, List.getD_cons_zero, List.getD_cons_succ, reduceIte, Nat.reduceEqDiff, Nat.reduceAdd, Nat.reduceLeDiff, true_and, and_true, Bool.not_true, Bool.not_false, Bool.and_true, Bool.true_and, Bool.and_self, reduceCtorEq, true_implies, false_implies, implies_true, decide_eq_true_eq, Option.map_some, fpOf, fpX, SOp.xs, oX, refs, refsL, dom, disj, List.all_nil, List.all_cons, List.contains_cons, List.contains_nil, Nat.reduceBEq, Bool.or_false, Bool.false_or, List.append_nil, Bool.not_false, Bool.not_true, List.forall_mem_cons, fm0, List.set, Nat.reduceLT, ne_eq, not_false_eq_true, not_true_eq_false
, ret1, ret1N, keep0, keep1, rf_int, rf_bool, rf_str, rf_sl, rf_agg, rf_tup, rfL0, rfL1, re_t, re_cN, re_L0, re_L1, ret_tup, ret_one, decide_true, AV.bool.injEq, AV.int.injEq, Nat.reduceLeDiff, Bool.true_eq, Bool.false_eq, decide_eq_true_eq, decide_eq_false_iff_not, t_toKind, t_toBoxS, t_toIntS, beq_self_eq_true, eq_self, un_i, un_box, bne_self_eq_false, List.length_map, un_box, irow, un_i, flatOk, noref, ghost, Nat.zero_add, Nat.sub_zero, Int.toNat_natCast]
  exact ⟨hu, hk⟩
theorem c_eqCraft1 (nm : ByteArray) (q s nr no : Int) (t t' : Nat) (tu : List Box6) (fl : List Int) (t2 t3 : Nat) (hu : tu.length ≤ 1048576) (hk : fl.length ≤ 1048576) : Contract P 12 [.agg [.str nm, .int .i64 q, .int .i64 s, .int .i64 nr, .int .i64 no, .sl t 6 (tu.map Box6.row), .sl t' 1 (fl.map irow)], .agg [.str nm, .int .i64 q, .int .i64 s, .int .i64 nr, .int .i64 no, .sl t2 6 (tu.map Box6.row), .sl t3 1 (fl.map irow)]] [] (.bool true) [] := by
  refine fn_sound ((((Env.nil P).add 37 t_eqKind h_eqKind).add 38 t_eqBoxS h_eqBoxS).add 39 t_eqIntS h_eqIntS) hm k_laws_eqLapCraft (Nat.le_of_ble_eq_true rfl) rfl ?_
  unfold s_laws_eqLapCraft
  simp only [w_skip, w_rg, w_rgd, w_seq, w_cond, w_block, w_loop, w_exit, w_ret, w_gh, w_rg0, w_rg1, w_rgT, w_rgF, w_run, w_psd, w_und, w_dr0, w_dr1, w_drT, w_drF, w_drRun, w_drPsd, w_drUnd, w_drKn, w_drKs, w_putK, w_trimK, w_thenN, w_thenE, w_thenR, w_scope, w_label, w_blkN, w_blkE, w_blkR, w_call, w_effK, brU_true, brU_false, brU_u, brU_not, brU_and, brU_or, brU_dec, brU_eq, brU_ne, br_true, br_false, br_not, br_and, br_or, br_dec, br_eq, br_ne, w_getE0, w_getE1, w_setE0, w_setE1, w_dropE0, w_dropE1, w_drop0, w_drop1, w_getM0, w_getM1, w_setM0, w_setM1, ev_v, ev_c, w_putS, w_putN, w_lit, w_apU0, w_apU1, w_apU2, w_trim, enumE0, enumE1, w_callWp, w_callA0, w_callA1, w_R0, w_R1, w_R2, w_T2, w_callL, w_callT, w_T1, w_T0, o_mv, o_newnil, o_pick, o_bin, o_binN, o_neg, o_not, o_eqB, o_eqS, o_conv, o_alloc, o_box, o_load1, o_loadN, o_store, o_nilck, o_faddr, o_field1, o_fieldN, o_iaddr, o_istr, o_slStr, o_slSl, o_lenS, o_lenL, o_mx, o_mn, o_ext, o_build, o_lit, o_litOwn, o_app, o_mk, o_mvfrz, l_int, l_bool, l_str, l_agg, l_sl, l_own, l_ptr, l_pp, i_int, i_bool, i_str, i_sl, i_own, i_ptr, i_pp, all0, all1, e_ok1, eff, effBin, effBinN, ld_ptr, ld_pp, ld_elt, ia_own, ia_arr, el_1, el_N, load1K, faddrE, r_iaddr, sg_S, sg_c, sg_n, purL, pur, List.map, List.drop, List.take, List.length, List.foldl, List.append_eq, List.nil_append, List.cons_append, List.getD_cons_zero, List.getD_cons_succ, reduceIte, Nat.reduceEqDiff, Nat.reduceAdd, Nat.reduceLeDiff, true_and, and_true, Bool.not_true, Bool.not_false, Bool.and_true, Bool.true_and, Bool.and_self, reduceCtorEq, true_implies, false_implies, implies_true, decide_eq_true_eq, Option.map_some, fpOf, fpX, SOp.xs, oX, refs, refsL, dom, disj, List.all_nil, List.all_cons, List.contains_cons, List.contains_nil, Nat.reduceBEq, Bool.or_false, Bool.false_or, List.append_nil, Bool.not_false, Bool.not_true, List.forall_mem_cons, fm0, List.set, Nat.reduceLT, ne_eq, not_false_eq_true, not_true_eq_false
, ret1, ret1N, keep0, keep1, rf_int, rf_bool, rf_str, rf_sl, rf_agg, rf_tup, rfL0, rfL1, re_t, re_cN, re_L0, re_L1, ret_tup, ret_one, decide_true, AV.bool.injEq, AV.int.injEq, Nat.reduceLeDiff, Bool.true_eq, Bool.false_eq, decide_eq_true_eq, decide_eq_false_iff_not, t_eqKind, t_eqBoxS, t_eqIntS, beq_self_eq_true, eq_self, un_i, un_box, bne_self_eq_false, List.length_map, un_box, irow, un_i, flatOk, noref, ghost, Nat.zero_add, Nat.sub_zero, Int.toNat_natCast]
  exact ⟨by omega, by omega⟩
def t_szCraft : List AV → Option (Prop × AV)
  | [.agg [.str nm, .int .i64 q, .int .i64 s, .int .i64 nr, .int .i64 no, .sl _ 6 tu, .sl _ 1 fl], .int .i64 a] => some (((tu.map unBox).map Box6.row = tu ∧ (fl.map unI).map irow = fl) ∧ (0 ≤ a ∧ a ≤ 1048576) ∧ nm.toList.length ≤ 9223372036854775807 ∧ (tu.map unBox).length ≤ 9223372036854775807 ∧ (fl.map unI).length ≤ 9223372036854775807, .int .i64 (szCraft a nm.toList.length (tu.map unBox).length (fl.map unI).length))
  | _ => none
theorem h_szCraft : ∀ args p v, t_szCraft args = some (p, v) → p → Contract P 5 args [] v [] ∧ noref v = true ∧ No99 v := by
  intro args p v h1 h2
  unfold t_szCraft at h1
  split at h1
  · rename_i nm q s nr no t tu t' fl a
    cases h1
    have := c_szCraft nm q s nr no t t' (tu.map unBox) (fl.map unI) a h2.2.1 h2.2.2.1 h2.2.2.2.1 h2.2.2.2.2
    simp only [h2.1.1, h2.1.2] at this
    exact ⟨this, rfl, trivial⟩
  · cases h1
end Go.Ve

namespace Go.Ve
noncomputable section
open Go.Proofs
set_option linter.unusedSimpArgs false
set_option linter.unusedVariables false
set_option maxRecDepth 100000
structure Zone where
  nm : ByteArray
  x0 : Int
  y0 : Int
  x1 : Int
  y1 : Int
  deriving Inhabited, DecidableEq
def Zone.row (s : Zone) : List AV := [.str s.nm, .int .i64 s.x0, .int .i64 s.y0, .int .i64 s.x1, .int .i64 s.y1]
def unZone : List AV → Zone
  | [.str vnm, .int .i64 vx0, .int .i64 vy0, .int .i64 vx1, .int .i64 vy1] => (Zone.mk vnm vx0 vy0 vx1 vy1)
  | _ => default
theorem unZone_row (s : Zone) : unZone (Zone.row s) = s := by
  cases s; simp only [Zone.row, unZone]
theorem un_Zone (l : List Zone) : (l.map Zone.row).map unZone = l := by
  rw [List.map_map]; exact List.map_id'' (fun s => unZone_row s) l
theorem Zone_eta (s : Zone) : (Zone.mk s.nm s.x0 s.y0 s.x1 s.y1) = s := (rfl)
theorem Zone_len (s : Zone) : (Zone.row s).length = 5 := (rfl)
theorem Zone_nr (s : Zone) : norefL (Zone.row s) = true := (rfl)
theorem no99_Zone (l : List Zone) : No99LL (l.map Zone.row) := by
  induction l with
  | nil => simp [No99LL]
  | cons x l ih => simp only [List.map_cons, No99LL]; exact ⟨by simp [Zone.row, No99L, No99], ih⟩
theorem Zone_take (s : Zone) : List.take 5 (Zone.row s) = Zone.row s := (rfl)
structure Word where
  kd : Int
  fr : ByteArray
  dst : ByteArray
  fl : ByteArray
  nr : Int
  la : Int
  tn : Int
  tu : List Box6
  deriving Inhabited, DecidableEq
def Word.row (t : Nat) (s : Word) : List AV := [.int .i64 s.kd, .str s.fr, .str s.dst, .str s.fl, .int .i64 s.nr, .int .i64 s.la, .int .i64 s.tn, .sl t 6 (s.tu.map Box6.row)]
def unWord : List AV → Word
  | [.int .i64 vkd, .str vfr, .str vdst, .str vfl, .int .i64 vnr, .int .i64 vla, .int .i64 vtn, .sl _ 6 vtu] => (Word.mk vkd vfr vdst vfl vnr vla vtn (vtu.map unBox))
  | _ => default
theorem unWord_row (t : Nat) (s : Word) : unWord (Word.row t s) = s := by
  cases s; simp only [Word.row, unWord, un_box]
theorem un_Word (t : Nat) (l : List Word) : (l.map (Word.row t)).map unWord = l := by
  rw [List.map_map]; exact List.map_id'' (fun s => unWord_row t s) l
theorem Word_eta (s : Word) : (Word.mk s.kd s.fr s.dst s.fl s.nr s.la s.tn s.tu) = s := (rfl)
theorem no99_Word (l : List Word) : No99LL (l.map (Word.row 0)) := by
  induction l with
  | nil => simp [No99LL]
  | cons x l ih => simp only [List.map_cons, No99LL]; exact ⟨by simp [Word.row, No99L, No99, no99_box], ih⟩
structure Own where
  fl : ByteArray
  st : Int
  tn : Int
  dst : ByteArray
  la : Int
  nr : Int
  tu : List Box6
  wi : Int
  nx : List Box6
  gr : List ByteArray
  sent : Bool
  deriving Inhabited, DecidableEq
def Own.row (t : Nat) (s : Own) : List AV := [.str s.fl, .int .i64 s.st, .int .i64 s.tn, .str s.dst, .int .i64 s.la, .int .i64 s.nr, .sl t 6 (s.tu.map Box6.row), .int .i64 s.wi, .sl t 6 (s.nx.map Box6.row), .sl t 1 (s.gr.map srow), .bool s.sent]
def unOwn : List AV → Own
  | [.str vfl, .int .i64 vst, .int .i64 vtn, .str vdst, .int .i64 vla, .int .i64 vnr, .sl _ 6 vtu, .int .i64 vwi, .sl _ 6 vnx, .sl _ 1 vgr, .bool vsent] => (Own.mk vfl vst vtn vdst vla vnr (vtu.map unBox) vwi (vnx.map unBox) (vgr.map unS) vsent)
  | _ => default
theorem unOwn_row (t : Nat) (s : Own) : unOwn (Own.row t s) = s := by
  cases s; simp only [Own.row, unOwn, un_box, un_box, un_s]
theorem un_Own (t : Nat) (l : List Own) : (l.map (Own.row t)).map unOwn = l := by
  rw [List.map_map]; exact List.map_id'' (fun s => unOwn_row t s) l
theorem Own_eta (s : Own) : (Own.mk s.fl s.st s.tn s.dst s.la s.nr s.tu s.wi s.nx s.gr s.sent) = s := (rfl)
theorem no99_Own (l : List Own) : No99LL (l.map (Own.row 0)) := by
  induction l with
  | nil => simp [No99LL]
  | cons x l ih => simp only [List.map_cons, No99LL]; exact ⟨by simp [Own.row, No99L, No99, no99_box, no99_box, no99_str], ih⟩
structure Part where
  fl : ByteArray
  nr : Int
  bx : List Box6
  deriving Inhabited, DecidableEq
def Part.row (t : Nat) (s : Part) : List AV := [.str s.fl, .int .i64 s.nr, .sl t 6 (s.bx.map Box6.row)]
def unPart : List AV → Part
  | [.str vfl, .int .i64 vnr, .sl _ 6 vbx] => (Part.mk vfl vnr (vbx.map unBox))
  | _ => default
theorem unPart_row (t : Nat) (s : Part) : unPart (Part.row t s) = s := by
  cases s; simp only [Part.row, unPart, un_box]
theorem un_Part (t : Nat) (l : List Part) : (l.map (Part.row t)).map unPart = l := by
  rw [List.map_map]; exact List.map_id'' (fun s => unPart_row t s) l
theorem Part_eta (s : Part) : (Part.mk s.fl s.nr s.bx) = s := (rfl)
theorem no99_Part (l : List Part) : No99LL (l.map (Part.row 0)) := by
  induction l with
  | nil => simp [No99LL]
  | cons x l ih => simp only [List.map_cons, No99LL]; exact ⟨by simp [Part.row, No99L, No99, no99_box], ih⟩
structure Seen where
  fl : ByteArray
  nr : Int
  deriving Inhabited, DecidableEq
def Seen.row (s : Seen) : List AV := [.str s.fl, .int .i64 s.nr]
def unSeen : List AV → Seen
  | [.str vfl, .int .i64 vnr] => (Seen.mk vfl vnr)
  | _ => default
theorem unSeen_row (s : Seen) : unSeen (Seen.row s) = s := by
  cases s; simp only [Seen.row, unSeen]
theorem un_Seen (l : List Seen) : (l.map Seen.row).map unSeen = l := by
  rw [List.map_map]; exact List.map_id'' (fun s => unSeen_row s) l
theorem Seen_eta (s : Seen) : (Seen.mk s.fl s.nr) = s := (rfl)
theorem no99_Seen (l : List Seen) : No99LL (l.map Seen.row) := by
  induction l with
  | nil => simp [No99LL]
  | cons x l ih => simp only [List.map_cons, No99LL]; exact ⟨by simp [Seen.row, No99L, No99], ih⟩
structure Book where
  own : List Own
  parts : List Part
  seen : List Seen
  deriving Inhabited, DecidableEq
def Book.row (t : Nat) (s : Book) : List AV := [.sl t 11 (s.own.map (Own.row t)), .sl t 3 (s.parts.map (Part.row t)), .sl t 2 (s.seen.map Seen.row)]
def unBook : List AV → Book
  | [.sl _ 11 vown, .sl _ 3 vparts, .sl _ 2 vseen] => (Book.mk (vown.map unOwn) (vparts.map unPart) (vseen.map unSeen))
  | _ => default
theorem unBook_row (t : Nat) (s : Book) : unBook (Book.row t s) = s := by
  cases s; simp only [Book.row, unBook, un_Own, un_Part, un_Seen]
theorem un_Book (t : Nat) (l : List Book) : (l.map (Book.row t)).map unBook = l := by
  rw [List.map_map]; exact List.map_id'' (fun s => unBook_row t s) l
theorem Book_eta (s : Book) : (Book.mk s.own s.parts s.seen) = s := (rfl)
theorem no99_Book (l : List Book) : No99LL (l.map (Book.row 0)) := by
  induction l with
  | nil => simp [No99LL]
  | cons x l ih => simp only [List.map_cons, No99LL]; exact ⟨by simp [Book.row, No99L, No99, no99_Own, no99_Part, no99_Seen], ih⟩
structure Sector where
  up : Bool
  mo : List Own
  mp : List Part
  ms : List Seen
  dn : List Own
  dp : List Part
  ds : List Seen
  ot : List Word
  deriving Inhabited, DecidableEq
def Sector.row (t : Nat) (s : Sector) : List AV := [.bool s.up, .sl t 11 (s.mo.map (Own.row t)), .sl t 3 (s.mp.map (Part.row t)), .sl t 2 (s.ms.map Seen.row), .sl t 11 (s.dn.map (Own.row t)), .sl t 3 (s.dp.map (Part.row t)), .sl t 2 (s.ds.map Seen.row), .sl t 8 (s.ot.map (Word.row t))]
def unSector : List AV → Sector
  | [.bool vup, .sl _ 11 vmo, .sl _ 3 vmp, .sl _ 2 vms, .sl _ 11 vdn, .sl _ 3 vdp, .sl _ 2 vds, .sl _ 8 vot] => (Sector.mk vup (vmo.map unOwn) (vmp.map unPart) (vms.map unSeen) (vdn.map unOwn) (vdp.map unPart) (vds.map unSeen) (vot.map unWord))
  | _ => default
theorem unSector_row (t : Nat) (s : Sector) : unSector (Sector.row t s) = s := by
  cases s; simp only [Sector.row, unSector, un_Own, un_Part, un_Seen, un_Own, un_Part, un_Seen, un_Word]
theorem un_Sector (t : Nat) (l : List Sector) : (l.map (Sector.row t)).map unSector = l := by
  rw [List.map_map]; exact List.map_id'' (fun s => unSector_row t s) l
theorem Sector_eta (s : Sector) : (Sector.mk s.up s.mo s.mp s.ms s.dn s.dp s.ds s.ot) = s := (rfl)
theorem no99_Sector (l : List Sector) : No99LL (l.map (Sector.row 0)) := by
  induction l with
  | nil => simp [No99LL]
  | cons x l ih => simp only [List.map_cons, No99LL]; exact ⟨by simp [Sector.row, No99L, No99, no99_Own, no99_Part, no99_Seen, no99_Own, no99_Part, no99_Seen, no99_Word], ih⟩
structure HCraft where
  nm : ByteArray
  nr : Int
  no : Int
  tu : List Box6
  deriving Inhabited, DecidableEq
def HCraft.row (t : Nat) (s : HCraft) : List AV := [.str s.nm, .int .i64 s.nr, .int .i64 s.no, .sl t 6 (s.tu.map Box6.row)]
def unHCraft : List AV → HCraft
  | [.str vnm, .int .i64 vnr, .int .i64 vno, .sl _ 6 vtu] => (HCraft.mk vnm vnr vno (vtu.map unBox))
  | _ => default
theorem unHCraft_row (t : Nat) (s : HCraft) : unHCraft (HCraft.row t s) = s := by
  cases s; simp only [HCraft.row, unHCraft, un_box]
theorem un_HCraft (t : Nat) (l : List HCraft) : (l.map (HCraft.row t)).map unHCraft = l := by
  rw [List.map_map]; exact List.map_id'' (fun s => unHCraft_row t s) l
theorem HCraft_eta (s : HCraft) : (HCraft.mk s.nm s.nr s.no s.tu) = s := (rfl)
theorem no99_HCraft (l : List HCraft) : No99LL (l.map (HCraft.row 0)) := by
  induction l with
  | nil => simp [No99LL]
  | cons x l ih => simp only [List.map_cons, No99LL]; exact ⟨by simp [HCraft.row, No99L, No99, no99_box], ih⟩
structure World where
  zones : List Zone
  secs : List Sector
  crafts : List HCraft
  radio : List Word
  deriving Inhabited, DecidableEq
def World.row (t : Nat) (s : World) : List AV := [.sl t 5 (s.zones.map Zone.row), .sl t 8 (s.secs.map (Sector.row t)), .sl t 4 (s.crafts.map (HCraft.row t)), .sl t 8 (s.radio.map (Word.row t))]
def unWorld : List AV → World
  | [.sl _ 5 vzones, .sl _ 8 vsecs, .sl _ 4 vcrafts, .sl _ 8 vradio] => (World.mk (vzones.map unZone) (vsecs.map unSector) (vcrafts.map unHCraft) (vradio.map unWord))
  | _ => default
theorem unWorld_row (t : Nat) (s : World) : unWorld (World.row t s) = s := by
  cases s; simp only [World.row, unWorld, un_Zone, un_Sector, un_HCraft, un_Word]
theorem un_World (t : Nat) (l : List World) : (l.map (World.row t)).map unWorld = l := by
  rw [List.map_map]; exact List.map_id'' (fun s => unWorld_row t s) l
theorem World_eta (s : World) : (World.mk s.zones s.secs s.crafts s.radio) = s := (rfl)
theorem no99_World (l : List World) : No99LL (l.map (World.row 0)) := by
  induction l with
  | nil => simp [No99LL]
  | cons x l ih => simp only [List.map_cons, No99LL]; exact ⟨by simp [World.row, No99L, No99, no99_Zone, no99_Sector, no99_HCraft, no99_Word], ih⟩
theorem box_eta6 (s : Box6) : (Box6.mk s.x s.y s.l s.h s.i s.o) = s := (rfl)
theorem c_isName (s : ByteArray) : Contract P 83 [.str s] [] (.bool (decide (nameOk s))) [] := by
  refine fn_sound (Env.nil P) hm k_impl_isName (Nat.le_of_ble_eq_true rfl) rfl ?_; unfold s_impl_isName; simp (config := { maxSteps := 2000000 }) only [bitvec_to_nat, reduceIte, Nat.reduceEqDiff, Nat.reduceAdd, Nat.reduceLeDiff, reduceCtorEq, Nat.reduceBEq, Nat.reduceLT, List.forall_mem_cons]
  refine ⟨fun h1 => ?_, fun h1 => ⟨fun h2 => ?_, fun h2 => ?_⟩⟩
  · grind [nameOk]
  · grind [nameOk]
  · refine loop_st (fun i : Nat => [(3, .int .i64 i)]) (fun _ => []) (fun i => i ≤ s.toList.length ∧ ∀ j, j < i → charOk (s.toList.getD j 0)) (fun i => s.toList.length - i) (0) (by simp only [u_E0, u_E1, u_M0, u_M1, w_setE0, w_setE1, w_setM0, w_setM1, reduceIte, Nat.reduceEqDiff]; exact ⟨by repeat' (first | exact trivial | refine ⟨.inr rfl, ?_⟩), by repeat' (first | exact trivial | refine ⟨rfl, ?_⟩), by first | rfl | simp [closedB, refsIn, refsInL, refsInO, dom, refsInL_nr, *], by first | rfl | simp [keepB, dom]⟩) ?_ ?_
    · exact ⟨Nat.zero_le _, by intro j hj; omega⟩
    intro i hi NX hN
    unfold l_impl_isName_0; simp (config := { maxSteps := 2000000 }) only [bitvec_to_nat, reduceIte, Nat.reduceEqDiff, Nat.reduceAdd, Nat.reduceLeDiff, reduceCtorEq, Nat.reduceBEq, Nat.reduceLT, List.forall_mem_cons]
    repeat' (first | apply And.intro | intro _)
    all_goals first
      | omega
      | (refine hN (i + 1) _ (by simp only [u_E0, u_E1, u_M0, u_M1, w_setE0, w_setE1, w_setM0, w_setM1, reduceIte, Nat.reduceEqDiff]; exact ⟨by repeat' (first | exact trivial | refine ⟨.inr rfl, ?_⟩), by repeat' (first | exact trivial | refine ⟨rfl, ?_⟩), by first | rfl | simp [closedB, refsIn, refsInL, refsInO, dom, refsInL_nr, *], by first | rfl | simp [keepB, dom]⟩) ?_ ?_
         · exact ⟨by omega, all_snoc hi.2 (by grind [charOk])⟩
         · omega)
      | grind [nameOk, charOk]
end
end Go.Ve

namespace Go.Ve
noncomputable section
open Go.Proofs
set_option linter.unusedSimpArgs false
set_option linter.unusedVariables false
set_option maxRecDepth 100000
theorem tk_map {α : Type} {f : α → List AV} {l : List α} {n : Nat} : List.take n (List.map f l) = List.map f (List.take n l) := (List.map_take).symm
theorem dp_map {α : Type} {f : α → List AV} {l : List α} {n : Nat} : List.drop n (List.map f l) = List.map f (List.drop n l) := (List.map_drop).symm
theorem getD_take {α : Type} [Inhabited α] {l : List α} {n j : Nat} (h : j < n) : (l.take n).getD j default = l.getD j default := by
  simp [List.getD_eq_getElem?_getD, List.getElem?_take, h]
def t_isName : List AV → Option (Prop × AV)
  | [.str s] => some ((True) ∧ (True), .bool (decide (nameOk s)))
  | _ => none
theorem h_isName : ∀ args p v, t_isName args = some (p, v) → p → Contract P 83 args [] v [] ∧ noref v = true ∧ No99 v := by
  intro args p v h1 h2
  unfold t_isName at h1
  split at h1
  · rename_i s
    cases h1
    obtain ⟨_, HP⟩ := h2
    have := c_isName s
    exact ⟨this, rfl, trivial⟩
  · cases h1
theorem c_l31NameOk (s : ByteArray) (hp : True) : Contract P 46 [.str s] [] (.bool (decide (nameOk s))) [] := by
  refine fn_sound ((Env.nil P).add 51 t_l31In h_l31In) hm k_spec_l31NameOk (Nat.le_of_ble_eq_true rfl) rfl ?_; unfold s_spec_l31NameOk; simp (config := { maxSteps := 2000000 }) only [bitvec_to_nat, reduceIte, Nat.reduceEqDiff, Nat.reduceAdd, Nat.reduceLeDiff, reduceCtorEq, Nat.reduceBEq, Nat.reduceLT, List.forall_mem_cons, t_l31In]
  refine ⟨fun h1 => ?_, fun h1 => ?_⟩
  · refine loop_st (fun i : Nat => [(3, .int .i64 i)]) (fun _ => []) (fun i => i ≤ s.toList.length ∧ ∀ j, j < i → charOk (s.toList.getD j 0)) (fun i => s.toList.length - i) (0) (by simp only [u_E0, u_E1, u_M0, u_M1, w_setE0, w_setE1, w_setM0, w_setM1, reduceIte, Nat.reduceEqDiff]; exact ⟨by repeat' (first | exact trivial | refine ⟨.inr rfl, ?_⟩), by repeat' (first | exact trivial | refine ⟨rfl, ?_⟩), by first | rfl | simp [closedB, refsIn, refsInL, refsInO, dom, refsInL_nr, *], by first | rfl | simp [keepB, dom]⟩) ?_ ?_
    · exact ⟨Nat.zero_le _, by intro j hj; omega⟩
    intro i hi NX hN
    unfold l_spec_l31NameOk_0; simp (config := { maxSteps := 2000000 }) only [bitvec_to_nat, reduceIte, Nat.reduceEqDiff, Nat.reduceAdd, Nat.reduceLeDiff, reduceCtorEq, Nat.reduceBEq, Nat.reduceLT, List.forall_mem_cons]
    repeat' (first | with_reducible apply And.intro | with_reducible intro _)
    all_goals first
      | exact trivial
      | omega
      | (refine hN (i + 1) _ (by simp only [u_E0, u_E1, u_M0, u_M1, w_setE0, w_setE1, w_setM0, w_setM1, reduceIte, Nat.reduceEqDiff]; exact ⟨by repeat' (first | exact trivial | refine ⟨.inr rfl, ?_⟩), by repeat' (first | exact trivial | refine ⟨rfl, ?_⟩), by first | rfl | simp [closedB, refsIn, refsInL, refsInO, dom, refsInL_nr, *], by first | rfl | simp [keepB, dom]⟩) ?_ ?_
         · exact ⟨by omega, all_snoc hi.2 (by grind [nameOk, charOk])⟩
         · omega)
      | grind [nameOk, charOk]
  · grind [nameOk]
def t_l31NameOk : List AV → Option (Prop × AV)
  | [.str s] => some ((True) ∧ (True), .bool (decide (nameOk s)))
  | _ => none
theorem h_l31NameOk : ∀ args p v, t_l31NameOk args = some (p, v) → p → Contract P 46 args [] v [] ∧ noref v = true ∧ No99 v := by
  intro args p v h1 h2
  unfold t_l31NameOk at h1
  split at h1
  · rename_i s
    cases h1
    obtain ⟨_, HP⟩ := h2
    have := c_l31NameOk s HP
    exact ⟨this, rfl, trivial⟩
  · cases h1
theorem c_number (n : Int) (hp : True) : Contract P 90 [.int .i64 n] [] (.bool (decide (1 ≤ n ∧ n ≤ 1000000))) [] := by
  refine fn_sound ((Env.nil P).add 82 t_within h_within) hm k_impl_number (Nat.le_of_ble_eq_true rfl) rfl ?_; unfold s_impl_number; simp (config := { maxSteps := 2000000 }) only [bitvec_to_nat, reduceIte, Nat.reduceEqDiff, Nat.reduceAdd, Nat.reduceLeDiff, reduceCtorEq, Nat.reduceBEq, Nat.reduceLT, List.forall_mem_cons, t_within]
  repeat' (first | with_reducible apply And.intro | with_reducible intro _)
  all_goals (first | trivial | omega | (simp_all; done) | (simp_all; omega) | grind)
def t_number : List AV → Option (Prop × AV)
  | [.int .i64 n] => some ((True) ∧ (True), .bool (decide (1 ≤ n ∧ n ≤ 1000000)))
  | _ => none
theorem h_number : ∀ args p v, t_number args = some (p, v) → p → Contract P 90 args [] v [] ∧ noref v = true ∧ No99 v := by
  intro args p v h1 h2
  unfold t_number at h1
  split at h1
  · rename_i n
    cases h1
    obtain ⟨_, HP⟩ := h2
    have := c_number n HP
    exact ⟨this, rfl, trivial⟩
  · cases h1
def Zone.ok (z : Zone) : Prop := nameOk z.nm ∧ (0 ≤ z.x0 ∧ z.x0 ≤ z.x1 ∧ z.x1 < 16) ∧ (0 ≤ z.y0 ∧ z.y0 ≤ z.y1 ∧ z.y1 < 16)
def Zone.meet (o z : Zone) : Prop := o.x0 ≤ z.x1 ∧ z.x0 ≤ o.x1 ∧ o.y0 ≤ z.y1 ∧ z.y0 ≤ o.y1
def zoneAt (zs : List Zone) (i : Nat) : Prop := (zs.getD i default).ok ∧ (0 < i → slt (zs.getD (i - 1) default).nm (zs.getD i default).nm) ∧ ∀ k, k < i → ¬ (zs.getD k default).meet (zs.getD i default)
def zonesOk (zs : List Zone) : Prop := (1 ≤ zs.length ∧ zs.length ≤ 4) ∧ ∀ i, i < zs.length → zoneAt zs i
noncomputable instance (zs : List Zone) : Decidable (zonesOk zs) := Classical.propDecidable _
set_option maxHeartbeats 1000000 in
theorem c_zonesOk (t : Nat) (zs : List Zone) (hl : zs.length ≤ 4611686018427387904) : Contract P 63 [.sl t 5 (zs.map Zone.row)] [] (.bool (decide (zonesOk zs))) [] := by
  refine fn_sound (((Env.nil P).add 82 t_within h_within).add 83 t_isName h_isName) hm k_impl_HandZonesOk (Nat.le_of_ble_eq_true rfl) rfl ?_; unfold s_impl_HandZonesOk; simp (config := { maxSteps := 2000000 }) only [bitvec_to_nat, reduceIte, Nat.reduceEqDiff, Nat.reduceAdd, Nat.reduceLeDiff, reduceCtorEq, Nat.reduceBEq, Nat.reduceLT, List.forall_mem_cons, t_within, t_isName, Zone.row, Zone_eta, tk_map, dp_map, List.drop_zero, toNat_pred]
  refine ⟨fun h1 => ?_, fun h1 => by grind [zonesOk]⟩
  · refine loop_st (fun i : Nat => [(13, .int .i64 i)]) (fun _ => []) (fun i => i ≤ zs.length ∧ ∀ j, j < i → zoneAt zs j) (fun i => zs.length - i) (0) (by simp only [u_E0, u_E1, u_M0, u_M1, w_setE0, w_setE1, w_setM0, w_setM1, reduceIte, Nat.reduceEqDiff]; exact ⟨by repeat' (first | exact trivial | refine ⟨.inr rfl, ?_⟩), by repeat' (first | exact trivial | refine ⟨rfl, ?_⟩), by first | rfl | simp [closedB, refsIn, refsInL, refsInO, dom, refsInL_nr, *], by first | rfl | simp [keepB, dom]⟩) ?_ ?_
    · exact ⟨Nat.zero_le _, by intro j hj; omega⟩
    intro i hi NX hN
    unfold l_impl_HandZonesOk_1; simp (config := { maxSteps := 2000000 }) only [bitvec_to_nat, reduceIte, Nat.reduceEqDiff, Nat.reduceAdd, Nat.reduceLeDiff, reduceCtorEq, Nat.reduceBEq, Nat.reduceLT, List.forall_mem_cons, t_within, t_isName, Zone.row, Zone_eta, tk_map, dp_map, List.drop_zero, toNat_pred]
    have bad : ∀ P : Prop, (zonesOk zs → i < zs.length → P) → i < zs.length → ¬ P → ¬ zonesOk zs := fun P h h1 h2 h3 => h2 (h h3 h1)
    repeat' (first | with_reducible apply And.intro | with_reducible intro _)
    all_goals first
      | omega
      | (intro hq; have := hq.2 i (by omega); unfold zoneAt Zone.ok at this; grind)
      | (refine loop_st (fun k : Nat => [(77, .int .i64 k)]) (fun _ => []) (fun k => k ≤ i ∧ ∀ j, j < k → ¬ (zs.getD j default).meet (zs.getD i default)) (fun k => i - k) (0) (by simp only [u_E0, u_E1, u_M0, u_M1, w_setE0, w_setE1, w_setM0, w_setM1, reduceIte, Nat.reduceEqDiff]; exact ⟨by repeat' (first | exact trivial | refine ⟨.inr rfl, ?_⟩), by repeat' (first | exact trivial | refine ⟨rfl, ?_⟩), by first | rfl | simp [closedB, refsIn, refsInL, refsInO, dom, refsInL_nr, *], by first | rfl | simp [keepB, dom]⟩) ?_ ?_
         · exact ⟨Nat.zero_le _, by intro j hj; omega⟩
         intro k hk NX2 hN2
         unfold l_impl_HandZonesOk_0; simp (config := { maxSteps := 2000000 }) only [bitvec_to_nat, reduceIte, Nat.reduceEqDiff, Nat.reduceAdd, Nat.reduceLeDiff, reduceCtorEq, Nat.reduceBEq, Nat.reduceLT, List.forall_mem_cons, t_within, t_isName, Zone.row, Zone_eta, tk_map, dp_map, List.drop_zero, toNat_pred]
         repeat' (first | with_reducible apply And.intro | with_reducible intro _)
         all_goals first
           | omega
           | (refine hN2 (k + 1) _ (by simp only [u_E0, u_E1, u_M0, u_M1, w_setE0, w_setE1, w_setM0, w_setM1, reduceIte, Nat.reduceEqDiff]; exact ⟨by repeat' (first | exact trivial | refine ⟨.inr rfl, ?_⟩), by repeat' (first | exact trivial | refine ⟨rfl, ?_⟩), by first | rfl | simp [closedB, refsIn, refsInL, refsInO, dom, refsInL_nr, *], by first | rfl | simp [keepB, dom]⟩) ?_ ?_
              · refine ⟨by omega, all_snoc hk.2 ?_⟩
                rw [getD_take (by omega)] at *
                grind [Zone.meet]
              · omega)
           | (refine hN (i + 1) _ (by simp only [u_E0, u_E1, u_M0, u_M1, w_setE0, w_setE1, w_setM0, w_setM1, reduceIte, Nat.reduceEqDiff]; exact ⟨by repeat' (first | exact trivial | refine ⟨.inr rfl, ?_⟩), by repeat' (first | exact trivial | refine ⟨rfl, ?_⟩), by first | rfl | simp [closedB, refsIn, refsInL, refsInO, dom, refsInL_nr, *], by first | rfl | simp [keepB, dom]⟩) ?_ ?_
              · refine ⟨by omega, all_snoc hi.2 ⟨?_, ?_, fun k hk2 => hk.2 k (by omega)⟩⟩
                · grind [Zone.ok]
                · grind
              · omega)
           | (intro hq
              have := (hq.2 i (by omega)).2.2 k (by omega)
              rw [getD_take (by omega)] at *
              grind [Zone.meet]))
      | (refine ⟨by omega, fun j hj => hi.2 j (by omega)⟩)
    all_goals trace_state
end
end Go.Ve

namespace Go.Ve
noncomputable section
open Go.Proofs
set_option linter.unusedSimpArgs false
set_option linter.unusedVariables false
set_option maxRecDepth 100000
def t_zonesOk : List AV → Option (Prop × AV)
  | [.sl zst 5 zsx] => some ((((zsx.map unZone).map Zone.row = zsx)) ∧ ((zsx.map unZone).length ≤ 4611686018427387904), .bool (decide (zonesOk (zsx.map unZone))))
  | _ => none
theorem h_zonesOk : ∀ args p v, t_zonesOk args = some (p, v) → p → Contract P 63 args [] v [] ∧ noref v = true ∧ No99 v := by
  intro args p v h1 h2
  unfold t_zonesOk at h1
  split at h1
  · rename_i zst zsx
    cases h1
    obtain ⟨e0, HP⟩ := h2
    have := c_zonesOk zst (zsx.map unZone) HP
    exact ⟨by simpa only [e0] using this, rfl, trivial⟩
  · cases h1
set_option maxHeartbeats 1000000 in
theorem c_sZonesOk (t : Nat) (zs : List Zone) (hl : zs.length ≤ 4611686018427387904) : Contract P 50 [.sl t 5 (zs.map Zone.row)] [] (.bool (decide (zonesOk zs))) [] := by
  refine fn_sound (((Env.nil P).add 51 t_l31In h_l31In).add 46 t_l31NameOk h_l31NameOk) hm k_spec_HandZonesOk (Nat.le_of_ble_eq_true rfl) rfl ?_; unfold s_spec_HandZonesOk; simp (config := { maxSteps := 2000000 }) only [bitvec_to_nat, reduceIte, Nat.reduceEqDiff, Nat.reduceAdd, Nat.reduceLeDiff, reduceCtorEq, Nat.reduceBEq, Nat.reduceLT, List.forall_mem_cons, t_l31In, t_l31NameOk, Zone.row, Zone_eta, Box6.row, box_eta6, tk_map, dp_map, toNat_pred]
  refine ⟨fun h1 => ?_, fun h1 => by grind [zonesOk]⟩
  · refine loop_st (fun i : Nat => [(3, .int .i64 i)]) (fun _ => []) (fun i => i ≤ zs.length ∧ ∀ j, j < i → zoneAt zs j) (fun i => zs.length - i) (0) (by simp only [u_E0, u_E1, u_M0, u_M1, w_setE0, w_setE1, w_setM0, w_setM1, reduceIte, Nat.reduceEqDiff]; exact ⟨by repeat' (first | exact trivial | refine ⟨.inr rfl, ?_⟩), by repeat' (first | exact trivial | refine ⟨rfl, ?_⟩), by first | rfl | simp [closedB, refsIn, refsInL, refsInO, dom, refsInL_nr, *], by first | rfl | simp [keepB, dom]⟩) ?_ ?_
    · exact ⟨Nat.zero_le _, by intro j hj; omega⟩
    intro i hi NX hN
    unfold l_spec_HandZonesOk_1; simp (config := { maxSteps := 2000000 }) only [bitvec_to_nat, reduceIte, Nat.reduceEqDiff, Nat.reduceAdd, Nat.reduceLeDiff, reduceCtorEq, Nat.reduceBEq, Nat.reduceLT, List.forall_mem_cons, t_l31In, t_l31NameOk, Zone.row, Zone_eta, Box6.row, box_eta6, tk_map, dp_map, toNat_pred]
    repeat' (first | with_reducible apply And.intro | with_reducible intro _)
    all_goals first
      | omega
      | (intro hq; have := hq.2 i (by omega); unfold zoneAt Zone.ok at this; grind)
      | (refine loop_st (fun k : Nat => [(5, .int .i64 k)]) (fun _ => []) (fun k => k ≤ i ∧ ∀ j, j < k → ¬ (zs.getD j default).meet (zs.getD i default)) (fun k => i - k) (0) (by simp only [u_E0, u_E1, u_M0, u_M1, w_setE0, w_setE1, w_setM0, w_setM1, reduceIte, Nat.reduceEqDiff]; exact ⟨by repeat' (first | exact trivial | refine ⟨.inr rfl, ?_⟩), by repeat' (first | exact trivial | refine ⟨rfl, ?_⟩), by first | rfl | simp [closedB, refsIn, refsInL, refsInO, dom, refsInL_nr, *], by first | rfl | simp [keepB, dom]⟩) ?_ ?_
         · exact ⟨Nat.zero_le _, by intro j hj; omega⟩
         intro k hk NX2 hN2
         unfold l_spec_HandZonesOk_0; simp (config := { maxSteps := 2000000 }) only [bitvec_to_nat, reduceIte, Nat.reduceEqDiff, Nat.reduceAdd, Nat.reduceLeDiff, reduceCtorEq, Nat.reduceBEq, Nat.reduceLT, List.forall_mem_cons, t_l31In, t_l31NameOk, Zone.row, Zone_eta, Box6.row, box_eta6, tk_map, dp_map, toNat_pred]
         repeat' (first | with_reducible apply And.intro | with_reducible intro _)
         all_goals first
           | omega
           | (refine hN2 (k + 1) _ (by simp only [u_E0, u_E1, u_M0, u_M1, w_setE0, w_setE1, w_setM0, w_setM1, reduceIte, Nat.reduceEqDiff]; exact ⟨by repeat' (first | exact trivial | refine ⟨.inr rfl, ?_⟩), by repeat' (first | exact trivial | refine ⟨rfl, ?_⟩), by first | rfl | simp [closedB, refsIn, refsInL, refsInO, dom, refsInL_nr, *], by first | rfl | simp [keepB, dom]⟩) ?_ ?_
              · refine ⟨by omega, all_snoc hk.2 ?_⟩
                grind [Zone.meet]
              · omega)
           | (refine hN (i + 1) _ (by simp only [u_E0, u_E1, u_M0, u_M1, w_setE0, w_setE1, w_setM0, w_setM1, reduceIte, Nat.reduceEqDiff]; exact ⟨by repeat' (first | exact trivial | refine ⟨.inr rfl, ?_⟩), by repeat' (first | exact trivial | refine ⟨rfl, ?_⟩), by first | rfl | simp [closedB, refsIn, refsInL, refsInO, dom, refsInL_nr, *], by first | rfl | simp [keepB, dom]⟩) ?_ ?_
              · refine ⟨by omega, all_snoc hi.2 ⟨?_, ?_, fun k hk2 => hk.2 k (by omega)⟩⟩
                · grind [Zone.ok]
                · grind
              · omega)
           | (intro hq
              have := (hq.2 i (by omega)).2.2 k (by omega)
              grind [Zone.meet]))
      | (refine ⟨by omega, fun j hj => hi.2 j (by omega)⟩)
def t_sZonesOk : List AV → Option (Prop × AV)
  | [.sl zst 5 zsx] => some ((((zsx.map unZone).map Zone.row = zsx)) ∧ ((zsx.map unZone).length ≤ 4611686018427387904), .bool (decide (zonesOk (zsx.map unZone))))
  | _ => none
theorem h_sZonesOk : ∀ args p v, t_sZonesOk args = some (p, v) → p → Contract P 50 args [] v [] ∧ noref v = true ∧ No99 v := by
  intro args p v h1 h2
  unfold t_sZonesOk at h1
  split at h1
  · rename_i zst zsx
    cases h1
    obtain ⟨e0, HP⟩ := h2
    have := c_sZonesOk zst (zsx.map unZone) HP
    exact ⟨by simpa only [e0] using this, rfl, trivial⟩
  · cases h1
def Zone.over (z : Zone) (x y : Int) : Prop := (z.x0 ≤ x ∧ x ≤ z.x1) ∧ (z.y0 ≤ y ∧ y ≤ z.y1)
noncomputable instance (z : Zone) (x y : Int) : Decidable (z.over x y) := Classical.propDecidable _
theorem c_over (nm : ByteArray) (x0 y0 x1 y1 x y : Int) (hp : True) : Contract P 106 [.agg [.str nm, .int .i64 x0, .int .i64 y0, .int .i64 x1, .int .i64 y1], .int .i64 x, .int .i64 y] [] (.bool (decide (Zone.over ⟨nm, x0, y0, x1, y1⟩ x y))) [] := by
  refine fn_sound ((Env.nil P).add 82 t_within h_within) hm k_impl_HandZone_over (Nat.le_of_ble_eq_true rfl) rfl ?_; unfold s_impl_HandZone_over; simp (config := { maxSteps := 2000000 }) only [bitvec_to_nat, reduceIte, Nat.reduceEqDiff, Nat.reduceAdd, Nat.reduceLeDiff, reduceCtorEq, Nat.reduceBEq, Nat.reduceLT, List.forall_mem_cons, t_within]
  simp only [Zone.over]
  repeat' (first | with_reducible apply And.intro | with_reducible intro _)
  all_goals (first | trivial | omega | (simp_all; done) | (simp_all; omega) | grind)
def t_over : List AV → Option (Prop × AV)
  | [.agg [.str z_nm, .int .i64 z_x0, .int .i64 z_y0, .int .i64 z_x1, .int .i64 z_y1], .int .i64 x, .int .i64 y] => some ((True) ∧ (True), .bool (decide ((Zone.mk z_nm z_x0 z_y0 z_x1 z_y1).over x y)))
  | _ => none
theorem h_over : ∀ args p v, t_over args = some (p, v) → p → Contract P 106 args [] v [] ∧ noref v = true ∧ No99 v := by
  intro args p v h1 h2
  unfold t_over at h1
  split at h1
  · rename_i z_nm z_x0 z_y0 z_x1 z_y1 x y
    cases h1
    obtain ⟨_, HP⟩ := h2
    have := c_over z_nm z_x0 z_y0 z_x1 z_y1 x y HP
    exact ⟨by simpa only [Zone.row] using this, rfl, trivial⟩
  · cases h1
theorem c_sOver (nm : ByteArray) (x0 y0 x1 y1 x y l h i o : Int) (hp : True) : Contract P 75 [.agg [.str nm, .int .i64 x0, .int .i64 y0, .int .i64 x1, .int .i64 y1], .agg [.int .i64 x, .int .i64 y, .int .i64 l, .int .i64 h, .int .i64 i, .int .i64 o]] [] (.bool (decide (Zone.over ⟨nm, x0, y0, x1, y1⟩ x y))) [] := by
  refine fn_sound ((Env.nil P).add 51 t_l31In h_l31In) hm k_spec_l31Over (Nat.le_of_ble_eq_true rfl) rfl ?_; unfold s_spec_l31Over; simp (config := { maxSteps := 2000000 }) only [bitvec_to_nat, reduceIte, Nat.reduceEqDiff, Nat.reduceAdd, Nat.reduceLeDiff, reduceCtorEq, Nat.reduceBEq, Nat.reduceLT, List.forall_mem_cons, t_l31In]
  simp only [Zone.over]
  repeat' (first | with_reducible apply And.intro | with_reducible intro _)
  all_goals (first | trivial | omega | (simp_all; done) | (simp_all; omega) | grind)
def t_sOver : List AV → Option (Prop × AV)
  | [.agg [.str z_nm, .int .i64 z_x0, .int .i64 z_y0, .int .i64 z_x1, .int .i64 z_y1], .agg [.int .i64 b_x, .int .i64 b_y, .int .i64 b_l, .int .i64 b_h, .int .i64 b_i, .int .i64 b_o]] => some ((True) ∧ (True), .bool (decide ((Zone.mk z_nm z_x0 z_y0 z_x1 z_y1).over (Box6.mk b_x b_y b_l b_h b_i b_o).x (Box6.mk b_x b_y b_l b_h b_i b_o).y)))
  | _ => none
theorem h_sOver : ∀ args p v, t_sOver args = some (p, v) → p → Contract P 75 args [] v [] ∧ noref v = true ∧ No99 v := by
  intro args p v h1 h2
  unfold t_sOver at h1
  split at h1
  · rename_i z_nm z_x0 z_y0 z_x1 z_y1 b_x b_y b_l b_h b_i b_o
    cases h1
    obtain ⟨_, HP⟩ := h2
    have := c_sOver z_nm z_x0 z_y0 z_x1 z_y1 b_x b_y b_l b_h b_i b_o HP
    exact ⟨by simpa only [Zone.row, Box6.row] using this, rfl, trivial⟩
  · cases h1
end
end Go.Ve

namespace Go.Ve
noncomputable section
open Go.Proofs
set_option linter.unusedSimpArgs false
set_option linter.unusedVariables false
set_option maxRecDepth 100000
theorem c_IndexFunc_Zone (g : FuncId) (hg : calleeB P g = true) (ls : List AV) (hls : norefL ls = true) (p : Zone → Bool) (t : Nat) (zs : List Zone) (hl : zs.length ≤ 4611686018427387904)
    (hC : ∀ z, Contract P g (.agg (Zone.row z) :: [.ptr 3 0]) [(3, .box ls)] (.bool (p z)) [(3, .box ls)]) : Contract P 109 [.sl t 5 (zs.map Zone.row), .fn g [] [.ptr 3 0]] [(3, .box ls)] (.int .i64 (fIdx p zs)) [(3, .box ls)] := by
  refine fn_sound (Env.nil P) hm k_slices_IndexFunc_HandZone (Nat.le_of_ble_eq_true rfl) rfl ?_; unfold s_slices_IndexFunc_HandZone; simp (config := { maxSteps := 2000000 }) only [bitvec_to_nat, reduceIte, Nat.reduceEqDiff, Nat.reduceAdd, Nat.reduceLeDiff, reduceCtorEq, Nat.reduceBEq, Nat.reduceLT, List.forall_mem_cons, retG_ret, retQ_eq, retQ_eqN, retOk, keepB, re_tupl, orr_t, callL_nil]
  refine loop_st (fun i : Nat => [(8, .int .i64 i)]) (fun _ => []) (fun i => i ≤ zs.length ∧ ∀ j, j < i → p (zs.getD j default) = false) (fun i => zs.length - i) (0) (by simp only [u_E0, u_E1, u_M0, u_M1, w_setE0, w_setE1, w_setM0, w_setM1, reduceIte, Nat.reduceEqDiff]; exact ⟨by repeat' (first | exact trivial | refine ⟨.inr rfl, ?_⟩), by repeat' (first | exact trivial | refine ⟨rfl, ?_⟩), by first | rfl | simp [closedB, refsIn, refsInL, refsInO, dom, refsInL_nr, *], by first | rfl | simp [keepB, dom]⟩) ?_ ?_
  · exact ⟨Nat.zero_le _, by intro j hj; omega⟩
  intro i hi NX hN
  unfold l_slices_IndexFunc_HandZone_0; simp (config := { maxSteps := 2000000 }) only [bitvec_to_nat, reduceIte, Nat.reduceEqDiff, Nat.reduceAdd, Nat.reduceLeDiff, reduceCtorEq, Nat.reduceBEq, Nat.reduceLT, List.forall_mem_cons, retG_ret, retQ_eq, retQ_eqN, retOk, keepB, re_tupl, orr_t, callL_nil, Zone_len, Zone_take]
  refine ⟨fun h1 => ⟨by omega, by omega, hg, _, _, .inl ⟨[(3, .box ls)], hC (zs.getD i default), ?_, ?_, ?_, ?_, ?_, rfl, ?_⟩, ?_⟩, fun h1 => ?_⟩
  · simp [getM]
  · intro q hq; left; revert q; simp [dom]
  · simp [dom]
  · simp [refsInL, refsIn, dom, refsInL_nr, Zone_nr]
  · simp [refsInO, refsInL_nr, *]
  · simp [refsInO, refsInL_nr, *]
  · simp (config := { maxSteps := 2000000 }) only [bitvec_to_nat, reduceIte, Nat.reduceEqDiff, Nat.reduceAdd, Nat.reduceLeDiff, reduceCtorEq, Nat.reduceBEq, Nat.reduceLT, List.forall_mem_cons, retG_ret, retQ_eq, retQ_eqN, retOk, keepB, re_tupl, orr_t, callL_nil]
    refine ⟨fun h2 => ?_, fun h2 => ?_⟩
    · simp (config := { maxSteps := 2000000 }) only [bitvec_to_nat, reduceIte, Nat.reduceEqDiff, Nat.reduceAdd, Nat.reduceLeDiff, reduceCtorEq, Nat.reduceBEq, Nat.reduceLT, List.forall_mem_cons, retG_ret, retQ_eq, retQ_eqN, retOk, keepB, re_tupl, orr_t, callL_nil]
      rw [fIdx_at (by omega) h2 hi.2]
      simp [dom, refsInL_nr, *]
    · simp (config := { maxSteps := 2000000 }) only [bitvec_to_nat, reduceIte, Nat.reduceEqDiff, Nat.reduceAdd, Nat.reduceLeDiff, reduceCtorEq, Nat.reduceBEq, Nat.reduceLT, List.forall_mem_cons, retG_ret, retQ_eq, retQ_eqN, retOk, keepB, re_tupl, orr_t, callL_nil]
      refine ⟨by omega, ?_⟩
      refine hN (i + 1) _ (by simp only [u_E0, u_E1, u_M0, u_M1, w_setE0, w_setE1, w_setM0, w_setM1, reduceIte, Nat.reduceEqDiff]; exact ⟨by repeat' (first | exact trivial | refine ⟨.inr rfl, ?_⟩), by repeat' (first | exact trivial | refine ⟨rfl, ?_⟩), by first | rfl | simp [closedB, refsIn, refsInL, refsInO, dom, refsInL_nr, *], by first | rfl | simp [keepB, dom]⟩) ?_ ?_
      · exact ⟨by omega, all_snoc hi.2 h2⟩
      · omega
  · rw [fIdx_none fun j hj => hi.2 j (by omega)]
    simp [dom, refsInL_nr, *]
theorem c_ContainsFunc_Zone (g : FuncId) (hg : calleeB P g = true) (ls : List AV) (hls : norefL ls = true) (p : Zone → Bool) (t : Nat) (zs : List Zone) (hl : zs.length ≤ 4611686018427387904)
    (hC : ∀ z, Contract P g (.agg (Zone.row z) :: [.ptr 3 0]) [(3, .box ls)] (.bool (p z)) [(3, .box ls)]) : Contract P 104 [.sl t 5 (zs.map Zone.row), .fn g [] [.ptr 3 0]] [(3, .box ls)] (.bool (decide (∃ i, i < zs.length ∧ p (zs.getD i default) = true))) [(3, .box ls)] := by
  refine fn_sound (Env.nil P) hm k_slices_ContainsFunc_HandZone (Nat.le_of_ble_eq_true rfl) rfl ?_; unfold s_slices_ContainsFunc_HandZone; simp (config := { maxSteps := 2000000 }) only [bitvec_to_nat, reduceIte, Nat.reduceEqDiff, Nat.reduceAdd, Nat.reduceLeDiff, reduceCtorEq, Nat.reduceBEq, Nat.reduceLT, List.forall_mem_cons, retG_ret, retQ_eq, retQ_eqN, retOk, keepB, re_tupl, orr_t, callL_nil]
  refine ⟨_, _, .inl ⟨[(3, .box ls)], c_IndexFunc_Zone g hg ls hls p t zs hl hC, ?_, ?_, ?_, ?_, ?_, rfl, ?_⟩, ?_⟩
  · simp [getM]
  · intro q hq; left; revert q; simp [dom]
  · simp [dom]
  · simp [refsInL, refsIn, dom, refsInL_nr, *]
  · simp [refsInO, refsInL_nr, *]
  · simp [refsInO, refsInL_nr, *]
  · simp (config := { maxSteps := 2000000 }) only [bitvec_to_nat, reduceIte, Nat.reduceEqDiff, Nat.reduceAdd, Nat.reduceLeDiff, reduceCtorEq, Nat.reduceBEq, Nat.reduceLT, List.forall_mem_cons, retG_ret, retQ_eq, retQ_eqN, retOk, keepB, re_tupl, orr_t, callL_nil]
    simp [fIdx_ge, dom, refsInL_nr, *]
theorem c_tubeOk1 (z : Zone) (b : Box6) : Contract P 105 [.agg z.row, .ptr 3 0] [(3, .box b.row)] (.bool (decide (z.over b.x b.y))) [(3, .box b.row)] := by
  simp only [Zone.row, Box6.row]
  refine fn_sound ((Env.nil P).add 106 t_over h_over) hm k_impl_tubeOk_1 (Nat.le_of_ble_eq_true rfl) rfl ?_; unfold s_impl_tubeOk_1; simp (config := { maxSteps := 2000000 }) only [bitvec_to_nat, reduceIte, Nat.reduceEqDiff, Nat.reduceAdd, Nat.reduceLeDiff, reduceCtorEq, Nat.reduceBEq, Nat.reduceLT, List.forall_mem_cons, retG_ret, retQ_eq, retQ_eqN, retOk, keepB, re_tupl, orr_t, t_over, Zone_eta]
  all_goals simp [dom]
theorem c_zoneAt1 (z : Zone) (s : ByteArray) : Contract P 110 [.agg z.row, .ptr 3 0] [(3, .box [.str s])] (.bool (decide (z.nm = s))) [(3, .box [.str s])] := by
  simp only [Zone.row]
  refine fn_sound (Env.nil P) hm k_impl_zoneAt_1 (Nat.le_of_ble_eq_true rfl) rfl ?_; unfold s_impl_zoneAt_1; simp (config := { maxSteps := 2000000 }) only [bitvec_to_nat, reduceIte, Nat.reduceEqDiff, Nat.reduceAdd, Nat.reduceLeDiff, reduceCtorEq, Nat.reduceBEq, Nat.reduceLT, List.forall_mem_cons, retG_ret, retQ_eq, retQ_eqN, retOk, keepB, re_tupl, orr_t, Zone_eta]
  all_goals simp [dom]
def r_tubeC : RTab
  | [.sl zt 5 zx, .fn 105 [] [.ptr ob off]], M => match M ob with
    | some (.box [.int .i64 b_x, .int .i64 b_y, .int .i64 b_l, .int .i64 b_h, .int .i64 b_i, .int .i64 b_o]) => some ⟨off = 0 ∧ (zx.map unZone).map Zone.row = zx ∧ (zx.map unZone).length ≤ 4611686018427387904, fun _ : Unit => True, fun _ => .bool (decide (∃ i, i < (zx.map unZone).length ∧ ((zx.map unZone).getD i default).over b_x b_y)), fun _ => [(ob, .box [.int .i64 b_x, .int .i64 b_y, .int .i64 b_l, .int .i64 b_h, .int .i64 b_i, .int .i64 b_o])]⟩
    | _ => none
  | _, _ => none
theorem h_tubeC : okTab P 104 r_tubeC := by
  intro args M o h hp
  unfold r_tubeC at h
  split at h
  · rename_i zt zx ob off
    split at h
    · rename_i b_x b_y b_l b_h b_i b_o hM
      cases h
      obtain ⟨rfl, e0, HP⟩ := hp
      have hC := c_ContainsFunc_Zone 105 (by kernel_rfl) _ rfl (fun z => decide (z.over b_x b_y)) zt (zx.map unZone) HP fun z => c_tubeOk1 z ⟨b_x, b_y, b_l, b_h, b_i, b_o⟩
      simp only [e0, decide_eq_true_eq, Box6.row] at hC
      exact ⟨(), trivial, callR_box _ hC (by simp [norefL, noref]) rfl (by assumption) (by simp [renL, ren, swp]) (by simp [refsInL, refsIn, noref])⟩
    · cases h
  · cases h
def r_zoneAtI : RTab
  | [.sl zt 5 zx, .fn 110 [] [.ptr ob off]], M => match M ob with
    | some (.box [.str s]) => some ⟨off = 0 ∧ (zx.map unZone).map Zone.row = zx ∧ (zx.map unZone).length ≤ 4611686018427387904, fun _ : Unit => True, fun _ => .int .i64 (fIdx (fun z => decide (z.nm = s)) (zx.map unZone)), fun _ => [(ob, .box [.str s])]⟩
    | _ => none
  | _, _ => none
theorem h_zoneAtI : okTab P 109 r_zoneAtI := by
  intro args M o h hp
  unfold r_zoneAtI at h
  split at h
  · rename_i zt zx ob off
    split at h
    · rename_i s hM
      cases h
      obtain ⟨rfl, e0, HP⟩ := hp
      have hC := c_IndexFunc_Zone 110 (by kernel_rfl) _ rfl (fun z => decide (z.nm = s)) zt (zx.map unZone) HP fun z => c_zoneAt1 z s
      simp only [e0, decide_eq_true_eq] at hC
      exact ⟨(), trivial, callR_box _ hC (by simp [norefL, noref]) rfl (by assumption) (by simp [renL, ren, swp]) (by simp [refsInL, refsIn, noref])⟩
    · cases h
  · cases h
def zAt (zs : List Zone) (s : ByteArray) : Int := fIdx (fun z => decide (z.nm = s)) zs
theorem c_zoneAt (t : Nat) (zs : List Zone) (s : ByteArray) (hl : zs.length ≤ 4611686018427387904) : Contract P 89 [.sl t 5 (zs.map Zone.row), .str s] [] (.int .i64 (zAt zs s)) [] := by
  refine fn_sound ((Env.nil P).addR 109 r_zoneAtI h_zoneAtI) hm k_impl_zoneAt (Nat.le_of_ble_eq_true rfl) rfl ?_; unfold s_impl_zoneAt; simp (config := { maxSteps := 2000000 }) only [bitvec_to_nat, reduceIte, Nat.reduceEqDiff, Nat.reduceAdd, Nat.reduceLeDiff, reduceCtorEq, Nat.reduceBEq, Nat.reduceLT, List.forall_mem_cons, retG_ret, retQ_eq, retQ_eqN, retOk, keepB, re_tupl, orr_t, r_zoneAtI, un_Zone]
  exact ⟨hl, fun _ => rfl⟩
theorem c_sZoneAt (t : Nat) (zs : List Zone) (s : ByteArray) (hl : zs.length ≤ 4611686018427387904) : Contract P 74 [.sl t 5 (zs.map Zone.row), .str s] [] (.int .i64 (zAt zs s)) [] := by
  refine fn_sound (Env.nil P) hm k_spec_l32Zone (Nat.le_of_ble_eq_true rfl) rfl ?_; unfold s_spec_l32Zone; simp (config := { maxSteps := 2000000 }) only [bitvec_to_nat, reduceIte, Nat.reduceEqDiff, Nat.reduceAdd, Nat.reduceLeDiff, reduceCtorEq, Nat.reduceBEq, Nat.reduceLT, List.forall_mem_cons, Zone.row, Zone_eta, Box6.row, box_eta6, tk_map, dp_map, toNat_pred]
  refine loop_st (fun i : Nat => [(5, .int .i64 i)]) (fun _ => []) (fun i => i ≤ zs.length ∧ ∀ j, j < i → decide ((zs.getD j default).nm = s) = false) (fun i => zs.length - i) (0) (by simp only [u_E0, u_E1, u_M0, u_M1, w_setE0, w_setE1, w_setM0, w_setM1, reduceIte, Nat.reduceEqDiff]; exact ⟨by repeat' (first | exact trivial | refine ⟨.inr rfl, ?_⟩), by repeat' (first | exact trivial | refine ⟨rfl, ?_⟩), by first | rfl | simp [closedB, refsIn, refsInL, refsInO, dom, refsInL_nr, *], by first | rfl | simp [keepB, dom]⟩) ?_ ?_
  · exact ⟨Nat.zero_le _, by intro j hj; omega⟩
  intro i hi NX hN
  unfold l_spec_l32Zone_0; simp (config := { maxSteps := 2000000 }) only [bitvec_to_nat, reduceIte, Nat.reduceEqDiff, Nat.reduceAdd, Nat.reduceLeDiff, reduceCtorEq, Nat.reduceBEq, Nat.reduceLT, List.forall_mem_cons, Zone.row, Zone_eta, Box6.row, box_eta6, tk_map, dp_map, toNat_pred]
  
  repeat' (first | with_reducible apply And.intro | with_reducible intro _)
  all_goals first
    | omega
    | (refine hN (i + 1) _ (by simp only [u_E0, u_E1, u_M0, u_M1, w_setE0, w_setE1, w_setM0, w_setM1, reduceIte, Nat.reduceEqDiff]; exact ⟨by repeat' (first | exact trivial | refine ⟨.inr rfl, ?_⟩), by repeat' (first | exact trivial | refine ⟨rfl, ?_⟩), by first | rfl | simp [closedB, refsIn, refsInL, refsInO, dom, refsInL_nr, *], by first | rfl | simp [keepB, dom]⟩) ?_ ?_
       · exact ⟨by omega, all_snoc hi.2 (by simpa using ‹¬ _›)⟩
       · omega)
    | (unfold zAt; rw [fIdx_at (i := i) (by omega) (by simpa using ‹_›) hi.2])
    | (unfold zAt; rw [fIdx_none fun j hj => hi.2 j (by omega)])
def t_zoneAt : List AV → Option (Prop × AV)
  | [.sl zst 5 zsx, .str s] => some ((((zsx.map unZone).map Zone.row = zsx)) ∧ ((zsx.map unZone).length ≤ 4611686018427387904), .int .i64 (zAt (zsx.map unZone) s))
  | _ => none
theorem h_zoneAt : ∀ args p v, t_zoneAt args = some (p, v) → p → Contract P 89 args [] v [] ∧ noref v = true ∧ No99 v := by
  intro args p v h1 h2
  unfold t_zoneAt at h1
  split at h1
  · rename_i zst zsx s
    cases h1
    obtain ⟨e0, HP⟩ := h2
    have := c_zoneAt zst (zsx.map unZone) s HP
    exact ⟨by simpa only [e0] using this, rfl, trivial⟩
  · cases h1
def t_sZoneAt : List AV → Option (Prop × AV)
  | [.sl zst 5 zsx, .str s] => some ((((zsx.map unZone).map Zone.row = zsx)) ∧ ((zsx.map unZone).length ≤ 4611686018427387904), .int .i64 (zAt (zsx.map unZone) s))
  | _ => none
theorem h_sZoneAt : ∀ args p v, t_sZoneAt args = some (p, v) → p → Contract P 74 args [] v [] ∧ noref v = true ∧ No99 v := by
  intro args p v h1 h2
  unfold t_sZoneAt at h1
  split at h1
  · rename_i zst zsx s
    cases h1
    obtain ⟨e0, HP⟩ := h2
    have := c_sZoneAt zst (zsx.map unZone) s HP
    exact ⟨by simpa only [e0] using this, rfl, trivial⟩
  · cases h1
def boxesIn (zs : List Zone) (b : Box6) : Prop := b.ok ∧ ∃ i, i < zs.length ∧ (zs.getD i default).over b.x b.y
def tubeOk (zs : List Zone) (tu : List Box6) : Prop := (1 ≤ tu.length ∧ tu.length ≤ 20) ∧ ∀ i, i < tu.length → boxesIn zs (tu.getD i default)
noncomputable instance (zs : List Zone) (tu : List Box6) : Decidable (tubeOk zs tu) := Classical.propDecidable _
theorem c_tubeOk (t t' : Nat) (zs : List Zone) (tu : List Box6) (hz : zs.length ≤ 4611686018427387904) (hl : tu.length ≤ 4611686018427387904) : Contract P 85 [.sl t 5 (zs.map Zone.row), .sl t' 6 (tu.map Box6.row)] [] (.bool (decide (tubeOk zs tu))) [] := by
  refine fn_sound ((((Env.nil P).addR 104 r_tubeC h_tubeC).add 82 t_within h_within).add 91 t_handBox h_handBox) hm k_impl_tubeOk (Nat.le_of_ble_eq_true rfl) rfl ?_; unfold s_impl_tubeOk; simp (config := { maxSteps := 2000000 }) only [bitvec_to_nat, reduceIte, Nat.reduceEqDiff, Nat.reduceAdd, Nat.reduceLeDiff, reduceCtorEq, Nat.reduceBEq, Nat.reduceLT, List.forall_mem_cons, retG_ret, retQ_eq, retQ_eqN, retOk, keepB, re_tupl, orr_t, t_within, t_handBox, r_tubeC, Zone.row, Zone_eta, Box6.row, box_eta6, tk_map, dp_map, toNat_pred, un_Zone]
  refine ⟨fun h1 => ?_, fun h1 => by grind [tubeOk]⟩
  · refine loop_st (fun i : Nat => [(13, .int .i64 i)]) (fun _ => []) (fun i => i ≤ tu.length ∧ ∀ j, j < i → boxesIn zs (tu.getD j default)) (fun i => tu.length - i) (0) (by simp only [u_E0, u_E1, u_M0, u_M1, w_setE0, w_setE1, w_setM0, w_setM1, reduceIte, Nat.reduceEqDiff]; exact ⟨by repeat' (first | exact trivial | refine ⟨.inr rfl, ?_⟩), by repeat' (first | exact trivial | refine ⟨rfl, ?_⟩), by first | rfl | simp [closedB, refsIn, refsInL, refsInO, dom, refsInL_nr, *], by first | rfl | simp [keepB, dom]⟩) ?_ ?_
    · exact ⟨Nat.zero_le _, by intro j hj; omega⟩
    intro i hi NX hN
    unfold l_impl_tubeOk_0; simp (config := { maxSteps := 2000000 }) only [bitvec_to_nat, reduceIte, Nat.reduceEqDiff, Nat.reduceAdd, Nat.reduceLeDiff, reduceCtorEq, Nat.reduceBEq, Nat.reduceLT, List.forall_mem_cons, retG_ret, retQ_eq, retQ_eqN, retOk, keepB, re_tupl, orr_t, t_within, t_handBox, r_tubeC, Zone.row, Zone_eta, Box6.row, box_eta6, tk_map, dp_map, toNat_pred, un_Zone]
    repeat' (first | with_reducible apply And.intro | with_reducible intro _)
    all_goals first
      | exact trivial
      | omega
      | (refine hN (i + 1) _ (by simp only [u_E0, u_E1, u_M0, u_M1, w_setE0, w_setE1, w_setM0, w_setM1, reduceIte, Nat.reduceEqDiff]; exact ⟨by repeat' (first | exact trivial | refine ⟨.inr rfl, ?_⟩), by repeat' (first | exact trivial | refine ⟨rfl, ?_⟩), by first | rfl | simp [closedB, refsIn, refsInL, refsInO, dom, refsInL_nr, *], by first | rfl | simp [keepB, dom]⟩) ?_ ?_
         · exact ⟨by omega, all_snoc hi.2 (by grind [tubeOk, boxesIn])⟩
         · omega)
      | grind [tubeOk, boxesIn]
end
end Go.Ve

namespace Go.Ve
noncomputable section
open Go.Proofs
set_option linter.unusedSimpArgs false
set_option linter.unusedVariables false
set_option maxRecDepth 100000
theorem unZone_mk {a : ByteArray} {b c d e : Int} : unZone [.str a, .int .i64 b, .int .i64 c, .int .i64 d, .int .i64 e] = ⟨a, b, c, d, e⟩ := rfl
def Zone.sees (z : Zone) (b : Box6) : Prop := b.ok ∧ (z.x0 - 1 ≤ b.x ∧ b.x ≤ z.x1 + 1) ∧ (z.y0 - 1 ≤ b.y ∧ b.y ≤ z.y1 + 1)
instance (z : Zone) (b : Box6) : Decidable (z.sees b) := Classical.propDecidable _
def partOf (z : Zone) (tu : List Box6) : List Box6 := if zonesOk [z] then tu.filter (fun b => decide (z.sees b)) else []
def t_tubeOk : List AV → Option (Prop × AV)
  | [.sl zst 5 zsx, .sl tut 6 tux] => some ((((zsx.map unZone).map Zone.row = zsx) ∧ ((tux.map unBox).map Box6.row = tux)) ∧ ((zsx.map unZone).length ≤ 4611686018427387904 ∧ (tux.map unBox).length ≤ 4611686018427387904), .bool (decide (tubeOk (zsx.map unZone) (tux.map unBox))))
  | _ => none
theorem h_tubeOk : ∀ args p v, t_tubeOk args = some (p, v) → p → Contract P 85 args [] v [] ∧ noref v = true ∧ No99 v := by
  intro args p v h1 h2
  unfold t_tubeOk at h1
  split at h1
  · rename_i zst zsx tut tux
    cases h1
    obtain ⟨⟨e0, e1⟩, HP⟩ := h2
    have := c_tubeOk zst tut (zsx.map unZone) (tux.map unBox) HP.1 HP.2
    exact ⟨by simpa only [e0, e1] using this, rfl, trivial⟩
  · cases h1
theorem c_sTubeOk (t t' : Nat) (zs : List Zone) (tu : List Box6) (hz : zs.length ≤ 4611686018427387904) (hl : tu.length ≤ 4611686018427387904) : Contract P 55 [.sl t 5 (zs.map Zone.row), .sl t' 6 (tu.map Box6.row)] [] (.bool (decide (zonesOk zs ∧ tubeOk zs tu))) [] := by
  refine fn_sound (((((Env.nil P).add 50 t_sZonesOk h_sZonesOk).add 51 t_l31In h_l31In).add 75 t_sOver h_sOver).add 76 t_l31BoxOk h_l31BoxOk) hm k_spec_HandTubeOk (Nat.le_of_ble_eq_true rfl) rfl ?_; unfold s_spec_HandTubeOk; simp (config := { maxSteps := 2000000 }) only [bitvec_to_nat, reduceIte, Nat.reduceEqDiff, Nat.reduceAdd, Nat.reduceLeDiff, reduceCtorEq, Nat.reduceBEq, Nat.reduceLT, List.forall_mem_cons, t_sZonesOk, t_l31In, t_sOver, t_l31BoxOk, Zone.row, Zone_eta, Box6.row, box_eta6, tk_map, dp_map, toNat_pred, unZone_mk, appE, rowsOf, List.take_length, List.length_cons, List.length_nil, Nat.zero_add, srow, irow, un_s, un_i, un_box, un_Zone, un_Own, un_Part, un_Seen, un_Word, un_Zone]
  refine ⟨hz, fun h1 => ⟨fun h2 => ?_, fun h2 h => by grind [tubeOk]⟩, fun h1 h => h1 h.1⟩
  · refine loop_st (fun i : Nat => [(5, .int .i64 i)]) (fun _ => []) (fun i => i ≤ tu.length ∧ ∀ j, j < i → boxesIn zs (tu.getD j default)) (fun i => tu.length - i) (0) (by simp only [u_E0, u_E1, u_M0, u_M1, w_setE0, w_setE1, w_setM0, w_setM1, reduceIte, Nat.reduceEqDiff]; exact ⟨by repeat' (first | exact trivial | refine ⟨.inr rfl, ?_⟩), by repeat' (first | exact trivial | refine ⟨rfl, ?_⟩), by first | rfl | simp [closedB, refsIn, refsInL, refsInO, dom, refsInL_nr, *], by first | rfl | simp [keepB, dom]⟩) ?_ ?_
    · exact ⟨Nat.zero_le _, by intro j hj; omega⟩
    intro i hi NX hN
    unfold l_spec_HandTubeOk_1; simp (config := { maxSteps := 2000000 }) only [bitvec_to_nat, reduceIte, Nat.reduceEqDiff, Nat.reduceAdd, Nat.reduceLeDiff, reduceCtorEq, Nat.reduceBEq, Nat.reduceLT, List.forall_mem_cons, t_sZonesOk, t_l31In, t_sOver, t_l31BoxOk, Zone.row, Zone_eta, Box6.row, box_eta6, tk_map, dp_map, toNat_pred, unZone_mk, appE, rowsOf, List.take_length, List.length_cons, List.length_nil, Nat.zero_add, srow, irow, un_s, un_i, un_box, un_Zone, un_Own, un_Part, un_Seen, un_Word, un_Zone]
    repeat' (first | with_reducible apply And.intro | with_reducible intro _)
    · refine loop_st (fun a : Nat × Bool => [(6, .bool a.2), (7, .int .i64 a.1)]) (fun _ => []) (fun a => a.1 ≤ zs.length ∧ (a.2 = true ↔ ∃ k, k < a.1 ∧ (zs.getD k default).over (tu.getD i default).x (tu.getD i default).y)) (fun a => zs.length - a.1) ((0, false)) (by simp only [u_E0, u_E1, u_M0, u_M1, w_setE0, w_setE1, w_setM0, w_setM1, reduceIte, Nat.reduceEqDiff]; exact ⟨by repeat' (first | exact trivial | refine ⟨.inr rfl, ?_⟩), by repeat' (first | exact trivial | refine ⟨rfl, ?_⟩), by first | rfl | simp [closedB, refsIn, refsInL, refsInO, dom, refsInL_nr, *], by first | rfl | simp [keepB, dom]⟩) ?_ ?_
      · exact ⟨Nat.zero_le _, by simp⟩
      rintro ⟨k, b⟩ hk NX2 hN2
      unfold l_spec_HandTubeOk_0; simp (config := { maxSteps := 2000000 }) only [bitvec_to_nat, reduceIte, Nat.reduceEqDiff, Nat.reduceAdd, Nat.reduceLeDiff, reduceCtorEq, Nat.reduceBEq, Nat.reduceLT, List.forall_mem_cons, t_sZonesOk, t_l31In, t_sOver, t_l31BoxOk, Zone.row, Zone_eta, Box6.row, box_eta6, tk_map, dp_map, toNat_pred, unZone_mk, appE, rowsOf, List.take_length, List.length_cons, List.length_nil, Nat.zero_add, srow, irow, un_s, un_i, un_box, un_Zone, un_Own, un_Part, un_Seen, un_Word, un_Zone]
      simp only at hk
      have sn : ∀ b' : Bool, (b' = true ↔ b = true ∨ (zs.getD k default).over (tu.getD i default).x (tu.getD i default).y) → (b' = true ↔ ∃ j, j < k + 1 ∧ (zs.getD j default).over (tu.getD i default).x (tu.getD i default).y) := by
        intro b' hb'
        rw [hb', hk.2]
        constructor
        · rintro (⟨j, h1, h2⟩ | h)
          · exact ⟨j, by omega, h2⟩
          · exact ⟨k, by omega, h⟩
        · rintro ⟨j, h1, h2⟩
          by_cases e : j = k
          · subst e; exact .inr h2
          · exact .inl ⟨j, by omega, h2⟩
      have fin : k = zs.length → (b = true ↔ ∃ k, k < zs.length ∧ (zs.getD k default).over (tu.getD i default).x (tu.getD i default).y) := fun e => e ▸ hk.2
      refine ⟨fun h3 => ?_, fun h3 => ?_⟩
      · cases b <;> (simp (config := { maxSteps := 2000000 }) only [bitvec_to_nat, reduceIte, Nat.reduceEqDiff, Nat.reduceAdd, Nat.reduceLeDiff, reduceCtorEq, Nat.reduceBEq, Nat.reduceLT, List.forall_mem_cons, t_sZonesOk, t_l31In, t_sOver, t_l31BoxOk, Zone.row, Zone_eta, Box6.row, box_eta6, tk_map, dp_map, toNat_pred, unZone_mk, appE, rowsOf, List.take_length, List.length_cons, List.length_nil, Nat.zero_add, srow, irow, un_s, un_i, un_box, un_Zone, un_Own, un_Part, un_Seen, un_Word, un_Zone])
        · refine ⟨by omega, by omega, by omega, by omega, by omega, ?_⟩
          refine hN2 ((k + 1, _)) _ (by simp only [u_E0, u_E1, u_M0, u_M1, w_setE0, w_setE1, w_setM0, w_setM1, reduceIte, Nat.reduceEqDiff]; exact ⟨by repeat' (first | exact trivial | refine ⟨.inr rfl, ?_⟩), by repeat' (first | exact trivial | refine ⟨rfl, ?_⟩), by first | rfl | simp [closedB, refsIn, refsInL, refsInO, dom, refsInL_nr, *], by first | rfl | simp [keepB, dom]⟩) ?_ ?_
          · exact ⟨by simp only; omega, sn _ (by simp)⟩
          · simp only; omega
        · refine ⟨by omega, ?_⟩
          refine hN2 ((k + 1, _)) _ (by simp only [u_E0, u_E1, u_M0, u_M1, w_setE0, w_setE1, w_setM0, w_setM1, reduceIte, Nat.reduceEqDiff]; exact ⟨by repeat' (first | exact trivial | refine ⟨.inr rfl, ?_⟩), by repeat' (first | exact trivial | refine ⟨rfl, ?_⟩), by first | rfl | simp [closedB, refsIn, refsInL, refsInO, dom, refsInL_nr, *], by first | rfl | simp [keepB, dom]⟩) ?_ ?_
          · exact ⟨by simp only; omega, sn _ (by simp)⟩
          · simp only; omega
      · have hf := fin (by omega)
        cases b <;> (simp (config := { maxSteps := 2000000 }) only [bitvec_to_nat, reduceIte, Nat.reduceEqDiff, Nat.reduceAdd, Nat.reduceLeDiff, reduceCtorEq, Nat.reduceBEq, Nat.reduceLT, List.forall_mem_cons, t_sZonesOk, t_l31In, t_sOver, t_l31BoxOk, Zone.row, Zone_eta, Box6.row, box_eta6, tk_map, dp_map, toNat_pred, unZone_mk, appE, rowsOf, List.take_length, List.length_cons, List.length_nil, Nat.zero_add, srow, irow, un_s, un_i, un_box, un_Zone, un_Own, un_Part, un_Seen, un_Word, un_Zone])
        · intro h; have := (h.2.2 i (by omega)).2; grind
        · refine ⟨by omega, by omega, fun h4 => ⟨by omega, ?_⟩, fun h4 h => h4 (h.2.2 i (by omega)).1⟩
          refine hN (i + 1) _ (by simp only [u_E0, u_E1, u_M0, u_M1, w_setE0, w_setE1, w_setM0, w_setM1, reduceIte, Nat.reduceEqDiff]; exact ⟨by repeat' (first | exact trivial | refine ⟨.inr rfl, ?_⟩), by repeat' (first | exact trivial | refine ⟨rfl, ?_⟩), by first | rfl | simp [closedB, refsIn, refsInL, refsInO, dom, refsInL_nr, *], by first | rfl | simp [keepB, dom]⟩) ?_ ?_
          · exact ⟨by omega, all_snoc hi.2 ⟨h4, hf.1 rfl⟩⟩
          · omega
    · exact h1
    · exact ⟨by omega, fun j hj => hi.2 j (by omega)⟩
def t_sTubeOk : List AV → Option (Prop × AV)
  | [.sl zst 5 zsx, .sl tut 6 tux] => some ((((zsx.map unZone).map Zone.row = zsx) ∧ ((tux.map unBox).map Box6.row = tux)) ∧ ((zsx.map unZone).length ≤ 4611686018427387904 ∧ (tux.map unBox).length ≤ 4611686018427387904), .bool (decide (zonesOk (zsx.map unZone) ∧ tubeOk (zsx.map unZone) (tux.map unBox))))
  | _ => none
theorem h_sTubeOk : ∀ args p v, t_sTubeOk args = some (p, v) → p → Contract P 55 args [] v [] ∧ noref v = true ∧ No99 v := by
  intro args p v h1 h2
  unfold t_sTubeOk at h1
  split at h1
  · rename_i zst zsx tut tux
    cases h1
    obtain ⟨⟨e0, e1⟩, HP⟩ := h2
    have := c_sTubeOk zst tut (zsx.map unZone) (tux.map unBox) HP.1 HP.2
    exact ⟨by simpa only [e0, e1] using this, rfl, trivial⟩
  · cases h1
def kp (z : Zone) (tu : List Box6) (i : Nat) : List Box6 := (tu.take i).filter (fun b => decide (z.sees b))
def whoOf (zs : List Zone) (tu : List Box6) : List ByteArray := (zs.filter (fun z => decide (0 < (partOf z tu).length))).map (·.nm)
def wk (zs : List Zone) (tu : List Box6) (i : Nat) : List ByteArray := ((zs.take i).filter (fun z => decide (0 < (partOf z tu).length))).map (·.nm)
end
end Go.Ve

namespace Go.Ve
noncomputable section
open Go.Proofs
set_option linter.unusedSimpArgs false
set_option linter.unusedVariables false
set_option maxRecDepth 100000
def Box6.near (a b : Box6) : Prop := a.ok ∧ b.ok ∧ (a.i ≤ b.o ∧ b.i ≤ a.o) ∧ (a.l ≤ b.h ∧ b.l ≤ a.h) ∧ (-1 ≤ a.x - b.x ∧ a.x - b.x ≤ 1) ∧ (-1 ≤ a.y - b.y ∧ a.y - b.y ≤ 1)
instance (a b : Box6) : Decidable (a.near b) := Classical.propDecidable _
def nearT (a b : List Box6) : Prop := ∃ i, i < a.length ∧ ∃ k, k < b.length ∧ (a.getD i default).near (b.getD k default)
instance (a b : List Box6) : Decidable (nearT a b) := Classical.propDecidable _
instance (v : ByteArray) (l : List ByteArray) : Decidable (v ∈ l) := Classical.propDecidable _
def allIn (gr who : List ByteArray) : Prop := ∀ i, i < who.length → who.getD i default ∈ gr
instance (gr who : List ByteArray) : Decidable (allIn gr who) := Classical.propDecidable _
def seenOf (l : List Seen) (f : ByteArray) : Int := if 0 ≤ fIdx (fun s => decide (s.fl = f)) l then (l.getD (fIdx (fun s => decide (s.fl = f)) l).toNat default).nr else 0
end
end Go.Ve

namespace Go.Ve
noncomputable section
open Go.Proofs
set_option linter.unusedSimpArgs false
set_option linter.unusedVariables false
set_option maxRecDepth 100000
def heldOk (zs : List Zone) (n : Int) (tu : List Box6) : Prop := (n = 0 → tu.length = 0) ∧ (n ≠ 0 → tubeOk zs tu)
instance (zs : List Zone) (n : Int) (tu : List Box6) : Decidable (heldOk zs n tu) := Classical.propDecidable _
def grAt (wh gr : List ByteArray) (i : Nat) : Prop := gr.getD i default ∈ wh ∧ (0 < i → slt (gr.getD (i - 1) default) (gr.getD i default))
def ownOk1 (zs : List Zone) (o : Own) : Prop := nameOk o.fl ∧ (1 ≤ o.st ∧ o.st ≤ 3) ∧ (1 ≤ o.tn ∧ o.tn ≤ 1000000) ∧ (0 ≤ o.la ∧ o.la ≤ 1000000) ∧ (0 ≤ o.nr ∧ o.nr ≤ o.la) ∧ (0 ≤ o.wi ∧ o.wi ≤ o.la) ∧ (o.wi ≠ 0 → o.nr < o.wi)
def ownOk2 (zs : List Zone) (o : Own) : Prop := (o.st = 1 ↔ o.dst = ⟨#[]⟩) ∧ (o.st ≠ 1 → 0 ≤ zAt zs o.dst) ∧ (o.st ≠ 1 → o.wi = 0) ∧ (o.st = 2 → o.nr ≠ 0)
def ownOk3 (zs : List Zone) (o : Own) : Prop := heldOk zs o.nr o.tu ∧ heldOk zs o.wi o.nx
def ownOk4 (zs : List Zone) (o : Own) : Prop := (∀ i, i < o.gr.length → grAt (whoOf zs o.nx) o.gr i) ∧ (o.sent = true ↔ 0 < o.wi ∧ allIn o.gr (whoOf zs o.nx))
def ownOk (zs : List Zone) (o : Own) : Prop := ownOk1 zs o ∧ ownOk2 zs o ∧ ownOk3 zs o ∧ ownOk4 zs o
instance (zs : List Zone) (o : Own) : Decidable (ownOk zs o) := Classical.propDecidable _
def ownAt (zs : List Zone) (l : List Own) (i : Nat) : Prop := ownOk zs (l.getD i default) ∧ (0 < i → slt (l.getD (i - 1) default).fl (l.getD i default).fl)
def ownsOk (zs : List Zone) (l : List Own) : Prop := l.length ≤ 6 ∧ ∀ i, i < l.length → ownAt zs l i
instance (zs : List Zone) (l : List Own) : Decidable (ownsOk zs l) := Classical.propDecidable _
def Part.before (a p : Part) : Prop := slt a.fl p.fl ∨ (a.fl = p.fl ∧ a.nr < p.nr)
instance (a p : Part) : Decidable (a.before p) := Classical.propDecidable _
def partAt (zs : List Zone) (b : Book) (i : Nat) : Prop := nameOk (b.parts.getD i default).fl ∧ (1 ≤ (b.parts.getD i default).nr ∧ (b.parts.getD i default).nr ≤ seenOf b.seen (b.parts.getD i default).fl) ∧ tubeOk zs (b.parts.getD i default).bx ∧
  (0 < i → (b.parts.getD (i - 1) default).before (b.parts.getD i default)) ∧ ∀ k, k < i → (b.parts.getD k default).fl ≠ (b.parts.getD i default).fl → ¬ nearT (b.parts.getD k default).bx (b.parts.getD i default).bx
def partsOk (zs : List Zone) (b : Book) : Prop := b.parts.length ≤ 16 ∧ ∀ i, i < b.parts.length → partAt zs b i
instance (zs : List Zone) (b : Book) : Decidable (partsOk zs b) := Classical.propDecidable _
def seenAt (l : List Seen) (i : Nat) : Prop := nameOk (l.getD i default).fl ∧ (1 ≤ (l.getD i default).nr ∧ (l.getD i default).nr ≤ 1000000) ∧ (0 < i → slt (l.getD (i - 1) default).fl (l.getD i default).fl)
def seenOk (l : List Seen) : Prop := l.length ≤ 6 ∧ ∀ i, i < l.length → seenAt l i
def bookOk (zs : List Zone) (b : Book) : Prop := ownsOk zs b.own ∧ partsOk zs b ∧ seenOk b.seen
instance (zs : List Zone) (b : Book) : Decidable (bookOk zs b) := Classical.propDecidable _
/-- Lists that are not too long for a machine. -/
def Own.small (o : Own) : Prop := o.tu.length ≤ 1048576 ∧ o.nx.length ≤ 1048576 ∧ o.gr.length ≤ 1048576
def Book.small (b : Book) : Prop := (b.own.length ≤ 1048576 ∧ ∀ o ∈ b.own, o.small) ∧ (b.parts.length ≤ 1048576 ∧ ∀ p ∈ b.parts, p.bx.length ≤ 1048576) ∧ b.seen.length ≤ 1048576
end
end Go.Ve

namespace Go.Ve
noncomputable section
open Go.Proofs
set_option linter.unusedSimpArgs false
set_option linter.unusedVariables false
set_option maxRecDepth 100000
end
end Go.Ve

namespace Go.Ve
noncomputable section
open Go.Proofs
set_option linter.unusedSimpArgs false
set_option linter.unusedVariables false
set_option maxRecDepth 100000
instance (zs : List Zone) (o : Own) : Decidable (ownOk4 zs o) := Classical.propDecidable _
end
end Go.Ve

namespace Go.Ve
noncomputable section
open Go.Proofs
set_option linter.unusedSimpArgs false
set_option linter.unusedVariables false
set_option maxRecDepth 100000
end
end Go.Ve

namespace Go.Ve
noncomputable section
open Go.Proofs
set_option linter.unusedSimpArgs false
set_option linter.unusedVariables false
set_option maxRecDepth 100000
open Go.ChangeShapes Go.WideShapes
/-- What is left when a list is counted, and each of its parts. -/
def szS {α : Type} (f : α → Int → Int) (l : List α) (a : Int) : Int := l.foldl (fun a x => f x a) (szOf a l.length)
def szStr (s : ByteArray) (a : Int) : Int := szOf a s.toList.length
def Meas {α : Type} (f : α → Int → Int) : Prop := ∀ x a, a ≤ 1048576 → (f x a = -1 ∨ 0 ≤ f x a) ∧ (a < 0 → f x a = -1) ∧ f x a ≤ max a (-1)
def chk (x : Int) (k : Int → Int) : Int := if x < 0 then -1 else k x
def Meas1 (g : Int → Int) : Prop := ∀ a, a ≤ 1048576 → (g a = -1 ∨ 0 ≤ g a) ∧ (a < 0 → g a = -1) ∧ g a ≤ max a (-1)
def MeasP (g : Int → Int) : Prop := ∀ a, 0 ≤ a → a ≤ 1048576 → (g a = -1 ∨ 0 ≤ g a) ∧ g a ≤ a
theorem Meas1.p {g : Int → Int} (h : Meas1 g) : MeasP g := fun a h0 h1 => ⟨(h a h1).1, by have := (h a h1).2.2; omega⟩
theorem measP_id : MeasP fun z => z := fun a h0 h1 => ⟨.inr h0, Int.le_refl a⟩
theorem chk_sub {k : Int → Int} (n : Nat) (h : MeasP k) : Meas1 fun a => chk (a - n) k := fun a ha => by
  simp only [chk]
  split
  · exact ⟨.inl rfl, fun _ => rfl, by omega⟩
  · rename_i h1
    have := h (a - n) (by omega) (by omega)
    exact ⟨this.1, fun _ => by omega, by omega⟩
theorem chk_g {g k : Int → Int} (hg : Meas1 g) (h : MeasP k) : Meas1 fun a => chk (g a) k := fun a ha => by
  have m := hg a ha
  simp only [chk]
  split
  · exact ⟨.inl rfl, fun _ => rfl, by omega⟩
  · rename_i h1
    have := h (g a) (by omega) (by omega)
    exact ⟨this.1, fun h2 => by have := m.2.1 h2; omega, by omega⟩
theorem chk_ok {x : Int} {k : Int → Int} (h : 0 ≤ chk x k) : 0 ≤ x ∧ 0 ≤ k x := by
  unfold chk at h; split at h
  · omega
  · exact ⟨by omega, h⟩
theorem meas_str : Meas szStr := fun x a _ => by unfold szStr szOf; split <;> omega
theorem meas_len {α : Type} : Meas (fun (l : List α) a => szOf a l.length) := fun x a _ => by simp only; unfold szOf; split <;> omega
theorem fold_meas {α : Type} {f : α → Int → Int} (h : Meas f) : ∀ (l : List α) (a : Int), a ≤ 1048576 → (a = -1 ∨ 0 ≤ a) → (l.foldl (fun a x => f x a) a = -1 ∨ 0 ≤ l.foldl (fun a x => f x a) a) ∧ (a < 0 → l.foldl (fun a x => f x a) a = -1) ∧ l.foldl (fun a x => f x a) a ≤ max a (-1)
  | [], a, h1, h2 => ⟨h2, fun h3 => by simp only [List.foldl_nil]; omega, by simp only [List.foldl_nil]; omega⟩
  | x :: l, a, h1, h2 => by
    obtain ⟨k1, k2, k3⟩ := h x a h1
    obtain ⟨i1, i2, i3⟩ := fold_meas h l (f x a) (by omega) k1
    simp only [List.foldl_cons]
    exact ⟨i1, fun h3 => i2 (by have := k2 h3; omega), by omega⟩
theorem meas_szS {α : Type} {f : α → Int → Int} (h : Meas f) : Meas (szS f) := fun l a ha => by
  unfold szS
  have h0 : (szOf a l.length = -1 ∨ 0 ≤ szOf a l.length) ∧ (a < 0 → szOf a l.length = -1) ∧ szOf a l.length ≤ max a (-1) := by unfold szOf; split <;> omega
  obtain ⟨i1, i2, i3⟩ := fold_meas h l (szOf a l.length) (by omega) h0.1
  exact ⟨i1, fun h3 => i2 (by have := h0.2.1 h3; omega), by omega⟩
/-- A list that was counted is small, and so are its parts. -/
theorem fold_ok {α : Type} {f : α → Int → Int} {p : α → Prop} (h : Meas f) (hp : ∀ x a, a ≤ 1048576 → 0 ≤ f x a → p x) : ∀ (l : List α) (a : Int), a ≤ 1048576 → (a = -1 ∨ 0 ≤ a) → 0 ≤ l.foldl (fun a x => f x a) a → ∀ x ∈ l, p x
  | [], _, _, _, _, x, hx => by simp at hx
  | y :: l, a, h1, h2, h3, x, hx => by
    simp only [List.foldl_cons] at h3
    obtain ⟨k1, k2, k3⟩ := h y a h1
    have hy : 0 ≤ f y a := by
      rcases k1 with k1 | k1
      · have := (fold_meas h l (f y a) (by omega) (.inl k1)).2.1 (by omega); omega
      · exact k1
    rcases List.mem_cons.1 hx with rfl | hx
    · exact hp _ a h1 hy
    · exact fold_ok h hp l (f y a) (by omega) (.inr hy) h3 x hx
theorem szS_ok {α : Type} {f : α → Int → Int} {p : α → Prop} (h : Meas f) (hp : ∀ x a, a ≤ 1048576 → 0 ≤ f x a → p x) {l : List α} {a : Int} (ha : a ≤ 1048576) (h0 : 0 ≤ szS f l a) : l.length ≤ 1048576 ∧ ∀ x ∈ l, p x := by
  unfold szS at h0
  have hs : (szOf a l.length = -1 ∨ 0 ≤ szOf a l.length) ∧ szOf a l.length ≤ 1048576 := by unfold szOf; split <;> omega
  refine ⟨?_, fold_ok h hp l _ hs.2 hs.1 h0⟩
  rcases hs.1 with e | e
  · have := (fold_meas h l _ hs.2 (.inl e)).2.1 (by omega); omega
  · unfold szOf at e; split at e <;> omega
theorem szOf_ok {a : Int} {n : Nat} (ha : a ≤ 1048576) (h0 : 0 ≤ szOf a n) : n ≤ 1048576 := by unfold szOf at h0; split at h0 <;> omega
/-- One more part of a list. -/
theorem fold_take {α : Type} [Inhabited α] {f : α → Int → Int} {l : List α} {i : Nat} {a : Int} (hi : i < l.length) : (l.take (i + 1)).foldl (fun a x => f x a) a = f (l.getD i default) ((l.take i).foldl (fun a x => f x a) a) := by
  have e : l.getD i default = l[i] := by simp [hi]
  rw [e, List.take_succ_eq_append_getElem hi, List.foldl_append]; rfl
theorem fold_stop {α : Type} [Inhabited α] {f : α → Int → Int} (h : Meas f) {l : List α} {i : Nat} {a : Int} (hi : i < l.length) (ha : a ≤ 1048576) (h0 : a = -1 ∨ 0 ≤ a) (hn : f (l.getD i default) ((l.take i).foldl (fun a x => f x a) a) < 0) : l.foldl (fun a x => f x a) a = -1 := by
  rw [← fold_take (f := f) hi] at hn
  have e : l.foldl (fun a x => f x a) a = (l.drop (i + 1)).foldl (fun a x => f x a) ((l.take (i + 1)).foldl (fun a x => f x a) a) := by
    rw [← List.foldl_append, List.take_append_drop]
  rw [e]
  have k := fold_meas h (l.take (i + 1)) a ha h0
  exact (fold_meas h _ _ (by omega) k.1).2.1 hn
theorem fit_rows2 {α : Type} {f : α → List AV} {p : α → Prop} {rs : List LSh} (h : ∀ r, fitsL rs r → ∃ x : α, r = f x ∧ p x) : ∀ {rows : List (List AV)}, (∀ r ∈ rows, fitsL rs r) → ∃ l : List α, rows = l.map f ∧ ∀ x ∈ l, p x
  | [], _ => ⟨[], rfl, by simp⟩
  | r :: rows, k => by
    obtain ⟨x, rfl, hx⟩ := h r (k r (by simp))
    obtain ⟨l, rfl, hl⟩ := fit_rows2 h (rows := rows) fun r' h' => k r' (by simp [h'])
    exact ⟨x :: l, rfl, by simpa using ⟨hx, hl⟩⟩
theorem getD_mem' {α : Type} [Inhabited α] {l : List α} {i : Nat} (h : i < l.length) : l.getD i default ∈ l := by simp [h]
def Zone.fitp (s : Zone) : Prop := s.nm.toList.length ≤ 9223372036854775807
def Zone.sz (s : Zone) (z0 : Int) : Int := chk (z0 - (s.nm.toList.length : Nat)) (fun z1 => z1)
theorem meas_Zone : Meas Zone.sz := fun s => chk_sub _ (measP_id)
def Seen.fitp (s : Seen) : Prop := s.fl.toList.length ≤ 9223372036854775807
def Seen.sz (s : Seen) (z0 : Int) : Int := chk (z0 - (s.fl.toList.length : Nat)) (fun z1 => z1)
theorem meas_Seen : Meas Seen.sz := fun s => chk_sub _ (measP_id)
def Own.fitp (s : Own) : Prop := s.fl.toList.length ≤ 9223372036854775807 ∧ s.dst.toList.length ≤ 9223372036854775807 ∧ s.tu.length ≤ 9223372036854775807 ∧ s.nx.length ≤ 9223372036854775807 ∧ (s.gr.length ≤ 9223372036854775807 ∧ ∀ y ∈ s.gr, y.toList.length ≤ 9223372036854775807)
def Own.sz (s : Own) (z0 : Int) : Int := chk (z0 - (s.fl.toList.length : Nat)) (fun z1 => chk (z1 - (s.dst.toList.length : Nat)) (fun z2 => chk (szOf z2 s.tu.length) (fun z3 => chk (szOf z3 s.nx.length) (fun z4 => chk (szS szStr s.gr z4) (fun z5 => z5)))))
theorem meas_Own : Meas Own.sz := fun s => chk_sub _ (Meas1.p (chk_sub _ (Meas1.p (chk_g (fun a => meas_len s.tu a) (Meas1.p (chk_g (fun a => meas_len s.nx a) (Meas1.p (chk_g (fun a => meas_szS meas_str s.gr a) (measP_id)))))))))
theorem Own.sz_ok {s : Own} {a : Int} (ha : a ≤ 1048576) (h : 0 ≤ s.sz a) : s.small := by
  unfold Own.sz at h
  have b0 : a ≤ 1048576 := ha
  obtain ⟨p0, h⟩ := chk_ok h
  have b1 : (a) - (s.fl.toList.length : Nat) ≤ 1048576 := by omega
  obtain ⟨p1, h⟩ := chk_ok h
  have b2 : ((a) - (s.fl.toList.length : Nat)) - (s.dst.toList.length : Nat) ≤ 1048576 := by omega
  obtain ⟨p2, h⟩ := chk_ok h
  have b3 : szOf (((a) - (s.fl.toList.length : Nat)) - (s.dst.toList.length : Nat)) s.tu.length ≤ 1048576 := by have := (meas_len s.tu (((a) - (s.fl.toList.length : Nat)) - (s.dst.toList.length : Nat)) b2).2.2; simp only at this; omega
  have k2 := szOf_ok b2 p2
  obtain ⟨p3, h⟩ := chk_ok h
  have b4 : szOf (szOf (((a) - (s.fl.toList.length : Nat)) - (s.dst.toList.length : Nat)) s.tu.length) s.nx.length ≤ 1048576 := by have := (meas_len s.nx (szOf (((a) - (s.fl.toList.length : Nat)) - (s.dst.toList.length : Nat)) s.tu.length) b3).2.2; simp only at this; omega
  have k3 := szOf_ok b3 p3
  obtain ⟨p4, h⟩ := chk_ok h
  have b5 : szS szStr s.gr (szOf (szOf (((a) - (s.fl.toList.length : Nat)) - (s.dst.toList.length : Nat)) s.tu.length) s.nx.length) ≤ 1048576 := by have := (meas_szS meas_str s.gr (szOf (szOf (((a) - (s.fl.toList.length : Nat)) - (s.dst.toList.length : Nat)) s.tu.length) s.nx.length) b4).2.2; omega
  have k4 := szS_ok (p := fun _ => True) meas_str (fun _ _ _ _ => trivial) b4 p4
  exact ⟨k2, k3, k4.1⟩
def Part.fitp (s : Part) : Prop := s.fl.toList.length ≤ 9223372036854775807 ∧ s.bx.length ≤ 9223372036854775807
def Part.small (s : Part) : Prop := s.bx.length ≤ 1048576
def Part.sz (s : Part) (z0 : Int) : Int := chk (z0 - (s.fl.toList.length : Nat)) (fun z1 => chk (szOf z1 s.bx.length) (fun z2 => z2))
theorem meas_Part : Meas Part.sz := fun s => chk_sub _ (Meas1.p (chk_g (fun a => meas_len s.bx a) (measP_id)))
theorem Part.sz_ok {s : Part} {a : Int} (ha : a ≤ 1048576) (h : 0 ≤ s.sz a) : s.small := by
  unfold Part.sz at h
  have b0 : a ≤ 1048576 := ha
  obtain ⟨p0, h⟩ := chk_ok h
  have b1 : (a) - (s.fl.toList.length : Nat) ≤ 1048576 := by omega
  obtain ⟨p1, h⟩ := chk_ok h
  have b2 : szOf ((a) - (s.fl.toList.length : Nat)) s.bx.length ≤ 1048576 := by have := (meas_len s.bx ((a) - (s.fl.toList.length : Nat)) b1).2.2; simp only at this; omega
  have k1 := szOf_ok b1 p1
  exact k1
def Book.fitp (s : Book) : Prop := (s.own.length ≤ 9223372036854775807 ∧ ∀ y ∈ s.own, y.fitp) ∧ (s.parts.length ≤ 9223372036854775807 ∧ ∀ y ∈ s.parts, y.fitp) ∧ (s.seen.length ≤ 9223372036854775807 ∧ ∀ y ∈ s.seen, y.fitp)
def Book.sz (s : Book) (z0 : Int) : Int := chk (szS Own.sz s.own z0) (fun z1 => chk (szS Part.sz s.parts z1) (fun z2 => chk (szS Seen.sz s.seen z2) (fun z3 => z3)))
theorem Book.sz_ok {s : Book} {a : Int} (ha : a ≤ 1048576) (h : 0 ≤ s.sz a) : s.small := by
  unfold Book.sz at h
  have b0 : a ≤ 1048576 := ha
  obtain ⟨p0, h⟩ := chk_ok h
  have b1 : szS Own.sz s.own (a) ≤ 1048576 := by have := (meas_szS meas_Own s.own (a) b0).2.2; omega
  have k0 := szS_ok (p := fun y => Own.small y) meas_Own (fun x a h1 h2 => Own.sz_ok h1 h2) b0 p0
  obtain ⟨p1, h⟩ := chk_ok h
  have b2 : szS Part.sz s.parts (szS Own.sz s.own (a)) ≤ 1048576 := by have := (meas_szS meas_Part s.parts (szS Own.sz s.own (a)) b1).2.2; omega
  have k1 := szS_ok (p := fun y => Part.small y) meas_Part (fun x a h1 h2 => Part.sz_ok h1 h2) b1 p1
  obtain ⟨p2, h⟩ := chk_ok h
  have b3 : szS Seen.sz s.seen (szS Part.sz s.parts (szS Own.sz s.own (a))) ≤ 1048576 := by have := (meas_szS meas_Seen s.seen (szS Part.sz s.parts (szS Own.sz s.own (a))) b2).2.2; omega
  have k2 := szS_ok (p := fun _ => True) meas_Seen (fun _ _ _ _ => trivial) b2 p2
  exact ⟨k0, k1, k2.1⟩
theorem c_szZone (s : Zone) (a : Int) (ha : 0 ≤ a ∧ a ≤ 1048576) (hs : s.fitp) : Contract P 20 [.agg s.row, .int .i64 a] [] (.int .i64 (s.sz a)) [] := by
  unfold Zone.fitp at hs
  simp only [Zone.row]
  refine fn_sound (Env.nil P) hm k_laws_szHandZone (Nat.le_of_ble_eq_true rfl) rfl ?_; unfold s_laws_szHandZone; simp (config := { maxSteps := 2000000 }) only [bitvec_to_nat, reduceIte, Nat.reduceEqDiff, Nat.reduceAdd, Nat.reduceLeDiff, reduceCtorEq, Nat.reduceBEq, Nat.reduceLT, List.forall_mem_cons, Zone.row, Zone_eta, Box6.row, box_eta6, tk_map, dp_map, toNat_pred, unZone_mk, appE, rowsOf, List.take_length, List.length_cons, List.length_nil, Nat.zero_add, srow, irow, un_s, un_i, un_box, un_Zone, un_Own, un_Part, un_Seen, un_Word, Word.row, Word_eta, Own.row, Own_eta, Part.row, Part_eta, Seen.row, Seen_eta, Book.row, Book_eta, Sector.row, Sector_eta, HCraft.row, HCraft_eta, World.row, World_eta, un_Word, un_Own, un_Part, un_Seen, un_Book, un_Sector, un_HCraft, un_World]
  unfold Zone.sz
  repeat' (first | with_reducible apply And.intro | with_reducible intro _)
  all_goals first | omega | (exact hs) | (exact hs.1) | (exact hs.2.1) | (exact hs.2.2) | (exact hs.2.2.1) | (exact hs.2.2.2) | (exact hs.2.2.2.1) | (exact hs.2.2.2.2) | (exact hs.1.1) | (exact hs.1.2) | (exact hs.2.1.1) | (exact hs.2.1.2) | (unfold chk; grind) | grind
def t_szZone : List AV → Option (Prop × AV)
  | [.agg [.str s_nm, .int .i64 s_x0, .int .i64 s_y0, .int .i64 s_x1, .int .i64 s_y1], .int .i64 b] => some ((True) ∧ ((0 ≤ b ∧ b ≤ 1048576) ∧ (Zone.fitp (Zone.mk s_nm s_x0 s_y0 s_x1 s_y1))), .int .i64 (Zone.sz (Zone.mk s_nm s_x0 s_y0 s_x1 s_y1) b))
  | _ => none
theorem h_szZone : ∀ args p v, t_szZone args = some (p, v) → p → Contract P 20 args [] v [] ∧ noref v = true ∧ No99 v := by
  intro args p v h1 h2
  unfold t_szZone at h1
  split at h1
  · rename_i s_nm s_x0 s_y0 s_x1 s_y1 b
    cases h1
    obtain ⟨_, HP⟩ := h2
    have := c_szZone (Zone.mk s_nm s_x0 s_y0 s_x1 s_y1) b HP.1 HP.2
    exact ⟨by simpa only [Zone.row] using this, rfl, trivial⟩
  · cases h1
theorem c_szZoneS (t : Nat) (l : List Zone) (a : Int) (ha : 0 ≤ a ∧ a ≤ 1048576) (hl : l.length ≤ 9223372036854775807 ∧ ∀ y ∈ l, y.fitp) : Contract P 4 [.sl t 5 (l.map Zone.row), .int .i64 a] [] (.int .i64 (szS Zone.sz l a)) [] := by
  refine fn_sound ((Env.nil P).add 20 t_szZone h_szZone) hm k_laws_szHandZoneS (Nat.le_of_ble_eq_true rfl) rfl ?_; unfold s_laws_szHandZoneS; simp (config := { maxSteps := 2000000 }) only [bitvec_to_nat, reduceIte, Nat.reduceEqDiff, Nat.reduceAdd, Nat.reduceLeDiff, reduceCtorEq, Nat.reduceBEq, Nat.reduceLT, List.forall_mem_cons, t_szZone, Zone.row, Zone_eta, Box6.row, box_eta6, tk_map, dp_map, toNat_pred, unZone_mk, appE, rowsOf, List.take_length, List.length_cons, List.length_nil, Nat.zero_add, srow, irow, un_s, un_i, un_box, un_Zone, un_Own, un_Part, un_Seen, un_Word, Word.row, Word_eta, Own.row, Own_eta, Part.row, Part_eta, Seen.row, Seen_eta, Book.row, Book_eta, Sector.row, Sector_eta, HCraft.row, HCraft_eta, World.row, World_eta, un_Word, un_Own, un_Part, un_Seen, un_Book, un_Sector, un_HCraft, un_World, List.take_zero, List.foldl_nil]
  have hz : szOf a l.length = if a - l.length < 0 then -1 else a - l.length := rfl
  refine ⟨by omega, fun h1 => ?_, fun h1 => ?_⟩
  · unfold szS
    rw [(fold_meas meas_Zone l _ (by omega) (by omega)).2.1 (by omega)]
  have e0 : szOf a l.length = a - l.length := if_neg h1
  refine loop_st (fun i : Nat => [(1, .int .i64 ((l.take i).foldl (fun a x => x.sz a) (a - l.length))), (5, .int .i64 i)]) (fun _ => []) (fun i => i ≤ l.length ∧ 0 ≤ (l.take i).foldl (fun a x => x.sz a) (a - l.length)) (fun i => l.length - i) (0) (by simp only [u_E0, u_E1, u_M0, u_M1, w_setE0, w_setE1, w_setM0, w_setM1, reduceIte, Nat.reduceEqDiff]; exact ⟨by repeat' (first | exact trivial | refine ⟨.inr rfl, ?_⟩), by repeat' (first | exact trivial | refine ⟨rfl, ?_⟩), by first | rfl | simp [closedB, refsIn, refsInL, refsInO, dom, refsInL_nr, *], by first | rfl | simp [keepB, dom]⟩) ?_ ?_
  · simp only [List.take_zero, List.foldl_nil]; omega
  intro i hi NX hN
  have hm := (fold_meas meas_Zone (l.take i) (a - l.length) (by omega) (by omega)).2.2
  have hg : i < l.length → (l.getD i default).fitp := fun h => hl.2 _ (getD_mem' h)
  have hn : i < l.length → (l.take (i + 1)).foldl (fun a x => x.sz a) (a - l.length) = (l.getD i default).sz ((l.take i).foldl (fun a x => x.sz a) (a - l.length)) := fun h => fold_take (f := Zone.sz) h
  have hs : i < l.length → (l.getD i default).sz ((l.take i).foldl (fun a x => x.sz a) (a - l.length)) < 0 → szS Zone.sz l a = -1 := fun h h2 => by unfold szS; rw [e0]; exact fold_stop meas_Zone h (by omega) (by omega) h2
  unfold l_laws_szHandZoneS_0; simp (config := { maxSteps := 2000000 }) only [bitvec_to_nat, reduceIte, Nat.reduceEqDiff, Nat.reduceAdd, Nat.reduceLeDiff, reduceCtorEq, Nat.reduceBEq, Nat.reduceLT, List.forall_mem_cons, t_szZone, Zone.row, Zone_eta, Box6.row, box_eta6, tk_map, dp_map, toNat_pred, unZone_mk, appE, rowsOf, List.take_length, List.length_cons, List.length_nil, Nat.zero_add, srow, irow, un_s, un_i, un_box, un_Zone, un_Own, un_Part, un_Seen, un_Word, Word.row, Word_eta, Own.row, Own_eta, Part.row, Part_eta, Seen.row, Seen_eta, Book.row, Book_eta, Sector.row, Sector_eta, HCraft.row, HCraft_eta, World.row, World_eta, un_Word, un_Own, un_Part, un_Seen, un_Book, un_Sector, un_HCraft, un_World, List.take_zero, List.foldl_nil]
  refine ⟨fun h2 => ⟨by omega, by omega, ⟨⟨by omega, by omega⟩, hg (by omega)⟩, fun h3 => by rw [hs (by omega) h3], fun h3 => ⟨by omega, ?_⟩⟩, fun h2 => ?_⟩
  · have e := hn (by omega)
    refine hN (i + 1) _ (by simp only [e, List.length_append, List.length_cons, List.length_nil, Nat.zero_add, List.map_append, List.map_cons, List.map_nil, u_E0, u_E1, u_M0, u_M1, w_setE0, w_setE1, w_setM0, w_setM1, reduceIte, Nat.reduceEqDiff]; exact ⟨by repeat' (first | exact trivial | refine ⟨.inr rfl, ?_⟩), by repeat' (first | exact trivial | refine ⟨rfl, ?_⟩), by first | rfl | simp [closedB, refsIn, refsInL, refsInO, dom, refsInL_nr, *], by first | rfl | simp [keepB, dom]⟩) ?_ ?_
    · exact ⟨by omega, by rw [e]; omega⟩
    · omega
  · have e : i = l.length := by omega
    subst e
    simp only [List.take_length]; unfold szS; rw [e0]
def t_szZoneS : List AV → Option (Prop × AV)
  | [.sl lt 5 lx, .int .i64 b] => some ((((lx.map unZone).map Zone.row = lx)) ∧ ((0 ≤ b ∧ b ≤ 1048576) ∧ ((lx.map unZone).length ≤ 9223372036854775807 ∧ ∀ y ∈ (lx.map unZone), Zone.fitp y)), .int .i64 (szS Zone.sz (lx.map unZone) b))
  | _ => none
theorem h_szZoneS : ∀ args p v, t_szZoneS args = some (p, v) → p → Contract P 4 args [] v [] ∧ noref v = true ∧ No99 v := by
  intro args p v h1 h2
  unfold t_szZoneS at h1
  split at h1
  · rename_i lt lx b
    cases h1
    obtain ⟨e0, HP⟩ := h2
    have := c_szZoneS lt (lx.map unZone) b HP.1 HP.2
    exact ⟨by simpa only [e0] using this, rfl, trivial⟩
  · cases h1
end
end Go.Ve

namespace Go.Ve
noncomputable section
open Go.Proofs
set_option linter.unusedSimpArgs false
set_option linter.unusedVariables false
set_option maxRecDepth 100000
theorem c_toZone (s : Zone) : Contract P 29 [.agg (s.row)] [] (.agg (s.row)) [] := by
  simp only [Zone.row]
  refine fn_sound (Env.nil P) hm k_laws_toHandZone (Nat.le_of_ble_eq_true rfl) rfl ?_; unfold s_laws_toHandZone; simp (config := { maxSteps := 2000000 }) only [bitvec_to_nat, reduceIte, Nat.reduceEqDiff, Nat.reduceAdd, Nat.reduceLeDiff, reduceCtorEq, Nat.reduceBEq, Nat.reduceLT, List.forall_mem_cons, Zone.row, Zone_eta, Box6.row, box_eta6, tk_map, dp_map, toNat_pred, unZone_mk, appE, rowsOf, List.take_length, List.length_cons, List.length_nil, Nat.zero_add, srow, irow, un_s, un_i, un_box, un_Zone, un_Own, un_Part, un_Seen, un_Word, Word.row, Word_eta, Own.row, Own_eta, Part.row, Part_eta, Seen.row, Seen_eta, Book.row, Book_eta, Sector.row, Sector_eta, HCraft.row, HCraft_eta, World.row, World_eta, un_Word, un_Own, un_Part, un_Seen, un_Book, un_Sector, un_HCraft, un_World]
  all_goals trivial
def t_toZone : List AV → Option (Prop × AV)
  | [.agg [.str s_nm, .int .i64 s_x0, .int .i64 s_y0, .int .i64 s_x1, .int .i64 s_y1]] => some ((True) ∧ (True), .agg (Zone.row (Zone.mk s_nm s_x0 s_y0 s_x1 s_y1)))
  | _ => none
theorem h_toZone : ∀ args p v, t_toZone args = some (p, v) → p → Contract P 29 args [] v [] ∧ noref v = true ∧ No99 v := by
  intro args p v h1 h2
  unfold t_toZone at h1
  split at h1
  · rename_i s_nm s_x0 s_y0 s_x1 s_y1
    cases h1
    obtain ⟨_, HP⟩ := h2
    have := c_toZone (Zone.mk s_nm s_x0 s_y0 s_x1 s_y1)
    exact ⟨by simpa only [Zone.row] using this, rfl, by simp [Zone.row, No99, No99L, no99_box, no99_i, no99_str, no99_Zone, no99_Word, no99_Own, no99_Part, no99_Seen, no99_Book, no99_Sector, no99_HCraft, no99_World, -List.map_map]⟩
  · cases h1
theorem set_Zone {lst : List Zone} {idx : Nat} {vnm : ByteArray} {vx0 : Int} {vy0 : Int} {vx1 : Int} {vy1 : Int} : (lst.map Zone.row).set idx (setSeg ((lst.map Zone.row).getD idx []) 0 [.str vnm, .int .i64 vx0, .int .i64 vy0, .int .i64 vx1, .int .i64 vy1]) = (lst.set idx (Zone.mk vnm vx0 vy0 vx1 vy1)).map Zone.row :=
  set_rows (α := Zone) (f := Zone.row) (fun s => (Zone.mk vnm vx0 vy0 vx1 vy1)) fun x => by simp [Zone.row, setSeg]
def to_Zone (a : List Zone) (i : Nat) : List Zone := a.take i ++ List.replicate (a.length - i) ⟨⟨#[]⟩, 0, 0, 0, 0⟩
theorem to_Zone_st {a : List Zone} {i : Nat} (h : i < a.length) : (to_Zone a i).set i (a.getD i default) = to_Zone a (i + 1) := by
  refine List.ext_getElem (by simp [to_Zone]; omega) fun j h1 h2 => ?_
  by_cases e : j = i
  · subst e
    simp [to_Zone, List.getElem_append, h]
    intro h9; omega
  · simp only [List.getElem_set_ne (Ne.symm e)]
    simp only [to_Zone, List.getElem_append, List.length_take, List.getElem_take, List.getElem_replicate]
    split <;> split <;> first | rfl | omega
theorem c_toZoneS (t : Nat) (a : List Zone) (ha : a.length ≤ 1048576) : Contract P 8 [.sl t 5 (a.map Zone.row)] [] (.sl 0 5 (a.map Zone.row)) [] := by
  refine fn_sound ((Env.nil P).add 29 t_toZone h_toZone) hm k_laws_toHandZoneS (Nat.le_of_ble_eq_true rfl) rfl ?_; unfold s_laws_toHandZoneS; simp (config := { maxSteps := 2000000 }) only [bitvec_to_nat, reduceIte, Nat.reduceEqDiff, Nat.reduceAdd, Nat.reduceLeDiff, reduceCtorEq, Nat.reduceBEq, Nat.reduceLT, List.forall_mem_cons, t_toZone, Zone.row, Zone_eta, Box6.row, box_eta6, tk_map, dp_map, toNat_pred, unZone_mk, appE, rowsOf, List.take_length, List.length_cons, List.length_nil, Nat.zero_add, srow, irow, un_s, un_i, un_box, un_Zone, un_Own, un_Part, un_Seen, un_Word, Word.row, Word_eta, Own.row, Own_eta, Part.row, Part_eta, Seen.row, Seen_eta, Book.row, Book_eta, Sector.row, Sector_eta, HCraft.row, HCraft_eta, World.row, World_eta, un_Word, un_Own, un_Part, un_Seen, un_Book, un_Sector, un_HCraft, un_World, set_Zone, Nat.sub_zero]
  have m0 : List.replicate a.length [.str ⟨#[]⟩, .int .i64 0, .int .i64 0, .int .i64 0, .int .i64 0] = (to_Zone a 0).map Zone.row := by simp [to_Zone, Zone.row]
  refine ⟨by omega, ?_⟩
  refine loop_st (fun i : Nat => [(4, .int .i64 i)]) (fun i => [(107, .arr 64 0 5 ((to_Zone a i).map Zone.row))]) (fun i => i ≤ a.length) (fun i => a.length - i) 0 (by simp only [u_E0, u_E1, u_M0, u_M1, w_setE0, w_setE1, w_setM0, w_setM1, reduceIte, Nat.reduceEqDiff]; exact ⟨by repeat' (first | exact trivial | refine ⟨.inr rfl, ?_⟩), ⟨congrArg (fun g => some (AObj.arr 64 0 5 g)) m0, trivial⟩, rfl, rfl⟩) (Nat.zero_le _) ?_
  intro i hi NX hN
  skip
  unfold l_laws_toHandZoneS_0; simp (config := { maxSteps := 2000000 }) only [bitvec_to_nat, reduceIte, Nat.reduceEqDiff, Nat.reduceAdd, Nat.reduceLeDiff, reduceCtorEq, Nat.reduceBEq, Nat.reduceLT, List.forall_mem_cons, t_toZone, Zone.row, Zone_eta, Box6.row, box_eta6, tk_map, dp_map, toNat_pred, unZone_mk, appE, rowsOf, List.take_length, List.length_cons, List.length_nil, Nat.zero_add, srow, irow, un_s, un_i, un_box, un_Zone, un_Own, un_Part, un_Seen, un_Word, Word.row, Word_eta, Own.row, Own_eta, Part.row, Part_eta, Seen.row, Seen_eta, Book.row, Book_eta, Sector.row, Sector_eta, HCraft.row, HCraft_eta, World.row, World_eta, un_Word, un_Own, un_Part, un_Seen, un_Book, un_Sector, un_HCraft, un_World, set_Zone, Nat.sub_zero]
  refine ⟨fun h => ?_, fun h => ?_⟩
  · repeat' (first | with_reducible apply And.intro | with_reducible intro _)
    all_goals first
      | omega
      | rfl
      | exact hs2 (by omega)
      | (have e := to_Zone_st (a := a) (i := i) (by omega)
         try simp only [Zone.row] at *
         refine hN (i + 1) _ ⟨by repeat' (first | exact trivial | refine ⟨.inr rfl, ?_⟩), ⟨congrArg (fun g => some (AObj.arr 64 0 5 (List.map Zone.row g))) e, trivial⟩, rfl, rfl⟩ ?_ ?_ <;> omega)
  · have e : i = a.length := by omega
    subst e
    simp only [to_Zone, List.take_length, Nat.sub_self, List.replicate_zero, List.append_nil]
    try rw [List.take_of_length_le (by simp)]
theorem c_eqZone (c d : Zone)  : Contract P 40 [.agg (c.row), .agg (d.row)] [] (.bool (decide (c = d))) [] := by
  obtain ⟨c_nm, c_x0, c_y0, c_x1, c_y1⟩ := c
  obtain ⟨d_nm, d_x0, d_y0, d_x1, d_y1⟩ := d
  simp only [Zone.row]
  refine fn_sound (Env.nil P) hm k_laws_eqHandZone (Nat.le_of_ble_eq_true rfl) rfl ?_; unfold s_laws_eqHandZone; simp (config := { maxSteps := 2000000 }) only [bitvec_to_nat, reduceIte, Nat.reduceEqDiff, Nat.reduceAdd, Nat.reduceLeDiff, reduceCtorEq, Nat.reduceBEq, Nat.reduceLT, List.forall_mem_cons, Zone.row, Zone_eta, Box6.row, box_eta6, tk_map, dp_map, toNat_pred, unZone_mk, appE, rowsOf, List.take_length, List.length_cons, List.length_nil, Nat.zero_add, srow, irow, un_s, un_i, un_box, un_Zone, un_Own, un_Part, un_Seen, un_Word, Word.row, Word_eta, Own.row, Own_eta, Part.row, Part_eta, Seen.row, Seen_eta, Book.row, Book_eta, Sector.row, Sector_eta, HCraft.row, HCraft_eta, World.row, World_eta, un_Word, un_Own, un_Part, un_Seen, un_Book, un_Sector, un_HCraft, un_World]
  simp only [Zone.mk.injEq]
  repeat' (first | with_reducible apply And.intro | with_reducible intro _)
  all_goals first | omega | (simp_all; done) | grind
def t_eqZone : List AV → Option (Prop × AV)
  | [.agg [.str c_nm, .int .i64 c_x0, .int .i64 c_y0, .int .i64 c_x1, .int .i64 c_y1], .agg [.str d_nm, .int .i64 d_x0, .int .i64 d_y0, .int .i64 d_x1, .int .i64 d_y1]] => some ((True) ∧ (True), .bool (decide ((Zone.mk c_nm c_x0 c_y0 c_x1 c_y1) = (Zone.mk d_nm d_x0 d_y0 d_x1 d_y1))))
  | _ => none
theorem h_eqZone : ∀ args p v, t_eqZone args = some (p, v) → p → Contract P 40 args [] v [] ∧ noref v = true ∧ No99 v := by
  intro args p v h1 h2
  unfold t_eqZone at h1
  split at h1
  · rename_i c_nm c_x0 c_y0 c_x1 c_y1 d_nm d_x0 d_y0 d_x1 d_y1
    cases h1
    obtain ⟨_, HP⟩ := h2
    have := c_eqZone (Zone.mk c_nm c_x0 c_y0 c_x1 c_y1) (Zone.mk d_nm d_x0 d_y0 d_x1 d_y1)
    exact ⟨by simpa only [Zone.row, Zone.row] using this, rfl, trivial⟩
  · cases h1
theorem c_eqZoneS (t t' : Nat) (p q : List Zone) (hp : p.length ≤ 4611686018427387904) : Contract P 14 [.sl t 5 (p.map Zone.row), .sl t' 5 (q.map Zone.row)] [] (.bool (decide (p = q))) [] := by
  refine fn_sound ((Env.nil P).add 40 t_eqZone h_eqZone) hm k_laws_eqHandZoneS (Nat.le_of_ble_eq_true rfl) rfl ?_; unfold s_laws_eqHandZoneS; simp (config := { maxSteps := 2000000 }) only [bitvec_to_nat, reduceIte, Nat.reduceEqDiff, Nat.reduceAdd, Nat.reduceLeDiff, reduceCtorEq, Nat.reduceBEq, Nat.reduceLT, List.forall_mem_cons, t_eqZone, Zone.row, Zone_eta, Box6.row, box_eta6, tk_map, dp_map, toNat_pred, unZone_mk, appE, rowsOf, List.take_length, List.length_cons, List.length_nil, Nat.zero_add, srow, irow, un_s, un_i, un_box, un_Zone, un_Own, un_Part, un_Seen, un_Word, Word.row, Word_eta, Own.row, Own_eta, Part.row, Part_eta, Seen.row, Seen_eta, Book.row, Book_eta, Sector.row, Sector_eta, HCraft.row, HCraft_eta, World.row, World_eta, un_Word, un_Own, un_Part, un_Seen, un_Book, un_Sector, un_HCraft, un_World]
  refine ⟨fun h1 h => h1 (by rw [h]), fun h1 => ?_⟩
  refine loop_st (fun i : Nat => [(5, .int .i64 i)]) (fun _ => []) (fun i => i ≤ p.length ∧ ∀ j, j < i → p.getD j default = q.getD j default) (fun i => p.length - i) (0) (by simp only [u_E0, u_E1, u_M0, u_M1, w_setE0, w_setE1, w_setM0, w_setM1, reduceIte, Nat.reduceEqDiff]; exact ⟨by repeat' (first | exact trivial | refine ⟨.inr rfl, ?_⟩), by repeat' (first | exact trivial | refine ⟨rfl, ?_⟩), by first | rfl | simp [closedB, refsIn, refsInL, refsInO, dom, refsInL_nr, *], by first | rfl | simp [keepB, dom]⟩) ?_ ?_
  · exact ⟨Nat.zero_le _, by intro j hj; omega⟩
  intro i hi NX hN
  unfold l_laws_eqHandZoneS_0; simp (config := { maxSteps := 2000000 }) only [bitvec_to_nat, reduceIte, Nat.reduceEqDiff, Nat.reduceAdd, Nat.reduceLeDiff, reduceCtorEq, Nat.reduceBEq, Nat.reduceLT, List.forall_mem_cons, t_eqZone, Zone.row, Zone_eta, Box6.row, box_eta6, tk_map, dp_map, toNat_pred, unZone_mk, appE, rowsOf, List.take_length, List.length_cons, List.length_nil, Nat.zero_add, srow, irow, un_s, un_i, un_box, un_Zone, un_Own, un_Part, un_Seen, un_Word, Word.row, Word_eta, Own.row, Own_eta, Part.row, Part_eta, Seen.row, Seen_eta, Book.row, Book_eta, Sector.row, Sector_eta, HCraft.row, HCraft_eta, World.row, World_eta, un_Word, un_Own, un_Part, un_Seen, un_Book, un_Sector, un_HCraft, un_World]
  skip
  repeat' (first | with_reducible apply And.intro | with_reducible intro _)
  all_goals first
    | omega
    | (refine hN (i + 1) _ (by simp only [u_E0, u_E1, u_M0, u_M1, w_setE0, w_setE1, w_setM0, w_setM1, reduceIte, Nat.reduceEqDiff]; exact ⟨by repeat' (first | exact trivial | refine ⟨.inr rfl, ?_⟩), by repeat' (first | exact trivial | refine ⟨rfl, ?_⟩), by first | rfl | simp [closedB, refsIn, refsInL, refsInO, dom, refsInL_nr, *], by first | rfl | simp [keepB, dom]⟩) ?_ ?_
       · exact ⟨by omega, all_snoc hi.2 (by with_reducible assumption)⟩
       · omega)
    | (intro h; subst h; exact absurd rfl (by with_reducible assumption))
    | (exact ext_of (by omega) fun j hj => hi.2 j (by omega))
    | grind
def t_eqZoneS : List AV → Option (Prop × AV)
  | [.sl ct 5 cx, .sl dt 5 dx] => some ((((cx.map unZone).map Zone.row = cx) ∧ ((dx.map unZone).map Zone.row = dx)) ∧ ((cx.map unZone).length ≤ 4611686018427387904), .bool (decide ((cx.map unZone) = (dx.map unZone))))
  | _ => none
theorem h_eqZoneS : ∀ args p v, t_eqZoneS args = some (p, v) → p → Contract P 14 args [] v [] ∧ noref v = true ∧ No99 v := by
  intro args p v h1 h2
  unfold t_eqZoneS at h1
  split at h1
  · rename_i ct cx dt dx
    cases h1
    obtain ⟨⟨e0, e1⟩, HP⟩ := h2
    have := c_eqZoneS ct dt (cx.map unZone) (dx.map unZone) HP
    exact ⟨by simpa only [e0, e1] using this, rfl, trivial⟩
  · cases h1
end
end Go.Ve

namespace Go.Ve
noncomputable section
open Go.Proofs
set_option linter.unusedSimpArgs false
set_option linter.unusedVariables false
set_option maxRecDepth 100000
def endsOk (zs : List Zone) (w : Word) : Prop := (w.kd = 7 → 0 ≤ zAt zs w.fr ∧ w.dst = ⟨#[]⟩) ∧ (w.kd = 8 ∨ w.kd = 9 → w.fr = ⟨#[]⟩ ∧ 0 ≤ zAt zs w.dst) ∧ (w.kd ≠ 7 → w.kd ≠ 8 → w.kd ≠ 9 → 0 ≤ zAt zs w.fr ∧ 0 ≤ zAt zs w.dst)
def lastOk (w : Word) : Prop := (w.kd = 6 → w.nr = 0 ∧ w.la = 0) ∧ (w.kd = 4 ∨ w.kd = 5 → (1 ≤ w.la ∧ w.la ≤ 1000000) ∧ w.nr ≤ w.la ∧ (0 < w.nr ∨ w.kd = 4)) ∧ (w.kd ≠ 6 → w.kd ≠ 4 → w.kd ≠ 5 → 0 < w.nr ∧ w.la = 0)
def wordOk (zs : List Zone) (w : Word) : Prop := (1 ≤ w.kd ∧ w.kd ≤ 9) ∧ endsOk zs w ∧ nameOk w.fl ∧ ((w.kd = 5 ∨ w.kd = 6) ↔ 0 < w.tn) ∧ (0 ≤ w.tn ∧ w.tn ≤ 1000000) ∧ (0 ≤ w.nr ∧ w.nr ≤ 1000000) ∧ lastOk w ∧
  (w.kd = 1 ∨ w.kd = 5 ∨ w.kd = 7 → tubeOk zs w.tu) ∧ (w.kd ≠ 1 → w.kd ≠ 5 → w.kd ≠ 7 → w.tu.length = 0)
instance (zs : List Zone) (w : Word) : Decidable (endsOk zs w) := Classical.propDecidable _
instance (w : Word) : Decidable (lastOk w) := Classical.propDecidable _
instance (zs : List Zone) (w : Word) : Decidable (wordOk zs w) := Classical.propDecidable _
theorem cB_isZ : calleeB P 88 = true := by kernel_rfl
theorem c_isZ (s : ByteArray) (t' : Nat) (zs : List Zone) (hz : zs.length ≤ 4611686018427387904) : Contract P 88 [.str s, .ptr 3 0] [(3, .box [.sl t' 5 (zs.map Zone.row)])] (.bool (decide (0 ≤ zAt zs s))) [(3, .box [.sl t' 5 (zs.map Zone.row)])] := by
  refine fn_sound ((Env.nil P).add 89 t_zoneAt h_zoneAt) hm k_impl_wordOk_1 (Nat.le_of_ble_eq_true rfl) rfl ?_; unfold s_impl_wordOk_1; simp (config := { maxSteps := 2000000 }) only [bitvec_to_nat, reduceIte, Nat.reduceEqDiff, Nat.reduceAdd, Nat.reduceLeDiff, reduceCtorEq, Nat.reduceBEq, Nat.reduceLT, List.forall_mem_cons, retG_ret, retQ_eq, retQ_eqN, retOk, keepB, re_tupl, orr_t, t_zoneAt, Zone.row, Zone_eta, Box6.row, box_eta6, tk_map, dp_map, toNat_pred, unZone_mk, appE, rowsOf, List.take_length, List.length_cons, List.length_nil, Nat.zero_add, srow, irow, un_s, un_i, un_box, un_Zone, un_Own, un_Part, un_Seen, un_Word, Word.row, Word_eta, Int.reduceEq, Int.reduceNe, Int.reduceLE, Int.reduceLT, or_false, false_or, or_true, true_or, not_true_eq_false, not_false_eq_true, and_false, false_and]
  first | exact hz | exact ⟨hz, by simp [refsInL, refsIn, dom, decide_eq_decide]⟩
def r_isZ : RTab
  | [.str s, .ptr ob off], M => match M ob with
    | some (.box [.sl zt 5 zx]) => some ⟨off = 0 ∧ (zx.map unZone).map Zone.row = zx ∧ (zx.map unZone).length ≤ 4611686018427387904, fun _ : Unit => True, fun _ => .bool (decide (0 ≤ zAt (zx.map unZone) s)), fun _ => [(ob, .box [.sl zt 5 zx])]⟩
    | _ => none
  | _, _ => none
theorem h_isZ : okTab P 88 r_isZ := by
  intro args M o h hp
  unfold r_isZ at h
  split at h
  · rename_i s ob off
    split at h
    · rename_i zt zx hM
      cases h
      obtain ⟨rfl, e0, HP⟩ := hp
      have hC := c_isZ s zt (zx.map unZone) HP
      simp only [e0] at hC
      exact ⟨(), trivial, callR_box _ hC (by simp [norefL, noref]) rfl (by assumption) (by simp [renL, ren, swp]) (by simp [refsInL, refsIn, noref])⟩
    · cases h
  · cases h
set_option maxHeartbeats 1000000 in
theorem c_wordOk1 (t : Nat) (zs : List Zone) (w : Word) (t2 : Nat) (hz : zs.length ≤ 4611686018427387904) (hl : w.tu.length ≤ 4611686018427387904) (hk : w.kd = 1) : Contract P 65 [.sl t 5 (zs.map Zone.row), .agg (w.row t2)] [] (.bool (decide (wordOk zs w))) [] := by
  obtain ⟨kd, fr, dst, fl, nr, la, tn, tu⟩ := w
  simp only at hk hl
  subst hk
  simp only [Word.row]
  refine fn_sound (((((Env.nil P).addR 88 r_isZ h_isZ).add 83 t_isName h_isName).add 90 t_number h_number).add 85 t_tubeOk h_tubeOk) hm k_impl_wordOk (Nat.le_of_ble_eq_true rfl) rfl ?_; unfold s_impl_wordOk; simp (config := { maxSteps := 2000000 }) only [bitvec_to_nat, reduceIte, Nat.reduceEqDiff, Nat.reduceAdd, Nat.reduceLeDiff, reduceCtorEq, Nat.reduceBEq, Nat.reduceLT, List.forall_mem_cons, retG_ret, retQ_eq, retQ_eqN, retOk, keepB, re_tupl, orr_t, t_isName, t_number, t_tubeOk, r_isZ, Zone.row, Zone_eta, Box6.row, box_eta6, tk_map, dp_map, toNat_pred, unZone_mk, appE, rowsOf, List.take_length, List.length_cons, List.length_nil, Nat.zero_add, srow, irow, un_s, un_i, un_box, un_Zone, un_Own, un_Part, un_Seen, un_Word, Word.row, Word_eta, Int.reduceEq, Int.reduceNe, Int.reduceLE, Int.reduceLT, or_false, false_or, or_true, true_or, not_true_eq_false, not_false_eq_true, and_false, false_and, cB_isZ]
  repeat' (first | with_reducible apply And.intro | with_reducible intro _)
  all_goals first
    | with_reducible assumption
    | omega
    | exact trivial
    | grind [wordOk, endsOk, lastOk]
set_option maxHeartbeats 1000000 in
theorem c_wordOk2 (t : Nat) (zs : List Zone) (w : Word) (t2 : Nat) (hz : zs.length ≤ 4611686018427387904) (hl : w.tu.length ≤ 4611686018427387904) (hk : w.kd = 2) : Contract P 65 [.sl t 5 (zs.map Zone.row), .agg (w.row t2)] [] (.bool (decide (wordOk zs w))) [] := by
  obtain ⟨kd, fr, dst, fl, nr, la, tn, tu⟩ := w
  simp only at hk hl
  subst hk
  simp only [Word.row]
  refine fn_sound (((((Env.nil P).addR 88 r_isZ h_isZ).add 83 t_isName h_isName).add 90 t_number h_number).add 85 t_tubeOk h_tubeOk) hm k_impl_wordOk (Nat.le_of_ble_eq_true rfl) rfl ?_; unfold s_impl_wordOk; simp (config := { maxSteps := 2000000 }) only [bitvec_to_nat, reduceIte, Nat.reduceEqDiff, Nat.reduceAdd, Nat.reduceLeDiff, reduceCtorEq, Nat.reduceBEq, Nat.reduceLT, List.forall_mem_cons, retG_ret, retQ_eq, retQ_eqN, retOk, keepB, re_tupl, orr_t, t_isName, t_number, t_tubeOk, r_isZ, Zone.row, Zone_eta, Box6.row, box_eta6, tk_map, dp_map, toNat_pred, unZone_mk, appE, rowsOf, List.take_length, List.length_cons, List.length_nil, Nat.zero_add, srow, irow, un_s, un_i, un_box, un_Zone, un_Own, un_Part, un_Seen, un_Word, Word.row, Word_eta, Int.reduceEq, Int.reduceNe, Int.reduceLE, Int.reduceLT, or_false, false_or, or_true, true_or, not_true_eq_false, not_false_eq_true, and_false, false_and, cB_isZ]
  repeat' (first | with_reducible apply And.intro | with_reducible intro _)
  all_goals first
    | with_reducible assumption
    | omega
    | exact trivial
    | grind [wordOk, endsOk, lastOk]
set_option maxHeartbeats 1000000 in
theorem c_wordOk3 (t : Nat) (zs : List Zone) (w : Word) (t2 : Nat) (hz : zs.length ≤ 4611686018427387904) (hl : w.tu.length ≤ 4611686018427387904) (hk : w.kd = 3) : Contract P 65 [.sl t 5 (zs.map Zone.row), .agg (w.row t2)] [] (.bool (decide (wordOk zs w))) [] := by
  obtain ⟨kd, fr, dst, fl, nr, la, tn, tu⟩ := w
  simp only at hk hl
  subst hk
  simp only [Word.row]
  refine fn_sound (((((Env.nil P).addR 88 r_isZ h_isZ).add 83 t_isName h_isName).add 90 t_number h_number).add 85 t_tubeOk h_tubeOk) hm k_impl_wordOk (Nat.le_of_ble_eq_true rfl) rfl ?_; unfold s_impl_wordOk; simp (config := { maxSteps := 2000000 }) only [bitvec_to_nat, reduceIte, Nat.reduceEqDiff, Nat.reduceAdd, Nat.reduceLeDiff, reduceCtorEq, Nat.reduceBEq, Nat.reduceLT, List.forall_mem_cons, retG_ret, retQ_eq, retQ_eqN, retOk, keepB, re_tupl, orr_t, t_isName, t_number, t_tubeOk, r_isZ, Zone.row, Zone_eta, Box6.row, box_eta6, tk_map, dp_map, toNat_pred, unZone_mk, appE, rowsOf, List.take_length, List.length_cons, List.length_nil, Nat.zero_add, srow, irow, un_s, un_i, un_box, un_Zone, un_Own, un_Part, un_Seen, un_Word, Word.row, Word_eta, Int.reduceEq, Int.reduceNe, Int.reduceLE, Int.reduceLT, or_false, false_or, or_true, true_or, not_true_eq_false, not_false_eq_true, and_false, false_and, cB_isZ]
  repeat' (first | with_reducible apply And.intro | with_reducible intro _)
  all_goals first
    | with_reducible assumption
    | omega
    | exact trivial
    | grind [wordOk, endsOk, lastOk]
set_option maxHeartbeats 1000000 in
theorem c_wordOk4 (t : Nat) (zs : List Zone) (w : Word) (t2 : Nat) (hz : zs.length ≤ 4611686018427387904) (hl : w.tu.length ≤ 4611686018427387904) (hk : w.kd = 4) : Contract P 65 [.sl t 5 (zs.map Zone.row), .agg (w.row t2)] [] (.bool (decide (wordOk zs w))) [] := by
  obtain ⟨kd, fr, dst, fl, nr, la, tn, tu⟩ := w
  simp only at hk hl
  subst hk
  simp only [Word.row]
  refine fn_sound (((((Env.nil P).addR 88 r_isZ h_isZ).add 83 t_isName h_isName).add 90 t_number h_number).add 85 t_tubeOk h_tubeOk) hm k_impl_wordOk (Nat.le_of_ble_eq_true rfl) rfl ?_; unfold s_impl_wordOk; simp (config := { maxSteps := 2000000 }) only [bitvec_to_nat, reduceIte, Nat.reduceEqDiff, Nat.reduceAdd, Nat.reduceLeDiff, reduceCtorEq, Nat.reduceBEq, Nat.reduceLT, List.forall_mem_cons, retG_ret, retQ_eq, retQ_eqN, retOk, keepB, re_tupl, orr_t, t_isName, t_number, t_tubeOk, r_isZ, Zone.row, Zone_eta, Box6.row, box_eta6, tk_map, dp_map, toNat_pred, unZone_mk, appE, rowsOf, List.take_length, List.length_cons, List.length_nil, Nat.zero_add, srow, irow, un_s, un_i, un_box, un_Zone, un_Own, un_Part, un_Seen, un_Word, Word.row, Word_eta, Int.reduceEq, Int.reduceNe, Int.reduceLE, Int.reduceLT, or_false, false_or, or_true, true_or, not_true_eq_false, not_false_eq_true, and_false, false_and, cB_isZ]
  repeat' (first | with_reducible apply And.intro | with_reducible intro _)
  all_goals first
    | with_reducible assumption
    | omega
    | exact trivial
    | grind [wordOk, endsOk, lastOk]
set_option maxHeartbeats 1000000 in
theorem c_wordOk5 (t : Nat) (zs : List Zone) (w : Word) (t2 : Nat) (hz : zs.length ≤ 4611686018427387904) (hl : w.tu.length ≤ 4611686018427387904) (hk : w.kd = 5) : Contract P 65 [.sl t 5 (zs.map Zone.row), .agg (w.row t2)] [] (.bool (decide (wordOk zs w))) [] := by
  obtain ⟨kd, fr, dst, fl, nr, la, tn, tu⟩ := w
  simp only at hk hl
  subst hk
  simp only [Word.row]
  refine fn_sound (((((Env.nil P).addR 88 r_isZ h_isZ).add 83 t_isName h_isName).add 90 t_number h_number).add 85 t_tubeOk h_tubeOk) hm k_impl_wordOk (Nat.le_of_ble_eq_true rfl) rfl ?_; unfold s_impl_wordOk; simp (config := { maxSteps := 2000000 }) only [bitvec_to_nat, reduceIte, Nat.reduceEqDiff, Nat.reduceAdd, Nat.reduceLeDiff, reduceCtorEq, Nat.reduceBEq, Nat.reduceLT, List.forall_mem_cons, retG_ret, retQ_eq, retQ_eqN, retOk, keepB, re_tupl, orr_t, t_isName, t_number, t_tubeOk, r_isZ, Zone.row, Zone_eta, Box6.row, box_eta6, tk_map, dp_map, toNat_pred, unZone_mk, appE, rowsOf, List.take_length, List.length_cons, List.length_nil, Nat.zero_add, srow, irow, un_s, un_i, un_box, un_Zone, un_Own, un_Part, un_Seen, un_Word, Word.row, Word_eta, Int.reduceEq, Int.reduceNe, Int.reduceLE, Int.reduceLT, or_false, false_or, or_true, true_or, not_true_eq_false, not_false_eq_true, and_false, false_and, cB_isZ]
  repeat' (first | with_reducible apply And.intro | with_reducible intro _)
  all_goals first
    | with_reducible assumption
    | omega
    | exact trivial
    | grind [wordOk, endsOk, lastOk]
set_option maxHeartbeats 1000000 in
theorem c_wordOk6 (t : Nat) (zs : List Zone) (w : Word) (t2 : Nat) (hz : zs.length ≤ 4611686018427387904) (hl : w.tu.length ≤ 4611686018427387904) (hk : w.kd = 6) : Contract P 65 [.sl t 5 (zs.map Zone.row), .agg (w.row t2)] [] (.bool (decide (wordOk zs w))) [] := by
  obtain ⟨kd, fr, dst, fl, nr, la, tn, tu⟩ := w
  simp only at hk hl
  subst hk
  simp only [Word.row]
  refine fn_sound (((((Env.nil P).addR 88 r_isZ h_isZ).add 83 t_isName h_isName).add 90 t_number h_number).add 85 t_tubeOk h_tubeOk) hm k_impl_wordOk (Nat.le_of_ble_eq_true rfl) rfl ?_; unfold s_impl_wordOk; simp (config := { maxSteps := 2000000 }) only [bitvec_to_nat, reduceIte, Nat.reduceEqDiff, Nat.reduceAdd, Nat.reduceLeDiff, reduceCtorEq, Nat.reduceBEq, Nat.reduceLT, List.forall_mem_cons, retG_ret, retQ_eq, retQ_eqN, retOk, keepB, re_tupl, orr_t, t_isName, t_number, t_tubeOk, r_isZ, Zone.row, Zone_eta, Box6.row, box_eta6, tk_map, dp_map, toNat_pred, unZone_mk, appE, rowsOf, List.take_length, List.length_cons, List.length_nil, Nat.zero_add, srow, irow, un_s, un_i, un_box, un_Zone, un_Own, un_Part, un_Seen, un_Word, Word.row, Word_eta, Int.reduceEq, Int.reduceNe, Int.reduceLE, Int.reduceLT, or_false, false_or, or_true, true_or, not_true_eq_false, not_false_eq_true, and_false, false_and, cB_isZ]
  repeat' (first | with_reducible apply And.intro | with_reducible intro _)
  all_goals first
    | with_reducible assumption
    | omega
    | exact trivial
    | grind [wordOk, endsOk, lastOk]
set_option maxHeartbeats 1000000 in
theorem c_wordOk7 (t : Nat) (zs : List Zone) (w : Word) (t2 : Nat) (hz : zs.length ≤ 4611686018427387904) (hl : w.tu.length ≤ 4611686018427387904) (hk : w.kd = 7) : Contract P 65 [.sl t 5 (zs.map Zone.row), .agg (w.row t2)] [] (.bool (decide (wordOk zs w))) [] := by
  obtain ⟨kd, fr, dst, fl, nr, la, tn, tu⟩ := w
  simp only at hk hl
  subst hk
  simp only [Word.row]
  refine fn_sound (((((Env.nil P).addR 88 r_isZ h_isZ).add 83 t_isName h_isName).add 90 t_number h_number).add 85 t_tubeOk h_tubeOk) hm k_impl_wordOk (Nat.le_of_ble_eq_true rfl) rfl ?_; unfold s_impl_wordOk; simp (config := { maxSteps := 2000000 }) only [bitvec_to_nat, reduceIte, Nat.reduceEqDiff, Nat.reduceAdd, Nat.reduceLeDiff, reduceCtorEq, Nat.reduceBEq, Nat.reduceLT, List.forall_mem_cons, retG_ret, retQ_eq, retQ_eqN, retOk, keepB, re_tupl, orr_t, t_isName, t_number, t_tubeOk, r_isZ, Zone.row, Zone_eta, Box6.row, box_eta6, tk_map, dp_map, toNat_pred, unZone_mk, appE, rowsOf, List.take_length, List.length_cons, List.length_nil, Nat.zero_add, srow, irow, un_s, un_i, un_box, un_Zone, un_Own, un_Part, un_Seen, un_Word, Word.row, Word_eta, Int.reduceEq, Int.reduceNe, Int.reduceLE, Int.reduceLT, or_false, false_or, or_true, true_or, not_true_eq_false, not_false_eq_true, and_false, false_and, cB_isZ]
  repeat' (first | with_reducible apply And.intro | with_reducible intro _)
  all_goals first
    | with_reducible assumption
    | omega
    | exact trivial
    | grind [wordOk, endsOk, lastOk]
set_option maxHeartbeats 1000000 in
theorem c_wordOk8 (t : Nat) (zs : List Zone) (w : Word) (t2 : Nat) (hz : zs.length ≤ 4611686018427387904) (hl : w.tu.length ≤ 4611686018427387904) (hk : w.kd = 8) : Contract P 65 [.sl t 5 (zs.map Zone.row), .agg (w.row t2)] [] (.bool (decide (wordOk zs w))) [] := by
  obtain ⟨kd, fr, dst, fl, nr, la, tn, tu⟩ := w
  simp only at hk hl
  subst hk
  simp only [Word.row]
  refine fn_sound (((((Env.nil P).addR 88 r_isZ h_isZ).add 83 t_isName h_isName).add 90 t_number h_number).add 85 t_tubeOk h_tubeOk) hm k_impl_wordOk (Nat.le_of_ble_eq_true rfl) rfl ?_; unfold s_impl_wordOk; simp (config := { maxSteps := 2000000 }) only [bitvec_to_nat, reduceIte, Nat.reduceEqDiff, Nat.reduceAdd, Nat.reduceLeDiff, reduceCtorEq, Nat.reduceBEq, Nat.reduceLT, List.forall_mem_cons, retG_ret, retQ_eq, retQ_eqN, retOk, keepB, re_tupl, orr_t, t_isName, t_number, t_tubeOk, r_isZ, Zone.row, Zone_eta, Box6.row, box_eta6, tk_map, dp_map, toNat_pred, unZone_mk, appE, rowsOf, List.take_length, List.length_cons, List.length_nil, Nat.zero_add, srow, irow, un_s, un_i, un_box, un_Zone, un_Own, un_Part, un_Seen, un_Word, Word.row, Word_eta, Int.reduceEq, Int.reduceNe, Int.reduceLE, Int.reduceLT, or_false, false_or, or_true, true_or, not_true_eq_false, not_false_eq_true, and_false, false_and, cB_isZ]
  repeat' (first | with_reducible apply And.intro | with_reducible intro _)
  all_goals first
    | with_reducible assumption
    | omega
    | exact trivial
    | grind [wordOk, endsOk, lastOk]
set_option maxHeartbeats 1000000 in
theorem c_wordOk9 (t : Nat) (zs : List Zone) (w : Word) (t2 : Nat) (hz : zs.length ≤ 4611686018427387904) (hl : w.tu.length ≤ 4611686018427387904) (hk : w.kd = 9) : Contract P 65 [.sl t 5 (zs.map Zone.row), .agg (w.row t2)] [] (.bool (decide (wordOk zs w))) [] := by
  obtain ⟨kd, fr, dst, fl, nr, la, tn, tu⟩ := w
  simp only at hk hl
  subst hk
  simp only [Word.row]
  refine fn_sound (((((Env.nil P).addR 88 r_isZ h_isZ).add 83 t_isName h_isName).add 90 t_number h_number).add 85 t_tubeOk h_tubeOk) hm k_impl_wordOk (Nat.le_of_ble_eq_true rfl) rfl ?_; unfold s_impl_wordOk; simp (config := { maxSteps := 2000000 }) only [bitvec_to_nat, reduceIte, Nat.reduceEqDiff, Nat.reduceAdd, Nat.reduceLeDiff, reduceCtorEq, Nat.reduceBEq, Nat.reduceLT, List.forall_mem_cons, retG_ret, retQ_eq, retQ_eqN, retOk, keepB, re_tupl, orr_t, t_isName, t_number, t_tubeOk, r_isZ, Zone.row, Zone_eta, Box6.row, box_eta6, tk_map, dp_map, toNat_pred, unZone_mk, appE, rowsOf, List.take_length, List.length_cons, List.length_nil, Nat.zero_add, srow, irow, un_s, un_i, un_box, un_Zone, un_Own, un_Part, un_Seen, un_Word, Word.row, Word_eta, Int.reduceEq, Int.reduceNe, Int.reduceLE, Int.reduceLT, or_false, false_or, or_true, true_or, not_true_eq_false, not_false_eq_true, and_false, false_and, cB_isZ]
  repeat' (first | with_reducible apply And.intro | with_reducible intro _)
  all_goals first
    | with_reducible assumption
    | omega
    | exact trivial
    | grind [wordOk, endsOk, lastOk]
set_option maxHeartbeats 1000000 in
theorem c_wordOk0 (t : Nat) (zs : List Zone) (w : Word) (t2 : Nat) (hz : zs.length ≤ 4611686018427387904) (hl : w.tu.length ≤ 4611686018427387904) (hk : ¬ (1 ≤ w.kd ∧ w.kd ≤ 9)) : Contract P 65 [.sl t 5 (zs.map Zone.row), .agg (w.row t2)] [] (.bool (decide (wordOk zs w))) [] := by
  obtain ⟨kd, fr, dst, fl, nr, la, tn, tu⟩ := w
  simp only at hk hl
  have g1 : (kd = 1) = False := by simp only [eq_iff_iff, iff_false]; omega
  have g2 : (kd = 2) = False := by simp only [eq_iff_iff, iff_false]; omega
  have g3 : (kd = 3) = False := by simp only [eq_iff_iff, iff_false]; omega
  have g4 : (kd = 4) = False := by simp only [eq_iff_iff, iff_false]; omega
  have g5 : (kd = 5) = False := by simp only [eq_iff_iff, iff_false]; omega
  have g6 : (kd = 6) = False := by simp only [eq_iff_iff, iff_false]; omega
  have g7 : (kd = 7) = False := by simp only [eq_iff_iff, iff_false]; omega
  have g8 : (kd = 8) = False := by simp only [eq_iff_iff, iff_false]; omega
  have g9 : (kd = 9) = False := by simp only [eq_iff_iff, iff_false]; omega
  simp only [Word.row]
  refine fn_sound (((((Env.nil P).addR 88 r_isZ h_isZ).add 83 t_isName h_isName).add 90 t_number h_number).add 85 t_tubeOk h_tubeOk) hm k_impl_wordOk (Nat.le_of_ble_eq_true rfl) rfl ?_; unfold s_impl_wordOk; simp (config := { maxSteps := 2000000 }) only [bitvec_to_nat, reduceIte, Nat.reduceEqDiff, Nat.reduceAdd, Nat.reduceLeDiff, reduceCtorEq, Nat.reduceBEq, Nat.reduceLT, List.forall_mem_cons, retG_ret, retQ_eq, retQ_eqN, retOk, keepB, re_tupl, orr_t, t_isName, t_number, t_tubeOk, r_isZ, Zone.row, Zone_eta, Box6.row, box_eta6, tk_map, dp_map, toNat_pred, unZone_mk, appE, rowsOf, List.take_length, List.length_cons, List.length_nil, Nat.zero_add, srow, irow, un_s, un_i, un_box, un_Zone, un_Own, un_Part, un_Seen, un_Word, Word.row, Word_eta, Int.reduceEq, Int.reduceNe, Int.reduceLE, Int.reduceLT, or_false, false_or, or_true, true_or, not_true_eq_false, not_false_eq_true, and_false, false_and, g1, g2, g3, g4, g5, g6, g7, g8, g9, cB_isZ]
  repeat' (first | with_reducible apply And.intro | with_reducible intro _)
  all_goals first
    | with_reducible assumption
    | omega
    | exact trivial
    | grind [wordOk, endsOk, lastOk]
theorem c_wordOk (t : Nat) (zs : List Zone) (w : Word) (t2 : Nat) (hz : zs.length ≤ 4611686018427387904) (hl : w.tu.length ≤ 4611686018427387904) : Contract P 65 [.sl t 5 (zs.map Zone.row), .agg (w.row t2)] [] (.bool (decide (wordOk zs w))) [] := by
  by_cases hk : 1 ≤ w.kd ∧ w.kd ≤ 9
  · have : w.kd = 1 ∨ w.kd = 2 ∨ w.kd = 3 ∨ w.kd = 4 ∨ w.kd = 5 ∨ w.kd = 6 ∨ w.kd = 7 ∨ w.kd = 8 ∨ w.kd = 9 := by omega
    rcases this with h | h | h | h | h | h | h | h | h
    · exact c_wordOk1 t zs w t2 hz hl h
    · exact c_wordOk2 t zs w t2 hz hl h
    · exact c_wordOk3 t zs w t2 hz hl h
    · exact c_wordOk4 t zs w t2 hz hl h
    · exact c_wordOk5 t zs w t2 hz hl h
    · exact c_wordOk6 t zs w t2 hz hl h
    · exact c_wordOk7 t zs w t2 hz hl h
    · exact c_wordOk8 t zs w t2 hz hl h
    · exact c_wordOk9 t zs w t2 hz hl h
  · exact c_wordOk0 t zs w t2 hz hl hk
def t_wordOk : List AV → Option (Prop × AV)
  | [.sl t 5 zx, .agg [.int .i64 kd, .str fr, .str dst, .str fl, .int .i64 nr, .int .i64 la, .int .i64 tn, .sl t2 6 tu]] => some (((zx.map unZone).map Zone.row = zx ∧ (tu.map unBox).map Box6.row = tu) ∧ ((zx.map unZone).length ≤ 4611686018427387904 ∧ (tu.map unBox).length ≤ 4611686018427387904), .bool (decide (wordOk (zx.map unZone) (Word.mk kd fr dst fl nr la tn (tu.map unBox)))))
  | _ => none
theorem h_wordOk : ∀ args p v, t_wordOk args = some (p, v) → p → Contract P 65 args [] v [] ∧ noref v = true ∧ No99 v := by
  intro args p v h1 h2
  unfold t_wordOk at h1
  split at h1
  · rename_i t zx kd fr dst fl nr la tn t2 tu
    cases h1
    obtain ⟨E, HP⟩ := h2
    have := c_wordOk t (zx.map unZone) (Word.mk kd fr dst fl nr la tn (tu.map unBox)) t2 HP.1 HP.2
    simp only [Word.row, E.1, E.2] at this
    exact ⟨this, rfl, trivial⟩
  · cases h1
theorem c_iWordOk (t : Nat) (zs : List Zone) (w : Word) (t2 : Nat) (hz : zs.length ≤ 4611686018427387904) (hl : w.tu.length ≤ 4611686018427387904) : Contract P 35 [.sl t 5 (zs.map Zone.row), .agg (w.row t2)] [] (.bool (decide (zonesOk zs ∧ wordOk zs w))) [] := by
  simp only [Word.row]
  refine fn_sound (((Env.nil P).add 63 t_zonesOk h_zonesOk).add 65 t_wordOk h_wordOk) hm k_impl_HandWordOk (Nat.le_of_ble_eq_true rfl) rfl ?_; unfold s_impl_HandWordOk; simp (config := { maxSteps := 2000000 }) only [bitvec_to_nat, reduceIte, Nat.reduceEqDiff, Nat.reduceAdd, Nat.reduceLeDiff, reduceCtorEq, Nat.reduceBEq, Nat.reduceLT, List.forall_mem_cons, t_zonesOk, t_wordOk, Zone.row, Zone_eta, Box6.row, box_eta6, tk_map, dp_map, toNat_pred, unZone_mk, appE, rowsOf, List.take_length, List.length_cons, List.length_nil, Nat.zero_add, srow, irow, un_s, un_i, un_box, un_Zone, un_Own, un_Part, un_Seen, un_Word, Word.row, Word_eta, Int.reduceEq, Int.reduceNe, Int.reduceLE, Int.reduceLT, or_false, false_or, or_true, true_or, not_true_eq_false, not_false_eq_true, and_false, false_and]
  repeat' (first | with_reducible apply And.intro | with_reducible intro _)
  all_goals first
    | with_reducible assumption
    | omega
    | exact trivial
    | grind
def t_iWordOk : List AV → Option (Prop × AV)
  | [.sl t 5 zx, .agg [.int .i64 kd, .str fr, .str dst, .str fl, .int .i64 nr, .int .i64 la, .int .i64 tn, .sl t2 6 tu]] => some (((zx.map unZone).map Zone.row = zx ∧ (tu.map unBox).map Box6.row = tu) ∧ ((zx.map unZone).length ≤ 4611686018427387904 ∧ (tu.map unBox).length ≤ 4611686018427387904), .bool (decide (zonesOk (zx.map unZone) ∧ wordOk (zx.map unZone) (Word.mk kd fr dst fl nr la tn (tu.map unBox)))))
  | _ => none
theorem h_iWordOk : ∀ args p v, t_iWordOk args = some (p, v) → p → Contract P 35 args [] v [] ∧ noref v = true ∧ No99 v := by
  intro args p v h1 h2
  unfold t_iWordOk at h1
  split at h1
  · rename_i t zx kd fr dst fl nr la tn t2 tu
    cases h1
    obtain ⟨E, HP⟩ := h2
    have := c_iWordOk t (zx.map unZone) (Word.mk kd fr dst fl nr la tn (tu.map unBox)) t2 HP.1 HP.2
    simp only [Word.row, E.1, E.2] at this
    exact ⟨this, rfl, trivial⟩
  · cases h1
theorem c_sEndsOk (t : Nat) (zs : List Zone) (w : Word) (hz : zs.length ≤ 4611686018427387904) : Contract P 52 [.sl t 5 (zs.map Zone.row), .agg (w.row 0)] [] (.bool (decide (endsOk zs w))) [] := by
  simp only [Word.row]
  refine fn_sound ((Env.nil P).add 74 t_sZoneAt h_sZoneAt) hm k_spec_l32EndsOk (Nat.le_of_ble_eq_true rfl) rfl ?_; unfold s_spec_l32EndsOk; simp (config := { maxSteps := 2000000 }) only [bitvec_to_nat, reduceIte, Nat.reduceEqDiff, Nat.reduceAdd, Nat.reduceLeDiff, reduceCtorEq, Nat.reduceBEq, Nat.reduceLT, List.forall_mem_cons, t_sZoneAt, Zone.row, Zone_eta, Box6.row, box_eta6, tk_map, dp_map, toNat_pred, unZone_mk, appE, rowsOf, List.take_length, List.length_cons, List.length_nil, Nat.zero_add, srow, irow, un_s, un_i, un_box, un_Zone, un_Own, un_Part, un_Seen, un_Word, Word.row, Word_eta, Int.reduceEq, Int.reduceNe, Int.reduceLE, Int.reduceLT, or_false, false_or, or_true, true_or, not_true_eq_false, not_false_eq_true, and_false, false_and]
  repeat' (first | with_reducible apply And.intro | with_reducible intro _)
  all_goals first
    | with_reducible assumption
    | omega
    | exact trivial
    | grind [endsOk]
def t_sEndsOk : List AV → Option (Prop × AV)
  | [.sl zst 5 zsx, .agg [.int .i64 w_kd, .str w_fr, .str w_dst, .str w_fl, .int .i64 w_nr, .int .i64 w_la, .int .i64 w_tn, .sl 0 6 w_tu]] => some ((((zsx.map unZone).map Zone.row = zsx) ∧ ((w_tu.map unBox).map Box6.row = w_tu)) ∧ ((zsx.map unZone).length ≤ 4611686018427387904), .bool (decide (endsOk (zsx.map unZone) (Word.mk w_kd w_fr w_dst w_fl w_nr w_la w_tn (w_tu.map unBox)))))
  | _ => none
theorem h_sEndsOk : ∀ args p v, t_sEndsOk args = some (p, v) → p → Contract P 52 args [] v [] ∧ noref v = true ∧ No99 v := by
  intro args p v h1 h2
  unfold t_sEndsOk at h1
  split at h1
  · rename_i zst zsx w_kd w_fr w_dst w_fl w_nr w_la w_tn w_tu
    cases h1
    obtain ⟨⟨e0, e1⟩, HP⟩ := h2
    have := c_sEndsOk zst (zsx.map unZone) (Word.mk w_kd w_fr w_dst w_fl w_nr w_la w_tn (w_tu.map unBox)) HP
    exact ⟨by simpa only [e0, e1, Word.row] using this, rfl, trivial⟩
  · cases h1
theorem c_sLastOk (w : Word) : Contract P 53 [.agg (w.row 0)] [] (.bool (decide (lastOk w))) [] := by
  simp only [Word.row]
  refine fn_sound ((Env.nil P).add 51 t_l31In h_l31In) hm k_spec_l32LastOk (Nat.le_of_ble_eq_true rfl) rfl ?_; unfold s_spec_l32LastOk; simp (config := { maxSteps := 2000000 }) only [bitvec_to_nat, reduceIte, Nat.reduceEqDiff, Nat.reduceAdd, Nat.reduceLeDiff, reduceCtorEq, Nat.reduceBEq, Nat.reduceLT, List.forall_mem_cons, t_l31In, Zone.row, Zone_eta, Box6.row, box_eta6, tk_map, dp_map, toNat_pred, unZone_mk, appE, rowsOf, List.take_length, List.length_cons, List.length_nil, Nat.zero_add, srow, irow, un_s, un_i, un_box, un_Zone, un_Own, un_Part, un_Seen, un_Word, Word.row, Word_eta, Int.reduceEq, Int.reduceNe, Int.reduceLE, Int.reduceLT, or_false, false_or, or_true, true_or, not_true_eq_false, not_false_eq_true, and_false, false_and]
  repeat' (first | with_reducible apply And.intro | with_reducible intro _)
  all_goals first
    | with_reducible assumption
    | omega
    | exact trivial
    | grind [lastOk]
def t_sLastOk : List AV → Option (Prop × AV)
  | [.agg [.int .i64 w_kd, .str w_fr, .str w_dst, .str w_fl, .int .i64 w_nr, .int .i64 w_la, .int .i64 w_tn, .sl 0 6 w_tu]] => some ((((w_tu.map unBox).map Box6.row = w_tu)) ∧ (True), .bool (decide (lastOk (Word.mk w_kd w_fr w_dst w_fl w_nr w_la w_tn (w_tu.map unBox)))))
  | _ => none
theorem h_sLastOk : ∀ args p v, t_sLastOk args = some (p, v) → p → Contract P 53 args [] v [] ∧ noref v = true ∧ No99 v := by
  intro args p v h1 h2
  unfold t_sLastOk at h1
  split at h1
  · rename_i w_kd w_fr w_dst w_fl w_nr w_la w_tn w_tu
    cases h1
    obtain ⟨e0, HP⟩ := h2
    have := c_sLastOk (Word.mk w_kd w_fr w_dst w_fl w_nr w_la w_tn (w_tu.map unBox))
    exact ⟨by simpa only [e0, Word.row] using this, rfl, trivial⟩
  · cases h1
def hasTu (k : Int) : Prop := k = 1 ∨ k = 5 ∨ k = 7
instance (k : Int) : Decidable (hasTu k) := Classical.propDecidable _
theorem c_sHasTu (k : Int) : Contract P 54 [.int .i64 k] [] (.bool (decide (hasTu k))) [] := by
  refine fn_sound (Env.nil P) hm k_spec_l32HasTube (Nat.le_of_ble_eq_true rfl) rfl ?_; unfold s_spec_l32HasTube; simp (config := { maxSteps := 2000000 }) only [bitvec_to_nat, reduceIte, Nat.reduceEqDiff, Nat.reduceAdd, Nat.reduceLeDiff, reduceCtorEq, Nat.reduceBEq, Nat.reduceLT, List.forall_mem_cons, Zone.row, Zone_eta, Box6.row, box_eta6, tk_map, dp_map, toNat_pred, unZone_mk, appE, rowsOf, List.take_length, List.length_cons, List.length_nil, Nat.zero_add, srow, irow, un_s, un_i, un_box, un_Zone, un_Own, un_Part, un_Seen, un_Word, Word.row, Word_eta, Int.reduceEq, Int.reduceNe, Int.reduceLE, Int.reduceLT, or_false, false_or, or_true, true_or, not_true_eq_false, not_false_eq_true, and_false, false_and]
  repeat' (first | with_reducible apply And.intro | with_reducible intro _)
  all_goals first
    | with_reducible assumption
    | omega
    | exact trivial
    | grind [hasTu]
def t_sHasTu : List AV → Option (Prop × AV)
  | [.int .i64 k] => some ((True) ∧ (True), .bool (decide (hasTu k)))
  | _ => none
theorem h_sHasTu : ∀ args p v, t_sHasTu args = some (p, v) → p → Contract P 54 args [] v [] ∧ noref v = true ∧ No99 v := by
  intro args p v h1 h2
  unfold t_sHasTu at h1
  split at h1
  · rename_i k
    cases h1
    obtain ⟨_, HP⟩ := h2
    have := c_sHasTu k
    exact ⟨this, rfl, trivial⟩
  · cases h1
theorem c_sWordOk (t : Nat) (zs : List Zone) (w : Word) (hz : zs.length ≤ 4611686018427387904) (hl : w.tu.length ≤ 4611686018427387904) : Contract P 25 [.sl t 5 (zs.map Zone.row), .agg (w.row 0)] [] (.bool (decide (zonesOk zs ∧ wordOk zs w))) [] := by
  simp only [Word.row]
  refine fn_sound ((((((((Env.nil P).add 50 t_sZonesOk h_sZonesOk).add 51 t_l31In h_l31In).add 52 t_sEndsOk h_sEndsOk).add 46 t_l31NameOk h_l31NameOk).add 53 t_sLastOk h_sLastOk).add 54 t_sHasTu h_sHasTu).add 55 t_sTubeOk h_sTubeOk) hm k_spec_HandWordOk (Nat.le_of_ble_eq_true rfl) rfl ?_; unfold s_spec_HandWordOk; simp (config := { maxSteps := 2000000 }) only [bitvec_to_nat, reduceIte, Nat.reduceEqDiff, Nat.reduceAdd, Nat.reduceLeDiff, reduceCtorEq, Nat.reduceBEq, Nat.reduceLT, List.forall_mem_cons, t_sZonesOk, t_l31In, t_sEndsOk, t_l31NameOk, t_sLastOk, t_sHasTu, t_sTubeOk, Zone.row, Zone_eta, Box6.row, box_eta6, tk_map, dp_map, toNat_pred, unZone_mk, appE, rowsOf, List.take_length, List.length_cons, List.length_nil, Nat.zero_add, srow, irow, un_s, un_i, un_box, un_Zone, un_Own, un_Part, un_Seen, un_Word, Word.row, Word_eta, Int.reduceEq, Int.reduceNe, Int.reduceLE, Int.reduceLT, or_false, false_or, or_true, true_or, not_true_eq_false, not_false_eq_true, and_false, false_and]
  repeat' (first | with_reducible apply And.intro | with_reducible intro _)
  all_goals first
    | with_reducible assumption
    | omega
    | exact trivial
    | grind [wordOk, hasTu]
def t_sWordOk : List AV → Option (Prop × AV)
  | [.sl zst 5 zsx, .agg [.int .i64 w_kd, .str w_fr, .str w_dst, .str w_fl, .int .i64 w_nr, .int .i64 w_la, .int .i64 w_tn, .sl 0 6 w_tu]] => some ((((zsx.map unZone).map Zone.row = zsx) ∧ ((w_tu.map unBox).map Box6.row = w_tu)) ∧ ((zsx.map unZone).length ≤ 4611686018427387904 ∧ (Word.tu (Word.mk w_kd w_fr w_dst w_fl w_nr w_la w_tn (w_tu.map unBox))).length ≤ 4611686018427387904), .bool (decide (zonesOk (zsx.map unZone) ∧ wordOk (zsx.map unZone) (Word.mk w_kd w_fr w_dst w_fl w_nr w_la w_tn (w_tu.map unBox)))))
  | _ => none
theorem h_sWordOk : ∀ args p v, t_sWordOk args = some (p, v) → p → Contract P 25 args [] v [] ∧ noref v = true ∧ No99 v := by
  intro args p v h1 h2
  unfold t_sWordOk at h1
  split at h1
  · rename_i zst zsx w_kd w_fr w_dst w_fl w_nr w_la w_tn w_tu
    cases h1
    obtain ⟨⟨e0, e1⟩, HP⟩ := h2
    have := c_sWordOk zst (zsx.map unZone) (Word.mk w_kd w_fr w_dst w_fl w_nr w_la w_tn (w_tu.map unBox)) HP.1 HP.2
    exact ⟨by simpa only [e0, e1, Word.row] using this, rfl, trivial⟩
  · cases h1
end
end Go.Ve

namespace Go.Ve
open Go.Proofs
set_option linter.unusedSimpArgs false
set_option linter.unusedVariables false
set_option maxRecDepth 100000
set_option maxHeartbeats 4000000
def Path5.step (p : Path5) (f : List Int) (j : Nat) : Prop := (p.low j ≤ f.getD j default ∧ f.getD j default ≤ p.high j) ∧ (0 < j → p.q ≤ f.getD j default - f.getD (j - 1) default ∧ f.getD j default - f.getD (j - 1) default ≤ p.most (j - 1))
def Path5.lawful (p : Path5) (f : List Int) : Prop := pathOk p.q p.s p.l p.f p.b ∧ f.length = p.l.length + 1 ∧ ∀ j, j < f.length → p.step f j
instance (p : Path5) (f : List Int) (j : Nat) : Decidable (p.step f j) := by unfold Path5.step; infer_instance
instance (p : Path5) (f : List Int) : Decidable (p.lawful f) := by unfold Path5.lawful; infer_instance
def F_iLaw (p : Path5) (t t' : Nat) (f : List Int) (k : Nat) : St := ⟨[(1, .sl t' 1 (f.map irow)), (2, .ptr 102 0), (22, .sl t' 1 (f.map irow)), (23, .int .i64 f.length), (24, .int .i64 k)], [(102, .box [.int .i64 p.q, .int .i64 p.s, .sl t 7 (p.l.map Stp7.row), .int .i64 p.f, .int .i64 p.b])]⟩
def F_sLaw (p : Path5) (t t' : Nat) (f : List Int) (k : Nat) : St := ⟨[(1, .sl t' 1 (f.map irow)), (2, .ptr 102 0), (5, .int .i64 k)], [(102, .box [.int .i64 p.q, .int .i64 p.s, .sl t 7 (p.l.map Stp7.row), .int .i64 p.f, .int .i64 p.b])]⟩
theorem c_sLawful (p : Path5) (t t' : Nat) (f : List Int) : Contract P 72 [.agg [.int .i64 p.q, .int .i64 p.s, .sl t 7 (p.l.map Stp7.row), .int .i64 p.f, .int .i64 p.b], .sl t' 1 (f.map irow)] [] (.bool (decide (p.lawful f))) [] := by
  refine fn_sound ((((((Env.nil P).add 78 t_sPathOk h_sPathOk).add 71 t_l21In h_l21In).add 95 t_l23Low h_l23Low).add 96 t_l23High h_l23High).add 97 t_l23Most h_l23Most) hm k_spec_FlyLawful (Nat.le_of_ble_eq_true rfl) rfl ?_
  unfold s_spec_FlyLawful
  simp only [w_skip, w_rg, w_rgd, w_seq, w_cond, w_block, w_loop, w_exit, w_ret, w_gh, w_rg0, w_rg1, w_rgT, w_rgF, w_run, w_psd, w_und, w_dr0, w_dr1, w_drT, w_drF, w_drRun, w_drPsd, w_drUnd, w_drKn, w_drKs, w_putK, w_trimK, w_thenN, w_thenE, w_thenR, w_scope, w_label, w_blkN, w_blkE, w_blkR, w_call, w_effK, brU_true, brU_false, brU_u, brU_not, brU_and, brU_or, brU_dec, brU_eq, brU_ne, br_true, br_false, br_not, br_and, br_or, br_dec, br_eq, br_ne, w_getE0, w_getE1, w_setE0, w_setE1, w_dropE0, w_dropE1, w_drop0, w_drop1, w_getM0, w_getM1, w_setM0, w_setM1, ev_v, ev_c, w_putS, w_putN, w_lit, w_apU0, w_apU1, w_apU2, w_trim, enumE0, enumE1, w_callWp, w_callA0, w_callA1, w_R0, w_R1, w_R2, w_T2, w_callL, w_callT, w_T1, w_T0, o_mv, o_newnil, o_pick, o_bin, o_binN, o_neg, o_not, o_eqB, o_eqS, o_conv, o_alloc, o_box, o_load1, o_loadN, o_store, o_nilck, o_faddr, o_field1, o_fieldN, o_iaddr, o_istr, o_slStr, o_slSl, o_lenS, o_lenL, o_mx, o_mn, o_ext, o_build, o_lit, o_litOwn, o_app, o_mk, o_mvfrz, l_int, l_bool, l_str, l_agg, l_sl, l_own, l_ptr, l_pp, i_int, i_bool, i_str, i_sl, i_own, i_ptr, i_pp, all0, all1, e_ok1, eff, effBin, effBinN, ld_ptr, ld_pp, ld_elt, ia_own, ia_arr, el_1, el_N, load1K, faddrE, r_iaddr, sg_S, sg_c, sg_n, purL, pur, List.map, List.drop, List.take, List.length, List.foldl, List.append_eq, List.nil_append, List.cons_append, List.getD_cons_zero, List.getD_cons_succ, reduceIte, Nat.reduceEqDiff, Nat.reduceAdd, Nat.reduceLeDiff, true_and, and_true, Bool.not_true, Bool.not_false, Bool.and_true, Bool.true_and, Bool.and_self, reduceCtorEq, true_implies, false_implies, implies_true, decide_eq_true_eq, Option.map_some, fpOf, fpX, SOp.xs, oX, refs, refsL, dom, disj, List.all_nil, List.all_cons, List.contains_cons, List.contains_nil, Nat.reduceBEq, Bool.or_false, Bool.false_or, List.append_nil, Bool.not_false, Bool.not_true, List.forall_mem_cons, fm0, List.set, Nat.reduceLT, ne_eq, not_false_eq_true, not_true_eq_false
, ret1, ret1N, keep0, keep1, rf_int, rf_bool, rf_str, rf_sl, rf_agg, rf_tup, rfL0, rfL1, re_t, re_cN, re_L0, re_L1, ret_tup, ret_one, decide_true, AV.bool.injEq, AV.int.injEq, Nat.reduceLeDiff, Bool.true_eq, Bool.false_eq, decide_eq_true_eq, decide_eq_false_iff_not, t_sPathOk, t_l21In, t_l23Low, t_l23High, t_l23Most, toNat_pred, irow, List.length_map, un_stp, path_eta, flatOk, noref, ghost, Int.toNat_natCast, Nat.zero_add, Nat.sub_zero]
  refine ⟨fun h1 => ⟨by have := h1.2.1; omega, fun h2 h => h2 (by have := h.2.1; omega), fun h2 => ?_⟩, fun h1 h => h1 h.1⟩
  have hc := ok_calm h1
  have hl : f.length = p.l.length + 1 := by omega
  refine loop_of (F_sLaw p t t' f) (fun k => k ≤ f.length ∧ ∀ j, j < k → p.step f j) (fun k => f.length - k) 0 ⟨⟨.inr rfl, .inr rfl, .inr rfl, trivial⟩, ⟨rfl, trivial⟩, rfl, rfl⟩ ⟨Nat.zero_le _, fun j hj => by omega⟩ ?_
  rintro k ⟨hk, hs⟩
  unfold l_spec_FlyLawful_0 F_sLaw
  simp only [w_skip, w_rg, w_rgd, w_seq, w_cond, w_block, w_loop, w_exit, w_ret, w_gh, w_rg0, w_rg1, w_rgT, w_rgF, w_run, w_psd, w_und, w_dr0, w_dr1, w_drT, w_drF, w_drRun, w_drPsd, w_drUnd, w_drKn, w_drKs, w_putK, w_trimK, w_thenN, w_thenE, w_thenR, w_scope, w_label, w_blkN, w_blkE, w_blkR, w_call, w_effK, brU_true, brU_false, brU_u, brU_not, brU_and, brU_or, brU_dec, brU_eq, brU_ne, br_true, br_false, br_not, br_and, br_or, br_dec, br_eq, br_ne, w_getE0, w_getE1, w_setE0, w_setE1, w_dropE0, w_dropE1, w_drop0, w_drop1, w_getM0, w_getM1, w_setM0, w_setM1, ev_v, ev_c, w_putS, w_putN, w_lit, w_apU0, w_apU1, w_apU2, w_trim, enumE0, enumE1, w_callWp, w_callA0, w_callA1, w_R0, w_R1, w_R2, w_T2, w_callL, w_callT, w_T1, w_T0, o_mv, o_newnil, o_pick, o_bin, o_binN, o_neg, o_not, o_eqB, o_eqS, o_conv, o_alloc, o_box, o_load1, o_loadN, o_store, o_nilck, o_faddr, o_field1, o_fieldN, o_iaddr, o_istr, o_slStr, o_slSl, o_lenS, o_lenL, o_mx, o_mn, o_ext, o_build, o_lit, o_litOwn, o_app, o_mk, o_mvfrz, l_int, l_bool, l_str, l_agg, l_sl, l_own, l_ptr, l_pp, i_int, i_bool, i_str, i_sl, i_own, i_ptr, i_pp, all0, all1, e_ok1, eff, effBin, effBinN, ld_ptr, ld_pp, ld_elt, ia_own, ia_arr, el_1, el_N, load1K, faddrE, r_iaddr, sg_S, sg_c, sg_n, purL, pur, List.map, List.drop, List.take, List.length, List.foldl, List.append_eq, List.nil_append, List.cons_append, List.getD_cons_zero, List.getD_cons_succ, reduceIte, Nat.reduceEqDiff, Nat.reduceAdd, Nat.reduceLeDiff, true_and, and_true, Bool.not_true, Bool.not_false, Bool.and_true, Bool.true_and, Bool.and_self, reduceCtorEq, true_implies, false_implies, implies_true, decide_eq_true_eq, Option.map_some, fpOf, fpX, SOp.xs, oX, refs, refsL, dom, disj, List.all_nil, List.all_cons, List.contains_cons, List.contains_nil, Nat.reduceBEq, Bool.or_false, Bool.false_or, List.append_nil, Bool.not_false, Bool.not_true, List.forall_mem_cons, fm0, List.set, Nat.reduceLT, ne_eq, not_false_eq_true, not_true_eq_false
, ret1, ret1N, keep0, keep1, rf_int, rf_bool, rf_str, rf_sl, rf_agg, rf_tup, rfL0, rfL1, re_t, re_cN, re_L0, re_L1, ret_tup, ret_one, decide_true, AV.bool.injEq, AV.int.injEq, Nat.reduceLeDiff, Bool.true_eq, Bool.false_eq, decide_eq_true_eq, decide_eq_false_iff_not, t_sPathOk, t_l21In, t_l23Low, t_l23High, t_l23Most, toNat_pred, irow, List.length_map, un_stp, path_eta, flatOk, noref, ghost, Int.toNat_natCast, Nat.zero_add, Nat.sub_zero]
  have hn := h1.2.1
  have lo := fun j (h : j ≤ p.l.length) => hc.lo j h
  have hi := fun j (h : j ≤ p.l.length) => hc.hi j h
  have nx : ∀ (h : p.step f k), ∀ j, j < k + 1 → p.step f j := fun h j hj => by
    by_cases e : j = k
    · rw [e]; exact h
    · exact hs j (by omega)
  refine ⟨fun h3 => ⟨by omega, by omega, by omega, by omega, fun h4 => ⟨fun h5 => ?_, fun h5 => ⟨by omega, loopK_of (k + 1) ⟨⟨.inr rfl, .inr rfl, .inr rfl, trivial⟩, ⟨rfl, trivial⟩, rfl, rfl⟩ ⟨by omega, nx ⟨h4, fun h => by omega⟩⟩ (by omega)⟩⟩, fun h4 h => h4 (h.2.2 k (by omega)).1⟩, fun h3 => ⟨h1, hl, fun j hj => hs j (by omega)⟩⟩
  have b1 := (hs (k - 1) (by omega)).1
  have b2 := lo (k - 1) (by omega)
  have b3 := hi (k - 1) (by omega)
  have b4 := lo k (by omega)
  have b5 := hi k (by omega)
  exact ⟨by omega, by omega, by omega, by omega, by omega, by omega, by omega, by omega, fun h6 => ⟨by omega, loopK_of (k + 1) ⟨⟨.inr rfl, .inr rfl, .inr rfl, trivial⟩, ⟨rfl, trivial⟩, rfl, rfl⟩ ⟨by omega, nx ⟨h4, fun _ => h6⟩⟩ (by omega)⟩, fun h6 h => h6 ((h.2.2 k (by omega)).2 (by omega))⟩
theorem c_iLawful (p : Path5) (t t' : Nat) (f : List Int) : Contract P 86 [.agg [.int .i64 p.q, .int .i64 p.s, .sl t 7 (p.l.map Stp7.row), .int .i64 p.f, .int .i64 p.b], .sl t' 1 (f.map irow)] [] (.bool (decide (p.lawful f))) [] := by
  refine fn_sound ((((Env.nil P).add 92 t_iPathOk h_iPathOk).add 107 t_bound h_bound).add 82 t_within h_within) hm k_impl_FlyLawful (Nat.le_of_ble_eq_true rfl) rfl ?_
  unfold s_impl_FlyLawful
  simp only [w_skip, w_rg, w_rgd, w_seq, w_cond, w_block, w_loop, w_exit, w_ret, w_gh, w_rg0, w_rg1, w_rgT, w_rgF, w_run, w_psd, w_und, w_dr0, w_dr1, w_drT, w_drF, w_drRun, w_drPsd, w_drUnd, w_drKn, w_drKs, w_putK, w_trimK, w_thenN, w_thenE, w_thenR, w_scope, w_label, w_blkN, w_blkE, w_blkR, w_call, w_effK, brU_true, brU_false, brU_u, brU_not, brU_and, brU_or, brU_dec, brU_eq, brU_ne, br_true, br_false, br_not, br_and, br_or, br_dec, br_eq, br_ne, w_getE0, w_getE1, w_setE0, w_setE1, w_dropE0, w_dropE1, w_drop0, w_drop1, w_getM0, w_getM1, w_setM0, w_setM1, ev_v, ev_c, w_putS, w_putN, w_lit, w_apU0, w_apU1, w_apU2, w_trim, enumE0, enumE1, w_callWp, w_callA0, w_callA1, w_R0, w_R1, w_R2, w_T2, w_callL, w_callT, w_T1, w_T0, o_mv, o_newnil, o_pick, o_bin, o_binN, o_neg, o_not, o_eqB, o_eqS, o_conv, o_alloc, o_box, o_load1, o_loadN, o_store, o_nilck, o_faddr, o_field1, o_fieldN, o_iaddr, o_istr, o_slStr, o_slSl, o_lenS, o_lenL, o_mx, o_mn, o_ext, o_build, o_lit, o_litOwn, o_app, o_mk, o_mvfrz, l_int, l_bool, l_str, l_agg, l_sl, l_own, l_ptr, l_pp, i_int, i_bool, i_str, i_sl, i_own, i_ptr, i_pp, all0, all1, e_ok1, eff, effBin, effBinN, ld_ptr, ld_pp, ld_elt, ia_own, ia_arr, el_1, el_N, load1K, faddrE, r_iaddr, sg_S, sg_c, sg_n, purL, pur, List.map, List.drop, List.take, List.length, List.foldl, List.append_eq, List.nil_append, List.cons_append, List.getD_cons_zero, List.getD_cons_succ, reduceIte, Nat.reduceEqDiff, Nat.reduceAdd, Nat.reduceLeDiff, true_and, and_true, Bool.not_true, Bool.not_false, Bool.and_true, Bool.true_and, Bool.and_self, reduceCtorEq, true_implies, false_implies, implies_true, decide_eq_true_eq, Option.map_some, fpOf, fpX, SOp.xs, oX, refs, refsL, dom, disj, List.all_nil, List.all_cons, List.contains_cons, List.contains_nil, Nat.reduceBEq, Bool.or_false, Bool.false_or, List.append_nil, Bool.not_false, Bool.not_true, List.forall_mem_cons, fm0, List.set, Nat.reduceLT, ne_eq, not_false_eq_true, not_true_eq_false
, ret1, ret1N, keep0, keep1, rf_int, rf_bool, rf_str, rf_sl, rf_agg, rf_tup, rfL0, rfL1, re_t, re_cN, re_L0, re_L1, ret_tup, ret_one, decide_true, AV.bool.injEq, AV.int.injEq, Nat.reduceLeDiff, Bool.true_eq, Bool.false_eq, decide_eq_true_eq, decide_eq_false_iff_not, t_iPathOk, t_bound, t_within, t_sPathOk, Stp7.row, toNat_pred, irow, List.length_map, un_stp, path_eta, flatOk, noref, ghost, Int.toNat_natCast, Nat.zero_add, Nat.sub_zero]
  refine ⟨fun h1 => ⟨by have := h1.2.1; omega, fun h2 h => h2 (by have := h.2.1; omega), fun h2 => ?_⟩, fun h1 h => h1 h.1⟩
  have hc := ok_calm h1
  have hl : f.length = p.l.length + 1 := by omega
  refine loop_of (F_iLaw p t t' f) (fun k => k ≤ f.length ∧ ∀ j, j < k → p.step f j) (fun k => f.length - k) 0 ⟨⟨.inr rfl, .inr rfl, .inr rfl, .inr rfl, .inr rfl, trivial⟩, ⟨rfl, trivial⟩, rfl, rfl⟩ ⟨Nat.zero_le _, fun j hj => by omega⟩ ?_
  rintro k ⟨hk, hs⟩
  have hn := h1.2.1
  have lo := fun j (h : j ≤ p.l.length) => hc.lo j h
  have hi := fun j (h : j ≤ p.l.length) => hc.hi j h
  have nx : ∀ (h : p.step f k), ∀ j, j < k + 1 → p.step f j := fun h j hj => by
    by_cases e : j = k
    · rw [e]; exact h
    · exact hs j (by omega)
  have hqs : 0 ≤ p.q ∧ p.q ≤ 50 ∧ 0 ≤ p.s ∧ p.s ≤ 50 := by have := h1.1; omega
  cases hh : (p.l.getD (k - 1) default).hold with
  | false =>
    have hm : p.most (k - 1) = p.s := by unfold Path5.most; rw [hh]; rfl
    unfold l_impl_FlyLawful_0 F_iLaw
    simp only [w_skip, w_rg, w_rgd, w_seq, w_cond, w_block, w_loop, w_exit, w_ret, w_gh, w_rg0, w_rg1, w_rgT, w_rgF, w_run, w_psd, w_und, w_dr0, w_dr1, w_drT, w_drF, w_drRun, w_drPsd, w_drUnd, w_drKn, w_drKs, w_putK, w_trimK, w_thenN, w_thenE, w_thenR, w_scope, w_label, w_blkN, w_blkE, w_blkR, w_call, w_effK, brU_true, brU_false, brU_u, brU_not, brU_and, brU_or, brU_dec, brU_eq, brU_ne, br_true, br_false, br_not, br_and, br_or, br_dec, br_eq, br_ne, w_getE0, w_getE1, w_setE0, w_setE1, w_dropE0, w_dropE1, w_drop0, w_drop1, w_getM0, w_getM1, w_setM0, w_setM1, ev_v, ev_c, w_putS, w_putN, w_lit, w_apU0, w_apU1, w_apU2, w_trim, enumE0, enumE1, w_callWp, w_callA0, w_callA1, w_R0, w_R1, w_R2, w_T2, w_callL, w_callT, w_T1, w_T0, o_mv, o_newnil, o_pick, o_bin, o_binN, o_neg, o_not, o_eqB, o_eqS, o_conv, o_alloc, o_box, o_load1, o_loadN, o_store, o_nilck, o_faddr, o_field1, o_fieldN, o_iaddr, o_istr, o_slStr, o_slSl, o_lenS, o_lenL, o_mx, o_mn, o_ext, o_build, o_lit, o_litOwn, o_app, o_mk, o_mvfrz, l_int, l_bool, l_str, l_agg, l_sl, l_own, l_ptr, l_pp, i_int, i_bool, i_str, i_sl, i_own, i_ptr, i_pp, all0, all1, e_ok1, eff, effBin, effBinN, ld_ptr, ld_pp, ld_elt, ia_own, ia_arr, el_1, el_N, load1K, faddrE, r_iaddr, sg_S, sg_c, sg_n, purL, pur, List.map, List.drop, List.take, List.length, List.foldl, List.append_eq, List.nil_append, List.cons_append, List.getD_cons_zero, List.getD_cons_succ, reduceIte, Nat.reduceEqDiff, Nat.reduceAdd, Nat.reduceLeDiff, true_and, and_true, Bool.not_true, Bool.not_false, Bool.and_true, Bool.true_and, Bool.and_self, reduceCtorEq, true_implies, false_implies, implies_true, decide_eq_true_eq, Option.map_some, fpOf, fpX, SOp.xs, oX, refs, refsL, dom, disj, List.all_nil, List.all_cons, List.contains_cons, List.contains_nil, Nat.reduceBEq, Bool.or_false, Bool.false_or, List.append_nil, Bool.not_false, Bool.not_true, List.forall_mem_cons, fm0, List.set, Nat.reduceLT, ne_eq, not_false_eq_true, not_true_eq_false
, ret1, ret1N, keep0, keep1, rf_int, rf_bool, rf_str, rf_sl, rf_agg, rf_tup, rfL0, rfL1, re_t, re_cN, re_L0, re_L1, ret_tup, ret_one, decide_true, AV.bool.injEq, AV.int.injEq, Nat.reduceLeDiff, Bool.true_eq, Bool.false_eq, decide_eq_true_eq, decide_eq_false_iff_not, t_iPathOk, t_bound, t_within, t_sPathOk, Stp7.row, toNat_pred, irow, List.length_map, un_stp, path_eta, flatOk, noref, ghost, Int.toNat_natCast, Nat.zero_add, Nat.sub_zero, hh]
    refine ⟨fun h3 => ⟨by omega, by omega, by omega, fun h4 => ⟨fun h5 => ?_, fun h5 => ⟨by omega, loopK_of (k + 1) ⟨⟨.inr rfl, .inr rfl, .inr rfl, .inr rfl, .inr rfl, trivial⟩, ⟨rfl, trivial⟩, rfl, rfl⟩ ⟨by omega, nx ⟨h4, fun h => absurd h (by omega)⟩⟩ (by omega)⟩⟩, fun h4 h => h4 (h.2.2 k (by omega)).1⟩, fun h3 => ⟨h1, hl, fun j hj => hs j (by omega)⟩⟩
    have b1 := (hs (k - 1) (by omega)).1
    have b2 := lo (k - 1) (by omega)
    have b3 := hi (k - 1) (by omega)
    have b4 := lo k (by omega)
    have b5 := hi k (by omega)
    exact ⟨by omega, by omega, by omega, by omega, fun h6 h => (by have := ((h.2.2 k (by omega)).2 (by omega)).1; omega), fun h6 => ⟨by omega, fun h7 => ⟨by omega, by omega, by omega, fun h => by have := ((h.2.2 k (by omega)).2 (by omega)).2; rw [hm] at this; omega⟩, fun h7 => ⟨by omega, loopK_of (k + 1) ⟨⟨.inr rfl, .inr rfl, .inr rfl, .inr rfl, .inr rfl, trivial⟩, ⟨rfl, trivial⟩, rfl, rfl⟩ ⟨by omega, nx ⟨h4, fun _ => (by rw [hm]; omega)⟩⟩ (by omega)⟩⟩⟩
  | true =>
    have hm : p.most (k - 1) = 10000 := by unfold Path5.most; rw [hh]; rfl
    unfold l_impl_FlyLawful_0 F_iLaw
    simp only [w_skip, w_rg, w_rgd, w_seq, w_cond, w_block, w_loop, w_exit, w_ret, w_gh, w_rg0, w_rg1, w_rgT, w_rgF, w_run, w_psd, w_und, w_dr0, w_dr1, w_drT, w_drF, w_drRun, w_drPsd, w_drUnd, w_drKn, w_drKs, w_putK, w_trimK, w_thenN, w_thenE, w_thenR, w_scope, w_label, w_blkN, w_blkE, w_blkR, w_call, w_effK, brU_true, brU_false, brU_u, brU_not, brU_and, brU_or, brU_dec, brU_eq, brU_ne, br_true, br_false, br_not, br_and, br_or, br_dec, br_eq, br_ne, w_getE0, w_getE1, w_setE0, w_setE1, w_dropE0, w_dropE1, w_drop0, w_drop1, w_getM0, w_getM1, w_setM0, w_setM1, ev_v, ev_c, w_putS, w_putN, w_lit, w_apU0, w_apU1, w_apU2, w_trim, enumE0, enumE1, w_callWp, w_callA0, w_callA1, w_R0, w_R1, w_R2, w_T2, w_callL, w_callT, w_T1, w_T0, o_mv, o_newnil, o_pick, o_bin, o_binN, o_neg, o_not, o_eqB, o_eqS, o_conv, o_alloc, o_box, o_load1, o_loadN, o_store, o_nilck, o_faddr, o_field1, o_fieldN, o_iaddr, o_istr, o_slStr, o_slSl, o_lenS, o_lenL, o_mx, o_mn, o_ext, o_build, o_lit, o_litOwn, o_app, o_mk, o_mvfrz, l_int, l_bool, l_str, l_agg, l_sl, l_own, l_ptr, l_pp, i_int, i_bool, i_str, i_sl, i_own, i_ptr, i_pp, all0, all1, e_ok1, eff, effBin, effBinN, ld_ptr, ld_pp, ld_elt, ia_own, ia_arr, el_1, el_N, load1K, faddrE, r_iaddr, sg_S, sg_c, sg_n, purL, pur, List.map, List.drop, List.take, List.length, List.foldl, List.append_eq, List.nil_append, List.cons_append, List.getD_cons_zero, List.getD_cons_succ, reduceIte, Nat.reduceEqDiff, Nat.reduceAdd, Nat.reduceLeDiff, true_and, and_true, Bool.not_true, Bool.not_false, Bool.and_true, Bool.true_and, Bool.and_self, reduceCtorEq, true_implies, false_implies, implies_true, decide_eq_true_eq, Option.map_some, fpOf, fpX, SOp.xs, oX, refs, refsL, dom, disj, List.all_nil, List.all_cons, List.contains_cons, List.contains_nil, Nat.reduceBEq, Bool.or_false, Bool.false_or, List.append_nil, Bool.not_false, Bool.not_true, List.forall_mem_cons, fm0, List.set, Nat.reduceLT, ne_eq, not_false_eq_true, not_true_eq_false
, ret1, ret1N, keep0, keep1, rf_int, rf_bool, rf_str, rf_sl, rf_agg, rf_tup, rfL0, rfL1, re_t, re_cN, re_L0, re_L1, ret_tup, ret_one, decide_true, AV.bool.injEq, AV.int.injEq, Nat.reduceLeDiff, Bool.true_eq, Bool.false_eq, decide_eq_true_eq, decide_eq_false_iff_not, t_iPathOk, t_bound, t_within, t_sPathOk, Stp7.row, toNat_pred, irow, List.length_map, un_stp, path_eta, flatOk, noref, ghost, Int.toNat_natCast, Nat.zero_add, Nat.sub_zero, hh]
    refine ⟨fun h3 => ⟨by omega, by omega, by omega, fun h4 => ⟨fun h5 => ?_, fun h5 => ⟨by omega, loopK_of (k + 1) ⟨⟨.inr rfl, .inr rfl, .inr rfl, .inr rfl, .inr rfl, trivial⟩, ⟨rfl, trivial⟩, rfl, rfl⟩ ⟨by omega, nx ⟨h4, fun h => absurd h (by omega)⟩⟩ (by omega)⟩⟩, fun h4 h => h4 (h.2.2 k (by omega)).1⟩, fun h3 => ⟨h1, hl, fun j hj => hs j (by omega)⟩⟩
    have b1 := (hs (k - 1) (by omega)).1
    have b2 := lo (k - 1) (by omega)
    have b3 := hi (k - 1) (by omega)
    have b4 := lo k (by omega)
    have b5 := hi k (by omega)
    exact ⟨by omega, by omega, by omega, by omega, fun h6 h => (by have := ((h.2.2 k (by omega)).2 (by omega)).1; omega), fun h6 => ⟨by omega, fun h7 => ⟨by omega, by omega, by omega, by omega, loopK_of (k + 1) ⟨⟨.inr rfl, .inr rfl, .inr rfl, .inr rfl, .inr rfl, trivial⟩, ⟨rfl, trivial⟩, rfl, rfl⟩ ⟨by omega, nx ⟨h4, fun _ => (by rw [hm]; omega)⟩⟩ (by omega)⟩, fun h7 => ⟨by omega, loopK_of (k + 1) ⟨⟨.inr rfl, .inr rfl, .inr rfl, .inr rfl, .inr rfl, trivial⟩, ⟨rfl, trivial⟩, rfl, rfl⟩ ⟨by omega, nx ⟨h4, fun _ => (by rw [hm]; omega)⟩⟩ (by omega)⟩⟩⟩
end Go.Ve

namespace Go.Ve
noncomputable section
open Go.Proofs
set_option linter.unusedSimpArgs false
set_option linter.unusedVariables false
set_option maxRecDepth 100000
open Go.ChangeShapes Go.WideShapes
def isDown (tu : List Box6) (fl : List Int) : Prop := 0 < tu.length ∧ fl.length = tu.length + 1
instance (tu : List Box6) (fl : List Int) : Decidable (isDown tu fl) := by unfold isDown; infer_instance
theorem c_down (nm : ByteArray) (q s nr no : Int) (t t' : Nat) (tu : List Box6) (fl : List Int) (hl : tu.length ≤ 1048576) (hf : fl.length ≤ 1048576) : Contract P 67 [.agg [.str nm, .int .i64 q, .int .i64 s, .int .i64 nr, .int .i64 no, .sl t 6 (tu.map Box6.row), .sl t' 1 (fl.map irow)]] [] (.bool (decide (isDown tu fl))) [] := by
  refine fn_sound (Env.nil P) hm k_impl_LapCraft_down (Nat.le_of_ble_eq_true rfl) rfl ?_; unfold s_impl_LapCraft_down; simp (config := { maxSteps := 2000000 }) only [bitvec_to_nat, reduceIte, Nat.reduceEqDiff, Nat.reduceAdd, Nat.reduceLeDiff, reduceCtorEq, Nat.reduceBEq, Nat.reduceLT, List.forall_mem_cons, Zone.row, Zone_eta, Box6.row, box_eta6, tk_map, dp_map, toNat_pred, unZone_mk, appE, rowsOf, List.take_length, List.length_cons, List.length_nil, Nat.zero_add, srow, irow, un_s, un_i, un_box, un_Zone, un_Own, un_Part, un_Seen, un_Word, t_lap, Path5.av, Span2.row, un_stp, path_eta, irow, un_i, Int.reduceEq, Int.reduceNe, or_false, false_or, or_true, true_or, not_true_eq_false, not_false_eq_true, and_false, false_and]
  repeat' (first | with_reducible apply And.intro | with_reducible intro _)
  all_goals first
    | omega
    | exact trivial
    | grind [isDown]
def t_down : List AV → Option (Prop × AV)
  | [.agg [.str nm, .int .i64 q, .int .i64 s, .int .i64 nr, .int .i64 no, .sl t 6 tu, .sl t' 1 fl]] => some (((tu.map unBox).map Box6.row = tu ∧ (fl.map unI).map irow = fl) ∧ ((tu.map unBox).length ≤ 1048576 ∧ (fl.map unI).length ≤ 1048576), .bool (decide (isDown (tu.map unBox) (fl.map unI))))
  | _ => none
theorem h_down : ∀ args p v, t_down args = some (p, v) → p → Contract P 67 args [] v [] ∧ noref v = true ∧ No99 v := by
  intro args p v h1 h2
  unfold t_down at h1
  split at h1
  · rename_i nm q s nr no t tu t' fl
    cases h1
    obtain ⟨E, HP⟩ := h2
    have := c_down nm q s nr no t t' (tu.map unBox) (fl.map unI) HP.1 HP.2
    simp only [E.1, E.2] at this
    exact ⟨this, rfl, trivial⟩
  · cases h1
theorem c_sDown (nm : ByteArray) (q s nr no : Int) (t t' : Nat) (tu : List Box6) (fl : List Int) (hl : tu.length ≤ 1048576) (hf : fl.length ≤ 1048576) : Contract P 58 [.agg [.str nm, .int .i64 q, .int .i64 s, .int .i64 nr, .int .i64 no, .sl t 6 (tu.map Box6.row), .sl t' 1 (fl.map irow)]] [] (.bool (decide (isDown tu fl))) [] := by
  refine fn_sound (Env.nil P) hm k_spec_l43Down (Nat.le_of_ble_eq_true rfl) rfl ?_; unfold s_spec_l43Down; simp (config := { maxSteps := 2000000 }) only [bitvec_to_nat, reduceIte, Nat.reduceEqDiff, Nat.reduceAdd, Nat.reduceLeDiff, reduceCtorEq, Nat.reduceBEq, Nat.reduceLT, List.forall_mem_cons, Zone.row, Zone_eta, Box6.row, box_eta6, tk_map, dp_map, toNat_pred, unZone_mk, appE, rowsOf, List.take_length, List.length_cons, List.length_nil, Nat.zero_add, srow, irow, un_s, un_i, un_box, un_Zone, un_Own, un_Part, un_Seen, un_Word, t_lap, Path5.av, Span2.row, un_stp, path_eta, irow, un_i, Int.reduceEq, Int.reduceNe, or_false, false_or, or_true, true_or, not_true_eq_false, not_false_eq_true, and_false, false_and]
  repeat' (first | with_reducible apply And.intro | with_reducible intro _)
  all_goals first
    | omega
    | exact trivial
    | grind [isDown]
def t_sDown : List AV → Option (Prop × AV)
  | [.agg [.str nm, .int .i64 q, .int .i64 s, .int .i64 nr, .int .i64 no, .sl t 6 tu, .sl t' 1 fl]] => some (((tu.map unBox).map Box6.row = tu ∧ (fl.map unI).map irow = fl) ∧ ((tu.map unBox).length ≤ 1048576 ∧ (fl.map unI).length ≤ 1048576), .bool (decide (isDown (tu.map unBox) (fl.map unI))))
  | _ => none
theorem h_sDown : ∀ args p v, t_sDown args = some (p, v) → p → Contract P 58 args [] v [] ∧ noref v = true ∧ No99 v := by
  intro args p v h1 h2
  unfold t_sDown at h1
  split at h1
  · rename_i nm q s nr no t tu t' fl
    cases h1
    obtain ⟨E, HP⟩ := h2
    have := c_sDown nm q s nr no t t' (tu.map unBox) (fl.map unI) HP.1 HP.2
    simp only [E.1, E.2] at this
    exact ⟨this, rfl, trivial⟩
  · cases h1
def t_iLawful : List AV → Option (Prop × AV)
  | [.agg [.int .i64 q, .int .i64 s, .sl t 7 xs, .int .i64 f, .int .i64 b], .sl t' 1 ys] => some (((xs.map unStp).map Stp7.row = xs ∧ (ys.map unI).map irow = ys) ∧ (True), .bool (decide (Path5.lawful ⟨q, s, xs.map unStp, f, b⟩ (ys.map unI))))
  | _ => none
theorem h_iLawful : ∀ args p v, t_iLawful args = some (p, v) → p → Contract P 86 args [] v [] ∧ noref v = true ∧ No99 v := by
  intro args p v h1 h2
  unfold t_iLawful at h1
  split at h1
  · rename_i q s t xs f b t' ys
    cases h1
    obtain ⟨E, HP⟩ := h2
    have := c_iLawful ⟨q, s, xs.map unStp, f, b⟩ t t' (ys.map unI)
    simp only [E.1, E.2] at this
    exact ⟨this, rfl, trivial⟩
  · cases h1
def t_sLawful : List AV → Option (Prop × AV)
  | [.agg [.int .i64 q, .int .i64 s, .sl t 7 xs, .int .i64 f, .int .i64 b], .sl t' 1 ys] => some (((xs.map unStp).map Stp7.row = xs ∧ (ys.map unI).map irow = ys) ∧ (True), .bool (decide (Path5.lawful ⟨q, s, xs.map unStp, f, b⟩ (ys.map unI))))
  | _ => none
theorem h_sLawful : ∀ args p v, t_sLawful args = some (p, v) → p → Contract P 72 args [] v [] ∧ noref v = true ∧ No99 v := by
  intro args p v h1 h2
  unfold t_sLawful at h1
  split at h1
  · rename_i q s t xs f b t' ys
    cases h1
    obtain ⟨E, HP⟩ := h2
    have := c_sLawful ⟨q, s, xs.map unStp, f, b⟩ t t' (ys.map unI)
    simp only [E.1, E.2] at this
    exact ⟨this, rfl, trivial⟩
  · cases h1
def holdsOk (zs : List Zone) (q s : Int) (tu : List Box6) (fl : List Int) (now : Int) : Prop := tubeOk zs tu ∧ (0 < fl.length → fl.getD (fl.length - 1) default ≤ now) ∧ (isDown tu fl → (lapPath q s tu).lawful fl) ∧ (¬ isDown tu fl → (lapPath q s tu).begun fl ∧ (lapPath q s tu).stays fl now)
instance (zs : List Zone) (q s : Int) (tu : List Box6) (fl : List Int) (now : Int) : Decidable (holdsOk zs q s tu fl now) := Classical.propDecidable _
def craftOk (zs : List Zone) (nm : ByteArray) (q s nr no : Int) (tu : List Box6) (fl : List Int) (now : Int) : Prop := nameOk nm ∧ (1 ≤ q ∧ q ≤ s ∧ s ≤ 50) ∧ (0 ≤ nr ∧ nr ≤ 1000000) ∧ (0 ≤ no ∧ no ≤ 1000000) ∧ (0 ≤ now ∧ now ≤ 10000) ∧
  (nr = 0 → tu.length = 0 ∧ fl.length = 0) ∧ (nr ≠ 0 → no ≠ nr ∧ holdsOk zs q s tu fl now)
instance (zs : List Zone) (nm : ByteArray) (q s nr no : Int) (tu : List Box6) (fl : List Int) (now : Int) : Decidable (craftOk zs nm q s nr no tu fl now) := Classical.propDecidable _
set_option maxHeartbeats 2000000 in
theorem c_craftOk (nm : ByteArray) (q s nr no : Int) (t0 t t' : Nat) (zs : List Zone) (tu : List Box6) (fl : List Int) (now : Int) (hz : zs.length ≤ 4611686018427387904) (hl : tu.length ≤ 1048576) (hf : fl.length ≤ 1048576) : Contract P 64 [.sl t0 5 (zs.map Zone.row), .agg [.str nm, .int .i64 q, .int .i64 s, .int .i64 nr, .int .i64 no, .sl t 6 (tu.map Box6.row), .sl t' 1 (fl.map irow)], .int .i64 now] [] (.bool (decide (craftOk zs nm q s nr no tu fl now))) [] := by
  refine fn_sound ((((((((((Env.nil P).add 82 t_within h_within).add 83 t_isName h_isName).add 84 t_iKindOk h_iKindOk).add 85 t_tubeOk h_tubeOk).add 67 t_down h_down).add 86 t_iLawful h_iLawful).add 66 t_iLap h_iLap).add 87 t_cnext h_cnext).add 68 t_stays h_stays) hm k_impl_craftOk (Nat.le_of_ble_eq_true rfl) rfl ?_; unfold s_impl_craftOk; simp (config := { maxSteps := 2000000 }) only [bitvec_to_nat, reduceIte, Nat.reduceEqDiff, Nat.reduceAdd, Nat.reduceLeDiff, reduceCtorEq, Nat.reduceBEq, Nat.reduceLT, List.forall_mem_cons, t_within, t_isName, t_iKindOk, t_tubeOk, t_down, t_iLawful, t_iLap, t_cnext, t_stays, Zone.row, Zone_eta, Box6.row, box_eta6, tk_map, dp_map, toNat_pred, unZone_mk, appE, rowsOf, List.take_length, List.length_cons, List.length_nil, Nat.zero_add, srow, irow, un_s, un_i, un_box, un_Zone, un_Own, un_Part, un_Seen, un_Word, t_lap, Path5.av, Span2.row, un_stp, path_eta, irow, un_i, Int.reduceEq, Int.reduceNe, or_false, false_or, or_true, true_or, not_true_eq_false, not_false_eq_true, and_false, false_and]
  have hbo : (lapPath q s tu).begun fl → pathOk (lapPath q s tu).q (lapPath q s tu).s (lapPath q s tu).l (lapPath q s tu).f (lapPath q s tu).b := fun h => h.1
  repeat' (first | with_reducible apply And.intro | with_reducible intro _)
  all_goals first
    | with_reducible assumption
    | omega
    | exact trivial
    | grind [craftOk, holdsOk]
theorem c_sHolds (nm : ByteArray) (q s nr no : Int) (t0 t t' : Nat) (zs : List Zone) (tu : List Box6) (fl : List Int) (now : Int) (hz : zs.length ≤ 4611686018427387904) (hl : tu.length ≤ 1048576) (hf : fl.length ≤ 1048576) (hw : 0 ≤ now ∧ now ≤ 10000) : Contract P 49 [.sl t0 5 (zs.map Zone.row), .agg [.str nm, .int .i64 q, .int .i64 s, .int .i64 nr, .int .i64 no, .sl t 6 (tu.map Box6.row), .sl t' 1 (fl.map irow)], .int .i64 now] [] (.bool (decide (zonesOk zs ∧ holdsOk zs q s tu fl now))) [] := by
  refine fn_sound (((((((Env.nil P).add 56 t_sLap h_sLap).add 55 t_sTubeOk h_sTubeOk).add 58 t_sDown h_sDown).add 72 t_sLawful h_sLawful).add 73 t_begun h_begun).add 60 t_sStays h_sStays) hm k_spec_l43HoldsOk (Nat.le_of_ble_eq_true rfl) rfl ?_; unfold s_spec_l43HoldsOk; simp (config := { maxSteps := 2000000 }) only [bitvec_to_nat, reduceIte, Nat.reduceEqDiff, Nat.reduceAdd, Nat.reduceLeDiff, reduceCtorEq, Nat.reduceBEq, Nat.reduceLT, List.forall_mem_cons, t_sLap, t_sTubeOk, t_sDown, t_sLawful, t_begun, t_sStays, Zone.row, Zone_eta, Box6.row, box_eta6, tk_map, dp_map, toNat_pred, unZone_mk, appE, rowsOf, List.take_length, List.length_cons, List.length_nil, Nat.zero_add, srow, irow, un_s, un_i, un_box, un_Zone, un_Own, un_Part, un_Seen, un_Word, t_lap, Path5.av, Span2.row, un_stp, path_eta, irow, un_i, Int.reduceEq, Int.reduceNe, or_false, false_or, or_true, true_or, not_true_eq_false, not_false_eq_true, and_false, false_and]
  have hbo : (lapPath q s tu).begun fl → (lapPath q s tu).calm := fun h => ok_calm h.1
  repeat' (first | with_reducible apply And.intro | with_reducible intro _)
  all_goals first
    | with_reducible assumption
    | omega
    | exact trivial
    | grind [holdsOk]
def t_craftOk : List AV → Option (Prop × AV)
  | [.sl t0 5 zx, .agg [.str nm, .int .i64 q, .int .i64 s, .int .i64 nr, .int .i64 no, .sl t 6 tu, .sl t' 1 fl], .int .i64 now] => some (((zx.map unZone).map Zone.row = zx ∧ (tu.map unBox).map Box6.row = tu ∧ (fl.map unI).map irow = fl) ∧ ((zx.map unZone).length ≤ 4611686018427387904 ∧ (tu.map unBox).length ≤ 1048576 ∧ (fl.map unI).length ≤ 1048576), .bool (decide (craftOk (zx.map unZone) nm q s nr no (tu.map unBox) (fl.map unI) now)))
  | _ => none
theorem h_craftOk : ∀ args p v, t_craftOk args = some (p, v) → p → Contract P 64 args [] v [] ∧ noref v = true ∧ No99 v := by
  intro args p v h1 h2
  unfold t_craftOk at h1
  split at h1
  · rename_i t0 zx nm q s nr no t tu t' fl now
    cases h1
    obtain ⟨E, HP⟩ := h2
    have := c_craftOk nm q s nr no t0 t t' (zx.map unZone) (tu.map unBox) (fl.map unI) now HP.1 HP.2.1 HP.2.2
    simp only [E.1, E.2.1, E.2.2] at this
    exact ⟨this, rfl, trivial⟩
  · cases h1
def t_sHolds : List AV → Option (Prop × AV)
  | [.sl t0 5 zx, .agg [.str nm, .int .i64 q, .int .i64 s, .int .i64 nr, .int .i64 no, .sl t 6 tu, .sl t' 1 fl], .int .i64 now] => some (((zx.map unZone).map Zone.row = zx ∧ (tu.map unBox).map Box6.row = tu ∧ (fl.map unI).map irow = fl) ∧ ((zx.map unZone).length ≤ 4611686018427387904 ∧ (tu.map unBox).length ≤ 1048576 ∧ (fl.map unI).length ≤ 1048576 ∧ (0 ≤ now ∧ now ≤ 10000)), .bool (decide (zonesOk (zx.map unZone) ∧ holdsOk (zx.map unZone) q s (tu.map unBox) (fl.map unI) now)))
  | _ => none
theorem h_sHolds : ∀ args p v, t_sHolds args = some (p, v) → p → Contract P 49 args [] v [] ∧ noref v = true ∧ No99 v := by
  intro args p v h1 h2
  unfold t_sHolds at h1
  split at h1
  · rename_i t0 zx nm q s nr no t tu t' fl now
    cases h1
    obtain ⟨E, HP⟩ := h2
    have := c_sHolds nm q s nr no t0 t t' (zx.map unZone) (tu.map unBox) (fl.map unI) now HP.1 HP.2.1 HP.2.2.1 HP.2.2.2
    simp only [E.1, E.2.1, E.2.2] at this
    exact ⟨this, rfl, trivial⟩
  · cases h1
theorem c_iLapCraftOk (nm : ByteArray) (q s nr no : Int) (t0 t t' : Nat) (zs : List Zone) (tu : List Box6) (fl : List Int) (now : Int) (hz : zs.length ≤ 4611686018427387904) (hl : tu.length ≤ 1048576) (hf : fl.length ≤ 1048576) : Contract P 34 [.sl t0 5 (zs.map Zone.row), .agg [.str nm, .int .i64 q, .int .i64 s, .int .i64 nr, .int .i64 no, .sl t 6 (tu.map Box6.row), .sl t' 1 (fl.map irow)], .int .i64 now] [] (.bool (decide ((nr ≠ 0 → zonesOk zs) ∧ craftOk zs nm q s nr no tu fl now))) [] := by
  refine fn_sound (((Env.nil P).add 63 t_zonesOk h_zonesOk).add 64 t_craftOk h_craftOk) hm k_impl_LapCraftOk (Nat.le_of_ble_eq_true rfl) rfl ?_; unfold s_impl_LapCraftOk; simp (config := { maxSteps := 2000000 }) only [bitvec_to_nat, reduceIte, Nat.reduceEqDiff, Nat.reduceAdd, Nat.reduceLeDiff, reduceCtorEq, Nat.reduceBEq, Nat.reduceLT, List.forall_mem_cons, t_zonesOk, t_craftOk, Zone.row, Zone_eta, Box6.row, box_eta6, tk_map, dp_map, toNat_pred, unZone_mk, appE, rowsOf, List.take_length, List.length_cons, List.length_nil, Nat.zero_add, srow, irow, un_s, un_i, un_box, un_Zone, un_Own, un_Part, un_Seen, un_Word, t_lap, Path5.av, Span2.row, un_stp, path_eta, irow, un_i, Int.reduceEq, Int.reduceNe, or_false, false_or, or_true, true_or, not_true_eq_false, not_false_eq_true, and_false, false_and]
  repeat' (first | with_reducible apply And.intro | with_reducible intro _)
  all_goals first
    | with_reducible assumption
    | omega
    | exact trivial
    | grind [craftOk]
theorem c_sLapCraftOk (nm : ByteArray) (q s nr no : Int) (t0 t t' : Nat) (zs : List Zone) (tu : List Box6) (fl : List Int) (now : Int) (hz : zs.length ≤ 4611686018427387904) (hl : tu.length ≤ 1048576) (hf : fl.length ≤ 1048576) : Contract P 24 [.sl t0 5 (zs.map Zone.row), .agg [.str nm, .int .i64 q, .int .i64 s, .int .i64 nr, .int .i64 no, .sl t 6 (tu.map Box6.row), .sl t' 1 (fl.map irow)], .int .i64 now] [] (.bool (decide ((nr ≠ 0 → zonesOk zs) ∧ craftOk zs nm q s nr no tu fl now))) [] := by
  refine fn_sound (((((Env.nil P).add 46 t_l31NameOk h_l31NameOk).add 47 t_sKindOk h_sKindOk).add 48 t_l1In h_l1In).add 49 t_sHolds h_sHolds) hm k_spec_LapCraftOk (Nat.le_of_ble_eq_true rfl) rfl ?_; unfold s_spec_LapCraftOk; simp (config := { maxSteps := 2000000 }) only [bitvec_to_nat, reduceIte, Nat.reduceEqDiff, Nat.reduceAdd, Nat.reduceLeDiff, reduceCtorEq, Nat.reduceBEq, Nat.reduceLT, List.forall_mem_cons, t_l31NameOk, t_sKindOk, t_l1In, t_sHolds, Zone.row, Zone_eta, Box6.row, box_eta6, tk_map, dp_map, toNat_pred, unZone_mk, appE, rowsOf, List.take_length, List.length_cons, List.length_nil, Nat.zero_add, srow, irow, un_s, un_i, un_box, un_Zone, un_Own, un_Part, un_Seen, un_Word, t_lap, Path5.av, Span2.row, un_stp, path_eta, irow, un_i, Int.reduceEq, Int.reduceNe, or_false, false_or, or_true, true_or, not_true_eq_false, not_false_eq_true, and_false, false_and]
  repeat' (first | with_reducible apply And.intro | with_reducible intro _)
  all_goals first
    | with_reducible assumption
    | omega
    | exact trivial
    | grind [craftOk]
def t_iLapCraftOk : List AV → Option (Prop × AV)
  | [.sl t0 5 zx, .agg [.str nm, .int .i64 q, .int .i64 s, .int .i64 nr, .int .i64 no, .sl t 6 tu, .sl t' 1 fl], .int .i64 now] => some (((zx.map unZone).map Zone.row = zx ∧ (tu.map unBox).map Box6.row = tu ∧ (fl.map unI).map irow = fl) ∧ ((zx.map unZone).length ≤ 4611686018427387904 ∧ (tu.map unBox).length ≤ 1048576 ∧ (fl.map unI).length ≤ 1048576), .bool (decide ((nr ≠ 0 → zonesOk (zx.map unZone)) ∧ craftOk (zx.map unZone) nm q s nr no (tu.map unBox) (fl.map unI) now)))
  | _ => none
theorem h_iLapCraftOk : ∀ args p v, t_iLapCraftOk args = some (p, v) → p → Contract P 34 args [] v [] ∧ noref v = true ∧ No99 v := by
  intro args p v h1 h2
  unfold t_iLapCraftOk at h1
  split at h1
  · rename_i t0 zx nm q s nr no t tu t' fl now
    cases h1
    obtain ⟨E, HP⟩ := h2
    have := c_iLapCraftOk nm q s nr no t0 t t' (zx.map unZone) (tu.map unBox) (fl.map unI) now HP.1 HP.2.1 HP.2.2
    simp only [E.1, E.2.1, E.2.2] at this
    exact ⟨this, rfl, trivial⟩
  · cases h1
def t_sLapCraftOk : List AV → Option (Prop × AV)
  | [.sl t0 5 zx, .agg [.str nm, .int .i64 q, .int .i64 s, .int .i64 nr, .int .i64 no, .sl t 6 tu, .sl t' 1 fl], .int .i64 now] => some (((zx.map unZone).map Zone.row = zx ∧ (tu.map unBox).map Box6.row = tu ∧ (fl.map unI).map irow = fl) ∧ ((zx.map unZone).length ≤ 4611686018427387904 ∧ (tu.map unBox).length ≤ 1048576 ∧ (fl.map unI).length ≤ 1048576), .bool (decide ((nr ≠ 0 → zonesOk (zx.map unZone)) ∧ craftOk (zx.map unZone) nm q s nr no (tu.map unBox) (fl.map unI) now)))
  | _ => none
theorem h_sLapCraftOk : ∀ args p v, t_sLapCraftOk args = some (p, v) → p → Contract P 24 args [] v [] ∧ noref v = true ∧ No99 v := by
  intro args p v h1 h2
  unfold t_sLapCraftOk at h1
  split at h1
  · rename_i t0 zx nm q s nr no t tu t' fl now
    cases h1
    obtain ⟨E, HP⟩ := h2
    have := c_sLapCraftOk nm q s nr no t0 t t' (zx.map unZone) (tu.map unBox) (fl.map unI) now HP.1 HP.2.1 HP.2.2
    simp only [E.1, E.2.1, E.2.2] at this
    exact ⟨this, rfl, trivial⟩
  · cases h1
end
end Go.Ve

namespace Go.Ve
open Go.Proofs
set_option linter.unusedSimpArgs false
set_option linter.unusedVariables false
set_option maxRecDepth 100000
set_option maxHeartbeats 8000000
theorem Stp7.eq_iff (a b : Stp7) : a = b ↔ a.x = b.x ∧ a.y = b.y ∧ a.l = b.l ∧ a.h = b.h ∧ a.f = b.f ∧ a.b = b.b ∧ a.hold = b.hold := ⟨fun h => by subst h; simp, fun h => by
  cases a; cases b; simp only at h; simp only [Stp7.mk.injEq]; exact h⟩
instance : DecidableEq Stp7 := fun a b => decidable_of_iff _ (Stp7.eq_iff a b).symm
theorem eqs_stp {a b : Stp7} : eqLs [.int, .int, .int, .int, .int, .int, .bool] [.int .i64 a.x, .int .i64 a.y, .int .i64 a.l, .int .i64 a.h, .int .i64 a.f, .int .i64 a.b, .bool a.hold] [.int .i64 b.x, .int .i64 b.y, .int .i64 b.l, .int .i64 b.h, .int .i64 b.f, .int .i64 b.b, .bool b.hold] = some (decide (a = b)) := by
  simp only [eqLs, eqLeaf, if_true, Option.some.injEq]
  rw [Bool.eq_iff_iff]
  simp only [Bool.and_eq_true, beq_iff_eq, decide_eq_true_eq, Stp7.eq_iff, and_true]
theorem eqs_two {a b c d : Int} : eqLs [.int, .int] [.int .i64 a, .int .i64 b] [.int .i64 c, .int .i64 d] = some (decide (a = c ∧ b = d)) := by
  simp only [eqLs, eqLeaf, if_true, Option.some.injEq]
  rw [Bool.eq_iff_iff]
  simp only [Bool.and_eq_true, beq_iff_eq, decide_eq_true_eq, and_true]
/-- How many first steps two lists share. -/
def shN : List Stp7 → List Stp7 → Nat
  | a :: l, b :: l' => if a = b then shN l l' + 1 else 0
  | _, _ => 0
theorem shN_eq : ∀ {l l' : List Stp7} {n : Nat}, n ≤ l.length → n ≤ l'.length → (∀ j, j < n → l.getD j default = l'.getD j default) → (n = l.length ∨ n = l'.length ∨ l.getD n default ≠ l'.getD n default) → shN l l' = n
  | [], l', n, h1, h2, h3, h4 => by simp at h1; subst h1; simp [shN]
  | a :: l, [], n, h1, h2, h3, h4 => by simp at h2; subst h2; simp [shN]
  | a :: l, b :: l', 0, h1, h2, h3, h4 => by
    have : a ≠ b := by simpa using h4
    simp [shN, this]
  | a :: l, b :: l', n + 1, h1, h2, h3, h4 => by
    have e : a = b := by simpa using h3 0 (by omega)
    simp only [shN, if_pos e]
    rw [shN_eq (by simpa using h1) (by simpa using h2) (fun j hj => by simpa using h3 (j + 1) (by omega)) (by simpa using h4)]
def Path5.shared (p q : Path5) : Nat := if p.q = q.q ∧ p.s = q.s then shN p.l q.l else 0
def F_sh (p q : Path5) (t t' n : Nat) : St := ⟨[(2, .ptr 102 0), (3, .ptr 103 0), (5, .int .i64 n)], [(102, .box [.int .i64 p.q, .int .i64 p.s, .sl t 7 (p.l.map Stp7.row), .int .i64 p.f, .int .i64 p.b]), (103, .box [.int .i64 q.q, .int .i64 q.s, .sl t' 7 (q.l.map Stp7.row), .int .i64 q.f, .int .i64 q.b])]⟩
theorem c_iShared (p q : Path5) (t t' : Nat) (hp : p.l.length ≤ 1048576) : Contract P 69 [.agg [.int .i64 p.q, .int .i64 p.s, .sl t 7 (p.l.map Stp7.row), .int .i64 p.f, .int .i64 p.b], .agg [.int .i64 q.q, .int .i64 q.s, .sl t' 7 (q.l.map Stp7.row), .int .i64 q.f, .int .i64 q.b]] [] (.int .i64 (p.shared q : Nat)) [] := by
  refine fn_sound (Env.nil P) Go.Ve.hm k_impl_FlyShared (Nat.le_of_ble_eq_true rfl) rfl ?_
  unfold s_impl_FlyShared
  simp only [w_skip, w_rg, w_rgd, w_seq, w_cond, w_block, w_loop, w_exit, w_ret, w_gh, w_rg0, w_rg1, w_rgT, w_rgF, w_run, w_psd, w_und, w_dr0, w_dr1, w_drT, w_drF, w_drRun, w_drPsd, w_drUnd, w_drKn, w_drKs, w_putK, w_trimK, w_thenN, w_thenE, w_thenR, w_scope, w_label, w_blkN, w_blkE, w_blkR, w_call, w_effK, brU_true, brU_false, brU_u, brU_not, brU_and, brU_or, brU_dec, brU_eq, brU_ne, br_true, br_false, br_not, br_and, br_or, br_dec, br_eq, br_ne, w_getE0, w_getE1, w_setE0, w_setE1, w_dropE0, w_dropE1, w_drop0, w_drop1, w_getM0, w_getM1, w_setM0, w_setM1, ev_v, ev_c, w_putS, w_putN, w_lit, w_apU0, w_apU1, w_apU2, w_trim, enumE0, enumE1, w_callWp, w_callA0, w_callA1, w_R0, w_R1, w_R2, w_T2, w_callL, w_callT, w_T1, w_T0, o_mv, o_newnil, o_pick, o_bin, o_binN, o_neg, o_not, o_eqB, o_eqS, o_conv, o_alloc, o_box, o_load1, o_loadN, o_store, o_nilck, o_faddr, o_field1, o_fieldN, o_iaddr, o_istr, o_slStr, o_slSl, o_lenS, o_lenL, o_mx, o_mn, o_ext, o_build, o_lit, o_litOwn, o_app, o_mk, o_mvfrz, l_int, l_bool, l_str, l_agg, l_sl, l_own, l_ptr, l_pp, i_int, i_bool, i_str, i_sl, i_own, i_ptr, i_pp, all0, all1, e_ok1, eff, effBin, effBinN, ld_ptr, ld_pp, ld_elt, ia_own, ia_arr, el_1, el_N, load1K, faddrE, r_iaddr, sg_S, sg_c, sg_n, purL, pur, List.map, List.drop, List.take, List.length, List.foldl, List.append_eq, List.nil_append, List.cons_append, List.getD_cons_zero, List.getD_cons_succ, reduceIte, Nat.reduceEqDiff, Nat.reduceAdd, Nat.reduceLeDiff, true_and, and_true, Bool.not_true, Bool.not_false, Bool.and_true, Bool.true_and, Bool.and_self, reduceCtorEq, true_implies, false_implies, implies_true, decide_eq_true_eq, Option.map_some, fpOf, fpX, SOp.xs, oX, refs, refsL, dom, disj, List.all_nil, List.all_cons, List.contains_cons, List.contains_nil, Nat.reduceBEq, Bool.or_false, Bool.false_or, List.append_nil, Bool.not_false, Bool.not_true, List.forall_mem_cons, fm0, List.set, Nat.reduceLT, ne_eq, not_false_eq_true, not_true_eq_false
, ret1, ret1N, keep0, keep1, rf_int, rf_bool, rf_str, rf_sl, rf_agg, rf_tup, rfL0, rfL1, re_t, re_cN, re_L0, re_L1, ret_tup, ret_one, decide_true, AV.bool.injEq, AV.int.injEq, Nat.reduceLeDiff, decide_eq_true_eq, decide_eq_false_iff_not, eqs_stp, eqs_two, eq_self, bne_self_eq_false, Stp7.row, List.length_map, Int.toNat_natCast, beq_self_eq_true, Option.map_some]
  refine ⟨fun hk => ?_, fun hk => by rw [Path5.shared, if_neg hk]; rfl⟩
  have hsh : p.shared q = shN p.l q.l := if_pos hk
  refine loop_of (F_sh p q t t') (fun n => n ≤ p.l.length ∧ n ≤ q.l.length ∧ ∀ j, j < n → p.l.getD j default = q.l.getD j default) (fun n => p.l.length - n) 0 ⟨⟨.inr rfl, .inr rfl, .inr rfl, trivial⟩, ⟨rfl, rfl, trivial⟩, rfl, rfl⟩ ⟨Nat.zero_le _, Nat.zero_le _, fun j hj => by omega⟩ ?_
  intro n hn
  unfold l_impl_FlyShared_0 F_sh
  simp only [w_skip, w_rg, w_rgd, w_seq, w_cond, w_block, w_loop, w_exit, w_ret, w_gh, w_rg0, w_rg1, w_rgT, w_rgF, w_run, w_psd, w_und, w_dr0, w_dr1, w_drT, w_drF, w_drRun, w_drPsd, w_drUnd, w_drKn, w_drKs, w_putK, w_trimK, w_thenN, w_thenE, w_thenR, w_scope, w_label, w_blkN, w_blkE, w_blkR, w_call, w_effK, brU_true, brU_false, brU_u, brU_not, brU_and, brU_or, brU_dec, brU_eq, brU_ne, br_true, br_false, br_not, br_and, br_or, br_dec, br_eq, br_ne, w_getE0, w_getE1, w_setE0, w_setE1, w_dropE0, w_dropE1, w_drop0, w_drop1, w_getM0, w_getM1, w_setM0, w_setM1, ev_v, ev_c, w_putS, w_putN, w_lit, w_apU0, w_apU1, w_apU2, w_trim, enumE0, enumE1, w_callWp, w_callA0, w_callA1, w_R0, w_R1, w_R2, w_T2, w_callL, w_callT, w_T1, w_T0, o_mv, o_newnil, o_pick, o_bin, o_binN, o_neg, o_not, o_eqB, o_eqS, o_conv, o_alloc, o_box, o_load1, o_loadN, o_store, o_nilck, o_faddr, o_field1, o_fieldN, o_iaddr, o_istr, o_slStr, o_slSl, o_lenS, o_lenL, o_mx, o_mn, o_ext, o_build, o_lit, o_litOwn, o_app, o_mk, o_mvfrz, l_int, l_bool, l_str, l_agg, l_sl, l_own, l_ptr, l_pp, i_int, i_bool, i_str, i_sl, i_own, i_ptr, i_pp, all0, all1, e_ok1, eff, effBin, effBinN, ld_ptr, ld_pp, ld_elt, ia_own, ia_arr, el_1, el_N, load1K, faddrE, r_iaddr, sg_S, sg_c, sg_n, purL, pur, List.map, List.drop, List.take, List.length, List.foldl, List.append_eq, List.nil_append, List.cons_append, List.getD_cons_zero, List.getD_cons_succ, reduceIte, Nat.reduceEqDiff, Nat.reduceAdd, Nat.reduceLeDiff, true_and, and_true, Bool.not_true, Bool.not_false, Bool.and_true, Bool.true_and, Bool.and_self, reduceCtorEq, true_implies, false_implies, implies_true, decide_eq_true_eq, Option.map_some, fpOf, fpX, SOp.xs, oX, refs, refsL, dom, disj, List.all_nil, List.all_cons, List.contains_cons, List.contains_nil, Nat.reduceBEq, Bool.or_false, Bool.false_or, List.append_nil, Bool.not_false, Bool.not_true, List.forall_mem_cons, fm0, List.set, Nat.reduceLT, ne_eq, not_false_eq_true, not_true_eq_false
, ret1, ret1N, keep0, keep1, rf_int, rf_bool, rf_str, rf_sl, rf_agg, rf_tup, rfL0, rfL1, re_t, re_cN, re_L0, re_L1, ret_tup, ret_one, decide_true, AV.bool.injEq, AV.int.injEq, Nat.reduceLeDiff, decide_eq_true_eq, decide_eq_false_iff_not, eqs_stp, eqs_two, eq_self, bne_self_eq_false, Stp7.row, List.length_map, Int.toNat_natCast, beq_self_eq_true, Option.map_some]
  have fin : (n = p.l.length ∨ n = q.l.length ∨ p.l.getD n default ≠ q.l.getD n default) → (n : Int) = (p.shared q : Nat) := fun h => by rw [hsh, shN_eq hn.1 hn.2.1 hn.2.2 h]
  refine ⟨fun g1 => ⟨fun g2 => ⟨by omega, by omega, by omega, by omega, fun g3 => ⟨by omega, loopK_of (n + 1) ⟨⟨.inr rfl, .inr rfl, .inr rfl, trivial⟩, ⟨rfl, rfl, trivial⟩, rfl, rfl⟩ ⟨by omega, by omega, fun j hj => ?_⟩ (by omega)⟩, fun g3 => fin (.inr (.inr g3))⟩, fun g2 => fin (.inr (.inl (by omega)))⟩, fun g1 => fin (.inl (by omega))⟩
  by_cases e : j = n
  · rw [e]; exact g3
  · exact hn.2.2 j (by omega)
theorem c_sShared (p q : Path5) (t t' : Nat) (hp : p.l.length ≤ 1048576) : Contract P 59 [.agg [.int .i64 p.q, .int .i64 p.s, .sl t 7 (p.l.map Stp7.row), .int .i64 p.f, .int .i64 p.b], .agg [.int .i64 q.q, .int .i64 q.s, .sl t' 7 (q.l.map Stp7.row), .int .i64 q.f, .int .i64 q.b]] [] (.int .i64 (p.shared q : Nat)) [] := by
  refine fn_sound (Env.nil P) Go.Ve.hm k_spec_FlyShared (Nat.le_of_ble_eq_true rfl) rfl ?_
  unfold s_spec_FlyShared
  simp only [w_skip, w_rg, w_rgd, w_seq, w_cond, w_block, w_loop, w_exit, w_ret, w_gh, w_rg0, w_rg1, w_rgT, w_rgF, w_run, w_psd, w_und, w_dr0, w_dr1, w_drT, w_drF, w_drRun, w_drPsd, w_drUnd, w_drKn, w_drKs, w_putK, w_trimK, w_thenN, w_thenE, w_thenR, w_scope, w_label, w_blkN, w_blkE, w_blkR, w_call, w_effK, brU_true, brU_false, brU_u, brU_not, brU_and, brU_or, brU_dec, brU_eq, brU_ne, br_true, br_false, br_not, br_and, br_or, br_dec, br_eq, br_ne, w_getE0, w_getE1, w_setE0, w_setE1, w_dropE0, w_dropE1, w_drop0, w_drop1, w_getM0, w_getM1, w_setM0, w_setM1, ev_v, ev_c, w_putS, w_putN, w_lit, w_apU0, w_apU1, w_apU2, w_trim, enumE0, enumE1, w_callWp, w_callA0, w_callA1, w_R0, w_R1, w_R2, w_T2, w_callL, w_callT, w_T1, w_T0, o_mv, o_newnil, o_pick, o_bin, o_binN, o_neg, o_not, o_eqB, o_eqS, o_conv, o_alloc, o_box, o_load1, o_loadN, o_store, o_nilck, o_faddr, o_field1, o_fieldN, o_iaddr, o_istr, o_slStr, o_slSl, o_lenS, o_lenL, o_mx, o_mn, o_ext, o_build, o_lit, o_litOwn, o_app, o_mk, o_mvfrz, l_int, l_bool, l_str, l_agg, l_sl, l_own, l_ptr, l_pp, i_int, i_bool, i_str, i_sl, i_own, i_ptr, i_pp, all0, all1, e_ok1, eff, effBin, effBinN, ld_ptr, ld_pp, ld_elt, ia_own, ia_arr, el_1, el_N, load1K, faddrE, r_iaddr, sg_S, sg_c, sg_n, purL, pur, List.map, List.drop, List.take, List.length, List.foldl, List.append_eq, List.nil_append, List.cons_append, List.getD_cons_zero, List.getD_cons_succ, reduceIte, Nat.reduceEqDiff, Nat.reduceAdd, Nat.reduceLeDiff, true_and, and_true, Bool.not_true, Bool.not_false, Bool.and_true, Bool.true_and, Bool.and_self, reduceCtorEq, true_implies, false_implies, implies_true, decide_eq_true_eq, Option.map_some, fpOf, fpX, SOp.xs, oX, refs, refsL, dom, disj, List.all_nil, List.all_cons, List.contains_cons, List.contains_nil, Nat.reduceBEq, Bool.or_false, Bool.false_or, List.append_nil, Bool.not_false, Bool.not_true, List.forall_mem_cons, fm0, List.set, Nat.reduceLT, ne_eq, not_false_eq_true, not_true_eq_false
, ret1, ret1N, keep0, keep1, rf_int, rf_bool, rf_str, rf_sl, rf_agg, rf_tup, rfL0, rfL1, re_t, re_cN, re_L0, re_L1, ret_tup, ret_one, decide_true, AV.bool.injEq, AV.int.injEq, Nat.reduceLeDiff, decide_eq_true_eq, decide_eq_false_iff_not, eqs_stp, eqs_two, eq_self, bne_self_eq_false, Stp7.row, List.length_map, Int.toNat_natCast, beq_self_eq_true, Option.map_some]
  refine loop_of (F_sh p q t t') (fun n => (n = 0 ∨ (p.q = q.q ∧ p.s = q.s)) ∧ n ≤ p.l.length ∧ n ≤ q.l.length ∧ ∀ j, j < n → p.l.getD j default = q.l.getD j default) (fun n => p.l.length - n) 0 ⟨⟨.inr rfl, .inr rfl, .inr rfl, trivial⟩, ⟨rfl, rfl, trivial⟩, rfl, rfl⟩ ⟨.inl rfl, Nat.zero_le _, Nat.zero_le _, fun j hj => by omega⟩ ?_
  intro n hn
  unfold l_spec_FlyShared_0 F_sh
  simp only [w_skip, w_rg, w_rgd, w_seq, w_cond, w_block, w_loop, w_exit, w_ret, w_gh, w_rg0, w_rg1, w_rgT, w_rgF, w_run, w_psd, w_und, w_dr0, w_dr1, w_drT, w_drF, w_drRun, w_drPsd, w_drUnd, w_drKn, w_drKs, w_putK, w_trimK, w_thenN, w_thenE, w_thenR, w_scope, w_label, w_blkN, w_blkE, w_blkR, w_call, w_effK, brU_true, brU_false, brU_u, brU_not, brU_and, brU_or, brU_dec, brU_eq, brU_ne, br_true, br_false, br_not, br_and, br_or, br_dec, br_eq, br_ne, w_getE0, w_getE1, w_setE0, w_setE1, w_dropE0, w_dropE1, w_drop0, w_drop1, w_getM0, w_getM1, w_setM0, w_setM1, ev_v, ev_c, w_putS, w_putN, w_lit, w_apU0, w_apU1, w_apU2, w_trim, enumE0, enumE1, w_callWp, w_callA0, w_callA1, w_R0, w_R1, w_R2, w_T2, w_callL, w_callT, w_T1, w_T0, o_mv, o_newnil, o_pick, o_bin, o_binN, o_neg, o_not, o_eqB, o_eqS, o_conv, o_alloc, o_box, o_load1, o_loadN, o_store, o_nilck, o_faddr, o_field1, o_fieldN, o_iaddr, o_istr, o_slStr, o_slSl, o_lenS, o_lenL, o_mx, o_mn, o_ext, o_build, o_lit, o_litOwn, o_app, o_mk, o_mvfrz, l_int, l_bool, l_str, l_agg, l_sl, l_own, l_ptr, l_pp, i_int, i_bool, i_str, i_sl, i_own, i_ptr, i_pp, all0, all1, e_ok1, eff, effBin, effBinN, ld_ptr, ld_pp, ld_elt, ia_own, ia_arr, el_1, el_N, load1K, faddrE, r_iaddr, sg_S, sg_c, sg_n, purL, pur, List.map, List.drop, List.take, List.length, List.foldl, List.append_eq, List.nil_append, List.cons_append, List.getD_cons_zero, List.getD_cons_succ, reduceIte, Nat.reduceEqDiff, Nat.reduceAdd, Nat.reduceLeDiff, true_and, and_true, Bool.not_true, Bool.not_false, Bool.and_true, Bool.true_and, Bool.and_self, reduceCtorEq, true_implies, false_implies, implies_true, decide_eq_true_eq, Option.map_some, fpOf, fpX, SOp.xs, oX, refs, refsL, dom, disj, List.all_nil, List.all_cons, List.contains_cons, List.contains_nil, Nat.reduceBEq, Bool.or_false, Bool.false_or, List.append_nil, Bool.not_false, Bool.not_true, List.forall_mem_cons, fm0, List.set, Nat.reduceLT, ne_eq, not_false_eq_true, not_true_eq_false
, ret1, ret1N, keep0, keep1, rf_int, rf_bool, rf_str, rf_sl, rf_agg, rf_tup, rfL0, rfL1, re_t, re_cN, re_L0, re_L1, ret_tup, ret_one, decide_true, AV.bool.injEq, AV.int.injEq, Nat.reduceLeDiff, decide_eq_true_eq, decide_eq_false_iff_not, eqs_stp, eqs_two, eq_self, bne_self_eq_false, Stp7.row, List.length_map, Int.toNat_natCast, beq_self_eq_true, Option.map_some]
  have fin : (n = p.l.length ∨ n = q.l.length ∨ p.l.getD n default ≠ q.l.getD n default) → (n : Int) = (p.shared q : Nat) := fun h => by
    unfold Path5.shared
    split
    · rw [shN_eq hn.2.1 hn.2.2.1 hn.2.2.2 h]
    · rename_i hk; rcases hn.1 with h0 | h0
      · omega
      · exact absurd h0 hk
  have fin2 : ¬ (p.q = q.q ∧ p.s = q.s) → (n : Int) = (p.shared q : Nat) := fun hk => by
    rw [Path5.shared, if_neg hk]
    rcases hn.1 with h0 | h0
    · omega
    · exact absurd h0 hk
  refine ⟨fun g1 => ⟨fun g2 => ⟨by omega, by omega, by omega, by omega, fun g3 => ⟨fun g4 => ⟨by omega, loopK_of (n + 1) ⟨⟨.inr rfl, .inr rfl, .inr rfl, trivial⟩, ⟨rfl, rfl, trivial⟩, rfl, rfl⟩ ⟨.inr g4, by omega, by omega, fun j hj => ?_⟩ (by omega)⟩, fin2⟩, fun g3 => fin (.inr (.inr g3))⟩, fun g2 => fin (.inr (.inl (by omega)))⟩, fun g1 => fin (.inl (by omega))⟩
  by_cases e : j = n
  · rw [e]; exact g3
  · exact hn.2.2.2 j (by omega)
/-- Whoever is in a step may turn. -/
def t_iShared : List AV → Option (Prop × AV)
  | [.agg [.int .i64 pq, .int .i64 ps, .sl pt 7 px, .int .i64 pf, .int .i64 pb], .agg [.int .i64 qq, .int .i64 qs, .sl qt 7 qx, .int .i64 qf, .int .i64 qb]] => some ((((px.map unStp).map Stp7.row = px) ∧ ((qx.map unStp).map Stp7.row = qx)) ∧ ((Path5.mk pq ps (px.map unStp) pf pb).l.length ≤ 1048576), .int .i64 ((Path5.mk pq ps (px.map unStp) pf pb).shared (Path5.mk qq qs (qx.map unStp) qf qb) : Nat))
  | _ => none
theorem h_iShared : ∀ args p v, t_iShared args = some (p, v) → p → Contract P 69 args [] v [] ∧ noref v = true ∧ No99 v := by
  intro args p v h1 h2
  unfold t_iShared at h1
  split at h1
  · rename_i pq ps pt px pf pb qq qs qt qx qf qb
    cases h1
    obtain ⟨⟨e0, e1⟩, HP⟩ := h2
    have := c_iShared (Path5.mk pq ps (px.map unStp) pf pb) (Path5.mk qq qs (qx.map unStp) qf qb) pt qt HP
    simp only [e0, e1] at this
    exact ⟨this, rfl, trivial⟩
  · cases h1
def t_sShared : List AV → Option (Prop × AV)
  | [.agg [.int .i64 pq, .int .i64 ps, .sl pt 7 px, .int .i64 pf, .int .i64 pb], .agg [.int .i64 qq, .int .i64 qs, .sl qt 7 qx, .int .i64 qf, .int .i64 qb]] => some ((((px.map unStp).map Stp7.row = px) ∧ ((qx.map unStp).map Stp7.row = qx)) ∧ ((Path5.mk pq ps (px.map unStp) pf pb).l.length ≤ 1048576), .int .i64 ((Path5.mk pq ps (px.map unStp) pf pb).shared (Path5.mk qq qs (qx.map unStp) qf qb) : Nat))
  | _ => none
theorem h_sShared : ∀ args p v, t_sShared args = some (p, v) → p → Contract P 59 args [] v [] ∧ noref v = true ∧ No99 v := by
  intro args p v h1 h2
  unfold t_sShared at h1
  split at h1
  · rename_i pq ps pt px pf pb qq qs qt qx qf qb
    cases h1
    obtain ⟨⟨e0, e1⟩, HP⟩ := h2
    have := c_sShared (Path5.mk pq ps (px.map unStp) pf pb) (Path5.mk qq qs (qx.map unStp) qf qb) pt qt HP
    simp only [e0, e1] at this
    exact ⟨this, rfl, trivial⟩
  · cases h1
end Go.Ve

namespace Go.Ve
open Go.Proofs
def lO_laws_toHandZoneS_0 : SCode := (.seq (.seq (.rg [⟨some 8, .mv (.v 4), none, []⟩, ⟨some 9, .mv (.v 0), none, []⟩, ⟨some 10, .lenL (.v 9), none, [9]⟩, ⟨some 11, .bin .lss (.v 8) (.v 10), none, [8, 10]⟩] [0, 3, 4, 11]) (.cond (.v 11) .skip (.exit 0))) (.seq (.block 1 (.rg [⟨some 14, .mv (.v 3), none, []⟩, ⟨some 15, .mv (.v 4), none, []⟩, ⟨some 16, .mv (.v 0), none, []⟩, ⟨some 17, .mv (.v 4), none, []⟩, ⟨some 18, .iaddr 5 (.v 16) (.v 17), none, [16, 17]⟩, ⟨some 19, .loadN 5 (.v 18), none, [18]⟩, ⟨some 20, .call 29 [.v 19], none, [19]⟩, ⟨some 21, .iaddr 5 (.v 14) (.v 15), none, [14, 15]⟩, ⟨none, .store 5 (.v 21) (.v 20), none, [20, 21]⟩] [0, 3, 4])) (.rg [⟨some 12, .mv (.v 4), none, [4]⟩, ⟨some 13, .binN .add (.v 12) (.c (.int .i64 1)), none, [12]⟩, ⟨some 4, .mv (.v 13), none, [13]⟩] [0, 3, 4])))
/-- laws.toHandZoneS: function 8 -/
def sO_laws_toHandZoneS : SFun := { n := 23, res := [.t 2], body := (.seq (.rg [⟨some 2, .mv (.c (.sl 0 5 [])), none, [2]⟩] [0]) (.seq (.rg [⟨some 5, .mv (.v 0), none, []⟩, ⟨some 6, .lenL (.v 5), none, [5]⟩, ⟨some 7, .mk 107 64 5 [.str ⟨#[]⟩, .int .i64 0, .int .i64 0, .int .i64 0, .int .i64 0] (.v 6), none, [6]⟩, ⟨some 3, .mv (.v 7), none, [7]⟩] [0, 3]) (.seq (.seq (.rg [⟨some 4, .mv (.c (.int .i64 0)), none, []⟩] [0, 3, 4]) (.block 0 (.loop lO_laws_toHandZoneS_0))) (.seq (.rg [⟨some 22, .mv (.v 3), none, [3]⟩, ⟨some 2, .mv (.v 22), none, [22]⟩] [2]) .ret)))) }
theorem kO_laws_toHandZoneS : okFun Go.Proofs.Tryz.prog 8 sO_laws_toHandZoneS = true := by kernel_rfl
/-- spec.l31Tube: function 28 -/
def sO_spec_l31Tube : SFun := { n := 6, res := [.t 2], body := (.seq (.rg [⟨some 2, .mv (.c (.sl 0 6 [])), none, [2]⟩] [0]) (.seq (.rg [⟨some 3, .litOwn 103 93 6 [], none, []⟩, ⟨some 4, .mv (.v 0), none, [0]⟩, ⟨some 5, .app 103 93 6 (.v 3) (.v 4), none, [3, 4]⟩, ⟨some 2, .mv (.v 5), none, [5]⟩] [2]) .ret)) }
theorem kO_spec_l31Tube : okFun Go.Proofs.Tryz.prog 28 sO_spec_l31Tube = true := by kernel_rfl
def lO_laws_toHandBoxS_0 : SCode := (.seq (.seq (.rg [⟨some 8, .mv (.v 4), none, []⟩, ⟨some 9, .mv (.v 0), none, []⟩, ⟨some 10, .lenL (.v 9), none, [9]⟩, ⟨some 11, .bin .lss (.v 8) (.v 10), none, [8, 10]⟩] [0, 3, 4, 11]) (.cond (.v 11) .skip (.exit 0))) (.seq (.block 1 (.rg [⟨some 14, .mv (.v 3), none, []⟩, ⟨some 15, .mv (.v 4), none, []⟩, ⟨some 16, .mv (.v 0), none, []⟩, ⟨some 17, .mv (.v 4), none, []⟩, ⟨some 18, .iaddr 6 (.v 16) (.v 17), none, [16, 17]⟩, ⟨some 19, .loadN 6 (.v 18), none, [18]⟩, ⟨some 20, .call 61 [.v 19], none, [19]⟩, ⟨some 21, .iaddr 6 (.v 14) (.v 15), none, [14, 15]⟩, ⟨none, .store 6 (.v 21) (.v 20), none, [20, 21]⟩] [0, 3, 4])) (.rg [⟨some 12, .mv (.v 4), none, [4]⟩, ⟨some 13, .binN .add (.v 12) (.c (.int .i64 1)), none, [12]⟩, ⟨some 4, .mv (.v 13), none, [13]⟩] [0, 3, 4])))
/-- laws.toHandBoxS: function 31 -/
def sO_laws_toHandBoxS : SFun := { n := 23, res := [.t 2], body := (.seq (.rg [⟨some 2, .mv (.c (.sl 0 6 [])), none, [2]⟩] [0]) (.seq (.rg [⟨some 5, .mv (.v 0), none, []⟩, ⟨some 6, .lenL (.v 5), none, [5]⟩, ⟨some 7, .mk 107 93 6 [.int .i64 0, .int .i64 0, .int .i64 0, .int .i64 0, .int .i64 0, .int .i64 0] (.v 6), none, [6]⟩, ⟨some 3, .mv (.v 7), none, [7]⟩] [0, 3]) (.seq (.seq (.rg [⟨some 4, .mv (.c (.int .i64 0)), none, []⟩] [0, 3, 4]) (.block 0 (.loop lO_laws_toHandBoxS_0))) (.seq (.rg [⟨some 22, .mv (.v 3), none, [3]⟩, ⟨some 2, .mv (.v 22), none, [22]⟩] [2]) .ret)))) }
theorem kO_laws_toHandBoxS : okFun Go.Proofs.Tryz.prog 31 sO_laws_toHandBoxS = true := by kernel_rfl
def lO_laws_toIntS_0 : SCode := (.seq (.seq (.rg [⟨some 8, .mv (.v 4), none, []⟩, ⟨some 9, .mv (.v 0), none, []⟩, ⟨some 10, .lenL (.v 9), none, [9]⟩, ⟨some 11, .bin .lss (.v 8) (.v 10), none, [8, 10]⟩] [0, 3, 4, 11]) (.cond (.v 11) .skip (.exit 0))) (.seq (.block 1 (.rg [⟨some 14, .mv (.v 3), none, []⟩, ⟨some 15, .mv (.v 4), none, []⟩, ⟨some 16, .mv (.v 0), none, []⟩, ⟨some 17, .mv (.v 4), none, []⟩, ⟨some 18, .iaddr 1 (.v 16) (.v 17), none, [16, 17]⟩, ⟨some 19, .load1 (.v 18), none, [18]⟩, ⟨some 20, .iaddr 1 (.v 14) (.v 15), none, [14, 15]⟩, ⟨none, .store 1 (.v 20) (.v 19), none, [19, 20]⟩] [0, 3, 4])) (.rg [⟨some 12, .mv (.v 4), none, [4]⟩, ⟨some 13, .binN .add (.v 12) (.c (.int .i64 1)), none, [12]⟩, ⟨some 4, .mv (.v 13), none, [13]⟩] [0, 3, 4])))
/-- laws.toIntS: function 32 -/
def sO_laws_toIntS : SFun := { n := 22, res := [.t 2], body := (.seq (.rg [⟨some 2, .mv (.c (.sl 0 1 [])), none, [2]⟩] [0]) (.seq (.rg [⟨some 5, .mv (.v 0), none, []⟩, ⟨some 6, .lenL (.v 5), none, [5]⟩, ⟨some 7, .mk 107 3 1 [.int .i64 0] (.v 6), none, [6]⟩, ⟨some 3, .mv (.v 7), none, [7]⟩] [0, 3]) (.seq (.seq (.rg [⟨some 4, .mv (.c (.int .i64 0)), none, []⟩] [0, 3, 4]) (.block 0 (.loop lO_laws_toIntS_0))) (.seq (.rg [⟨some 21, .mv (.v 3), none, [3]⟩, ⟨some 2, .mv (.v 21), none, [21]⟩] [2]) .ret)))) }
theorem kO_laws_toIntS : okFun Go.Proofs.Tryz.prog 32 sO_laws_toIntS = true := by kernel_rfl
/-- impl.ownBoxes: function 62 -/
def sO_impl_ownBoxes : SFun := { n := 5, res := [.t 2], body := (.seq (.rg [⟨some 2, .mv (.c (.sl 0 6 [])), none, [2]⟩] [0]) (.seq (.rg [⟨some 3, .mv (.v 0), none, [0]⟩, ⟨some 4, .app 104 93 6 (.c (.sl 0 6 [])) (.v 3), none, [3]⟩, ⟨some 2, .mv (.v 4), none, [4]⟩] [2]) .ret)) }
theorem kO_impl_ownBoxes : okFun Go.Proofs.Tryz.prog 62 sO_impl_ownBoxes = true := by kernel_rfl
end Go.Ve

namespace Go.Ve
noncomputable section
open Go.Proofs
set_option linter.unusedSimpArgs false
set_option linter.unusedVariables false
set_option maxRecDepth 100000
theorem stays_ok {p : Path5} {fl : List Int} {now : Int} (h : p.stays fl now) : pathOk p.q p.s p.l p.f p.b := by
  unfold Path5.stays at h
  split at h
  · exact h.1
  · exact h.1
theorem c_staysN (nm : ByteArray) (q s nr no : Int) (t t' : Nat) (tu : List Box6) (fl : List Int) (t2 : Nat) (p : Path5) (now : Int) (hp : ¬ pathOk p.q p.s p.l p.f p.b) (hb : fl.length ≤ 1048576) : Contract P 68 [.agg [.str nm, .int .i64 q, .int .i64 s, .int .i64 nr, .int .i64 no, .sl t 6 (tu.map Box6.row), .sl t' 1 (fl.map irow)], .agg [.int .i64 p.q, .int .i64 p.s, .sl t2 7 (p.l.map Stp7.row), .int .i64 p.f, .int .i64 p.b], .int .i64 now] [] (.bool (decide (p.stays fl now))) [] := by
  have hs : ¬ p.stays fl now := fun h => hp (stays_ok h)
  have hf : ¬ p.fit := fun h => hp h.1
  have hg : ∀ k e, ¬ p.goes k e now := fun k e h => hp h.1
  refine fn_sound (((Env.nil P).add 93 t_iFit h_iFit).add 94 t_iRest h_iRest) hm k_impl_LapCraft_stays (Nat.le_of_ble_eq_true rfl) rfl ?_; unfold s_impl_LapCraft_stays; simp (config := { maxSteps := 2000000 }) only [bitvec_to_nat, reduceIte, Nat.reduceEqDiff, Nat.reduceAdd, Nat.reduceLeDiff, reduceCtorEq, Nat.reduceBEq, Nat.reduceLT, List.forall_mem_cons, t_iFit, t_iRest, Zone.row, Zone_eta, Box6.row, box_eta6, tk_map, dp_map, toNat_pred, unZone_mk, appE, rowsOf, List.take_length, List.length_cons, List.length_nil, Nat.zero_add, srow, irow, un_s, un_i, un_box, un_Zone, un_Own, un_Part, un_Seen, un_Word, t_lap, t_frest, t_fit, Path5.av, Span2.row, un_stp, path_eta, irow, un_i, Int.reduceEq, Int.reduceNe, or_false, false_or, or_true, true_or, not_true_eq_false, not_false_eq_true, and_false, false_and, hs, hf, hg, decide_false]
  repeat' (first | with_reducible apply And.intro | with_reducible intro _)
  all_goals first
    | with_reducible assumption
    | omega
    | exact trivial
    | rfl
    | (rename_i h; exact absurd h hf)
theorem c_stays2 (nm : ByteArray) (q s nr no : Int) (t t' : Nat) (tu : List Box6) (fl : List Int) (t2 : Nat) (p : Path5) (now : Int) (hb : fl.length ≤ 1048576) : Contract P 68 [.agg [.str nm, .int .i64 q, .int .i64 s, .int .i64 nr, .int .i64 no, .sl t 6 (tu.map Box6.row), .sl t' 1 (fl.map irow)], .agg [.int .i64 p.q, .int .i64 p.s, .sl t2 7 (p.l.map Stp7.row), .int .i64 p.f, .int .i64 p.b], .int .i64 now] [] (.bool (decide (p.stays fl now))) [] := by
  by_cases hp : pathOk p.q p.s p.l p.f p.b
  · exact c_stays nm q s nr no t t' t2 tu fl p now hp hb
  · exact c_staysN nm q s nr no t t' tu fl t2 p now hp hb
def t_stays2 : List AV → Option (Prop × AV)
  | [.agg [.str nm, .int .i64 q, .int .i64 s, .int .i64 nr, .int .i64 no, .sl t 6 tu, .sl t' 1 fl], .agg [.int .i64 pq, .int .i64 ps, .sl t2 7 xs, .int .i64 f, .int .i64 b], .int .i64 now] => some (((tu.map unBox).map Box6.row = tu ∧ (fl.map unI).map irow = fl ∧ (xs.map unStp).map Stp7.row = xs) ∧ ((fl.map unI).length ≤ 1048576), .bool (decide (Path5.stays ⟨pq, ps, xs.map unStp, f, b⟩ (fl.map unI) now)))
  | _ => none
theorem h_stays2 : ∀ args p v, t_stays2 args = some (p, v) → p → Contract P 68 args [] v [] ∧ noref v = true ∧ No99 v := by
  intro args p v h1 h2
  unfold t_stays2 at h1
  split at h1
  · rename_i nm q s nr no t tu t' fl pq ps t2 xs f b now
    cases h1
    obtain ⟨E, HP⟩ := h2
    have := c_stays2 nm q s nr no t t' (tu.map unBox) (fl.map unI) t2 ⟨pq, ps, xs.map unStp, f, b⟩ now HP
    simp only [E.1, E.2.1, E.2.2] at this
    exact ⟨this, rfl, trivial⟩
  · cases h1
theorem lap_calm (q s : Int) (l : List Box6) : (lapPath q s l).calm := by
  unfold lapPath
  split
  · rename_i h; exact ok_calm h.2
  · exact ⟨by simp, by simp, by simp, fun k hk => by simp at hk; subst hk; simp [Path5.low], fun k hk => by simp at hk; subst hk; simp [Path5.high]⟩
def canTake (q s : Int) (tu : List Box6) (fl : List Int) (tu2 : List Box6) (now : Int) : Prop := (fl.length ≠ 0 → ¬ isDown tu fl ∧ fl.length ≤ (lapPath q s tu).shared (lapPath q s tu2)) ∧ (lapPath q s tu2).stays fl now
instance (q s : Int) (tu : List Box6) (fl : List Int) (tu2 : List Box6) (now : Int) : Decidable (canTake q s tu fl tu2 now) := Classical.propDecidable _
theorem stays_nil {p : Path5} {fl : List Int} {now : Int} (h : fl.length = 0) : p.stays fl now ↔ pathOk p.q p.s p.l p.f p.b ∧ (p.wait now).can := by
  unfold Path5.stays; rw [if_pos h]
theorem lap_len (q s : Int) (l : List Box6) : (lapPath q s l).l.length ≤ l.length := by
  unfold lapPath
  split
  · simp [lapTo]
  · simp
theorem c_sCan (nm : ByteArray) (q s nr no : Int) (t t' : Nat) (tu : List Box6) (fl : List Int) (t2 : Nat) (tu2 : List Box6) (now : Int) (hl : tu.length ≤ 1048576) (hf : fl.length ≤ 1048576) (hl2 : tu2.length ≤ 1048576) (hw : 0 ≤ now ∧ now ≤ 10000) :
    Contract P 26 [.agg [.str nm, .int .i64 q, .int .i64 s, .int .i64 nr, .int .i64 no, .sl t 6 (tu.map Box6.row), .sl t' 1 (fl.map irow)], .sl t2 6 (tu2.map Box6.row), .int .i64 now] [] (.bool (decide (canTake q s tu fl tu2 now))) [] := by
  have h1 := lap_calm q s tu2
  have h2 := lap_len q s tu
  have h3 : (lapPath q s tu).l.length ≤ 1048576 := by omega
  refine fn_sound ((((((Env.nil P).add 56 t_sLap h_sLap).add 57 t_waits h_waits).add 58 t_sDown h_sDown).add 59 t_sShared h_sShared).add 60 t_sStays h_sStays) hm k_spec_l43Can (Nat.le_of_ble_eq_true rfl) rfl ?_; unfold s_spec_l43Can; simp (config := { maxSteps := 2000000 }) only [bitvec_to_nat, reduceIte, Nat.reduceEqDiff, Nat.reduceAdd, Nat.reduceLeDiff, reduceCtorEq, Nat.reduceBEq, Nat.reduceLT, List.forall_mem_cons, t_sLap, t_waits, t_sDown, t_sShared, t_sStays, Zone.row, Zone_eta, Box6.row, box_eta6, tk_map, dp_map, toNat_pred, unZone_mk, appE, rowsOf, List.take_length, List.length_cons, List.length_nil, Nat.zero_add, srow, irow, un_s, un_i, un_box, un_Zone, un_Own, un_Part, un_Seen, un_Word, t_lap, t_frest, t_fit, Path5.av, Span2.row, un_stp, path_eta, irow, un_i, Int.reduceEq, Int.reduceNe, or_false, false_or, or_true, true_or, not_true_eq_false, not_false_eq_true, and_false, false_and]
  have hn : fl.length = 0 → (canTake q s tu fl tu2 now ↔ pathOk (lapPath q s tu2).q (lapPath q s tu2).s (lapPath q s tu2).l (lapPath q s tu2).f (lapPath q s tu2).b ∧ ((lapPath q s tu2).wait now).can) := fun h => by
    unfold canTake; rw [stays_nil h]; exact ⟨fun k => k.2, fun k => ⟨fun h9 => absurd h h9, k⟩⟩
  have hs : fl.length ≠ 0 → (canTake q s tu fl tu2 now ↔ (¬ isDown tu fl ∧ fl.length ≤ (lapPath q s tu).shared (lapPath q s tu2)) ∧ (lapPath q s tu2).stays fl now) := fun h => by
    unfold canTake; exact ⟨fun k => ⟨k.1 h, k.2⟩, fun k => ⟨fun _ => k.1, k.2⟩⟩
  refine ⟨by omega, fun h => ⟨⟨h1, by omega, by omega⟩, decide_eq_decide.2 (hn (by omega)).symm⟩, fun h => ⟨by omega, ⟨hl, hf⟩, fun g k => ((hs (by omega)).1 k).1.1 g, fun g => ⟨hl, h3, fun k => ⟨⟨h1, ⟨by omega, by omega⟩, hf⟩, decide_eq_decide.2 ?_⟩, fun k c => ?_⟩⟩⟩
  · rw [hs (by omega)]; exact ⟨fun c => ⟨⟨g, by omega⟩, c⟩, fun c => c.2⟩
  · have := ((hs (by omega)).1 c).1.2; omega
def t_sCan : List AV → Option (Prop × AV)
  | [.agg [.str nm, .int .i64 q, .int .i64 s, .int .i64 nr, .int .i64 no, .sl t 6 tu, .sl t' 1 fl], .sl t2 6 ux, .int .i64 now] => some (((tu.map unBox).map Box6.row = tu ∧ (fl.map unI).map irow = fl ∧ (ux.map unBox).map Box6.row = ux) ∧ (((tu.map unBox).length ≤ 1048576 ∧ (fl.map unI).length ≤ 1048576 ∧ (ux.map unBox).length ≤ 1048576) ∧ (0 ≤ now ∧ now ≤ 10000)), .bool (decide (canTake q s (tu.map unBox) (fl.map unI) (ux.map unBox) now)))
  | _ => none
theorem h_sCan : ∀ args p v, t_sCan args = some (p, v) → p → Contract P 26 args [] v [] ∧ noref v = true ∧ No99 v := by
  intro args p v h1 h2
  unfold t_sCan at h1
  split at h1
  · rename_i nm q s nr no t tu t' fl t2 ux now
    cases h1
    obtain ⟨E, HP⟩ := h2
    have := c_sCan nm q s nr no t t' (tu.map unBox) (fl.map unI) t2 (ux.map unBox) now HP.1.1 HP.1.2.1 HP.1.2.2 HP.2
    simp only [E.1, E.2.1, E.2.2] at this
    exact ⟨this, rfl, trivial⟩
  · cases h1
theorem c_ownBoxesO (t : Nat) (a : List Box6) (ha : a.length ≤ 1048577) : Contract P 62 [.sl t 6 (a.map Box6.row)] [] (.own 104 0 0 a.length) [(104, .arr 93 0 6 (a.map Box6.row))] := by
  refine fn_sound (Env.nil P) hm kO_impl_ownBoxes (Nat.le_of_ble_eq_true rfl) rfl ?_; unfold sO_impl_ownBoxes; simp (config := { maxSteps := 2000000 }) only [bitvec_to_nat, reduceIte, Nat.reduceEqDiff, Nat.reduceAdd, Nat.reduceLeDiff, reduceCtorEq, Nat.reduceBEq, Nat.reduceLT, List.forall_mem_cons, retG_ret, retQ_eq, retQ_eqN, retOk, keepB, re_tupl, orr_t, List.length_map, Int.toNat_natCast, ghost, List.nil_append, rowsOf, appE, Nat.zero_add, Nat.sub_zero, noref, flatOk, List.length_nil, take_all]
  exact ⟨by omega, rfl, rfl⟩
theorem c_l31TubeO (t : Nat) (a : List Box6) (ha : a.length ≤ 1048577) : Contract P 28 [.sl t 6 (a.map Box6.row)] [] (.own 103 1 0 a.length) [(103, .arr 93 1 6 (a.map Box6.row))] := by
  refine fn_sound (Env.nil P) hm kO_spec_l31Tube (Nat.le_of_ble_eq_true rfl) rfl ?_; unfold sO_spec_l31Tube; simp (config := { maxSteps := 2000000 }) only [bitvec_to_nat, reduceIte, Nat.reduceEqDiff, Nat.reduceAdd, Nat.reduceLeDiff, reduceCtorEq, Nat.reduceBEq, Nat.reduceLT, List.forall_mem_cons, retG_ret, retQ_eq, retQ_eqN, retOk, keepB, re_tupl, orr_t, List.length_map, Int.toNat_natCast, ghost, List.nil_append, rowsOf, appE, Nat.zero_add, Nat.sub_zero, noref, flatOk, List.length_nil, take_all]
  exact ⟨by omega, rfl, rfl⟩
def r_ownB : RTab
  | [.sl bt 6 bx], M => some ⟨(M 134 = none) ∧ (((bx.map unBox).map Box6.row = bx)) ∧ ((bx.map unBox).length ≤ 1048577), fun _ : Unit => True, fun _ => .own 134 0 0 (bx.map unBox).length, fun _ => [(134, .arr 93 0 6 bx)]⟩
  | _, _ => none
theorem h_ownB : okTab P 62 r_ownB := by
  intro args M o h hp
  unfold r_ownB at h
  split at h
  · rename_i bt bx
    cases h
    obtain ⟨hn, e0, HP⟩ := hp
    have hC := (c_ownBoxesO bt (bx.map unBox) HP).ren (swp 104 134) (swp_swp 104 134)
    simp only [renL, ren, renM, renO, swp, reduceIte, Nat.reduceEqDiff, e0] at hC
    refine ⟨(), trivial, .inr (.inr ⟨_, by simp only [purL, pur, Option.map_some], hC, fun p hp => ?_, ?_, rfl, ?_, ?_⟩)⟩
    · simp only [List.mem_cons, List.not_mem_nil, or_false] at hp
      subst hp; exact hn
    · simp [refsIn, refsInL, dom]
    · exact trivial
    · intro p hp
      simp only [List.mem_cons, List.not_mem_nil, or_false] at hp
      subst hp; rw [← e0]; exact no99_box _
  · cases h
def r_l31T : RTab
  | [.sl bt 6 bx], M => some ⟨(M 128 = none) ∧ (((bx.map unBox).map Box6.row = bx)) ∧ ((bx.map unBox).length ≤ 1048577), fun _ : Unit => True, fun _ => .own 128 1 0 (bx.map unBox).length, fun _ => [(128, .arr 93 1 6 bx)]⟩
  | _, _ => none
theorem h_l31T : okTab P 28 r_l31T := by
  intro args M o h hp
  unfold r_l31T at h
  split at h
  · rename_i bt bx
    cases h
    obtain ⟨hn, e0, HP⟩ := hp
    have hC := (c_l31TubeO bt (bx.map unBox) HP).ren (swp 103 128) (swp_swp 103 128)
    simp only [renL, ren, renM, renO, swp, reduceIte, Nat.reduceEqDiff, e0] at hC
    refine ⟨(), trivial, .inr (.inr ⟨_, by simp only [purL, pur, Option.map_some], hC, fun p hp => ?_, ?_, rfl, ?_, ?_⟩)⟩
    · simp only [List.mem_cons, List.not_mem_nil, or_false] at hp
      subst hp; exact hn
    · simp [refsIn, refsInL, dom]
    · exact trivial
    · intro p hp
      simp only [List.mem_cons, List.not_mem_nil, or_false] at hp
      subst hp; rw [← e0]; exact no99_box _
  · cases h
theorem c_ownCraftO (nm : ByteArray) (q s nr no : Int) (t t' : Nat) (tu : List Box6) (fl : List Int) (hu : tu.length ≤ 1048577) (hk : fl.length ≤ 1048577) : Contract P 33 [.agg [.str nm, .int .i64 q, .int .i64 s, .int .i64 nr, .int .i64 no, .sl t 6 (tu.map Box6.row), .sl t' 1 (fl.map irow)]] [] (.agg [.str nm, .int .i64 q, .int .i64 s, .int .i64 nr, .int .i64 no, .own 134 0 0 tu.length, .own 109 0 0 fl.length]) [(134, .arr 93 0 6 (tu.map Box6.row)), (109, .arr 3 0 1 (fl.map irow))] := by
  refine fn_sound ((Env.nil P).addR 62 r_ownB h_ownB) hm k_impl_ownCraft (Nat.le_of_ble_eq_true rfl) rfl ?_; unfold s_impl_ownCraft; simp (config := { maxSteps := 2000000 }) only [bitvec_to_nat, reduceIte, Nat.reduceEqDiff, Nat.reduceAdd, Nat.reduceLeDiff, reduceCtorEq, Nat.reduceBEq, Nat.reduceLT, List.forall_mem_cons, retG_ret, retQ_eq, retQ_eqN, retOk, keepB, re_tupl, orr_t, r_ownB, un_box, un_i, List.length_map, Box6.row, irow, Int.toNat_natCast, Nat.zero_add, Nat.sub_zero, noref, flatOk, rowsOf, appE, List.nil_append, take_all, ghost]
  exact ⟨by omega, fun _ => ⟨by omega, rfl, rfl⟩⟩
theorem c_l43CopyO (nm : ByteArray) (q s nr no : Int) (t t' : Nat) (tu : List Box6) (fl : List Int) (hu : tu.length ≤ 1048577) (hk : fl.length ≤ 1048577) : Contract P 23 [.agg [.str nm, .int .i64 q, .int .i64 s, .int .i64 nr, .int .i64 no, .sl t 6 (tu.map Box6.row), .sl t' 1 (fl.map irow)]] [] (.agg [.str nm, .int .i64 q, .int .i64 s, .int .i64 nr, .int .i64 no, .own 128 1 0 tu.length, .own 107 1 0 fl.length]) [(128, .arr 93 1 6 (tu.map Box6.row)), (107, .arr 3 1 1 (fl.map irow))] := by
  refine fn_sound ((Env.nil P).addR 28 r_l31T h_l31T) hm k_spec_l43Copy (Nat.le_of_ble_eq_true rfl) rfl ?_; unfold s_spec_l43Copy; simp (config := { maxSteps := 2000000 }) only [bitvec_to_nat, reduceIte, Nat.reduceEqDiff, Nat.reduceAdd, Nat.reduceLeDiff, reduceCtorEq, Nat.reduceBEq, Nat.reduceLT, List.forall_mem_cons, retG_ret, retQ_eq, retQ_eqN, retOk, keepB, re_tupl, orr_t, r_l31T, un_box, un_i, List.length_map, Box6.row, irow, Int.toNat_natCast, Nat.zero_add, Nat.sub_zero, noref, flatOk, rowsOf, appE, List.nil_append, take_all, ghost]
  exact ⟨by omega, fun _ => ⟨by omega, rfl, rfl⟩⟩
end
end Go.Ve

namespace Go.Ve
noncomputable section
open Go.Proofs
set_option linter.unusedSimpArgs false
set_option linter.unusedVariables false
set_option maxRecDepth 100000
set_option maxHeartbeats 4000000 in
theorem c_take1 (nm : ByteArray) (q s nr no : Int) (tu : List Box6) (fl : List Int) (w : Word) (t2 : Nat) (now : Int) (hu : tu.length ≤ 1048576) (hk : fl.length ≤ 1048576) (hw : w.tu.length ≤ 1048576) (hq : ¬ (w.kd = 7 ∧ w.fl = nm ∧ nr ≤ w.nr)) : Contract P 36 [.ptr 3 0, .agg (w.row t2), .int .i64 now] [(3, .box [.str nm, .int .i64 q, .int .i64 s, .int .i64 nr, .int .i64 no, .own 4 0 0 tu.length, .own 5 0 0 fl.length]), (4, .arr 93 0 6 (tu.map Box6.row)), (5, .arr 3 0 1 (fl.map irow))] (.tup [.agg [.int .i64 0, .str ⟨#[]⟩, .str ⟨#[]⟩, .str ⟨#[]⟩, .int .i64 0, .int .i64 0, .int .i64 0, .sl 0 6 []], .bool false]) [(3, .box [.str nm, .int .i64 q, .int .i64 s, .int .i64 nr, .int .i64 no, .own 4 0 0 tu.length, .own 5 0 0 fl.length]), (4, .arr 93 0 6 (tu.map Box6.row)), (5, .arr 3 0 1 (fl.map irow))] := by
  have tkB : List.take tu.length (tu.map Box6.row) = tu.map Box6.row := List.take_of_length_le (by simp)
  have tkI : List.take fl.length (fl.map irow) = fl.map irow := List.take_of_length_le (by simp)
  have hln := lap_len q s tu
  simp only [Word.row]
  refine fn_sound ((((((Env.nil P).addR 62 r_ownB h_ownB).add 66 t_iLap h_iLap).add 67 t_down h_down).add 68 t_stays2 h_stays2).add 69 t_iShared h_iShared) hm k_impl_LapCraft_take (Nat.le_of_ble_eq_true rfl) rfl ?_; unfold s_impl_LapCraft_take; simp (config := { maxSteps := 2000000 }) only [bitvec_to_nat, reduceIte, Nat.reduceEqDiff, Nat.reduceAdd, Nat.reduceLeDiff, reduceCtorEq, Nat.reduceBEq, Nat.reduceLT, List.forall_mem_cons, retG_ret, retQ_eq, retQ_eqN, retOk, keepB, re_tupl, orr_t, t_iLap, t_down, t_stays2, t_iShared, r_ownB, Zone.row, Zone_eta, Box6.row, box_eta6, tk_map, dp_map, toNat_pred, unZone_mk, appE, rowsOf, List.take_length, List.length_cons, List.length_nil, Nat.zero_add, srow, irow, un_s, un_i, un_box, un_Zone, un_Own, un_Part, un_Seen, un_Word, t_lap, t_frest, t_fit, Path5.av, Span2.row, un_stp, path_eta, irow, un_i, take_all, flatOk, noref, ghost, Word.row, Word_eta, tkB, tkI]
  repeat' (first | with_reducible apply And.intro | with_reducible intro _)
  all_goals first
    | omega
    | rfl
    | exact trivial
    | (simp [refsIn]; done)
    | (exfalso; omega)
    | (exfalso; grind [canTake, isDown])
    | grind [canTake, isDown]
set_option maxHeartbeats 4000000 in
theorem c_take2 (nm : ByteArray) (q s nr no : Int) (tu : List Box6) (fl : List Int) (w : Word) (t2 : Nat) (now : Int) (hu : tu.length ≤ 1048576) (hk : fl.length ≤ 1048576) (hw : w.tu.length ≤ 1048576) (hq : w.kd = 7 ∧ w.fl = nm ∧ nr ≤ w.nr) (hr : w.nr = nr) : Contract P 36 [.ptr 3 0, .agg (w.row t2), .int .i64 now] [(3, .box [.str nm, .int .i64 q, .int .i64 s, .int .i64 nr, .int .i64 no, .own 4 0 0 tu.length, .own 5 0 0 fl.length]), (4, .arr 93 0 6 (tu.map Box6.row)), (5, .arr 3 0 1 (fl.map irow))] (.tup [.agg [.int .i64 8, .str ⟨#[]⟩, .str w.fr, .str nm, .int .i64 w.nr, .int .i64 0, .int .i64 0, .sl 0 6 []], .bool true]) [(3, .box [.str nm, .int .i64 q, .int .i64 s, .int .i64 nr, .int .i64 no, .own 4 0 0 tu.length, .own 5 0 0 fl.length]), (4, .arr 93 0 6 (tu.map Box6.row)), (5, .arr 3 0 1 (fl.map irow))] := by
  have tkB : List.take tu.length (tu.map Box6.row) = tu.map Box6.row := List.take_of_length_le (by simp)
  have tkI : List.take fl.length (fl.map irow) = fl.map irow := List.take_of_length_le (by simp)
  have hln := lap_len q s tu
  simp only [Word.row]
  refine fn_sound ((((((Env.nil P).addR 62 r_ownB h_ownB).add 66 t_iLap h_iLap).add 67 t_down h_down).add 68 t_stays2 h_stays2).add 69 t_iShared h_iShared) hm k_impl_LapCraft_take (Nat.le_of_ble_eq_true rfl) rfl ?_; unfold s_impl_LapCraft_take; simp (config := { maxSteps := 2000000 }) only [bitvec_to_nat, reduceIte, Nat.reduceEqDiff, Nat.reduceAdd, Nat.reduceLeDiff, reduceCtorEq, Nat.reduceBEq, Nat.reduceLT, List.forall_mem_cons, retG_ret, retQ_eq, retQ_eqN, retOk, keepB, re_tupl, orr_t, t_iLap, t_down, t_stays2, t_iShared, r_ownB, Zone.row, Zone_eta, Box6.row, box_eta6, tk_map, dp_map, toNat_pred, unZone_mk, appE, rowsOf, List.take_length, List.length_cons, List.length_nil, Nat.zero_add, srow, irow, un_s, un_i, un_box, un_Zone, un_Own, un_Part, un_Seen, un_Word, t_lap, t_frest, t_fit, Path5.av, Span2.row, un_stp, path_eta, irow, un_i, take_all, flatOk, noref, ghost, Word.row, Word_eta, tkB, tkI]
  repeat' (first | with_reducible apply And.intro | with_reducible intro _)
  all_goals first
    | omega
    | rfl
    | exact trivial
    | (simp [refsIn]; done)
    | (exfalso; omega)
    | (exfalso; grind [canTake, isDown])
    | grind [canTake, isDown]
set_option maxHeartbeats 4000000 in
theorem c_take3 (nm : ByteArray) (q s nr no : Int) (tu : List Box6) (fl : List Int) (w : Word) (t2 : Nat) (now : Int) (hu : tu.length ≤ 1048576) (hk : fl.length ≤ 1048576) (hw : w.tu.length ≤ 1048576) (hq : w.kd = 7 ∧ w.fl = nm ∧ nr ≤ w.nr) (hr : w.nr ≠ nr) (hs : w.nr ≤ no ∨ ¬ canTake q s tu fl w.tu now) : Contract P 36 [.ptr 3 0, .agg (w.row t2), .int .i64 now] [(3, .box [.str nm, .int .i64 q, .int .i64 s, .int .i64 nr, .int .i64 no, .own 4 0 0 tu.length, .own 5 0 0 fl.length]), (4, .arr 93 0 6 (tu.map Box6.row)), (5, .arr 3 0 1 (fl.map irow))] (.tup [.agg [.int .i64 9, .str ⟨#[]⟩, .str w.fr, .str nm, .int .i64 w.nr, .int .i64 0, .int .i64 0, .sl 0 6 []], .bool true]) [(3, .box [.str nm, .int .i64 q, .int .i64 s, .int .i64 nr, .int .i64 (if w.nr > no then w.nr else no), .own 4 0 0 tu.length, .own 5 0 0 fl.length]), (4, .arr 93 0 6 (tu.map Box6.row)), (5, .arr 3 0 1 (fl.map irow))] := by
  have tkB : List.take tu.length (tu.map Box6.row) = tu.map Box6.row := List.take_of_length_le (by simp)
  have tkI : List.take fl.length (fl.map irow) = fl.map irow := List.take_of_length_le (by simp)
  have hln := lap_len q s tu
  simp only [Word.row]
  refine fn_sound ((((((Env.nil P).addR 62 r_ownB h_ownB).add 66 t_iLap h_iLap).add 67 t_down h_down).add 68 t_stays2 h_stays2).add 69 t_iShared h_iShared) hm k_impl_LapCraft_take (Nat.le_of_ble_eq_true rfl) rfl ?_; unfold s_impl_LapCraft_take; simp (config := { maxSteps := 2000000 }) only [bitvec_to_nat, reduceIte, Nat.reduceEqDiff, Nat.reduceAdd, Nat.reduceLeDiff, reduceCtorEq, Nat.reduceBEq, Nat.reduceLT, List.forall_mem_cons, retG_ret, retQ_eq, retQ_eqN, retOk, keepB, re_tupl, orr_t, t_iLap, t_down, t_stays2, t_iShared, r_ownB, Zone.row, Zone_eta, Box6.row, box_eta6, tk_map, dp_map, toNat_pred, unZone_mk, appE, rowsOf, List.take_length, List.length_cons, List.length_nil, Nat.zero_add, srow, irow, un_s, un_i, un_box, un_Zone, un_Own, un_Part, un_Seen, un_Word, t_lap, t_frest, t_fit, Path5.av, Span2.row, un_stp, path_eta, irow, un_i, take_all, flatOk, noref, ghost, Word.row, Word_eta, tkB, tkI]
  repeat' (first | with_reducible apply And.intro | with_reducible intro _)
  all_goals first
    | omega
    | rfl
    | exact trivial
    | (simp [refsIn]; done)
    | (exfalso; omega)
    | (exfalso; grind [canTake, isDown])
    | grind [canTake, isDown]
set_option maxHeartbeats 4000000 in
theorem c_take4 (nm : ByteArray) (q s nr no : Int) (tu : List Box6) (fl : List Int) (w : Word) (t2 : Nat) (now : Int) (hu : tu.length ≤ 1048576) (hk : fl.length ≤ 1048576) (hw : w.tu.length ≤ 1048576) (hq : w.kd = 7 ∧ w.fl = nm ∧ nr ≤ w.nr) (hr : w.nr ≠ nr) (hs : ¬ w.nr ≤ no) (ht : canTake q s tu fl w.tu now) : Contract P 36 [.ptr 3 0, .agg (w.row t2), .int .i64 now] [(3, .box [.str nm, .int .i64 q, .int .i64 s, .int .i64 nr, .int .i64 no, .own 4 0 0 tu.length, .own 5 0 0 fl.length]), (4, .arr 93 0 6 (tu.map Box6.row)), (5, .arr 3 0 1 (fl.map irow))] (.tup [.agg [.int .i64 8, .str ⟨#[]⟩, .str w.fr, .str nm, .int .i64 w.nr, .int .i64 0, .int .i64 0, .sl 0 6 []], .bool true]) [(3, .box [.str nm, .int .i64 q, .int .i64 s, .int .i64 w.nr, .int .i64 no, .own 134 0 0 w.tu.length, .own 5 0 0 fl.length]), (4, .arr 93 0 6 (tu.map Box6.row)), (5, .arr 3 0 1 (fl.map irow)), (134, .arr 93 0 6 (w.tu.map Box6.row))] := by
  have tkB : List.take tu.length (tu.map Box6.row) = tu.map Box6.row := List.take_of_length_le (by simp)
  have tkI : List.take fl.length (fl.map irow) = fl.map irow := List.take_of_length_le (by simp)
  have hln := lap_len q s tu
  simp only [Word.row]
  refine fn_sound ((((((Env.nil P).addR 62 r_ownB h_ownB).add 66 t_iLap h_iLap).add 67 t_down h_down).add 68 t_stays2 h_stays2).add 69 t_iShared h_iShared) hm k_impl_LapCraft_take (Nat.le_of_ble_eq_true rfl) rfl ?_; unfold s_impl_LapCraft_take; simp (config := { maxSteps := 2000000 }) only [bitvec_to_nat, reduceIte, Nat.reduceEqDiff, Nat.reduceAdd, Nat.reduceLeDiff, reduceCtorEq, Nat.reduceBEq, Nat.reduceLT, List.forall_mem_cons, retG_ret, retQ_eq, retQ_eqN, retOk, keepB, re_tupl, orr_t, t_iLap, t_down, t_stays2, t_iShared, r_ownB, Zone.row, Zone_eta, Box6.row, box_eta6, tk_map, dp_map, toNat_pred, unZone_mk, appE, rowsOf, List.take_length, List.length_cons, List.length_nil, Nat.zero_add, srow, irow, un_s, un_i, un_box, un_Zone, un_Own, un_Part, un_Seen, un_Word, t_lap, t_frest, t_fit, Path5.av, Span2.row, un_stp, path_eta, irow, un_i, take_all, flatOk, noref, ghost, Word.row, Word_eta, tkB, tkI]
  repeat' (first | with_reducible apply And.intro | with_reducible intro _)
  all_goals first
    | omega
    | rfl
    | exact trivial
    | (simp [refsIn]; done)
    | (exfalso; omega)
    | (exfalso; grind [canTake, isDown])
    | grind [canTake, isDown]
end
end Go.Ve

namespace Go.Ve
noncomputable section
open Go.Proofs
set_option linter.unusedSimpArgs false
set_option linter.unusedVariables false
set_option maxRecDepth 100000
def r_ownCraft : RTab
  | [.agg [.str nm, .int .i64 q, .int .i64 s, .int .i64 nr, .int .i64 no, .sl t 6 bx, .sl t' 1 ix]], M => some ⟨(M 501 = none ∧ M 502 = none) ∧ ((bx.map unBox).map Box6.row = bx ∧ (ix.map unI).map irow = ix) ∧ ((bx.map unBox).length ≤ 1048577 ∧ (ix.map unI).length ≤ 1048577), fun _ : Unit => True,
      fun _ => .agg [.str nm, .int .i64 q, .int .i64 s, .int .i64 nr, .int .i64 no, .own 501 0 0 (bx.map unBox).length, .own 502 0 0 (ix.map unI).length], fun _ => [(501, .arr 93 0 6 bx), (502, .arr 3 0 1 ix)]⟩
  | _, _ => none
theorem h_ownCraft : okTab P 33 r_ownCraft := by
  intro args M o h hp
  unfold r_ownCraft at h
  split at h
  · rename_i nm q s nr no t bx t' ix
    cases h
    obtain ⟨⟨hn, hn2⟩, ⟨e0, e1⟩, HP⟩ := hp
    have hC := ((c_ownCraftO nm q s nr no t t' (bx.map unBox) (ix.map unI) HP.1 HP.2).ren (swp 134 501) (swp_swp 134 501)).ren (swp 109 502) (swp_swp 109 502)
    simp only [renL, ren, renM, renO, swp, reduceIte, Nat.reduceEqDiff, e0, e1] at hC
    refine ⟨(), trivial, .inr (.inr ⟨_, by simp only [purL, pur, Option.map_some], hC, fun p hp => ?_, ?_, rfl, ?_, ?_⟩)⟩
    · simp only [List.mem_cons, List.not_mem_nil, or_false] at hp
      rcases hp with hp | hp
      · subst hp; exact hn
      · subst hp; exact hn2
    · simp [refsIn, refsInL, dom]
    · simp [No99, No99L]
    · intro p hp
      simp only [List.mem_cons, List.not_mem_nil, or_false] at hp
      rcases hp with hp | hp
      · subst hp; rw [← e0]; exact no99_box _
      · subst hp; rw [← e1]; exact no99_i _
  · cases h
def r_l43Copy : RTab
  | [.agg [.str nm, .int .i64 q, .int .i64 s, .int .i64 nr, .int .i64 no, .sl t 6 bx, .sl t' 1 ix]], M => some ⟨(M 501 = none ∧ M 502 = none) ∧ ((bx.map unBox).map Box6.row = bx ∧ (ix.map unI).map irow = ix) ∧ ((bx.map unBox).length ≤ 1048577 ∧ (ix.map unI).length ≤ 1048577), fun _ : Unit => True,
      fun _ => .agg [.str nm, .int .i64 q, .int .i64 s, .int .i64 nr, .int .i64 no, .own 501 1 0 (bx.map unBox).length, .own 502 1 0 (ix.map unI).length], fun _ => [(501, .arr 93 1 6 bx), (502, .arr 3 1 1 ix)]⟩
  | _, _ => none
theorem h_l43Copy : okTab P 23 r_l43Copy := by
  intro args M o h hp
  unfold r_l43Copy at h
  split at h
  · rename_i nm q s nr no t bx t' ix
    cases h
    obtain ⟨⟨hn, hn2⟩, ⟨e0, e1⟩, HP⟩ := hp
    have hC := ((c_l43CopyO nm q s nr no t t' (bx.map unBox) (ix.map unI) HP.1 HP.2).ren (swp 128 501) (swp_swp 128 501)).ren (swp 107 502) (swp_swp 107 502)
    simp only [renL, ren, renM, renO, swp, reduceIte, Nat.reduceEqDiff, e0, e1] at hC
    refine ⟨(), trivial, .inr (.inr ⟨_, by simp only [purL, pur, Option.map_some], hC, fun p hp => ?_, ?_, rfl, ?_, ?_⟩)⟩
    · simp only [List.mem_cons, List.not_mem_nil, or_false] at hp
      rcases hp with hp | hp
      · subst hp; exact hn
      · subst hp; exact hn2
    · simp [refsIn, refsInL, dom]
    · simp [No99, No99L]
    · intro p hp
      simp only [List.mem_cons, List.not_mem_nil, or_false] at hp
      rcases hp with hp | hp
      · subst hp; rw [← e0]; exact no99_box _
      · subst hp; rw [← e1]; exact no99_i _
  · cases h
set_option maxHeartbeats 2000000 in
theorem c_iTake1 (nm : ByteArray) (q s nr no : Int) (t t' : Nat) (tu : List Box6) (fl : List Int) (zs : List Zone) (t0 : Nat) (w : Word) (t2 : Nat) (now : Int) (hz : zs.length ≤ 1048576) (hu : tu.length ≤ 1048576) (hk : fl.length ≤ 1048576) (hw : w.tu.length ≤ 1048576) (hA : ((nr ≠ 0 → zonesOk zs) ∧ craftOk zs nm q s nr no tu fl now)) (hB : (zonesOk zs ∧ wordOk zs w)) (hq : ¬ (w.kd = 7 ∧ w.fl = nm ∧ nr ≤ w.nr)) : Contract P 11 [.sl t0 5 (zs.map Zone.row), .agg [.str nm, .int .i64 q, .int .i64 s, .int .i64 nr, .int .i64 no, .sl t 6 (tu.map Box6.row), .sl t' 1 (fl.map irow)], .agg (w.row t2), .int .i64 now] [] (.tup [.agg [.str nm, .int .i64 q, .int .i64 s, .int .i64 nr, .int .i64 no, .own 501 0 0 tu.length, .own 502 0 0 fl.length], .agg [.int .i64 0, .str ⟨#[]⟩, .str ⟨#[]⟩, .str ⟨#[]⟩, .int .i64 0, .int .i64 0, .int .i64 0, .sl 0 6 []], .bool false]) [(501, .arr 93 0 6 (tu.map Box6.row)), (502, .arr 3 0 1 (fl.map irow))] := by
  have tkB : List.take tu.length (tu.map Box6.row) = tu.map Box6.row := List.take_of_length_le (by simp)
  have tkI : List.take fl.length (fl.map irow) = fl.map irow := List.take_of_length_le (by simp)
  have hT := (((c_take1 nm q s nr no tu fl w t2 now hu hk hw hq).ren (swp 3 105) (swp_swp 3 105)).ren (swp 4 501) (swp_swp 4 501)).ren (swp 5 502) (swp_swp 5 502)
  simp only [renL, ren, renM, renO, swp, reduceIte, Nat.reduceEqDiff, Word.row] at hT
  simp only [Word.row]
  refine fn_sound ((((Env.nil P).addR 33 r_ownCraft h_ownCraft).add 34 t_iLapCraftOk h_iLapCraftOk).add 35 t_iWordOk h_iWordOk) hm k_impl_LapTake (Nat.le_of_ble_eq_true rfl) rfl ?_; unfold s_impl_LapTake; simp (config := { maxSteps := 2000000 }) only [bitvec_to_nat, reduceIte, Nat.reduceEqDiff, Nat.reduceAdd, Nat.reduceLeDiff, reduceCtorEq, Nat.reduceBEq, Nat.reduceLT, List.forall_mem_cons, retG_ret, retQ_eq, retQ_eqN, retOk, keepB, re_tupl, orr_t, t_iLapCraftOk, t_iWordOk, r_ownCraft, Zone.row, Zone_eta, Box6.row, box_eta6, tk_map, dp_map, toNat_pred, unZone_mk, appE, rowsOf, List.take_length, List.length_cons, List.length_nil, Nat.zero_add, srow, irow, un_s, un_i, un_box, un_Zone, un_Own, un_Part, un_Seen, un_Word, irow, un_i, take_all, flatOk, noref, ghost, Word.row, Word_eta, tkB, tkI]
  refine ⟨⟨by omega, by omega⟩, fun _ => ⟨⟨by omega, hu, hk⟩, fun gA => ⟨⟨by omega, by omega⟩, fun gB => ⟨_, _, .inl ⟨_, hT, by simp [getM], by simp [getM, dom], rfl, rfl, rfl, rfl, rfl⟩, ?_⟩, fun gB => absurd hB gB⟩, fun gA => absurd hA gA⟩⟩
  simp (config := { maxSteps := 2000000 }) only [bitvec_to_nat, reduceIte, Nat.reduceEqDiff, Nat.reduceAdd, Nat.reduceLeDiff, reduceCtorEq, Nat.reduceBEq, Nat.reduceLT, List.forall_mem_cons, retG_ret, retQ_eq, retQ_eqN, retOk, keepB, re_tupl, orr_t, t_iLapCraftOk, t_iWordOk, r_ownCraft, Zone.row, Zone_eta, Box6.row, box_eta6, tk_map, dp_map, toNat_pred, unZone_mk, appE, rowsOf, List.take_length, List.length_cons, List.length_nil, Nat.zero_add, srow, irow, un_s, un_i, un_box, un_Zone, un_Own, un_Part, un_Seen, un_Word, irow, un_i, take_all, flatOk, noref, ghost, Word.row, Word_eta, tkB, tkI]
  exact ⟨by simp [refsIn], rfl⟩
set_option maxHeartbeats 2000000 in
theorem c_iTake2 (nm : ByteArray) (q s nr no : Int) (t t' : Nat) (tu : List Box6) (fl : List Int) (zs : List Zone) (t0 : Nat) (w : Word) (t2 : Nat) (now : Int) (hz : zs.length ≤ 1048576) (hu : tu.length ≤ 1048576) (hk : fl.length ≤ 1048576) (hw : w.tu.length ≤ 1048576) (hA : ((nr ≠ 0 → zonesOk zs) ∧ craftOk zs nm q s nr no tu fl now)) (hB : (zonesOk zs ∧ wordOk zs w)) (hq : w.kd = 7 ∧ w.fl = nm ∧ nr ≤ w.nr) (hr : w.nr = nr) : Contract P 11 [.sl t0 5 (zs.map Zone.row), .agg [.str nm, .int .i64 q, .int .i64 s, .int .i64 nr, .int .i64 no, .sl t 6 (tu.map Box6.row), .sl t' 1 (fl.map irow)], .agg (w.row t2), .int .i64 now] [] (.tup [.agg [.str nm, .int .i64 q, .int .i64 s, .int .i64 nr, .int .i64 no, .own 501 0 0 tu.length, .own 502 0 0 fl.length], .agg [.int .i64 8, .str ⟨#[]⟩, .str w.fr, .str nm, .int .i64 w.nr, .int .i64 0, .int .i64 0, .sl 0 6 []], .bool true]) [(501, .arr 93 0 6 (tu.map Box6.row)), (502, .arr 3 0 1 (fl.map irow))] := by
  have tkB : List.take tu.length (tu.map Box6.row) = tu.map Box6.row := List.take_of_length_le (by simp)
  have tkI : List.take fl.length (fl.map irow) = fl.map irow := List.take_of_length_le (by simp)
  have hT := (((c_take2 nm q s nr no tu fl w t2 now hu hk hw hq hr).ren (swp 3 105) (swp_swp 3 105)).ren (swp 4 501) (swp_swp 4 501)).ren (swp 5 502) (swp_swp 5 502)
  simp only [renL, ren, renM, renO, swp, reduceIte, Nat.reduceEqDiff, Word.row] at hT
  simp only [Word.row]
  refine fn_sound ((((Env.nil P).addR 33 r_ownCraft h_ownCraft).add 34 t_iLapCraftOk h_iLapCraftOk).add 35 t_iWordOk h_iWordOk) hm k_impl_LapTake (Nat.le_of_ble_eq_true rfl) rfl ?_; unfold s_impl_LapTake; simp (config := { maxSteps := 2000000 }) only [bitvec_to_nat, reduceIte, Nat.reduceEqDiff, Nat.reduceAdd, Nat.reduceLeDiff, reduceCtorEq, Nat.reduceBEq, Nat.reduceLT, List.forall_mem_cons, retG_ret, retQ_eq, retQ_eqN, retOk, keepB, re_tupl, orr_t, t_iLapCraftOk, t_iWordOk, r_ownCraft, Zone.row, Zone_eta, Box6.row, box_eta6, tk_map, dp_map, toNat_pred, unZone_mk, appE, rowsOf, List.take_length, List.length_cons, List.length_nil, Nat.zero_add, srow, irow, un_s, un_i, un_box, un_Zone, un_Own, un_Part, un_Seen, un_Word, irow, un_i, take_all, flatOk, noref, ghost, Word.row, Word_eta, tkB, tkI]
  refine ⟨⟨by omega, by omega⟩, fun _ => ⟨⟨by omega, hu, hk⟩, fun gA => ⟨⟨by omega, by omega⟩, fun gB => ⟨_, _, .inl ⟨_, hT, by simp [getM], by simp [getM, dom], rfl, rfl, rfl, rfl, rfl⟩, ?_⟩, fun gB => absurd hB gB⟩, fun gA => absurd hA gA⟩⟩
  simp (config := { maxSteps := 2000000 }) only [bitvec_to_nat, reduceIte, Nat.reduceEqDiff, Nat.reduceAdd, Nat.reduceLeDiff, reduceCtorEq, Nat.reduceBEq, Nat.reduceLT, List.forall_mem_cons, retG_ret, retQ_eq, retQ_eqN, retOk, keepB, re_tupl, orr_t, t_iLapCraftOk, t_iWordOk, r_ownCraft, Zone.row, Zone_eta, Box6.row, box_eta6, tk_map, dp_map, toNat_pred, unZone_mk, appE, rowsOf, List.take_length, List.length_cons, List.length_nil, Nat.zero_add, srow, irow, un_s, un_i, un_box, un_Zone, un_Own, un_Part, un_Seen, un_Word, irow, un_i, take_all, flatOk, noref, ghost, Word.row, Word_eta, tkB, tkI]
  exact ⟨by simp [refsIn], rfl⟩
set_option maxHeartbeats 2000000 in
theorem c_iTake3 (nm : ByteArray) (q s nr no : Int) (t t' : Nat) (tu : List Box6) (fl : List Int) (zs : List Zone) (t0 : Nat) (w : Word) (t2 : Nat) (now : Int) (hz : zs.length ≤ 1048576) (hu : tu.length ≤ 1048576) (hk : fl.length ≤ 1048576) (hw : w.tu.length ≤ 1048576) (hA : ((nr ≠ 0 → zonesOk zs) ∧ craftOk zs nm q s nr no tu fl now)) (hB : (zonesOk zs ∧ wordOk zs w)) (hq : w.kd = 7 ∧ w.fl = nm ∧ nr ≤ w.nr) (hr : w.nr ≠ nr) (hs : w.nr ≤ no ∨ ¬ canTake q s tu fl w.tu now) : Contract P 11 [.sl t0 5 (zs.map Zone.row), .agg [.str nm, .int .i64 q, .int .i64 s, .int .i64 nr, .int .i64 no, .sl t 6 (tu.map Box6.row), .sl t' 1 (fl.map irow)], .agg (w.row t2), .int .i64 now] [] (.tup [.agg [.str nm, .int .i64 q, .int .i64 s, .int .i64 nr, .int .i64 (if w.nr > no then w.nr else no), .own 501 0 0 tu.length, .own 502 0 0 fl.length], .agg [.int .i64 9, .str ⟨#[]⟩, .str w.fr, .str nm, .int .i64 w.nr, .int .i64 0, .int .i64 0, .sl 0 6 []], .bool true]) [(501, .arr 93 0 6 (tu.map Box6.row)), (502, .arr 3 0 1 (fl.map irow))] := by
  have tkB : List.take tu.length (tu.map Box6.row) = tu.map Box6.row := List.take_of_length_le (by simp)
  have tkI : List.take fl.length (fl.map irow) = fl.map irow := List.take_of_length_le (by simp)
  have hT := (((c_take3 nm q s nr no tu fl w t2 now hu hk hw hq hr hs).ren (swp 3 105) (swp_swp 3 105)).ren (swp 4 501) (swp_swp 4 501)).ren (swp 5 502) (swp_swp 5 502)
  simp only [renL, ren, renM, renO, swp, reduceIte, Nat.reduceEqDiff, Word.row] at hT
  simp only [Word.row]
  refine fn_sound ((((Env.nil P).addR 33 r_ownCraft h_ownCraft).add 34 t_iLapCraftOk h_iLapCraftOk).add 35 t_iWordOk h_iWordOk) hm k_impl_LapTake (Nat.le_of_ble_eq_true rfl) rfl ?_; unfold s_impl_LapTake; simp (config := { maxSteps := 2000000 }) only [bitvec_to_nat, reduceIte, Nat.reduceEqDiff, Nat.reduceAdd, Nat.reduceLeDiff, reduceCtorEq, Nat.reduceBEq, Nat.reduceLT, List.forall_mem_cons, retG_ret, retQ_eq, retQ_eqN, retOk, keepB, re_tupl, orr_t, t_iLapCraftOk, t_iWordOk, r_ownCraft, Zone.row, Zone_eta, Box6.row, box_eta6, tk_map, dp_map, toNat_pred, unZone_mk, appE, rowsOf, List.take_length, List.length_cons, List.length_nil, Nat.zero_add, srow, irow, un_s, un_i, un_box, un_Zone, un_Own, un_Part, un_Seen, un_Word, irow, un_i, take_all, flatOk, noref, ghost, Word.row, Word_eta, tkB, tkI]
  refine ⟨⟨by omega, by omega⟩, fun _ => ⟨⟨by omega, hu, hk⟩, fun gA => ⟨⟨by omega, by omega⟩, fun gB => ⟨_, _, .inl ⟨_, hT, by simp [getM], by simp [getM, dom], rfl, rfl, rfl, rfl, rfl⟩, ?_⟩, fun gB => absurd hB gB⟩, fun gA => absurd hA gA⟩⟩
  simp (config := { maxSteps := 2000000 }) only [bitvec_to_nat, reduceIte, Nat.reduceEqDiff, Nat.reduceAdd, Nat.reduceLeDiff, reduceCtorEq, Nat.reduceBEq, Nat.reduceLT, List.forall_mem_cons, retG_ret, retQ_eq, retQ_eqN, retOk, keepB, re_tupl, orr_t, t_iLapCraftOk, t_iWordOk, r_ownCraft, Zone.row, Zone_eta, Box6.row, box_eta6, tk_map, dp_map, toNat_pred, unZone_mk, appE, rowsOf, List.take_length, List.length_cons, List.length_nil, Nat.zero_add, srow, irow, un_s, un_i, un_box, un_Zone, un_Own, un_Part, un_Seen, un_Word, irow, un_i, take_all, flatOk, noref, ghost, Word.row, Word_eta, tkB, tkI]
  exact ⟨by simp [refsIn], rfl⟩
set_option maxHeartbeats 2000000 in
theorem c_iTake4 (nm : ByteArray) (q s nr no : Int) (t t' : Nat) (tu : List Box6) (fl : List Int) (zs : List Zone) (t0 : Nat) (w : Word) (t2 : Nat) (now : Int) (hz : zs.length ≤ 1048576) (hu : tu.length ≤ 1048576) (hk : fl.length ≤ 1048576) (hw : w.tu.length ≤ 1048576) (hA : ((nr ≠ 0 → zonesOk zs) ∧ craftOk zs nm q s nr no tu fl now)) (hB : (zonesOk zs ∧ wordOk zs w)) (hq : w.kd = 7 ∧ w.fl = nm ∧ nr ≤ w.nr) (hr : w.nr ≠ nr) (hs : ¬ w.nr ≤ no) (ht : canTake q s tu fl w.tu now) : Contract P 11 [.sl t0 5 (zs.map Zone.row), .agg [.str nm, .int .i64 q, .int .i64 s, .int .i64 nr, .int .i64 no, .sl t 6 (tu.map Box6.row), .sl t' 1 (fl.map irow)], .agg (w.row t2), .int .i64 now] [] (.tup [.agg [.str nm, .int .i64 q, .int .i64 s, .int .i64 w.nr, .int .i64 no, .own 134 0 0 w.tu.length, .own 502 0 0 fl.length], .agg [.int .i64 8, .str ⟨#[]⟩, .str w.fr, .str nm, .int .i64 w.nr, .int .i64 0, .int .i64 0, .sl 0 6 []], .bool true]) [(134, .arr 93 0 6 (w.tu.map Box6.row)), (502, .arr 3 0 1 (fl.map irow))] := by
  have tkB : List.take tu.length (tu.map Box6.row) = tu.map Box6.row := List.take_of_length_le (by simp)
  have tkI : List.take fl.length (fl.map irow) = fl.map irow := List.take_of_length_le (by simp)
  have hT := (((c_take4 nm q s nr no tu fl w t2 now hu hk hw hq hr hs ht).ren (swp 3 105) (swp_swp 3 105)).ren (swp 4 501) (swp_swp 4 501)).ren (swp 5 502) (swp_swp 5 502)
  simp only [renL, ren, renM, renO, swp, reduceIte, Nat.reduceEqDiff, Word.row] at hT
  simp only [Word.row]
  refine fn_sound ((((Env.nil P).addR 33 r_ownCraft h_ownCraft).add 34 t_iLapCraftOk h_iLapCraftOk).add 35 t_iWordOk h_iWordOk) hm k_impl_LapTake (Nat.le_of_ble_eq_true rfl) rfl ?_; unfold s_impl_LapTake; simp (config := { maxSteps := 2000000 }) only [bitvec_to_nat, reduceIte, Nat.reduceEqDiff, Nat.reduceAdd, Nat.reduceLeDiff, reduceCtorEq, Nat.reduceBEq, Nat.reduceLT, List.forall_mem_cons, retG_ret, retQ_eq, retQ_eqN, retOk, keepB, re_tupl, orr_t, t_iLapCraftOk, t_iWordOk, r_ownCraft, Zone.row, Zone_eta, Box6.row, box_eta6, tk_map, dp_map, toNat_pred, unZone_mk, appE, rowsOf, List.take_length, List.length_cons, List.length_nil, Nat.zero_add, srow, irow, un_s, un_i, un_box, un_Zone, un_Own, un_Part, un_Seen, un_Word, irow, un_i, take_all, flatOk, noref, ghost, Word.row, Word_eta, tkB, tkI]
  refine ⟨⟨by omega, by omega⟩, fun _ => ⟨⟨by omega, hu, hk⟩, fun gA => ⟨⟨by omega, by omega⟩, fun gB => ⟨_, _, .inl ⟨_, hT, by simp [getM], by simp [getM, dom], rfl, rfl, rfl, rfl, rfl⟩, ?_⟩, fun gB => absurd hB gB⟩, fun gA => absurd hA gA⟩⟩
  simp (config := { maxSteps := 2000000 }) only [bitvec_to_nat, reduceIte, Nat.reduceEqDiff, Nat.reduceAdd, Nat.reduceLeDiff, reduceCtorEq, Nat.reduceBEq, Nat.reduceLT, List.forall_mem_cons, retG_ret, retQ_eq, retQ_eqN, retOk, keepB, re_tupl, orr_t, t_iLapCraftOk, t_iWordOk, r_ownCraft, Zone.row, Zone_eta, Box6.row, box_eta6, tk_map, dp_map, toNat_pred, unZone_mk, appE, rowsOf, List.take_length, List.length_cons, List.length_nil, Nat.zero_add, srow, irow, un_s, un_i, un_box, un_Zone, un_Own, un_Part, un_Seen, un_Word, irow, un_i, take_all, flatOk, noref, ghost, Word.row, Word_eta, tkB, tkI]
  exact ⟨by simp [refsIn], rfl⟩
theorem c_iTake0 (nm : ByteArray) (q s nr no : Int) (t t' : Nat) (tu : List Box6) (fl : List Int) (zs : List Zone) (t0 : Nat) (w : Word) (t2 : Nat) (now : Int) (hz : zs.length ≤ 1048576) (hu : tu.length ≤ 1048576) (hk : fl.length ≤ 1048576) (hw : w.tu.length ≤ 1048576) (hA : ¬ (((nr ≠ 0 → zonesOk zs) ∧ craftOk zs nm q s nr no tu fl now) ∧ (zonesOk zs ∧ wordOk zs w))) : Contract P 11 [.sl t0 5 (zs.map Zone.row), .agg [.str nm, .int .i64 q, .int .i64 s, .int .i64 nr, .int .i64 no, .sl t 6 (tu.map Box6.row), .sl t' 1 (fl.map irow)], .agg (w.row t2), .int .i64 now] [] (.tup [.agg [.str nm, .int .i64 q, .int .i64 s, .int .i64 nr, .int .i64 no, .own 501 0 0 tu.length, .own 502 0 0 fl.length], .agg [.int .i64 0, .str ⟨#[]⟩, .str ⟨#[]⟩, .str ⟨#[]⟩, .int .i64 0, .int .i64 0, .int .i64 0, .sl 0 6 []], .bool false]) [(501, .arr 93 0 6 (tu.map Box6.row)), (502, .arr 3 0 1 (fl.map irow))] := by
  have tkB : List.take tu.length (tu.map Box6.row) = tu.map Box6.row := List.take_of_length_le (by simp)
  have tkI : List.take fl.length (fl.map irow) = fl.map irow := List.take_of_length_le (by simp)
  simp only [Word.row]
  refine fn_sound ((((Env.nil P).addR 33 r_ownCraft h_ownCraft).add 34 t_iLapCraftOk h_iLapCraftOk).add 35 t_iWordOk h_iWordOk) hm k_impl_LapTake (Nat.le_of_ble_eq_true rfl) rfl ?_; unfold s_impl_LapTake; simp (config := { maxSteps := 2000000 }) only [bitvec_to_nat, reduceIte, Nat.reduceEqDiff, Nat.reduceAdd, Nat.reduceLeDiff, reduceCtorEq, Nat.reduceBEq, Nat.reduceLT, List.forall_mem_cons, retG_ret, retQ_eq, retQ_eqN, retOk, keepB, re_tupl, orr_t, t_iLapCraftOk, t_iWordOk, r_ownCraft, Zone.row, Zone_eta, Box6.row, box_eta6, tk_map, dp_map, toNat_pred, unZone_mk, appE, rowsOf, List.take_length, List.length_cons, List.length_nil, Nat.zero_add, srow, irow, un_s, un_i, un_box, un_Zone, un_Own, un_Part, un_Seen, un_Word, irow, un_i, take_all, flatOk, noref, ghost, Word.row, Word_eta, tkB, tkI]
  refine ⟨⟨by omega, by omega⟩, fun _ => ⟨⟨by omega, hu, hk⟩, fun gA => ⟨⟨by omega, by omega⟩, fun gB => absurd ⟨gA, gB⟩ hA, fun gB => ?_⟩, fun gA => ?_⟩⟩
  all_goals exact ⟨by simp [refsIn], rfl⟩
end
end Go.Ve

namespace Go.Ve
noncomputable section
open Go.Proofs
set_option linter.unusedSimpArgs false
set_option linter.unusedVariables false
set_option maxRecDepth 100000
open Go.ChangeShapes Go.WideShapes
set_option maxHeartbeats 4000000 in
theorem c_sTake0 (nm : ByteArray) (q s nr no : Int) (t t' : Nat) (tu : List Box6) (fl : List Int) (zs : List Zone) (t0 : Nat) (w : Word) (t2 : Nat) (now : Int) (hz : zs.length ≤ 1048576) (hu : tu.length ≤ 1048576) (hk : fl.length ≤ 1048576) (hw : w.tu.length ≤ 1048576) (hA : ¬ ((((nr ≠ 0 → zonesOk zs) ∧ craftOk zs nm q s nr no tu fl now) ∧ (zonesOk zs ∧ wordOk zs w)) ∧ w.kd = 7 ∧ w.fl = nm ∧ nr ≤ w.nr)) : Contract P 7 [.sl t0 5 (zs.map Zone.row), .agg [.str nm, .int .i64 q, .int .i64 s, .int .i64 nr, .int .i64 no, .sl t 6 (tu.map Box6.row), .sl t' 1 (fl.map irow)], .agg (w.row 0), .int .i64 now] [] (.tup [.agg [.str nm, .int .i64 q, .int .i64 s, .int .i64 nr, .int .i64 no, .own 501 1 0 tu.length, .own 502 1 0 fl.length], .agg [.int .i64 0, .str ⟨#[]⟩, .str ⟨#[]⟩, .str ⟨#[]⟩, .int .i64 0, .int .i64 0, .int .i64 0, .sl 0 6 []], .bool false]) [(501, .arr 93 1 6 (tu.map Box6.row)), (502, .arr 3 1 1 (fl.map irow))] := by
  have hno : craftOk zs nm q s nr no tu fl now → 0 ≤ now ∧ now ≤ 10000 := fun h => h.2.2.2.2.1
  simp only [Word.row]
  refine fn_sound (((((((Env.nil P).addR 23 r_l43Copy h_l43Copy).addR 28 r_l31T h_l31T).add 24 t_sLapCraftOk h_sLapCraftOk).add 25 t_sWordOk h_sWordOk).add 26 t_sCan h_sCan).add 27 t_l21Max h_l21Max) hm k_spec_LapTake (Nat.le_of_ble_eq_true rfl) rfl ?_; unfold s_spec_LapTake; simp (config := { maxSteps := 2000000 }) only [bitvec_to_nat, reduceIte, Nat.reduceEqDiff, Nat.reduceAdd, Nat.reduceLeDiff, reduceCtorEq, Nat.reduceBEq, Nat.reduceLT, List.forall_mem_cons, retG_ret, retQ_eq, retQ_eqN, retOk, keepB, re_tupl, orr_t, t_sLapCraftOk, t_sWordOk, t_sCan, t_l21Max, r_l43Copy, r_l31T, Zone.row, Zone_eta, Box6.row, box_eta6, tk_map, dp_map, toNat_pred, unZone_mk, appE, rowsOf, List.take_length, List.length_cons, List.length_nil, Nat.zero_add, srow, irow, un_s, un_i, un_box, un_Zone, un_Own, un_Part, un_Seen, un_Word, irow, un_i, take_all, flatOk, noref, ghost, Word.row, Word_eta]
  repeat' (first | with_reducible apply And.intro | with_reducible intro _)
  all_goals first
    | omega
    | rfl
    | exact trivial
    | (simp [refsIn]; done)
    | (have h9 := hno (‹(¬ nr = 0 → zonesOk zs) ∧ craftOk zs nm q s nr no tu fl now›).2; omega)
    | (exfalso; omega)
    | (exfalso; grind)
    | grind
set_option maxHeartbeats 4000000 in
theorem c_sTake2 (nm : ByteArray) (q s nr no : Int) (t t' : Nat) (tu : List Box6) (fl : List Int) (zs : List Zone) (t0 : Nat) (w : Word) (t2 : Nat) (now : Int) (hz : zs.length ≤ 1048576) (hu : tu.length ≤ 1048576) (hk : fl.length ≤ 1048576) (hw : w.tu.length ≤ 1048576) (hA : ((nr ≠ 0 → zonesOk zs) ∧ craftOk zs nm q s nr no tu fl now)) (hB : (zonesOk zs ∧ wordOk zs w)) (hq : w.kd = 7 ∧ w.fl = nm ∧ nr ≤ w.nr) (hr : w.nr = nr) : Contract P 7 [.sl t0 5 (zs.map Zone.row), .agg [.str nm, .int .i64 q, .int .i64 s, .int .i64 nr, .int .i64 no, .sl t 6 (tu.map Box6.row), .sl t' 1 (fl.map irow)], .agg (w.row 0), .int .i64 now] [] (.tup [.agg [.str nm, .int .i64 q, .int .i64 s, .int .i64 nr, .int .i64 no, .own 501 1 0 tu.length, .own 502 1 0 fl.length], .agg [.int .i64 8, .str ⟨#[]⟩, .str w.fr, .str nm, .int .i64 w.nr, .int .i64 0, .int .i64 0, .sl 0 6 []], .bool true]) [(501, .arr 93 1 6 (tu.map Box6.row)), (502, .arr 3 1 1 (fl.map irow))] := by
  have hno : craftOk zs nm q s nr no tu fl now → 0 ≤ now ∧ now ≤ 10000 := fun h => h.2.2.2.2.1
  simp only [Word.row]
  refine fn_sound (((((((Env.nil P).addR 23 r_l43Copy h_l43Copy).addR 28 r_l31T h_l31T).add 24 t_sLapCraftOk h_sLapCraftOk).add 25 t_sWordOk h_sWordOk).add 26 t_sCan h_sCan).add 27 t_l21Max h_l21Max) hm k_spec_LapTake (Nat.le_of_ble_eq_true rfl) rfl ?_; unfold s_spec_LapTake; simp (config := { maxSteps := 2000000 }) only [bitvec_to_nat, reduceIte, Nat.reduceEqDiff, Nat.reduceAdd, Nat.reduceLeDiff, reduceCtorEq, Nat.reduceBEq, Nat.reduceLT, List.forall_mem_cons, retG_ret, retQ_eq, retQ_eqN, retOk, keepB, re_tupl, orr_t, t_sLapCraftOk, t_sWordOk, t_sCan, t_l21Max, r_l43Copy, r_l31T, Zone.row, Zone_eta, Box6.row, box_eta6, tk_map, dp_map, toNat_pred, unZone_mk, appE, rowsOf, List.take_length, List.length_cons, List.length_nil, Nat.zero_add, srow, irow, un_s, un_i, un_box, un_Zone, un_Own, un_Part, un_Seen, un_Word, irow, un_i, take_all, flatOk, noref, ghost, Word.row, Word_eta]
  repeat' (first | with_reducible apply And.intro | with_reducible intro _)
  all_goals first
    | omega
    | rfl
    | exact trivial
    | (simp [refsIn]; done)
    | (have h9 := hno (‹(¬ nr = 0 → zonesOk zs) ∧ craftOk zs nm q s nr no tu fl now›).2; omega)
    | (exfalso; omega)
    | (exfalso; grind)
    | grind
set_option maxHeartbeats 4000000 in
theorem c_sTake3 (nm : ByteArray) (q s nr no : Int) (t t' : Nat) (tu : List Box6) (fl : List Int) (zs : List Zone) (t0 : Nat) (w : Word) (t2 : Nat) (now : Int) (hz : zs.length ≤ 1048576) (hu : tu.length ≤ 1048576) (hk : fl.length ≤ 1048576) (hw : w.tu.length ≤ 1048576) (hA : ((nr ≠ 0 → zonesOk zs) ∧ craftOk zs nm q s nr no tu fl now)) (hB : (zonesOk zs ∧ wordOk zs w)) (hq : w.kd = 7 ∧ w.fl = nm ∧ nr ≤ w.nr) (hr : w.nr ≠ nr) (hs : w.nr ≤ no ∨ ¬ canTake q s tu fl w.tu now) : Contract P 7 [.sl t0 5 (zs.map Zone.row), .agg [.str nm, .int .i64 q, .int .i64 s, .int .i64 nr, .int .i64 no, .sl t 6 (tu.map Box6.row), .sl t' 1 (fl.map irow)], .agg (w.row 0), .int .i64 now] [] (.tup [.agg [.str nm, .int .i64 q, .int .i64 s, .int .i64 nr, .int .i64 (max no w.nr), .own 501 1 0 tu.length, .own 502 1 0 fl.length], .agg [.int .i64 9, .str ⟨#[]⟩, .str w.fr, .str nm, .int .i64 w.nr, .int .i64 0, .int .i64 0, .sl 0 6 []], .bool true]) [(501, .arr 93 1 6 (tu.map Box6.row)), (502, .arr 3 1 1 (fl.map irow))] := by
  have hno : craftOk zs nm q s nr no tu fl now → 0 ≤ now ∧ now ≤ 10000 := fun h => h.2.2.2.2.1
  simp only [Word.row]
  refine fn_sound (((((((Env.nil P).addR 23 r_l43Copy h_l43Copy).addR 28 r_l31T h_l31T).add 24 t_sLapCraftOk h_sLapCraftOk).add 25 t_sWordOk h_sWordOk).add 26 t_sCan h_sCan).add 27 t_l21Max h_l21Max) hm k_spec_LapTake (Nat.le_of_ble_eq_true rfl) rfl ?_; unfold s_spec_LapTake; simp (config := { maxSteps := 2000000 }) only [bitvec_to_nat, reduceIte, Nat.reduceEqDiff, Nat.reduceAdd, Nat.reduceLeDiff, reduceCtorEq, Nat.reduceBEq, Nat.reduceLT, List.forall_mem_cons, retG_ret, retQ_eq, retQ_eqN, retOk, keepB, re_tupl, orr_t, t_sLapCraftOk, t_sWordOk, t_sCan, t_l21Max, r_l43Copy, r_l31T, Zone.row, Zone_eta, Box6.row, box_eta6, tk_map, dp_map, toNat_pred, unZone_mk, appE, rowsOf, List.take_length, List.length_cons, List.length_nil, Nat.zero_add, srow, irow, un_s, un_i, un_box, un_Zone, un_Own, un_Part, un_Seen, un_Word, irow, un_i, take_all, flatOk, noref, ghost, Word.row, Word_eta]
  repeat' (first | with_reducible apply And.intro | with_reducible intro _)
  all_goals first
    | omega
    | rfl
    | exact trivial
    | (simp [refsIn]; done)
    | (have h9 := hno (‹(¬ nr = 0 → zonesOk zs) ∧ craftOk zs nm q s nr no tu fl now›).2; omega)
    | (exfalso; omega)
    | (exfalso; grind)
    | grind
set_option maxHeartbeats 4000000 in
theorem c_sTake4 (nm : ByteArray) (q s nr no : Int) (t t' : Nat) (tu : List Box6) (fl : List Int) (zs : List Zone) (t0 : Nat) (w : Word) (t2 : Nat) (now : Int) (hz : zs.length ≤ 1048576) (hu : tu.length ≤ 1048576) (hk : fl.length ≤ 1048576) (hw : w.tu.length ≤ 1048576) (hA : ((nr ≠ 0 → zonesOk zs) ∧ craftOk zs nm q s nr no tu fl now)) (hB : (zonesOk zs ∧ wordOk zs w)) (hq : w.kd = 7 ∧ w.fl = nm ∧ nr ≤ w.nr) (hr : w.nr ≠ nr) (hs : ¬ w.nr ≤ no) (ht : canTake q s tu fl w.tu now) : Contract P 7 [.sl t0 5 (zs.map Zone.row), .agg [.str nm, .int .i64 q, .int .i64 s, .int .i64 nr, .int .i64 no, .sl t 6 (tu.map Box6.row), .sl t' 1 (fl.map irow)], .agg (w.row 0), .int .i64 now] [] (.tup [.agg [.str nm, .int .i64 q, .int .i64 s, .int .i64 w.nr, .int .i64 no, .own 128 1 0 w.tu.length, .own 502 1 0 fl.length], .agg [.int .i64 8, .str ⟨#[]⟩, .str w.fr, .str nm, .int .i64 w.nr, .int .i64 0, .int .i64 0, .sl 0 6 []], .bool true]) [(128, .arr 93 1 6 (w.tu.map Box6.row)), (502, .arr 3 1 1 (fl.map irow))] := by
  have hno : craftOk zs nm q s nr no tu fl now → 0 ≤ now ∧ now ≤ 10000 := fun h => h.2.2.2.2.1
  simp only [Word.row]
  refine fn_sound (((((((Env.nil P).addR 23 r_l43Copy h_l43Copy).addR 28 r_l31T h_l31T).add 24 t_sLapCraftOk h_sLapCraftOk).add 25 t_sWordOk h_sWordOk).add 26 t_sCan h_sCan).add 27 t_l21Max h_l21Max) hm k_spec_LapTake (Nat.le_of_ble_eq_true rfl) rfl ?_; unfold s_spec_LapTake; simp (config := { maxSteps := 2000000 }) only [bitvec_to_nat, reduceIte, Nat.reduceEqDiff, Nat.reduceAdd, Nat.reduceLeDiff, reduceCtorEq, Nat.reduceBEq, Nat.reduceLT, List.forall_mem_cons, retG_ret, retQ_eq, retQ_eqN, retOk, keepB, re_tupl, orr_t, t_sLapCraftOk, t_sWordOk, t_sCan, t_l21Max, r_l43Copy, r_l31T, Zone.row, Zone_eta, Box6.row, box_eta6, tk_map, dp_map, toNat_pred, unZone_mk, appE, rowsOf, List.take_length, List.length_cons, List.length_nil, Nat.zero_add, srow, irow, un_s, un_i, un_box, un_Zone, un_Own, un_Part, un_Seen, un_Word, irow, un_i, take_all, flatOk, noref, ghost, Word.row, Word_eta]
  repeat' (first | with_reducible apply And.intro | with_reducible intro _)
  all_goals first
    | omega
    | rfl
    | exact trivial
    | (simp [refsIn]; done)
    | (have h9 := hno (‹(¬ nr = 0 → zonesOk zs) ∧ craftOk zs nm q s nr no tu fl now›).2; omega)
    | (exfalso; omega)
    | (exfalso; grind)
    | grind
end
end Go.Ve

