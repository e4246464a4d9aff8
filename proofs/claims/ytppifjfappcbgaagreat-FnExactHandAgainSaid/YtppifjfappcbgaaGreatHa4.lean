/- Part 4 of the proof: laws and contracts of functions, each proved; they are joined in the last part. No conditions beyond those that the theorems state. -/
import Derived.Test.YtppifjfappcbgaaGreatHa3
set_option linter.all false
namespace Go.Ve
open Go.Proofs
set_option maxRecDepth 100000
def szOf (a : Int) (n : Nat) : Int := if a - n < 0 then -1 else a - n
theorem Box6.eq_iff (a b : Box6) : a = b ↔ a.x = b.x ∧ a.y = b.y ∧ a.l = b.l ∧ a.h = b.h ∧ a.i = b.i ∧ a.o = b.o := ⟨fun h => by subst h; exact ⟨rfl, rfl, rfl, rfl, rfl, rfl⟩, fun h => by
  cases a; cases b; simp only at h; simp only [Box6.mk.injEq]; exact h⟩
instance : DecidableEq Box6 := fun a b => decidable_of_iff _ (Box6.eq_iff a b).symm
theorem c_szBoxS (t sz : Nat) (xs : List (List AV)) (a : Int) (hp : (0 ≤ a ∧ a ≤ 1048576) ∧ xs.length ≤ 9223372036854775807) : Contract P 23 [.sl t sz xs, .int .i64 a] [] (.int .i64 (szOf a xs.length)) [] := by
  refine fn_sound (Env.nil P) hm k_laws_szHandBoxS (Nat.le_of_ble_eq_true rfl) rfl ?_
  unfold s_laws_szHandBoxS
  simp only [w_skip, w_rg, w_rgd, w_seq, w_cond, w_block, w_loop, w_exit, w_ret, w_gh, w_rg0, w_rg1, w_rgT, w_rgF, w_run, w_psd, w_und, w_dr0, w_dr1, w_drT, w_drF, w_drRun, w_drPsd, w_drUnd, w_drKn, w_drKs, w_putK, w_trimK, w_thenN, w_thenE, w_thenR, w_scope, w_label, w_blkN, w_blkE, w_blkR, w_call, w_effK, brU_true, brU_false, brU_u, brU_not, brU_and, brU_or, brU_dec, brU_eq, brU_ne, br_true, br_false, br_not, br_and, br_or, br_dec, br_eq, br_ne, w_getE0, w_getE1, w_setE0, w_setE1, w_dropE0, w_dropE1, w_drop0, w_drop1, w_getM0, w_getM1, w_setM0, w_setM1, ev_v, ev_c, w_putS, w_putN, w_lit, w_apU0, w_apU1, w_apU2, w_trim, enumE0, enumE1, w_callWp, w_callA0, w_callA1, w_R0, w_R1, w_R2, w_T2, w_callL, w_callT, w_T1, w_T0, o_mv, o_newnil, o_pick, o_bin, o_binN, o_neg, o_not, o_eqB, o_eqS, o_conv, o_alloc, o_box, o_load1, o_loadN, o_store, o_nilck, o_faddr, o_field1, o_fieldN, o_iaddr, o_istr, o_slStr, o_slSl, o_lenS, o_lenL, o_mx, o_mn, o_ext, o_build, o_lit, o_litOwn, o_app, o_appN, rowsN, o_mk, o_mvfrz, l_int, l_bool, l_str, l_agg, l_sl, l_own, l_ptr, l_pp, i_int, i_bool, i_str, i_sl, i_own, i_ptr, i_pp, all0, all1, e_ok1, eff, effBin, effBinN, ld_ptr, ld_pp, ld_elt, ia_own, ia_arr, el_1, el_N, load1K, faddrE, r_iaddr, sg_S, sg_c, sg_n, purL, pur, List.map, List.drop, List.take, List.length, List.foldl, List.append_eq, List.nil_append, List.cons_append, List.getD_cons_zero, List.getD_cons_succ, reduceIte, Nat.reduceEqDiff, Nat.reduceAdd, Nat.reduceLeDiff, true_and, and_true, Bool.not_true, Bool.not_false, Bool.and_true, Bool.true_and, Bool.and_self, reduceCtorEq, true_implies, false_implies, implies_true, decide_eq_true_eq, Option.map_some, fpOf, fpX, SOp.xs, oX, refs, refsL, dom, disj, List.all_nil, List.all_cons, List.contains_cons, List.contains_nil, Nat.reduceBEq, Bool.or_false, Bool.false_or, List.append_nil, Bool.not_false, Bool.not_true, List.forall_mem_cons, fm0, List.set, Nat.reduceLT, Nat.reduceMod, ne_eq, not_false_eq_true, not_true_eq_false
, ret1, ret1N, keep0, keep1, rf_int, rf_bool, rf_str, rf_sl, rf_agg, rf_tup, rfL0, rfL1, re_t, re_cN, re_L0, re_L1, ret_tup, ret_one, decide_true, AV.bool.injEq, AV.int.injEq, Nat.reduceLeDiff, Bool.true_eq, Bool.false_eq, decide_eq_true_eq, decide_eq_false_iff_not]
  unfold szOf
  exact ⟨by omega, fun h => by rw [if_pos (by omega)], fun h => by rw [if_neg (by omega)]⟩
def t_szBoxS : List AV → Option (Prop × AV)
  | [.sl t sz xs, .int .i64 a] => some ((0 ≤ a ∧ a ≤ 1048576) ∧ xs.length ≤ 9223372036854775807, .int .i64 (szOf a xs.length))
  | _ => none
theorem h_szBoxS : ∀ args p v, t_szBoxS args = some (p, v) → p → Contract P 23 args [] v [] ∧ noref v = true ∧ No99 v := by
  intro args p v h1 h2
  unfold t_szBoxS at h1
  split at h1
  · cases h1; exact ⟨c_szBoxS _ _ _ _ h2, rfl, trivial⟩
  · cases h1
theorem c_toBox (x : Int) (y : Int) (l : Int) (h : Int) (i : Int) (o : Int) (hp : True) : Contract P 67 [.agg [.int .i64 x, .int .i64 y, .int .i64 l, .int .i64 h, .int .i64 i, .int .i64 o]] [] (.agg [.int .i64 x, .int .i64 y, .int .i64 l, .int .i64 h, .int .i64 i, .int .i64 o]) [] := by
  refine fn_sound (Env.nil P) hm k_laws_toHandBox (Nat.le_of_ble_eq_true rfl) rfl ?_
  unfold s_laws_toHandBox
  simp only [w_skip, w_rg, w_rgd, w_seq, w_cond, w_block, w_loop, w_exit, w_ret, w_gh, w_rg0, w_rg1, w_rgT, w_rgF, w_run, w_psd, w_und, w_dr0, w_dr1, w_drT, w_drF, w_drRun, w_drPsd, w_drUnd, w_drKn, w_drKs, w_putK, w_trimK, w_thenN, w_thenE, w_thenR, w_scope, w_label, w_blkN, w_blkE, w_blkR, w_call, w_effK, brU_true, brU_false, brU_u, brU_not, brU_and, brU_or, brU_dec, brU_eq, brU_ne, br_true, br_false, br_not, br_and, br_or, br_dec, br_eq, br_ne, w_getE0, w_getE1, w_setE0, w_setE1, w_dropE0, w_dropE1, w_drop0, w_drop1, w_getM0, w_getM1, w_setM0, w_setM1, ev_v, ev_c, w_putS, w_putN, w_lit, w_apU0, w_apU1, w_apU2, w_trim, enumE0, enumE1, w_callWp, w_callA0, w_callA1, w_R0, w_R1, w_R2, w_T2, w_callL, w_callT, w_T1, w_T0, o_mv, o_newnil, o_pick, o_bin, o_binN, o_neg, o_not, o_eqB, o_eqS, o_conv, o_alloc, o_box, o_load1, o_loadN, o_store, o_nilck, o_faddr, o_field1, o_fieldN, o_iaddr, o_istr, o_slStr, o_slSl, o_lenS, o_lenL, o_mx, o_mn, o_ext, o_build, o_lit, o_litOwn, o_app, o_appN, rowsN, o_mk, o_mvfrz, l_int, l_bool, l_str, l_agg, l_sl, l_own, l_ptr, l_pp, i_int, i_bool, i_str, i_sl, i_own, i_ptr, i_pp, all0, all1, e_ok1, eff, effBin, effBinN, ld_ptr, ld_pp, ld_elt, ia_own, ia_arr, el_1, el_N, load1K, faddrE, r_iaddr, sg_S, sg_c, sg_n, purL, pur, List.map, List.drop, List.take, List.length, List.foldl, List.append_eq, List.nil_append, List.cons_append, List.getD_cons_zero, List.getD_cons_succ, reduceIte, Nat.reduceEqDiff, Nat.reduceAdd, Nat.reduceLeDiff, true_and, and_true, Bool.not_true, Bool.not_false, Bool.and_true, Bool.true_and, Bool.and_self, reduceCtorEq, true_implies, false_implies, implies_true, decide_eq_true_eq, Option.map_some, fpOf, fpX, SOp.xs, oX, refs, refsL, dom, disj, List.all_nil, List.all_cons, List.contains_cons, List.contains_nil, Nat.reduceBEq, Bool.or_false, Bool.false_or, List.append_nil, Bool.not_false, Bool.not_true, List.forall_mem_cons, fm0, List.set, Nat.reduceLT, Nat.reduceMod, ne_eq, not_false_eq_true, not_true_eq_false
, ret1, ret1N, keep0, keep1, rf_int, rf_bool, rf_str, rf_sl, rf_agg, rf_tup, rfL0, rfL1, re_t, re_cN, re_L0, re_L1, ret_tup, ret_one, decide_true, AV.bool.injEq, AV.int.injEq, Nat.reduceLeDiff, Bool.true_eq, Bool.false_eq, decide_eq_true_eq, decide_eq_false_iff_not]

def t_toBox : List AV → Option (Prop × AV)
  | [.agg [.int .i64 x, .int .i64 y, .int .i64 l, .int .i64 h, .int .i64 i, .int .i64 o]] => some (True, .agg [.int .i64 x, .int .i64 y, .int .i64 l, .int .i64 h, .int .i64 i, .int .i64 o])
  | _ => none
theorem h_toBox : ∀ args p v, t_toBox args = some (p, v) → p → Contract P 67 args [] v [] ∧ noref v = true ∧ No99 v := by
  intro args p v h1 h2
  unfold t_toBox at h1
  split at h1
  · cases h1; exact ⟨c_toBox _ _ _ _ _ _ h2, rfl, by simp [No99, No99L]⟩
  · cases h1
theorem c_eqBox (x : Int) (y : Int) (l : Int) (h : Int) (i : Int) (o : Int) (ox : Int) (oy : Int) (ol : Int) (oh : Int) (oi : Int) (oo : Int) : Contract P 69 [.agg [.int .i64 x, .int .i64 y, .int .i64 l, .int .i64 h, .int .i64 i, .int .i64 o], .agg [.int .i64 ox, .int .i64 oy, .int .i64 ol, .int .i64 oh, .int .i64 oi, .int .i64 oo]] [] (.bool (decide ((⟨x, y, l, h, i, o⟩ : Box6) = ⟨ox, oy, ol, oh, oi, oo⟩))) [] := by
  refine fn_sound (Env.nil P) hm k_laws_eqHandBox (Nat.le_of_ble_eq_true rfl) rfl ?_
  unfold s_laws_eqHandBox
  simp only [w_skip, w_rg, w_rgd, w_seq, w_cond, w_block, w_loop, w_exit, w_ret, w_gh, w_rg0, w_rg1, w_rgT, w_rgF, w_run, w_psd, w_und, w_dr0, w_dr1, w_drT, w_drF, w_drRun, w_drPsd, w_drUnd, w_drKn, w_drKs, w_putK, w_trimK, w_thenN, w_thenE, w_thenR, w_scope, w_label, w_blkN, w_blkE, w_blkR, w_call, w_effK, brU_true, brU_false, brU_u, brU_not, brU_and, brU_or, brU_dec, brU_eq, brU_ne, br_true, br_false, br_not, br_and, br_or, br_dec, br_eq, br_ne, w_getE0, w_getE1, w_setE0, w_setE1, w_dropE0, w_dropE1, w_drop0, w_drop1, w_getM0, w_getM1, w_setM0, w_setM1, ev_v, ev_c, w_putS, w_putN, w_lit, w_apU0, w_apU1, w_apU2, w_trim, enumE0, enumE1, w_callWp, w_callA0, w_callA1, w_R0, w_R1, w_R2, w_T2, w_callL, w_callT, w_T1, w_T0, o_mv, o_newnil, o_pick, o_bin, o_binN, o_neg, o_not, o_eqB, o_eqS, o_conv, o_alloc, o_box, o_load1, o_loadN, o_store, o_nilck, o_faddr, o_field1, o_fieldN, o_iaddr, o_istr, o_slStr, o_slSl, o_lenS, o_lenL, o_mx, o_mn, o_ext, o_build, o_lit, o_litOwn, o_app, o_appN, rowsN, o_mk, o_mvfrz, l_int, l_bool, l_str, l_agg, l_sl, l_own, l_ptr, l_pp, i_int, i_bool, i_str, i_sl, i_own, i_ptr, i_pp, all0, all1, e_ok1, eff, effBin, effBinN, ld_ptr, ld_pp, ld_elt, ia_own, ia_arr, el_1, el_N, load1K, faddrE, r_iaddr, sg_S, sg_c, sg_n, purL, pur, List.map, List.drop, List.take, List.length, List.foldl, List.append_eq, List.nil_append, List.cons_append, List.getD_cons_zero, List.getD_cons_succ, reduceIte, Nat.reduceEqDiff, Nat.reduceAdd, Nat.reduceLeDiff, true_and, and_true, Bool.not_true, Bool.not_false, Bool.and_true, Bool.true_and, Bool.and_self, reduceCtorEq, true_implies, false_implies, implies_true, decide_eq_true_eq, Option.map_some, fpOf, fpX, SOp.xs, oX, refs, refsL, dom, disj, List.all_nil, List.all_cons, List.contains_cons, List.contains_nil, Nat.reduceBEq, Bool.or_false, Bool.false_or, List.append_nil, Bool.not_false, Bool.not_true, List.forall_mem_cons, fm0, List.set, Nat.reduceLT, Nat.reduceMod, ne_eq, not_false_eq_true, not_true_eq_false
, ret1, ret1N, keep0, keep1, rf_int, rf_bool, rf_str, rf_sl, rf_agg, rf_tup, rfL0, rfL1, re_t, re_cN, re_L0, re_L1, ret_tup, ret_one, decide_true, AV.bool.injEq, AV.int.injEq, Nat.reduceLeDiff, Bool.true_eq, Bool.false_eq, decide_eq_true_eq, decide_eq_false_iff_not]
  simp only [Box6.mk.injEq]
  repeat' (first | apply And.intro | intro _)
  all_goals (first | trivial | (simp_all; done))
def t_eqBox : List AV → Option (Prop × AV)
  | [.agg [.int .i64 x, .int .i64 y, .int .i64 l, .int .i64 h, .int .i64 i, .int .i64 o], .agg [.int .i64 ox, .int .i64 oy, .int .i64 ol, .int .i64 oh, .int .i64 oi, .int .i64 oo]] => some (True, .bool (decide ((⟨x, y, l, h, i, o⟩ : Box6) = ⟨ox, oy, ol, oh, oi, oo⟩)))
  | _ => none
theorem h_eqBox : ∀ args p v, t_eqBox args = some (p, v) → p → Contract P 69 args [] v [] ∧ noref v = true ∧ No99 v := by
  intro args p v h1 h2
  unfold t_eqBox at h1
  split at h1
  · cases h1; exact ⟨c_eqBox _ _ _ _ _ _ _ _ _ _ _ _, rfl, trivial⟩
  · cases h1
def F_eqBoxS (t t' : Nat) (a b : List Box6) (i : Nat) : St := ⟨[(0, .sl t 6 (a.map Box6.row)), (1, .sl t' 6 (b.map Box6.row)), (5, .int .i64 i)], []⟩
theorem c_eqBoxS (t t' : Nat) (a b : List Box6) (ha : a.length ≤ 4611686018427387904) : Contract P 27 [.sl t 6 (a.map Box6.row), .sl t' 6 (b.map Box6.row)] [] (.bool (decide (a = b))) [] := by
  refine fn_sound ((Env.nil P).add 69 t_eqBox h_eqBox) hm k_laws_eqHandBoxS (Nat.le_of_ble_eq_true rfl) rfl ?_
  unfold s_laws_eqHandBoxS
  simp only [w_skip, w_rg, w_rgd, w_seq, w_cond, w_block, w_loop, w_exit, w_ret, w_gh, w_rg0, w_rg1, w_rgT, w_rgF, w_run, w_psd, w_und, w_dr0, w_dr1, w_drT, w_drF, w_drRun, w_drPsd, w_drUnd, w_drKn, w_drKs, w_putK, w_trimK, w_thenN, w_thenE, w_thenR, w_scope, w_label, w_blkN, w_blkE, w_blkR, w_call, w_effK, brU_true, brU_false, brU_u, brU_not, brU_and, brU_or, brU_dec, brU_eq, brU_ne, br_true, br_false, br_not, br_and, br_or, br_dec, br_eq, br_ne, w_getE0, w_getE1, w_setE0, w_setE1, w_dropE0, w_dropE1, w_drop0, w_drop1, w_getM0, w_getM1, w_setM0, w_setM1, ev_v, ev_c, w_putS, w_putN, w_lit, w_apU0, w_apU1, w_apU2, w_trim, enumE0, enumE1, w_callWp, w_callA0, w_callA1, w_R0, w_R1, w_R2, w_T2, w_callL, w_callT, w_T1, w_T0, o_mv, o_newnil, o_pick, o_bin, o_binN, o_neg, o_not, o_eqB, o_eqS, o_conv, o_alloc, o_box, o_load1, o_loadN, o_store, o_nilck, o_faddr, o_field1, o_fieldN, o_iaddr, o_istr, o_slStr, o_slSl, o_lenS, o_lenL, o_mx, o_mn, o_ext, o_build, o_lit, o_litOwn, o_app, o_appN, rowsN, o_mk, o_mvfrz, l_int, l_bool, l_str, l_agg, l_sl, l_own, l_ptr, l_pp, i_int, i_bool, i_str, i_sl, i_own, i_ptr, i_pp, all0, all1, e_ok1, eff, effBin, effBinN, ld_ptr, ld_pp, ld_elt, ia_own, ia_arr, el_1, el_N, load1K, faddrE, r_iaddr, sg_S, sg_c, sg_n, purL, pur, List.map, List.drop, List.take, List.length, List.foldl, List.append_eq, List.nil_append, List.cons_append, List.getD_cons_zero, List.getD_cons_succ, reduceIte, Nat.reduceEqDiff, Nat.reduceAdd, Nat.reduceLeDiff, true_and, and_true, Bool.not_true, Bool.not_false, Bool.and_true, Bool.true_and, Bool.and_self, reduceCtorEq, true_implies, false_implies, implies_true, decide_eq_true_eq, Option.map_some, fpOf, fpX, SOp.xs, oX, refs, refsL, dom, disj, List.all_nil, List.all_cons, List.contains_cons, List.contains_nil, Nat.reduceBEq, Bool.or_false, Bool.false_or, List.append_nil, Bool.not_false, Bool.not_true, List.forall_mem_cons, fm0, List.set, Nat.reduceLT, Nat.reduceMod, ne_eq, not_false_eq_true, not_true_eq_false
, ret1, ret1N, keep0, keep1, rf_int, rf_bool, rf_str, rf_sl, rf_agg, rf_tup, rfL0, rfL1, re_t, re_cN, re_L0, re_L1, ret_tup, ret_one, decide_true, AV.bool.injEq, AV.int.injEq, Nat.reduceLeDiff, Bool.true_eq, Bool.false_eq, decide_eq_true_eq, decide_eq_false_iff_not, t_eqBox, List.length_map, Box6.row, Int.toNat_natCast, Int.natCast_inj]
  refine ⟨fun h1 h => h1 (by rw [h]), fun h1 => ?_⟩
  refine loop_of (F_eqBoxS t t' a b) (fun i => i ≤ a.length ∧ ∀ j, j < i → a.getD j default = b.getD j default) (fun i => a.length - i) 0 ⟨⟨.inr rfl, .inr rfl, .inr rfl, trivial⟩, trivial, rfl, rfl⟩ ⟨Nat.zero_le _, fun j hj => by omega⟩ ?_
  intro i hi
  unfold l_laws_eqHandBoxS_0 F_eqBoxS
  simp only [w_skip, w_rg, w_rgd, w_seq, w_cond, w_block, w_loop, w_exit, w_ret, w_gh, w_rg0, w_rg1, w_rgT, w_rgF, w_run, w_psd, w_und, w_dr0, w_dr1, w_drT, w_drF, w_drRun, w_drPsd, w_drUnd, w_drKn, w_drKs, w_putK, w_trimK, w_thenN, w_thenE, w_thenR, w_scope, w_label, w_blkN, w_blkE, w_blkR, w_call, w_effK, brU_true, brU_false, brU_u, brU_not, brU_and, brU_or, brU_dec, brU_eq, brU_ne, br_true, br_false, br_not, br_and, br_or, br_dec, br_eq, br_ne, w_getE0, w_getE1, w_setE0, w_setE1, w_dropE0, w_dropE1, w_drop0, w_drop1, w_getM0, w_getM1, w_setM0, w_setM1, ev_v, ev_c, w_putS, w_putN, w_lit, w_apU0, w_apU1, w_apU2, w_trim, enumE0, enumE1, w_callWp, w_callA0, w_callA1, w_R0, w_R1, w_R2, w_T2, w_callL, w_callT, w_T1, w_T0, o_mv, o_newnil, o_pick, o_bin, o_binN, o_neg, o_not, o_eqB, o_eqS, o_conv, o_alloc, o_box, o_load1, o_loadN, o_store, o_nilck, o_faddr, o_field1, o_fieldN, o_iaddr, o_istr, o_slStr, o_slSl, o_lenS, o_lenL, o_mx, o_mn, o_ext, o_build, o_lit, o_litOwn, o_app, o_appN, rowsN, o_mk, o_mvfrz, l_int, l_bool, l_str, l_agg, l_sl, l_own, l_ptr, l_pp, i_int, i_bool, i_str, i_sl, i_own, i_ptr, i_pp, all0, all1, e_ok1, eff, effBin, effBinN, ld_ptr, ld_pp, ld_elt, ia_own, ia_arr, el_1, el_N, load1K, faddrE, r_iaddr, sg_S, sg_c, sg_n, purL, pur, List.map, List.drop, List.take, List.length, List.foldl, List.append_eq, List.nil_append, List.cons_append, List.getD_cons_zero, List.getD_cons_succ, reduceIte, Nat.reduceEqDiff, Nat.reduceAdd, Nat.reduceLeDiff, true_and, and_true, Bool.not_true, Bool.not_false, Bool.and_true, Bool.true_and, Bool.and_self, reduceCtorEq, true_implies, false_implies, implies_true, decide_eq_true_eq, Option.map_some, fpOf, fpX, SOp.xs, oX, refs, refsL, dom, disj, List.all_nil, List.all_cons, List.contains_cons, List.contains_nil, Nat.reduceBEq, Bool.or_false, Bool.false_or, List.append_nil, Bool.not_false, Bool.not_true, List.forall_mem_cons, fm0, List.set, Nat.reduceLT, Nat.reduceMod, ne_eq, not_false_eq_true, not_true_eq_false
, ret1, ret1N, keep0, keep1, rf_int, rf_bool, rf_str, rf_sl, rf_agg, rf_tup, rfL0, rfL1, re_t, re_cN, re_L0, re_L1, ret_tup, ret_one, decide_true, AV.bool.injEq, AV.int.injEq, Nat.reduceLeDiff, Bool.true_eq, Bool.false_eq, decide_eq_true_eq, decide_eq_false_iff_not, t_eqBox, List.length_map, Box6.row, Int.toNat_natCast, Int.natCast_inj]
  refine ⟨fun h2 => ⟨by omega, by omega, by omega, by omega, fun h3 => ⟨by omega, loopK_of (i + 1) ⟨⟨.inr rfl, .inr rfl, .inr rfl, trivial⟩, trivial, rfl, rfl⟩ ⟨by omega, fun j hj => ?_⟩ (by omega)⟩, fun h3 h => h3 (by rw [h])⟩, fun h2 => ext_of (by omega) fun j hj => hi.2 j (by have := hi.1; omega)⟩
  by_cases e : j = i
  · subst e; exact h3
  · exact hi.2 j (by omega)
theorem set_Box6 {lst : List Box6} {idx : Nat} {vx : Int} {vy : Int} {vl : Int} {vh : Int} {vi : Int} {vo : Int} : (lst.map Box6.row).set idx (setSeg ((lst.map Box6.row).getD idx []) 0 [.int .i64 vx, .int .i64 vy, .int .i64 vl, .int .i64 vh, .int .i64 vi, .int .i64 vo]) = (lst.set idx ⟨vx, vy, vl, vh, vi, vo⟩).map Box6.row :=
  set_rows (α := Box6) (f := Box6.row) (fun s => ⟨vx, vy, vl, vh, vi, vo⟩) fun x => by simp [Box6.row, setSeg]
def to_Box6 (a : List Box6) (i : Nat) : List Box6 := a.take i ++ List.replicate (a.length - i) ⟨0, 0, 0, 0, 0, 0⟩
def F_toBoxS (t : Nat) (a : List Box6) (i : Nat) : St := ⟨[(0, .sl t 6 (a.map Box6.row)), (3, .own 107 0 0 a.length), (4, .int .i64 i)], [(107, .arr 100 0 6 ((to_Box6 a i).map Box6.row))]⟩
theorem c_toBoxS (t : Nat) (a : List Box6) (ha : a.length ≤ 1048576) : Contract P 25 [.sl t 6 (a.map Box6.row)] [] (.sl 0 6 (a.map Box6.row)) [] := by
  refine fn_sound ((Env.nil P).add 67 t_toBox h_toBox) hm k_laws_toHandBoxS (Nat.le_of_ble_eq_true rfl) rfl ?_
  unfold s_laws_toHandBoxS
  simp only [w_skip, w_rg, w_rgd, w_seq, w_cond, w_block, w_loop, w_exit, w_ret, w_gh, w_rg0, w_rg1, w_rgT, w_rgF, w_run, w_psd, w_und, w_dr0, w_dr1, w_drT, w_drF, w_drRun, w_drPsd, w_drUnd, w_drKn, w_drKs, w_putK, w_trimK, w_thenN, w_thenE, w_thenR, w_scope, w_label, w_blkN, w_blkE, w_blkR, w_call, w_effK, brU_true, brU_false, brU_u, brU_not, brU_and, brU_or, brU_dec, brU_eq, brU_ne, br_true, br_false, br_not, br_and, br_or, br_dec, br_eq, br_ne, w_getE0, w_getE1, w_setE0, w_setE1, w_dropE0, w_dropE1, w_drop0, w_drop1, w_getM0, w_getM1, w_setM0, w_setM1, ev_v, ev_c, w_putS, w_putN, w_lit, w_apU0, w_apU1, w_apU2, w_trim, enumE0, enumE1, w_callWp, w_callA0, w_callA1, w_R0, w_R1, w_R2, w_T2, w_callL, w_callT, w_T1, w_T0, o_mv, o_newnil, o_pick, o_bin, o_binN, o_neg, o_not, o_eqB, o_eqS, o_conv, o_alloc, o_box, o_load1, o_loadN, o_store, o_nilck, o_faddr, o_field1, o_fieldN, o_iaddr, o_istr, o_slStr, o_slSl, o_lenS, o_lenL, o_mx, o_mn, o_ext, o_build, o_lit, o_litOwn, o_app, o_appN, rowsN, o_mk, o_mvfrz, l_int, l_bool, l_str, l_agg, l_sl, l_own, l_ptr, l_pp, i_int, i_bool, i_str, i_sl, i_own, i_ptr, i_pp, all0, all1, e_ok1, eff, effBin, effBinN, ld_ptr, ld_pp, ld_elt, ia_own, ia_arr, el_1, el_N, load1K, faddrE, r_iaddr, sg_S, sg_c, sg_n, purL, pur, List.map, List.drop, List.take, List.length, List.foldl, List.append_eq, List.nil_append, List.cons_append, List.getD_cons_zero, List.getD_cons_succ, reduceIte, Nat.reduceEqDiff, Nat.reduceAdd, Nat.reduceLeDiff, true_and, and_true, Bool.not_true, Bool.not_false, Bool.and_true, Bool.true_and, Bool.and_self, reduceCtorEq, true_implies, false_implies, implies_true, decide_eq_true_eq, Option.map_some, fpOf, fpX, SOp.xs, oX, refs, refsL, dom, disj, List.all_nil, List.all_cons, List.contains_cons, List.contains_nil, Nat.reduceBEq, Bool.or_false, Bool.false_or, List.append_nil, Bool.not_false, Bool.not_true, List.forall_mem_cons, fm0, List.set, Nat.reduceLT, Nat.reduceMod, ne_eq, not_false_eq_true, not_true_eq_false
, ret1, ret1N, keep0, keep1, rf_int, rf_bool, rf_str, rf_sl, rf_agg, rf_tup, rfL0, rfL1, re_t, re_cN, re_L0, re_L1, ret_tup, ret_one, decide_true, AV.bool.injEq, AV.int.injEq, Nat.reduceLeDiff, Bool.true_eq, Bool.false_eq, decide_eq_true_eq, decide_eq_false_iff_not, t_toBox, List.length_map, Box6.row, Int.toNat_natCast, ghost, set_Box6, Nat.zero_add, Nat.sub_zero]
  have m0 : List.replicate a.length [.int .i64 0, .int .i64 0, .int .i64 0, .int .i64 0, .int .i64 0, .int .i64 0] = (to_Box6 a 0).map Box6.row := by simp [to_Box6, Box6.row]
  refine ⟨by omega, loop_of (F_toBoxS t a) (fun i => i ≤ a.length) (fun i => a.length - i) 0 ⟨⟨.inr rfl, .inr rfl, .inr rfl, trivial⟩, ⟨congrArg (fun g => some (AObj.arr 100 0 6 g)) m0, trivial⟩, rfl, rfl⟩ (Nat.zero_le _) ?_⟩
  intro i hi
  unfold l_laws_toHandBoxS_0 F_toBoxS
  simp only [w_skip, w_rg, w_rgd, w_seq, w_cond, w_block, w_loop, w_exit, w_ret, w_gh, w_rg0, w_rg1, w_rgT, w_rgF, w_run, w_psd, w_und, w_dr0, w_dr1, w_drT, w_drF, w_drRun, w_drPsd, w_drUnd, w_drKn, w_drKs, w_putK, w_trimK, w_thenN, w_thenE, w_thenR, w_scope, w_label, w_blkN, w_blkE, w_blkR, w_call, w_effK, brU_true, brU_false, brU_u, brU_not, brU_and, brU_or, brU_dec, brU_eq, brU_ne, br_true, br_false, br_not, br_and, br_or, br_dec, br_eq, br_ne, w_getE0, w_getE1, w_setE0, w_setE1, w_dropE0, w_dropE1, w_drop0, w_drop1, w_getM0, w_getM1, w_setM0, w_setM1, ev_v, ev_c, w_putS, w_putN, w_lit, w_apU0, w_apU1, w_apU2, w_trim, enumE0, enumE1, w_callWp, w_callA0, w_callA1, w_R0, w_R1, w_R2, w_T2, w_callL, w_callT, w_T1, w_T0, o_mv, o_newnil, o_pick, o_bin, o_binN, o_neg, o_not, o_eqB, o_eqS, o_conv, o_alloc, o_box, o_load1, o_loadN, o_store, o_nilck, o_faddr, o_field1, o_fieldN, o_iaddr, o_istr, o_slStr, o_slSl, o_lenS, o_lenL, o_mx, o_mn, o_ext, o_build, o_lit, o_litOwn, o_app, o_appN, rowsN, o_mk, o_mvfrz, l_int, l_bool, l_str, l_agg, l_sl, l_own, l_ptr, l_pp, i_int, i_bool, i_str, i_sl, i_own, i_ptr, i_pp, all0, all1, e_ok1, eff, effBin, effBinN, ld_ptr, ld_pp, ld_elt, ia_own, ia_arr, el_1, el_N, load1K, faddrE, r_iaddr, sg_S, sg_c, sg_n, purL, pur, List.map, List.drop, List.take, List.length, List.foldl, List.append_eq, List.nil_append, List.cons_append, List.getD_cons_zero, List.getD_cons_succ, reduceIte, Nat.reduceEqDiff, Nat.reduceAdd, Nat.reduceLeDiff, true_and, and_true, Bool.not_true, Bool.not_false, Bool.and_true, Bool.true_and, Bool.and_self, reduceCtorEq, true_implies, false_implies, implies_true, decide_eq_true_eq, Option.map_some, fpOf, fpX, SOp.xs, oX, refs, refsL, dom, disj, List.all_nil, List.all_cons, List.contains_cons, List.contains_nil, Nat.reduceBEq, Bool.or_false, Bool.false_or, List.append_nil, Bool.not_false, Bool.not_true, List.forall_mem_cons, fm0, List.set, Nat.reduceLT, Nat.reduceMod, ne_eq, not_false_eq_true, not_true_eq_false
, ret1, ret1N, keep0, keep1, rf_int, rf_bool, rf_str, rf_sl, rf_agg, rf_tup, rfL0, rfL1, re_t, re_cN, re_L0, re_L1, ret_tup, ret_one, decide_true, AV.bool.injEq, AV.int.injEq, Nat.reduceLeDiff, Bool.true_eq, Bool.false_eq, decide_eq_true_eq, decide_eq_false_iff_not, t_toBox, List.length_map, Box6.row, Int.toNat_natCast, ghost, set_Box6, Nat.zero_add, Nat.sub_zero]
  have st : i < a.length → (to_Box6 a i).set i (a.getD i default) = to_Box6 a (i + 1) := fun h => by
    refine List.ext_getElem (by simp [to_Box6]; omega) fun j h1 h2 => ?_
    by_cases e : j = i
    · subst e
      simp [to_Box6, List.getElem_append, h]
      intro h9; omega
    · simp only [List.getElem_set_ne (Ne.symm e)]
      simp only [to_Box6, List.getElem_append, List.length_take, List.getElem_take, List.getElem_replicate]
      split <;> split <;> first | rfl | omega
  refine ⟨fun h => ⟨by omega, by omega, by omega, rfl, by omega, loopK_of (i + 1) ⟨⟨.inr rfl, .inr rfl, .inr rfl, trivial⟩, ⟨congrArg (fun g => some (AObj.arr 100 0 6 (List.map Box6.row g))) (st (by omega)), trivial⟩, rfl, rfl⟩ (by omega) (by omega)⟩, fun h => ?_⟩
  have e : i = a.length := by omega
  subst e
  simp only [to_Box6, List.take_length, Nat.sub_self, List.replicate_zero, List.append_nil]
  rw [List.take_of_length_le (by simp)]
end Go.Ve

namespace Go.Ve
open Go.Proofs
set_option maxRecDepth 100000
structure Kind2 where
  q : Int
  s : Int
  deriving Inhabited
theorem no99_i (l : List Int) : No99LL (l.map irow) := by
  induction l with
  | nil => trivial
  | cons x l ih => exact ⟨⟨trivial, trivial⟩, ih⟩
theorem no99_box (l : List Box6) : No99LL (l.map Box6.row) := by
  induction l with
  | nil => trivial
  | cons x l ih => exact ⟨⟨trivial, trivial, trivial, trivial, trivial, trivial, trivial⟩, ih⟩
def t_eqBoxS : List AV → Option (Prop × AV)
  | [.sl _ 6 xs, .sl _ 6 ys] => some (((xs.map unBox).map Box6.row = xs ∧ (ys.map unBox).map Box6.row = ys) ∧ (xs.map unBox).length ≤ 4611686018427387904, .bool (decide (xs.map unBox = ys.map unBox)))
  | _ => none
theorem h_eqBoxS : ∀ args p v, t_eqBoxS args = some (p, v) → p → Contract P 27 args [] v [] ∧ noref v = true ∧ No99 v := by
  intro args p v h1 h2
  unfold t_eqBoxS at h1
  split at h1
  · rename_i t xs t' ys
    cases h1
    have := c_eqBoxS t t' (xs.map unBox) (ys.map unBox) h2.2
    simp only [h2.1.1, h2.1.2] at this
    exact ⟨this, rfl, trivial⟩
  · cases h1
def t_toBoxS : List AV → Option (Prop × AV)
  | [.sl _ 6 xs] => some ((xs.map unBox).map Box6.row = xs ∧ (xs.map unBox).length ≤ 1048576, .sl 0 6 ((xs.map unBox).map Box6.row))
  | _ => none
theorem h_toBoxS : ∀ args p v, t_toBoxS args = some (p, v) → p → Contract P 25 args [] v [] ∧ noref v = true ∧ No99 v := by
  intro args p v h1 h2
  unfold t_toBoxS at h1
  split at h1
  · rename_i t xs
    cases h1
    have := c_toBoxS t (xs.map unBox) h2.2
    rw [h2.1] at this ⊢
    exact ⟨this, rfl, by omega, by rw [← h2.1]; exact no99_box _⟩
  · cases h1
theorem Kind2.eq_iff (a b : Kind2) : a = b ↔ a.q = b.q ∧ a.s = b.s := ⟨fun h => by subst h; exact ⟨rfl, rfl⟩, fun h => by
  cases a; cases b; simp only at h; simp only [Kind2.mk.injEq]; exact h⟩
instance : DecidableEq Kind2 := fun a b => decidable_of_iff _ (Kind2.eq_iff a b).symm
end Go.Ve

namespace Go.Ve
noncomputable section
open Go.Proofs
set_option maxRecDepth 100000
structure Zone where
  nm : ByteArray
  x0 : Int
  y0 : Int
  x1 : Int
  y1 : Int
  deriving Inhabited, DecidableEq
def Zone.row (s : Zone) : List AV := [.str s.nm, .int .i64 s.x0, .int .i64 s.y0, .int .i64 s.x1, .int .i64 s.y1]
def unZone : List AV → Zone
  | [.str vnm, .int .i64 vx0, .int .i64 vy0, .int .i64 vx1, .int .i64 vy1] => (Zone.mk vnm vx0 vy0 vx1 vy1)
  | _ => default
theorem unZone_row (s : Zone) : unZone (Zone.row s) = s := by
  cases s; simp only [Zone.row, unZone]
theorem un_Zone (l : List Zone) : (l.map Zone.row).map unZone = l := by
  rw [List.map_map]; exact List.map_id'' (fun s => unZone_row s) l
theorem Zone_eta (s : Zone) : (Zone.mk s.nm s.x0 s.y0 s.x1 s.y1) = s := (rfl)
theorem Zone_len (s : Zone) : (Zone.row s).length = 5 := (rfl)
theorem Zone_nr (s : Zone) : norefL (Zone.row s) = true := (rfl)
theorem no99_Zone (l : List Zone) : No99LL (l.map Zone.row) := by
  induction l with
  | nil => simp [No99LL]
  | cons x l ih => simp only [List.map_cons, No99LL]; exact ⟨by simp [Zone.row, No99L, No99], ih⟩
theorem Zone_take (s : Zone) : List.take 5 (Zone.row s) = Zone.row s := (rfl)
structure Word where
  kd : Int
  fr : ByteArray
  dst : ByteArray
  fl : ByteArray
  nr : Int
  la : Int
  tn : Int
  tu : List Box6
  deriving Inhabited, DecidableEq
def Word.row (t : Nat) (s : Word) : List AV := [.int .i64 s.kd, .str s.fr, .str s.dst, .str s.fl, .int .i64 s.nr, .int .i64 s.la, .int .i64 s.tn, .sl t 6 (s.tu.map Box6.row)]
def unWord : List AV → Word
  | [.int .i64 vkd, .str vfr, .str vdst, .str vfl, .int .i64 vnr, .int .i64 vla, .int .i64 vtn, .sl _ 6 vtu] => (Word.mk vkd vfr vdst vfl vnr vla vtn (vtu.map unBox))
  | _ => default
theorem unWord_row (t : Nat) (s : Word) : unWord (Word.row t s) = s := by
  cases s; simp only [Word.row, unWord, un_box]
theorem un_Word (t : Nat) (l : List Word) : (l.map (Word.row t)).map unWord = l := by
  rw [List.map_map]; exact List.map_id'' (fun s => unWord_row t s) l
theorem Word_eta (s : Word) : (Word.mk s.kd s.fr s.dst s.fl s.nr s.la s.tn s.tu) = s := (rfl)
theorem no99_Word (l : List Word) : No99LL (l.map (Word.row 0)) := by
  induction l with
  | nil => simp [No99LL]
  | cons x l ih => simp only [List.map_cons, No99LL]; exact ⟨by simp [Word.row, No99L, No99, no99_box], ih⟩
structure Own where
  fl : ByteArray
  st : Int
  tn : Int
  dst : ByteArray
  la : Int
  nr : Int
  tu : List Box6
  wi : Int
  nx : List Box6
  gr : List ByteArray
  sent : Bool
  deriving Inhabited, DecidableEq
def Own.row (t : Nat) (s : Own) : List AV := [.str s.fl, .int .i64 s.st, .int .i64 s.tn, .str s.dst, .int .i64 s.la, .int .i64 s.nr, .sl t 6 (s.tu.map Box6.row), .int .i64 s.wi, .sl t 6 (s.nx.map Box6.row), .sl t 1 (s.gr.map srow), .bool s.sent]
def unOwn : List AV → Own
  | [.str vfl, .int .i64 vst, .int .i64 vtn, .str vdst, .int .i64 vla, .int .i64 vnr, .sl _ 6 vtu, .int .i64 vwi, .sl _ 6 vnx, .sl _ 1 vgr, .bool vsent] => (Own.mk vfl vst vtn vdst vla vnr (vtu.map unBox) vwi (vnx.map unBox) (vgr.map unS) vsent)
  | _ => default
theorem unOwn_row (t : Nat) (s : Own) : unOwn (Own.row t s) = s := by
  cases s; simp only [Own.row, unOwn, un_box, un_box, un_s]
theorem un_Own (t : Nat) (l : List Own) : (l.map (Own.row t)).map unOwn = l := by
  rw [List.map_map]; exact List.map_id'' (fun s => unOwn_row t s) l
theorem Own_eta (s : Own) : (Own.mk s.fl s.st s.tn s.dst s.la s.nr s.tu s.wi s.nx s.gr s.sent) = s := (rfl)
theorem no99_Own (l : List Own) : No99LL (l.map (Own.row 0)) := by
  induction l with
  | nil => simp [No99LL]
  | cons x l ih => simp only [List.map_cons, No99LL]; exact ⟨by simp [Own.row, No99L, No99, no99_box, no99_box, no99_str], ih⟩
structure Part where
  fl : ByteArray
  nr : Int
  bx : List Box6
  deriving Inhabited, DecidableEq
def Part.row (t : Nat) (s : Part) : List AV := [.str s.fl, .int .i64 s.nr, .sl t 6 (s.bx.map Box6.row)]
def unPart : List AV → Part
  | [.str vfl, .int .i64 vnr, .sl _ 6 vbx] => (Part.mk vfl vnr (vbx.map unBox))
  | _ => default
theorem unPart_row (t : Nat) (s : Part) : unPart (Part.row t s) = s := by
  cases s; simp only [Part.row, unPart, un_box]
theorem un_Part (t : Nat) (l : List Part) : (l.map (Part.row t)).map unPart = l := by
  rw [List.map_map]; exact List.map_id'' (fun s => unPart_row t s) l
theorem Part_eta (s : Part) : (Part.mk s.fl s.nr s.bx) = s := (rfl)
theorem no99_Part (l : List Part) : No99LL (l.map (Part.row 0)) := by
  induction l with
  | nil => simp [No99LL]
  | cons x l ih => simp only [List.map_cons, No99LL]; exact ⟨by simp [Part.row, No99L, No99, no99_box], ih⟩
structure Seen where
  fl : ByteArray
  nr : Int
  deriving Inhabited, DecidableEq
def Seen.row (s : Seen) : List AV := [.str s.fl, .int .i64 s.nr]
def unSeen : List AV → Seen
  | [.str vfl, .int .i64 vnr] => (Seen.mk vfl vnr)
  | _ => default
theorem unSeen_row (s : Seen) : unSeen (Seen.row s) = s := by
  cases s; simp only [Seen.row, unSeen]
theorem un_Seen (l : List Seen) : (l.map Seen.row).map unSeen = l := by
  rw [List.map_map]; exact List.map_id'' (fun s => unSeen_row s) l
theorem Seen_eta (s : Seen) : (Seen.mk s.fl s.nr) = s := (rfl)
theorem no99_Seen (l : List Seen) : No99LL (l.map Seen.row) := by
  induction l with
  | nil => simp [No99LL]
  | cons x l ih => simp only [List.map_cons, No99LL]; exact ⟨by simp [Seen.row, No99L, No99], ih⟩
structure Book where
  own : List Own
  parts : List Part
  seen : List Seen
  deriving Inhabited, DecidableEq
def Book.row (t : Nat) (s : Book) : List AV := [.sl t 11 (s.own.map (Own.row t)), .sl t 3 (s.parts.map (Part.row t)), .sl t 2 (s.seen.map Seen.row)]
def unBook : List AV → Book
  | [.sl _ 11 vown, .sl _ 3 vparts, .sl _ 2 vseen] => (Book.mk (vown.map unOwn) (vparts.map unPart) (vseen.map unSeen))
  | _ => default
theorem unBook_row (t : Nat) (s : Book) : unBook (Book.row t s) = s := by
  cases s; simp only [Book.row, unBook, un_Own, un_Part, un_Seen]
theorem un_Book (t : Nat) (l : List Book) : (l.map (Book.row t)).map unBook = l := by
  rw [List.map_map]; exact List.map_id'' (fun s => unBook_row t s) l
theorem Book_eta (s : Book) : (Book.mk s.own s.parts s.seen) = s := (rfl)
theorem no99_Book (l : List Book) : No99LL (l.map (Book.row 0)) := by
  induction l with
  | nil => simp [No99LL]
  | cons x l ih => simp only [List.map_cons, No99LL]; exact ⟨by simp [Book.row, No99L, No99, no99_Own, no99_Part, no99_Seen], ih⟩
structure Sector where
  up : Bool
  mo : List Own
  mp : List Part
  ms : List Seen
  dn : List Own
  dp : List Part
  ds : List Seen
  ot : List Word
  deriving Inhabited, DecidableEq
def Sector.row (t : Nat) (s : Sector) : List AV := [.bool s.up, .sl t 11 (s.mo.map (Own.row t)), .sl t 3 (s.mp.map (Part.row t)), .sl t 2 (s.ms.map Seen.row), .sl t 11 (s.dn.map (Own.row t)), .sl t 3 (s.dp.map (Part.row t)), .sl t 2 (s.ds.map Seen.row), .sl t 8 (s.ot.map (Word.row t))]
def unSector : List AV → Sector
  | [.bool vup, .sl _ 11 vmo, .sl _ 3 vmp, .sl _ 2 vms, .sl _ 11 vdn, .sl _ 3 vdp, .sl _ 2 vds, .sl _ 8 vot] => (Sector.mk vup (vmo.map unOwn) (vmp.map unPart) (vms.map unSeen) (vdn.map unOwn) (vdp.map unPart) (vds.map unSeen) (vot.map unWord))
  | _ => default
theorem unSector_row (t : Nat) (s : Sector) : unSector (Sector.row t s) = s := by
  cases s; simp only [Sector.row, unSector, un_Own, un_Part, un_Seen, un_Own, un_Part, un_Seen, un_Word]
theorem un_Sector (t : Nat) (l : List Sector) : (l.map (Sector.row t)).map unSector = l := by
  rw [List.map_map]; exact List.map_id'' (fun s => unSector_row t s) l
theorem Sector_eta (s : Sector) : (Sector.mk s.up s.mo s.mp s.ms s.dn s.dp s.ds s.ot) = s := (rfl)
theorem no99_Sector (l : List Sector) : No99LL (l.map (Sector.row 0)) := by
  induction l with
  | nil => simp [No99LL]
  | cons x l ih => simp only [List.map_cons, No99LL]; exact ⟨by simp [Sector.row, No99L, No99, no99_Own, no99_Part, no99_Seen, no99_Own, no99_Part, no99_Seen, no99_Word], ih⟩
structure HCraft where
  nm : ByteArray
  nr : Int
  no : Int
  tu : List Box6
  deriving Inhabited, DecidableEq
def HCraft.row (t : Nat) (s : HCraft) : List AV := [.str s.nm, .int .i64 s.nr, .int .i64 s.no, .sl t 6 (s.tu.map Box6.row)]
def unHCraft : List AV → HCraft
  | [.str vnm, .int .i64 vnr, .int .i64 vno, .sl _ 6 vtu] => (HCraft.mk vnm vnr vno (vtu.map unBox))
  | _ => default
theorem unHCraft_row (t : Nat) (s : HCraft) : unHCraft (HCraft.row t s) = s := by
  cases s; simp only [HCraft.row, unHCraft, un_box]
theorem un_HCraft (t : Nat) (l : List HCraft) : (l.map (HCraft.row t)).map unHCraft = l := by
  rw [List.map_map]; exact List.map_id'' (fun s => unHCraft_row t s) l
theorem HCraft_eta (s : HCraft) : (HCraft.mk s.nm s.nr s.no s.tu) = s := (rfl)
theorem no99_HCraft (l : List HCraft) : No99LL (l.map (HCraft.row 0)) := by
  induction l with
  | nil => simp [No99LL]
  | cons x l ih => simp only [List.map_cons, No99LL]; exact ⟨by simp [HCraft.row, No99L, No99, no99_box], ih⟩
structure World where
  zones : List Zone
  secs : List Sector
  crafts : List HCraft
  radio : List Word
  deriving Inhabited, DecidableEq
def World.row (t : Nat) (s : World) : List AV := [.sl t 5 (s.zones.map Zone.row), .sl t 8 (s.secs.map (Sector.row t)), .sl t 4 (s.crafts.map (HCraft.row t)), .sl t 8 (s.radio.map (Word.row t))]
def unWorld : List AV → World
  | [.sl _ 5 vzones, .sl _ 8 vsecs, .sl _ 4 vcrafts, .sl _ 8 vradio] => (World.mk (vzones.map unZone) (vsecs.map unSector) (vcrafts.map unHCraft) (vradio.map unWord))
  | _ => default
theorem unWorld_row (t : Nat) (s : World) : unWorld (World.row t s) = s := by
  cases s; simp only [World.row, unWorld, un_Zone, un_Sector, un_HCraft, un_Word]
theorem un_World (t : Nat) (l : List World) : (l.map (World.row t)).map unWorld = l := by
  rw [List.map_map]; exact List.map_id'' (fun s => unWorld_row t s) l
theorem World_eta (s : World) : (World.mk s.zones s.secs s.crafts s.radio) = s := (rfl)
theorem no99_World (l : List World) : No99LL (l.map (World.row 0)) := by
  induction l with
  | nil => simp [No99LL]
  | cons x l ih => simp only [List.map_cons, No99LL]; exact ⟨by simp [World.row, No99L, No99, no99_Zone, no99_Sector, no99_HCraft, no99_Word], ih⟩
theorem box_eta6 (s : Box6) : (Box6.mk s.x s.y s.l s.h s.i s.o) = s := (rfl)
theorem c_isName (s : ByteArray) : Contract P 103 [.str s] [] (.bool (decide (nameOk s))) [] := by
  refine fn_sound (Env.nil P) hm k_impl_isName (nlb rfl) rfl ?_; unfold s_impl_isName; simp (maxSteps := 2000000) only [bitvec_to_nat, reduceIte, Nat.reduceEqDiff, Nat.reduceAdd, Nat.reduceLeDiff, reduceCtorEq, Nat.reduceBEq, Nat.reduceLT, Nat.reduceMod, fmc]
  refine ⟨fun h1 => ?_, fun h1 => ⟨fun h2 => ?_, fun h2 => ?_⟩⟩
  · grind [nameOk]
  · grind [nameOk]
  · refine loop_st (fun i : Nat => [(3, .int .i64 i)]) (fun _ => []) (fun i => i ≤ s.toList.length ∧ ∀ j, j < i → charOk (s.toList.getD j 0)) (fun i => s.toList.length - i) (0) (by simp only [u_E0, u_E1, u_M0, u_M1, w_setE0, w_setE1, w_setM0, w_setM1, reduceIte, Nat.reduceEqDiff]; exact ⟨by repeat' (first | exact trivial | refine ⟨.inr rfl, ?_⟩), by repeat' (first | exact trivial | refine ⟨rfl, ?_⟩), by first | rfl | simp [closedB, refsIn, refsInL, refsInO, dom, refsInL_nr, *], by first | rfl | simp [keepB, dom]⟩) ?_ ?_
    · exact ⟨Nat.zero_le _, by intro j hj; omega⟩
    intro i hi NX hN
    unfold l_impl_isName_0; simp (maxSteps := 2000000) only [bitvec_to_nat, reduceIte, Nat.reduceEqDiff, Nat.reduceAdd, Nat.reduceLeDiff, reduceCtorEq, Nat.reduceBEq, Nat.reduceLT, Nat.reduceMod, fmc]
    repeat' (first | apply And.intro | intro _)
    all_goals first
      | omega
      | (refine hN (i + 1) _ (by simp only [u_E0, u_E1, u_M0, u_M1, w_setE0, w_setE1, w_setM0, w_setM1, reduceIte, Nat.reduceEqDiff]; exact ⟨by repeat' (first | exact trivial | refine ⟨.inr rfl, ?_⟩), by repeat' (first | exact trivial | refine ⟨rfl, ?_⟩), by first | rfl | simp [closedB, refsIn, refsInL, refsInO, dom, refsInL_nr, *], by first | rfl | simp [keepB, dom]⟩) ?_ ?_
         · exact ⟨by omega, all_snoc hi.2 (by grind [charOk])⟩
         · omega)
      | grind [nameOk, charOk]
end
end Go.Ve

namespace Go.Ve
noncomputable section
open Go.Proofs
set_option maxRecDepth 100000
theorem tk_map {α : Type} {f : α → List AV} {l : List α} {n : Nat} : List.take n (List.map f l) = List.map f (List.take n l) := (List.map_take).symm
theorem dp_map {α : Type} {f : α → List AV} {l : List α} {n : Nat} : List.drop n (List.map f l) = List.map f (List.drop n l) := (List.map_drop).symm
theorem getD_take {α : Type} [Inhabited α] {l : List α} {n j : Nat} (h : j < n) : (l.take n).getD j default = l.getD j default := by
  simp [List.getD_eq_getElem?_getD, List.getElem?_take, h]
def t_isName : List AV → Option (Prop × AV)
  | [.str s] => some ((True) ∧ (True), .bool (decide (nameOk s)))
  | _ => none
theorem h_isName : ∀ args p v, t_isName args = some (p, v) → p → Contract P 103 args [] v [] ∧ noref v = true ∧ No99 v := by
  intro args p v h1 h2
  unfold t_isName at h1
  split at h1
  · rename_i s
    cases h1
    obtain ⟨_, HP⟩ := h2
    have := c_isName s
    exact ⟨this, rfl, trivial⟩
  · cases h1
theorem c_l31NameOk (s : ByteArray) (hp : True) : Contract P 70 [.str s] [] (.bool (decide (nameOk s))) [] := by
  refine fn_sound ((Env.nil P).add 80 t_l31In h_l31In) hm k_spec_l31NameOk (nlb rfl) rfl ?_; unfold s_spec_l31NameOk; simp (maxSteps := 2000000) only [bitvec_to_nat, reduceIte, Nat.reduceEqDiff, Nat.reduceAdd, Nat.reduceLeDiff, reduceCtorEq, Nat.reduceBEq, Nat.reduceLT, Nat.reduceMod, fmc, t_l31In]
  refine ⟨fun h1 => ?_, fun h1 => ?_⟩
  · refine loop_st (fun i : Nat => [(3, .int .i64 i)]) (fun _ => []) (fun i => i ≤ s.toList.length ∧ ∀ j, j < i → charOk (s.toList.getD j 0)) (fun i => s.toList.length - i) (0) (by simp only [u_E0, u_E1, u_M0, u_M1, w_setE0, w_setE1, w_setM0, w_setM1, reduceIte, Nat.reduceEqDiff]; exact ⟨by repeat' (first | exact trivial | refine ⟨.inr rfl, ?_⟩), by repeat' (first | exact trivial | refine ⟨rfl, ?_⟩), by first | rfl | simp [closedB, refsIn, refsInL, refsInO, dom, refsInL_nr, *], by first | rfl | simp [keepB, dom]⟩) ?_ ?_
    · exact ⟨Nat.zero_le _, by intro j hj; omega⟩
    intro i hi NX hN
    unfold l_spec_l31NameOk_0; simp (maxSteps := 2000000) only [bitvec_to_nat, reduceIte, Nat.reduceEqDiff, Nat.reduceAdd, Nat.reduceLeDiff, reduceCtorEq, Nat.reduceBEq, Nat.reduceLT, Nat.reduceMod, fmc]
    repeat' (first | with_reducible apply And.intro | with_reducible intro _)
    all_goals first
      | exact trivial
      | omega
      | (refine hN (i + 1) _ (by simp only [u_E0, u_E1, u_M0, u_M1, w_setE0, w_setE1, w_setM0, w_setM1, reduceIte, Nat.reduceEqDiff]; exact ⟨by repeat' (first | exact trivial | refine ⟨.inr rfl, ?_⟩), by repeat' (first | exact trivial | refine ⟨rfl, ?_⟩), by first | rfl | simp [closedB, refsIn, refsInL, refsInO, dom, refsInL_nr, *], by first | rfl | simp [keepB, dom]⟩) ?_ ?_
         · exact ⟨by omega, all_snoc hi.2 (by grind [nameOk, charOk])⟩
         · omega)
      | grind [nameOk, charOk]
  · grind [nameOk]
def t_l31NameOk : List AV → Option (Prop × AV)
  | [.str s] => some ((True) ∧ (True), .bool (decide (nameOk s)))
  | _ => none
theorem h_l31NameOk : ∀ args p v, t_l31NameOk args = some (p, v) → p → Contract P 70 args [] v [] ∧ noref v = true ∧ No99 v := by
  intro args p v h1 h2
  unfold t_l31NameOk at h1
  split at h1
  · rename_i s
    cases h1
    obtain ⟨_, HP⟩ := h2
    have := c_l31NameOk s HP
    exact ⟨this, rfl, trivial⟩
  · cases h1
theorem c_number (n : Int) (hp : True) : Contract P 125 [.int .i64 n] [] (.bool (decide (1 ≤ n ∧ n ≤ 1000000))) [] := by
  refine fn_sound ((Env.nil P).add 120 t_within h_within) hm k_impl_number (nlb rfl) rfl ?_; unfold s_impl_number; simp (maxSteps := 2000000) only [bitvec_to_nat, reduceIte, Nat.reduceEqDiff, Nat.reduceAdd, Nat.reduceLeDiff, reduceCtorEq, Nat.reduceBEq, Nat.reduceLT, Nat.reduceMod, fmc, t_within]
  repeat' (first | with_reducible apply And.intro | with_reducible intro _)
  all_goals (first | trivial | omega | (simp_all; done) | (simp_all; omega) | grind)
def t_number : List AV → Option (Prop × AV)
  | [.int .i64 n] => some ((True) ∧ (True), .bool (decide (1 ≤ n ∧ n ≤ 1000000)))
  | _ => none
theorem h_number : ∀ args p v, t_number args = some (p, v) → p → Contract P 125 args [] v [] ∧ noref v = true ∧ No99 v := by
  intro args p v h1 h2
  unfold t_number at h1
  split at h1
  · rename_i n
    cases h1
    obtain ⟨_, HP⟩ := h2
    have := c_number n HP
    exact ⟨this, rfl, trivial⟩
  · cases h1
def Zone.ok (z : Zone) : Prop := nameOk z.nm ∧ (0 ≤ z.x0 ∧ z.x0 ≤ z.x1 ∧ z.x1 < 16) ∧ (0 ≤ z.y0 ∧ z.y0 ≤ z.y1 ∧ z.y1 < 16)
def Zone.meet (o z : Zone) : Prop := o.x0 ≤ z.x1 ∧ z.x0 ≤ o.x1 ∧ o.y0 ≤ z.y1 ∧ z.y0 ≤ o.y1
def zoneAt (zs : List Zone) (i : Nat) : Prop := (zs.getD i default).ok ∧ (0 < i → slt (zs.getD (i - 1) default).nm (zs.getD i default).nm) ∧ ∀ k, k < i → ¬ (zs.getD k default).meet (zs.getD i default)
def zonesOk (zs : List Zone) : Prop := (1 ≤ zs.length ∧ zs.length ≤ 4) ∧ ∀ i, i < zs.length → zoneAt zs i
noncomputable instance (zs : List Zone) : Decidable (zonesOk zs) := Classical.propDecidable _
set_option maxHeartbeats 1000000 in
theorem c_zonesOk (t : Nat) (zs : List Zone) (hl : zs.length ≤ 4611686018427387904) : Contract P 101 [.sl t 5 (zs.map Zone.row)] [] (.bool (decide (zonesOk zs))) [] := by
  refine fn_sound (((Env.nil P).add 120 t_within h_within).add 103 t_isName h_isName) hm k_impl_HandZonesOk (nlb rfl) rfl ?_; unfold s_impl_HandZonesOk; simp (maxSteps := 2000000) only [bitvec_to_nat, reduceIte, Nat.reduceEqDiff, Nat.reduceAdd, Nat.reduceLeDiff, reduceCtorEq, Nat.reduceBEq, Nat.reduceLT, Nat.reduceMod, fmc, t_within, t_isName, Zone.row, Zone_eta, tk_map, dp_map, List.drop_zero, toNat_pred]
  refine ⟨fun h1 => ?_, fun h1 => by grind [zonesOk]⟩
  · refine loop_st (fun i : Nat => [(13, .int .i64 i)]) (fun _ => []) (fun i => i ≤ zs.length ∧ ∀ j, j < i → zoneAt zs j) (fun i => zs.length - i) (0) (by simp only [u_E0, u_E1, u_M0, u_M1, w_setE0, w_setE1, w_setM0, w_setM1, reduceIte, Nat.reduceEqDiff]; exact ⟨by repeat' (first | exact trivial | refine ⟨.inr rfl, ?_⟩), by repeat' (first | exact trivial | refine ⟨rfl, ?_⟩), by first | rfl | simp [closedB, refsIn, refsInL, refsInO, dom, refsInL_nr, *], by first | rfl | simp [keepB, dom]⟩) ?_ ?_
    · exact ⟨Nat.zero_le _, by intro j hj; omega⟩
    intro i hi NX hN
    unfold l_impl_HandZonesOk_1; simp (maxSteps := 2000000) only [bitvec_to_nat, reduceIte, Nat.reduceEqDiff, Nat.reduceAdd, Nat.reduceLeDiff, reduceCtorEq, Nat.reduceBEq, Nat.reduceLT, Nat.reduceMod, fmc, t_within, t_isName, Zone.row, Zone_eta, tk_map, dp_map, List.drop_zero, toNat_pred]
    have bad : ∀ P : Prop, (zonesOk zs → i < zs.length → P) → i < zs.length → ¬ P → ¬ zonesOk zs := fun P h h1 h2 h3 => h2 (h h3 h1)
    repeat' (first | with_reducible apply And.intro | with_reducible intro _)
    all_goals first
      | omega
      | (intro hq; have := hq.2 i (by omega); unfold zoneAt Zone.ok at this; grind)
      | (refine loop_st (fun k : Nat => [(77, .int .i64 k)]) (fun _ => []) (fun k => k ≤ i ∧ ∀ j, j < k → ¬ (zs.getD j default).meet (zs.getD i default)) (fun k => i - k) (0) (by simp only [u_E0, u_E1, u_M0, u_M1, w_setE0, w_setE1, w_setM0, w_setM1, reduceIte, Nat.reduceEqDiff]; exact ⟨by repeat' (first | exact trivial | refine ⟨.inr rfl, ?_⟩), by repeat' (first | exact trivial | refine ⟨rfl, ?_⟩), by first | rfl | simp [closedB, refsIn, refsInL, refsInO, dom, refsInL_nr, *], by first | rfl | simp [keepB, dom]⟩) ?_ ?_
         · exact ⟨Nat.zero_le _, by intro j hj; omega⟩
         intro k hk NX2 hN2
         unfold l_impl_HandZonesOk_0; simp (maxSteps := 2000000) only [bitvec_to_nat, reduceIte, Nat.reduceEqDiff, Nat.reduceAdd, Nat.reduceLeDiff, reduceCtorEq, Nat.reduceBEq, Nat.reduceLT, Nat.reduceMod, fmc, t_within, t_isName, Zone.row, Zone_eta, tk_map, dp_map, List.drop_zero, toNat_pred]
         repeat' (first | with_reducible apply And.intro | with_reducible intro _)
         all_goals first
           | omega
           | (refine hN2 (k + 1) _ (by simp only [u_E0, u_E1, u_M0, u_M1, w_setE0, w_setE1, w_setM0, w_setM1, reduceIte, Nat.reduceEqDiff]; exact ⟨by repeat' (first | exact trivial | refine ⟨.inr rfl, ?_⟩), by repeat' (first | exact trivial | refine ⟨rfl, ?_⟩), by first | rfl | simp [closedB, refsIn, refsInL, refsInO, dom, refsInL_nr, *], by first | rfl | simp [keepB, dom]⟩) ?_ ?_
              · refine ⟨by omega, all_snoc hk.2 ?_⟩
                rw [getD_take (by omega)] at *
                grind [Zone.meet]
              · omega)
           | (refine hN (i + 1) _ (by simp only [u_E0, u_E1, u_M0, u_M1, w_setE0, w_setE1, w_setM0, w_setM1, reduceIte, Nat.reduceEqDiff]; exact ⟨by repeat' (first | exact trivial | refine ⟨.inr rfl, ?_⟩), by repeat' (first | exact trivial | refine ⟨rfl, ?_⟩), by first | rfl | simp [closedB, refsIn, refsInL, refsInO, dom, refsInL_nr, *], by first | rfl | simp [keepB, dom]⟩) ?_ ?_
              · refine ⟨by omega, all_snoc hi.2 ⟨?_, ?_, fun k hk2 => hk.2 k (by omega)⟩⟩
                · grind [Zone.ok]
                · grind
              · omega)
           | (intro hq
              have := (hq.2 i (by omega)).2.2 k (by omega)
              rw [getD_take (by omega)] at *
              grind [Zone.meet]))
      | (refine ⟨by omega, fun j hj => hi.2 j (by omega)⟩)
    all_goals trace_state
end
end Go.Ve

namespace Go.Ve
noncomputable section
open Go.Proofs
set_option maxRecDepth 100000
def t_zonesOk : List AV → Option (Prop × AV)
  | [.sl zst 5 zsx] => some ((((zsx.map unZone).map Zone.row = zsx)) ∧ ((zsx.map unZone).length ≤ 4611686018427387904), .bool (decide (zonesOk (zsx.map unZone))))
  | _ => none
theorem h_zonesOk : ∀ args p v, t_zonesOk args = some (p, v) → p → Contract P 101 args [] v [] ∧ noref v = true ∧ No99 v := by
  intro args p v h1 h2
  unfold t_zonesOk at h1
  split at h1
  · rename_i zst zsx
    cases h1
    obtain ⟨e0, HP⟩ := h2
    have := c_zonesOk zst (zsx.map unZone) HP
    exact ⟨by simpa only [e0] using this, rfl, trivial⟩
  · cases h1
set_option maxHeartbeats 1000000 in
theorem c_sZonesOk (t : Nat) (zs : List Zone) (hl : zs.length ≤ 4611686018427387904) : Contract P 77 [.sl t 5 (zs.map Zone.row)] [] (.bool (decide (zonesOk zs))) [] := by
  refine fn_sound (((Env.nil P).add 80 t_l31In h_l31In).add 70 t_l31NameOk h_l31NameOk) hm k_spec_HandZonesOk (nlb rfl) rfl ?_; unfold s_spec_HandZonesOk; simp (maxSteps := 2000000) only [bitvec_to_nat, reduceIte, Nat.reduceEqDiff, Nat.reduceAdd, Nat.reduceLeDiff, reduceCtorEq, Nat.reduceBEq, Nat.reduceLT, Nat.reduceMod, fmc, t_l31In, t_l31NameOk, Zone.row, Zone_eta, Box6.row, box_eta6, tk_map, dp_map, toNat_pred]
  refine ⟨fun h1 => ?_, fun h1 => by grind [zonesOk]⟩
  · refine loop_st (fun i : Nat => [(3, .int .i64 i)]) (fun _ => []) (fun i => i ≤ zs.length ∧ ∀ j, j < i → zoneAt zs j) (fun i => zs.length - i) (0) (by simp only [u_E0, u_E1, u_M0, u_M1, w_setE0, w_setE1, w_setM0, w_setM1, reduceIte, Nat.reduceEqDiff]; exact ⟨by repeat' (first | exact trivial | refine ⟨.inr rfl, ?_⟩), by repeat' (first | exact trivial | refine ⟨rfl, ?_⟩), by first | rfl | simp [closedB, refsIn, refsInL, refsInO, dom, refsInL_nr, *], by first | rfl | simp [keepB, dom]⟩) ?_ ?_
    · exact ⟨Nat.zero_le _, by intro j hj; omega⟩
    intro i hi NX hN
    unfold l_spec_HandZonesOk_1; simp (maxSteps := 2000000) only [bitvec_to_nat, reduceIte, Nat.reduceEqDiff, Nat.reduceAdd, Nat.reduceLeDiff, reduceCtorEq, Nat.reduceBEq, Nat.reduceLT, Nat.reduceMod, fmc, t_l31In, t_l31NameOk, Zone.row, Zone_eta, Box6.row, box_eta6, tk_map, dp_map, toNat_pred]
    repeat' (first | with_reducible apply And.intro | with_reducible intro _)
    all_goals first
      | omega
      | (intro hq; have := hq.2 i (by omega); unfold zoneAt Zone.ok at this; grind)
      | (refine loop_st (fun k : Nat => [(5, .int .i64 k)]) (fun _ => []) (fun k => k ≤ i ∧ ∀ j, j < k → ¬ (zs.getD j default).meet (zs.getD i default)) (fun k => i - k) (0) (by simp only [u_E0, u_E1, u_M0, u_M1, w_setE0, w_setE1, w_setM0, w_setM1, reduceIte, Nat.reduceEqDiff]; exact ⟨by repeat' (first | exact trivial | refine ⟨.inr rfl, ?_⟩), by repeat' (first | exact trivial | refine ⟨rfl, ?_⟩), by first | rfl | simp [closedB, refsIn, refsInL, refsInO, dom, refsInL_nr, *], by first | rfl | simp [keepB, dom]⟩) ?_ ?_
         · exact ⟨Nat.zero_le _, by intro j hj; omega⟩
         intro k hk NX2 hN2
         unfold l_spec_HandZonesOk_0; simp (maxSteps := 2000000) only [bitvec_to_nat, reduceIte, Nat.reduceEqDiff, Nat.reduceAdd, Nat.reduceLeDiff, reduceCtorEq, Nat.reduceBEq, Nat.reduceLT, Nat.reduceMod, fmc, t_l31In, t_l31NameOk, Zone.row, Zone_eta, Box6.row, box_eta6, tk_map, dp_map, toNat_pred]
         repeat' (first | with_reducible apply And.intro | with_reducible intro _)
         all_goals first
           | omega
           | (refine hN2 (k + 1) _ (by simp only [u_E0, u_E1, u_M0, u_M1, w_setE0, w_setE1, w_setM0, w_setM1, reduceIte, Nat.reduceEqDiff]; exact ⟨by repeat' (first | exact trivial | refine ⟨.inr rfl, ?_⟩), by repeat' (first | exact trivial | refine ⟨rfl, ?_⟩), by first | rfl | simp [closedB, refsIn, refsInL, refsInO, dom, refsInL_nr, *], by first | rfl | simp [keepB, dom]⟩) ?_ ?_
              · refine ⟨by omega, all_snoc hk.2 ?_⟩
                grind [Zone.meet]
              · omega)
           | (refine hN (i + 1) _ (by simp only [u_E0, u_E1, u_M0, u_M1, w_setE0, w_setE1, w_setM0, w_setM1, reduceIte, Nat.reduceEqDiff]; exact ⟨by repeat' (first | exact trivial | refine ⟨.inr rfl, ?_⟩), by repeat' (first | exact trivial | refine ⟨rfl, ?_⟩), by first | rfl | simp [closedB, refsIn, refsInL, refsInO, dom, refsInL_nr, *], by first | rfl | simp [keepB, dom]⟩) ?_ ?_
              · refine ⟨by omega, all_snoc hi.2 ⟨?_, ?_, fun k hk2 => hk.2 k (by omega)⟩⟩
                · grind [Zone.ok]
                · grind
              · omega)
           | (intro hq
              have := (hq.2 i (by omega)).2.2 k (by omega)
              grind [Zone.meet]))
      | (refine ⟨by omega, fun j hj => hi.2 j (by omega)⟩)
def t_sZonesOk : List AV → Option (Prop × AV)
  | [.sl zst 5 zsx] => some ((((zsx.map unZone).map Zone.row = zsx)) ∧ ((zsx.map unZone).length ≤ 4611686018427387904), .bool (decide (zonesOk (zsx.map unZone))))
  | _ => none
theorem h_sZonesOk : ∀ args p v, t_sZonesOk args = some (p, v) → p → Contract P 77 args [] v [] ∧ noref v = true ∧ No99 v := by
  intro args p v h1 h2
  unfold t_sZonesOk at h1
  split at h1
  · rename_i zst zsx
    cases h1
    obtain ⟨e0, HP⟩ := h2
    have := c_sZonesOk zst (zsx.map unZone) HP
    exact ⟨by simpa only [e0] using this, rfl, trivial⟩
  · cases h1
def Zone.over (z : Zone) (x y : Int) : Prop := (z.x0 ≤ x ∧ x ≤ z.x1) ∧ (z.y0 ≤ y ∧ y ≤ z.y1)
noncomputable instance (z : Zone) (x y : Int) : Decidable (z.over x y) := Classical.propDecidable _
theorem c_over (nm : ByteArray) (x0 y0 x1 y1 x y : Int) (hp : True) : Contract P 124 [.agg [.str nm, .int .i64 x0, .int .i64 y0, .int .i64 x1, .int .i64 y1], .int .i64 x, .int .i64 y] [] (.bool (decide (Zone.over ⟨nm, x0, y0, x1, y1⟩ x y))) [] := by
  refine fn_sound ((Env.nil P).add 120 t_within h_within) hm k_impl_HandZone_over (nlb rfl) rfl ?_; unfold s_impl_HandZone_over; simp (maxSteps := 2000000) only [bitvec_to_nat, reduceIte, Nat.reduceEqDiff, Nat.reduceAdd, Nat.reduceLeDiff, reduceCtorEq, Nat.reduceBEq, Nat.reduceLT, Nat.reduceMod, fmc, t_within]
  simp only [Zone.over]
  repeat' (first | with_reducible apply And.intro | with_reducible intro _)
  all_goals (first | trivial | omega | (simp_all; done) | (simp_all; omega) | grind)
def t_over : List AV → Option (Prop × AV)
  | [.agg [.str z_nm, .int .i64 z_x0, .int .i64 z_y0, .int .i64 z_x1, .int .i64 z_y1], .int .i64 x, .int .i64 y] => some ((True) ∧ (True), .bool (decide ((Zone.mk z_nm z_x0 z_y0 z_x1 z_y1).over x y)))
  | _ => none
theorem h_over : ∀ args p v, t_over args = some (p, v) → p → Contract P 124 args [] v [] ∧ noref v = true ∧ No99 v := by
  intro args p v h1 h2
  unfold t_over at h1
  split at h1
  · rename_i z_nm z_x0 z_y0 z_x1 z_y1 x y
    cases h1
    obtain ⟨_, HP⟩ := h2
    have := c_over z_nm z_x0 z_y0 z_x1 z_y1 x y HP
    exact ⟨by simpa only [Zone.row] using this, rfl, trivial⟩
  · cases h1
theorem c_sOver (nm : ByteArray) (x0 y0 x1 y1 x y l h i o : Int) (hp : True) : Contract P 98 [.agg [.str nm, .int .i64 x0, .int .i64 y0, .int .i64 x1, .int .i64 y1], .agg [.int .i64 x, .int .i64 y, .int .i64 l, .int .i64 h, .int .i64 i, .int .i64 o]] [] (.bool (decide (Zone.over ⟨nm, x0, y0, x1, y1⟩ x y))) [] := by
  refine fn_sound ((Env.nil P).add 80 t_l31In h_l31In) hm k_spec_l31Over (nlb rfl) rfl ?_; unfold s_spec_l31Over; simp (maxSteps := 2000000) only [bitvec_to_nat, reduceIte, Nat.reduceEqDiff, Nat.reduceAdd, Nat.reduceLeDiff, reduceCtorEq, Nat.reduceBEq, Nat.reduceLT, Nat.reduceMod, fmc, t_l31In]
  simp only [Zone.over]
  repeat' (first | with_reducible apply And.intro | with_reducible intro _)
  all_goals (first | trivial | omega | (simp_all; done) | (simp_all; omega) | grind)
def t_sOver : List AV → Option (Prop × AV)
  | [.agg [.str z_nm, .int .i64 z_x0, .int .i64 z_y0, .int .i64 z_x1, .int .i64 z_y1], .agg [.int .i64 b_x, .int .i64 b_y, .int .i64 b_l, .int .i64 b_h, .int .i64 b_i, .int .i64 b_o]] => some ((True) ∧ (True), .bool (decide ((Zone.mk z_nm z_x0 z_y0 z_x1 z_y1).over (Box6.mk b_x b_y b_l b_h b_i b_o).x (Box6.mk b_x b_y b_l b_h b_i b_o).y)))
  | _ => none
theorem h_sOver : ∀ args p v, t_sOver args = some (p, v) → p → Contract P 98 args [] v [] ∧ noref v = true ∧ No99 v := by
  intro args p v h1 h2
  unfold t_sOver at h1
  split at h1
  · rename_i z_nm z_x0 z_y0 z_x1 z_y1 b_x b_y b_l b_h b_i b_o
    cases h1
    obtain ⟨_, HP⟩ := h2
    have := c_sOver z_nm z_x0 z_y0 z_x1 z_y1 b_x b_y b_l b_h b_i b_o HP
    exact ⟨by simpa only [Zone.row, Box6.row] using this, rfl, trivial⟩
  · cases h1
end
end Go.Ve

namespace Go.Ve
noncomputable section
open Go.Proofs
set_option maxRecDepth 100000
theorem c_IndexFunc_Zone (g : FuncId) (hg : calleeB P g = true) (ls : List AV) (hls : norefL ls = true) (p : Zone → Bool) (t : Nat) (zs : List Zone) (hl : zs.length ≤ 4611686018427387904)
    (hC : ∀ z, Contract P g (.agg (Zone.row z) :: [.ptr 3 0]) [(3, .box ls)] (.bool (p z)) [(3, .box ls)]) : Contract P 113 [.sl t 5 (zs.map Zone.row), .fn g [] [.ptr 3 0]] [(3, .box ls)] (.int .i64 (fIdx p zs)) [(3, .box ls)] := by
  refine fn_sound (Env.nil P) hm k_slices_IndexFunc_HandZone (nlb rfl) rfl ?_; unfold s_slices_IndexFunc_HandZone; simp (maxSteps := 2000000) only [bitvec_to_nat, reduceIte, Nat.reduceEqDiff, Nat.reduceAdd, Nat.reduceLeDiff, reduceCtorEq, Nat.reduceBEq, Nat.reduceLT, Nat.reduceMod, fmc, retG_ret, retQ_eq, retQ_eqN, retOk, keepB, re_tupl, orr_t, callL_nil]
  refine loop_st (fun i : Nat => [(8, .int .i64 i)]) (fun _ => []) (fun i => i ≤ zs.length ∧ ∀ j, j < i → p (zs.getD j default) = false) (fun i => zs.length - i) (0) (by simp only [u_E0, u_E1, u_M0, u_M1, w_setE0, w_setE1, w_setM0, w_setM1, reduceIte, Nat.reduceEqDiff]; exact ⟨by repeat' (first | exact trivial | refine ⟨.inr rfl, ?_⟩), by repeat' (first | exact trivial | refine ⟨rfl, ?_⟩), by first | rfl | simp [closedB, refsIn, refsInL, refsInO, dom, refsInL_nr, *], by first | rfl | simp [keepB, dom]⟩) ?_ ?_
  · exact ⟨Nat.zero_le _, by intro j hj; omega⟩
  intro i hi NX hN
  unfold l_slices_IndexFunc_HandZone_0; simp (maxSteps := 2000000) only [bitvec_to_nat, reduceIte, Nat.reduceEqDiff, Nat.reduceAdd, Nat.reduceLeDiff, reduceCtorEq, Nat.reduceBEq, Nat.reduceLT, Nat.reduceMod, fmc, retG_ret, retQ_eq, retQ_eqN, retOk, keepB, re_tupl, orr_t, callL_nil, Zone_len, Zone_take]
  refine ⟨fun h1 => ⟨by omega, by omega, hg, _, _, .inl ⟨[(3, .box ls)], hC (zs.getD i default), ?_, ?_, ?_, ?_, ?_, rfl, ?_⟩, ?_⟩, fun h1 => ?_⟩
  · simp [getM]
  · intro q hq; left; revert q; simp [dom]
  · simp [dom]
  · simp [refsInL, refsIn, dom, refsInL_nr, Zone_nr]
  · simp [refsInO, refsInL_nr, *]
  · simp [refsInO, refsInL_nr, *]
  · simp (maxSteps := 2000000) only [bitvec_to_nat, reduceIte, Nat.reduceEqDiff, Nat.reduceAdd, Nat.reduceLeDiff, reduceCtorEq, Nat.reduceBEq, Nat.reduceLT, Nat.reduceMod, fmc, retG_ret, retQ_eq, retQ_eqN, retOk, keepB, re_tupl, orr_t, callL_nil]
    refine ⟨fun h2 => ?_, fun h2 => ?_⟩
    · simp (maxSteps := 2000000) only [bitvec_to_nat, reduceIte, Nat.reduceEqDiff, Nat.reduceAdd, Nat.reduceLeDiff, reduceCtorEq, Nat.reduceBEq, Nat.reduceLT, Nat.reduceMod, fmc, retG_ret, retQ_eq, retQ_eqN, retOk, keepB, re_tupl, orr_t, callL_nil]
      rw [fIdx_at (by omega) h2 hi.2]
      simp [dom, refsInL_nr, *]
    · simp (maxSteps := 2000000) only [bitvec_to_nat, reduceIte, Nat.reduceEqDiff, Nat.reduceAdd, Nat.reduceLeDiff, reduceCtorEq, Nat.reduceBEq, Nat.reduceLT, Nat.reduceMod, fmc, retG_ret, retQ_eq, retQ_eqN, retOk, keepB, re_tupl, orr_t, callL_nil]
      refine ⟨by omega, ?_⟩
      refine hN (i + 1) _ (by simp only [u_E0, u_E1, u_M0, u_M1, w_setE0, w_setE1, w_setM0, w_setM1, reduceIte, Nat.reduceEqDiff]; exact ⟨by repeat' (first | exact trivial | refine ⟨.inr rfl, ?_⟩), by repeat' (first | exact trivial | refine ⟨rfl, ?_⟩), by first | rfl | simp [closedB, refsIn, refsInL, refsInO, dom, refsInL_nr, *], by first | rfl | simp [keepB, dom]⟩) ?_ ?_
      · exact ⟨by omega, all_snoc hi.2 h2⟩
      · omega
  · rw [fIdx_none fun j hj => hi.2 j (by omega)]
    simp [dom, refsInL_nr, *]
theorem c_ContainsFunc_Zone (g : FuncId) (hg : calleeB P g = true) (ls : List AV) (hls : norefL ls = true) (p : Zone → Bool) (t : Nat) (zs : List Zone) (hl : zs.length ≤ 4611686018427387904)
    (hC : ∀ z, Contract P g (.agg (Zone.row z) :: [.ptr 3 0]) [(3, .box ls)] (.bool (p z)) [(3, .box ls)]) : Contract P 122 [.sl t 5 (zs.map Zone.row), .fn g [] [.ptr 3 0]] [(3, .box ls)] (.bool (decide (∃ i, i < zs.length ∧ p (zs.getD i default) = true))) [(3, .box ls)] := by
  refine fn_sound (Env.nil P) hm k_slices_ContainsFunc_HandZone (nlb rfl) rfl ?_; unfold s_slices_ContainsFunc_HandZone; simp (maxSteps := 2000000) only [bitvec_to_nat, reduceIte, Nat.reduceEqDiff, Nat.reduceAdd, Nat.reduceLeDiff, reduceCtorEq, Nat.reduceBEq, Nat.reduceLT, Nat.reduceMod, fmc, retG_ret, retQ_eq, retQ_eqN, retOk, keepB, re_tupl, orr_t, callL_nil]
  refine ⟨_, _, .inl ⟨[(3, .box ls)], c_IndexFunc_Zone g hg ls hls p t zs hl hC, ?_, ?_, ?_, ?_, ?_, rfl, ?_⟩, ?_⟩
  · simp [getM]
  · intro q hq; left; revert q; simp [dom]
  · simp [dom]
  · simp [refsInL, refsIn, dom, refsInL_nr, *]
  · simp [refsInO, refsInL_nr, *]
  · simp [refsInO, refsInL_nr, *]
  · simp (maxSteps := 2000000) only [bitvec_to_nat, reduceIte, Nat.reduceEqDiff, Nat.reduceAdd, Nat.reduceLeDiff, reduceCtorEq, Nat.reduceBEq, Nat.reduceLT, Nat.reduceMod, fmc, retG_ret, retQ_eq, retQ_eqN, retOk, keepB, re_tupl, orr_t, callL_nil]
    simp [fIdx_ge, dom, refsInL_nr, *]
theorem c_tubeOk1 (z : Zone) (b : Box6) : Contract P 123 [.agg z.row, .ptr 3 0] [(3, .box b.row)] (.bool (decide (z.over b.x b.y))) [(3, .box b.row)] := by
  simp only [Zone.row, Box6.row]
  refine fn_sound ((Env.nil P).add 124 t_over h_over) hm k_impl_tubeOk_1 (nlb rfl) rfl ?_; unfold s_impl_tubeOk_1; simp (maxSteps := 2000000) only [bitvec_to_nat, reduceIte, Nat.reduceEqDiff, Nat.reduceAdd, Nat.reduceLeDiff, reduceCtorEq, Nat.reduceBEq, Nat.reduceLT, Nat.reduceMod, fmc, retG_ret, retQ_eq, retQ_eqN, retOk, keepB, re_tupl, orr_t, t_over, Zone_eta]
  all_goals simp [dom]
theorem c_zoneAt1 (z : Zone) (s : ByteArray) : Contract P 114 [.agg z.row, .ptr 3 0] [(3, .box [.str s])] (.bool (decide (z.nm = s))) [(3, .box [.str s])] := by
  simp only [Zone.row]
  refine fn_sound (Env.nil P) hm k_impl_zoneAt_1 (nlb rfl) rfl ?_; unfold s_impl_zoneAt_1; simp (maxSteps := 2000000) only [bitvec_to_nat, reduceIte, Nat.reduceEqDiff, Nat.reduceAdd, Nat.reduceLeDiff, reduceCtorEq, Nat.reduceBEq, Nat.reduceLT, Nat.reduceMod, fmc, retG_ret, retQ_eq, retQ_eqN, retOk, keepB, re_tupl, orr_t, Zone_eta]
  all_goals simp [dom]
def r_tubeC : RTab
  | [.sl zt 5 zx, .fn 123 [] [.ptr ob off]], M => match M ob with
    | some (.box [.int .i64 b_x, .int .i64 b_y, .int .i64 b_l, .int .i64 b_h, .int .i64 b_i, .int .i64 b_o]) => some ⟨off = 0 ∧ (zx.map unZone).map Zone.row = zx ∧ (zx.map unZone).length ≤ 4611686018427387904, fun _ : Unit => True, fun _ => .bool (decide (∃ i, i < (zx.map unZone).length ∧ ((zx.map unZone).getD i default).over b_x b_y)), fun _ => [(ob, .box [.int .i64 b_x, .int .i64 b_y, .int .i64 b_l, .int .i64 b_h, .int .i64 b_i, .int .i64 b_o])]⟩
    | _ => none
  | _, _ => none
theorem h_tubeC : okTab P 122 r_tubeC := by
  intro args M o h hp
  unfold r_tubeC at h
  split at h
  · rename_i zt zx ob off
    split at h
    · rename_i b_x b_y b_l b_h b_i b_o hM
      cases h
      obtain ⟨rfl, e0, HP⟩ := hp
      have hC := c_ContainsFunc_Zone 123 (by kernel_rfl) _ rfl (fun z => decide (z.over b_x b_y)) zt (zx.map unZone) HP fun z => c_tubeOk1 z ⟨b_x, b_y, b_l, b_h, b_i, b_o⟩
      simp only [e0, decide_eq_true_eq, Box6.row] at hC
      exact ⟨(), trivial, callR_box _ hC (by simp [norefL, noref]) rfl (by assumption) (by simp [renL, ren, swp]) (by simp [refsInL, refsIn, noref])⟩
    · cases h
  · cases h
def r_zoneAtI : RTab
  | [.sl zt 5 zx, .fn 114 [] [.ptr ob off]], M => match M ob with
    | some (.box [.str s]) => some ⟨off = 0 ∧ (zx.map unZone).map Zone.row = zx ∧ (zx.map unZone).length ≤ 4611686018427387904, fun _ : Unit => True, fun _ => .int .i64 (fIdx (fun z => decide (z.nm = s)) (zx.map unZone)), fun _ => [(ob, .box [.str s])]⟩
    | _ => none
  | _, _ => none
theorem h_zoneAtI : okTab P 113 r_zoneAtI := by
  intro args M o h hp
  unfold r_zoneAtI at h
  split at h
  · rename_i zt zx ob off
    split at h
    · rename_i s hM
      cases h
      obtain ⟨rfl, e0, HP⟩ := hp
      have hC := c_IndexFunc_Zone 114 (by kernel_rfl) _ rfl (fun z => decide (z.nm = s)) zt (zx.map unZone) HP fun z => c_zoneAt1 z s
      simp only [e0, decide_eq_true_eq] at hC
      exact ⟨(), trivial, callR_box _ hC (by simp [norefL, noref]) rfl (by assumption) (by simp [renL, ren, swp]) (by simp [refsInL, refsIn, noref])⟩
    · cases h
  · cases h
def zAt (zs : List Zone) (s : ByteArray) : Int := fIdx (fun z => decide (z.nm = s)) zs
theorem c_zoneAt (t : Nat) (zs : List Zone) (s : ByteArray) (hl : zs.length ≤ 4611686018427387904) : Contract P 86 [.sl t 5 (zs.map Zone.row), .str s] [] (.int .i64 (zAt zs s)) [] := by
  refine fn_sound ((Env.nil P).addR 113 r_zoneAtI h_zoneAtI) hm k_impl_zoneAt (nlb rfl) rfl ?_; unfold s_impl_zoneAt; simp (maxSteps := 2000000) only [bitvec_to_nat, reduceIte, Nat.reduceEqDiff, Nat.reduceAdd, Nat.reduceLeDiff, reduceCtorEq, Nat.reduceBEq, Nat.reduceLT, Nat.reduceMod, fmc, retG_ret, retQ_eq, retQ_eqN, retOk, keepB, re_tupl, orr_t, r_zoneAtI, un_Zone]
  exact ⟨hl, fun _ => rfl⟩
theorem c_sZoneAt (t : Nat) (zs : List Zone) (s : ByteArray) (hl : zs.length ≤ 4611686018427387904) : Contract P 36 [.sl t 5 (zs.map Zone.row), .str s] [] (.int .i64 (zAt zs s)) [] := by
  refine fn_sound (Env.nil P) hm k_spec_l32Zone (nlb rfl) rfl ?_; unfold s_spec_l32Zone; simp (maxSteps := 2000000) only [bitvec_to_nat, reduceIte, Nat.reduceEqDiff, Nat.reduceAdd, Nat.reduceLeDiff, reduceCtorEq, Nat.reduceBEq, Nat.reduceLT, Nat.reduceMod, fmc, Zone.row, Zone_eta, Box6.row, box_eta6, tk_map, dp_map, toNat_pred]
  refine loop_st (fun i : Nat => [(5, .int .i64 i)]) (fun _ => []) (fun i => i ≤ zs.length ∧ ∀ j, j < i → decide ((zs.getD j default).nm = s) = false) (fun i => zs.length - i) (0) (by simp only [u_E0, u_E1, u_M0, u_M1, w_setE0, w_setE1, w_setM0, w_setM1, reduceIte, Nat.reduceEqDiff]; exact ⟨by repeat' (first | exact trivial | refine ⟨.inr rfl, ?_⟩), by repeat' (first | exact trivial | refine ⟨rfl, ?_⟩), by first | rfl | simp [closedB, refsIn, refsInL, refsInO, dom, refsInL_nr, *], by first | rfl | simp [keepB, dom]⟩) ?_ ?_
  · exact ⟨Nat.zero_le _, by intro j hj; omega⟩
  intro i hi NX hN
  unfold l_spec_l32Zone_0; simp (maxSteps := 2000000) only [bitvec_to_nat, reduceIte, Nat.reduceEqDiff, Nat.reduceAdd, Nat.reduceLeDiff, reduceCtorEq, Nat.reduceBEq, Nat.reduceLT, Nat.reduceMod, fmc, Zone.row, Zone_eta, Box6.row, box_eta6, tk_map, dp_map, toNat_pred]
  
  repeat' (first | with_reducible apply And.intro | with_reducible intro _)
  all_goals first
    | omega
    | (refine hN (i + 1) _ (by simp only [u_E0, u_E1, u_M0, u_M1, w_setE0, w_setE1, w_setM0, w_setM1, reduceIte, Nat.reduceEqDiff]; exact ⟨by repeat' (first | exact trivial | refine ⟨.inr rfl, ?_⟩), by repeat' (first | exact trivial | refine ⟨rfl, ?_⟩), by first | rfl | simp [closedB, refsIn, refsInL, refsInO, dom, refsInL_nr, *], by first | rfl | simp [keepB, dom]⟩) ?_ ?_
       · exact ⟨by omega, all_snoc hi.2 (by simpa using ‹¬ _›)⟩
       · omega)
    | (unfold zAt; rw [fIdx_at (i := i) (by omega) (by simpa using ‹_›) hi.2])
    | (unfold zAt; rw [fIdx_none fun j hj => hi.2 j (by omega)])
def t_zoneAt : List AV → Option (Prop × AV)
  | [.sl zst 5 zsx, .str s] => some ((((zsx.map unZone).map Zone.row = zsx)) ∧ ((zsx.map unZone).length ≤ 4611686018427387904), .int .i64 (zAt (zsx.map unZone) s))
  | _ => none
theorem h_zoneAt : ∀ args p v, t_zoneAt args = some (p, v) → p → Contract P 86 args [] v [] ∧ noref v = true ∧ No99 v := by
  intro args p v h1 h2
  unfold t_zoneAt at h1
  split at h1
  · rename_i zst zsx s
    cases h1
    obtain ⟨e0, HP⟩ := h2
    have := c_zoneAt zst (zsx.map unZone) s HP
    exact ⟨by simpa only [e0] using this, rfl, trivial⟩
  · cases h1
def t_sZoneAt : List AV → Option (Prop × AV)
  | [.sl zst 5 zsx, .str s] => some ((((zsx.map unZone).map Zone.row = zsx)) ∧ ((zsx.map unZone).length ≤ 4611686018427387904), .int .i64 (zAt (zsx.map unZone) s))
  | _ => none
theorem h_sZoneAt : ∀ args p v, t_sZoneAt args = some (p, v) → p → Contract P 36 args [] v [] ∧ noref v = true ∧ No99 v := by
  intro args p v h1 h2
  unfold t_sZoneAt at h1
  split at h1
  · rename_i zst zsx s
    cases h1
    obtain ⟨e0, HP⟩ := h2
    have := c_sZoneAt zst (zsx.map unZone) s HP
    exact ⟨by simpa only [e0] using this, rfl, trivial⟩
  · cases h1
def boxesIn (zs : List Zone) (b : Box6) : Prop := b.ok ∧ ∃ i, i < zs.length ∧ (zs.getD i default).over b.x b.y
def tubeOk (zs : List Zone) (tu : List Box6) : Prop := (1 ≤ tu.length ∧ tu.length ≤ 20) ∧ ∀ i, i < tu.length → boxesIn zs (tu.getD i default)
noncomputable instance (zs : List Zone) (tu : List Box6) : Decidable (tubeOk zs tu) := Classical.propDecidable _
theorem c_tubeOk (t t' : Nat) (zs : List Zone) (tu : List Box6) (hz : zs.length ≤ 4611686018427387904) (hl : tu.length ≤ 4611686018427387904) : Contract P 100 [.sl t 5 (zs.map Zone.row), .sl t' 6 (tu.map Box6.row)] [] (.bool (decide (tubeOk zs tu))) [] := by
  refine fn_sound ((((Env.nil P).addR 122 r_tubeC h_tubeC).add 120 t_within h_within).add 121 t_handBox h_handBox) hm k_impl_tubeOk (nlb rfl) rfl ?_; unfold s_impl_tubeOk; simp (maxSteps := 2000000) only [bitvec_to_nat, reduceIte, Nat.reduceEqDiff, Nat.reduceAdd, Nat.reduceLeDiff, reduceCtorEq, Nat.reduceBEq, Nat.reduceLT, Nat.reduceMod, fmc, retG_ret, retQ_eq, retQ_eqN, retOk, keepB, re_tupl, orr_t, t_within, t_handBox, r_tubeC, Zone.row, Zone_eta, Box6.row, box_eta6, tk_map, dp_map, toNat_pred, un_Zone]
  refine ⟨fun h1 => ?_, fun h1 => by grind [tubeOk]⟩
  · refine loop_st (fun i : Nat => [(13, .int .i64 i)]) (fun _ => []) (fun i => i ≤ tu.length ∧ ∀ j, j < i → boxesIn zs (tu.getD j default)) (fun i => tu.length - i) (0) (by simp only [u_E0, u_E1, u_M0, u_M1, w_setE0, w_setE1, w_setM0, w_setM1, reduceIte, Nat.reduceEqDiff]; exact ⟨by repeat' (first | exact trivial | refine ⟨.inr rfl, ?_⟩), by repeat' (first | exact trivial | refine ⟨rfl, ?_⟩), by first | rfl | simp [closedB, refsIn, refsInL, refsInO, dom, refsInL_nr, *], by first | rfl | simp [keepB, dom]⟩) ?_ ?_
    · exact ⟨Nat.zero_le _, by intro j hj; omega⟩
    intro i hi NX hN
    unfold l_impl_tubeOk_0; simp (maxSteps := 2000000) only [bitvec_to_nat, reduceIte, Nat.reduceEqDiff, Nat.reduceAdd, Nat.reduceLeDiff, reduceCtorEq, Nat.reduceBEq, Nat.reduceLT, Nat.reduceMod, fmc, retG_ret, retQ_eq, retQ_eqN, retOk, keepB, re_tupl, orr_t, t_within, t_handBox, r_tubeC, Zone.row, Zone_eta, Box6.row, box_eta6, tk_map, dp_map, toNat_pred, un_Zone]
    repeat' (first | with_reducible apply And.intro | with_reducible intro _)
    all_goals first
      | exact trivial
      | omega
      | (refine hN (i + 1) _ (by simp only [u_E0, u_E1, u_M0, u_M1, w_setE0, w_setE1, w_setM0, w_setM1, reduceIte, Nat.reduceEqDiff]; exact ⟨by repeat' (first | exact trivial | refine ⟨.inr rfl, ?_⟩), by repeat' (first | exact trivial | refine ⟨rfl, ?_⟩), by first | rfl | simp [closedB, refsIn, refsInL, refsInO, dom, refsInL_nr, *], by first | rfl | simp [keepB, dom]⟩) ?_ ?_
         · exact ⟨by omega, all_snoc hi.2 (by grind [tubeOk, boxesIn])⟩
         · omega)
      | grind [tubeOk, boxesIn]
end
end Go.Ve

namespace Go.Ve
noncomputable section
open Go.Proofs
set_option maxRecDepth 100000
theorem unZone_mk {a : ByteArray} {b c d e : Int} : unZone [.str a, .int .i64 b, .int .i64 c, .int .i64 d, .int .i64 e] = ⟨a, b, c, d, e⟩ := rfl
def bHX := And.intro @Word_eta (And.intro @Own_eta (And.intro @Part_eta (And.intro @Seen_eta (And.intro @Book_eta (And.intro @Sector_eta (And.intro @HCraft_eta (And.intro @World_eta (And.intro @un_Word (And.intro @un_Own (And.intro @un_Part (And.intro @un_Seen (And.intro @un_Book (And.intro @un_Sector (And.intro @un_HCraft @un_World))))))))))))))
def bXH := And.intro @Zone_eta (And.intro @box_eta6 (And.intro @tk_map (And.intro @dp_map (And.intro @toNat_pred (And.intro @unZone_mk (And.intro @List.take_length.{0} (And.intro @List.length_cons.{0} (And.intro @List.length_nil.{0} (And.intro @Nat.zero_add (And.intro @un_s (And.intro @un_i (And.intro @un_box (And.intro @un_Zone (And.intro @un_Own (And.intro @un_Part (And.intro @un_Seen @un_Word))))))))))))))))
theorem flt_in {α : Type} [Inhabited α] {p : α → Bool} {l : List α} {i : Nat} (hi : i < l.length) (h : p (l.getD i default) = true) : (l.take (i + 1)).filter p = (l.take i).filter p ++ [l.getD i default] := by
  have e : l.getD i default = l[i] := by simp [hi]
  rw [e] at h ⊢
  rw [List.take_succ_eq_append_getElem hi, List.filter_append]; simp [h]
theorem flt_out {α : Type} [Inhabited α] {p : α → Bool} {l : List α} {i : Nat} (hi : i < l.length) (h : p (l.getD i default) = false) : (l.take (i + 1)).filter p = (l.take i).filter p := by
  have e : l.getD i default = l[i] := by simp [hi]
  rw [e] at h
  rw [List.take_succ_eq_append_getElem hi, List.filter_append]; simp [h]
theorem zones1 {z : Zone} : zonesOk [z] ↔ z.ok := by
  unfold zonesOk zoneAt
  constructor
  · intro h; exact (h.2 0 (by simp)).1
  · intro h
    refine ⟨by simp, fun i hi => ?_⟩
    have : i = 0 := by simp at hi; omega
    subst this
    exact ⟨h, fun h => absurd h (by omega), fun k hk => absurd hk (by omega)⟩
def Zone.sees (z : Zone) (b : Box6) : Prop := b.ok ∧ (z.x0 - 1 ≤ b.x ∧ b.x ≤ z.x1 + 1) ∧ (z.y0 - 1 ≤ b.y ∧ b.y ≤ z.y1 + 1)
instance (z : Zone) (b : Box6) : Decidable (z.sees b) := Classical.propDecidable _
def partOf (z : Zone) (tu : List Box6) : List Box6 := if zonesOk [z] then tu.filter (fun b => decide (z.sees b)) else []
def t_tubeOk : List AV → Option (Prop × AV)
  | [.sl zst 5 zsx, .sl tut 6 tux] => some ((((zsx.map unZone).map Zone.row = zsx) ∧ ((tux.map unBox).map Box6.row = tux)) ∧ ((zsx.map unZone).length ≤ 4611686018427387904 ∧ (tux.map unBox).length ≤ 4611686018427387904), .bool (decide (tubeOk (zsx.map unZone) (tux.map unBox))))
  | _ => none
theorem h_tubeOk : ∀ args p v, t_tubeOk args = some (p, v) → p → Contract P 100 args [] v [] ∧ noref v = true ∧ No99 v := by
  intro args p v h1 h2
  unfold t_tubeOk at h1
  split at h1
  · rename_i zst zsx tut tux
    cases h1
    obtain ⟨⟨e0, e1⟩, HP⟩ := h2
    have := c_tubeOk zst tut (zsx.map unZone) (tux.map unBox) HP.1 HP.2
    exact ⟨by simpa only [e0, e1] using this, rfl, trivial⟩
  · cases h1
theorem c_sTubeOk (t t' : Nat) (zs : List Zone) (tu : List Box6) (hz : zs.length ≤ 4611686018427387904) (hl : tu.length ≤ 4611686018427387904) : Contract P 65 [.sl t 5 (zs.map Zone.row), .sl t' 6 (tu.map Box6.row)] [] (.bool (decide (zonesOk zs ∧ tubeOk zs tu))) [] := by
  refine fn_sound (((((Env.nil P).add 77 t_sZonesOk h_sZonesOk).add 80 t_l31In h_l31In).add 98 t_sOver h_sOver).add 99 t_l31BoxOk h_l31BoxOk) hm k_spec_HandTubeOk (nlb rfl) rfl ?_; unfold s_spec_HandTubeOk; simp (maxSteps := 2000000) only [bitvec_to_nat, reduceIte, Nat.reduceEqDiff, Nat.reduceAdd, Nat.reduceLeDiff, reduceCtorEq, Nat.reduceBEq, Nat.reduceLT, Nat.reduceMod, fmc, t_sZonesOk, t_l31In, t_sOver, t_l31BoxOk, bXH, Zone.row, Box6.row, appE, rowsOf, srow, irow, un_Zone]
  refine ⟨hz, fun h1 => ⟨fun h2 => ?_, fun h2 h => by grind [tubeOk]⟩, fun h1 h => h1 h.1⟩
  · refine loop_st (fun i : Nat => [(5, .int .i64 i)]) (fun _ => []) (fun i => i ≤ tu.length ∧ ∀ j, j < i → boxesIn zs (tu.getD j default)) (fun i => tu.length - i) (0) (by simp only [u_E0, u_E1, u_M0, u_M1, w_setE0, w_setE1, w_setM0, w_setM1, reduceIte, Nat.reduceEqDiff]; exact ⟨by repeat' (first | exact trivial | refine ⟨.inr rfl, ?_⟩), by repeat' (first | exact trivial | refine ⟨rfl, ?_⟩), by first | rfl | simp [closedB, refsIn, refsInL, refsInO, dom, refsInL_nr, *], by first | rfl | simp [keepB, dom]⟩) ?_ ?_
    · exact ⟨Nat.zero_le _, by intro j hj; omega⟩
    intro i hi NX hN
    unfold l_spec_HandTubeOk_1; simp (maxSteps := 2000000) only [bitvec_to_nat, reduceIte, Nat.reduceEqDiff, Nat.reduceAdd, Nat.reduceLeDiff, reduceCtorEq, Nat.reduceBEq, Nat.reduceLT, Nat.reduceMod, fmc, t_sZonesOk, t_l31In, t_sOver, t_l31BoxOk, bXH, Zone.row, Box6.row, appE, rowsOf, srow, irow, un_Zone]
    repeat' (first | with_reducible apply And.intro | with_reducible intro _)
    · refine loop_st (fun a : Nat × Bool => [(6, .bool a.2), (7, .int .i64 a.1)]) (fun _ => []) (fun a => a.1 ≤ zs.length ∧ (a.2 = true ↔ ∃ k, k < a.1 ∧ (zs.getD k default).over (tu.getD i default).x (tu.getD i default).y)) (fun a => zs.length - a.1) ((0, false)) (by simp only [u_E0, u_E1, u_M0, u_M1, w_setE0, w_setE1, w_setM0, w_setM1, reduceIte, Nat.reduceEqDiff]; exact ⟨by repeat' (first | exact trivial | refine ⟨.inr rfl, ?_⟩), by repeat' (first | exact trivial | refine ⟨rfl, ?_⟩), by first | rfl | simp [closedB, refsIn, refsInL, refsInO, dom, refsInL_nr, *], by first | rfl | simp [keepB, dom]⟩) ?_ ?_
      · exact ⟨Nat.zero_le _, by simp⟩
      rintro ⟨k, b⟩ hk NX2 hN2
      unfold l_spec_HandTubeOk_0; simp (maxSteps := 2000000) only [bitvec_to_nat, reduceIte, Nat.reduceEqDiff, Nat.reduceAdd, Nat.reduceLeDiff, reduceCtorEq, Nat.reduceBEq, Nat.reduceLT, Nat.reduceMod, fmc, t_sZonesOk, t_l31In, t_sOver, t_l31BoxOk, bXH, Zone.row, Box6.row, appE, rowsOf, srow, irow, un_Zone]
      simp only at hk
      have sn : ∀ b' : Bool, (b' = true ↔ b = true ∨ (zs.getD k default).over (tu.getD i default).x (tu.getD i default).y) → (b' = true ↔ ∃ j, j < k + 1 ∧ (zs.getD j default).over (tu.getD i default).x (tu.getD i default).y) := by
        intro b' hb'
        rw [hb', hk.2]
        constructor
        · rintro (⟨j, h1, h2⟩ | h)
          · exact ⟨j, by omega, h2⟩
          · exact ⟨k, by omega, h⟩
        · rintro ⟨j, h1, h2⟩
          by_cases e : j = k
          · subst e; exact .inr h2
          · exact .inl ⟨j, by omega, h2⟩
      have fin : k = zs.length → (b = true ↔ ∃ k, k < zs.length ∧ (zs.getD k default).over (tu.getD i default).x (tu.getD i default).y) := fun e => e ▸ hk.2
      refine ⟨fun h3 => ?_, fun h3 => ?_⟩
      · cases b <;> (simp (maxSteps := 2000000) only [bitvec_to_nat, reduceIte, Nat.reduceEqDiff, Nat.reduceAdd, Nat.reduceLeDiff, reduceCtorEq, Nat.reduceBEq, Nat.reduceLT, Nat.reduceMod, fmc, t_sZonesOk, t_l31In, t_sOver, t_l31BoxOk, bXH, Zone.row, Box6.row, appE, rowsOf, srow, irow, un_Zone])
        · refine ⟨by omega, by omega, by omega, by omega, by omega, ?_⟩
          refine hN2 ((k + 1, _)) _ (by simp only [u_E0, u_E1, u_M0, u_M1, w_setE0, w_setE1, w_setM0, w_setM1, reduceIte, Nat.reduceEqDiff]; exact ⟨by repeat' (first | exact trivial | refine ⟨.inr rfl, ?_⟩), by repeat' (first | exact trivial | refine ⟨rfl, ?_⟩), by first | rfl | simp [closedB, refsIn, refsInL, refsInO, dom, refsInL_nr, *], by first | rfl | simp [keepB, dom]⟩) ?_ ?_
          · exact ⟨by simp only; omega, sn _ (by simp)⟩
          · simp only; omega
        · refine ⟨by omega, ?_⟩
          refine hN2 ((k + 1, _)) _ (by simp only [u_E0, u_E1, u_M0, u_M1, w_setE0, w_setE1, w_setM0, w_setM1, reduceIte, Nat.reduceEqDiff]; exact ⟨by repeat' (first | exact trivial | refine ⟨.inr rfl, ?_⟩), by repeat' (first | exact trivial | refine ⟨rfl, ?_⟩), by first | rfl | simp [closedB, refsIn, refsInL, refsInO, dom, refsInL_nr, *], by first | rfl | simp [keepB, dom]⟩) ?_ ?_
          · exact ⟨by simp only; omega, sn _ (by simp)⟩
          · simp only; omega
      · have hf := fin (by omega)
        cases b <;> (simp (maxSteps := 2000000) only [bitvec_to_nat, reduceIte, Nat.reduceEqDiff, Nat.reduceAdd, Nat.reduceLeDiff, reduceCtorEq, Nat.reduceBEq, Nat.reduceLT, Nat.reduceMod, fmc, t_sZonesOk, t_l31In, t_sOver, t_l31BoxOk, bXH, Zone.row, Box6.row, appE, rowsOf, srow, irow, un_Zone])
        · intro h; have := (h.2.2 i (by omega)).2; grind
        · refine ⟨by omega, by omega, fun h4 => ⟨by omega, ?_⟩, fun h4 h => h4 (h.2.2 i (by omega)).1⟩
          refine hN (i + 1) _ (by simp only [u_E0, u_E1, u_M0, u_M1, w_setE0, w_setE1, w_setM0, w_setM1, reduceIte, Nat.reduceEqDiff]; exact ⟨by repeat' (first | exact trivial | refine ⟨.inr rfl, ?_⟩), by repeat' (first | exact trivial | refine ⟨rfl, ?_⟩), by first | rfl | simp [closedB, refsIn, refsInL, refsInO, dom, refsInL_nr, *], by first | rfl | simp [keepB, dom]⟩) ?_ ?_
          · exact ⟨by omega, all_snoc hi.2 ⟨h4, hf.1 rfl⟩⟩
          · omega
    · exact h1
    · exact ⟨by omega, fun j hj => hi.2 j (by omega)⟩
def t_sTubeOk : List AV → Option (Prop × AV)
  | [.sl zst 5 zsx, .sl tut 6 tux] => some ((((zsx.map unZone).map Zone.row = zsx) ∧ ((tux.map unBox).map Box6.row = tux)) ∧ ((zsx.map unZone).length ≤ 4611686018427387904 ∧ (tux.map unBox).length ≤ 4611686018427387904), .bool (decide (zonesOk (zsx.map unZone) ∧ tubeOk (zsx.map unZone) (tux.map unBox))))
  | _ => none
theorem h_sTubeOk : ∀ args p v, t_sTubeOk args = some (p, v) → p → Contract P 65 args [] v [] ∧ noref v = true ∧ No99 v := by
  intro args p v h1 h2
  unfold t_sTubeOk at h1
  split at h1
  · rename_i zst zsx tut tux
    cases h1
    obtain ⟨⟨e0, e1⟩, HP⟩ := h2
    have := c_sTubeOk zst tut (zsx.map unZone) (tux.map unBox) HP.1 HP.2
    exact ⟨by simpa only [e0, e1] using this, rfl, trivial⟩
  · cases h1
theorem c_l31ZoneOk (nm : ByteArray) (x0 y0 x1 y1 : Int) (hp : True) : Contract P 110 [.agg [.str nm, .int .i64 x0, .int .i64 y0, .int .i64 x1, .int .i64 y1]] [] (.bool (decide (zonesOk [⟨nm, x0, y0, x1, y1⟩]))) [] := by
  refine fn_sound ((Env.nil P).add 77 t_sZonesOk h_sZonesOk) hm k_spec_l31ZoneOk (nlb rfl) rfl ?_; unfold s_spec_l31ZoneOk; simp (maxSteps := 2000000) only [bitvec_to_nat, reduceIte, Nat.reduceEqDiff, Nat.reduceAdd, Nat.reduceLeDiff, reduceCtorEq, Nat.reduceBEq, Nat.reduceLT, Nat.reduceMod, fmc, t_sZonesOk, bXH, Zone.row, Box6.row, appE, rowsOf, srow, irow]
  all_goals rfl
def t_l31ZoneOk : List AV → Option (Prop × AV)
  | [.agg [.str z_nm, .int .i64 z_x0, .int .i64 z_y0, .int .i64 z_x1, .int .i64 z_y1]] => some ((True) ∧ (True), .bool (decide (zonesOk [(Zone.mk z_nm z_x0 z_y0 z_x1 z_y1)])))
  | _ => none
theorem h_l31ZoneOk : ∀ args p v, t_l31ZoneOk args = some (p, v) → p → Contract P 110 args [] v [] ∧ noref v = true ∧ No99 v := by
  intro args p v h1 h2
  unfold t_l31ZoneOk at h1
  split at h1
  · rename_i z_nm z_x0 z_y0 z_x1 z_y1
    cases h1
    obtain ⟨_, HP⟩ := h2
    have := c_l31ZoneOk z_nm z_x0 z_y0 z_x1 z_y1 HP
    exact ⟨by simpa only [Zone.row] using this, rfl, trivial⟩
  · cases h1
theorem c_l31Sees (nm : ByteArray) (x0 y0 x1 y1 x y l h i o : Int) (hp : zonesOk [⟨nm, x0, y0, x1, y1⟩]) : Contract P 111 [.agg [.str nm, .int .i64 x0, .int .i64 y0, .int .i64 x1, .int .i64 y1], .agg [.int .i64 x, .int .i64 y, .int .i64 l, .int .i64 h, .int .i64 i, .int .i64 o]] [] (.bool (decide (Zone.sees ⟨nm, x0, y0, x1, y1⟩ ⟨x, y, l, h, i, o⟩))) [] := by
  refine fn_sound (((Env.nil P).add 80 t_l31In h_l31In).add 99 t_l31BoxOk h_l31BoxOk) hm k_spec_l31Sees (nlb rfl) rfl ?_; unfold s_spec_l31Sees; simp (maxSteps := 2000000) only [bitvec_to_nat, reduceIte, Nat.reduceEqDiff, Nat.reduceAdd, Nat.reduceLeDiff, reduceCtorEq, Nat.reduceBEq, Nat.reduceLT, Nat.reduceMod, fmc, t_l31In, t_l31BoxOk, bXH, Zone.row, Box6.row, appE, rowsOf, srow, irow]
  rw [zones1] at hp; unfold Zone.ok at hp; simp only [Zone.sees]
  repeat' (first | with_reducible apply And.intro | with_reducible intro _)
  all_goals first | omega | grind
def t_l31Sees : List AV → Option (Prop × AV)
  | [.agg [.str z_nm, .int .i64 z_x0, .int .i64 z_y0, .int .i64 z_x1, .int .i64 z_y1], .agg [.int .i64 b_x, .int .i64 b_y, .int .i64 b_l, .int .i64 b_h, .int .i64 b_i, .int .i64 b_o]] => some ((True) ∧ (zonesOk [(Zone.mk z_nm z_x0 z_y0 z_x1 z_y1)]), .bool (decide ((Zone.mk z_nm z_x0 z_y0 z_x1 z_y1).sees (Box6.mk b_x b_y b_l b_h b_i b_o))))
  | _ => none
theorem h_l31Sees : ∀ args p v, t_l31Sees args = some (p, v) → p → Contract P 111 args [] v [] ∧ noref v = true ∧ No99 v := by
  intro args p v h1 h2
  unfold t_l31Sees at h1
  split at h1
  · rename_i z_nm z_x0 z_y0 z_x1 z_y1 b_x b_y b_l b_h b_i b_o
    cases h1
    obtain ⟨_, HP⟩ := h2
    have := c_l31Sees z_nm z_x0 z_y0 z_x1 z_y1 b_x b_y b_l b_h b_i b_o HP
    exact ⟨by simpa only [Zone.row, Box6.row] using this, rfl, trivial⟩
  · cases h1
def kp (z : Zone) (tu : List Box6) (i : Nat) : List Box6 := (tu.take i).filter (fun b => decide (z.sees b))
theorem kp_in {z : Zone} {tu : List Box6} {i : Nat} (hi : i < tu.length) (h : z.sees (tu.getD i default)) : kp z tu (i + 1) = kp z tu i ++ [tu.getD i default] := flt_in hi (by simpa using h)
theorem kp_out {z : Zone} {tu : List Box6} {i : Nat} (hi : i < tu.length) (h : ¬ z.sees (tu.getD i default)) : kp z tu (i + 1) = kp z tu i := flt_out hi (by simpa using h)
theorem kp_len (z : Zone) (tu : List Box6) (i : Nat) : (kp z tu i).length ≤ i := Nat.le_trans (List.length_filter_le _ _) (by simp; omega)
theorem kp_end {z : Zone} {tu : List Box6} (h : zonesOk [z]) : kp z tu tu.length = partOf z tu := by unfold kp partOf; rw [if_pos h, List.take_length]
theorem kp_no {z : Zone} {tu : List Box6} (h : ¬ zonesOk [z]) : partOf z tu = [] := if_neg h
theorem kp_zero (z : Zone) (tu : List Box6) : kp z tu 0 = [] := by simp [kp]
theorem c_sPartOf (z : Zone) (t : Nat) (tu : List Box6) (hl : tu.length ≤ 4294967295) : Contract P 82 [.agg z.row, .sl t 6 (tu.map Box6.row)] [] (.sl 0 6 ((partOf z tu).map Box6.row)) [] := by
  simp only [Zone.row]
  refine fn_sound (((Env.nil P).add 110 t_l31ZoneOk h_l31ZoneOk).add 111 t_l31Sees h_l31Sees) hm k_spec_HandPartOf (nlb rfl) rfl ?_; unfold s_spec_HandPartOf; simp (maxSteps := 2000000) only [bitvec_to_nat, reduceIte, Nat.reduceEqDiff, Nat.reduceAdd, Nat.reduceLeDiff, reduceCtorEq, Nat.reduceBEq, Nat.reduceLT, Nat.reduceMod, fmc, t_l31ZoneOk, t_l31Sees, bXH, Zone.row, Box6.row, appE, rowsOf, srow, irow]
  refine loop_st (fun i : Nat => [(5, .own 107 (kp z tu i).length 0 (kp z tu i).length), (6, .int .i64 i)]) (fun i => [(107, .arr 100 (kp z tu i).length 6 ((kp z tu i).map Box6.row))]) (fun i => i ≤ tu.length ∧ (0 < i → zonesOk [z])) (fun i => tu.length - i) (0) (by simp only [u_E0, u_E1, u_M0, u_M1, w_setE0, w_setE1, w_setM0, w_setM1, reduceIte, Nat.reduceEqDiff]; exact ⟨by repeat' (first | exact trivial | refine ⟨.inr rfl, ?_⟩), by repeat' (first | exact trivial | refine ⟨rfl, ?_⟩), by first | rfl | simp [closedB, refsIn, refsInL, refsInO, dom, refsInL_nr, *], by first | rfl | simp [keepB, dom]⟩) ?_ ?_
  · exact ⟨Nat.zero_le _, by omega⟩
  intro i hi NX hN
  unfold l_spec_HandPartOf_0; simp (maxSteps := 2000000) only [bitvec_to_nat, reduceIte, Nat.reduceEqDiff, Nat.reduceAdd, Nat.reduceLeDiff, reduceCtorEq, Nat.reduceBEq, Nat.reduceLT, Nat.reduceMod, fmc, t_l31ZoneOk, t_l31Sees, bXH, Zone.row, Box6.row, appE, rowsOf, srow, irow]
  have hk := kp_len z tu i
  refine ⟨fun h1 => ⟨fun h2 => ⟨by omega, by omega, h2, fun h3 => ⟨by omega, by omega, by omega, by omega, ?_⟩, fun h3 => ⟨by omega, ?_⟩⟩, fun h2 => ?_⟩, fun h1 => ?_⟩
  · have e := kp_in (z := z) (show i < tu.length by omega) h3
    refine hN (i + 1) _ (by simp only [e, List.length_append, List.length_cons, List.length_nil, Nat.zero_add, List.map_append, List.map_cons, List.map_nil, u_E0, u_E1, u_M0, u_M1, w_setE0, w_setE1, w_setM0, w_setM1, reduceIte, Nat.reduceEqDiff]; exact ⟨by repeat' (first | exact trivial | refine ⟨.inr rfl, ?_⟩), by repeat' (first | exact trivial | refine ⟨rfl, ?_⟩), by first | rfl | simp [closedB, refsIn, refsInL, refsInO, dom, refsInL_nr, *], by first | rfl | simp [keepB, dom]⟩) ?_ ?_
    · exact ⟨by omega, fun _ => h2⟩
    · omega
  · have e := kp_out (z := z) (show i < tu.length by omega) h3
    refine hN (i + 1) _ (by simp only [e, List.length_append, List.length_cons, List.length_nil, Nat.zero_add, List.map_append, List.map_cons, List.map_nil, u_E0, u_E1, u_M0, u_M1, w_setE0, w_setE1, w_setM0, w_setM1, reduceIte, Nat.reduceEqDiff]; exact ⟨by repeat' (first | exact trivial | refine ⟨.inr rfl, ?_⟩), by repeat' (first | exact trivial | refine ⟨rfl, ?_⟩), by first | rfl | simp [closedB, refsIn, refsInL, refsInO, dom, refsInL_nr, *], by first | rfl | simp [keepB, dom]⟩) ?_ ?_
    · exact ⟨by omega, fun _ => h2⟩
    · omega
  · have : i = 0 := Nat.eq_zero_of_not_pos fun h => h2 (hi.2 h)
    subst this
    rw [kp_zero, kp_no h2]
  · have e : i = tu.length := by omega
    subst e
    by_cases hz : zonesOk [z]
    · rw [kp_end hz]
    · have : tu.length = 0 := Nat.eq_zero_of_not_pos fun h => hz (hi.2 h)
      rw [this, kp_zero, kp_no hz]
theorem c_partOf (z : Zone) (t : Nat) (tu : List Box6) (hl : tu.length ≤ 4294967295) : Contract P 115 [.agg z.row, .sl t 6 (tu.map Box6.row)] [] (.sl 0 6 ((partOf z tu).map Box6.row)) [] := by
  simp only [Zone.row]
  refine fn_sound ((((Env.nil P).add 101 t_zonesOk h_zonesOk).add 121 t_handBox h_handBox).add 120 t_within h_within) hm k_impl_HandPartOf (nlb rfl) rfl ?_; unfold s_impl_HandPartOf; simp (maxSteps := 2000000) only [bitvec_to_nat, reduceIte, Nat.reduceEqDiff, Nat.reduceAdd, Nat.reduceLeDiff, reduceCtorEq, Nat.reduceBEq, Nat.reduceLT, Nat.reduceMod, fmc, t_zonesOk, t_handBox, t_within, bXH, Zone.row, Box6.row, appE, rowsOf, srow, irow]
  refine ⟨fun h1 => ?_, fun h1 => by rw [kp_no h1]; rfl⟩
  refine loop_st (fun i : Nat => [(5, .own 105 (kp z tu i).length 0 (kp z tu i).length), (14, .int .i64 i)]) (fun i => [(105, .arr 100 (kp z tu i).length 6 ((kp z tu i).map Box6.row))]) (fun i => i ≤ tu.length ∧ (0 < i → zonesOk [z])) (fun i => tu.length - i) (0) (by simp only [u_E0, u_E1, u_M0, u_M1, w_setE0, w_setE1, w_setM0, w_setM1, reduceIte, Nat.reduceEqDiff]; exact ⟨by repeat' (first | exact trivial | refine ⟨.inr rfl, ?_⟩), by repeat' (first | exact trivial | refine ⟨rfl, ?_⟩), by first | rfl | simp [closedB, refsIn, refsInL, refsInO, dom, refsInL_nr, *], by first | rfl | simp [keepB, dom]⟩) ?_ ?_
  · exact ⟨Nat.zero_le _, by omega⟩
  intro i hi NX hN
  unfold l_impl_HandPartOf_0; simp (maxSteps := 2000000) only [bitvec_to_nat, reduceIte, Nat.reduceEqDiff, Nat.reduceAdd, Nat.reduceLeDiff, reduceCtorEq, Nat.reduceBEq, Nat.reduceLT, Nat.reduceMod, fmc, t_zonesOk, t_handBox, t_within, bXH, Zone.row, Box6.row, appE, rowsOf, srow, irow]
  have hk := kp_len z tu i
  have hz := h1
  rw [zones1] at hz
  unfold Zone.ok at hz
  repeat' (first | with_reducible apply And.intro | with_reducible intro _)
  all_goals first
    | omega
    | (have e := kp_in (z := z) (show i < tu.length by omega) (by unfold Zone.sees; grind)
       refine hN (i + 1) _ (by simp only [e, List.length_append, List.length_cons, List.length_nil, Nat.zero_add, List.map_append, List.map_cons, List.map_nil, u_E0, u_E1, u_M0, u_M1, w_setE0, w_setE1, w_setM0, w_setM1, reduceIte, Nat.reduceEqDiff]; exact ⟨by repeat' (first | exact trivial | refine ⟨.inr rfl, ?_⟩), by repeat' (first | exact trivial | refine ⟨rfl, ?_⟩), by first | rfl | simp [closedB, refsIn, refsInL, refsInO, dom, refsInL_nr, *], by first | rfl | simp [keepB, dom]⟩) ?_ ?_
       · exact ⟨by omega, fun _ => h1⟩
       · omega)
    | (have e := kp_out (z := z) (show i < tu.length by omega) (by unfold Zone.sees; grind)
       refine hN (i + 1) _ (by simp only [e, List.length_append, List.length_cons, List.length_nil, Nat.zero_add, List.map_append, List.map_cons, List.map_nil, u_E0, u_E1, u_M0, u_M1, w_setE0, w_setE1, w_setM0, w_setM1, reduceIte, Nat.reduceEqDiff]; exact ⟨by repeat' (first | exact trivial | refine ⟨.inr rfl, ?_⟩), by repeat' (first | exact trivial | refine ⟨rfl, ?_⟩), by first | rfl | simp [closedB, refsIn, refsInL, refsInO, dom, refsInL_nr, *], by first | rfl | simp [keepB, dom]⟩) ?_ ?_
       · exact ⟨by omega, fun _ => h1⟩
       · omega)
    | (have e : i = tu.length := by omega
       subst e
       rw [kp_end h1])
def t_sPartOf : List AV → Option (Prop × AV)
  | [.agg [.str z_nm, .int .i64 z_x0, .int .i64 z_y0, .int .i64 z_x1, .int .i64 z_y1], .sl tut 6 tux] => some ((((tux.map unBox).map Box6.row = tux)) ∧ ((tux.map unBox).length ≤ 4294967295), .sl 0 6 ((partOf (Zone.mk z_nm z_x0 z_y0 z_x1 z_y1) (tux.map unBox)).map Box6.row))
  | _ => none
theorem h_sPartOf : ∀ args p v, t_sPartOf args = some (p, v) → p → Contract P 82 args [] v [] ∧ noref v = true ∧ No99 v := by
  intro args p v h1 h2
  unfold t_sPartOf at h1
  split at h1
  · rename_i z_nm z_x0 z_y0 z_x1 z_y1 tut tux
    cases h1
    obtain ⟨e0, HP⟩ := h2
    have := c_sPartOf (Zone.mk z_nm z_x0 z_y0 z_x1 z_y1) tut (tux.map unBox) HP
    exact ⟨by simpa only [e0, Zone.row] using this, rfl, by simp [No99, no99_box]⟩
  · cases h1
def t_partOf : List AV → Option (Prop × AV)
  | [.agg [.str z_nm, .int .i64 z_x0, .int .i64 z_y0, .int .i64 z_x1, .int .i64 z_y1], .sl tut 6 tux] => some ((((tux.map unBox).map Box6.row = tux)) ∧ ((tux.map unBox).length ≤ 4294967295), .sl 0 6 ((partOf (Zone.mk z_nm z_x0 z_y0 z_x1 z_y1) (tux.map unBox)).map Box6.row))
  | _ => none
theorem h_partOf : ∀ args p v, t_partOf args = some (p, v) → p → Contract P 115 args [] v [] ∧ noref v = true ∧ No99 v := by
  intro args p v h1 h2
  unfold t_partOf at h1
  split at h1
  · rename_i z_nm z_x0 z_y0 z_x1 z_y1 tut tux
    cases h1
    obtain ⟨e0, HP⟩ := h2
    have := c_partOf (Zone.mk z_nm z_x0 z_y0 z_x1 z_y1) tut (tux.map unBox) HP
    exact ⟨by simpa only [e0, Zone.row] using this, rfl, by simp [No99, no99_box]⟩
  · cases h1
def whoOf (zs : List Zone) (tu : List Box6) : List ByteArray := (zs.filter (fun z => decide (0 < (partOf z tu).length))).map (·.nm)
def wk (zs : List Zone) (tu : List Box6) (i : Nat) : List ByteArray := ((zs.take i).filter (fun z => decide (0 < (partOf z tu).length))).map (·.nm)
theorem wk_in {zs : List Zone} {tu : List Box6} {i : Nat} (hi : i < zs.length) (h : 0 < (partOf (zs.getD i default) tu).length) : wk zs tu (i + 1) = wk zs tu i ++ [(zs.getD i default).nm] := by
  unfold wk; rw [flt_in hi (by simpa using h)]; simp
theorem wk_out {zs : List Zone} {tu : List Box6} {i : Nat} (hi : i < zs.length) (h : ¬ 0 < (partOf (zs.getD i default) tu).length) : wk zs tu (i + 1) = wk zs tu i := by
  unfold wk; rw [flt_out hi (by simpa using h)]
theorem wk_len (zs : List Zone) (tu : List Box6) (i : Nat) : (wk zs tu i).length ≤ i := by
  unfold wk; rw [List.length_map]; exact Nat.le_trans (List.length_filter_le _ _) (by simp; omega)
theorem wk_end (zs : List Zone) (tu : List Box6) : wk zs tu zs.length = whoOf zs tu := by unfold wk whoOf; rw [List.take_length]
theorem part_len (z : Zone) (tu : List Box6) : (partOf z tu).length ≤ tu.length := by
  unfold partOf; split
  · exact List.length_filter_le _ _
  · simp
theorem c_who (t t' : Nat) (zs : List Zone) (tu : List Box6) (hz : zs.length ≤ 4294967295) (hl : tu.length ≤ 4294967295) : Contract P 127 [.sl t 5 (zs.map Zone.row), .sl t' 6 (tu.map Box6.row)] [] (.sl 0 1 ((whoOf zs tu).map srow)) [] := by
  refine fn_sound ((Env.nil P).add 115 t_partOf h_partOf) hm k_impl_HandWho (nlb rfl) rfl ?_; unfold s_impl_HandWho; simp (maxSteps := 2000000) only [bitvec_to_nat, reduceIte, Nat.reduceEqDiff, Nat.reduceAdd, Nat.reduceLeDiff, reduceCtorEq, Nat.reduceBEq, Nat.reduceLT, Nat.reduceMod, fmc, t_partOf, bXH, Zone.row, Box6.row, appE, rowsOf, srow, irow]
  refine loop_st (fun i : Nat => [(5, .own 105 (wk zs tu i).length 0 (wk zs tu i).length), (10, .int .i64 i)]) (fun i => [(105, .arr 9 (wk zs tu i).length 1 ((wk zs tu i).map srow))]) (fun i => i ≤ zs.length) (fun i => zs.length - i) (0) (by simp only [u_E0, u_E1, u_M0, u_M1, w_setE0, w_setE1, w_setM0, w_setM1, reduceIte, Nat.reduceEqDiff]; exact ⟨by repeat' (first | exact trivial | refine ⟨.inr rfl, ?_⟩), by repeat' (first | exact trivial | refine ⟨rfl, ?_⟩), by first | rfl | simp [closedB, refsIn, refsInL, refsInO, dom, refsInL_nr, *], by first | rfl | simp [keepB, dom]⟩) ?_ ?_
  · exact Nat.zero_le _
  intro i hi NX hN
  unfold l_impl_HandWho_0; simp (maxSteps := 2000000) only [bitvec_to_nat, reduceIte, Nat.reduceEqDiff, Nat.reduceAdd, Nat.reduceLeDiff, reduceCtorEq, Nat.reduceBEq, Nat.reduceLT, Nat.reduceMod, fmc, t_partOf, bXH, Zone.row, Box6.row, appE, rowsOf, srow, irow]
  have hk := wk_len zs tu i
  have hpl := part_len (zs.getD i default) tu
  repeat' (first | with_reducible apply And.intro | with_reducible intro _)
  all_goals first
    | omega
    | (have e := wk_in (zs := zs) (tu := tu) (show i < zs.length by omega) (by omega)
       refine hN (i + 1) _ (by simp only [e, List.length_append, List.length_cons, List.length_nil, Nat.zero_add, List.map_append, List.map_cons, List.map_nil, u_E0, u_E1, u_M0, u_M1, w_setE0, w_setE1, w_setM0, w_setM1, reduceIte, Nat.reduceEqDiff]; exact ⟨by repeat' (first | exact trivial | refine ⟨.inr rfl, ?_⟩), by repeat' (first | exact trivial | refine ⟨rfl, ?_⟩), by first | rfl | simp [closedB, refsIn, refsInL, refsInO, dom, refsInL_nr, *], by first | rfl | simp [keepB, dom]⟩) ?_ ?_
       · omega
       · omega)
    | (have e := wk_out (zs := zs) (tu := tu) (show i < zs.length by omega) (by omega)
       refine hN (i + 1) _ (by simp only [e, List.length_append, List.length_cons, List.length_nil, Nat.zero_add, List.map_append, List.map_cons, List.map_nil, u_E0, u_E1, u_M0, u_M1, w_setE0, w_setE1, w_setM0, w_setM1, reduceIte, Nat.reduceEqDiff]; exact ⟨by repeat' (first | exact trivial | refine ⟨.inr rfl, ?_⟩), by repeat' (first | exact trivial | refine ⟨rfl, ?_⟩), by first | rfl | simp [closedB, refsIn, refsInL, refsInO, dom, refsInL_nr, *], by first | rfl | simp [keepB, dom]⟩) ?_ ?_
       · omega
       · omega)
    | (have e : i = zs.length := by omega
       subst e
       rw [wk_end])
def t_who : List AV → Option (Prop × AV)
  | [.sl zst 5 zsx, .sl tut 6 tux] => some ((((zsx.map unZone).map Zone.row = zsx) ∧ ((tux.map unBox).map Box6.row = tux)) ∧ ((zsx.map unZone).length ≤ 4294967295 ∧ (tux.map unBox).length ≤ 4294967295), .sl 0 1 ((whoOf (zsx.map unZone) (tux.map unBox)).map srow))
  | _ => none
theorem h_who : ∀ args p v, t_who args = some (p, v) → p → Contract P 127 args [] v [] ∧ noref v = true ∧ No99 v := by
  intro args p v h1 h2
  unfold t_who at h1
  split at h1
  · rename_i zst zsx tut tux
    cases h1
    obtain ⟨⟨e0, e1⟩, HP⟩ := h2
    have := c_who zst tut (zsx.map unZone) (tux.map unBox) HP.1 HP.2
    exact ⟨by simpa only [e0, e1] using this, rfl, by simp [No99, no99_str]⟩
  · cases h1
theorem c_sWho (t t' : Nat) (zs : List Zone) (tu : List Box6) (hz : zs.length ≤ 4294967295) (hl : tu.length ≤ 4294967295) : Contract P 81 [.sl t 5 (zs.map Zone.row), .sl t' 6 (tu.map Box6.row)] [] (.sl 0 1 ((whoOf zs tu).map srow)) [] := by
  refine fn_sound ((Env.nil P).add 82 t_sPartOf h_sPartOf) hm k_spec_HandWho (nlb rfl) rfl ?_; unfold s_spec_HandWho; simp (maxSteps := 2000000) only [bitvec_to_nat, reduceIte, Nat.reduceEqDiff, Nat.reduceAdd, Nat.reduceLeDiff, reduceCtorEq, Nat.reduceBEq, Nat.reduceLT, Nat.reduceMod, fmc, t_sPartOf, bXH, Zone.row, Box6.row, appE, rowsOf, srow, irow]
  refine loop_st (fun i : Nat => [(5, .own 107 (wk zs tu i).length 0 (wk zs tu i).length), (6, .int .i64 i)]) (fun i => [(107, .arr 9 (wk zs tu i).length 1 ((wk zs tu i).map srow))]) (fun i => i ≤ zs.length) (fun i => zs.length - i) (0) (by simp only [u_E0, u_E1, u_M0, u_M1, w_setE0, w_setE1, w_setM0, w_setM1, reduceIte, Nat.reduceEqDiff]; exact ⟨by repeat' (first | exact trivial | refine ⟨.inr rfl, ?_⟩), by repeat' (first | exact trivial | refine ⟨rfl, ?_⟩), by first | rfl | simp [closedB, refsIn, refsInL, refsInO, dom, refsInL_nr, *], by first | rfl | simp [keepB, dom]⟩) ?_ ?_
  · exact Nat.zero_le _
  intro i hi NX hN
  unfold l_spec_HandWho_0; simp (maxSteps := 2000000) only [bitvec_to_nat, reduceIte, Nat.reduceEqDiff, Nat.reduceAdd, Nat.reduceLeDiff, reduceCtorEq, Nat.reduceBEq, Nat.reduceLT, Nat.reduceMod, fmc, t_sPartOf, bXH, Zone.row, Box6.row, appE, rowsOf, srow, irow]
  have hk := wk_len zs tu i
  have hpl := part_len (zs.getD i default) tu
  repeat' (first | with_reducible apply And.intro | with_reducible intro _)
  all_goals first
    | omega
    | (have e := wk_in (zs := zs) (tu := tu) (show i < zs.length by omega) (by omega)
       refine hN (i + 1) _ (by simp only [e, List.length_append, List.length_cons, List.length_nil, Nat.zero_add, List.map_append, List.map_cons, List.map_nil, u_E0, u_E1, u_M0, u_M1, w_setE0, w_setE1, w_setM0, w_setM1, reduceIte, Nat.reduceEqDiff]; exact ⟨by repeat' (first | exact trivial | refine ⟨.inr rfl, ?_⟩), by repeat' (first | exact trivial | refine ⟨rfl, ?_⟩), by first | rfl | simp [closedB, refsIn, refsInL, refsInO, dom, refsInL_nr, *], by first | rfl | simp [keepB, dom]⟩) ?_ ?_
       · omega
       · omega)
    | (have e := wk_out (zs := zs) (tu := tu) (show i < zs.length by omega) (by omega)
       refine hN (i + 1) _ (by simp only [e, List.length_append, List.length_cons, List.length_nil, Nat.zero_add, List.map_append, List.map_cons, List.map_nil, u_E0, u_E1, u_M0, u_M1, w_setE0, w_setE1, w_setM0, w_setM1, reduceIte, Nat.reduceEqDiff]; exact ⟨by repeat' (first | exact trivial | refine ⟨.inr rfl, ?_⟩), by repeat' (first | exact trivial | refine ⟨rfl, ?_⟩), by first | rfl | simp [closedB, refsIn, refsInL, refsInO, dom, refsInL_nr, *], by first | rfl | simp [keepB, dom]⟩) ?_ ?_
       · omega
       · omega)
    | (have e : i = zs.length := by omega
       subst e
       rw [wk_end])
def t_sWho : List AV → Option (Prop × AV)
  | [.sl zst 5 zsx, .sl tut 6 tux] => some ((((zsx.map unZone).map Zone.row = zsx) ∧ ((tux.map unBox).map Box6.row = tux)) ∧ ((zsx.map unZone).length ≤ 4294967295 ∧ (tux.map unBox).length ≤ 4294967295), .sl 0 1 ((whoOf (zsx.map unZone) (tux.map unBox)).map srow))
  | _ => none
theorem h_sWho : ∀ args p v, t_sWho args = some (p, v) → p → Contract P 81 args [] v [] ∧ noref v = true ∧ No99 v := by
  intro args p v h1 h2
  unfold t_sWho at h1
  split at h1
  · rename_i zst zsx tut tux
    cases h1
    obtain ⟨⟨e0, e1⟩, HP⟩ := h2
    have := c_sWho zst tut (zsx.map unZone) (tux.map unBox) HP.1 HP.2
    exact ⟨by simpa only [e0, e1] using this, rfl, by simp [No99, no99_str]⟩
  · cases h1
end
end Go.Ve

namespace Go.Ve
noncomputable section
open Go.Proofs
set_option maxRecDepth 100000
def Box6.near (a b : Box6) : Prop := a.ok ∧ b.ok ∧ (a.i ≤ b.o ∧ b.i ≤ a.o) ∧ (a.l ≤ b.h ∧ b.l ≤ a.h) ∧ (-1 ≤ a.x - b.x ∧ a.x - b.x ≤ 1) ∧ (-1 ≤ a.y - b.y ∧ a.y - b.y ≤ 1)
instance (a b : Box6) : Decidable (a.near b) := Classical.propDecidable _
def nearT (a b : List Box6) : Prop := ∃ i, i < a.length ∧ ∃ k, k < b.length ∧ (a.getD i default).near (b.getD k default)
instance (a b : List Box6) : Decidable (nearT a b) := Classical.propDecidable _
theorem c_l31Close (x y l h i o x' y' l' h' i' o' : Int) (hp : True) : Contract P 136 [.agg [.int .i64 x, .int .i64 y, .int .i64 l, .int .i64 h, .int .i64 i, .int .i64 o], .agg [.int .i64 x', .int .i64 y', .int .i64 l', .int .i64 h', .int .i64 i', .int .i64 o']] [] (.bool (decide (Box6.near ⟨x, y, l, h, i, o⟩ ⟨x', y', l', h', i', o'⟩))) [] := by
  refine fn_sound (((Env.nil P).add 80 t_l31In h_l31In).add 99 t_l31BoxOk h_l31BoxOk) hm k_spec_l31Close (nlb rfl) rfl ?_; unfold s_spec_l31Close; simp (maxSteps := 2000000) only [bitvec_to_nat, reduceIte, Nat.reduceEqDiff, Nat.reduceAdd, Nat.reduceLeDiff, reduceCtorEq, Nat.reduceBEq, Nat.reduceLT, Nat.reduceMod, fmc, t_l31In, t_l31BoxOk, bXH, Zone.row, Box6.row, appE, rowsOf, srow, irow]
  simp only [Box6.near, Box6.ok]
  repeat' (first | with_reducible apply And.intro | with_reducible intro _)
  all_goals first | omega | grind
def t_l31Close : List AV → Option (Prop × AV)
  | [.agg [.int .i64 p_x, .int .i64 p_y, .int .i64 p_l, .int .i64 p_h, .int .i64 p_i, .int .i64 p_o], .agg [.int .i64 q_x, .int .i64 q_y, .int .i64 q_l, .int .i64 q_h, .int .i64 q_i, .int .i64 q_o]] => some ((True) ∧ (True), .bool (decide ((Box6.mk p_x p_y p_l p_h p_i p_o).near (Box6.mk q_x q_y q_l q_h q_i q_o))))
  | _ => none
theorem h_l31Close : ∀ args p v, t_l31Close args = some (p, v) → p → Contract P 136 args [] v [] ∧ noref v = true ∧ No99 v := by
  intro args p v h1 h2
  unfold t_l31Close at h1
  split at h1
  · rename_i p_x p_y p_l p_h p_i p_o q_x q_y q_l q_h q_i q_o
    cases h1
    obtain ⟨_, HP⟩ := h2
    have := c_l31Close p_x p_y p_l p_h p_i p_o q_x q_y q_l q_h q_i q_o HP
    exact ⟨by simpa only [Box6.row, Box6.row] using this, rfl, trivial⟩
  · cases h1
theorem c_sNear (t t' : Nat) (a b : List Box6) (ha : a.length ≤ 4611686018427387904) (hb : b.length ≤ 4611686018427387904) : Contract P 109 [.sl t 6 (a.map Box6.row), .sl t' 6 (b.map Box6.row)] [] (.bool (decide (nearT a b))) [] := by
  refine fn_sound ((Env.nil P).add 136 t_l31Close h_l31Close) hm k_spec_HandNear (nlb rfl) rfl ?_; unfold s_spec_HandNear; simp (maxSteps := 2000000) only [bitvec_to_nat, reduceIte, Nat.reduceEqDiff, Nat.reduceAdd, Nat.reduceLeDiff, reduceCtorEq, Nat.reduceBEq, Nat.reduceLT, Nat.reduceMod, fmc, t_l31Close, bXH, Zone.row, Box6.row, appE, rowsOf, srow, irow]
  refine loop_st (fun i : Nat => [(5, .int .i64 i)]) (fun _ => []) (fun i => i ≤ a.length ∧ ∀ j, j < i → ¬ ∃ k, k < b.length ∧ (a.getD j default).near (b.getD k default)) (fun i => a.length - i) (0) (by simp only [u_E0, u_E1, u_M0, u_M1, w_setE0, w_setE1, w_setM0, w_setM1, reduceIte, Nat.reduceEqDiff]; exact ⟨by repeat' (first | exact trivial | refine ⟨.inr rfl, ?_⟩), by repeat' (first | exact trivial | refine ⟨rfl, ?_⟩), by first | rfl | simp [closedB, refsIn, refsInL, refsInO, dom, refsInL_nr, *], by first | rfl | simp [keepB, dom]⟩) ?_ ?_
  · exact ⟨Nat.zero_le _, by intro j hj; omega⟩
  intro i hi NX hN
  unfold l_spec_HandNear_1; simp (maxSteps := 2000000) only [bitvec_to_nat, reduceIte, Nat.reduceEqDiff, Nat.reduceAdd, Nat.reduceLeDiff, reduceCtorEq, Nat.reduceBEq, Nat.reduceLT, Nat.reduceMod, fmc, t_l31Close, bXH, Zone.row, Box6.row, appE, rowsOf, srow, irow]
  
  repeat' (first | with_reducible apply And.intro | with_reducible intro _)
  all_goals first
    | omega
    | (refine loop_st (fun k : Nat => [(6, .int .i64 k)]) (fun _ => []) (fun k => k ≤ b.length ∧ ∀ j, j < k → ¬ (a.getD i default).near (b.getD j default)) (fun k => b.length - k) (0) (by simp only [u_E0, u_E1, u_M0, u_M1, w_setE0, w_setE1, w_setM0, w_setM1, reduceIte, Nat.reduceEqDiff]; exact ⟨by repeat' (first | exact trivial | refine ⟨.inr rfl, ?_⟩), by repeat' (first | exact trivial | refine ⟨rfl, ?_⟩), by first | rfl | simp [closedB, refsIn, refsInL, refsInO, dom, refsInL_nr, *], by first | rfl | simp [keepB, dom]⟩) ?_ ?_
       · exact ⟨Nat.zero_le _, by intro j hj; omega⟩
       intro k hk NX2 hN2
       unfold l_spec_HandNear_0; simp (maxSteps := 2000000) only [bitvec_to_nat, reduceIte, Nat.reduceEqDiff, Nat.reduceAdd, Nat.reduceLeDiff, reduceCtorEq, Nat.reduceBEq, Nat.reduceLT, Nat.reduceMod, fmc, t_l31Close, bXH, Zone.row, Box6.row, appE, rowsOf, srow, irow]
       repeat' (first | with_reducible apply And.intro | with_reducible intro _)
       all_goals first
         | omega
         | (refine hN2 (k + 1) _ (by simp only [u_E0, u_E1, u_M0, u_M1, w_setE0, w_setE1, w_setM0, w_setM1, reduceIte, Nat.reduceEqDiff]; exact ⟨by repeat' (first | exact trivial | refine ⟨.inr rfl, ?_⟩), by repeat' (first | exact trivial | refine ⟨rfl, ?_⟩), by first | rfl | simp [closedB, refsIn, refsInL, refsInO, dom, refsInL_nr, *], by first | rfl | simp [keepB, dom]⟩) ?_ ?_
            · exact ⟨by omega, all_snoc hk.2 (by assumption)⟩
            · omega)
         | (refine hN (i + 1) _ (by simp only [u_E0, u_E1, u_M0, u_M1, w_setE0, w_setE1, w_setM0, w_setM1, reduceIte, Nat.reduceEqDiff]; exact ⟨by repeat' (first | exact trivial | refine ⟨.inr rfl, ?_⟩), by repeat' (first | exact trivial | refine ⟨rfl, ?_⟩), by first | rfl | simp [closedB, refsIn, refsInL, refsInO, dom, refsInL_nr, *], by first | rfl | simp [keepB, dom]⟩) ?_ ?_
            · refine ⟨by omega, all_snoc hi.2 ?_⟩
              rintro ⟨k', h1, h2⟩
              exact hk.2 k' (by omega) h2
            · omega)
         | (exact ⟨i, by omega, k, by omega, by assumption⟩))
    | (rintro ⟨j, h1, h2⟩
       exact hi.2 j (by omega) h2)
set_option maxHeartbeats 1000000 in
theorem c_near (t t' : Nat) (a b : List Box6) (ha : a.length ≤ 4611686018427387904) (hb : b.length ≤ 4611686018427387904) : Contract P 130 [.sl t 6 (a.map Box6.row), .sl t' 6 (b.map Box6.row)] [] (.bool (decide (nearT a b))) [] := by
  refine fn_sound (((Env.nil P).add 121 t_handBox h_handBox).add 138 t_dist h_dist) hm k_impl_HandNear (nlb rfl) rfl ?_; unfold s_impl_HandNear; simp (maxSteps := 2000000) only [bitvec_to_nat, reduceIte, Nat.reduceEqDiff, Nat.reduceAdd, Nat.reduceLeDiff, reduceCtorEq, Nat.reduceBEq, Nat.reduceLT, Nat.reduceMod, fmc, t_handBox, t_dist, bXH, Zone.row, Box6.row, appE, rowsOf, srow, irow]
  refine loop_st (fun i : Nat => [(11, .int .i64 i)]) (fun _ => []) (fun i => i ≤ a.length ∧ ∀ j, j < i → ¬ ∃ k, k < b.length ∧ (a.getD j default).near (b.getD k default)) (fun i => a.length - i) (0) (by simp only [u_E0, u_E1, u_M0, u_M1, w_setE0, w_setE1, w_setM0, w_setM1, reduceIte, Nat.reduceEqDiff]; exact ⟨by repeat' (first | exact trivial | refine ⟨.inr rfl, ?_⟩), by repeat' (first | exact trivial | refine ⟨rfl, ?_⟩), by first | rfl | simp [closedB, refsIn, refsInL, refsInO, dom, refsInL_nr, *], by first | rfl | simp [keepB, dom]⟩) ?_ ?_
  · exact ⟨Nat.zero_le _, by intro j hj; omega⟩
  intro i hi NX hN
  unfold l_impl_HandNear_1; simp (maxSteps := 2000000) only [bitvec_to_nat, reduceIte, Nat.reduceEqDiff, Nat.reduceAdd, Nat.reduceLeDiff, reduceCtorEq, Nat.reduceBEq, Nat.reduceLT, Nat.reduceMod, fmc, t_handBox, t_dist, bXH, Zone.row, Box6.row, appE, rowsOf, srow, irow]
  
  repeat' (first | with_reducible apply And.intro | with_reducible intro _)
  all_goals first
    | omega
    | (have hx : (a.getD i default).ok := by assumption
       refine loop_st (fun k : Nat => [(20, .int .i64 k)]) (fun _ => []) (fun k => k ≤ b.length ∧ ∀ j, j < k → ¬ (a.getD i default).near (b.getD j default)) (fun k => b.length - k) (0) (by simp only [u_E0, u_E1, u_M0, u_M1, w_setE0, w_setE1, w_setM0, w_setM1, reduceIte, Nat.reduceEqDiff]; exact ⟨by repeat' (first | exact trivial | refine ⟨.inr rfl, ?_⟩), by repeat' (first | exact trivial | refine ⟨rfl, ?_⟩), by first | rfl | simp [closedB, refsIn, refsInL, refsInO, dom, refsInL_nr, *], by first | rfl | simp [keepB, dom]⟩) ?_ ?_
       · exact ⟨Nat.zero_le _, by intro j hj; omega⟩
       intro k hk NX2 hN2
       unfold l_impl_HandNear_0; simp (maxSteps := 2000000) only [bitvec_to_nat, reduceIte, Nat.reduceEqDiff, Nat.reduceAdd, Nat.reduceLeDiff, reduceCtorEq, Nat.reduceBEq, Nat.reduceLT, Nat.reduceMod, fmc, t_handBox, t_dist, bXH, Zone.row, Box6.row, appE, rowsOf, srow, irow]
       repeat' (first | with_reducible apply And.intro | with_reducible intro _)
       all_goals first
         | omega
         | (have hy : (b.getD k default).ok := by assumption
            unfold Box6.ok at hx hy; omega)
         | (refine hN2 (k + 1) _ (by simp only [u_E0, u_E1, u_M0, u_M1, w_setE0, w_setE1, w_setM0, w_setM1, reduceIte, Nat.reduceEqDiff]; exact ⟨by repeat' (first | exact trivial | refine ⟨.inr rfl, ?_⟩), by repeat' (first | exact trivial | refine ⟨rfl, ?_⟩), by first | rfl | simp [closedB, refsIn, refsInL, refsInO, dom, refsInL_nr, *], by first | rfl | simp [keepB, dom]⟩) ?_ ?_
            · exact ⟨by omega, all_snoc hk.2 (by unfold Box6.near; grind)⟩
            · omega)
         | (refine hN (i + 1) _ (by simp only [u_E0, u_E1, u_M0, u_M1, w_setE0, w_setE1, w_setM0, w_setM1, reduceIte, Nat.reduceEqDiff]; exact ⟨by repeat' (first | exact trivial | refine ⟨.inr rfl, ?_⟩), by repeat' (first | exact trivial | refine ⟨rfl, ?_⟩), by first | rfl | simp [closedB, refsIn, refsInL, refsInO, dom, refsInL_nr, *], by first | rfl | simp [keepB, dom]⟩) ?_ ?_
            · refine ⟨by omega, all_snoc hi.2 ?_⟩
              rintro ⟨k', h1, h2⟩
              exact hk.2 k' (by omega) h2
            · omega)
         | (exact ⟨i, by omega, k, by omega, by unfold Box6.near; grind⟩))
    | (refine hN (i + 1) _ (by simp only [u_E0, u_E1, u_M0, u_M1, w_setE0, w_setE1, w_setM0, w_setM1, reduceIte, Nat.reduceEqDiff]; exact ⟨by repeat' (first | exact trivial | refine ⟨.inr rfl, ?_⟩), by repeat' (first | exact trivial | refine ⟨rfl, ?_⟩), by first | rfl | simp [closedB, refsIn, refsInL, refsInO, dom, refsInL_nr, *], by first | rfl | simp [keepB, dom]⟩) ?_ ?_
       · refine ⟨by omega, all_snoc hi.2 ?_⟩
         rintro ⟨k', h1, h2⟩
         exact absurd h2.1 (by assumption)
       · omega)
    | (rintro ⟨j, h1, h2⟩
       exact hi.2 j (by omega) h2)
def t_sNear : List AV → Option (Prop × AV)
  | [.sl pt 6 px, .sl qt 6 qx] => some ((((px.map unBox).map Box6.row = px) ∧ ((qx.map unBox).map Box6.row = qx)) ∧ ((px.map unBox).length ≤ 4611686018427387904 ∧ (qx.map unBox).length ≤ 4611686018427387904), .bool (decide (nearT (px.map unBox) (qx.map unBox))))
  | _ => none
theorem h_sNear : ∀ args p v, t_sNear args = some (p, v) → p → Contract P 109 args [] v [] ∧ noref v = true ∧ No99 v := by
  intro args p v h1 h2
  unfold t_sNear at h1
  split at h1
  · rename_i pt px qt qx
    cases h1
    obtain ⟨⟨e0, e1⟩, HP⟩ := h2
    have := c_sNear pt qt (px.map unBox) (qx.map unBox) HP.1 HP.2
    exact ⟨by simpa only [e0, e1] using this, rfl, trivial⟩
  · cases h1
def t_near : List AV → Option (Prop × AV)
  | [.sl pt 6 px, .sl qt 6 qx] => some ((((px.map unBox).map Box6.row = px) ∧ ((qx.map unBox).map Box6.row = qx)) ∧ ((px.map unBox).length ≤ 4611686018427387904 ∧ (qx.map unBox).length ≤ 4611686018427387904), .bool (decide (nearT (px.map unBox) (qx.map unBox))))
  | _ => none
theorem h_near : ∀ args p v, t_near args = some (p, v) → p → Contract P 130 args [] v [] ∧ noref v = true ∧ No99 v := by
  intro args p v h1 h2
  unfold t_near at h1
  split at h1
  · rename_i pt px qt qx
    cases h1
    obtain ⟨⟨e0, e1⟩, HP⟩ := h2
    have := c_near pt qt (px.map unBox) (qx.map unBox) HP.1 HP.2
    exact ⟨by simpa only [e0, e1] using this, rfl, trivial⟩
  · cases h1
theorem c_IndexS (t : Nat) (l : List ByteArray) (v : ByteArray) (hl : l.length ≤ 4611686018427387904) : Contract P 137 [.sl t 1 (l.map srow), .str v] [] (.int .i64 (fIdx (fun s => decide (v = s)) l)) [] := by
  refine fn_sound (Env.nil P) hm k_slices_Index_string (nlb rfl) rfl ?_; unfold s_slices_Index_string; simp (maxSteps := 2000000) only [bitvec_to_nat, reduceIte, Nat.reduceEqDiff, Nat.reduceAdd, Nat.reduceLeDiff, reduceCtorEq, Nat.reduceBEq, Nat.reduceLT, Nat.reduceMod, fmc, bXH, Zone.row, Box6.row, appE, rowsOf, srow, irow]
  refine loop_st (fun i : Nat => [(8, .int .i64 i)]) (fun _ => []) (fun i => i ≤ l.length ∧ ∀ j, j < i → decide (v = l.getD j default) = false) (fun i => l.length - i) (0) (by simp only [u_E0, u_E1, u_M0, u_M1, w_setE0, w_setE1, w_setM0, w_setM1, reduceIte, Nat.reduceEqDiff]; exact ⟨by repeat' (first | exact trivial | refine ⟨.inr rfl, ?_⟩), by repeat' (first | exact trivial | refine ⟨rfl, ?_⟩), by first | rfl | simp [closedB, refsIn, refsInL, refsInO, dom, refsInL_nr, *], by first | rfl | simp [keepB, dom]⟩) ?_ ?_
  · exact ⟨Nat.zero_le _, by intro j hj; omega⟩
  intro i hi NX hN
  unfold l_slices_Index_string_0; simp (maxSteps := 2000000) only [bitvec_to_nat, reduceIte, Nat.reduceEqDiff, Nat.reduceAdd, Nat.reduceLeDiff, reduceCtorEq, Nat.reduceBEq, Nat.reduceLT, Nat.reduceMod, fmc, bXH, Zone.row, Box6.row, appE, rowsOf, srow, irow]
  
  repeat' (first | with_reducible apply And.intro | with_reducible intro _)
  all_goals first
    | omega
    | (refine hN (i + 1) _ (by simp only [u_E0, u_E1, u_M0, u_M1, w_setE0, w_setE1, w_setM0, w_setM1, reduceIte, Nat.reduceEqDiff]; exact ⟨by repeat' (first | exact trivial | refine ⟨.inr rfl, ?_⟩), by repeat' (first | exact trivial | refine ⟨rfl, ?_⟩), by first | rfl | simp [closedB, refsIn, refsInL, refsInO, dom, refsInL_nr, *], by first | rfl | simp [keepB, dom]⟩) ?_ ?_
       · exact ⟨by omega, all_snoc hi.2 (by simpa using ‹¬ _›)⟩
       · omega)
    | (rw [fIdx_at (i := i) (by omega) (by simpa using ‹_›) hi.2])
    | (rw [fIdx_none fun j hj => hi.2 j (by omega)])
def t_IndexS : List AV → Option (Prop × AV)
  | [.sl lt 1 lx, .str v] => some ((((lx.map unS).map srow = lx)) ∧ ((lx.map unS).length ≤ 4611686018427387904), .int .i64 (fIdx (fun s => decide (v = s)) (lx.map unS)))
  | _ => none
theorem h_IndexS : ∀ args p v, t_IndexS args = some (p, v) → p → Contract P 137 args [] v [] ∧ noref v = true ∧ No99 v := by
  intro args p v h1 h2
  unfold t_IndexS at h1
  split at h1
  · rename_i lt lx v
    cases h1
    obtain ⟨e0, HP⟩ := h2
    have := c_IndexS lt (lx.map unS) v HP
    exact ⟨by simpa only [e0] using this, rfl, trivial⟩
  · cases h1
instance (v : ByteArray) (l : List ByteArray) : Decidable (v ∈ l) := Classical.propDecidable _
theorem fIdx_mem {l : List ByteArray} {v : ByteArray} : 0 ≤ fIdx (fun s => decide (v = s)) l ↔ v ∈ l := by
  rw [fIdx_ge]
  constructor
  · rintro ⟨i, hi, h⟩
    simp only [decide_eq_true_eq] at h
    rw [h, List.getD_eq_getElem?_getD, List.getElem?_eq_getElem hi]; simp
  · intro h
    obtain ⟨i, hi, rfl⟩ := List.mem_iff_getElem.1 h
    exact ⟨i, hi, by simp [hi]⟩
theorem c_ContainsS (t : Nat) (l : List ByteArray) (v : ByteArray) (hl : l.length ≤ 4611686018427387904) : Contract P 116 [.sl t 1 (l.map srow), .str v] [] (.bool (decide (v ∈ l))) [] := by
  refine fn_sound ((Env.nil P).add 137 t_IndexS h_IndexS) hm k_slices_Contains_string (nlb rfl) rfl ?_; unfold s_slices_Contains_string; simp (maxSteps := 2000000) only [bitvec_to_nat, reduceIte, Nat.reduceEqDiff, Nat.reduceAdd, Nat.reduceLeDiff, reduceCtorEq, Nat.reduceBEq, Nat.reduceLT, Nat.reduceMod, fmc, t_IndexS, bXH, Zone.row, Box6.row, appE, rowsOf, srow, irow]
  simp [fIdx_mem, hl]
def t_ContainsS : List AV → Option (Prop × AV)
  | [.sl lt 1 lx, .str v] => some ((((lx.map unS).map srow = lx)) ∧ ((lx.map unS).length ≤ 4611686018427387904), .bool (decide (v ∈ (lx.map unS))))
  | _ => none
theorem h_ContainsS : ∀ args p v, t_ContainsS args = some (p, v) → p → Contract P 116 args [] v [] ∧ noref v = true ∧ No99 v := by
  intro args p v h1 h2
  unfold t_ContainsS at h1
  split at h1
  · rename_i lt lx v
    cases h1
    obtain ⟨e0, HP⟩ := h2
    have := c_ContainsS lt (lx.map unS) v HP
    exact ⟨by simpa only [e0] using this, rfl, trivial⟩
  · cases h1
def allIn (gr who : List ByteArray) : Prop := ∀ i, i < who.length → who.getD i default ∈ gr
instance (gr who : List ByteArray) : Decidable (allIn gr who) := Classical.propDecidable _
theorem c_all (t t' : Nat) (gr who : List ByteArray) (hl : gr.length ≤ 4611686018427387904) (hw : who.length ≤ 4611686018427387904) : Contract P 128 [.sl t 1 (gr.map srow), .sl t' 1 (who.map srow)] [] (.bool (decide (allIn gr who))) [] := by
  refine fn_sound ((Env.nil P).add 116 t_ContainsS h_ContainsS) hm k_impl_all (nlb rfl) rfl ?_; unfold s_impl_all; simp (maxSteps := 2000000) only [bitvec_to_nat, reduceIte, Nat.reduceEqDiff, Nat.reduceAdd, Nat.reduceLeDiff, reduceCtorEq, Nat.reduceBEq, Nat.reduceLT, Nat.reduceMod, fmc, t_ContainsS, bXH, Zone.row, Box6.row, appE, rowsOf, srow, irow]
  refine loop_st (fun i : Nat => [(9, .int .i64 i)]) (fun _ => []) (fun i => i ≤ who.length ∧ ∀ j, j < i → who.getD j default ∈ gr) (fun i => who.length - i) (0) (by simp only [u_E0, u_E1, u_M0, u_M1, w_setE0, w_setE1, w_setM0, w_setM1, reduceIte, Nat.reduceEqDiff]; exact ⟨by repeat' (first | exact trivial | refine ⟨.inr rfl, ?_⟩), by repeat' (first | exact trivial | refine ⟨rfl, ?_⟩), by first | rfl | simp [closedB, refsIn, refsInL, refsInO, dom, refsInL_nr, *], by first | rfl | simp [keepB, dom]⟩) ?_ ?_
  · exact ⟨Nat.zero_le _, by intro j hj; omega⟩
  intro i hi NX hN
  unfold l_impl_all_0; simp (maxSteps := 2000000) only [bitvec_to_nat, reduceIte, Nat.reduceEqDiff, Nat.reduceAdd, Nat.reduceLeDiff, reduceCtorEq, Nat.reduceBEq, Nat.reduceLT, Nat.reduceMod, fmc, t_ContainsS, bXH, Zone.row, Box6.row, appE, rowsOf, srow, irow]
  repeat' (first | with_reducible apply And.intro | with_reducible intro _)
  all_goals first
    | exact trivial
    | omega
    | (refine hN (i + 1) _ (by simp only [u_E0, u_E1, u_M0, u_M1, w_setE0, w_setE1, w_setM0, w_setM1, reduceIte, Nat.reduceEqDiff]; exact ⟨by repeat' (first | exact trivial | refine ⟨.inr rfl, ?_⟩), by repeat' (first | exact trivial | refine ⟨rfl, ?_⟩), by first | rfl | simp [closedB, refsIn, refsInL, refsInO, dom, refsInL_nr, *], by first | rfl | simp [keepB, dom]⟩) ?_ ?_
       · exact ⟨by omega, all_snoc hi.2 (by grind [allIn])⟩
       · omega)
    | grind [allIn]
def t_all : List AV → Option (Prop × AV)
  | [.sl grt 1 grx, .sl wht 1 whx] => some ((((grx.map unS).map srow = grx) ∧ ((whx.map unS).map srow = whx)) ∧ ((grx.map unS).length ≤ 4611686018427387904 ∧ (whx.map unS).length ≤ 4611686018427387904), .bool (decide (allIn (grx.map unS) (whx.map unS))))
  | _ => none
theorem h_all : ∀ args p v, t_all args = some (p, v) → p → Contract P 128 args [] v [] ∧ noref v = true ∧ No99 v := by
  intro args p v h1 h2
  unfold t_all at h1
  split at h1
  · rename_i grt grx wht whx
    cases h1
    obtain ⟨⟨e0, e1⟩, HP⟩ := h2
    have := c_all grt wht (grx.map unS) (whx.map unS) HP.1 HP.2
    exact ⟨by simpa only [e0, e1] using this, rfl, trivial⟩
  · cases h1
def seenOf (l : List Seen) (f : ByteArray) : Int := if 0 ≤ fIdx (fun s => decide (s.fl = f)) l then (l.getD (fIdx (fun s => decide (s.fl = f)) l).toNat default).nr else 0
theorem seenOf_at {l : List Seen} {f : ByteArray} {i : Nat} (hi : i < l.length) (h : (l.getD i default).fl = f) (k : ∀ j, j < i → (l.getD j default).fl ≠ f) : seenOf l f = (l.getD i default).nr := by
  unfold seenOf; rw [fIdx_at hi (by simpa using h) (fun j hj => by simpa using k j hj), if_pos (by omega)]; simp
theorem seenOf_none {l : List Seen} {f : ByteArray} (k : ∀ j, j < l.length → (l.getD j default).fl ≠ f) : seenOf l f = 0 := by
  unfold seenOf; rw [fIdx_none (fun j hj => by simpa using k j hj), if_neg (by omega)]
theorem c_seen (b : Book) (v : ByteArray) (hl : b.seen.length ≤ 4611686018427387904) : Contract P 129 [.agg (b.row 0), .str v] [] (.int .i64 (seenOf b.seen v)) [] := by
  simp only [Book.row]
  refine fn_sound (Env.nil P) hm k_impl_HandBook_seen (nlb rfl) rfl ?_; unfold s_impl_HandBook_seen; simp (maxSteps := 2000000) only [bitvec_to_nat, reduceIte, Nat.reduceEqDiff, Nat.reduceAdd, Nat.reduceLeDiff, reduceCtorEq, Nat.reduceBEq, Nat.reduceLT, Nat.reduceMod, fmc, bXH, Zone.row, Box6.row, appE, rowsOf, srow, irow, Seen.row, Seen_eta]
  refine loop_st (fun i : Nat => [(10, .int .i64 i)]) (fun _ => []) (fun i => i ≤ b.seen.length ∧ ∀ j, j < i → (b.seen.getD j default).fl ≠ v) (fun i => b.seen.length - i) (0) (by simp only [u_E0, u_E1, u_M0, u_M1, w_setE0, w_setE1, w_setM0, w_setM1, reduceIte, Nat.reduceEqDiff]; exact ⟨by repeat' (first | exact trivial | refine ⟨.inr rfl, ?_⟩), by repeat' (first | exact trivial | refine ⟨rfl, ?_⟩), by first | rfl | simp [closedB, refsIn, refsInL, refsInO, dom, refsInL_nr, *], by first | rfl | simp [keepB, dom]⟩) ?_ ?_
  · exact ⟨Nat.zero_le _, by intro j hj; omega⟩
  intro i hi NX hN
  unfold l_impl_HandBook_seen_0; simp (maxSteps := 2000000) only [bitvec_to_nat, reduceIte, Nat.reduceEqDiff, Nat.reduceAdd, Nat.reduceLeDiff, reduceCtorEq, Nat.reduceBEq, Nat.reduceLT, Nat.reduceMod, fmc, bXH, Zone.row, Box6.row, appE, rowsOf, srow, irow, Seen.row, Seen_eta]
  
  repeat' (first | with_reducible apply And.intro | with_reducible intro _)
  all_goals first
    | omega
    | (refine hN (i + 1) _ (by simp only [u_E0, u_E1, u_M0, u_M1, w_setE0, w_setE1, w_setM0, w_setM1, reduceIte, Nat.reduceEqDiff]; exact ⟨by repeat' (first | exact trivial | refine ⟨.inr rfl, ?_⟩), by repeat' (first | exact trivial | refine ⟨rfl, ?_⟩), by first | rfl | simp [closedB, refsIn, refsInL, refsInO, dom, refsInL_nr, *], by first | rfl | simp [keepB, dom]⟩) ?_ ?_
       · exact ⟨by omega, all_snoc hi.2 (by assumption)⟩
       · omega)
    | (rw [seenOf_at (i := i) (by omega) (by assumption) hi.2])
    | (rw [seenOf_none fun j hj => hi.2 j (by omega)])
def t_seen : List AV → Option (Prop × AV)
  | [.agg [.sl 0 11 b_own, .sl 0 3 b_parts, .sl 0 2 b_seen], .str v] => some ((((b_own.map unOwn).map (Own.row 0) = b_own) ∧ ((b_parts.map unPart).map (Part.row 0) = b_parts) ∧ ((b_seen.map unSeen).map Seen.row = b_seen)) ∧ ((Book.mk (b_own.map unOwn) (b_parts.map unPart) (b_seen.map unSeen)).seen.length ≤ 4611686018427387904), .int .i64 (seenOf (Book.mk (b_own.map unOwn) (b_parts.map unPart) (b_seen.map unSeen)).seen v))
  | _ => none
theorem h_seen : ∀ args p v, t_seen args = some (p, v) → p → Contract P 129 args [] v [] ∧ noref v = true ∧ No99 v := by
  intro args p v h1 h2
  unfold t_seen at h1
  split at h1
  · rename_i b_own b_parts b_seen v
    cases h1
    obtain ⟨⟨e0, e1, e2⟩, HP⟩ := h2
    have := c_seen (Book.mk (b_own.map unOwn) (b_parts.map unPart) (b_seen.map unSeen)) v HP
    exact ⟨by simpa only [e0, e1, e2, Book.row] using this, rfl, trivial⟩
  · cases h1
theorem c_sSeen (b : Book) (v : ByteArray) (hl : b.seen.length ≤ 4611686018427387904) : Contract P 107 [.agg (b.row 0), .str v] [] (.int .i64 (seenOf b.seen v)) [] := by
  simp only [Book.row]
  refine fn_sound (Env.nil P) hm k_spec_l33Seen (nlb rfl) rfl ?_; unfold s_spec_l33Seen; simp (maxSteps := 2000000) only [bitvec_to_nat, reduceIte, Nat.reduceEqDiff, Nat.reduceAdd, Nat.reduceLeDiff, reduceCtorEq, Nat.reduceBEq, Nat.reduceLT, Nat.reduceMod, fmc, bXH, Zone.row, Box6.row, appE, rowsOf, srow, irow, Seen.row, Seen_eta]
  refine loop_st (fun i : Nat => [(5, .int .i64 i)]) (fun _ => []) (fun i => i ≤ b.seen.length ∧ ∀ j, j < i → (b.seen.getD j default).fl ≠ v) (fun i => b.seen.length - i) (0) (by simp only [u_E0, u_E1, u_M0, u_M1, w_setE0, w_setE1, w_setM0, w_setM1, reduceIte, Nat.reduceEqDiff]; exact ⟨by repeat' (first | exact trivial | refine ⟨.inr rfl, ?_⟩), by repeat' (first | exact trivial | refine ⟨rfl, ?_⟩), by first | rfl | simp [closedB, refsIn, refsInL, refsInO, dom, refsInL_nr, *], by first | rfl | simp [keepB, dom]⟩) ?_ ?_
  · exact ⟨Nat.zero_le _, by intro j hj; omega⟩
  intro i hi NX hN
  unfold l_spec_l33Seen_0; simp (maxSteps := 2000000) only [bitvec_to_nat, reduceIte, Nat.reduceEqDiff, Nat.reduceAdd, Nat.reduceLeDiff, reduceCtorEq, Nat.reduceBEq, Nat.reduceLT, Nat.reduceMod, fmc, bXH, Zone.row, Box6.row, appE, rowsOf, srow, irow, Seen.row, Seen_eta]
  
  repeat' (first | with_reducible apply And.intro | with_reducible intro _)
  all_goals first
    | omega
    | (refine hN (i + 1) _ (by simp only [u_E0, u_E1, u_M0, u_M1, w_setE0, w_setE1, w_setM0, w_setM1, reduceIte, Nat.reduceEqDiff]; exact ⟨by repeat' (first | exact trivial | refine ⟨.inr rfl, ?_⟩), by repeat' (first | exact trivial | refine ⟨rfl, ?_⟩), by first | rfl | simp [closedB, refsIn, refsInL, refsInO, dom, refsInL_nr, *], by first | rfl | simp [keepB, dom]⟩) ?_ ?_
       · exact ⟨by omega, all_snoc hi.2 (by assumption)⟩
       · omega)
    | (rw [seenOf_at (i := i) (by omega) (by assumption) hi.2])
    | (rw [seenOf_none fun j hj => hi.2 j (by omega)])
def t_sSeen : List AV → Option (Prop × AV)
  | [.agg [.sl 0 11 b_own, .sl 0 3 b_parts, .sl 0 2 b_seen], .str v] => some ((((b_own.map unOwn).map (Own.row 0) = b_own) ∧ ((b_parts.map unPart).map (Part.row 0) = b_parts) ∧ ((b_seen.map unSeen).map Seen.row = b_seen)) ∧ ((Book.mk (b_own.map unOwn) (b_parts.map unPart) (b_seen.map unSeen)).seen.length ≤ 4611686018427387904), .int .i64 (seenOf (Book.mk (b_own.map unOwn) (b_parts.map unPart) (b_seen.map unSeen)).seen v))
  | _ => none
theorem h_sSeen : ∀ args p v, t_sSeen args = some (p, v) → p → Contract P 107 args [] v [] ∧ noref v = true ∧ No99 v := by
  intro args p v h1 h2
  unfold t_sSeen at h1
  split at h1
  · rename_i b_own b_parts b_seen v
    cases h1
    obtain ⟨⟨e0, e1, e2⟩, HP⟩ := h2
    have := c_sSeen (Book.mk (b_own.map unOwn) (b_parts.map unPart) (b_seen.map unSeen)) v HP
    exact ⟨by simpa only [e0, e1, e2, Book.row] using this, rfl, trivial⟩
  · cases h1
end
end Go.Ve

namespace Go.Ve
noncomputable section
open Go.Proofs
set_option maxRecDepth 100000
def heldOk (zs : List Zone) (n : Int) (tu : List Box6) : Prop := (n = 0 → tu.length = 0) ∧ (n ≠ 0 → tubeOk zs tu)
instance (zs : List Zone) (n : Int) (tu : List Box6) : Decidable (heldOk zs n tu) := Classical.propDecidable _
def grAt (wh gr : List ByteArray) (i : Nat) : Prop := gr.getD i default ∈ wh ∧ (0 < i → slt (gr.getD (i - 1) default) (gr.getD i default))
def ownOk1 (zs : List Zone) (o : Own) : Prop := nameOk o.fl ∧ (1 ≤ o.st ∧ o.st ≤ 3) ∧ (1 ≤ o.tn ∧ o.tn ≤ 1000000) ∧ (0 ≤ o.la ∧ o.la ≤ 1000000) ∧ (0 ≤ o.nr ∧ o.nr ≤ o.la) ∧ (0 ≤ o.wi ∧ o.wi ≤ o.la) ∧ (o.wi ≠ 0 → o.nr < o.wi)
def ownOk2 (zs : List Zone) (o : Own) : Prop := (o.st = 1 ↔ o.dst = ⟨#[]⟩) ∧ (o.st ≠ 1 → 0 ≤ zAt zs o.dst) ∧ (o.st ≠ 1 → o.wi = 0) ∧ (o.st = 2 → o.nr ≠ 0)
def ownOk3 (zs : List Zone) (o : Own) : Prop := heldOk zs o.nr o.tu ∧ heldOk zs o.wi o.nx
def ownOk4 (zs : List Zone) (o : Own) : Prop := (∀ i, i < o.gr.length → grAt (whoOf zs o.nx) o.gr i) ∧ (o.sent = true ↔ 0 < o.wi ∧ allIn o.gr (whoOf zs o.nx))
def ownOk (zs : List Zone) (o : Own) : Prop := ownOk1 zs o ∧ ownOk2 zs o ∧ ownOk3 zs o ∧ ownOk4 zs o
instance (zs : List Zone) (o : Own) : Decidable (ownOk zs o) := Classical.propDecidable _
def ownAt (zs : List Zone) (l : List Own) (i : Nat) : Prop := ownOk zs (l.getD i default) ∧ (0 < i → slt (l.getD (i - 1) default).fl (l.getD i default).fl)
def ownsOk (zs : List Zone) (l : List Own) : Prop := l.length ≤ 6 ∧ ∀ i, i < l.length → ownAt zs l i
instance (zs : List Zone) (l : List Own) : Decidable (ownsOk zs l) := Classical.propDecidable _
def Part.before (a p : Part) : Prop := slt a.fl p.fl ∨ (a.fl = p.fl ∧ a.nr < p.nr)
instance (a p : Part) : Decidable (a.before p) := Classical.propDecidable _
def partAt (zs : List Zone) (b : Book) (i : Nat) : Prop := nameOk (b.parts.getD i default).fl ∧ (1 ≤ (b.parts.getD i default).nr ∧ (b.parts.getD i default).nr ≤ seenOf b.seen (b.parts.getD i default).fl) ∧ tubeOk zs (b.parts.getD i default).bx ∧
  (0 < i → (b.parts.getD (i - 1) default).before (b.parts.getD i default)) ∧ ∀ k, k < i → (b.parts.getD k default).fl ≠ (b.parts.getD i default).fl → ¬ nearT (b.parts.getD k default).bx (b.parts.getD i default).bx
def partsOk (zs : List Zone) (b : Book) : Prop := b.parts.length ≤ 16 ∧ ∀ i, i < b.parts.length → partAt zs b i
instance (zs : List Zone) (b : Book) : Decidable (partsOk zs b) := Classical.propDecidable _
def seenAt (l : List Seen) (i : Nat) : Prop := nameOk (l.getD i default).fl ∧ (1 ≤ (l.getD i default).nr ∧ (l.getD i default).nr ≤ 1000000) ∧ (0 < i → slt (l.getD (i - 1) default).fl (l.getD i default).fl)
def seenOk (l : List Seen) : Prop := l.length ≤ 6 ∧ ∀ i, i < l.length → seenAt l i
def bookOk (zs : List Zone) (b : Book) : Prop := ownsOk zs b.own ∧ partsOk zs b ∧ seenOk b.seen
instance (zs : List Zone) (b : Book) : Decidable (bookOk zs b) := Classical.propDecidable _
/-- Lists that are not too long for a machine. -/
def Own.small (o : Own) : Prop := o.tu.length ≤ 1048576 ∧ o.nx.length ≤ 1048576 ∧ o.gr.length ≤ 1048576
def Book.small (b : Book) : Prop := (b.own.length ≤ 1048576 ∧ ∀ o ∈ b.own, o.small) ∧ (b.parts.length ≤ 1048576 ∧ ∀ p ∈ b.parts, p.bx.length ≤ 1048576) ∧ b.seen.length ≤ 1048576
theorem Book.small_own {b : Book} (h : b.small) {i : Nat} (hi : i < b.own.length) : (b.own.getD i default).small := h.1.2 _ (by simp [hi])
theorem Book.small_part {b : Book} (h : b.small) {i : Nat} (hi : i < b.parts.length) : (b.parts.getD i default).bx.length ≤ 1048576 := h.2.1.2 _ (by simp [hi])
theorem cB_held : calleeB P 126 = true := by kernel_rfl
theorem who_len (zs : List Zone) (tu : List Box6) : (whoOf zs tu).length ≤ zs.length := by
  rw [← wk_end]; exact wk_len zs tu _
theorem c_held (n : Int) (t t' : Nat) (zs : List Zone) (tu : List Box6) (hz : zs.length ≤ 4611686018427387904) (hl : tu.length ≤ 4611686018427387904) : Contract P 126 [.int .i64 n, .sl t 6 (tu.map Box6.row), .ptr 3 0] [(3, .box [.sl t' 5 (zs.map Zone.row)])] (.bool (decide (heldOk zs n tu))) [(3, .box [.sl t' 5 (zs.map Zone.row)])] := by
  refine fn_sound ((Env.nil P).add 100 t_tubeOk h_tubeOk) hm k_impl_bookOk_1 (nlb rfl) rfl ?_; unfold s_impl_bookOk_1; simp (maxSteps := 2000000) only [bitvec_to_nat, reduceIte, Nat.reduceEqDiff, Nat.reduceAdd, Nat.reduceLeDiff, reduceCtorEq, Nat.reduceBEq, Nat.reduceLT, Nat.reduceMod, fmc, retG_ret, retQ_eq, retQ_eqN, retOk, keepB, re_tupl, orr_t, t_tubeOk, bXH, Zone.row, Box6.row, appE, rowsOf, srow, irow, Own.row, Own_eta, Seen.row, Seen_eta, Part.row, Part_eta, Book.row]
  refine ⟨fun h => ?_, fun h => ⟨⟨hz, hl⟩, ?_⟩⟩
  · simp [heldOk, h, refsInL, refsIn, dom, decide_eq_decide]
    try omega
  · simp [heldOk, h, refsInL, refsIn, dom]
def r_held : RTab
  | [.int .i64 n, .sl tt 6 tx, .ptr ob off], M => match M ob with
    | some (.box [.sl zt 5 zx]) => some ⟨off = 0 ∧ (tx.map unBox).map Box6.row = tx ∧ (zx.map unZone).map Zone.row = zx ∧ (zx.map unZone).length ≤ 4611686018427387904 ∧ (tx.map unBox).length ≤ 4611686018427387904, fun _ : Unit => True, fun _ => .bool (decide (heldOk (zx.map unZone) n (tx.map unBox))), fun _ => [(ob, .box [.sl zt 5 zx])]⟩
    | _ => none
  | _, _ => none
theorem h_held : okTab P 126 r_held := by
  intro args M o h hp
  unfold r_held at h
  split at h
  · rename_i n tt tx ob off
    split at h
    · rename_i zt zx hM
      cases h
      obtain ⟨rfl, e0, e1, HP⟩ := hp
      have hC := c_held n tt zt (zx.map unZone) (tx.map unBox) HP.1 HP.2
      simp only [e0, e1] at hC
      exact ⟨(), trivial, callR_box _ hC (by simp [norefL, noref]) rfl (by assumption) (by simp [renL, ren, swp]) (by simp [refsInL, refsIn, noref])⟩
    · cases h
  · cases h
set_option maxHeartbeats 400000 in
theorem pc_impl_bookOk_0 (t : Nat) (zs : List Zone) (b : Book) {Q : XT → St → Prop}  (hQ : ∀ bv : Bool, (bv = true ↔ (6 < b.own.length ∨ 16 < b.parts.length ∨ 6 < b.seen.length)) → Q .normal ⟨[(2, .ptr 102 0), (3, .ptr 103 0), (34, .bool bv)], [(102, .box [.sl t 5 (zs.map Zone.row)]), (103, .box [.sl 0 11 (b.own.map (Own.row 0)), .sl 0 3 (b.parts.map (Part.row 0)), .sl 0 2 (b.seen.map Seen.row)])]⟩) : SCode.wp ((((((((((((Env.nil P).addR 126 r_held h_held).add 120 t_within h_within).add 103 t_isName h_isName).add 125 t_number h_number).add 86 t_zoneAt h_zoneAt).add 127 t_who h_who).add 116 t_ContainsS h_ContainsS).add 128 t_all h_all).add 100 t_tubeOk h_tubeOk).add 129 t_seen h_seen).add 130 t_near h_near) p_impl_bookOk_0 Q ⟨[(2, .ptr 102 0), (3, .ptr 103 0)], [(102, .box [.sl t 5 (zs.map Zone.row)]), (103, .box [.sl 0 11 (b.own.map (Own.row 0)), .sl 0 3 (b.parts.map (Part.row 0)), .sl 0 2 (b.seen.map Seen.row)])]⟩ := by
  all_goals (unfold p_impl_bookOk_0; simp (maxSteps := 2000000) only [bitvec_to_nat, reduceIte, Nat.reduceEqDiff, Nat.reduceAdd, Nat.reduceLeDiff, reduceCtorEq, Nat.reduceBEq, Nat.reduceLT, Nat.reduceMod, fmc, retG_ret, retQ_eq, retQ_eqN, retOk, keepB, re_tupl, orr_t, t_within, t_isName, t_number, t_zoneAt, t_who, t_ContainsS, t_all, t_tubeOk, t_seen, t_near, r_held, bXH, Zone.row, Box6.row, appE, rowsOf, srow, irow, Own.row, Own_eta, Seen.row, Seen_eta, Part.row, Part_eta, Book.row, cB_held])
  repeat' (first | with_reducible apply And.intro | with_reducible intro _)
  all_goals first
    | omega
    | (refine hQ _ ?_
       first
         | grind []
         | (simp; grind []))
    | grind []
set_option maxHeartbeats 1000000 in
theorem pc_impl_bookOk_1 (t : Nat) (zs : List Zone) (b : Book) (o : Own) (i : Nat) {Q : XT → St → Prop} (hi : i < b.own.length) (hl : b.own.length ≤ 1048576) (hQ : ∀ bv : Bool, (bv = true ↔ ¬ (ownOk1 zs o ∧ (0 < i → slt (b.own.getD (i - 1) default).fl o.fl))) → Q .normal ⟨[(2, .ptr 102 0), (3, .ptr 103 0), (6, .ptr 106 0), (36, .sl 0 11 (b.own.map (Own.row 0))), (37, .int .i64 b.own.length), (38, .int .i64 i), (108, .bool bv)], [(102, .box [.sl t 5 (zs.map Zone.row)]), (103, .box [.sl 0 11 (b.own.map (Own.row 0)), .sl 0 3 (b.parts.map (Part.row 0)), .sl 0 2 (b.seen.map Seen.row)]), (106, .box [.str o.fl, .int .i64 o.st, .int .i64 o.tn, .str o.dst, .int .i64 o.la, .int .i64 o.nr, .sl 0 6 (o.tu.map Box6.row), .int .i64 o.wi, .sl 0 6 (o.nx.map Box6.row), .sl 0 1 (o.gr.map srow), .bool o.sent])]⟩) : SCode.wp ((((((((((((Env.nil P).addR 126 r_held h_held).add 120 t_within h_within).add 103 t_isName h_isName).add 125 t_number h_number).add 86 t_zoneAt h_zoneAt).add 127 t_who h_who).add 116 t_ContainsS h_ContainsS).add 128 t_all h_all).add 100 t_tubeOk h_tubeOk).add 129 t_seen h_seen).add 130 t_near h_near) p_impl_bookOk_1 Q ⟨[(2, .ptr 102 0), (3, .ptr 103 0), (5, .int .i64 i), (6, .ptr 106 0), (36, .sl 0 11 (b.own.map (Own.row 0))), (37, .int .i64 b.own.length), (38, .int .i64 i)], [(102, .box [.sl t 5 (zs.map Zone.row)]), (103, .box [.sl 0 11 (b.own.map (Own.row 0)), .sl 0 3 (b.parts.map (Part.row 0)), .sl 0 2 (b.seen.map Seen.row)]), (106, .box [.str o.fl, .int .i64 o.st, .int .i64 o.tn, .str o.dst, .int .i64 o.la, .int .i64 o.nr, .sl 0 6 (o.tu.map Box6.row), .int .i64 o.wi, .sl 0 6 (o.nx.map Box6.row), .sl 0 1 (o.gr.map srow), .bool o.sent])]⟩ := by
  all_goals (unfold p_impl_bookOk_1; simp (maxSteps := 2000000) only [bitvec_to_nat, reduceIte, Nat.reduceEqDiff, Nat.reduceAdd, Nat.reduceLeDiff, reduceCtorEq, Nat.reduceBEq, Nat.reduceLT, Nat.reduceMod, fmc, retG_ret, retQ_eq, retQ_eqN, retOk, keepB, re_tupl, orr_t, t_within, t_isName, t_number, t_zoneAt, t_who, t_ContainsS, t_all, t_tubeOk, t_seen, t_near, r_held, bXH, Zone.row, Box6.row, appE, rowsOf, srow, irow, Own.row, Own_eta, Seen.row, Seen_eta, Part.row, Part_eta, Book.row, cB_held])
  repeat' (first | with_reducible apply And.intro | with_reducible intro _)
  all_goals first
    | omega
    | (refine hQ _ ?_
       first
         | grind [ownOk1]
         | (simp; grind [ownOk1]))
    | grind [ownOk1]
set_option maxHeartbeats 400000 in
theorem pc_impl_bookOk_2 (t : Nat) (zs : List Zone) (b : Book) (o : Own) (i : Nat) {Q : XT → St → Prop} (hz : zs.length ≤ 4294967295) (hQ : ∀ bv : Bool, (bv = true ↔ ¬ ((o.st = 1 ↔ o.dst = ⟨#[]⟩) ∧ (o.st ≠ 1 → 0 ≤ zAt zs o.dst) ∧ (o.st ≠ 1 → o.wi = 0))) → Q .normal ⟨[(2, .ptr 102 0), (3, .ptr 103 0), (6, .ptr 106 0), (36, .sl 0 11 (b.own.map (Own.row 0))), (37, .int .i64 b.own.length), (38, .int .i64 i), (136, .bool bv)], [(102, .box [.sl t 5 (zs.map Zone.row)]), (103, .box [.sl 0 11 (b.own.map (Own.row 0)), .sl 0 3 (b.parts.map (Part.row 0)), .sl 0 2 (b.seen.map Seen.row)]), (106, .box [.str o.fl, .int .i64 o.st, .int .i64 o.tn, .str o.dst, .int .i64 o.la, .int .i64 o.nr, .sl 0 6 (o.tu.map Box6.row), .int .i64 o.wi, .sl 0 6 (o.nx.map Box6.row), .sl 0 1 (o.gr.map srow), .bool o.sent])]⟩) : SCode.wp ((((((((((((Env.nil P).addR 126 r_held h_held).add 120 t_within h_within).add 103 t_isName h_isName).add 125 t_number h_number).add 86 t_zoneAt h_zoneAt).add 127 t_who h_who).add 116 t_ContainsS h_ContainsS).add 128 t_all h_all).add 100 t_tubeOk h_tubeOk).add 129 t_seen h_seen).add 130 t_near h_near) p_impl_bookOk_2 Q ⟨[(2, .ptr 102 0), (3, .ptr 103 0), (6, .ptr 106 0), (7, .bool (decide (o.st = 1))), (36, .sl 0 11 (b.own.map (Own.row 0))), (37, .int .i64 b.own.length), (38, .int .i64 i)], [(102, .box [.sl t 5 (zs.map Zone.row)]), (103, .box [.sl 0 11 (b.own.map (Own.row 0)), .sl 0 3 (b.parts.map (Part.row 0)), .sl 0 2 (b.seen.map Seen.row)]), (106, .box [.str o.fl, .int .i64 o.st, .int .i64 o.tn, .str o.dst, .int .i64 o.la, .int .i64 o.nr, .sl 0 6 (o.tu.map Box6.row), .int .i64 o.wi, .sl 0 6 (o.nx.map Box6.row), .sl 0 1 (o.gr.map srow), .bool o.sent])]⟩ := by
  all_goals (unfold p_impl_bookOk_2; simp (maxSteps := 2000000) only [bitvec_to_nat, reduceIte, Nat.reduceEqDiff, Nat.reduceAdd, Nat.reduceLeDiff, reduceCtorEq, Nat.reduceBEq, Nat.reduceLT, Nat.reduceMod, fmc, retG_ret, retQ_eq, retQ_eqN, retOk, keepB, re_tupl, orr_t, t_within, t_isName, t_number, t_zoneAt, t_who, t_ContainsS, t_all, t_tubeOk, t_seen, t_near, r_held, bXH, Zone.row, Box6.row, appE, rowsOf, srow, irow, Own.row, Own_eta, Seen.row, Seen_eta, Part.row, Part_eta, Book.row, cB_held])
  repeat' (first | with_reducible apply And.intro | with_reducible intro _)
  all_goals first
    | omega
    | (refine hQ _ ?_
       first
         | grind []
         | (simp; grind []))
    | grind []
set_option maxHeartbeats 400000 in
theorem pc_impl_bookOk_3 (t : Nat) (zs : List Zone) (b : Book) (o : Own) (i : Nat) {Q : XT → St → Prop} (hz : zs.length ≤ 4294967295) (h1 : o.tu.length ≤ 1048576) (h2 : o.nx.length ≤ 1048576) (hQ : ∀ bv : Bool, (bv = true ↔ ¬ ((o.st = 2 → o.nr ≠ 0) ∧ ownOk3 zs o)) → Q .normal ⟨[(2, .ptr 102 0), (3, .ptr 103 0), (6, .ptr 106 0), (36, .sl 0 11 (b.own.map (Own.row 0))), (37, .int .i64 b.own.length), (38, .int .i64 i), (163, .bool bv)], [(102, .box [.sl t 5 (zs.map Zone.row)]), (103, .box [.sl 0 11 (b.own.map (Own.row 0)), .sl 0 3 (b.parts.map (Part.row 0)), .sl 0 2 (b.seen.map Seen.row)]), (106, .box [.str o.fl, .int .i64 o.st, .int .i64 o.tn, .str o.dst, .int .i64 o.la, .int .i64 o.nr, .sl 0 6 (o.tu.map Box6.row), .int .i64 o.wi, .sl 0 6 (o.nx.map Box6.row), .sl 0 1 (o.gr.map srow), .bool o.sent])]⟩) : SCode.wp ((((((((((((Env.nil P).addR 126 r_held h_held).add 120 t_within h_within).add 103 t_isName h_isName).add 125 t_number h_number).add 86 t_zoneAt h_zoneAt).add 127 t_who h_who).add 116 t_ContainsS h_ContainsS).add 128 t_all h_all).add 100 t_tubeOk h_tubeOk).add 129 t_seen h_seen).add 130 t_near h_near) p_impl_bookOk_3 Q ⟨[(2, .ptr 102 0), (3, .ptr 103 0), (6, .ptr 106 0), (8, .fn 126 [] [.ptr 102 0]), (36, .sl 0 11 (b.own.map (Own.row 0))), (37, .int .i64 b.own.length), (38, .int .i64 i)], [(102, .box [.sl t 5 (zs.map Zone.row)]), (103, .box [.sl 0 11 (b.own.map (Own.row 0)), .sl 0 3 (b.parts.map (Part.row 0)), .sl 0 2 (b.seen.map Seen.row)]), (106, .box [.str o.fl, .int .i64 o.st, .int .i64 o.tn, .str o.dst, .int .i64 o.la, .int .i64 o.nr, .sl 0 6 (o.tu.map Box6.row), .int .i64 o.wi, .sl 0 6 (o.nx.map Box6.row), .sl 0 1 (o.gr.map srow), .bool o.sent])]⟩ := by
  all_goals (unfold p_impl_bookOk_3; simp (maxSteps := 2000000) only [bitvec_to_nat, reduceIte, Nat.reduceEqDiff, Nat.reduceAdd, Nat.reduceLeDiff, reduceCtorEq, Nat.reduceBEq, Nat.reduceLT, Nat.reduceMod, fmc, retG_ret, retQ_eq, retQ_eqN, retOk, keepB, re_tupl, orr_t, t_within, t_isName, t_number, t_zoneAt, t_who, t_ContainsS, t_all, t_tubeOk, t_seen, t_near, r_held, bXH, Zone.row, Box6.row, appE, rowsOf, srow, irow, Own.row, Own_eta, Seen.row, Seen_eta, Part.row, Part_eta, Book.row, cB_held])
  repeat' (first | with_reducible apply And.intro | with_reducible intro _)
  all_goals first
    | omega
    | (refine hQ _ ?_
       first
         | grind [ownOk3]
         | (simp; grind [ownOk3]))
    | grind [ownOk3]
set_option maxHeartbeats 400000 in
theorem pc_impl_bookOk_4 (t : Nat) (zs : List Zone) (b : Book) (o : Own) (i : Nat) (wh : List ByteArray) (k : Nat) {Q : XT → St → Prop} (hw : wh.length ≤ 4294967295) (hk : k < o.gr.length) (hl : o.gr.length ≤ 1048576) (hQ : ∀ bv : Bool, (bv = true ↔ ¬ grAt wh o.gr k) → Q .normal ⟨[(2, .ptr 102 0), (3, .ptr 103 0), (6, .ptr 106 0), (9, .sl 0 1 (wh.map srow)), (36, .sl 0 11 (b.own.map (Own.row 0))), (37, .int .i64 b.own.length), (38, .int .i64 i), (169, .sl 0 1 (o.gr.map srow)), (170, .int .i64 o.gr.length), (171, .int .i64 k), (193, .bool bv)], [(102, .box [.sl t 5 (zs.map Zone.row)]), (103, .box [.sl 0 11 (b.own.map (Own.row 0)), .sl 0 3 (b.parts.map (Part.row 0)), .sl 0 2 (b.seen.map Seen.row)]), (106, .box [.str o.fl, .int .i64 o.st, .int .i64 o.tn, .str o.dst, .int .i64 o.la, .int .i64 o.nr, .sl 0 6 (o.tu.map Box6.row), .int .i64 o.wi, .sl 0 6 (o.nx.map Box6.row), .sl 0 1 (o.gr.map srow), .bool o.sent])]⟩) : SCode.wp ((((((((((((Env.nil P).addR 126 r_held h_held).add 120 t_within h_within).add 103 t_isName h_isName).add 125 t_number h_number).add 86 t_zoneAt h_zoneAt).add 127 t_who h_who).add 116 t_ContainsS h_ContainsS).add 128 t_all h_all).add 100 t_tubeOk h_tubeOk).add 129 t_seen h_seen).add 130 t_near h_near) p_impl_bookOk_4 Q ⟨[(2, .ptr 102 0), (3, .ptr 103 0), (6, .ptr 106 0), (9, .sl 0 1 (wh.map srow)), (10, .int .i64 k), (11, .str (o.gr.getD k default)), (36, .sl 0 11 (b.own.map (Own.row 0))), (37, .int .i64 b.own.length), (38, .int .i64 i), (169, .sl 0 1 (o.gr.map srow)), (170, .int .i64 o.gr.length), (171, .int .i64 k)], [(102, .box [.sl t 5 (zs.map Zone.row)]), (103, .box [.sl 0 11 (b.own.map (Own.row 0)), .sl 0 3 (b.parts.map (Part.row 0)), .sl 0 2 (b.seen.map Seen.row)]), (106, .box [.str o.fl, .int .i64 o.st, .int .i64 o.tn, .str o.dst, .int .i64 o.la, .int .i64 o.nr, .sl 0 6 (o.tu.map Box6.row), .int .i64 o.wi, .sl 0 6 (o.nx.map Box6.row), .sl 0 1 (o.gr.map srow), .bool o.sent])]⟩ := by
  all_goals (unfold p_impl_bookOk_4; simp (maxSteps := 2000000) only [bitvec_to_nat, reduceIte, Nat.reduceEqDiff, Nat.reduceAdd, Nat.reduceLeDiff, reduceCtorEq, Nat.reduceBEq, Nat.reduceLT, Nat.reduceMod, fmc, retG_ret, retQ_eq, retQ_eqN, retOk, keepB, re_tupl, orr_t, t_within, t_isName, t_number, t_zoneAt, t_who, t_ContainsS, t_all, t_tubeOk, t_seen, t_near, r_held, bXH, Zone.row, Box6.row, appE, rowsOf, srow, irow, Own.row, Own_eta, Seen.row, Seen_eta, Part.row, Part_eta, Book.row, cB_held])
  repeat' (first | with_reducible apply And.intro | with_reducible intro _)
  all_goals first
    | omega
    | (refine hQ _ ?_
       first
         | grind [grAt]
         | (simp; grind [grAt]))
    | grind [grAt]
set_option maxHeartbeats 400000 in
theorem pc_impl_bookOk_5 (t : Nat) (zs : List Zone) (b : Book) (o : Own) (i : Nat) (wh : List ByteArray) (k : Nat) {w172 : AV} {Q : XT → St → Prop} (hw : wh.length ≤ 4294967295) (hl : o.gr.length ≤ 1048576) (hQ : ∀ bv : Bool, (bv = true ↔ ¬ (o.sent = true ↔ 0 < o.wi ∧ allIn o.gr wh)) → Q .normal ⟨[(2, .ptr 102 0), (3, .ptr 103 0), (36, .sl 0 11 (b.own.map (Own.row 0))), (37, .int .i64 b.own.length), (38, .int .i64 i), (206, .bool bv)], [(102, .box [.sl t 5 (zs.map Zone.row)]), (103, .box [.sl 0 11 (b.own.map (Own.row 0)), .sl 0 3 (b.parts.map (Part.row 0)), .sl 0 2 (b.seen.map Seen.row)]), (106, .box [.str o.fl, .int .i64 o.st, .int .i64 o.tn, .str o.dst, .int .i64 o.la, .int .i64 o.nr, .sl 0 6 (o.tu.map Box6.row), .int .i64 o.wi, .sl 0 6 (o.nx.map Box6.row), .sl 0 1 (o.gr.map srow), .bool o.sent])]⟩) : SCode.wp ((((((((((((Env.nil P).addR 126 r_held h_held).add 120 t_within h_within).add 103 t_isName h_isName).add 125 t_number h_number).add 86 t_zoneAt h_zoneAt).add 127 t_who h_who).add 116 t_ContainsS h_ContainsS).add 128 t_all h_all).add 100 t_tubeOk h_tubeOk).add 129 t_seen h_seen).add 130 t_near h_near) p_impl_bookOk_5 Q ⟨[(2, .ptr 102 0), (3, .ptr 103 0), (6, .ptr 106 0), (9, .sl 0 1 (wh.map srow)), (36, .sl 0 11 (b.own.map (Own.row 0))), (37, .int .i64 b.own.length), (38, .int .i64 i), (169, .sl 0 1 (o.gr.map srow)), (170, .int .i64 o.gr.length), (171, .int .i64 k), (172, w172)], [(102, .box [.sl t 5 (zs.map Zone.row)]), (103, .box [.sl 0 11 (b.own.map (Own.row 0)), .sl 0 3 (b.parts.map (Part.row 0)), .sl 0 2 (b.seen.map Seen.row)]), (106, .box [.str o.fl, .int .i64 o.st, .int .i64 o.tn, .str o.dst, .int .i64 o.la, .int .i64 o.nr, .sl 0 6 (o.tu.map Box6.row), .int .i64 o.wi, .sl 0 6 (o.nx.map Box6.row), .sl 0 1 (o.gr.map srow), .bool o.sent])]⟩ := by
  all_goals (unfold p_impl_bookOk_5; simp (maxSteps := 2000000) only [bitvec_to_nat, reduceIte, Nat.reduceEqDiff, Nat.reduceAdd, Nat.reduceLeDiff, reduceCtorEq, Nat.reduceBEq, Nat.reduceLT, Nat.reduceMod, fmc, retG_ret, retQ_eq, retQ_eqN, retOk, keepB, re_tupl, orr_t, t_within, t_isName, t_number, t_zoneAt, t_who, t_ContainsS, t_all, t_tubeOk, t_seen, t_near, r_held, bXH, Zone.row, Box6.row, appE, rowsOf, srow, irow, Own.row, Own_eta, Seen.row, Seen_eta, Part.row, Part_eta, Book.row, cB_held])
  repeat' (first | with_reducible apply And.intro | with_reducible intro _)
  all_goals first
    | omega
    | (refine hQ _ ?_
       first
         | grind []
         | (simp; grind []))
    | grind []
set_option maxHeartbeats 400000 in
theorem pc_impl_bookOk_6 (t : Nat) (zs : List Zone) (b : Book) (i : Nat) {Q : XT → St → Prop} (hi : i < b.seen.length) (hl : b.seen.length ≤ 1048576) (hQ : ∀ bv : Bool, (bv = true ↔ ¬ seenAt b.seen i) → Q .normal ⟨[(2, .ptr 102 0), (3, .ptr 103 0), (209, .sl 0 2 (b.seen.map Seen.row)), (210, .int .i64 b.seen.length), (211, .int .i64 i), (241, .bool bv)], [(102, .box [.sl t 5 (zs.map Zone.row)]), (103, .box [.sl 0 11 (b.own.map (Own.row 0)), .sl 0 3 (b.parts.map (Part.row 0)), .sl 0 2 (b.seen.map Seen.row)]), (113, .box [.str (b.seen.getD i default).fl, .int .i64 (b.seen.getD i default).nr])]⟩) : SCode.wp ((((((((((((Env.nil P).addR 126 r_held h_held).add 120 t_within h_within).add 103 t_isName h_isName).add 125 t_number h_number).add 86 t_zoneAt h_zoneAt).add 127 t_who h_who).add 116 t_ContainsS h_ContainsS).add 128 t_all h_all).add 100 t_tubeOk h_tubeOk).add 129 t_seen h_seen).add 130 t_near h_near) p_impl_bookOk_6 Q ⟨[(2, .ptr 102 0), (3, .ptr 103 0), (12, .int .i64 i), (13, .ptr 113 0), (209, .sl 0 2 (b.seen.map Seen.row)), (210, .int .i64 b.seen.length), (211, .int .i64 i)], [(102, .box [.sl t 5 (zs.map Zone.row)]), (103, .box [.sl 0 11 (b.own.map (Own.row 0)), .sl 0 3 (b.parts.map (Part.row 0)), .sl 0 2 (b.seen.map Seen.row)]), (113, .box [.str (b.seen.getD i default).fl, .int .i64 (b.seen.getD i default).nr])]⟩ := by
  all_goals (unfold p_impl_bookOk_6; simp (maxSteps := 2000000) only [bitvec_to_nat, reduceIte, Nat.reduceEqDiff, Nat.reduceAdd, Nat.reduceLeDiff, reduceCtorEq, Nat.reduceBEq, Nat.reduceLT, Nat.reduceMod, fmc, retG_ret, retQ_eq, retQ_eqN, retOk, keepB, re_tupl, orr_t, t_within, t_isName, t_number, t_zoneAt, t_who, t_ContainsS, t_all, t_tubeOk, t_seen, t_near, r_held, bXH, Zone.row, Box6.row, appE, rowsOf, srow, irow, Own.row, Own_eta, Seen.row, Seen_eta, Part.row, Part_eta, Book.row, cB_held])
  repeat' (first | with_reducible apply And.intro | with_reducible intro _)
  all_goals first
    | omega
    | (refine hQ _ ?_
       first
         | grind [seenAt]
         | (simp; grind [seenAt]))
    | grind [seenAt]
set_option maxHeartbeats 400000 in
theorem pc_impl_bookOk_7 (t : Nat) (zs : List Zone) (b : Book) (p : Part) (i : Nat) {Q : XT → St → Prop} (hz : zs.length ≤ 4294967295) (hs : b.seen.length ≤ 1048576) (hl : p.bx.length ≤ 1048576) (hQ : ∀ bv : Bool, (bv = true ↔ ¬ (nameOk p.fl ∧ (1 ≤ p.nr ∧ p.nr ≤ seenOf b.seen p.fl) ∧ tubeOk zs p.bx)) → Q .normal ⟨[(2, .ptr 102 0), (3, .ptr 103 0), (14, .int .i64 i), (15, .ptr 115 0), (244, .sl 0 3 (b.parts.map (Part.row 0))), (245, .int .i64 b.parts.length), (246, .int .i64 i), (271, .bool bv)], [(102, .box [.sl t 5 (zs.map Zone.row)]), (103, .box [.sl 0 11 (b.own.map (Own.row 0)), .sl 0 3 (b.parts.map (Part.row 0)), .sl 0 2 (b.seen.map Seen.row)]), (115, .box [.str p.fl, .int .i64 p.nr, .sl 0 6 (p.bx.map Box6.row)])]⟩) : SCode.wp ((((((((((((Env.nil P).addR 126 r_held h_held).add 120 t_within h_within).add 103 t_isName h_isName).add 125 t_number h_number).add 86 t_zoneAt h_zoneAt).add 127 t_who h_who).add 116 t_ContainsS h_ContainsS).add 128 t_all h_all).add 100 t_tubeOk h_tubeOk).add 129 t_seen h_seen).add 130 t_near h_near) p_impl_bookOk_7 Q ⟨[(2, .ptr 102 0), (3, .ptr 103 0), (14, .int .i64 i), (15, .ptr 115 0), (244, .sl 0 3 (b.parts.map (Part.row 0))), (245, .int .i64 b.parts.length), (246, .int .i64 i)], [(102, .box [.sl t 5 (zs.map Zone.row)]), (103, .box [.sl 0 11 (b.own.map (Own.row 0)), .sl 0 3 (b.parts.map (Part.row 0)), .sl 0 2 (b.seen.map Seen.row)]), (115, .box [.str p.fl, .int .i64 p.nr, .sl 0 6 (p.bx.map Box6.row)])]⟩ := by
  all_goals (unfold p_impl_bookOk_7; simp (maxSteps := 2000000) only [bitvec_to_nat, reduceIte, Nat.reduceEqDiff, Nat.reduceAdd, Nat.reduceLeDiff, reduceCtorEq, Nat.reduceBEq, Nat.reduceLT, Nat.reduceMod, fmc, retG_ret, retQ_eq, retQ_eqN, retOk, keepB, re_tupl, orr_t, t_within, t_isName, t_number, t_zoneAt, t_who, t_ContainsS, t_all, t_tubeOk, t_seen, t_near, r_held, bXH, Zone.row, Box6.row, appE, rowsOf, srow, irow, Own.row, Own_eta, Seen.row, Seen_eta, Part.row, Part_eta, Book.row, cB_held])
  repeat' (first | with_reducible apply And.intro | with_reducible intro _)
  all_goals first
    | omega
    | (refine hQ _ ?_
       first
         | grind []
         | (simp; grind []))
    | grind []
set_option maxHeartbeats 400000 in
theorem pc_impl_bookOk_8 (t : Nat) (zs : List Zone) (b : Book) (p a : Part) (i : Nat) {Q : XT → St → Prop} (ht : slt a.fl p.fl ∨ a.fl = p.fl ∨ slt p.fl a.fl) (hn : slt a.fl p.fl → ¬ slt p.fl a.fl) (he : a.fl = p.fl → ¬ slt p.fl a.fl) (hQ : ∀ bv : Bool, (bv = true ↔ ¬ a.before p) → Q .normal ⟨[(2, .ptr 102 0), (3, .ptr 103 0), (14, .int .i64 i), (15, .ptr 115 0), (244, .sl 0 3 (b.parts.map (Part.row 0))), (245, .int .i64 b.parts.length), (246, .int .i64 i), (298, .bool bv)], [(102, .box [.sl t 5 (zs.map Zone.row)]), (103, .box [.sl 0 11 (b.own.map (Own.row 0)), .sl 0 3 (b.parts.map (Part.row 0)), .sl 0 2 (b.seen.map Seen.row)]), (115, .box [.str p.fl, .int .i64 p.nr, .sl 0 6 (p.bx.map Box6.row)]), (116, .box [.str a.fl, .int .i64 a.nr, .sl 0 6 (a.bx.map Box6.row)])]⟩) : SCode.wp ((((((((((((Env.nil P).addR 126 r_held h_held).add 120 t_within h_within).add 103 t_isName h_isName).add 125 t_number h_number).add 86 t_zoneAt h_zoneAt).add 127 t_who h_who).add 116 t_ContainsS h_ContainsS).add 128 t_all h_all).add 100 t_tubeOk h_tubeOk).add 129 t_seen h_seen).add 130 t_near h_near) p_impl_bookOk_8 Q ⟨[(2, .ptr 102 0), (3, .ptr 103 0), (14, .int .i64 i), (15, .ptr 115 0), (16, .ptr 116 0), (244, .sl 0 3 (b.parts.map (Part.row 0))), (245, .int .i64 b.parts.length), (246, .int .i64 i)], [(102, .box [.sl t 5 (zs.map Zone.row)]), (103, .box [.sl 0 11 (b.own.map (Own.row 0)), .sl 0 3 (b.parts.map (Part.row 0)), .sl 0 2 (b.seen.map Seen.row)]), (115, .box [.str p.fl, .int .i64 p.nr, .sl 0 6 (p.bx.map Box6.row)]), (116, .box [.str a.fl, .int .i64 a.nr, .sl 0 6 (a.bx.map Box6.row)])]⟩ := by
  all_goals (unfold p_impl_bookOk_8; simp (maxSteps := 2000000) only [bitvec_to_nat, reduceIte, Nat.reduceEqDiff, Nat.reduceAdd, Nat.reduceLeDiff, reduceCtorEq, Nat.reduceBEq, Nat.reduceLT, Nat.reduceMod, fmc, retG_ret, retQ_eq, retQ_eqN, retOk, keepB, re_tupl, orr_t, t_within, t_isName, t_number, t_zoneAt, t_who, t_ContainsS, t_all, t_tubeOk, t_seen, t_near, r_held, bXH, Zone.row, Box6.row, appE, rowsOf, srow, irow, Own.row, Own_eta, Seen.row, Seen_eta, Part.row, Part_eta, Book.row, cB_held])
  repeat' (first | with_reducible apply And.intro | with_reducible intro _)
  all_goals first
    | omega
    | (refine hQ _ ?_
       first
         | grind [Part.before]
         | (simp; grind [Part.before]))
    | grind [Part.before]
set_option maxHeartbeats 400000 in
theorem pc_impl_bookOk_9 (t : Nat) (zs : List Zone) (b : Book) (p a : Part) (i k : Nat) {Q : XT → St → Prop} (h1 : a.bx.length ≤ 1048576) (h2 : p.bx.length ≤ 1048576) (hQ : ∀ bv : Bool, (bv = true ↔ (a.fl ≠ p.fl ∧ nearT a.bx p.bx)) → Q .normal ⟨[(2, .ptr 102 0), (3, .ptr 103 0), (15, .ptr 115 0), (244, .sl 0 3 (b.parts.map (Part.row 0))), (245, .int .i64 b.parts.length), (246, .int .i64 i), (302, .sl 0 3 ((b.parts.take i).map (Part.row 0))), (303, .int .i64 (min i b.parts.length : Nat)), (304, .int .i64 k), (319, .bool bv)], [(102, .box [.sl t 5 (zs.map Zone.row)]), (103, .box [.sl 0 11 (b.own.map (Own.row 0)), .sl 0 3 (b.parts.map (Part.row 0)), .sl 0 2 (b.seen.map Seen.row)]), (115, .box [.str p.fl, .int .i64 p.nr, .sl 0 6 (p.bx.map Box6.row)]), (118, .box [.str a.fl, .int .i64 a.nr, .sl 0 6 (a.bx.map Box6.row)])]⟩) : SCode.wp ((((((((((((Env.nil P).addR 126 r_held h_held).add 120 t_within h_within).add 103 t_isName h_isName).add 125 t_number h_number).add 86 t_zoneAt h_zoneAt).add 127 t_who h_who).add 116 t_ContainsS h_ContainsS).add 128 t_all h_all).add 100 t_tubeOk h_tubeOk).add 129 t_seen h_seen).add 130 t_near h_near) p_impl_bookOk_9 Q ⟨[(2, .ptr 102 0), (3, .ptr 103 0), (15, .ptr 115 0), (18, .ptr 118 0), (244, .sl 0 3 (b.parts.map (Part.row 0))), (245, .int .i64 b.parts.length), (246, .int .i64 i), (302, .sl 0 3 ((b.parts.take i).map (Part.row 0))), (303, .int .i64 (min i b.parts.length : Nat)), (304, .int .i64 k)], [(102, .box [.sl t 5 (zs.map Zone.row)]), (103, .box [.sl 0 11 (b.own.map (Own.row 0)), .sl 0 3 (b.parts.map (Part.row 0)), .sl 0 2 (b.seen.map Seen.row)]), (115, .box [.str p.fl, .int .i64 p.nr, .sl 0 6 (p.bx.map Box6.row)]), (118, .box [.str a.fl, .int .i64 a.nr, .sl 0 6 (a.bx.map Box6.row)])]⟩ := by
  all_goals (unfold p_impl_bookOk_9; simp (maxSteps := 2000000) only [bitvec_to_nat, reduceIte, Nat.reduceEqDiff, Nat.reduceAdd, Nat.reduceLeDiff, reduceCtorEq, Nat.reduceBEq, Nat.reduceLT, Nat.reduceMod, fmc, retG_ret, retQ_eq, retQ_eqN, retOk, keepB, re_tupl, orr_t, t_within, t_isName, t_number, t_zoneAt, t_who, t_ContainsS, t_all, t_tubeOk, t_seen, t_near, r_held, bXH, Zone.row, Box6.row, appE, rowsOf, srow, irow, Own.row, Own_eta, Seen.row, Seen_eta, Part.row, Part_eta, Book.row, cB_held])
  repeat' (first | with_reducible apply And.intro | with_reducible intro _)
  all_goals first
    | omega
    | (refine hQ _ ?_
       first
         | grind []
         | (simp; grind []))
    | grind []
end
end Go.Ve

namespace Go.Ve
noncomputable section
open Go.Proofs
set_option maxRecDepth 100000
set_option maxHeartbeats 1000000 in
theorem c_bookOk (t : Nat) (zs : List Zone) (b : Book) (hz : zs.length ≤ 4294967295) (hb : b.small) : Contract P 102 [.sl t 5 (zs.map Zone.row), .agg (b.row 0)] [] (.bool (decide (bookOk zs b))) [] := by
  have hb1 := hb.1.1
  have hb2 := hb.2.1.1
  have hb3 := hb.2.2
  simp only [Book.row]
  refine fn_sound ((((((((((((Env.nil P).addR 126 r_held h_held).add 120 t_within h_within).add 103 t_isName h_isName).add 125 t_number h_number).add 86 t_zoneAt h_zoneAt).add 127 t_who h_who).add 116 t_ContainsS h_ContainsS).add 128 t_all h_all).add 100 t_tubeOk h_tubeOk).add 129 t_seen h_seen).add 130 t_near h_near) hm k_impl_bookOk (nlb rfl) rfl ?_; unfold s_impl_bookOk; simp (maxSteps := 2000000) only [bitvec_to_nat, reduceIte, Nat.reduceEqDiff, Nat.reduceAdd, Nat.reduceLeDiff, reduceCtorEq, Nat.reduceBEq, Nat.reduceLT, Nat.reduceMod, fmc, retG_ret, retQ_eq, retQ_eqN, retOk, keepB, re_tupl, orr_t, t_within, t_isName, t_number, t_zoneAt, t_who, t_ContainsS, t_all, t_tubeOk, t_seen, t_near, r_held, bXH, Zone.row, Box6.row, appE, rowsOf, srow, irow, Own.row, Own_eta, Seen.row, Seen_eta, Part.row, Part_eta, Book.row, cB_held]
  refine pc_impl_bookOk_0 t zs b fun bv hbv => ?_
  cases bv
  case true =>
    simp (maxSteps := 2000000) only [bitvec_to_nat, reduceIte, Nat.reduceEqDiff, Nat.reduceAdd, Nat.reduceLeDiff, reduceCtorEq, Nat.reduceBEq, Nat.reduceLT, Nat.reduceMod, fmc, retG_ret, retQ_eq, retQ_eqN, retOk, keepB, re_tupl, orr_t, t_within, t_isName, t_number, t_zoneAt, t_who, t_ContainsS, t_all, t_tubeOk, t_seen, t_near, r_held, bXH, Zone.row, Box6.row, appE, rowsOf, srow, irow, Own.row, Own_eta, Seen.row, Seen_eta, Part.row, Part_eta, Book.row, cB_held]
    have : 6 < b.own.length ∨ 16 < b.parts.length ∨ 6 < b.seen.length := by simpa using hbv
    intro hq
    have h1 := hq.1.1; have h2 := hq.2.1.1; have h3 := hq.2.2.1
    omega
  have h0 : ¬ (6 < b.own.length ∨ 16 < b.parts.length ∨ 6 < b.seen.length) := by simpa using hbv
  simp (maxSteps := 2000000) only [bitvec_to_nat, reduceIte, Nat.reduceEqDiff, Nat.reduceAdd, Nat.reduceLeDiff, reduceCtorEq, Nat.reduceBEq, Nat.reduceLT, Nat.reduceMod, fmc, retG_ret, retQ_eq, retQ_eqN, retOk, keepB, re_tupl, orr_t, t_within, t_isName, t_number, t_zoneAt, t_who, t_ContainsS, t_all, t_tubeOk, t_seen, t_near, r_held, bXH, Zone.row, Box6.row, appE, rowsOf, srow, irow, Own.row, Own_eta, Seen.row, Seen_eta, Part.row, Part_eta, Book.row, cB_held]
  -- those in hand
  refine loop_st (fun i : Nat => [(38, .int .i64 i)]) (fun _ => []) (fun i => i ≤ b.own.length ∧ ∀ j, j < i → ownAt zs b.own j) (fun i => b.own.length - i) (0) (by simp only [u_E0, u_E1, u_M0, u_M1, w_setE0, w_setE1, w_setM0, w_setM1, reduceIte, Nat.reduceEqDiff]; exact ⟨by repeat' (first | exact trivial | refine ⟨.inr rfl, ?_⟩), by repeat' (first | exact trivial | refine ⟨rfl, ?_⟩), by first | rfl | simp [closedB, refsIn, refsInL, refsInO, dom, refsInL_nr, *], by first | rfl | simp [keepB, dom]⟩) ?_ ?_
  · exact ⟨Nat.zero_le _, by intro j hj; omega⟩
  intro i hi NX hN
  unfold l_impl_bookOk_1; simp (maxSteps := 2000000) only [bitvec_to_nat, reduceIte, Nat.reduceEqDiff, Nat.reduceAdd, Nat.reduceLeDiff, reduceCtorEq, Nat.reduceBEq, Nat.reduceLT, Nat.reduceMod, fmc, retG_ret, retQ_eq, retQ_eqN, retOk, keepB, re_tupl, orr_t, t_within, t_isName, t_number, t_zoneAt, t_who, t_ContainsS, t_all, t_tubeOk, t_seen, t_near, r_held, bXH, Zone.row, Box6.row, appE, rowsOf, srow, irow, Own.row, Own_eta, Seen.row, Seen_eta, Part.row, Part_eta, Book.row, cB_held]
  refine ⟨fun g1 => ⟨by omega, by omega, ?_⟩, fun g1 => ?_⟩
  · have hs : (b.own.getD i default).small := Book.small_own hb (by omega)
    unfold Own.small at hs
    have hw := who_len zs (b.own.getD i default).nx
    have A : bookOk zs b → ownAt zs b.own i := fun h => h.1.2 i (by omega)
    unfold ownAt ownOk at A
    refine pc_impl_bookOk_1 t zs b (b.own.getD i default) i (by omega) hb1 fun bv hbv => ?_
    cases bv
    case true =>
      simp (maxSteps := 2000000) only [bitvec_to_nat, reduceIte, Nat.reduceEqDiff, Nat.reduceAdd, Nat.reduceLeDiff, reduceCtorEq, Nat.reduceBEq, Nat.reduceLT, Nat.reduceMod, fmc, retG_ret, retQ_eq, retQ_eqN, retOk, keepB, re_tupl, orr_t, t_within, t_isName, t_number, t_zoneAt, t_who, t_ContainsS, t_all, t_tubeOk, t_seen, t_near, r_held, bXH, Zone.row, Box6.row, appE, rowsOf, srow, irow, Own.row, Own_eta, Seen.row, Seen_eta, Part.row, Part_eta, Book.row, cB_held]
      have : ¬ (ownOk1 zs (b.own.getD i default) ∧ (0 < i → slt (b.own.getD (i - 1) default).fl (b.own.getD i default).fl)) := by simpa using hbv
      exact fun hq => this ⟨(A hq).1.1, (A hq).2⟩
    have o1 : ownOk1 zs (b.own.getD i default) ∧ (0 < i → slt (b.own.getD (i - 1) default).fl (b.own.getD i default).fl) := by simpa using hbv
    simp (maxSteps := 2000000) only [bitvec_to_nat, reduceIte, Nat.reduceEqDiff, Nat.reduceAdd, Nat.reduceLeDiff, reduceCtorEq, Nat.reduceBEq, Nat.reduceLT, Nat.reduceMod, fmc, retG_ret, retQ_eq, retQ_eqN, retOk, keepB, re_tupl, orr_t, t_within, t_isName, t_number, t_zoneAt, t_who, t_ContainsS, t_all, t_tubeOk, t_seen, t_near, r_held, bXH, Zone.row, Box6.row, appE, rowsOf, srow, irow, Own.row, Own_eta, Seen.row, Seen_eta, Part.row, Part_eta, Book.row, cB_held]
    refine pc_impl_bookOk_2 t zs b (b.own.getD i default) i hz fun bv hbv => ?_
    cases bv
    case true =>
      simp (maxSteps := 2000000) only [bitvec_to_nat, reduceIte, Nat.reduceEqDiff, Nat.reduceAdd, Nat.reduceLeDiff, reduceCtorEq, Nat.reduceBEq, Nat.reduceLT, Nat.reduceMod, fmc, retG_ret, retQ_eq, retQ_eqN, retOk, keepB, re_tupl, orr_t, t_within, t_isName, t_number, t_zoneAt, t_who, t_ContainsS, t_all, t_tubeOk, t_seen, t_near, r_held, bXH, Zone.row, Box6.row, appE, rowsOf, srow, irow, Own.row, Own_eta, Seen.row, Seen_eta, Part.row, Part_eta, Book.row, cB_held]
      exact fun hq => (hbv.1 rfl) ⟨(A hq).1.2.1.1, (A hq).1.2.1.2.1, (A hq).1.2.1.2.2.1⟩
    have o2 := Classical.not_not.1 fun h => Bool.noConfusion (hbv.2 h)
    simp (maxSteps := 2000000) only [bitvec_to_nat, reduceIte, Nat.reduceEqDiff, Nat.reduceAdd, Nat.reduceLeDiff, reduceCtorEq, Nat.reduceBEq, Nat.reduceLT, Nat.reduceMod, fmc, retG_ret, retQ_eq, retQ_eqN, retOk, keepB, re_tupl, orr_t, t_within, t_isName, t_number, t_zoneAt, t_who, t_ContainsS, t_all, t_tubeOk, t_seen, t_near, r_held, bXH, Zone.row, Box6.row, appE, rowsOf, srow, irow, Own.row, Own_eta, Seen.row, Seen_eta, Part.row, Part_eta, Book.row, cB_held]
    refine pc_impl_bookOk_3 t zs b (b.own.getD i default) i hz hs.1 hs.2.1 fun bv hbv => ?_
    cases bv
    case true =>
      simp (maxSteps := 2000000) only [bitvec_to_nat, reduceIte, Nat.reduceEqDiff, Nat.reduceAdd, Nat.reduceLeDiff, reduceCtorEq, Nat.reduceBEq, Nat.reduceLT, Nat.reduceMod, fmc, retG_ret, retQ_eq, retQ_eqN, retOk, keepB, re_tupl, orr_t, t_within, t_isName, t_number, t_zoneAt, t_who, t_ContainsS, t_all, t_tubeOk, t_seen, t_near, r_held, bXH, Zone.row, Box6.row, appE, rowsOf, srow, irow, Own.row, Own_eta, Seen.row, Seen_eta, Part.row, Part_eta, Book.row, cB_held]
      exact fun hq => (hbv.1 rfl) ⟨(A hq).1.2.1.2.2.2, (A hq).1.2.2.1⟩
    have o3 := Classical.not_not.1 fun h => Bool.noConfusion (hbv.2 h)
    simp (maxSteps := 2000000) only [bitvec_to_nat, reduceIte, Nat.reduceEqDiff, Nat.reduceAdd, Nat.reduceLeDiff, reduceCtorEq, Nat.reduceBEq, Nat.reduceLT, Nat.reduceMod, fmc, retG_ret, retQ_eq, retQ_eqN, retOk, keepB, re_tupl, orr_t, t_within, t_isName, t_number, t_zoneAt, t_who, t_ContainsS, t_all, t_tubeOk, t_seen, t_near, r_held, bXH, Zone.row, Box6.row, appE, rowsOf, srow, irow, Own.row, Own_eta, Seen.row, Seen_eta, Part.row, Part_eta, Book.row, cB_held]
    refine ⟨⟨hz, by omega⟩, ?_⟩
    refine loop_st (fun k : Nat => [(171, .int .i64 k)]) (fun _ => []) (fun k => k ≤ (b.own.getD i default).gr.length ∧ ∀ j, j < k → grAt (whoOf zs (b.own.getD i default).nx) (b.own.getD i default).gr j) (fun k => (b.own.getD i default).gr.length - k) (0) (by simp only [u_E0, u_E1, u_M0, u_M1, w_setE0, w_setE1, w_setM0, w_setM1, reduceIte, Nat.reduceEqDiff]; exact ⟨by repeat' (first | exact trivial | refine ⟨.inr rfl, ?_⟩), by repeat' (first | exact trivial | refine ⟨rfl, ?_⟩), by first | rfl | simp [closedB, refsIn, refsInL, refsInO, dom, refsInL_nr, *], by first | rfl | simp [keepB, dom]⟩) ?_ ?_
    · exact ⟨Nat.zero_le _, by intro j hj; omega⟩
    intro k hk NX2 hN2
    unfold l_impl_bookOk_0; simp (maxSteps := 2000000) only [bitvec_to_nat, reduceIte, Nat.reduceEqDiff, Nat.reduceAdd, Nat.reduceLeDiff, reduceCtorEq, Nat.reduceBEq, Nat.reduceLT, Nat.reduceMod, fmc, retG_ret, retQ_eq, retQ_eqN, retOk, keepB, re_tupl, orr_t, t_within, t_isName, t_number, t_zoneAt, t_who, t_ContainsS, t_all, t_tubeOk, t_seen, t_near, r_held, bXH, Zone.row, Box6.row, appE, rowsOf, srow, irow, Own.row, Own_eta, Seen.row, Seen_eta, Part.row, Part_eta, Book.row, cB_held]
    refine ⟨fun g2 => ⟨by omega, by omega, ?_⟩, fun g2 => ?_⟩
    · refine pc_impl_bookOk_4 t zs b (b.own.getD i default) i (whoOf zs (b.own.getD i default).nx) k (by omega) (by omega) (by omega) fun bv hbv => ?_
      cases bv
      case true =>
        simp (maxSteps := 2000000) only [bitvec_to_nat, reduceIte, Nat.reduceEqDiff, Nat.reduceAdd, Nat.reduceLeDiff, reduceCtorEq, Nat.reduceBEq, Nat.reduceLT, Nat.reduceMod, fmc, retG_ret, retQ_eq, retQ_eqN, retOk, keepB, re_tupl, orr_t, t_within, t_isName, t_number, t_zoneAt, t_who, t_ContainsS, t_all, t_tubeOk, t_seen, t_near, r_held, bXH, Zone.row, Box6.row, appE, rowsOf, srow, irow, Own.row, Own_eta, Seen.row, Seen_eta, Part.row, Part_eta, Book.row, cB_held]
        exact fun hq => (hbv.1 rfl) ((A hq).1.2.2.2.1 k (by omega))
      have o4 := Classical.not_not.1 fun h => Bool.noConfusion (hbv.2 h)
      simp (maxSteps := 2000000) only [bitvec_to_nat, reduceIte, Nat.reduceEqDiff, Nat.reduceAdd, Nat.reduceLeDiff, reduceCtorEq, Nat.reduceBEq, Nat.reduceLT, Nat.reduceMod, fmc, retG_ret, retQ_eq, retQ_eqN, retOk, keepB, re_tupl, orr_t, t_within, t_isName, t_number, t_zoneAt, t_who, t_ContainsS, t_all, t_tubeOk, t_seen, t_near, r_held, bXH, Zone.row, Box6.row, appE, rowsOf, srow, irow, Own.row, Own_eta, Seen.row, Seen_eta, Part.row, Part_eta, Book.row, cB_held]
      refine ⟨by omega, ?_⟩
      refine hN2 (k + 1) _ (by simp only [u_E0, u_E1, u_M0, u_M1, w_setE0, w_setE1, w_setM0, w_setM1, reduceIte, Nat.reduceEqDiff]; exact ⟨by repeat' (first | exact trivial | refine ⟨.inr rfl, ?_⟩), by repeat' (first | exact trivial | refine ⟨rfl, ?_⟩), by first | rfl | simp [closedB, refsIn, refsInL, refsInO, dom, refsInL_nr, *], by first | rfl | simp [keepB, dom]⟩) ?_ ?_
      · exact ⟨by omega, all_snoc hk.2 o4⟩
      · omega
    · refine pc_impl_bookOk_5 t zs b (b.own.getD i default) i (whoOf zs (b.own.getD i default).nx) k (by omega) (by omega) fun bv hbv => ?_
      cases bv
      case true =>
        simp (maxSteps := 2000000) only [bitvec_to_nat, reduceIte, Nat.reduceEqDiff, Nat.reduceAdd, Nat.reduceLeDiff, reduceCtorEq, Nat.reduceBEq, Nat.reduceLT, Nat.reduceMod, fmc, retG_ret, retQ_eq, retQ_eqN, retOk, keepB, re_tupl, orr_t, t_within, t_isName, t_number, t_zoneAt, t_who, t_ContainsS, t_all, t_tubeOk, t_seen, t_near, r_held, bXH, Zone.row, Box6.row, appE, rowsOf, srow, irow, Own.row, Own_eta, Seen.row, Seen_eta, Part.row, Part_eta, Book.row, cB_held]
        exact fun hq => (hbv.1 rfl) (A hq).1.2.2.2.2
      have o5 := Classical.not_not.1 fun h => Bool.noConfusion (hbv.2 h)
      simp (maxSteps := 2000000) only [bitvec_to_nat, reduceIte, Nat.reduceEqDiff, Nat.reduceAdd, Nat.reduceLeDiff, reduceCtorEq, Nat.reduceBEq, Nat.reduceLT, Nat.reduceMod, fmc, retG_ret, retQ_eq, retQ_eqN, retOk, keepB, re_tupl, orr_t, t_within, t_isName, t_number, t_zoneAt, t_who, t_ContainsS, t_all, t_tubeOk, t_seen, t_near, r_held, bXH, Zone.row, Box6.row, appE, rowsOf, srow, irow, Own.row, Own_eta, Seen.row, Seen_eta, Part.row, Part_eta, Book.row, cB_held]
      refine ⟨by omega, ?_⟩
      refine hN (i + 1) _ (by simp only [u_E0, u_E1, u_M0, u_M1, w_setE0, w_setE1, w_setM0, w_setM1, reduceIte, Nat.reduceEqDiff]; exact ⟨by repeat' (first | exact trivial | refine ⟨.inr rfl, ?_⟩), by repeat' (first | exact trivial | refine ⟨rfl, ?_⟩), by first | rfl | simp [closedB, refsIn, refsInL, refsInO, dom, refsInL_nr, *], by first | rfl | simp [keepB, dom]⟩) ?_ ?_
      · exact ⟨by omega, all_snoc hi.2 ⟨⟨o1.1, ⟨o2.1, o2.2.1, o2.2.2, o3.1⟩, o3.2, fun j hj => hk.2 j (by omega), o5⟩, o1.2⟩⟩
      · omega
  -- those that were seen
  have own : ownsOk zs b.own := ⟨by omega, fun j hj => hi.2 j (by omega)⟩
  clear hN hi
  refine loop_st (fun i : Nat => [(211, .int .i64 i)]) (fun _ => []) (fun i => i ≤ b.seen.length ∧ ∀ j, j < i → seenAt b.seen j) (fun i => b.seen.length - i) (0) (by simp only [u_E0, u_E1, u_M0, u_M1, w_setE0, w_setE1, w_setM0, w_setM1, reduceIte, Nat.reduceEqDiff]; exact ⟨by repeat' (first | exact trivial | refine ⟨.inr rfl, ?_⟩), by repeat' (first | exact trivial | refine ⟨rfl, ?_⟩), by first | rfl | simp [closedB, refsIn, refsInL, refsInO, dom, refsInL_nr, *], by first | rfl | simp [keepB, dom]⟩) ?_ ?_
  · exact ⟨Nat.zero_le _, by intro j hj; omega⟩
  intro i hi NX hN
  unfold l_impl_bookOk_2; simp (maxSteps := 2000000) only [bitvec_to_nat, reduceIte, Nat.reduceEqDiff, Nat.reduceAdd, Nat.reduceLeDiff, reduceCtorEq, Nat.reduceBEq, Nat.reduceLT, Nat.reduceMod, fmc, retG_ret, retQ_eq, retQ_eqN, retOk, keepB, re_tupl, orr_t, t_within, t_isName, t_number, t_zoneAt, t_who, t_ContainsS, t_all, t_tubeOk, t_seen, t_near, r_held, bXH, Zone.row, Box6.row, appE, rowsOf, srow, irow, Own.row, Own_eta, Seen.row, Seen_eta, Part.row, Part_eta, Book.row, cB_held]
  refine ⟨fun g1 => ⟨by omega, by omega, ?_⟩, fun g1 => ?_⟩
  · refine pc_impl_bookOk_6 t zs b i (by omega) hb3 fun bv hbv => ?_
    cases bv
    case true =>
      simp (maxSteps := 2000000) only [bitvec_to_nat, reduceIte, Nat.reduceEqDiff, Nat.reduceAdd, Nat.reduceLeDiff, reduceCtorEq, Nat.reduceBEq, Nat.reduceLT, Nat.reduceMod, fmc, retG_ret, retQ_eq, retQ_eqN, retOk, keepB, re_tupl, orr_t, t_within, t_isName, t_number, t_zoneAt, t_who, t_ContainsS, t_all, t_tubeOk, t_seen, t_near, r_held, bXH, Zone.row, Box6.row, appE, rowsOf, srow, irow, Own.row, Own_eta, Seen.row, Seen_eta, Part.row, Part_eta, Book.row, cB_held]
      exact fun hq => (hbv.1 rfl) (hq.2.2.2 i (by omega))
    have o1 := Classical.not_not.1 fun h => Bool.noConfusion (hbv.2 h)
    simp (maxSteps := 2000000) only [bitvec_to_nat, reduceIte, Nat.reduceEqDiff, Nat.reduceAdd, Nat.reduceLeDiff, reduceCtorEq, Nat.reduceBEq, Nat.reduceLT, Nat.reduceMod, fmc, retG_ret, retQ_eq, retQ_eqN, retOk, keepB, re_tupl, orr_t, t_within, t_isName, t_number, t_zoneAt, t_who, t_ContainsS, t_all, t_tubeOk, t_seen, t_near, r_held, bXH, Zone.row, Box6.row, appE, rowsOf, srow, irow, Own.row, Own_eta, Seen.row, Seen_eta, Part.row, Part_eta, Book.row, cB_held]
    refine ⟨by omega, ?_⟩
    refine hN (i + 1) _ (by simp only [u_E0, u_E1, u_M0, u_M1, w_setE0, w_setE1, w_setM0, w_setM1, reduceIte, Nat.reduceEqDiff]; exact ⟨by repeat' (first | exact trivial | refine ⟨.inr rfl, ?_⟩), by repeat' (first | exact trivial | refine ⟨rfl, ?_⟩), by first | rfl | simp [closedB, refsIn, refsInL, refsInO, dom, refsInL_nr, *], by first | rfl | simp [keepB, dom]⟩) ?_ ?_
    · exact ⟨by omega, all_snoc hi.2 o1⟩
    · omega
  -- the parts
  have seen : seenOk b.seen := ⟨by omega, fun j hj => hi.2 j (by omega)⟩
  clear hN hi
  refine loop_st (fun i : Nat => [(246, .int .i64 i)]) (fun _ => []) (fun i => i ≤ b.parts.length ∧ ∀ j, j < i → partAt zs b j) (fun i => b.parts.length - i) (0) (by simp only [u_E0, u_E1, u_M0, u_M1, w_setE0, w_setE1, w_setM0, w_setM1, reduceIte, Nat.reduceEqDiff]; exact ⟨by repeat' (first | exact trivial | refine ⟨.inr rfl, ?_⟩), by repeat' (first | exact trivial | refine ⟨rfl, ?_⟩), by first | rfl | simp [closedB, refsIn, refsInL, refsInO, dom, refsInL_nr, *], by first | rfl | simp [keepB, dom]⟩) ?_ ?_
  · exact ⟨Nat.zero_le _, by intro j hj; omega⟩
  intro i hi NX hN
  unfold l_impl_bookOk_4; simp (maxSteps := 2000000) only [bitvec_to_nat, reduceIte, Nat.reduceEqDiff, Nat.reduceAdd, Nat.reduceLeDiff, reduceCtorEq, Nat.reduceBEq, Nat.reduceLT, Nat.reduceMod, fmc, retG_ret, retQ_eq, retQ_eqN, retOk, keepB, re_tupl, orr_t, t_within, t_isName, t_number, t_zoneAt, t_who, t_ContainsS, t_all, t_tubeOk, t_seen, t_near, r_held, bXH, Zone.row, Box6.row, appE, rowsOf, srow, irow, Own.row, Own_eta, Seen.row, Seen_eta, Part.row, Part_eta, Book.row, cB_held]
  refine ⟨fun g1 => ⟨by omega, by omega, ?_⟩, fun g1 => ?_⟩
  · have hs := Book.small_part hb (i := i) (by omega)
    have A : bookOk zs b → partAt zs b i := fun h => h.2.1.2 i (by omega)
    unfold partAt at A
    refine pc_impl_bookOk_7 t zs b (b.parts.getD i default) i hz hb3 hs fun bv hbv => ?_
    cases bv
    case true =>
      simp (maxSteps := 2000000) only [bitvec_to_nat, reduceIte, Nat.reduceEqDiff, Nat.reduceAdd, Nat.reduceLeDiff, reduceCtorEq, Nat.reduceBEq, Nat.reduceLT, Nat.reduceMod, fmc, retG_ret, retQ_eq, retQ_eqN, retOk, keepB, re_tupl, orr_t, t_within, t_isName, t_number, t_zoneAt, t_who, t_ContainsS, t_all, t_tubeOk, t_seen, t_near, r_held, bXH, Zone.row, Box6.row, appE, rowsOf, srow, irow, Own.row, Own_eta, Seen.row, Seen_eta, Part.row, Part_eta, Book.row, cB_held]
      exact fun hq => (hbv.1 rfl) ⟨(A hq).1, (A hq).2.1, (A hq).2.2.1⟩
    have o1 := Classical.not_not.1 fun h => Bool.noConfusion (hbv.2 h)
    simp (maxSteps := 2000000) only [bitvec_to_nat, reduceIte, Nat.reduceEqDiff, Nat.reduceAdd, Nat.reduceLeDiff, reduceCtorEq, Nat.reduceBEq, Nat.reduceLT, Nat.reduceMod, fmc, retG_ret, retQ_eq, retQ_eqN, retOk, keepB, re_tupl, orr_t, t_within, t_isName, t_number, t_zoneAt, t_who, t_ContainsS, t_all, t_tubeOk, t_seen, t_near, r_held, bXH, Zone.row, Box6.row, appE, rowsOf, srow, irow, Own.row, Own_eta, Seen.row, Seen_eta, Part.row, Part_eta, Book.row, cB_held]
    refine ⟨fun g3 => ⟨by omega, by omega, by omega, ?_⟩, fun g3 => ⟨by omega, ?_⟩⟩
    · refine pc_impl_bookOk_8 t zs b (b.parts.getD i default) (b.parts.getD (i - 1) default) i (slt_total _ _) slt_asymm (fun e h => slt_irrefl _ (e ▸ h)) fun bv hbv => ?_
      cases bv
      case true =>
        simp (maxSteps := 2000000) only [bitvec_to_nat, reduceIte, Nat.reduceEqDiff, Nat.reduceAdd, Nat.reduceLeDiff, reduceCtorEq, Nat.reduceBEq, Nat.reduceLT, Nat.reduceMod, fmc, retG_ret, retQ_eq, retQ_eqN, retOk, keepB, re_tupl, orr_t, t_within, t_isName, t_number, t_zoneAt, t_who, t_ContainsS, t_all, t_tubeOk, t_seen, t_near, r_held, bXH, Zone.row, Box6.row, appE, rowsOf, srow, irow, Own.row, Own_eta, Seen.row, Seen_eta, Part.row, Part_eta, Book.row, cB_held]
        exact fun hq => (hbv.1 rfl) ((A hq).2.2.2.1 (by omega))
      have o2' := Classical.not_not.1 fun h => Bool.noConfusion (hbv.2 h)
      have o2 : 0 < i → (b.parts.getD (i - 1) default).before (b.parts.getD i default) := fun _ => o2'
      simp (maxSteps := 2000000) only [bitvec_to_nat, reduceIte, Nat.reduceEqDiff, Nat.reduceAdd, Nat.reduceLeDiff, reduceCtorEq, Nat.reduceBEq, Nat.reduceLT, Nat.reduceMod, fmc, retG_ret, retQ_eq, retQ_eqN, retOk, keepB, re_tupl, orr_t, t_within, t_isName, t_number, t_zoneAt, t_who, t_ContainsS, t_all, t_tubeOk, t_seen, t_near, r_held, bXH, Zone.row, Box6.row, appE, rowsOf, srow, irow, Own.row, Own_eta, Seen.row, Seen_eta, Part.row, Part_eta, Book.row, cB_held]
      refine ⟨by omega, ?_⟩
      (refine loop_wk (st' := ⟨[(2, .ptr 102 0), (3, .ptr 103 0), (15, .ptr 115 0), (244, .sl 0 3 (b.parts.map (Part.row 0))), (245, .int .i64 b.parts.length), (246, .int .i64 i), (302, .sl 0 3 ((b.parts.take i).map (Part.row 0))), (303, .int .i64 (min i b.parts.length : Nat)), (304, .int .i64 0)], [(102, .box [.sl t 5 (zs.map Zone.row)]), (103, .box [.sl 0 11 (b.own.map (Own.row 0)), .sl 0 3 (b.parts.map (Part.row 0)), .sl 0 2 (b.seen.map Seen.row)]), (115, .box [.str (b.parts.getD i default).fl, .int .i64 (b.parts.getD i default).nr, .sl 0 6 ((b.parts.getD i default).bx.map Box6.row)])]⟩) (by (exact ⟨by repeat' (first | exact trivial | refine ⟨.inr rfl, ?_⟩), by repeat' (first | exact trivial | refine ⟨rfl, ?_⟩), by first | rfl | simp [closedB, refsIn, refsInL, refsInO, dom, refsInL_nr, *], by first | rfl | simp [keepB, dom]⟩)) ?_
       refine loop_st (fun k : Nat => [(304, .int .i64 k)]) (fun _ => []) (fun k => k ≤ i ∧ ∀ j, j < k → (b.parts.getD j default).fl ≠ (b.parts.getD i default).fl → ¬ nearT (b.parts.getD j default).bx (b.parts.getD i default).bx) (fun k => i - k) (0) (by simp only [u_E0, u_E1, u_M0, u_M1, w_setE0, w_setE1, w_setM0, w_setM1, reduceIte, Nat.reduceEqDiff]; exact ⟨by repeat' (first | exact trivial | refine ⟨.inr rfl, ?_⟩), by repeat' (first | exact trivial | refine ⟨rfl, ?_⟩), by first | rfl | simp [closedB, refsIn, refsInL, refsInO, dom, refsInL_nr, *], by first | rfl | simp [keepB, dom]⟩) ?_ ?_
       · exact ⟨Nat.zero_le _, by intro j hj; omega⟩
       intro k hk NX2 hN2
       unfold l_impl_bookOk_3; simp (maxSteps := 2000000) only [bitvec_to_nat, reduceIte, Nat.reduceEqDiff, Nat.reduceAdd, Nat.reduceLeDiff, reduceCtorEq, Nat.reduceBEq, Nat.reduceLT, Nat.reduceMod, fmc, retG_ret, retQ_eq, retQ_eqN, retOk, keepB, re_tupl, orr_t, t_within, t_isName, t_number, t_zoneAt, t_who, t_ContainsS, t_all, t_tubeOk, t_seen, t_near, r_held, bXH, Zone.row, Box6.row, appE, rowsOf, srow, irow, Own.row, Own_eta, Seen.row, Seen_eta, Part.row, Part_eta, Book.row, cB_held]
       refine ⟨fun g2 => ⟨by omega, by omega, ?_⟩, fun g2 => ?_⟩
       · have hk3 : k < i := by omega
         simp only [getD_take hk3]
         have hs2 := Book.small_part hb (i := k) (by omega)
         refine pc_impl_bookOk_9 t zs b (b.parts.getD i default) (b.parts.getD k default) i k hs2 hs fun bv hbv => ?_
         cases bv
         case true =>
           simp (maxSteps := 2000000) only [bitvec_to_nat, reduceIte, Nat.reduceEqDiff, Nat.reduceAdd, Nat.reduceLeDiff, reduceCtorEq, Nat.reduceBEq, Nat.reduceLT, Nat.reduceMod, fmc, retG_ret, retQ_eq, retQ_eqN, retOk, keepB, re_tupl, orr_t, t_within, t_isName, t_number, t_zoneAt, t_who, t_ContainsS, t_all, t_tubeOk, t_seen, t_near, r_held, bXH, Zone.row, Box6.row, appE, rowsOf, srow, irow, Own.row, Own_eta, Seen.row, Seen_eta, Part.row, Part_eta, Book.row, cB_held]
           exact fun hq => (A hq).2.2.2.2 k hk3 (hbv.1 rfl).1 (hbv.1 rfl).2
         have o3 : ¬ ((b.parts.getD k default).fl ≠ (b.parts.getD i default).fl ∧ nearT (b.parts.getD k default).bx (b.parts.getD i default).bx) := by simpa using hbv
         simp (maxSteps := 2000000) only [bitvec_to_nat, reduceIte, Nat.reduceEqDiff, Nat.reduceAdd, Nat.reduceLeDiff, reduceCtorEq, Nat.reduceBEq, Nat.reduceLT, Nat.reduceMod, fmc, retG_ret, retQ_eq, retQ_eqN, retOk, keepB, re_tupl, orr_t, t_within, t_isName, t_number, t_zoneAt, t_who, t_ContainsS, t_all, t_tubeOk, t_seen, t_near, r_held, bXH, Zone.row, Box6.row, appE, rowsOf, srow, irow, Own.row, Own_eta, Seen.row, Seen_eta, Part.row, Part_eta, Book.row, cB_held]
         refine ⟨by omega, ?_⟩
         refine hN2 (k + 1) _ (by simp only [u_E0, u_E1, u_M0, u_M1, w_setE0, w_setE1, w_setM0, w_setM1, reduceIte, Nat.reduceEqDiff]; exact ⟨by repeat' (first | exact trivial | refine ⟨.inr rfl, ?_⟩), by repeat' (first | exact trivial | refine ⟨rfl, ?_⟩), by first | rfl | simp [closedB, refsIn, refsInL, refsInO, dom, refsInL_nr, *], by first | rfl | simp [keepB, dom]⟩) ?_ ?_
         · exact ⟨by omega, all_snoc hk.2 fun h1 h2 => o3 ⟨h1, h2⟩⟩
         · omega
       · refine ⟨by omega, ?_⟩
         refine hN (i + 1) _ (by simp only [u_E0, u_E1, u_M0, u_M1, w_setE0, w_setE1, w_setM0, w_setM1, reduceIte, Nat.reduceEqDiff]; exact ⟨by repeat' (first | exact trivial | refine ⟨.inr rfl, ?_⟩), by repeat' (first | exact trivial | refine ⟨rfl, ?_⟩), by first | rfl | simp [closedB, refsIn, refsInL, refsInO, dom, refsInL_nr, *], by first | rfl | simp [keepB, dom]⟩) ?_ ?_
         · exact ⟨by omega, all_snoc hi.2 ⟨o1.1, o1.2.1, o1.2.2, o2, fun k' h1 => hk.2 k' (by omega)⟩⟩
         · omega)
    · have o2 : 0 < i → (b.parts.getD (i - 1) default).before (b.parts.getD i default) := fun h => absurd h (by omega)
      (refine loop_wk (st' := ⟨[(2, .ptr 102 0), (3, .ptr 103 0), (15, .ptr 115 0), (244, .sl 0 3 (b.parts.map (Part.row 0))), (245, .int .i64 b.parts.length), (246, .int .i64 i), (302, .sl 0 3 ((b.parts.take i).map (Part.row 0))), (303, .int .i64 (min i b.parts.length : Nat)), (304, .int .i64 0)], [(102, .box [.sl t 5 (zs.map Zone.row)]), (103, .box [.sl 0 11 (b.own.map (Own.row 0)), .sl 0 3 (b.parts.map (Part.row 0)), .sl 0 2 (b.seen.map Seen.row)]), (115, .box [.str (b.parts.getD i default).fl, .int .i64 (b.parts.getD i default).nr, .sl 0 6 ((b.parts.getD i default).bx.map Box6.row)])]⟩) (by (exact ⟨by repeat' (first | exact trivial | refine ⟨.inr rfl, ?_⟩), by repeat' (first | exact trivial | refine ⟨rfl, ?_⟩), by first | rfl | simp [closedB, refsIn, refsInL, refsInO, dom, refsInL_nr, *], by first | rfl | simp [keepB, dom]⟩)) ?_
       refine loop_st (fun k : Nat => [(304, .int .i64 k)]) (fun _ => []) (fun k => k ≤ i ∧ ∀ j, j < k → (b.parts.getD j default).fl ≠ (b.parts.getD i default).fl → ¬ nearT (b.parts.getD j default).bx (b.parts.getD i default).bx) (fun k => i - k) (0) (by simp only [u_E0, u_E1, u_M0, u_M1, w_setE0, w_setE1, w_setM0, w_setM1, reduceIte, Nat.reduceEqDiff]; exact ⟨by repeat' (first | exact trivial | refine ⟨.inr rfl, ?_⟩), by repeat' (first | exact trivial | refine ⟨rfl, ?_⟩), by first | rfl | simp [closedB, refsIn, refsInL, refsInO, dom, refsInL_nr, *], by first | rfl | simp [keepB, dom]⟩) ?_ ?_
       · exact ⟨Nat.zero_le _, by intro j hj; omega⟩
       intro k hk NX2 hN2
       unfold l_impl_bookOk_3; simp (maxSteps := 2000000) only [bitvec_to_nat, reduceIte, Nat.reduceEqDiff, Nat.reduceAdd, Nat.reduceLeDiff, reduceCtorEq, Nat.reduceBEq, Nat.reduceLT, Nat.reduceMod, fmc, retG_ret, retQ_eq, retQ_eqN, retOk, keepB, re_tupl, orr_t, t_within, t_isName, t_number, t_zoneAt, t_who, t_ContainsS, t_all, t_tubeOk, t_seen, t_near, r_held, bXH, Zone.row, Box6.row, appE, rowsOf, srow, irow, Own.row, Own_eta, Seen.row, Seen_eta, Part.row, Part_eta, Book.row, cB_held]
       refine ⟨fun g2 => ⟨by omega, by omega, ?_⟩, fun g2 => ?_⟩
       · have hk3 : k < i := by omega
         simp only [getD_take hk3]
         have hs2 := Book.small_part hb (i := k) (by omega)
         refine pc_impl_bookOk_9 t zs b (b.parts.getD i default) (b.parts.getD k default) i k hs2 hs fun bv hbv => ?_
         cases bv
         case true =>
           simp (maxSteps := 2000000) only [bitvec_to_nat, reduceIte, Nat.reduceEqDiff, Nat.reduceAdd, Nat.reduceLeDiff, reduceCtorEq, Nat.reduceBEq, Nat.reduceLT, Nat.reduceMod, fmc, retG_ret, retQ_eq, retQ_eqN, retOk, keepB, re_tupl, orr_t, t_within, t_isName, t_number, t_zoneAt, t_who, t_ContainsS, t_all, t_tubeOk, t_seen, t_near, r_held, bXH, Zone.row, Box6.row, appE, rowsOf, srow, irow, Own.row, Own_eta, Seen.row, Seen_eta, Part.row, Part_eta, Book.row, cB_held]
           exact fun hq => (A hq).2.2.2.2 k hk3 (hbv.1 rfl).1 (hbv.1 rfl).2
         have o3 : ¬ ((b.parts.getD k default).fl ≠ (b.parts.getD i default).fl ∧ nearT (b.parts.getD k default).bx (b.parts.getD i default).bx) := by simpa using hbv
         simp (maxSteps := 2000000) only [bitvec_to_nat, reduceIte, Nat.reduceEqDiff, Nat.reduceAdd, Nat.reduceLeDiff, reduceCtorEq, Nat.reduceBEq, Nat.reduceLT, Nat.reduceMod, fmc, retG_ret, retQ_eq, retQ_eqN, retOk, keepB, re_tupl, orr_t, t_within, t_isName, t_number, t_zoneAt, t_who, t_ContainsS, t_all, t_tubeOk, t_seen, t_near, r_held, bXH, Zone.row, Box6.row, appE, rowsOf, srow, irow, Own.row, Own_eta, Seen.row, Seen_eta, Part.row, Part_eta, Book.row, cB_held]
         refine ⟨by omega, ?_⟩
         refine hN2 (k + 1) _ (by simp only [u_E0, u_E1, u_M0, u_M1, w_setE0, w_setE1, w_setM0, w_setM1, reduceIte, Nat.reduceEqDiff]; exact ⟨by repeat' (first | exact trivial | refine ⟨.inr rfl, ?_⟩), by repeat' (first | exact trivial | refine ⟨rfl, ?_⟩), by first | rfl | simp [closedB, refsIn, refsInL, refsInO, dom, refsInL_nr, *], by first | rfl | simp [keepB, dom]⟩) ?_ ?_
         · exact ⟨by omega, all_snoc hk.2 fun h1 h2 => o3 ⟨h1, h2⟩⟩
         · omega
       · refine ⟨by omega, ?_⟩
         refine hN (i + 1) _ (by simp only [u_E0, u_E1, u_M0, u_M1, w_setE0, w_setE1, w_setM0, w_setM1, reduceIte, Nat.reduceEqDiff]; exact ⟨by repeat' (first | exact trivial | refine ⟨.inr rfl, ?_⟩), by repeat' (first | exact trivial | refine ⟨rfl, ?_⟩), by first | rfl | simp [closedB, refsIn, refsInL, refsInO, dom, refsInL_nr, *], by first | rfl | simp [keepB, dom]⟩) ?_ ?_
         · exact ⟨by omega, all_snoc hi.2 ⟨o1.1, o1.2.1, o1.2.2, o2, fun k' h1 => hk.2 k' (by omega)⟩⟩
         · omega)
  · exact ⟨own, ⟨by omega, fun j hj => hi.2 j (by omega)⟩, seen⟩
end
end Go.Ve

namespace Go.Ve
noncomputable section
open Go.Proofs
set_option maxRecDepth 100000
theorem pw_next {α : Type} [Inhabited α] {R : α → α → Prop} (tr : ∀ a b c, R a b → R b c → R a c) {l : List α} (h : ∀ i, 0 < i → i < l.length → R (l.getD (i - 1) default) (l.getD i default)) : l.Pairwise R := by
  have key : ∀ j i, i < j → j < l.length → R (l.getD i default) (l.getD j default) := by
    intro j
    induction j with
    | zero => intro i h1; omega
    | succ j ih =>
      intro i h1 h2
      have h3 := h (j + 1) (by omega) h2
      simp only [Nat.add_sub_cancel] at h3
      by_cases e : i = j
      · subst e; exact h3
      · exact tr _ _ _ (ih i (by omega) (by omega)) h3
  rw [List.pairwise_iff_getElem]
  intro i j hi hj hij
  have := key j i hij hj
  simpa [hi, hj] using this
theorem nd_len : ∀ {a b : List ByteArray}, a.Pairwise (· ≠ ·) → (∀ x ∈ a, x ∈ b) → a.length ≤ b.length
  | [], _, _, _ => Nat.zero_le _
  | x :: a, b, ha, h => by
    obtain ⟨h1, h2⟩ := List.pairwise_cons.1 ha
    have ih := nd_len (b := b.filter fun y => decide (¬ y = x)) h2 fun y hy => by
      rw [List.mem_filter]
      exact ⟨h y (by simp [hy]), by simpa using (h1 y hy).symm⟩
    have hx : x ∈ b := h x (by simp)
    have : (b.filter fun y => decide (¬ y = x)).length < b.length := by
      refine List.length_filter_lt_length_iff_exists.2 ⟨x, hx, by simp⟩
    simp only [List.length_cons]; omega
theorem gr_nd {wh gr : List ByteArray} (h : ∀ i, i < gr.length → grAt wh gr i) : gr.Pairwise (· ≠ ·) :=
  (pw_next (R := slt) (fun _ _ _ => slt_trans) fun i h0 hi => (h i hi).2 h0).imp fun {a b} (h : slt a b) (e : a = b) => by subst e; exact slt_irrefl _ h
theorem zone_pw {zs : List Zone} (h : zonesOk zs) : zs.Pairwise fun a b => slt a.nm b.nm :=
  pw_next (R := fun a b : Zone => slt a.nm b.nm) (fun _ _ _ => slt_trans) fun i h0 hi => (h.2 i hi).2.1 h0
theorem who_nd {zs : List Zone} (h : zonesOk zs) (tu : List Box6) : (whoOf zs tu).Pairwise (· ≠ ·) := by
  unfold whoOf
  rw [List.pairwise_map]
  exact ((zone_pw h).filter _).imp fun {a b} (h : slt a.nm b.nm) (e : a.nm = b.nm) => by rw [e] at h; exact slt_irrefl _ h
theorem gr_mem {wh gr : List ByteArray} (h : ∀ i, i < gr.length → grAt wh gr i) : ∀ x ∈ gr, x ∈ wh := by
  intro x hx
  obtain ⟨i, hi, rfl⟩ := List.mem_iff_getElem.1 hx
  have := (h i hi).1
  simpa [hi] using this
theorem allIn_iff {gr wh : List ByteArray} : allIn gr wh ↔ ∀ x ∈ wh, x ∈ gr := by
  unfold allIn
  constructor
  · intro h x hx
    obtain ⟨i, hi, rfl⟩ := List.mem_iff_getElem.1 hx
    have := h i hi
    simpa [hi] using this
  · intro h i hi
    exact h _ (by simp [hi])
theorem gr_len {wh gr : List ByteArray} (hw : wh.Pairwise (· ≠ ·)) (h : ∀ i, i < gr.length → grAt wh gr i) : gr.length = wh.length ↔ allIn gr wh := by
  have h1 := nd_len (gr_nd h) (gr_mem h)
  rw [allIn_iff]
  constructor
  · intro e x hx
    refine Classical.byContradiction fun hn => ?_
    have := nd_len (a := x :: gr) (b := wh) (List.pairwise_cons.2 ⟨fun y hy e => hn (e ▸ hy), gr_nd h⟩) (fun y hy => by
      rcases List.mem_cons.1 hy with rfl | hy
      · exact hx
      · exact gr_mem h y hy)
    simp only [List.length_cons] at this; omega
  · intro k
    have := nd_len hw k
    omega
instance (zs : List Zone) (o : Own) : Decidable (ownOk4 zs o) := Classical.propDecidable _
theorem c_sHeld (t t' : Nat) (zs : List Zone) (n : Int) (tu : List Box6) (hq : zonesOk zs) (hz : zs.length ≤ 4611686018427387904) (hl : tu.length ≤ 4611686018427387904) : Contract P 134 [.sl t 5 (zs.map Zone.row), .int .i64 n, .sl t' 6 (tu.map Box6.row)] [] (.bool (decide (heldOk zs n tu))) [] := by
  refine fn_sound ((Env.nil P).add 65 t_sTubeOk h_sTubeOk) hm k_spec_l33TubeOk (nlb rfl) rfl ?_; unfold s_spec_l33TubeOk; simp (maxSteps := 2000000) only [bitvec_to_nat, reduceIte, Nat.reduceEqDiff, Nat.reduceAdd, Nat.reduceLeDiff, reduceCtorEq, Nat.reduceBEq, Nat.reduceLT, Nat.reduceMod, fmc, t_sTubeOk, bXH, Zone.row, Box6.row, appE, rowsOf, srow, irow, Own.row, Own_eta, Seen.row, Seen_eta, Part.row, Part_eta, Book.row]
  refine ⟨fun h => ?_, fun h => ⟨⟨hz, hl⟩, ?_⟩⟩
  · rw [decide_eq_decide]; unfold heldOk; constructor
    · intro h2; exact ⟨fun _ => by omega, fun h3 => absurd h h3⟩
    · intro h2; have := h2.1 h; omega
  · rw [decide_eq_decide]; unfold heldOk; grind
def t_sHeld : List AV → Option (Prop × AV)
  | [.sl zst 5 zsx, .int .i64 n, .sl tut 6 tux] => some ((((zsx.map unZone).map Zone.row = zsx) ∧ ((tux.map unBox).map Box6.row = tux)) ∧ (zonesOk (zsx.map unZone) ∧ (zsx.map unZone).length ≤ 4611686018427387904 ∧ (tux.map unBox).length ≤ 4611686018427387904), .bool (decide (heldOk (zsx.map unZone) n (tux.map unBox))))
  | _ => none
theorem h_sHeld : ∀ args p v, t_sHeld args = some (p, v) → p → Contract P 134 args [] v [] ∧ noref v = true ∧ No99 v := by
  intro args p v h1 h2
  unfold t_sHeld at h1
  split at h1
  · rename_i zst zsx n tut tux
    cases h1
    obtain ⟨⟨e0, e1⟩, HP⟩ := h2
    have := c_sHeld zst tut (zsx.map unZone) n (tux.map unBox) HP.1 HP.2.1 HP.2.2
    exact ⟨by simpa only [e0, e1] using this, rfl, trivial⟩
  · cases h1
set_option maxHeartbeats 400000 in
theorem pc_spec_l33GrantedOk_0 (o : Own) (wh : List ByteArray) (i k : Nat) (c : Bool) {w23 : AV} {Q : XT → St → Prop} (hi : i < o.gr.length) (hk : k < wh.length) (hQ : ∀ bv : Bool, (bv = true ↔ (c = true ∨ wh.getD k default = o.gr.getD i default)) → Q .normal ⟨[(3, .ptr 103 0), (5, .sl 0 1 (wh.map srow)), (6, .int .i64 i), (7, .bool bv), (8, .int .i64 k)], [(103, .box [.str o.fl, .int .i64 o.st, .int .i64 o.tn, .str o.dst, .int .i64 o.la, .int .i64 o.nr, .sl 0 6 (o.tu.map Box6.row), .int .i64 o.wi, .sl 0 6 (o.nx.map Box6.row), .sl 0 1 (o.gr.map srow), .bool o.sent])]⟩) : SCode.wp ((Env.nil P).add 81 t_sWho h_sWho) p_spec_l33GrantedOk_0 Q ⟨[(3, .ptr 103 0), (5, .sl 0 1 (wh.map srow)), (6, .int .i64 i), (7, .bool c), (8, .int .i64 k), (23, w23)], [(103, .box [.str o.fl, .int .i64 o.st, .int .i64 o.tn, .str o.dst, .int .i64 o.la, .int .i64 o.nr, .sl 0 6 (o.tu.map Box6.row), .int .i64 o.wi, .sl 0 6 (o.nx.map Box6.row), .sl 0 1 (o.gr.map srow), .bool o.sent])]⟩ := by
  cases c
  all_goals (unfold p_spec_l33GrantedOk_0; simp (maxSteps := 2000000) only [bitvec_to_nat, reduceIte, Nat.reduceEqDiff, Nat.reduceAdd, Nat.reduceLeDiff, reduceCtorEq, Nat.reduceBEq, Nat.reduceLT, Nat.reduceMod, fmc, t_sWho, bXH, Zone.row, Box6.row, appE, rowsOf, srow, irow, Own.row, Own_eta, Seen.row, Seen_eta, Part.row, Part_eta, Book.row])
  repeat' (first | with_reducible apply And.intro | with_reducible intro _)
  all_goals first
    | omega
    | (refine hQ _ ?_
       first
         | grind []
         | (simp; grind []))
    | grind []
set_option maxHeartbeats 400000 in
theorem pc_spec_l33GrantedOk_1 (o : Own) (wh : List ByteArray) (i k : Nat) (c : Bool) {w23 : AV} {Q : XT → St → Prop} (hi : i < o.gr.length) (hl : o.gr.length ≤ 1048576) (hQ : ∀ bv : Bool, (bv = true ↔ ¬ (c = true ∧ (0 < i → slt (o.gr.getD (i - 1) default) (o.gr.getD i default)))) → Q .normal ⟨[(3, .ptr 103 0), (5, .sl 0 1 (wh.map srow)), (6, .int .i64 i), (58, .bool bv)], [(103, .box [.str o.fl, .int .i64 o.st, .int .i64 o.tn, .str o.dst, .int .i64 o.la, .int .i64 o.nr, .sl 0 6 (o.tu.map Box6.row), .int .i64 o.wi, .sl 0 6 (o.nx.map Box6.row), .sl 0 1 (o.gr.map srow), .bool o.sent])]⟩) : SCode.wp ((Env.nil P).add 81 t_sWho h_sWho) p_spec_l33GrantedOk_1 Q ⟨[(3, .ptr 103 0), (5, .sl 0 1 (wh.map srow)), (6, .int .i64 i), (7, .bool c), (8, .int .i64 k), (23, w23)], [(103, .box [.str o.fl, .int .i64 o.st, .int .i64 o.tn, .str o.dst, .int .i64 o.la, .int .i64 o.nr, .sl 0 6 (o.tu.map Box6.row), .int .i64 o.wi, .sl 0 6 (o.nx.map Box6.row), .sl 0 1 (o.gr.map srow), .bool o.sent])]⟩ := by
  cases c
  all_goals (unfold p_spec_l33GrantedOk_1; simp (maxSteps := 2000000) only [bitvec_to_nat, reduceIte, Nat.reduceEqDiff, Nat.reduceAdd, Nat.reduceLeDiff, reduceCtorEq, Nat.reduceBEq, Nat.reduceLT, Nat.reduceMod, fmc, t_sWho, bXH, Zone.row, Box6.row, appE, rowsOf, srow, irow, Own.row, Own_eta, Seen.row, Seen_eta, Part.row, Part_eta, Book.row])
  repeat' (first | with_reducible apply And.intro | with_reducible intro _)
  all_goals first
    | omega
    | (refine hQ _ ?_
       first
         | grind []
         | (simp; grind []))
    | grind []
set_option maxHeartbeats 400000 in
theorem pc_spec_l33GrantedOk_2 (o : Own) (wh : List ByteArray) (i k : Nat) (c : Bool) {w17 : AV} {Q : XT → St → Prop}  (hQ : ∀ bv : Bool, (bv = true ↔ (o.sent = true ↔ 0 < o.wi ∧ o.gr.length = wh.length)) → Q .normal ⟨[(4, .bool bv)], [(103, .box [.str o.fl, .int .i64 o.st, .int .i64 o.tn, .str o.dst, .int .i64 o.la, .int .i64 o.nr, .sl 0 6 (o.tu.map Box6.row), .int .i64 o.wi, .sl 0 6 (o.nx.map Box6.row), .sl 0 1 (o.gr.map srow), .bool o.sent])]⟩) : SCode.wp ((Env.nil P).add 81 t_sWho h_sWho) p_spec_l33GrantedOk_2 Q ⟨[(3, .ptr 103 0), (5, .sl 0 1 (wh.map srow)), (6, .int .i64 i), (17, w17)], [(103, .box [.str o.fl, .int .i64 o.st, .int .i64 o.tn, .str o.dst, .int .i64 o.la, .int .i64 o.nr, .sl 0 6 (o.tu.map Box6.row), .int .i64 o.wi, .sl 0 6 (o.nx.map Box6.row), .sl 0 1 (o.gr.map srow), .bool o.sent])]⟩ := by
  all_goals (unfold p_spec_l33GrantedOk_2; simp (maxSteps := 2000000) only [bitvec_to_nat, reduceIte, Nat.reduceEqDiff, Nat.reduceAdd, Nat.reduceLeDiff, reduceCtorEq, Nat.reduceBEq, Nat.reduceLT, Nat.reduceMod, fmc, t_sWho, bXH, Zone.row, Box6.row, appE, rowsOf, srow, irow, Own.row, Own_eta, Seen.row, Seen_eta, Part.row, Part_eta, Book.row])
  repeat' (first | with_reducible apply And.intro | with_reducible intro _)
  all_goals first
    | omega
    | (refine hQ _ ?_
       first
         | grind []
         | (simp; grind []))
    | grind []
theorem c_sGranted (t : Nat) (zs : List Zone) (o : Own) (hq : zonesOk zs) (ho : o.small) (hz : zs.length ≤ 4294967295) : Contract P 135 [.sl t 5 (zs.map Zone.row), .agg (o.row 0)] [] (.bool (decide (ownOk4 zs o))) [] := by
  unfold Own.small at ho
  have hw := who_len zs o.nx
  simp only [Own.row]
  refine fn_sound ((Env.nil P).add 81 t_sWho h_sWho) hm k_spec_l33GrantedOk (nlb rfl) rfl ?_; unfold s_spec_l33GrantedOk; simp (maxSteps := 2000000) only [bitvec_to_nat, reduceIte, Nat.reduceEqDiff, Nat.reduceAdd, Nat.reduceLeDiff, reduceCtorEq, Nat.reduceBEq, Nat.reduceLT, Nat.reduceMod, fmc, t_sWho, bXH, Zone.row, Box6.row, appE, rowsOf, srow, irow, Own.row, Own_eta, Seen.row, Seen_eta, Part.row, Part_eta, Book.row]
  refine ⟨⟨hz, by omega⟩, ?_⟩
  refine loop_st (fun i : Nat => [(6, .int .i64 i)]) (fun _ => []) (fun i => i ≤ o.gr.length ∧ ∀ j, j < i → grAt (whoOf zs o.nx) o.gr j) (fun i => o.gr.length - i) (0) (by simp only [u_E0, u_E1, u_M0, u_M1, w_setE0, w_setE1, w_setM0, w_setM1, reduceIte, Nat.reduceEqDiff]; exact ⟨by repeat' (first | exact trivial | refine ⟨.inr rfl, ?_⟩), by repeat' (first | exact trivial | refine ⟨rfl, ?_⟩), by first | rfl | simp [closedB, refsIn, refsInL, refsInO, dom, refsInL_nr, *], by first | rfl | simp [keepB, dom]⟩) ?_ ?_
  · exact ⟨Nat.zero_le _, by intro j hj; omega⟩
  intro i hi NX hN
  unfold l_spec_l33GrantedOk_1; simp (maxSteps := 2000000) only [bitvec_to_nat, reduceIte, Nat.reduceEqDiff, Nat.reduceAdd, Nat.reduceLeDiff, reduceCtorEq, Nat.reduceBEq, Nat.reduceLT, Nat.reduceMod, fmc, t_sWho, bXH, Zone.row, Box6.row, appE, rowsOf, srow, irow, Own.row, Own_eta, Seen.row, Seen_eta, Part.row, Part_eta, Book.row]
  refine ⟨fun g1 => ?_, fun g1 => ?_⟩
  · refine loop_st (fun a : Nat × Bool => [(7, .bool a.2), (8, .int .i64 a.1)]) (fun _ => []) (fun a => a.1 ≤ (whoOf zs o.nx).length ∧ (a.2 = true ↔ ∃ k, k < a.1 ∧ (whoOf zs o.nx).getD k default = o.gr.getD i default)) (fun a => (whoOf zs o.nx).length - a.1) ((0, false)) (by simp only [u_E0, u_E1, u_M0, u_M1, w_setE0, w_setE1, w_setM0, w_setM1, reduceIte, Nat.reduceEqDiff]; exact ⟨by repeat' (first | exact trivial | refine ⟨.inr rfl, ?_⟩), by repeat' (first | exact trivial | refine ⟨rfl, ?_⟩), by first | rfl | simp [closedB, refsIn, refsInL, refsInO, dom, refsInL_nr, *], by first | rfl | simp [keepB, dom]⟩) ?_ ?_
    · exact ⟨Nat.zero_le _, by simp⟩
    rintro ⟨k, c⟩ hk NX2 hN2
    unfold l_spec_l33GrantedOk_0; simp (maxSteps := 2000000) only [bitvec_to_nat, reduceIte, Nat.reduceEqDiff, Nat.reduceAdd, Nat.reduceLeDiff, reduceCtorEq, Nat.reduceBEq, Nat.reduceLT, Nat.reduceMod, fmc, t_sWho, bXH, Zone.row, Box6.row, appE, rowsOf, srow, irow, Own.row, Own_eta, Seen.row, Seen_eta, Part.row, Part_eta, Book.row]
    simp only at hk
    refine ⟨fun g2 => ?_, fun g2 => ?_⟩
    · refine pc_spec_l33GrantedOk_0 o (whoOf zs o.nx) i k c (by omega) (by omega) fun bv hbv => ?_
      simp (maxSteps := 2000000) only [bitvec_to_nat, reduceIte, Nat.reduceEqDiff, Nat.reduceAdd, Nat.reduceLeDiff, reduceCtorEq, Nat.reduceBEq, Nat.reduceLT, Nat.reduceMod, fmc, t_sWho, bXH, Zone.row, Box6.row, appE, rowsOf, srow, irow, Own.row, Own_eta, Seen.row, Seen_eta, Part.row, Part_eta, Book.row]
      refine ⟨by omega, ?_⟩
      refine hN2 ((k + 1, bv)) _ (by simp only [u_E0, u_E1, u_M0, u_M1, w_setE0, w_setE1, w_setM0, w_setM1, reduceIte, Nat.reduceEqDiff]; exact ⟨by repeat' (first | exact trivial | refine ⟨.inr rfl, ?_⟩), by repeat' (first | exact trivial | refine ⟨rfl, ?_⟩), by first | rfl | simp [closedB, refsIn, refsInL, refsInO, dom, refsInL_nr, *], by first | rfl | simp [keepB, dom]⟩) ?_ ?_
      · refine ⟨by simp only; omega, ?_⟩
        rw [hbv, hk.2]
        constructor
        · rintro (⟨j, h1, h2⟩ | h)
          · exact ⟨j, by simp only; omega, h2⟩
          · exact ⟨k, by simp only; omega, h⟩
        · rintro ⟨j, h1, h2⟩
          simp only at h1
          by_cases e : j = k
          · subst e; exact .inr h2
          · exact .inl ⟨j, by omega, h2⟩
      · simp only; omega
    · have hc : c = true ↔ o.gr.getD i default ∈ whoOf zs o.nx := by
        rw [hk.2]
        constructor
        · rintro ⟨j, h1, h2⟩
          rw [← h2]
          have h3 : j < (whoOf zs o.nx).length := by omega
          rw [List.getD_eq_getElem?_getD, List.getElem?_eq_getElem h3]; simp
        · intro h
          obtain ⟨j, h1, h2⟩ := List.mem_iff_getElem.1 h
          exact ⟨j, by omega, by simp [h1, h2]⟩
      refine pc_spec_l33GrantedOk_1 o (whoOf zs o.nx) i k c (by omega) (by omega) fun bv hbv => ?_
      rw [hc] at hbv
      cases bv
      case true =>
        simp (maxSteps := 2000000) only [bitvec_to_nat, reduceIte, Nat.reduceEqDiff, Nat.reduceAdd, Nat.reduceLeDiff, reduceCtorEq, Nat.reduceBEq, Nat.reduceLT, Nat.reduceMod, fmc, t_sWho, bXH, Zone.row, Box6.row, appE, rowsOf, srow, irow, Own.row, Own_eta, Seen.row, Seen_eta, Part.row, Part_eta, Book.row]
        exact fun hq => (hbv.1 rfl) (hq.1 i (by omega))
      have o1 : grAt (whoOf zs o.nx) o.gr i := Classical.not_not.1 fun h => Bool.noConfusion (hbv.2 h)
      simp (maxSteps := 2000000) only [bitvec_to_nat, reduceIte, Nat.reduceEqDiff, Nat.reduceAdd, Nat.reduceLeDiff, reduceCtorEq, Nat.reduceBEq, Nat.reduceLT, Nat.reduceMod, fmc, t_sWho, bXH, Zone.row, Box6.row, appE, rowsOf, srow, irow, Own.row, Own_eta, Seen.row, Seen_eta, Part.row, Part_eta, Book.row]
      refine ⟨by omega, ?_⟩
      refine hN (i + 1) _ (by simp only [u_E0, u_E1, u_M0, u_M1, w_setE0, w_setE1, w_setM0, w_setM1, reduceIte, Nat.reduceEqDiff]; exact ⟨by repeat' (first | exact trivial | refine ⟨.inr rfl, ?_⟩), by repeat' (first | exact trivial | refine ⟨rfl, ?_⟩), by first | rfl | simp [closedB, refsIn, refsInL, refsInO, dom, refsInL_nr, *], by first | rfl | simp [keepB, dom]⟩) ?_ ?_
      · exact ⟨by omega, all_snoc hi.2 o1⟩
      · omega
  · have hall : ∀ j, j < o.gr.length → grAt (whoOf zs o.nx) o.gr j := fun j hj => hi.2 j (by omega)
    refine pc_spec_l33GrantedOk_2 o (whoOf zs o.nx) i 0 false fun bv hbv => ?_
    rw [gr_len (who_nd hq o.nx) hall] at hbv
    simp (maxSteps := 2000000) only [bitvec_to_nat, reduceIte, Nat.reduceEqDiff, Nat.reduceAdd, Nat.reduceLeDiff, reduceCtorEq, Nat.reduceBEq, Nat.reduceLT, Nat.reduceMod, fmc, t_sWho, bXH, Zone.row, Box6.row, appE, rowsOf, srow, irow, Own.row, Own_eta, Seen.row, Seen_eta, Part.row, Part_eta, Book.row]
    have : (ownOk4 zs o ↔ bv = true) := by
      rw [hbv]; unfold ownOk4
      exact ⟨fun h => h.2, fun h => ⟨hall, h⟩⟩
    simp [this]
def t_sGranted : List AV → Option (Prop × AV)
  | [.sl zst 5 zsx, .agg [.str o_fl, .int .i64 o_st, .int .i64 o_tn, .str o_dst, .int .i64 o_la, .int .i64 o_nr, .sl 0 6 o_tu, .int .i64 o_wi, .sl 0 6 o_nx, .sl 0 1 o_gr, .bool o_sent]] => some ((((zsx.map unZone).map Zone.row = zsx) ∧ ((o_tu.map unBox).map Box6.row = o_tu) ∧ ((o_nx.map unBox).map Box6.row = o_nx) ∧ ((o_gr.map unS).map srow = o_gr)) ∧ (zonesOk (zsx.map unZone) ∧ Own.small (Own.mk o_fl o_st o_tn o_dst o_la o_nr (o_tu.map unBox) o_wi (o_nx.map unBox) (o_gr.map unS) o_sent) ∧ (zsx.map unZone).length ≤ 4294967295), .bool (decide (ownOk4 (zsx.map unZone) (Own.mk o_fl o_st o_tn o_dst o_la o_nr (o_tu.map unBox) o_wi (o_nx.map unBox) (o_gr.map unS) o_sent))))
  | _ => none
theorem h_sGranted : ∀ args p v, t_sGranted args = some (p, v) → p → Contract P 135 args [] v [] ∧ noref v = true ∧ No99 v := by
  intro args p v h1 h2
  unfold t_sGranted at h1
  split at h1
  · rename_i zst zsx o_fl o_st o_tn o_dst o_la o_nr o_tu o_wi o_nx o_gr o_sent
    cases h1
    obtain ⟨⟨e0, e1, e2, e3⟩, HP⟩ := h2
    have := c_sGranted zst (zsx.map unZone) (Own.mk o_fl o_st o_tn o_dst o_la o_nr (o_tu.map unBox) o_wi (o_nx.map unBox) (o_gr.map unS) o_sent) HP.1 HP.2.1 HP.2.2
    exact ⟨by simpa only [e0, e1, e2, e3, Own.row] using this, rfl, trivial⟩
  · cases h1
end
end Go.Ve

namespace Go.Ve
noncomputable section
open Go.Proofs
set_option maxRecDepth 100000
set_option maxHeartbeats 400000 in
theorem pc_spec_l33OwnOk_0 (t : Nat) (zs : List Zone) (o : Own) {Q : XT → St → Prop}  (hQ : ∀ bv : Bool, (bv = true ↔ ¬ ownOk1 zs o) → Q .normal ⟨[(0, .sl t 5 (zs.map Zone.row)), (3, .ptr 103 0), (54, .bool bv)], [(103, .box [.str o.fl, .int .i64 o.st, .int .i64 o.tn, .str o.dst, .int .i64 o.la, .int .i64 o.nr, .sl 0 6 (o.tu.map Box6.row), .int .i64 o.wi, .sl 0 6 (o.nx.map Box6.row), .sl 0 1 (o.gr.map srow), .bool o.sent])]⟩) : SCode.wp ((((((Env.nil P).add 70 t_l31NameOk h_l31NameOk).add 80 t_l31In h_l31In).add 36 t_sZoneAt h_sZoneAt).add 134 t_sHeld h_sHeld).add 135 t_sGranted h_sGranted) p_spec_l33OwnOk_0 Q ⟨[(0, .sl t 5 (zs.map Zone.row)), (3, .ptr 103 0)], [(103, .box [.str o.fl, .int .i64 o.st, .int .i64 o.tn, .str o.dst, .int .i64 o.la, .int .i64 o.nr, .sl 0 6 (o.tu.map Box6.row), .int .i64 o.wi, .sl 0 6 (o.nx.map Box6.row), .sl 0 1 (o.gr.map srow), .bool o.sent])]⟩ := by
  all_goals (unfold p_spec_l33OwnOk_0; simp (maxSteps := 2000000) only [bitvec_to_nat, reduceIte, Nat.reduceEqDiff, Nat.reduceAdd, Nat.reduceLeDiff, reduceCtorEq, Nat.reduceBEq, Nat.reduceLT, Nat.reduceMod, fmc, t_l31NameOk, t_l31In, t_sZoneAt, t_sHeld, t_sGranted, bXH, Zone.row, Box6.row, appE, rowsOf, srow, irow, Own.row, Own_eta, Seen.row, Seen_eta, Part.row, Part_eta, Book.row])
  repeat' (first | with_reducible apply And.intro | with_reducible intro _)
  all_goals first
    | omega
    | (refine hQ _ ?_
       first
         | grind [ownOk1]
         | (simp; grind [ownOk1]))
    | grind [ownOk1]
set_option maxHeartbeats 400000 in
theorem pc_spec_l33OwnOk_1 (t : Nat) (zs : List Zone) (o : Own) {w54 : AV} {Q : XT → St → Prop} (hz : zs.length ≤ 4294967295) (hw : 0 ≤ o.wi) (hQ : ∀ bv : Bool, (bv = true ↔ ¬ ((o.st = 1 ↔ o.dst = ⟨#[]⟩) ∧ (o.st ≠ 1 → 0 ≤ zAt zs o.dst) ∧ (o.st ≠ 1 → o.wi = 0) ∧ (o.st = 2 → o.nr ≠ 0))) → Q .normal ⟨[(0, .sl t 5 (zs.map Zone.row)), (3, .ptr 103 0), (93, .bool bv)], [(103, .box [.str o.fl, .int .i64 o.st, .int .i64 o.tn, .str o.dst, .int .i64 o.la, .int .i64 o.nr, .sl 0 6 (o.tu.map Box6.row), .int .i64 o.wi, .sl 0 6 (o.nx.map Box6.row), .sl 0 1 (o.gr.map srow), .bool o.sent])]⟩) : SCode.wp ((((((Env.nil P).add 70 t_l31NameOk h_l31NameOk).add 80 t_l31In h_l31In).add 36 t_sZoneAt h_sZoneAt).add 134 t_sHeld h_sHeld).add 135 t_sGranted h_sGranted) p_spec_l33OwnOk_1 Q ⟨[(0, .sl t 5 (zs.map Zone.row)), (3, .ptr 103 0), (54, w54)], [(103, .box [.str o.fl, .int .i64 o.st, .int .i64 o.tn, .str o.dst, .int .i64 o.la, .int .i64 o.nr, .sl 0 6 (o.tu.map Box6.row), .int .i64 o.wi, .sl 0 6 (o.nx.map Box6.row), .sl 0 1 (o.gr.map srow), .bool o.sent])]⟩ := by
  all_goals (unfold p_spec_l33OwnOk_1; simp (maxSteps := 2000000) only [bitvec_to_nat, reduceIte, Nat.reduceEqDiff, Nat.reduceAdd, Nat.reduceLeDiff, reduceCtorEq, Nat.reduceBEq, Nat.reduceLT, Nat.reduceMod, fmc, t_l31NameOk, t_l31In, t_sZoneAt, t_sHeld, t_sGranted, bXH, Zone.row, Box6.row, appE, rowsOf, srow, irow, Own.row, Own_eta, Seen.row, Seen_eta, Part.row, Part_eta, Book.row])
  repeat' (first | with_reducible apply And.intro | with_reducible intro _)
  all_goals first
    | omega
    | (refine hQ _ ?_
       first
         | grind []
         | (simp; grind []))
    | grind []
set_option maxHeartbeats 400000 in
theorem pc_spec_l33OwnOk_2 (t : Nat) (zs : List Zone) (o : Own) {w93 : AV} {Q : XT → St → Prop} (hq : zonesOk zs) (hz : zs.length ≤ 4294967295) (h1 : o.tu.length ≤ 1048576) (h2 : o.nx.length ≤ 1048576) (h3 : o.small) (hQ : ∀ bv : Bool, (bv = true ↔ (ownOk3 zs o ∧ ownOk4 zs o)) → Q .normal ⟨[(4, .bool bv)], [(103, .box [.str o.fl, .int .i64 o.st, .int .i64 o.tn, .str o.dst, .int .i64 o.la, .int .i64 o.nr, .sl 0 6 (o.tu.map Box6.row), .int .i64 o.wi, .sl 0 6 (o.nx.map Box6.row), .sl 0 1 (o.gr.map srow), .bool o.sent])]⟩) : SCode.wp ((((((Env.nil P).add 70 t_l31NameOk h_l31NameOk).add 80 t_l31In h_l31In).add 36 t_sZoneAt h_sZoneAt).add 134 t_sHeld h_sHeld).add 135 t_sGranted h_sGranted) p_spec_l33OwnOk_2 Q ⟨[(0, .sl t 5 (zs.map Zone.row)), (3, .ptr 103 0), (93, w93)], [(103, .box [.str o.fl, .int .i64 o.st, .int .i64 o.tn, .str o.dst, .int .i64 o.la, .int .i64 o.nr, .sl 0 6 (o.tu.map Box6.row), .int .i64 o.wi, .sl 0 6 (o.nx.map Box6.row), .sl 0 1 (o.gr.map srow), .bool o.sent])]⟩ := by
  all_goals (unfold p_spec_l33OwnOk_2; simp (maxSteps := 2000000) only [bitvec_to_nat, reduceIte, Nat.reduceEqDiff, Nat.reduceAdd, Nat.reduceLeDiff, reduceCtorEq, Nat.reduceBEq, Nat.reduceLT, Nat.reduceMod, fmc, t_l31NameOk, t_l31In, t_sZoneAt, t_sHeld, t_sGranted, bXH, Zone.row, Box6.row, appE, rowsOf, srow, irow, Own.row, Own_eta, Seen.row, Seen_eta, Part.row, Part_eta, Book.row])
  repeat' (first | with_reducible apply And.intro | with_reducible intro _)
  all_goals first
    | omega
    | (refine hQ _ ?_
       first
         | grind [ownOk3]
         | (simp; grind [ownOk3]))
    | grind [ownOk3]
theorem c_sOwnOk (t : Nat) (zs : List Zone) (o : Own) (hq : zonesOk zs) (ho : o.small) (hz : zs.length ≤ 4294967295) : Contract P 106 [.sl t 5 (zs.map Zone.row), .agg (o.row 0)] [] (.bool (decide (ownOk zs o))) [] := by
  have ho' := ho
  unfold Own.small at ho
  simp only [Own.row]
  refine fn_sound ((((((Env.nil P).add 70 t_l31NameOk h_l31NameOk).add 80 t_l31In h_l31In).add 36 t_sZoneAt h_sZoneAt).add 134 t_sHeld h_sHeld).add 135 t_sGranted h_sGranted) hm k_spec_l33OwnOk (nlb rfl) rfl ?_; unfold s_spec_l33OwnOk; simp (maxSteps := 2000000) only [bitvec_to_nat, reduceIte, Nat.reduceEqDiff, Nat.reduceAdd, Nat.reduceLeDiff, reduceCtorEq, Nat.reduceBEq, Nat.reduceLT, Nat.reduceMod, fmc, t_l31NameOk, t_l31In, t_sZoneAt, t_sHeld, t_sGranted, bXH, Zone.row, Box6.row, appE, rowsOf, srow, irow, Own.row, Own_eta, Seen.row, Seen_eta, Part.row, Part_eta, Book.row]
  refine pc_spec_l33OwnOk_0 t zs o fun bv hbv => ?_
  cases bv
  case true =>
    simp (maxSteps := 2000000) only [bitvec_to_nat, reduceIte, Nat.reduceEqDiff, Nat.reduceAdd, Nat.reduceLeDiff, reduceCtorEq, Nat.reduceBEq, Nat.reduceLT, Nat.reduceMod, fmc, t_l31NameOk, t_l31In, t_sZoneAt, t_sHeld, t_sGranted, bXH, Zone.row, Box6.row, appE, rowsOf, srow, irow, Own.row, Own_eta, Seen.row, Seen_eta, Part.row, Part_eta, Book.row]
    exact fun h => (hbv.1 rfl) h.1
  have o1 := Classical.not_not.1 fun h => Bool.noConfusion (hbv.2 h)
  simp (maxSteps := 2000000) only [bitvec_to_nat, reduceIte, Nat.reduceEqDiff, Nat.reduceAdd, Nat.reduceLeDiff, reduceCtorEq, Nat.reduceBEq, Nat.reduceLT, Nat.reduceMod, fmc, t_l31NameOk, t_l31In, t_sZoneAt, t_sHeld, t_sGranted, bXH, Zone.row, Box6.row, appE, rowsOf, srow, irow, Own.row, Own_eta, Seen.row, Seen_eta, Part.row, Part_eta, Book.row]
  refine pc_spec_l33OwnOk_1 t zs o hz (by unfold ownOk1 at o1; omega) fun bv hbv => ?_
  cases bv
  case true =>
    simp (maxSteps := 2000000) only [bitvec_to_nat, reduceIte, Nat.reduceEqDiff, Nat.reduceAdd, Nat.reduceLeDiff, reduceCtorEq, Nat.reduceBEq, Nat.reduceLT, Nat.reduceMod, fmc, t_l31NameOk, t_l31In, t_sZoneAt, t_sHeld, t_sGranted, bXH, Zone.row, Box6.row, appE, rowsOf, srow, irow, Own.row, Own_eta, Seen.row, Seen_eta, Part.row, Part_eta, Book.row]
    exact fun h => (hbv.1 rfl) h.2.1
  have o2 : ownOk2 zs o := Classical.not_not.1 fun h => Bool.noConfusion (hbv.2 h)
  simp (maxSteps := 2000000) only [bitvec_to_nat, reduceIte, Nat.reduceEqDiff, Nat.reduceAdd, Nat.reduceLeDiff, reduceCtorEq, Nat.reduceBEq, Nat.reduceLT, Nat.reduceMod, fmc, t_l31NameOk, t_l31In, t_sZoneAt, t_sHeld, t_sGranted, bXH, Zone.row, Box6.row, appE, rowsOf, srow, irow, Own.row, Own_eta, Seen.row, Seen_eta, Part.row, Part_eta, Book.row]
  refine pc_spec_l33OwnOk_2 t zs o hq hz ho.1 ho.2.1 ho' fun bv hbv => ?_
  simp (maxSteps := 2000000) only [bitvec_to_nat, reduceIte, Nat.reduceEqDiff, Nat.reduceAdd, Nat.reduceLeDiff, reduceCtorEq, Nat.reduceBEq, Nat.reduceLT, Nat.reduceMod, fmc, t_l31NameOk, t_l31In, t_sZoneAt, t_sHeld, t_sGranted, bXH, Zone.row, Box6.row, appE, rowsOf, srow, irow, Own.row, Own_eta, Seen.row, Seen_eta, Part.row, Part_eta, Book.row]
  have : ownOk zs o ↔ bv = true := by rw [hbv]; exact ⟨fun h => h.2.2, fun h => ⟨o1, o2, h⟩⟩
  simp [this]
def t_sOwnOk : List AV → Option (Prop × AV)
  | [.sl zst 5 zsx, .agg [.str o_fl, .int .i64 o_st, .int .i64 o_tn, .str o_dst, .int .i64 o_la, .int .i64 o_nr, .sl 0 6 o_tu, .int .i64 o_wi, .sl 0 6 o_nx, .sl 0 1 o_gr, .bool o_sent]] => some ((((zsx.map unZone).map Zone.row = zsx) ∧ ((o_tu.map unBox).map Box6.row = o_tu) ∧ ((o_nx.map unBox).map Box6.row = o_nx) ∧ ((o_gr.map unS).map srow = o_gr)) ∧ (zonesOk (zsx.map unZone) ∧ Own.small (Own.mk o_fl o_st o_tn o_dst o_la o_nr (o_tu.map unBox) o_wi (o_nx.map unBox) (o_gr.map unS) o_sent) ∧ (zsx.map unZone).length ≤ 4294967295), .bool (decide (ownOk (zsx.map unZone) (Own.mk o_fl o_st o_tn o_dst o_la o_nr (o_tu.map unBox) o_wi (o_nx.map unBox) (o_gr.map unS) o_sent))))
  | _ => none
theorem h_sOwnOk : ∀ args p v, t_sOwnOk args = some (p, v) → p → Contract P 106 args [] v [] ∧ noref v = true ∧ No99 v := by
  intro args p v h1 h2
  unfold t_sOwnOk at h1
  split at h1
  · rename_i zst zsx o_fl o_st o_tn o_dst o_la o_nr o_tu o_wi o_nx o_gr o_sent
    cases h1
    obtain ⟨⟨e0, e1, e2, e3⟩, HP⟩ := h2
    have := c_sOwnOk zst (zsx.map unZone) (Own.mk o_fl o_st o_tn o_dst o_la o_nr (o_tu.map unBox) o_wi (o_nx.map unBox) (o_gr.map unS) o_sent) HP.1 HP.2.1 HP.2.2
    exact ⟨by simpa only [e0, e1, e2, e3, Own.row] using this, rfl, trivial⟩
  · cases h1
theorem c_sOwnsOk (t : Nat) (zs : List Zone) (b : Book) (hq : zonesOk zs) (hb : b.small) (hz : zs.length ≤ 4294967295) : Contract P 78 [.sl t 5 (zs.map Zone.row), .agg (b.row 0)] [] (.bool (decide (ownsOk zs b.own))) [] := by
  have hb1 := hb.1.1
  simp only [Book.row]
  refine fn_sound ((Env.nil P).add 106 t_sOwnOk h_sOwnOk) hm k_spec_l33OwnsOk (nlb rfl) rfl ?_; unfold s_spec_l33OwnsOk; simp (maxSteps := 2000000) only [bitvec_to_nat, reduceIte, Nat.reduceEqDiff, Nat.reduceAdd, Nat.reduceLeDiff, reduceCtorEq, Nat.reduceBEq, Nat.reduceLT, Nat.reduceMod, fmc, t_sOwnOk, bXH, Zone.row, Box6.row, appE, rowsOf, srow, irow, Own.row, Own_eta, Seen.row, Seen_eta, Part.row, Part_eta, Book.row]
  refine ⟨fun h1 h => by have := h.1; omega, fun h1 => ?_⟩
  · refine loop_st (fun i : Nat => [(5, .int .i64 i)]) (fun _ => []) (fun i => i ≤ b.own.length ∧ ∀ j, j < i → ownAt zs b.own j) (fun i => b.own.length - i) (0) (by simp only [u_E0, u_E1, u_M0, u_M1, w_setE0, w_setE1, w_setM0, w_setM1, reduceIte, Nat.reduceEqDiff]; exact ⟨by repeat' (first | exact trivial | refine ⟨.inr rfl, ?_⟩), by repeat' (first | exact trivial | refine ⟨rfl, ?_⟩), by first | rfl | simp [closedB, refsIn, refsInL, refsInO, dom, refsInL_nr, *], by first | rfl | simp [keepB, dom]⟩) ?_ ?_
    · exact ⟨Nat.zero_le _, by intro j hj; omega⟩
    intro i hi NX hN
    unfold l_spec_l33OwnsOk_0; simp (maxSteps := 2000000) only [bitvec_to_nat, reduceIte, Nat.reduceEqDiff, Nat.reduceAdd, Nat.reduceLeDiff, reduceCtorEq, Nat.reduceBEq, Nat.reduceLT, Nat.reduceMod, fmc, t_sOwnOk, bXH, Zone.row, Box6.row, appE, rowsOf, srow, irow, Own.row, Own_eta, Seen.row, Seen_eta, Part.row, Part_eta, Book.row]
    have hs : i < b.own.length → (b.own.getD i default).small := fun h => Book.small_own hb h
    have A : ownsOk zs b.own → i < b.own.length → ownAt zs b.own i := fun h h2 => h.2 i h2
    unfold ownAt at A
    repeat' (first | with_reducible apply And.intro | with_reducible intro _)
    all_goals first
      | with_reducible assumption
      | omega
      | (exact hs (by omega))
      | (refine hN (i + 1) _ (by simp only [u_E0, u_E1, u_M0, u_M1, w_setE0, w_setE1, w_setM0, w_setM1, reduceIte, Nat.reduceEqDiff]; exact ⟨by repeat' (first | exact trivial | refine ⟨.inr rfl, ?_⟩), by repeat' (first | exact trivial | refine ⟨rfl, ?_⟩), by first | rfl | simp [closedB, refsIn, refsInL, refsInO, dom, refsInL_nr, *], by first | rfl | simp [keepB, dom]⟩) ?_ ?_
         · exact ⟨by omega, all_snoc hi.2 ⟨by assumption, fun _ => by first | assumption | omega⟩⟩
         · omega)
      | (intro hq2; have := A hq2 (by omega); grind)
      | exact ⟨by omega, fun j hj => hi.2 j (by omega)⟩
def t_sOwnsOk : List AV → Option (Prop × AV)
  | [.sl zst 5 zsx, .agg [.sl 0 11 b_own, .sl 0 3 b_parts, .sl 0 2 b_seen]] => some ((((zsx.map unZone).map Zone.row = zsx) ∧ ((b_own.map unOwn).map (Own.row 0) = b_own) ∧ ((b_parts.map unPart).map (Part.row 0) = b_parts) ∧ ((b_seen.map unSeen).map Seen.row = b_seen)) ∧ (zonesOk (zsx.map unZone) ∧ Book.small (Book.mk (b_own.map unOwn) (b_parts.map unPart) (b_seen.map unSeen)) ∧ (zsx.map unZone).length ≤ 4294967295), .bool (decide (ownsOk (zsx.map unZone) (Book.mk (b_own.map unOwn) (b_parts.map unPart) (b_seen.map unSeen)).own)))
  | _ => none
theorem h_sOwnsOk : ∀ args p v, t_sOwnsOk args = some (p, v) → p → Contract P 78 args [] v [] ∧ noref v = true ∧ No99 v := by
  intro args p v h1 h2
  unfold t_sOwnsOk at h1
  split at h1
  · rename_i zst zsx b_own b_parts b_seen
    cases h1
    obtain ⟨⟨e0, e1, e2, e3⟩, HP⟩ := h2
    have := c_sOwnsOk zst (zsx.map unZone) (Book.mk (b_own.map unOwn) (b_parts.map unPart) (b_seen.map unSeen)) HP.1 HP.2.1 HP.2.2
    exact ⟨by simpa only [e0, e1, e2, e3, Book.row] using this, rfl, trivial⟩
  · cases h1
theorem c_sBefore (a p : Part) (hp : True) : Contract P 108 [.agg (a.row 0), .agg (p.row 0)] [] (.bool (decide (a.before p))) [] := by
  simp only [Part.row]
  refine fn_sound (Env.nil P) hm k_spec_l33Before (nlb rfl) rfl ?_; unfold s_spec_l33Before; simp (maxSteps := 2000000) only [bitvec_to_nat, reduceIte, Nat.reduceEqDiff, Nat.reduceAdd, Nat.reduceLeDiff, reduceCtorEq, Nat.reduceBEq, Nat.reduceLT, Nat.reduceMod, fmc, bXH, Zone.row, Box6.row, appE, rowsOf, srow, irow, Own.row, Own_eta, Seen.row, Seen_eta, Part.row, Part_eta, Book.row]
  simp only [Part.before]
  repeat' (first | with_reducible apply And.intro | with_reducible intro _)
  all_goals first | omega | grind
def t_sBefore : List AV → Option (Prop × AV)
  | [.agg [.str c_fl, .int .i64 c_nr, .sl 0 6 c_bx], .agg [.str d_fl, .int .i64 d_nr, .sl 0 6 d_bx]] => some ((((c_bx.map unBox).map Box6.row = c_bx) ∧ ((d_bx.map unBox).map Box6.row = d_bx)) ∧ (True), .bool (decide (Part.before (Part.mk c_fl c_nr (c_bx.map unBox)) (Part.mk d_fl d_nr (d_bx.map unBox)))))
  | _ => none
theorem h_sBefore : ∀ args p v, t_sBefore args = some (p, v) → p → Contract P 108 args [] v [] ∧ noref v = true ∧ No99 v := by
  intro args p v h1 h2
  unfold t_sBefore at h1
  split at h1
  · rename_i c_fl c_nr c_bx d_fl d_nr d_bx
    cases h1
    obtain ⟨⟨e0, e1⟩, HP⟩ := h2
    have := c_sBefore (Part.mk c_fl c_nr (c_bx.map unBox)) (Part.mk d_fl d_nr (d_bx.map unBox)) HP
    exact ⟨by simpa only [e0, e1, Part.row, Part.row] using this, rfl, trivial⟩
  · cases h1
set_option maxHeartbeats 1000000 in
theorem pc_spec_l33PartsOk_0 (t : Nat) (zs : List Zone) (b : Book) (p : Part) (i k : Nat) {Q : XT → St → Prop} (hq : zonesOk zs) (hz : zs.length ≤ 4294967295) (hs : b.seen.length ≤ 1048576) (hl : p.bx.length ≤ 1048576) (hi : i < b.parts.length) (hp : b.parts.length ≤ 1048576) (hQ : ∀ bv : Bool, (bv = true ↔ ¬ (nameOk p.fl ∧ (1 ≤ p.nr ∧ p.nr ≤ seenOf b.seen p.fl) ∧ tubeOk zs p.bx ∧ (0 < i → (b.parts.getD (i - 1) default).before p))) → Q .normal ⟨[(0, .sl t 5 (zs.map Zone.row)), (3, .ptr 103 0), (5, .int .i64 i), (6, .ptr 106 0), (59, .bool bv)], [(103, .box [.sl 0 11 (b.own.map (Own.row 0)), .sl 0 3 (b.parts.map (Part.row 0)), .sl 0 2 (b.seen.map Seen.row)]), (106, .box [.str p.fl, .int .i64 p.nr, .sl 0 6 (p.bx.map Box6.row)])]⟩) : SCode.wp (((((((Env.nil P).add 70 t_l31NameOk h_l31NameOk).add 80 t_l31In h_l31In).add 65 t_sTubeOk h_sTubeOk).add 107 t_sSeen h_sSeen).add 108 t_sBefore h_sBefore).add 109 t_sNear h_sNear) p_spec_l33PartsOk_0 Q ⟨[(0, .sl t 5 (zs.map Zone.row)), (3, .ptr 103 0), (5, .int .i64 i), (6, .ptr 106 0)], [(103, .box [.sl 0 11 (b.own.map (Own.row 0)), .sl 0 3 (b.parts.map (Part.row 0)), .sl 0 2 (b.seen.map Seen.row)]), (106, .box [.str p.fl, .int .i64 p.nr, .sl 0 6 (p.bx.map Box6.row)])]⟩ := by
  all_goals (unfold p_spec_l33PartsOk_0; simp (maxSteps := 2000000) only [bitvec_to_nat, reduceIte, Nat.reduceEqDiff, Nat.reduceAdd, Nat.reduceLeDiff, reduceCtorEq, Nat.reduceBEq, Nat.reduceLT, Nat.reduceMod, fmc, t_l31NameOk, t_l31In, t_sTubeOk, t_sSeen, t_sBefore, t_sNear, bXH, Zone.row, Box6.row, appE, rowsOf, srow, irow, Own.row, Own_eta, Seen.row, Seen_eta, Part.row, Part_eta, Book.row])
  repeat' (first | with_reducible apply And.intro | with_reducible intro _)
  all_goals first
    | omega
    | (refine hQ _ ?_
       first
         | grind []
         | (simp; grind []))
    | grind []
set_option maxHeartbeats 400000 in
theorem pc_spec_l33PartsOk_1 (t : Nat) (zs : List Zone) (b : Book) (p : Part) (i k : Nat) {w62 : AV} {Q : XT → St → Prop} (hk : k < b.parts.length) (hl : p.bx.length ≤ 1048576) (hl2 : (b.parts.getD k default).bx.length ≤ 1048576) (hQ : ∀ bv : Bool, (bv = true ↔ ((b.parts.getD k default).fl ≠ p.fl ∧ nearT (b.parts.getD k default).bx p.bx)) → Q .normal ⟨[(0, .sl t 5 (zs.map Zone.row)), (3, .ptr 103 0), (5, .int .i64 i), (6, .ptr 106 0), (7, .int .i64 k), (84, .bool bv)], [(103, .box [.sl 0 11 (b.own.map (Own.row 0)), .sl 0 3 (b.parts.map (Part.row 0)), .sl 0 2 (b.seen.map Seen.row)]), (106, .box [.str p.fl, .int .i64 p.nr, .sl 0 6 (p.bx.map Box6.row)])]⟩) : SCode.wp (((((((Env.nil P).add 70 t_l31NameOk h_l31NameOk).add 80 t_l31In h_l31In).add 65 t_sTubeOk h_sTubeOk).add 107 t_sSeen h_sSeen).add 108 t_sBefore h_sBefore).add 109 t_sNear h_sNear) p_spec_l33PartsOk_1 Q ⟨[(0, .sl t 5 (zs.map Zone.row)), (3, .ptr 103 0), (5, .int .i64 i), (6, .ptr 106 0), (7, .int .i64 k), (62, w62)], [(103, .box [.sl 0 11 (b.own.map (Own.row 0)), .sl 0 3 (b.parts.map (Part.row 0)), .sl 0 2 (b.seen.map Seen.row)]), (106, .box [.str p.fl, .int .i64 p.nr, .sl 0 6 (p.bx.map Box6.row)])]⟩ := by
  all_goals (unfold p_spec_l33PartsOk_1; simp (maxSteps := 2000000) only [bitvec_to_nat, reduceIte, Nat.reduceEqDiff, Nat.reduceAdd, Nat.reduceLeDiff, reduceCtorEq, Nat.reduceBEq, Nat.reduceLT, Nat.reduceMod, fmc, t_l31NameOk, t_l31In, t_sTubeOk, t_sSeen, t_sBefore, t_sNear, bXH, Zone.row, Box6.row, appE, rowsOf, srow, irow, Own.row, Own_eta, Seen.row, Seen_eta, Part.row, Part_eta, Book.row])
  repeat' (first | with_reducible apply And.intro | with_reducible intro _)
  all_goals first
    | omega
    | (refine hQ _ ?_
       first
         | grind []
         | (simp; grind []))
    | grind []
theorem c_sPartsOk (t : Nat) (zs : List Zone) (b : Book) (hq : zonesOk zs) (hb : b.small) (hz : zs.length ≤ 4294967295) : Contract P 79 [.sl t 5 (zs.map Zone.row), .agg (b.row 0)] [] (.bool (decide (partsOk zs b))) [] := by
  have hb2 := hb.2.1.1
  have hb3 := hb.2.2
  simp only [Book.row]
  refine fn_sound (((((((Env.nil P).add 70 t_l31NameOk h_l31NameOk).add 80 t_l31In h_l31In).add 65 t_sTubeOk h_sTubeOk).add 107 t_sSeen h_sSeen).add 108 t_sBefore h_sBefore).add 109 t_sNear h_sNear) hm k_spec_l33PartsOk (nlb rfl) rfl ?_; unfold s_spec_l33PartsOk; simp (maxSteps := 2000000) only [bitvec_to_nat, reduceIte, Nat.reduceEqDiff, Nat.reduceAdd, Nat.reduceLeDiff, reduceCtorEq, Nat.reduceBEq, Nat.reduceLT, Nat.reduceMod, fmc, t_l31NameOk, t_l31In, t_sTubeOk, t_sSeen, t_sBefore, t_sNear, bXH, Zone.row, Box6.row, appE, rowsOf, srow, irow, Own.row, Own_eta, Seen.row, Seen_eta, Part.row, Part_eta, Book.row]
  refine ⟨fun h1 h => by have := h.1; omega, fun h1 => ?_⟩
  · refine loop_st (fun i : Nat => [(5, .int .i64 i)]) (fun _ => []) (fun i => i ≤ b.parts.length ∧ ∀ j, j < i → partAt zs b j) (fun i => b.parts.length - i) (0) (by simp only [u_E0, u_E1, u_M0, u_M1, w_setE0, w_setE1, w_setM0, w_setM1, reduceIte, Nat.reduceEqDiff]; exact ⟨by repeat' (first | exact trivial | refine ⟨.inr rfl, ?_⟩), by repeat' (first | exact trivial | refine ⟨rfl, ?_⟩), by first | rfl | simp [closedB, refsIn, refsInL, refsInO, dom, refsInL_nr, *], by first | rfl | simp [keepB, dom]⟩) ?_ ?_
    · exact ⟨Nat.zero_le _, by intro j hj; omega⟩
    intro i hi NX hN
    unfold l_spec_l33PartsOk_1; simp (maxSteps := 2000000) only [bitvec_to_nat, reduceIte, Nat.reduceEqDiff, Nat.reduceAdd, Nat.reduceLeDiff, reduceCtorEq, Nat.reduceBEq, Nat.reduceLT, Nat.reduceMod, fmc, t_l31NameOk, t_l31In, t_sTubeOk, t_sSeen, t_sBefore, t_sNear, bXH, Zone.row, Box6.row, appE, rowsOf, srow, irow, Own.row, Own_eta, Seen.row, Seen_eta, Part.row, Part_eta, Book.row]
    refine ⟨fun g1 => ⟨by omega, by omega, ?_⟩, fun g1 => ?_⟩
    · have hs := Book.small_part hb (i := i) (by omega)
      have A : partsOk zs b → partAt zs b i := fun h => h.2 i (by omega)
      unfold partAt at A
      refine pc_spec_l33PartsOk_0 t zs b (b.parts.getD i default) i 0 hq hz hb3 hs (by omega) hb2 fun bv hbv => ?_
      cases bv
      case true =>
        simp (maxSteps := 2000000) only [bitvec_to_nat, reduceIte, Nat.reduceEqDiff, Nat.reduceAdd, Nat.reduceLeDiff, reduceCtorEq, Nat.reduceBEq, Nat.reduceLT, Nat.reduceMod, fmc, t_l31NameOk, t_l31In, t_sTubeOk, t_sSeen, t_sBefore, t_sNear, bXH, Zone.row, Box6.row, appE, rowsOf, srow, irow, Own.row, Own_eta, Seen.row, Seen_eta, Part.row, Part_eta, Book.row]
        exact fun hq => (hbv.1 rfl) ⟨(A hq).1, (A hq).2.1, (A hq).2.2.1, (A hq).2.2.2.1⟩
      have o1 := Classical.not_not.1 fun h => Bool.noConfusion (hbv.2 h)
      simp (maxSteps := 2000000) only [bitvec_to_nat, reduceIte, Nat.reduceEqDiff, Nat.reduceAdd, Nat.reduceLeDiff, reduceCtorEq, Nat.reduceBEq, Nat.reduceLT, Nat.reduceMod, fmc, t_l31NameOk, t_l31In, t_sTubeOk, t_sSeen, t_sBefore, t_sNear, bXH, Zone.row, Box6.row, appE, rowsOf, srow, irow, Own.row, Own_eta, Seen.row, Seen_eta, Part.row, Part_eta, Book.row]
      refine loop_st (fun k : Nat => [(7, .int .i64 k)]) (fun _ => []) (fun k => k ≤ i ∧ ∀ j, j < k → (b.parts.getD j default).fl ≠ (b.parts.getD i default).fl → ¬ nearT (b.parts.getD j default).bx (b.parts.getD i default).bx) (fun k => i - k) (0) (by simp only [u_E0, u_E1, u_M0, u_M1, w_setE0, w_setE1, w_setM0, w_setM1, reduceIte, Nat.reduceEqDiff]; exact ⟨by repeat' (first | exact trivial | refine ⟨.inr rfl, ?_⟩), by repeat' (first | exact trivial | refine ⟨rfl, ?_⟩), by first | rfl | simp [closedB, refsIn, refsInL, refsInO, dom, refsInL_nr, *], by first | rfl | simp [keepB, dom]⟩) ?_ ?_
      · exact ⟨Nat.zero_le _, by intro j hj; omega⟩
      intro k hk NX2 hN2
      unfold l_spec_l33PartsOk_0; simp (maxSteps := 2000000) only [bitvec_to_nat, reduceIte, Nat.reduceEqDiff, Nat.reduceAdd, Nat.reduceLeDiff, reduceCtorEq, Nat.reduceBEq, Nat.reduceLT, Nat.reduceMod, fmc, t_l31NameOk, t_l31In, t_sTubeOk, t_sSeen, t_sBefore, t_sNear, bXH, Zone.row, Box6.row, appE, rowsOf, srow, irow, Own.row, Own_eta, Seen.row, Seen_eta, Part.row, Part_eta, Book.row]
      refine ⟨fun g2 => ?_, fun g2 => ?_⟩
      · have hs2 := Book.small_part hb (i := k) (by omega)
        refine pc_spec_l33PartsOk_1 t zs b (b.parts.getD i default) i k (by omega) hs hs2 fun bv hbv => ?_
        cases bv
        case true =>
          simp (maxSteps := 2000000) only [bitvec_to_nat, reduceIte, Nat.reduceEqDiff, Nat.reduceAdd, Nat.reduceLeDiff, reduceCtorEq, Nat.reduceBEq, Nat.reduceLT, Nat.reduceMod, fmc, t_l31NameOk, t_l31In, t_sTubeOk, t_sSeen, t_sBefore, t_sNear, bXH, Zone.row, Box6.row, appE, rowsOf, srow, irow, Own.row, Own_eta, Seen.row, Seen_eta, Part.row, Part_eta, Book.row]
          exact fun hq => (A hq).2.2.2.2 k (by omega) (hbv.1 rfl).1 (hbv.1 rfl).2
        have o3 : ¬ ((b.parts.getD k default).fl ≠ (b.parts.getD i default).fl ∧ nearT (b.parts.getD k default).bx (b.parts.getD i default).bx) := by simpa using hbv
        simp (maxSteps := 2000000) only [bitvec_to_nat, reduceIte, Nat.reduceEqDiff, Nat.reduceAdd, Nat.reduceLeDiff, reduceCtorEq, Nat.reduceBEq, Nat.reduceLT, Nat.reduceMod, fmc, t_l31NameOk, t_l31In, t_sTubeOk, t_sSeen, t_sBefore, t_sNear, bXH, Zone.row, Box6.row, appE, rowsOf, srow, irow, Own.row, Own_eta, Seen.row, Seen_eta, Part.row, Part_eta, Book.row]
        refine ⟨by omega, ?_⟩
        refine hN2 (k + 1) _ (by simp only [u_E0, u_E1, u_M0, u_M1, w_setE0, w_setE1, w_setM0, w_setM1, reduceIte, Nat.reduceEqDiff]; exact ⟨by repeat' (first | exact trivial | refine ⟨.inr rfl, ?_⟩), by repeat' (first | exact trivial | refine ⟨rfl, ?_⟩), by first | rfl | simp [closedB, refsIn, refsInL, refsInO, dom, refsInL_nr, *], by first | rfl | simp [keepB, dom]⟩) ?_ ?_
        · exact ⟨by omega, all_snoc hk.2 fun h1 h2 => o3 ⟨h1, h2⟩⟩
        · omega
      · refine ⟨by omega, ?_⟩
        refine hN (i + 1) _ (by simp only [u_E0, u_E1, u_M0, u_M1, w_setE0, w_setE1, w_setM0, w_setM1, reduceIte, Nat.reduceEqDiff]; exact ⟨by repeat' (first | exact trivial | refine ⟨.inr rfl, ?_⟩), by repeat' (first | exact trivial | refine ⟨rfl, ?_⟩), by first | rfl | simp [closedB, refsIn, refsInL, refsInO, dom, refsInL_nr, *], by first | rfl | simp [keepB, dom]⟩) ?_ ?_
        · exact ⟨by omega, all_snoc hi.2 ⟨o1.1, o1.2.1, o1.2.2.1, o1.2.2.2, fun k' h1 => hk.2 k' (by omega)⟩⟩
        · omega
    · exact ⟨by omega, fun j hj => hi.2 j (by omega)⟩
def t_sPartsOk : List AV → Option (Prop × AV)
  | [.sl zst 5 zsx, .agg [.sl 0 11 b_own, .sl 0 3 b_parts, .sl 0 2 b_seen]] => some ((((zsx.map unZone).map Zone.row = zsx) ∧ ((b_own.map unOwn).map (Own.row 0) = b_own) ∧ ((b_parts.map unPart).map (Part.row 0) = b_parts) ∧ ((b_seen.map unSeen).map Seen.row = b_seen)) ∧ (zonesOk (zsx.map unZone) ∧ Book.small (Book.mk (b_own.map unOwn) (b_parts.map unPart) (b_seen.map unSeen)) ∧ (zsx.map unZone).length ≤ 4294967295), .bool (decide (partsOk (zsx.map unZone) (Book.mk (b_own.map unOwn) (b_parts.map unPart) (b_seen.map unSeen)))))
  | _ => none
theorem h_sPartsOk : ∀ args p v, t_sPartsOk args = some (p, v) → p → Contract P 79 args [] v [] ∧ noref v = true ∧ No99 v := by
  intro args p v h1 h2
  unfold t_sPartsOk at h1
  split at h1
  · rename_i zst zsx b_own b_parts b_seen
    cases h1
    obtain ⟨⟨e0, e1, e2, e3⟩, HP⟩ := h2
    have := c_sPartsOk zst (zsx.map unZone) (Book.mk (b_own.map unOwn) (b_parts.map unPart) (b_seen.map unSeen)) HP.1 HP.2.1 HP.2.2
    exact ⟨by simpa only [e0, e1, e2, e3, Book.row] using this, rfl, trivial⟩
  · cases h1
theorem c_sBookOk (t : Nat) (zs : List Zone) (b : Book) (hb : b.small) (hz : zs.length ≤ 4294967295) : Contract P 35 [.sl t 5 (zs.map Zone.row), .agg (b.row 0)] [] (.bool (decide (zonesOk zs ∧ bookOk zs b))) [] := by
  have hb3 := hb.2.2
  simp only [Book.row]
  refine fn_sound ((((((Env.nil P).add 77 t_sZonesOk h_sZonesOk).add 78 t_sOwnsOk h_sOwnsOk).add 79 t_sPartsOk h_sPartsOk).add 70 t_l31NameOk h_l31NameOk).add 80 t_l31In h_l31In) hm k_spec_HandBookOk (nlb rfl) rfl ?_; unfold s_spec_HandBookOk; simp (maxSteps := 2000000) only [bitvec_to_nat, reduceIte, Nat.reduceEqDiff, Nat.reduceAdd, Nat.reduceLeDiff, reduceCtorEq, Nat.reduceBEq, Nat.reduceLT, Nat.reduceMod, fmc, t_sZonesOk, t_sOwnsOk, t_sPartsOk, t_l31NameOk, t_l31In, bXH, Zone.row, Box6.row, appE, rowsOf, srow, irow, Own.row, Own_eta, Seen.row, Seen_eta, Part.row, Part_eta, Book.row]
  refine ⟨by omega, fun h1 => ⟨⟨h1, hb, hz⟩, fun h2 => ⟨⟨h1, hb, hz⟩, fun h3 => ⟨fun h4 h => by have := h.2.2.2.1; omega, fun h4 => ?_⟩, fun h3 h => h3 h.2.2.1⟩, fun h2 h => h2 h.2.1⟩, fun h1 h => h1 h.1⟩
  · refine loop_st (fun i : Nat => [(5, .int .i64 i)]) (fun _ => []) (fun i => i ≤ b.seen.length ∧ ∀ j, j < i → seenAt b.seen j) (fun i => b.seen.length - i) (0) (by simp only [u_E0, u_E1, u_M0, u_M1, w_setE0, w_setE1, w_setM0, w_setM1, reduceIte, Nat.reduceEqDiff]; exact ⟨by repeat' (first | exact trivial | refine ⟨.inr rfl, ?_⟩), by repeat' (first | exact trivial | refine ⟨rfl, ?_⟩), by first | rfl | simp [closedB, refsIn, refsInL, refsInO, dom, refsInL_nr, *], by first | rfl | simp [keepB, dom]⟩) ?_ ?_
    · exact ⟨Nat.zero_le _, by intro j hj; omega⟩
    intro i hi NX hN
    unfold l_spec_HandBookOk_0; simp (maxSteps := 2000000) only [bitvec_to_nat, reduceIte, Nat.reduceEqDiff, Nat.reduceAdd, Nat.reduceLeDiff, reduceCtorEq, Nat.reduceBEq, Nat.reduceLT, Nat.reduceMod, fmc, t_sZonesOk, t_sOwnsOk, t_sPartsOk, t_l31NameOk, t_l31In, bXH, Zone.row, Box6.row, appE, rowsOf, srow, irow, Own.row, Own_eta, Seen.row, Seen_eta, Part.row, Part_eta, Book.row]
    have A : zonesOk zs ∧ bookOk zs b → i < b.seen.length → seenAt b.seen i := fun h h2 => h.2.2.2.2 i h2
    unfold seenAt at A
    repeat' (first | with_reducible apply And.intro | with_reducible intro _)
    all_goals first
      | with_reducible assumption
      | omega
      | (refine hN (i + 1) _ (by simp only [u_E0, u_E1, u_M0, u_M1, w_setE0, w_setE1, w_setM0, w_setM1, reduceIte, Nat.reduceEqDiff]; exact ⟨by repeat' (first | exact trivial | refine ⟨.inr rfl, ?_⟩), by repeat' (first | exact trivial | refine ⟨rfl, ?_⟩), by first | rfl | simp [closedB, refsIn, refsInL, refsInO, dom, refsInL_nr, *], by first | rfl | simp [keepB, dom]⟩) ?_ ?_
         · exact ⟨by omega, all_snoc hi.2 ⟨by assumption, by assumption, fun _ => by first | assumption | omega⟩⟩
         · omega)
      | (intro hq2; have := A hq2 (by omega); grind)
      | (exact ⟨h2, h3, by omega, fun j hj => hi.2 j (by omega)⟩)
def t_sBookOk : List AV → Option (Prop × AV)
  | [.sl zst 5 zsx, .agg [.sl 0 11 b_own, .sl 0 3 b_parts, .sl 0 2 b_seen]] => some ((((zsx.map unZone).map Zone.row = zsx) ∧ ((b_own.map unOwn).map (Own.row 0) = b_own) ∧ ((b_parts.map unPart).map (Part.row 0) = b_parts) ∧ ((b_seen.map unSeen).map Seen.row = b_seen)) ∧ (Book.small (Book.mk (b_own.map unOwn) (b_parts.map unPart) (b_seen.map unSeen)) ∧ (zsx.map unZone).length ≤ 4294967295), .bool (decide (zonesOk (zsx.map unZone) ∧ bookOk (zsx.map unZone) (Book.mk (b_own.map unOwn) (b_parts.map unPart) (b_seen.map unSeen)))))
  | _ => none
theorem h_sBookOk : ∀ args p v, t_sBookOk args = some (p, v) → p → Contract P 35 args [] v [] ∧ noref v = true ∧ No99 v := by
  intro args p v h1 h2
  unfold t_sBookOk at h1
  split at h1
  · rename_i zst zsx b_own b_parts b_seen
    cases h1
    obtain ⟨⟨e0, e1, e2, e3⟩, HP⟩ := h2
    have := c_sBookOk zst (zsx.map unZone) (Book.mk (b_own.map unOwn) (b_parts.map unPart) (b_seen.map unSeen)) HP.1 HP.2
    exact ⟨by simpa only [e0, e1, e2, e3, Book.row] using this, rfl, trivial⟩
  · cases h1
def t_bookOk : List AV → Option (Prop × AV)
  | [.sl zst 5 zsx, .agg [.sl 0 11 b_own, .sl 0 3 b_parts, .sl 0 2 b_seen]] => some ((((zsx.map unZone).map Zone.row = zsx) ∧ ((b_own.map unOwn).map (Own.row 0) = b_own) ∧ ((b_parts.map unPart).map (Part.row 0) = b_parts) ∧ ((b_seen.map unSeen).map Seen.row = b_seen)) ∧ (Book.small (Book.mk (b_own.map unOwn) (b_parts.map unPart) (b_seen.map unSeen)) ∧ (zsx.map unZone).length ≤ 4294967295), .bool (decide (bookOk (zsx.map unZone) (Book.mk (b_own.map unOwn) (b_parts.map unPart) (b_seen.map unSeen)))))
  | _ => none
theorem h_bookOk : ∀ args p v, t_bookOk args = some (p, v) → p → Contract P 102 args [] v [] ∧ noref v = true ∧ No99 v := by
  intro args p v h1 h2
  unfold t_bookOk at h1
  split at h1
  · rename_i zst zsx b_own b_parts b_seen
    cases h1
    obtain ⟨⟨e0, e1, e2, e3⟩, HP⟩ := h2
    have := c_bookOk zst (zsx.map unZone) (Book.mk (b_own.map unOwn) (b_parts.map unPart) (b_seen.map unSeen)) HP.2 HP.1
    exact ⟨by simpa only [e0, e1, e2, e3, Book.row] using this, rfl, trivial⟩
  · cases h1
theorem c_hBookOk (t : Nat) (zs : List Zone) (b : Book) (hb : b.small) (hz : zs.length ≤ 4294967295) : Contract P 72 [.sl t 5 (zs.map Zone.row), .agg (b.row 0)] [] (.bool (decide (zonesOk zs ∧ bookOk zs b))) [] := by
  simp only [Book.row]
  refine fn_sound (((Env.nil P).add 101 t_zonesOk h_zonesOk).add 102 t_bookOk h_bookOk) hm k_impl_HandBookOk (nlb rfl) rfl ?_; unfold s_impl_HandBookOk; simp (maxSteps := 2000000) only [bitvec_to_nat, reduceIte, Nat.reduceEqDiff, Nat.reduceAdd, Nat.reduceLeDiff, reduceCtorEq, Nat.reduceBEq, Nat.reduceLT, Nat.reduceMod, fmc, t_zonesOk, t_bookOk, bXH, Zone.row, Box6.row, appE, rowsOf, srow, irow, Own.row, Own_eta, Seen.row, Seen_eta, Part.row, Part_eta, Book.row]
  refine ⟨by omega, fun h => ⟨⟨hb, hz⟩, ?_⟩, fun h h2 => h h2.1⟩
  rw [decide_eq_decide]
  exact ⟨fun h2 => ⟨h, h2⟩, fun h2 => h2.2⟩
def t_hBookOk : List AV → Option (Prop × AV)
  | [.sl zst 5 zsx, .agg [.sl 0 11 b_own, .sl 0 3 b_parts, .sl 0 2 b_seen]] => some ((((zsx.map unZone).map Zone.row = zsx) ∧ ((b_own.map unOwn).map (Own.row 0) = b_own) ∧ ((b_parts.map unPart).map (Part.row 0) = b_parts) ∧ ((b_seen.map unSeen).map Seen.row = b_seen)) ∧ (Book.small (Book.mk (b_own.map unOwn) (b_parts.map unPart) (b_seen.map unSeen)) ∧ (zsx.map unZone).length ≤ 4294967295), .bool (decide (zonesOk (zsx.map unZone) ∧ bookOk (zsx.map unZone) (Book.mk (b_own.map unOwn) (b_parts.map unPart) (b_seen.map unSeen)))))
  | _ => none
theorem h_hBookOk : ∀ args p v, t_hBookOk args = some (p, v) → p → Contract P 72 args [] v [] ∧ noref v = true ∧ No99 v := by
  intro args p v h1 h2
  unfold t_hBookOk at h1
  split at h1
  · rename_i zst zsx b_own b_parts b_seen
    cases h1
    obtain ⟨⟨e0, e1, e2, e3⟩, HP⟩ := h2
    have := c_hBookOk zst (zsx.map unZone) (Book.mk (b_own.map unOwn) (b_parts.map unPart) (b_seen.map unSeen)) HP.1 HP.2
    exact ⟨by simpa only [e0, e1, e2, e3, Book.row] using this, rfl, trivial⟩
  · cases h1
end
end Go.Ve

namespace Go.Ve
noncomputable section
open Go.Proofs
set_option maxRecDepth 100000
open Go.ChangeShapes Go.WideShapes
/-- What is left when a list is counted, and each of its parts. -/
def szS {α : Type} (f : α → Int → Int) (l : List α) (a : Int) : Int := l.foldl (fun a x => f x a) (szOf a l.length)
def szStr (s : ByteArray) (a : Int) : Int := szOf a s.toList.length
def Meas {α : Type} (f : α → Int → Int) : Prop := ∀ x a, a ≤ 1048576 → (f x a = -1 ∨ 0 ≤ f x a) ∧ (a < 0 → f x a = -1) ∧ f x a ≤ max a (-1)
def chk (x : Int) (k : Int → Int) : Int := if x < 0 then -1 else k x
def Meas1 (g : Int → Int) : Prop := ∀ a, a ≤ 1048576 → (g a = -1 ∨ 0 ≤ g a) ∧ (a < 0 → g a = -1) ∧ g a ≤ max a (-1)
def MeasP (g : Int → Int) : Prop := ∀ a, 0 ≤ a → a ≤ 1048576 → (g a = -1 ∨ 0 ≤ g a) ∧ g a ≤ a
theorem Meas1.p {g : Int → Int} (h : Meas1 g) : MeasP g := fun a h0 h1 => ⟨(h a h1).1, by have := (h a h1).2.2; omega⟩
theorem measP_id : MeasP fun z => z := fun a h0 h1 => ⟨.inr h0, Int.le_refl a⟩
theorem chk_sub {k : Int → Int} (n : Nat) (h : MeasP k) : Meas1 fun a => chk (a - n) k := fun a ha => by
  simp only [chk]
  split
  · exact ⟨.inl rfl, fun _ => rfl, by omega⟩
  · rename_i h1
    have := h (a - n) (by omega) (by omega)
    exact ⟨this.1, fun _ => by omega, by omega⟩
theorem chk_g {g k : Int → Int} (hg : Meas1 g) (h : MeasP k) : Meas1 fun a => chk (g a) k := fun a ha => by
  have m := hg a ha
  simp only [chk]
  split
  · exact ⟨.inl rfl, fun _ => rfl, by omega⟩
  · rename_i h1
    have := h (g a) (by omega) (by omega)
    exact ⟨this.1, fun h2 => by have := m.2.1 h2; omega, by omega⟩
theorem chk_ok {x : Int} {k : Int → Int} (h : 0 ≤ chk x k) : 0 ≤ x ∧ 0 ≤ k x := by
  unfold chk at h; split at h
  · omega
  · exact ⟨by omega, h⟩
theorem meas_str : Meas szStr := fun x a _ => by unfold szStr szOf; split <;> omega
theorem meas_len {α : Type} : Meas (fun (l : List α) a => szOf a l.length) := fun x a _ => by simp only; unfold szOf; split <;> omega
theorem fold_meas {α : Type} {f : α → Int → Int} (h : Meas f) : ∀ (l : List α) (a : Int), a ≤ 1048576 → (a = -1 ∨ 0 ≤ a) → (l.foldl (fun a x => f x a) a = -1 ∨ 0 ≤ l.foldl (fun a x => f x a) a) ∧ (a < 0 → l.foldl (fun a x => f x a) a = -1) ∧ l.foldl (fun a x => f x a) a ≤ max a (-1)
  | [], a, h1, h2 => ⟨h2, fun h3 => by simp only [List.foldl_nil]; omega, by simp only [List.foldl_nil]; omega⟩
  | x :: l, a, h1, h2 => by
    obtain ⟨k1, k2, k3⟩ := h x a h1
    obtain ⟨i1, i2, i3⟩ := fold_meas h l (f x a) (by omega) k1
    simp only [List.foldl_cons]
    exact ⟨i1, fun h3 => i2 (by have := k2 h3; omega), by omega⟩
theorem meas_szS {α : Type} {f : α → Int → Int} (h : Meas f) : Meas (szS f) := fun l a ha => by
  unfold szS
  have h0 : (szOf a l.length = -1 ∨ 0 ≤ szOf a l.length) ∧ (a < 0 → szOf a l.length = -1) ∧ szOf a l.length ≤ max a (-1) := by unfold szOf; split <;> omega
  obtain ⟨i1, i2, i3⟩ := fold_meas h l (szOf a l.length) (by omega) h0.1
  exact ⟨i1, fun h3 => i2 (by have := h0.2.1 h3; omega), by omega⟩
/-- A list that was counted is small, and so are its parts. -/
theorem fold_ok {α : Type} {f : α → Int → Int} {p : α → Prop} (h : Meas f) (hp : ∀ x a, a ≤ 1048576 → 0 ≤ f x a → p x) : ∀ (l : List α) (a : Int), a ≤ 1048576 → (a = -1 ∨ 0 ≤ a) → 0 ≤ l.foldl (fun a x => f x a) a → ∀ x ∈ l, p x
  | [], _, _, _, _, x, hx => by simp at hx
  | y :: l, a, h1, h2, h3, x, hx => by
    simp only [List.foldl_cons] at h3
    obtain ⟨k1, k2, k3⟩ := h y a h1
    have hy : 0 ≤ f y a := by
      rcases k1 with k1 | k1
      · have := (fold_meas h l (f y a) (by omega) (.inl k1)).2.1 (by omega); omega
      · exact k1
    rcases List.mem_cons.1 hx with rfl | hx
    · exact hp _ a h1 hy
    · exact fold_ok h hp l (f y a) (by omega) (.inr hy) h3 x hx
theorem szS_ok {α : Type} {f : α → Int → Int} {p : α → Prop} (h : Meas f) (hp : ∀ x a, a ≤ 1048576 → 0 ≤ f x a → p x) {l : List α} {a : Int} (ha : a ≤ 1048576) (h0 : 0 ≤ szS f l a) : l.length ≤ 1048576 ∧ ∀ x ∈ l, p x := by
  unfold szS at h0
  have hs : (szOf a l.length = -1 ∨ 0 ≤ szOf a l.length) ∧ szOf a l.length ≤ 1048576 := by unfold szOf; split <;> omega
  refine ⟨?_, fold_ok h hp l _ hs.2 hs.1 h0⟩
  rcases hs.1 with e | e
  · have := (fold_meas h l _ hs.2 (.inl e)).2.1 (by omega); omega
  · unfold szOf at e; split at e <;> omega
theorem szOf_ok {a : Int} {n : Nat} (ha : a ≤ 1048576) (h0 : 0 ≤ szOf a n) : n ≤ 1048576 := by unfold szOf at h0; split at h0 <;> omega
/-- One more part of a list. -/
theorem fold_take {α : Type} [Inhabited α] {f : α → Int → Int} {l : List α} {i : Nat} {a : Int} (hi : i < l.length) : (l.take (i + 1)).foldl (fun a x => f x a) a = f (l.getD i default) ((l.take i).foldl (fun a x => f x a) a) := by
  have e : l.getD i default = l[i] := by simp [hi]
  rw [e, List.take_succ_eq_append_getElem hi, List.foldl_append]; rfl
theorem fold_stop {α : Type} [Inhabited α] {f : α → Int → Int} (h : Meas f) {l : List α} {i : Nat} {a : Int} (hi : i < l.length) (ha : a ≤ 1048576) (h0 : a = -1 ∨ 0 ≤ a) (hn : f (l.getD i default) ((l.take i).foldl (fun a x => f x a) a) < 0) : l.foldl (fun a x => f x a) a = -1 := by
  rw [← fold_take (f := f) hi] at hn
  have e : l.foldl (fun a x => f x a) a = (l.drop (i + 1)).foldl (fun a x => f x a) ((l.take (i + 1)).foldl (fun a x => f x a) a) := by
    rw [← List.foldl_append, List.take_append_drop]
  rw [e]
  have k := fold_meas h (l.take (i + 1)) a ha h0
  exact (fold_meas h _ _ (by omega) k.1).2.1 hn
theorem fit_rows2 {α : Type} {f : α → List AV} {p : α → Prop} {rs : List LSh} (h : ∀ r, fitsL rs r → ∃ x : α, r = f x ∧ p x) : ∀ {rows : List (List AV)}, (∀ r ∈ rows, fitsL rs r) → ∃ l : List α, rows = l.map f ∧ ∀ x ∈ l, p x
  | [], _ => ⟨[], rfl, by simp⟩
  | r :: rows, k => by
    obtain ⟨x, rfl, hx⟩ := h r (k r (by simp))
    obtain ⟨l, rfl, hl⟩ := fit_rows2 h (rows := rows) fun r' h' => k r' (by simp [h'])
    exact ⟨x :: l, rfl, by simpa using ⟨hx, hl⟩⟩
theorem getD_mem' {α : Type} [Inhabited α] {l : List α} {i : Nat} (h : i < l.length) : l.getD i default ∈ l := by simp [h]
def Zone.fitp (s : Zone) : Prop := s.nm.toList.length ≤ 9223372036854775807
def Zone.sz (s : Zone) (z0 : Int) : Int := chk (z0 - (s.nm.toList.length : Nat)) (fun z1 => z1)
theorem meas_Zone : Meas Zone.sz := fun s => chk_sub _ (measP_id)
def Seen.fitp (s : Seen) : Prop := s.fl.toList.length ≤ 9223372036854775807
def Seen.sz (s : Seen) (z0 : Int) : Int := chk (z0 - (s.fl.toList.length : Nat)) (fun z1 => z1)
theorem meas_Seen : Meas Seen.sz := fun s => chk_sub _ (measP_id)
def Own.fitp (s : Own) : Prop := s.fl.toList.length ≤ 9223372036854775807 ∧ s.dst.toList.length ≤ 9223372036854775807 ∧ s.tu.length ≤ 9223372036854775807 ∧ s.nx.length ≤ 9223372036854775807 ∧ (s.gr.length ≤ 9223372036854775807 ∧ ∀ y ∈ s.gr, y.toList.length ≤ 9223372036854775807)
def Own.sz (s : Own) (z0 : Int) : Int := chk (z0 - (s.fl.toList.length : Nat)) (fun z1 => chk (z1 - (s.dst.toList.length : Nat)) (fun z2 => chk (szOf z2 s.tu.length) (fun z3 => chk (szOf z3 s.nx.length) (fun z4 => chk (szS szStr s.gr z4) (fun z5 => z5)))))
theorem meas_Own : Meas Own.sz := fun s => chk_sub _ (Meas1.p (chk_sub _ (Meas1.p (chk_g (fun a => meas_len s.tu a) (Meas1.p (chk_g (fun a => meas_len s.nx a) (Meas1.p (chk_g (fun a => meas_szS meas_str s.gr a) (measP_id)))))))))
theorem Own.sz_ok {s : Own} {a : Int} (ha : a ≤ 1048576) (h : 0 ≤ s.sz a) : s.small := by
  unfold Own.sz at h
  have b0 : a ≤ 1048576 := ha
  obtain ⟨p0, h⟩ := chk_ok h
  have b1 : (a) - (s.fl.toList.length : Nat) ≤ 1048576 := by omega
  obtain ⟨p1, h⟩ := chk_ok h
  have b2 : ((a) - (s.fl.toList.length : Nat)) - (s.dst.toList.length : Nat) ≤ 1048576 := by omega
  obtain ⟨p2, h⟩ := chk_ok h
  have b3 : szOf (((a) - (s.fl.toList.length : Nat)) - (s.dst.toList.length : Nat)) s.tu.length ≤ 1048576 := by have := (meas_len s.tu (((a) - (s.fl.toList.length : Nat)) - (s.dst.toList.length : Nat)) b2).2.2; simp only at this; omega
  have k2 := szOf_ok b2 p2
  obtain ⟨p3, h⟩ := chk_ok h
  have b4 : szOf (szOf (((a) - (s.fl.toList.length : Nat)) - (s.dst.toList.length : Nat)) s.tu.length) s.nx.length ≤ 1048576 := by have := (meas_len s.nx (szOf (((a) - (s.fl.toList.length : Nat)) - (s.dst.toList.length : Nat)) s.tu.length) b3).2.2; simp only at this; omega
  have k3 := szOf_ok b3 p3
  obtain ⟨p4, h⟩ := chk_ok h
  have b5 : szS szStr s.gr (szOf (szOf (((a) - (s.fl.toList.length : Nat)) - (s.dst.toList.length : Nat)) s.tu.length) s.nx.length) ≤ 1048576 := by have := (meas_szS meas_str s.gr (szOf (szOf (((a) - (s.fl.toList.length : Nat)) - (s.dst.toList.length : Nat)) s.tu.length) s.nx.length) b4).2.2; omega
  have k4 := szS_ok (p := fun _ => True) meas_str (fun _ _ _ _ => trivial) b4 p4
  exact ⟨k2, k3, k4.1⟩
def Part.fitp (s : Part) : Prop := s.fl.toList.length ≤ 9223372036854775807 ∧ s.bx.length ≤ 9223372036854775807
def Part.small (s : Part) : Prop := s.bx.length ≤ 1048576
def Part.sz (s : Part) (z0 : Int) : Int := chk (z0 - (s.fl.toList.length : Nat)) (fun z1 => chk (szOf z1 s.bx.length) (fun z2 => z2))
theorem meas_Part : Meas Part.sz := fun s => chk_sub _ (Meas1.p (chk_g (fun a => meas_len s.bx a) (measP_id)))
theorem Part.sz_ok {s : Part} {a : Int} (ha : a ≤ 1048576) (h : 0 ≤ s.sz a) : s.small := by
  unfold Part.sz at h
  have b0 : a ≤ 1048576 := ha
  obtain ⟨p0, h⟩ := chk_ok h
  have b1 : (a) - (s.fl.toList.length : Nat) ≤ 1048576 := by omega
  obtain ⟨p1, h⟩ := chk_ok h
  have b2 : szOf ((a) - (s.fl.toList.length : Nat)) s.bx.length ≤ 1048576 := by have := (meas_len s.bx ((a) - (s.fl.toList.length : Nat)) b1).2.2; simp only at this; omega
  have k1 := szOf_ok b1 p1
  exact k1
def Book.fitp (s : Book) : Prop := (s.own.length ≤ 9223372036854775807 ∧ ∀ y ∈ s.own, y.fitp) ∧ (s.parts.length ≤ 9223372036854775807 ∧ ∀ y ∈ s.parts, y.fitp) ∧ (s.seen.length ≤ 9223372036854775807 ∧ ∀ y ∈ s.seen, y.fitp)
def Book.sz (s : Book) (z0 : Int) : Int := chk (szS Own.sz s.own z0) (fun z1 => chk (szS Part.sz s.parts z1) (fun z2 => chk (szS Seen.sz s.seen z2) (fun z3 => z3)))
theorem meas_Book : Meas Book.sz := fun s => chk_g (fun a => meas_szS meas_Own s.own a) (Meas1.p (chk_g (fun a => meas_szS meas_Part s.parts a) (Meas1.p (chk_g (fun a => meas_szS meas_Seen s.seen a) (measP_id)))))
theorem Book.sz_ok {s : Book} {a : Int} (ha : a ≤ 1048576) (h : 0 ≤ s.sz a) : s.small := by
  unfold Book.sz at h
  have b0 : a ≤ 1048576 := ha
  obtain ⟨p0, h⟩ := chk_ok h
  have b1 : szS Own.sz s.own (a) ≤ 1048576 := by have := (meas_szS meas_Own s.own (a) b0).2.2; omega
  have k0 := szS_ok (p := fun y => Own.small y) meas_Own (fun x a h1 h2 => Own.sz_ok h1 h2) b0 p0
  obtain ⟨p1, h⟩ := chk_ok h
  have b2 : szS Part.sz s.parts (szS Own.sz s.own (a)) ≤ 1048576 := by have := (meas_szS meas_Part s.parts (szS Own.sz s.own (a)) b1).2.2; omega
  have k1 := szS_ok (p := fun y => Part.small y) meas_Part (fun x a h1 h2 => Part.sz_ok h1 h2) b1 p1
  obtain ⟨p2, h⟩ := chk_ok h
  have b3 : szS Seen.sz s.seen (szS Part.sz s.parts (szS Own.sz s.own (a))) ≤ 1048576 := by have := (meas_szS meas_Seen s.seen (szS Part.sz s.parts (szS Own.sz s.own (a))) b2).2.2; omega
  have k2 := szS_ok (p := fun _ => True) meas_Seen (fun _ _ _ _ => trivial) b2 p2
  exact ⟨k0, k1, k2.1⟩
theorem c_szStringS (t : Nat) (l : List ByteArray) (a : Int) (ha : 0 ≤ a ∧ a ≤ 1048576) (hl : l.length ≤ 9223372036854775807 ∧ ∀ y ∈ l, y.toList.length ≤ 9223372036854775807) : Contract P 105 [.sl t 1 (l.map srow), .int .i64 a] [] (.int .i64 (szS szStr l a)) [] := by
  refine fn_sound (Env.nil P) hm k_laws_szStringS (nlb rfl) rfl ?_; unfold s_laws_szStringS; simp (maxSteps := 2000000) only [bitvec_to_nat, reduceIte, Nat.reduceEqDiff, Nat.reduceAdd, Nat.reduceLeDiff, reduceCtorEq, Nat.reduceBEq, Nat.reduceLT, Nat.reduceMod, fmc, srow, un_s, List.take_zero, List.foldl_nil]
  have hz : szOf a l.length = if a - l.length < 0 then -1 else a - l.length := rfl
  refine ⟨by omega, fun h1 => ?_, fun h1 => ?_⟩
  · unfold szS
    rw [(fold_meas meas_str l _ (by omega) (by omega)).2.1 (by omega)]
  have e0 : szOf a l.length = a - l.length := if_neg h1
  refine loop_st (fun i : Nat => [(1, .int .i64 ((l.take i).foldl (fun a x => szStr x a) (a - l.length))), (5, .int .i64 i)]) (fun _ => []) (fun i => i ≤ l.length ∧ 0 ≤ (l.take i).foldl (fun a x => szStr x a) (a - l.length)) (fun i => l.length - i) (0) (by simp only [u_E0, u_E1, u_M0, u_M1, w_setE0, w_setE1, w_setM0, w_setM1, reduceIte, Nat.reduceEqDiff]; exact ⟨by repeat' (first | exact trivial | refine ⟨.inr rfl, ?_⟩), by repeat' (first | exact trivial | refine ⟨rfl, ?_⟩), by first | rfl | simp [closedB, refsIn, refsInL, refsInO, dom, refsInL_nr, *], by first | rfl | simp [keepB, dom]⟩) ?_ ?_
  · simp only [List.take_zero, List.foldl_nil]; omega
  intro i hi NX hN
  unfold l_laws_szStringS_0; simp (maxSteps := 2000000) only [bitvec_to_nat, reduceIte, Nat.reduceEqDiff, Nat.reduceAdd, Nat.reduceLeDiff, reduceCtorEq, Nat.reduceBEq, Nat.reduceLT, Nat.reduceMod, fmc, srow, un_s, List.take_zero, List.foldl_nil]
  have hm := (fold_meas meas_str (l.take i) (a - l.length) (by omega) (by omega)).2.2
  have hg : i < l.length → (l.getD i default).toList.length ≤ 9223372036854775807 := fun h => hl.2 _ (getD_mem' h)
  have hn : i < l.length → (l.take (i + 1)).foldl (fun a x => szStr x a) (a - l.length) = szStr (l.getD i default) ((l.take i).foldl (fun a x => szStr x a) (a - l.length)) := fun h => fold_take h
  have hs : i < l.length → szStr (l.getD i default) ((l.take i).foldl (fun a x => szStr x a) (a - l.length)) < 0 → szS szStr l a = -1 := fun h h2 => by unfold szS; rw [e0]; exact fold_stop meas_str h (by omega) (by omega) h2
  have hd : szStr (l.getD i default) ((l.take i).foldl (fun a x => szStr x a) (a - l.length)) = if ((l.take i).foldl (fun a x => szStr x a) (a - l.length)) - ((l.getD i default).toList.length : Nat) < 0 then -1 else ((l.take i).foldl (fun a x => szStr x a) (a - l.length)) - ((l.getD i default).toList.length : Nat) := rfl
  refine ⟨fun h2 => ⟨by omega, by omega, by omega, fun h3 => by rw [hs (by omega) (by omega)], fun h3 => ⟨by omega, ?_⟩⟩, fun h2 => ?_⟩
  · have e := hn (by omega)
    rw [hd, if_neg h3] at e
    refine hN (i + 1) _ (by simp only [e, List.length_append, List.length_cons, List.length_nil, Nat.zero_add, List.map_append, List.map_cons, List.map_nil, u_E0, u_E1, u_M0, u_M1, w_setE0, w_setE1, w_setM0, w_setM1, reduceIte, Nat.reduceEqDiff]; exact ⟨by repeat' (first | exact trivial | refine ⟨.inr rfl, ?_⟩), by repeat' (first | exact trivial | refine ⟨rfl, ?_⟩), by first | rfl | simp [closedB, refsIn, refsInL, refsInO, dom, refsInL_nr, *], by first | rfl | simp [keepB, dom]⟩) ?_ ?_
    · exact ⟨by omega, by omega⟩
    · omega
  · have e : i = l.length := by omega
    subst e
    simp only [List.take_length]; unfold szS; rw [e0]
def t_szStringS : List AV → Option (Prop × AV)
  | [.sl lt 1 lx, .int .i64 b] => some ((((lx.map unS).map srow = lx)) ∧ ((0 ≤ b ∧ b ≤ 1048576) ∧ ((lx.map unS).length ≤ 9223372036854775807 ∧ ∀ y ∈ (lx.map unS), y.toList.length ≤ 9223372036854775807)), .int .i64 (szS szStr (lx.map unS) b))
  | _ => none
theorem h_szStringS : ∀ args p v, t_szStringS args = some (p, v) → p → Contract P 105 args [] v [] ∧ noref v = true ∧ No99 v := by
  intro args p v h1 h2
  unfold t_szStringS at h1
  split at h1
  · rename_i lt lx b
    cases h1
    obtain ⟨e0, HP⟩ := h2
    have := c_szStringS lt (lx.map unS) b HP.1 HP.2
    exact ⟨by simpa only [e0] using this, rfl, trivial⟩
  · cases h1
theorem c_szZone (s : Zone) (a : Int) (ha : 0 ≤ a ∧ a ≤ 1048576) (hs : s.fitp) : Contract P 31 [.agg s.row, .int .i64 a] [] (.int .i64 (s.sz a)) [] := by
  unfold Zone.fitp at hs
  simp only [Zone.row]
  refine fn_sound (Env.nil P) hm k_laws_szHandZone (nlb rfl) rfl ?_; unfold s_laws_szHandZone; simp (maxSteps := 2000000) only [bitvec_to_nat, reduceIte, Nat.reduceEqDiff, Nat.reduceAdd, Nat.reduceLeDiff, reduceCtorEq, Nat.reduceBEq, Nat.reduceLT, Nat.reduceMod, fmc, bXH, Zone.row, Box6.row, appE, rowsOf, srow, irow, bHX, Word.row, Own.row, Part.row, Seen.row, Book.row, Sector.row, HCraft.row, World.row]
  unfold Zone.sz
  repeat' (first | with_reducible apply And.intro | with_reducible intro _)
  all_goals first | omega | (exact hs) | (exact hs.1) | (exact hs.2.1) | (exact hs.2.2) | (exact hs.2.2.1) | (exact hs.2.2.2) | (exact hs.2.2.2.1) | (exact hs.2.2.2.2) | (exact hs.1.1) | (exact hs.1.2) | (exact hs.2.1.1) | (exact hs.2.1.2) | (unfold chk; grind) | grind
def t_szZone : List AV → Option (Prop × AV)
  | [.agg [.str s_nm, .int .i64 s_x0, .int .i64 s_y0, .int .i64 s_x1, .int .i64 s_y1], .int .i64 b] => some ((True) ∧ ((0 ≤ b ∧ b ≤ 1048576) ∧ (Zone.fitp (Zone.mk s_nm s_x0 s_y0 s_x1 s_y1))), .int .i64 (Zone.sz (Zone.mk s_nm s_x0 s_y0 s_x1 s_y1) b))
  | _ => none
theorem h_szZone : ∀ args p v, t_szZone args = some (p, v) → p → Contract P 31 args [] v [] ∧ noref v = true ∧ No99 v := by
  intro args p v h1 h2
  unfold t_szZone at h1
  split at h1
  · rename_i s_nm s_x0 s_y0 s_x1 s_y1 b
    cases h1
    obtain ⟨_, HP⟩ := h2
    have := c_szZone (Zone.mk s_nm s_x0 s_y0 s_x1 s_y1) b HP.1 HP.2
    exact ⟨by simpa only [Zone.row] using this, rfl, trivial⟩
  · cases h1
theorem c_szZoneS (t : Nat) (l : List Zone) (a : Int) (ha : 0 ≤ a ∧ a ≤ 1048576) (hl : l.length ≤ 9223372036854775807 ∧ ∀ y ∈ l, y.fitp) : Contract P 7 [.sl t 5 (l.map Zone.row), .int .i64 a] [] (.int .i64 (szS Zone.sz l a)) [] := by
  refine fn_sound ((Env.nil P).add 31 t_szZone h_szZone) hm k_laws_szHandZoneS (nlb rfl) rfl ?_; unfold s_laws_szHandZoneS; simp (maxSteps := 2000000) only [bitvec_to_nat, reduceIte, Nat.reduceEqDiff, Nat.reduceAdd, Nat.reduceLeDiff, reduceCtorEq, Nat.reduceBEq, Nat.reduceLT, Nat.reduceMod, fmc, t_szZone, bXH, Zone.row, Box6.row, appE, rowsOf, srow, irow, bHX, Word.row, Own.row, Part.row, Seen.row, Book.row, Sector.row, HCraft.row, World.row, List.take_zero, List.foldl_nil]
  have hz : szOf a l.length = if a - l.length < 0 then -1 else a - l.length := rfl
  refine ⟨by omega, fun h1 => ?_, fun h1 => ?_⟩
  · unfold szS
    rw [(fold_meas meas_Zone l _ (by omega) (by omega)).2.1 (by omega)]
  have e0 : szOf a l.length = a - l.length := if_neg h1
  refine loop_st (fun i : Nat => [(1, .int .i64 ((l.take i).foldl (fun a x => x.sz a) (a - l.length))), (5, .int .i64 i)]) (fun _ => []) (fun i => i ≤ l.length ∧ 0 ≤ (l.take i).foldl (fun a x => x.sz a) (a - l.length)) (fun i => l.length - i) (0) (by simp only [u_E0, u_E1, u_M0, u_M1, w_setE0, w_setE1, w_setM0, w_setM1, reduceIte, Nat.reduceEqDiff]; exact ⟨by repeat' (first | exact trivial | refine ⟨.inr rfl, ?_⟩), by repeat' (first | exact trivial | refine ⟨rfl, ?_⟩), by first | rfl | simp [closedB, refsIn, refsInL, refsInO, dom, refsInL_nr, *], by first | rfl | simp [keepB, dom]⟩) ?_ ?_
  · simp only [List.take_zero, List.foldl_nil]; omega
  intro i hi NX hN
  have hm := (fold_meas meas_Zone (l.take i) (a - l.length) (by omega) (by omega)).2.2
  have hg : i < l.length → (l.getD i default).fitp := fun h => hl.2 _ (getD_mem' h)
  have hn : i < l.length → (l.take (i + 1)).foldl (fun a x => x.sz a) (a - l.length) = (l.getD i default).sz ((l.take i).foldl (fun a x => x.sz a) (a - l.length)) := fun h => fold_take (f := Zone.sz) h
  have hs : i < l.length → (l.getD i default).sz ((l.take i).foldl (fun a x => x.sz a) (a - l.length)) < 0 → szS Zone.sz l a = -1 := fun h h2 => by unfold szS; rw [e0]; exact fold_stop meas_Zone h (by omega) (by omega) h2
  unfold l_laws_szHandZoneS_0; simp (maxSteps := 2000000) only [bitvec_to_nat, reduceIte, Nat.reduceEqDiff, Nat.reduceAdd, Nat.reduceLeDiff, reduceCtorEq, Nat.reduceBEq, Nat.reduceLT, Nat.reduceMod, fmc, t_szZone, bXH, Zone.row, Box6.row, appE, rowsOf, srow, irow, bHX, Word.row, Own.row, Part.row, Seen.row, Book.row, Sector.row, HCraft.row, World.row, List.take_zero, List.foldl_nil]
  refine ⟨fun h2 => ⟨by omega, by omega, ⟨⟨by omega, by omega⟩, hg (by omega)⟩, fun h3 => by rw [hs (by omega) h3], fun h3 => ⟨by omega, ?_⟩⟩, fun h2 => ?_⟩
  · have e := hn (by omega)
    refine hN (i + 1) _ (by simp only [e, List.length_append, List.length_cons, List.length_nil, Nat.zero_add, List.map_append, List.map_cons, List.map_nil, u_E0, u_E1, u_M0, u_M1, w_setE0, w_setE1, w_setM0, w_setM1, reduceIte, Nat.reduceEqDiff]; exact ⟨by repeat' (first | exact trivial | refine ⟨.inr rfl, ?_⟩), by repeat' (first | exact trivial | refine ⟨rfl, ?_⟩), by first | rfl | simp [closedB, refsIn, refsInL, refsInO, dom, refsInL_nr, *], by first | rfl | simp [keepB, dom]⟩) ?_ ?_
    · exact ⟨by omega, by rw [e]; omega⟩
    · omega
  · have e : i = l.length := by omega
    subst e
    simp only [List.take_length]; unfold szS; rw [e0]
def t_szZoneS : List AV → Option (Prop × AV)
  | [.sl lt 5 lx, .int .i64 b] => some ((((lx.map unZone).map Zone.row = lx)) ∧ ((0 ≤ b ∧ b ≤ 1048576) ∧ ((lx.map unZone).length ≤ 9223372036854775807 ∧ ∀ y ∈ (lx.map unZone), Zone.fitp y)), .int .i64 (szS Zone.sz (lx.map unZone) b))
  | _ => none
theorem h_szZoneS : ∀ args p v, t_szZoneS args = some (p, v) → p → Contract P 7 args [] v [] ∧ noref v = true ∧ No99 v := by
  intro args p v h1 h2
  unfold t_szZoneS at h1
  split at h1
  · rename_i lt lx b
    cases h1
    obtain ⟨e0, HP⟩ := h2
    have := c_szZoneS lt (lx.map unZone) b HP.1 HP.2
    exact ⟨by simpa only [e0] using this, rfl, trivial⟩
  · cases h1
theorem c_szSeen (s : Seen) (a : Int) (ha : 0 ≤ a ∧ a ≤ 1048576) (hs : s.fitp) : Contract P 76 [.agg s.row, .int .i64 a] [] (.int .i64 (s.sz a)) [] := by
  unfold Seen.fitp at hs
  simp only [Seen.row]
  refine fn_sound (Env.nil P) hm k_laws_szHandSeen (nlb rfl) rfl ?_; unfold s_laws_szHandSeen; simp (maxSteps := 2000000) only [bitvec_to_nat, reduceIte, Nat.reduceEqDiff, Nat.reduceAdd, Nat.reduceLeDiff, reduceCtorEq, Nat.reduceBEq, Nat.reduceLT, Nat.reduceMod, fmc, bXH, Zone.row, Box6.row, appE, rowsOf, srow, irow, bHX, Word.row, Own.row, Part.row, Seen.row, Book.row, Sector.row, HCraft.row, World.row]
  unfold Seen.sz
  repeat' (first | with_reducible apply And.intro | with_reducible intro _)
  all_goals first | omega | (exact hs) | (exact hs.1) | (exact hs.2.1) | (exact hs.2.2) | (exact hs.2.2.1) | (exact hs.2.2.2) | (exact hs.2.2.2.1) | (exact hs.2.2.2.2) | (exact hs.1.1) | (exact hs.1.2) | (exact hs.2.1.1) | (exact hs.2.1.2) | (unfold chk; grind) | grind
def t_szSeen : List AV → Option (Prop × AV)
  | [.agg [.str s_fl, .int .i64 s_nr], .int .i64 b] => some ((True) ∧ ((0 ≤ b ∧ b ≤ 1048576) ∧ (Seen.fitp (Seen.mk s_fl s_nr))), .int .i64 (Seen.sz (Seen.mk s_fl s_nr) b))
  | _ => none
theorem h_szSeen : ∀ args p v, t_szSeen args = some (p, v) → p → Contract P 76 args [] v [] ∧ noref v = true ∧ No99 v := by
  intro args p v h1 h2
  unfold t_szSeen at h1
  split at h1
  · rename_i s_fl s_nr b
    cases h1
    obtain ⟨_, HP⟩ := h2
    have := c_szSeen (Seen.mk s_fl s_nr) b HP.1 HP.2
    exact ⟨by simpa only [Seen.row] using this, rfl, trivial⟩
  · cases h1
theorem c_szSeenS (t : Nat) (l : List Seen) (a : Int) (ha : 0 ≤ a ∧ a ≤ 1048576) (hl : l.length ≤ 9223372036854775807 ∧ ∀ y ∈ l, y.fitp) : Contract P 34 [.sl t 2 (l.map Seen.row), .int .i64 a] [] (.int .i64 (szS Seen.sz l a)) [] := by
  refine fn_sound ((Env.nil P).add 76 t_szSeen h_szSeen) hm k_laws_szHandSeenS (nlb rfl) rfl ?_; unfold s_laws_szHandSeenS; simp (maxSteps := 2000000) only [bitvec_to_nat, reduceIte, Nat.reduceEqDiff, Nat.reduceAdd, Nat.reduceLeDiff, reduceCtorEq, Nat.reduceBEq, Nat.reduceLT, Nat.reduceMod, fmc, t_szSeen, bXH, Zone.row, Box6.row, appE, rowsOf, srow, irow, bHX, Word.row, Own.row, Part.row, Seen.row, Book.row, Sector.row, HCraft.row, World.row, List.take_zero, List.foldl_nil]
  have hz : szOf a l.length = if a - l.length < 0 then -1 else a - l.length := rfl
  refine ⟨by omega, fun h1 => ?_, fun h1 => ?_⟩
  · unfold szS
    rw [(fold_meas meas_Seen l _ (by omega) (by omega)).2.1 (by omega)]
  have e0 : szOf a l.length = a - l.length := if_neg h1
  refine loop_st (fun i : Nat => [(1, .int .i64 ((l.take i).foldl (fun a x => x.sz a) (a - l.length))), (5, .int .i64 i)]) (fun _ => []) (fun i => i ≤ l.length ∧ 0 ≤ (l.take i).foldl (fun a x => x.sz a) (a - l.length)) (fun i => l.length - i) (0) (by simp only [u_E0, u_E1, u_M0, u_M1, w_setE0, w_setE1, w_setM0, w_setM1, reduceIte, Nat.reduceEqDiff]; exact ⟨by repeat' (first | exact trivial | refine ⟨.inr rfl, ?_⟩), by repeat' (first | exact trivial | refine ⟨rfl, ?_⟩), by first | rfl | simp [closedB, refsIn, refsInL, refsInO, dom, refsInL_nr, *], by first | rfl | simp [keepB, dom]⟩) ?_ ?_
  · simp only [List.take_zero, List.foldl_nil]; omega
  intro i hi NX hN
  have hm := (fold_meas meas_Seen (l.take i) (a - l.length) (by omega) (by omega)).2.2
  have hg : i < l.length → (l.getD i default).fitp := fun h => hl.2 _ (getD_mem' h)
  have hn : i < l.length → (l.take (i + 1)).foldl (fun a x => x.sz a) (a - l.length) = (l.getD i default).sz ((l.take i).foldl (fun a x => x.sz a) (a - l.length)) := fun h => fold_take (f := Seen.sz) h
  have hs : i < l.length → (l.getD i default).sz ((l.take i).foldl (fun a x => x.sz a) (a - l.length)) < 0 → szS Seen.sz l a = -1 := fun h h2 => by unfold szS; rw [e0]; exact fold_stop meas_Seen h (by omega) (by omega) h2
  unfold l_laws_szHandSeenS_0; simp (maxSteps := 2000000) only [bitvec_to_nat, reduceIte, Nat.reduceEqDiff, Nat.reduceAdd, Nat.reduceLeDiff, reduceCtorEq, Nat.reduceBEq, Nat.reduceLT, Nat.reduceMod, fmc, t_szSeen, bXH, Zone.row, Box6.row, appE, rowsOf, srow, irow, bHX, Word.row, Own.row, Part.row, Seen.row, Book.row, Sector.row, HCraft.row, World.row, List.take_zero, List.foldl_nil]
  refine ⟨fun h2 => ⟨by omega, by omega, ⟨⟨by omega, by omega⟩, hg (by omega)⟩, fun h3 => by rw [hs (by omega) h3], fun h3 => ⟨by omega, ?_⟩⟩, fun h2 => ?_⟩
  · have e := hn (by omega)
    refine hN (i + 1) _ (by simp only [e, List.length_append, List.length_cons, List.length_nil, Nat.zero_add, List.map_append, List.map_cons, List.map_nil, u_E0, u_E1, u_M0, u_M1, w_setE0, w_setE1, w_setM0, w_setM1, reduceIte, Nat.reduceEqDiff]; exact ⟨by repeat' (first | exact trivial | refine ⟨.inr rfl, ?_⟩), by repeat' (first | exact trivial | refine ⟨rfl, ?_⟩), by first | rfl | simp [closedB, refsIn, refsInL, refsInO, dom, refsInL_nr, *], by first | rfl | simp [keepB, dom]⟩) ?_ ?_
    · exact ⟨by omega, by rw [e]; omega⟩
    · omega
  · have e : i = l.length := by omega
    subst e
    simp only [List.take_length]; unfold szS; rw [e0]
def t_szSeenS : List AV → Option (Prop × AV)
  | [.sl lt 2 lx, .int .i64 b] => some ((((lx.map unSeen).map Seen.row = lx)) ∧ ((0 ≤ b ∧ b ≤ 1048576) ∧ ((lx.map unSeen).length ≤ 9223372036854775807 ∧ ∀ y ∈ (lx.map unSeen), Seen.fitp y)), .int .i64 (szS Seen.sz (lx.map unSeen) b))
  | _ => none
theorem h_szSeenS : ∀ args p v, t_szSeenS args = some (p, v) → p → Contract P 34 args [] v [] ∧ noref v = true ∧ No99 v := by
  intro args p v h1 h2
  unfold t_szSeenS at h1
  split at h1
  · rename_i lt lx b
    cases h1
    obtain ⟨e0, HP⟩ := h2
    have := c_szSeenS lt (lx.map unSeen) b HP.1 HP.2
    exact ⟨by simpa only [e0] using this, rfl, trivial⟩
  · cases h1
theorem c_szPart (s : Part) (a : Int) (ha : 0 ≤ a ∧ a ≤ 1048576) (hs : s.fitp) : Contract P 75 [.agg (s.row 1), .int .i64 a] [] (.int .i64 (s.sz a)) [] := by
  unfold Part.fitp at hs
  simp only [Part.row]
  refine fn_sound ((Env.nil P).add 23 t_szBoxS h_szBoxS) hm k_laws_szHandPart (nlb rfl) rfl ?_; unfold s_laws_szHandPart; simp (maxSteps := 2000000) only [bitvec_to_nat, reduceIte, Nat.reduceEqDiff, Nat.reduceAdd, Nat.reduceLeDiff, reduceCtorEq, Nat.reduceBEq, Nat.reduceLT, Nat.reduceMod, fmc, t_szBoxS, bXH, Zone.row, Box6.row, appE, rowsOf, srow, irow, bHX, Word.row, Own.row, Part.row, Seen.row, Book.row, Sector.row, HCraft.row, World.row]
  unfold Part.sz
  have qbx : (szOf (a - (s.fl.toList.length : Nat)) s.bx.length) ≤ max (a - (s.fl.toList.length : Nat)) (-1) := by unfold szOf; split <;> omega
  repeat' (first | with_reducible apply And.intro | with_reducible intro _)
  all_goals first | omega | (exact hs) | (exact hs.1) | (exact hs.2.1) | (exact hs.2.2) | (exact hs.2.2.1) | (exact hs.2.2.2) | (exact hs.2.2.2.1) | (exact hs.2.2.2.2) | (exact hs.1.1) | (exact hs.1.2) | (exact hs.2.1.1) | (exact hs.2.1.2) | (unfold chk; grind) | grind
def t_szPart : List AV → Option (Prop × AV)
  | [.agg [.str s_fl, .int .i64 s_nr, .sl 1 6 s_bx], .int .i64 b] => some ((((s_bx.map unBox).map Box6.row = s_bx)) ∧ ((0 ≤ b ∧ b ≤ 1048576) ∧ (Part.fitp (Part.mk s_fl s_nr (s_bx.map unBox)))), .int .i64 (Part.sz (Part.mk s_fl s_nr (s_bx.map unBox)) b))
  | _ => none
theorem h_szPart : ∀ args p v, t_szPart args = some (p, v) → p → Contract P 75 args [] v [] ∧ noref v = true ∧ No99 v := by
  intro args p v h1 h2
  unfold t_szPart at h1
  split at h1
  · rename_i s_fl s_nr s_bx b
    cases h1
    obtain ⟨e0, HP⟩ := h2
    have := c_szPart (Part.mk s_fl s_nr (s_bx.map unBox)) b HP.1 HP.2
    exact ⟨by simpa only [e0, Part.row] using this, rfl, trivial⟩
  · cases h1
theorem c_szPartS (t : Nat) (l : List Part) (a : Int) (ha : 0 ≤ a ∧ a ≤ 1048576) (hl : l.length ≤ 9223372036854775807 ∧ ∀ y ∈ l, y.fitp) : Contract P 33 [.sl t 3 (l.map (Part.row 1)), .int .i64 a] [] (.int .i64 (szS Part.sz l a)) [] := by
  refine fn_sound ((Env.nil P).add 75 t_szPart h_szPart) hm k_laws_szHandPartS (nlb rfl) rfl ?_; unfold s_laws_szHandPartS; simp (maxSteps := 2000000) only [bitvec_to_nat, reduceIte, Nat.reduceEqDiff, Nat.reduceAdd, Nat.reduceLeDiff, reduceCtorEq, Nat.reduceBEq, Nat.reduceLT, Nat.reduceMod, fmc, t_szPart, bXH, Zone.row, Box6.row, appE, rowsOf, srow, irow, bHX, Word.row, Own.row, Part.row, Seen.row, Book.row, Sector.row, HCraft.row, World.row, List.take_zero, List.foldl_nil]
  have hz : szOf a l.length = if a - l.length < 0 then -1 else a - l.length := rfl
  refine ⟨by omega, fun h1 => ?_, fun h1 => ?_⟩
  · unfold szS
    rw [(fold_meas meas_Part l _ (by omega) (by omega)).2.1 (by omega)]
  have e0 : szOf a l.length = a - l.length := if_neg h1
  refine loop_st (fun i : Nat => [(1, .int .i64 ((l.take i).foldl (fun a x => x.sz a) (a - l.length))), (5, .int .i64 i)]) (fun _ => []) (fun i => i ≤ l.length ∧ 0 ≤ (l.take i).foldl (fun a x => x.sz a) (a - l.length)) (fun i => l.length - i) (0) (by simp only [u_E0, u_E1, u_M0, u_M1, w_setE0, w_setE1, w_setM0, w_setM1, reduceIte, Nat.reduceEqDiff]; exact ⟨by repeat' (first | exact trivial | refine ⟨.inr rfl, ?_⟩), by repeat' (first | exact trivial | refine ⟨rfl, ?_⟩), by first | rfl | simp [closedB, refsIn, refsInL, refsInO, dom, refsInL_nr, *], by first | rfl | simp [keepB, dom]⟩) ?_ ?_
  · simp only [List.take_zero, List.foldl_nil]; omega
  intro i hi NX hN
  have hm := (fold_meas meas_Part (l.take i) (a - l.length) (by omega) (by omega)).2.2
  have hg : i < l.length → (l.getD i default).fitp := fun h => hl.2 _ (getD_mem' h)
  have hn : i < l.length → (l.take (i + 1)).foldl (fun a x => x.sz a) (a - l.length) = (l.getD i default).sz ((l.take i).foldl (fun a x => x.sz a) (a - l.length)) := fun h => fold_take (f := Part.sz) h
  have hs : i < l.length → (l.getD i default).sz ((l.take i).foldl (fun a x => x.sz a) (a - l.length)) < 0 → szS Part.sz l a = -1 := fun h h2 => by unfold szS; rw [e0]; exact fold_stop meas_Part h (by omega) (by omega) h2
  unfold l_laws_szHandPartS_0; simp (maxSteps := 2000000) only [bitvec_to_nat, reduceIte, Nat.reduceEqDiff, Nat.reduceAdd, Nat.reduceLeDiff, reduceCtorEq, Nat.reduceBEq, Nat.reduceLT, Nat.reduceMod, fmc, t_szPart, bXH, Zone.row, Box6.row, appE, rowsOf, srow, irow, bHX, Word.row, Own.row, Part.row, Seen.row, Book.row, Sector.row, HCraft.row, World.row, List.take_zero, List.foldl_nil]
  refine ⟨fun h2 => ⟨by omega, by omega, ⟨⟨by omega, by omega⟩, hg (by omega)⟩, fun h3 => by rw [hs (by omega) h3], fun h3 => ⟨by omega, ?_⟩⟩, fun h2 => ?_⟩
  · have e := hn (by omega)
    refine hN (i + 1) _ (by simp only [e, List.length_append, List.length_cons, List.length_nil, Nat.zero_add, List.map_append, List.map_cons, List.map_nil, u_E0, u_E1, u_M0, u_M1, w_setE0, w_setE1, w_setM0, w_setM1, reduceIte, Nat.reduceEqDiff]; exact ⟨by repeat' (first | exact trivial | refine ⟨.inr rfl, ?_⟩), by repeat' (first | exact trivial | refine ⟨rfl, ?_⟩), by first | rfl | simp [closedB, refsIn, refsInL, refsInO, dom, refsInL_nr, *], by first | rfl | simp [keepB, dom]⟩) ?_ ?_
    · exact ⟨by omega, by rw [e]; omega⟩
    · omega
  · have e : i = l.length := by omega
    subst e
    simp only [List.take_length]; unfold szS; rw [e0]
def t_szPartS : List AV → Option (Prop × AV)
  | [.sl lt 3 lx, .int .i64 b] => some ((((lx.map unPart).map (Part.row 1) = lx)) ∧ ((0 ≤ b ∧ b ≤ 1048576) ∧ ((lx.map unPart).length ≤ 9223372036854775807 ∧ ∀ y ∈ (lx.map unPart), Part.fitp y)), .int .i64 (szS Part.sz (lx.map unPart) b))
  | _ => none
theorem h_szPartS : ∀ args p v, t_szPartS args = some (p, v) → p → Contract P 33 args [] v [] ∧ noref v = true ∧ No99 v := by
  intro args p v h1 h2
  unfold t_szPartS at h1
  split at h1
  · rename_i lt lx b
    cases h1
    obtain ⟨e0, HP⟩ := h2
    have := c_szPartS lt (lx.map unPart) b HP.1 HP.2
    exact ⟨by simpa only [e0] using this, rfl, trivial⟩
  · cases h1
theorem c_szOwn (s : Own) (a : Int) (ha : 0 ≤ a ∧ a ≤ 1048576) (hs : s.fitp) : Contract P 74 [.agg (s.row 1), .int .i64 a] [] (.int .i64 (s.sz a)) [] := by
  unfold Own.fitp at hs
  simp only [Own.row]
  refine fn_sound (((Env.nil P).add 23 t_szBoxS h_szBoxS).add 105 t_szStringS h_szStringS) hm k_laws_szHandOwn (nlb rfl) rfl ?_; unfold s_laws_szHandOwn; simp (maxSteps := 2000000) only [bitvec_to_nat, reduceIte, Nat.reduceEqDiff, Nat.reduceAdd, Nat.reduceLeDiff, reduceCtorEq, Nat.reduceBEq, Nat.reduceLT, Nat.reduceMod, fmc, t_szBoxS, t_szStringS, bXH, Zone.row, Box6.row, appE, rowsOf, srow, irow, bHX, Word.row, Own.row, Part.row, Seen.row, Book.row, Sector.row, HCraft.row, World.row]
  unfold Own.sz
  have qtu : (szOf ((a - (s.fl.toList.length : Nat)) - (s.dst.toList.length : Nat)) s.tu.length) ≤ max ((a - (s.fl.toList.length : Nat)) - (s.dst.toList.length : Nat)) (-1) := by unfold szOf; split <;> omega
  have qnx : (szOf (szOf ((a - (s.fl.toList.length : Nat)) - (s.dst.toList.length : Nat)) s.tu.length) s.nx.length) ≤ max (szOf ((a - (s.fl.toList.length : Nat)) - (s.dst.toList.length : Nat)) s.tu.length) (-1) := by unfold szOf; split <;> omega
  have qgr : (szS szStr s.gr (szOf (szOf ((a - (s.fl.toList.length : Nat)) - (s.dst.toList.length : Nat)) s.tu.length) s.nx.length)) ≤ max (szOf (szOf ((a - (s.fl.toList.length : Nat)) - (s.dst.toList.length : Nat)) s.tu.length) s.nx.length) (-1) := (meas_szS meas_str s.gr (szOf (szOf ((a - (s.fl.toList.length : Nat)) - (s.dst.toList.length : Nat)) s.tu.length) s.nx.length) (by omega)).2.2
  repeat' (first | with_reducible apply And.intro | with_reducible intro _)
  all_goals first | omega | (exact hs) | (exact hs.1) | (exact hs.2.1) | (exact hs.2.2) | (exact hs.2.2.1) | (exact hs.2.2.2) | (exact hs.2.2.2.1) | (exact hs.2.2.2.2) | (exact hs.1.1) | (exact hs.1.2) | (exact hs.2.1.1) | (exact hs.2.1.2) | (unfold chk; grind) | grind
def t_szOwn : List AV → Option (Prop × AV)
  | [.agg [.str s_fl, .int .i64 s_st, .int .i64 s_tn, .str s_dst, .int .i64 s_la, .int .i64 s_nr, .sl 1 6 s_tu, .int .i64 s_wi, .sl 1 6 s_nx, .sl 1 1 s_gr, .bool s_sent], .int .i64 b] => some ((((s_tu.map unBox).map Box6.row = s_tu) ∧ ((s_nx.map unBox).map Box6.row = s_nx) ∧ ((s_gr.map unS).map srow = s_gr)) ∧ ((0 ≤ b ∧ b ≤ 1048576) ∧ (Own.fitp (Own.mk s_fl s_st s_tn s_dst s_la s_nr (s_tu.map unBox) s_wi (s_nx.map unBox) (s_gr.map unS) s_sent))), .int .i64 (Own.sz (Own.mk s_fl s_st s_tn s_dst s_la s_nr (s_tu.map unBox) s_wi (s_nx.map unBox) (s_gr.map unS) s_sent) b))
  | _ => none
theorem h_szOwn : ∀ args p v, t_szOwn args = some (p, v) → p → Contract P 74 args [] v [] ∧ noref v = true ∧ No99 v := by
  intro args p v h1 h2
  unfold t_szOwn at h1
  split at h1
  · rename_i s_fl s_st s_tn s_dst s_la s_nr s_tu s_wi s_nx s_gr s_sent b
    cases h1
    obtain ⟨⟨e0, e1, e2⟩, HP⟩ := h2
    have := c_szOwn (Own.mk s_fl s_st s_tn s_dst s_la s_nr (s_tu.map unBox) s_wi (s_nx.map unBox) (s_gr.map unS) s_sent) b HP.1 HP.2
    exact ⟨by simpa only [e0, e1, e2, Own.row] using this, rfl, trivial⟩
  · cases h1
theorem c_szOwnS (t : Nat) (l : List Own) (a : Int) (ha : 0 ≤ a ∧ a ≤ 1048576) (hl : l.length ≤ 9223372036854775807 ∧ ∀ y ∈ l, y.fitp) : Contract P 32 [.sl t 11 (l.map (Own.row 1)), .int .i64 a] [] (.int .i64 (szS Own.sz l a)) [] := by
  refine fn_sound ((Env.nil P).add 74 t_szOwn h_szOwn) hm k_laws_szHandOwnS (nlb rfl) rfl ?_; unfold s_laws_szHandOwnS; simp (maxSteps := 2000000) only [bitvec_to_nat, reduceIte, Nat.reduceEqDiff, Nat.reduceAdd, Nat.reduceLeDiff, reduceCtorEq, Nat.reduceBEq, Nat.reduceLT, Nat.reduceMod, fmc, t_szOwn, bXH, Zone.row, Box6.row, appE, rowsOf, srow, irow, bHX, Word.row, Own.row, Part.row, Seen.row, Book.row, Sector.row, HCraft.row, World.row, List.take_zero, List.foldl_nil]
  have hz : szOf a l.length = if a - l.length < 0 then -1 else a - l.length := rfl
  refine ⟨by omega, fun h1 => ?_, fun h1 => ?_⟩
  · unfold szS
    rw [(fold_meas meas_Own l _ (by omega) (by omega)).2.1 (by omega)]
  have e0 : szOf a l.length = a - l.length := if_neg h1
  refine loop_st (fun i : Nat => [(1, .int .i64 ((l.take i).foldl (fun a x => x.sz a) (a - l.length))), (5, .int .i64 i)]) (fun _ => []) (fun i => i ≤ l.length ∧ 0 ≤ (l.take i).foldl (fun a x => x.sz a) (a - l.length)) (fun i => l.length - i) (0) (by simp only [u_E0, u_E1, u_M0, u_M1, w_setE0, w_setE1, w_setM0, w_setM1, reduceIte, Nat.reduceEqDiff]; exact ⟨by repeat' (first | exact trivial | refine ⟨.inr rfl, ?_⟩), by repeat' (first | exact trivial | refine ⟨rfl, ?_⟩), by first | rfl | simp [closedB, refsIn, refsInL, refsInO, dom, refsInL_nr, *], by first | rfl | simp [keepB, dom]⟩) ?_ ?_
  · simp only [List.take_zero, List.foldl_nil]; omega
  intro i hi NX hN
  have hm := (fold_meas meas_Own (l.take i) (a - l.length) (by omega) (by omega)).2.2
  have hg : i < l.length → (l.getD i default).fitp := fun h => hl.2 _ (getD_mem' h)
  have hn : i < l.length → (l.take (i + 1)).foldl (fun a x => x.sz a) (a - l.length) = (l.getD i default).sz ((l.take i).foldl (fun a x => x.sz a) (a - l.length)) := fun h => fold_take (f := Own.sz) h
  have hs : i < l.length → (l.getD i default).sz ((l.take i).foldl (fun a x => x.sz a) (a - l.length)) < 0 → szS Own.sz l a = -1 := fun h h2 => by unfold szS; rw [e0]; exact fold_stop meas_Own h (by omega) (by omega) h2
  unfold l_laws_szHandOwnS_0; simp (maxSteps := 2000000) only [bitvec_to_nat, reduceIte, Nat.reduceEqDiff, Nat.reduceAdd, Nat.reduceLeDiff, reduceCtorEq, Nat.reduceBEq, Nat.reduceLT, Nat.reduceMod, fmc, t_szOwn, bXH, Zone.row, Box6.row, appE, rowsOf, srow, irow, bHX, Word.row, Own.row, Part.row, Seen.row, Book.row, Sector.row, HCraft.row, World.row, List.take_zero, List.foldl_nil]
  refine ⟨fun h2 => ⟨by omega, by omega, ⟨⟨by omega, by omega⟩, hg (by omega)⟩, fun h3 => by rw [hs (by omega) h3], fun h3 => ⟨by omega, ?_⟩⟩, fun h2 => ?_⟩
  · have e := hn (by omega)
    refine hN (i + 1) _ (by simp only [e, List.length_append, List.length_cons, List.length_nil, Nat.zero_add, List.map_append, List.map_cons, List.map_nil, u_E0, u_E1, u_M0, u_M1, w_setE0, w_setE1, w_setM0, w_setM1, reduceIte, Nat.reduceEqDiff]; exact ⟨by repeat' (first | exact trivial | refine ⟨.inr rfl, ?_⟩), by repeat' (first | exact trivial | refine ⟨rfl, ?_⟩), by first | rfl | simp [closedB, refsIn, refsInL, refsInO, dom, refsInL_nr, *], by first | rfl | simp [keepB, dom]⟩) ?_ ?_
    · exact ⟨by omega, by rw [e]; omega⟩
    · omega
  · have e : i = l.length := by omega
    subst e
    simp only [List.take_length]; unfold szS; rw [e0]
def t_szOwnS : List AV → Option (Prop × AV)
  | [.sl lt 11 lx, .int .i64 b] => some ((((lx.map unOwn).map (Own.row 1) = lx)) ∧ ((0 ≤ b ∧ b ≤ 1048576) ∧ ((lx.map unOwn).length ≤ 9223372036854775807 ∧ ∀ y ∈ (lx.map unOwn), Own.fitp y)), .int .i64 (szS Own.sz (lx.map unOwn) b))
  | _ => none
theorem h_szOwnS : ∀ args p v, t_szOwnS args = some (p, v) → p → Contract P 32 args [] v [] ∧ noref v = true ∧ No99 v := by
  intro args p v h1 h2
  unfold t_szOwnS at h1
  split at h1
  · rename_i lt lx b
    cases h1
    obtain ⟨e0, HP⟩ := h2
    have := c_szOwnS lt (lx.map unOwn) b HP.1 HP.2
    exact ⟨by simpa only [e0] using this, rfl, trivial⟩
  · cases h1
theorem c_szBook (s : Book) (a : Int) (ha : 0 ≤ a ∧ a ≤ 1048576) (hs : s.fitp) : Contract P 8 [.agg (s.row 1), .int .i64 a] [] (.int .i64 (s.sz a)) [] := by
  unfold Book.fitp at hs
  simp only [Book.row]
  refine fn_sound ((((Env.nil P).add 32 t_szOwnS h_szOwnS).add 33 t_szPartS h_szPartS).add 34 t_szSeenS h_szSeenS) hm k_laws_szHandBook (nlb rfl) rfl ?_; unfold s_laws_szHandBook; simp (maxSteps := 2000000) only [bitvec_to_nat, reduceIte, Nat.reduceEqDiff, Nat.reduceAdd, Nat.reduceLeDiff, reduceCtorEq, Nat.reduceBEq, Nat.reduceLT, Nat.reduceMod, fmc, t_szOwnS, t_szPartS, t_szSeenS, bXH, Zone.row, Box6.row, appE, rowsOf, srow, irow, bHX, Word.row, Own.row, Part.row, Seen.row, Book.row, Sector.row, HCraft.row, World.row]
  unfold Book.sz
  have qown : (szS Own.sz s.own a) ≤ max a (-1) := (meas_szS meas_Own s.own a (by omega)).2.2
  have qparts : (szS Part.sz s.parts (szS Own.sz s.own a)) ≤ max (szS Own.sz s.own a) (-1) := (meas_szS meas_Part s.parts (szS Own.sz s.own a) (by omega)).2.2
  have qseen : (szS Seen.sz s.seen (szS Part.sz s.parts (szS Own.sz s.own a))) ≤ max (szS Part.sz s.parts (szS Own.sz s.own a)) (-1) := (meas_szS meas_Seen s.seen (szS Part.sz s.parts (szS Own.sz s.own a)) (by omega)).2.2
  repeat' (first | with_reducible apply And.intro | with_reducible intro _)
  all_goals first | omega | (exact hs) | (exact hs.1) | (exact hs.2.1) | (exact hs.2.2) | (exact hs.2.2.1) | (exact hs.2.2.2) | (exact hs.2.2.2.1) | (exact hs.2.2.2.2) | (exact hs.1.1) | (exact hs.1.2) | (exact hs.2.1.1) | (exact hs.2.1.2) | (unfold chk; grind) | grind
def t_szBook : List AV → Option (Prop × AV)
  | [.agg [.sl 1 11 s_own, .sl 1 3 s_parts, .sl 1 2 s_seen], .int .i64 b] => some ((((s_own.map unOwn).map (Own.row 1) = s_own) ∧ ((s_parts.map unPart).map (Part.row 1) = s_parts) ∧ ((s_seen.map unSeen).map Seen.row = s_seen)) ∧ ((0 ≤ b ∧ b ≤ 1048576) ∧ (Book.fitp (Book.mk (s_own.map unOwn) (s_parts.map unPart) (s_seen.map unSeen)))), .int .i64 (Book.sz (Book.mk (s_own.map unOwn) (s_parts.map unPart) (s_seen.map unSeen)) b))
  | _ => none
theorem h_szBook : ∀ args p v, t_szBook args = some (p, v) → p → Contract P 8 args [] v [] ∧ noref v = true ∧ No99 v := by
  intro args p v h1 h2
  unfold t_szBook at h1
  split at h1
  · rename_i s_own s_parts s_seen b
    cases h1
    obtain ⟨⟨e0, e1, e2⟩, HP⟩ := h2
    have := c_szBook (Book.mk (s_own.map unOwn) (s_parts.map unPart) (s_seen.map unSeen)) b HP.1 HP.2
    exact ⟨by simpa only [e0, e1, e2, Book.row] using this, rfl, trivial⟩
  · cases h1
end
end Go.Ve

