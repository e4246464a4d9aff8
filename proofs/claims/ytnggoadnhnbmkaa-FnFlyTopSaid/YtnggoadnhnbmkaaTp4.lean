/- Part 4 of the proof: laws and contracts of functions, each proved; they are joined in the last part. No conditions beyond those that the theorems state. -/
import Derived.Test.YtnggoadnhnbmkaaTp3
set_option linter.all false
namespace Go.Ve
open Go.Proofs
set_option linter.unusedSimpArgs false
set_option linter.unusedVariables false
set_option maxRecDepth 100000
set_option maxHeartbeats 4000000
def Path5.step (p : Path5) (f : List Int) (j : Nat) : Prop := (p.low j ≤ f.getD j default ∧ f.getD j default ≤ p.high j) ∧ (0 < j → p.q ≤ f.getD j default - f.getD (j - 1) default ∧ f.getD j default - f.getD (j - 1) default ≤ p.most (j - 1))
def Path5.lawful (p : Path5) (f : List Int) : Prop := pathOk p.q p.s p.l p.f p.b ∧ f.length = p.l.length + 1 ∧ ∀ j, j < f.length → p.step f j
instance (p : Path5) (f : List Int) (j : Nat) : Decidable (p.step f j) := by unfold Path5.step; infer_instance
instance (p : Path5) (f : List Int) : Decidable (p.lawful f) := by unfold Path5.lawful; infer_instance
def F_iLaw (p : Path5) (t t' : Nat) (f : List Int) (k : Nat) : St := ⟨[(1, .sl t' 1 (f.map irow)), (2, .ptr 102 0), (22, .sl t' 1 (f.map irow)), (23, .int .i64 f.length), (24, .int .i64 k)], [(102, .box [.int .i64 p.q, .int .i64 p.s, .sl t 7 (p.l.map Stp7.row), .int .i64 p.f, .int .i64 p.b])]⟩
def F_sLaw (p : Path5) (t t' : Nat) (f : List Int) (k : Nat) : St := ⟨[(1, .sl t' 1 (f.map irow)), (2, .ptr 102 0), (5, .int .i64 k)], [(102, .box [.int .i64 p.q, .int .i64 p.s, .sl t 7 (p.l.map Stp7.row), .int .i64 p.f, .int .i64 p.b])]⟩
theorem c_sLawful (p : Path5) (t t' : Nat) (f : List Int) : Contract P 14 [.agg [.int .i64 p.q, .int .i64 p.s, .sl t 7 (p.l.map Stp7.row), .int .i64 p.f, .int .i64 p.b], .sl t' 1 (f.map irow)] [] (.bool (decide (p.lawful f))) [] := by
  refine fn_sound ((((((Env.nil P).add 33 t_sPathOk h_sPathOk).add 57 t_l21In h_l21In).add 58 t_l23Low h_l23Low).add 59 t_l23High h_l23High).add 60 t_l23Most h_l23Most) hm k_spec_FlyLawful (Nat.le_of_ble_eq_true rfl) rfl ?_
  unfold s_spec_FlyLawful
  simp only [w_skip, w_rg, w_rgd, w_seq, w_cond, w_block, w_loop, w_exit, w_ret, w_gh, w_rg0, w_rg1, w_rgT, w_rgF, w_run, w_psd, w_und, w_dr0, w_dr1, w_drT, w_drF, w_drRun, w_drPsd, w_drUnd, w_drKn, w_drKs, w_putK, w_trimK, w_thenN, w_thenE, w_thenR, w_scope, w_label, w_blkN, w_blkE, w_blkR, w_call, w_effK, brU_true, brU_false, brU_u, brU_not, brU_and, brU_or, brU_dec, brU_eq, brU_ne, br_true, br_false, br_not, br_and, br_or, br_dec, br_eq, br_ne, w_getE0, w_getE1, w_setE0, w_setE1, w_dropE0, w_dropE1, w_drop0, w_drop1, w_getM0, w_getM1, w_setM0, w_setM1, ev_v, ev_c, w_putS, w_putN, w_lit, w_apU0, w_apU1, w_apU2, w_trim, enumE0, enumE1, w_callWp, w_callA0, w_callA1, w_R0, w_R1, w_R2, w_T2, w_callL, w_callT, w_T1, w_T0, o_mv, o_newnil, o_pick, o_bin, o_binN, o_neg, o_not, o_eqB, o_eqS, o_conv, o_alloc, o_box, o_load1, o_loadN, o_store, o_nilck, o_faddr, o_field1, o_fieldN, o_iaddr, o_istr, o_slStr, o_slSl, o_lenS, o_lenL, o_mx, o_mn, o_ext, o_build, o_lit, o_litOwn, o_app, o_mk, o_mvfrz, l_int, l_bool, l_str, l_agg, l_sl, l_own, l_ptr, l_pp, i_int, i_bool, i_str, i_sl, i_own, i_ptr, i_pp, all0, all1, e_ok1, eff, effBin, effBinN, ld_ptr, ld_pp, ld_elt, ia_own, ia_arr, el_1, el_N, load1K, faddrE, r_iaddr, sg_S, sg_c, sg_n, purL, pur, List.map, List.drop, List.take, List.length, List.foldl, List.append_eq, List.nil_append, List.cons_append, List.getD_cons_zero, List.getD_cons_succ, reduceIte, Nat.reduceEqDiff, Nat.reduceAdd, Nat.reduceLeDiff, true_and, and_true, Bool.not_true, Bool.not_false, Bool.and_true, Bool.true_and, Bool.and_self, reduceCtorEq, true_implies, false_implies, implies_true, decide_eq_true_eq, Option.map_some, fpOf, fpX, SOp.xs, oX, refs, refsL, dom, disj, List.all_nil, List.all_cons, List.contains_cons, List.contains_nil, Nat.reduceBEq, Bool.or_false, Bool.false_or, List.append_nil, Bool.not_false, Bool.not_true, List.forall_mem_cons, fm0, List.set, Nat.reduceLT, ne_eq, not_false_eq_true, not_true_eq_false
, ret1, ret1N, keep0, keep1, rf_int, rf_bool, rf_str, rf_sl, rf_agg, rf_tup, rfL0, rfL1, re_t, re_cN, re_L0, re_L1, ret_tup, ret_one, decide_true, AV.bool.injEq, AV.int.injEq, Nat.reduceLeDiff, Bool.true_eq, Bool.false_eq, decide_eq_true_eq, decide_eq_false_iff_not, t_sPathOk, t_l21In, t_l23Low, t_l23High, t_l23Most, toNat_pred, irow, List.length_map, un_stp, path_eta, flatOk, noref, ghost, Int.toNat_natCast, Nat.zero_add, Nat.sub_zero]
  refine ⟨fun h1 => ⟨by have := h1.2.1; omega, fun h2 h => h2 (by have := h.2.1; omega), fun h2 => ?_⟩, fun h1 h => h1 h.1⟩
  have hc := ok_calm h1
  have hl : f.length = p.l.length + 1 := by omega
  refine loop_of (F_sLaw p t t' f) (fun k => k ≤ f.length ∧ ∀ j, j < k → p.step f j) (fun k => f.length - k) 0 ⟨⟨.inr rfl, .inr rfl, .inr rfl, trivial⟩, ⟨rfl, trivial⟩, rfl, rfl⟩ ⟨Nat.zero_le _, fun j hj => by omega⟩ ?_
  rintro k ⟨hk, hs⟩
  unfold l_spec_FlyLawful_0 F_sLaw
  simp only [w_skip, w_rg, w_rgd, w_seq, w_cond, w_block, w_loop, w_exit, w_ret, w_gh, w_rg0, w_rg1, w_rgT, w_rgF, w_run, w_psd, w_und, w_dr0, w_dr1, w_drT, w_drF, w_drRun, w_drPsd, w_drUnd, w_drKn, w_drKs, w_putK, w_trimK, w_thenN, w_thenE, w_thenR, w_scope, w_label, w_blkN, w_blkE, w_blkR, w_call, w_effK, brU_true, brU_false, brU_u, brU_not, brU_and, brU_or, brU_dec, brU_eq, brU_ne, br_true, br_false, br_not, br_and, br_or, br_dec, br_eq, br_ne, w_getE0, w_getE1, w_setE0, w_setE1, w_dropE0, w_dropE1, w_drop0, w_drop1, w_getM0, w_getM1, w_setM0, w_setM1, ev_v, ev_c, w_putS, w_putN, w_lit, w_apU0, w_apU1, w_apU2, w_trim, enumE0, enumE1, w_callWp, w_callA0, w_callA1, w_R0, w_R1, w_R2, w_T2, w_callL, w_callT, w_T1, w_T0, o_mv, o_newnil, o_pick, o_bin, o_binN, o_neg, o_not, o_eqB, o_eqS, o_conv, o_alloc, o_box, o_load1, o_loadN, o_store, o_nilck, o_faddr, o_field1, o_fieldN, o_iaddr, o_istr, o_slStr, o_slSl, o_lenS, o_lenL, o_mx, o_mn, o_ext, o_build, o_lit, o_litOwn, o_app, o_mk, o_mvfrz, l_int, l_bool, l_str, l_agg, l_sl, l_own, l_ptr, l_pp, i_int, i_bool, i_str, i_sl, i_own, i_ptr, i_pp, all0, all1, e_ok1, eff, effBin, effBinN, ld_ptr, ld_pp, ld_elt, ia_own, ia_arr, el_1, el_N, load1K, faddrE, r_iaddr, sg_S, sg_c, sg_n, purL, pur, List.map, List.drop, List.take, List.length, List.foldl, List.append_eq, List.nil_append, List.cons_append, List.getD_cons_zero, List.getD_cons_succ, reduceIte, Nat.reduceEqDiff, Nat.reduceAdd, Nat.reduceLeDiff, true_and, and_true, Bool.not_true, Bool.not_false, Bool.and_true, Bool.true_and, Bool.and_self, reduceCtorEq, true_implies, false_implies, implies_true, decide_eq_true_eq, Option.map_some, fpOf, fpX, SOp.xs, oX, refs, refsL, dom, disj, List.all_nil, List.all_cons, List.contains_cons, List.contains_nil, Nat.reduceBEq, Bool.or_false, Bool.false_or, List.append_nil, Bool.not_false, Bool.not_true, List.forall_mem_cons, fm0, List.set, Nat.reduceLT, ne_eq, not_false_eq_true, not_true_eq_false
, ret1, ret1N, keep0, keep1, rf_int, rf_bool, rf_str, rf_sl, rf_agg, rf_tup, rfL0, rfL1, re_t, re_cN, re_L0, re_L1, ret_tup, ret_one, decide_true, AV.bool.injEq, AV.int.injEq, Nat.reduceLeDiff, Bool.true_eq, Bool.false_eq, decide_eq_true_eq, decide_eq_false_iff_not, t_sPathOk, t_l21In, t_l23Low, t_l23High, t_l23Most, toNat_pred, irow, List.length_map, un_stp, path_eta, flatOk, noref, ghost, Int.toNat_natCast, Nat.zero_add, Nat.sub_zero]
  have hn := h1.2.1
  have lo := fun j (h : j ≤ p.l.length) => hc.lo j h
  have hi := fun j (h : j ≤ p.l.length) => hc.hi j h
  have nx : ∀ (h : p.step f k), ∀ j, j < k + 1 → p.step f j := fun h j hj => by
    by_cases e : j = k
    · rw [e]; exact h
    · exact hs j (by omega)
  refine ⟨fun h3 => ⟨by omega, by omega, by omega, by omega, fun h4 => ⟨fun h5 => ?_, fun h5 => ⟨by omega, loopK_of (k + 1) ⟨⟨.inr rfl, .inr rfl, .inr rfl, trivial⟩, ⟨rfl, trivial⟩, rfl, rfl⟩ ⟨by omega, nx ⟨h4, fun h => by omega⟩⟩ (by omega)⟩⟩, fun h4 h => h4 (h.2.2 k (by omega)).1⟩, fun h3 => ⟨h1, hl, fun j hj => hs j (by omega)⟩⟩
  have b1 := (hs (k - 1) (by omega)).1
  have b2 := lo (k - 1) (by omega)
  have b3 := hi (k - 1) (by omega)
  have b4 := lo k (by omega)
  have b5 := hi k (by omega)
  exact ⟨by omega, by omega, by omega, by omega, by omega, by omega, by omega, by omega, fun h6 => ⟨by omega, loopK_of (k + 1) ⟨⟨.inr rfl, .inr rfl, .inr rfl, trivial⟩, ⟨rfl, trivial⟩, rfl, rfl⟩ ⟨by omega, nx ⟨h4, fun _ => h6⟩⟩ (by omega)⟩, fun h6 h => h6 ((h.2.2 k (by omega)).2 (by omega))⟩
theorem c_iLawful (p : Path5) (t t' : Nat) (f : List Int) : Contract P 13 [.agg [.int .i64 p.q, .int .i64 p.s, .sl t 7 (p.l.map Stp7.row), .int .i64 p.f, .int .i64 p.b], .sl t' 1 (f.map irow)] [] (.bool (decide (p.lawful f))) [] := by
  refine fn_sound ((((Env.nil P).add 32 t_iPathOk h_iPathOk).add 55 t_bound h_bound).add 56 t_within h_within) hm k_impl_FlyLawful (Nat.le_of_ble_eq_true rfl) rfl ?_
  unfold s_impl_FlyLawful
  simp only [w_skip, w_rg, w_rgd, w_seq, w_cond, w_block, w_loop, w_exit, w_ret, w_gh, w_rg0, w_rg1, w_rgT, w_rgF, w_run, w_psd, w_und, w_dr0, w_dr1, w_drT, w_drF, w_drRun, w_drPsd, w_drUnd, w_drKn, w_drKs, w_putK, w_trimK, w_thenN, w_thenE, w_thenR, w_scope, w_label, w_blkN, w_blkE, w_blkR, w_call, w_effK, brU_true, brU_false, brU_u, brU_not, brU_and, brU_or, brU_dec, brU_eq, brU_ne, br_true, br_false, br_not, br_and, br_or, br_dec, br_eq, br_ne, w_getE0, w_getE1, w_setE0, w_setE1, w_dropE0, w_dropE1, w_drop0, w_drop1, w_getM0, w_getM1, w_setM0, w_setM1, ev_v, ev_c, w_putS, w_putN, w_lit, w_apU0, w_apU1, w_apU2, w_trim, enumE0, enumE1, w_callWp, w_callA0, w_callA1, w_R0, w_R1, w_R2, w_T2, w_callL, w_callT, w_T1, w_T0, o_mv, o_newnil, o_pick, o_bin, o_binN, o_neg, o_not, o_eqB, o_eqS, o_conv, o_alloc, o_box, o_load1, o_loadN, o_store, o_nilck, o_faddr, o_field1, o_fieldN, o_iaddr, o_istr, o_slStr, o_slSl, o_lenS, o_lenL, o_mx, o_mn, o_ext, o_build, o_lit, o_litOwn, o_app, o_mk, o_mvfrz, l_int, l_bool, l_str, l_agg, l_sl, l_own, l_ptr, l_pp, i_int, i_bool, i_str, i_sl, i_own, i_ptr, i_pp, all0, all1, e_ok1, eff, effBin, effBinN, ld_ptr, ld_pp, ld_elt, ia_own, ia_arr, el_1, el_N, load1K, faddrE, r_iaddr, sg_S, sg_c, sg_n, purL, pur, List.map, List.drop, List.take, List.length, List.foldl, List.append_eq, List.nil_append, List.cons_append, List.getD_cons_zero, List.getD_cons_succ, reduceIte, Nat.reduceEqDiff, Nat.reduceAdd, Nat.reduceLeDiff, true_and, and_true, Bool.not_true, Bool.not_false, Bool.and_true, Bool.true_and, Bool.and_self, reduceCtorEq, true_implies, false_implies, implies_true, decide_eq_true_eq, Option.map_some, fpOf, fpX, SOp.xs, oX, refs, refsL, dom, disj, List.all_nil, List.all_cons, List.contains_cons, List.contains_nil, Nat.reduceBEq, Bool.or_false, Bool.false_or, List.append_nil, Bool.not_false, Bool.not_true, List.forall_mem_cons, fm0, List.set, Nat.reduceLT, ne_eq, not_false_eq_true, not_true_eq_false
, ret1, ret1N, keep0, keep1, rf_int, rf_bool, rf_str, rf_sl, rf_agg, rf_tup, rfL0, rfL1, re_t, re_cN, re_L0, re_L1, ret_tup, ret_one, decide_true, AV.bool.injEq, AV.int.injEq, Nat.reduceLeDiff, Bool.true_eq, Bool.false_eq, decide_eq_true_eq, decide_eq_false_iff_not, t_iPathOk, t_bound, t_within, t_sPathOk, Stp7.row, toNat_pred, irow, List.length_map, un_stp, path_eta, flatOk, noref, ghost, Int.toNat_natCast, Nat.zero_add, Nat.sub_zero]
  refine ⟨fun h1 => ⟨by have := h1.2.1; omega, fun h2 h => h2 (by have := h.2.1; omega), fun h2 => ?_⟩, fun h1 h => h1 h.1⟩
  have hc := ok_calm h1
  have hl : f.length = p.l.length + 1 := by omega
  refine loop_of (F_iLaw p t t' f) (fun k => k ≤ f.length ∧ ∀ j, j < k → p.step f j) (fun k => f.length - k) 0 ⟨⟨.inr rfl, .inr rfl, .inr rfl, .inr rfl, .inr rfl, trivial⟩, ⟨rfl, trivial⟩, rfl, rfl⟩ ⟨Nat.zero_le _, fun j hj => by omega⟩ ?_
  rintro k ⟨hk, hs⟩
  have hn := h1.2.1
  have lo := fun j (h : j ≤ p.l.length) => hc.lo j h
  have hi := fun j (h : j ≤ p.l.length) => hc.hi j h
  have nx : ∀ (h : p.step f k), ∀ j, j < k + 1 → p.step f j := fun h j hj => by
    by_cases e : j = k
    · rw [e]; exact h
    · exact hs j (by omega)
  have hqs : 0 ≤ p.q ∧ p.q ≤ 50 ∧ 0 ≤ p.s ∧ p.s ≤ 50 := by have := h1.1; omega
  cases hh : (p.l.getD (k - 1) default).hold with
  | false =>
    have hm : p.most (k - 1) = p.s := by unfold Path5.most; rw [hh]; rfl
    unfold l_impl_FlyLawful_0 F_iLaw
    simp only [w_skip, w_rg, w_rgd, w_seq, w_cond, w_block, w_loop, w_exit, w_ret, w_gh, w_rg0, w_rg1, w_rgT, w_rgF, w_run, w_psd, w_und, w_dr0, w_dr1, w_drT, w_drF, w_drRun, w_drPsd, w_drUnd, w_drKn, w_drKs, w_putK, w_trimK, w_thenN, w_thenE, w_thenR, w_scope, w_label, w_blkN, w_blkE, w_blkR, w_call, w_effK, brU_true, brU_false, brU_u, brU_not, brU_and, brU_or, brU_dec, brU_eq, brU_ne, br_true, br_false, br_not, br_and, br_or, br_dec, br_eq, br_ne, w_getE0, w_getE1, w_setE0, w_setE1, w_dropE0, w_dropE1, w_drop0, w_drop1, w_getM0, w_getM1, w_setM0, w_setM1, ev_v, ev_c, w_putS, w_putN, w_lit, w_apU0, w_apU1, w_apU2, w_trim, enumE0, enumE1, w_callWp, w_callA0, w_callA1, w_R0, w_R1, w_R2, w_T2, w_callL, w_callT, w_T1, w_T0, o_mv, o_newnil, o_pick, o_bin, o_binN, o_neg, o_not, o_eqB, o_eqS, o_conv, o_alloc, o_box, o_load1, o_loadN, o_store, o_nilck, o_faddr, o_field1, o_fieldN, o_iaddr, o_istr, o_slStr, o_slSl, o_lenS, o_lenL, o_mx, o_mn, o_ext, o_build, o_lit, o_litOwn, o_app, o_mk, o_mvfrz, l_int, l_bool, l_str, l_agg, l_sl, l_own, l_ptr, l_pp, i_int, i_bool, i_str, i_sl, i_own, i_ptr, i_pp, all0, all1, e_ok1, eff, effBin, effBinN, ld_ptr, ld_pp, ld_elt, ia_own, ia_arr, el_1, el_N, load1K, faddrE, r_iaddr, sg_S, sg_c, sg_n, purL, pur, List.map, List.drop, List.take, List.length, List.foldl, List.append_eq, List.nil_append, List.cons_append, List.getD_cons_zero, List.getD_cons_succ, reduceIte, Nat.reduceEqDiff, Nat.reduceAdd, Nat.reduceLeDiff, true_and, and_true, Bool.not_true, Bool.not_false, Bool.and_true, Bool.true_and, Bool.and_self, reduceCtorEq, true_implies, false_implies, implies_true, decide_eq_true_eq, Option.map_some, fpOf, fpX, SOp.xs, oX, refs, refsL, dom, disj, List.all_nil, List.all_cons, List.contains_cons, List.contains_nil, Nat.reduceBEq, Bool.or_false, Bool.false_or, List.append_nil, Bool.not_false, Bool.not_true, List.forall_mem_cons, fm0, List.set, Nat.reduceLT, ne_eq, not_false_eq_true, not_true_eq_false
, ret1, ret1N, keep0, keep1, rf_int, rf_bool, rf_str, rf_sl, rf_agg, rf_tup, rfL0, rfL1, re_t, re_cN, re_L0, re_L1, ret_tup, ret_one, decide_true, AV.bool.injEq, AV.int.injEq, Nat.reduceLeDiff, Bool.true_eq, Bool.false_eq, decide_eq_true_eq, decide_eq_false_iff_not, t_iPathOk, t_bound, t_within, t_sPathOk, Stp7.row, toNat_pred, irow, List.length_map, un_stp, path_eta, flatOk, noref, ghost, Int.toNat_natCast, Nat.zero_add, Nat.sub_zero, hh]
    refine ⟨fun h3 => ⟨by omega, by omega, by omega, fun h4 => ⟨fun h5 => ?_, fun h5 => ⟨by omega, loopK_of (k + 1) ⟨⟨.inr rfl, .inr rfl, .inr rfl, .inr rfl, .inr rfl, trivial⟩, ⟨rfl, trivial⟩, rfl, rfl⟩ ⟨by omega, nx ⟨h4, fun h => absurd h (by omega)⟩⟩ (by omega)⟩⟩, fun h4 h => h4 (h.2.2 k (by omega)).1⟩, fun h3 => ⟨h1, hl, fun j hj => hs j (by omega)⟩⟩
    have b1 := (hs (k - 1) (by omega)).1
    have b2 := lo (k - 1) (by omega)
    have b3 := hi (k - 1) (by omega)
    have b4 := lo k (by omega)
    have b5 := hi k (by omega)
    exact ⟨by omega, by omega, by omega, by omega, fun h6 h => (by have := ((h.2.2 k (by omega)).2 (by omega)).1; omega), fun h6 => ⟨by omega, fun h7 => ⟨by omega, by omega, by omega, fun h => by have := ((h.2.2 k (by omega)).2 (by omega)).2; rw [hm] at this; omega⟩, fun h7 => ⟨by omega, loopK_of (k + 1) ⟨⟨.inr rfl, .inr rfl, .inr rfl, .inr rfl, .inr rfl, trivial⟩, ⟨rfl, trivial⟩, rfl, rfl⟩ ⟨by omega, nx ⟨h4, fun _ => (by rw [hm]; omega)⟩⟩ (by omega)⟩⟩⟩
  | true =>
    have hm : p.most (k - 1) = 10000 := by unfold Path5.most; rw [hh]; rfl
    unfold l_impl_FlyLawful_0 F_iLaw
    simp only [w_skip, w_rg, w_rgd, w_seq, w_cond, w_block, w_loop, w_exit, w_ret, w_gh, w_rg0, w_rg1, w_rgT, w_rgF, w_run, w_psd, w_und, w_dr0, w_dr1, w_drT, w_drF, w_drRun, w_drPsd, w_drUnd, w_drKn, w_drKs, w_putK, w_trimK, w_thenN, w_thenE, w_thenR, w_scope, w_label, w_blkN, w_blkE, w_blkR, w_call, w_effK, brU_true, brU_false, brU_u, brU_not, brU_and, brU_or, brU_dec, brU_eq, brU_ne, br_true, br_false, br_not, br_and, br_or, br_dec, br_eq, br_ne, w_getE0, w_getE1, w_setE0, w_setE1, w_dropE0, w_dropE1, w_drop0, w_drop1, w_getM0, w_getM1, w_setM0, w_setM1, ev_v, ev_c, w_putS, w_putN, w_lit, w_apU0, w_apU1, w_apU2, w_trim, enumE0, enumE1, w_callWp, w_callA0, w_callA1, w_R0, w_R1, w_R2, w_T2, w_callL, w_callT, w_T1, w_T0, o_mv, o_newnil, o_pick, o_bin, o_binN, o_neg, o_not, o_eqB, o_eqS, o_conv, o_alloc, o_box, o_load1, o_loadN, o_store, o_nilck, o_faddr, o_field1, o_fieldN, o_iaddr, o_istr, o_slStr, o_slSl, o_lenS, o_lenL, o_mx, o_mn, o_ext, o_build, o_lit, o_litOwn, o_app, o_mk, o_mvfrz, l_int, l_bool, l_str, l_agg, l_sl, l_own, l_ptr, l_pp, i_int, i_bool, i_str, i_sl, i_own, i_ptr, i_pp, all0, all1, e_ok1, eff, effBin, effBinN, ld_ptr, ld_pp, ld_elt, ia_own, ia_arr, el_1, el_N, load1K, faddrE, r_iaddr, sg_S, sg_c, sg_n, purL, pur, List.map, List.drop, List.take, List.length, List.foldl, List.append_eq, List.nil_append, List.cons_append, List.getD_cons_zero, List.getD_cons_succ, reduceIte, Nat.reduceEqDiff, Nat.reduceAdd, Nat.reduceLeDiff, true_and, and_true, Bool.not_true, Bool.not_false, Bool.and_true, Bool.true_and, Bool.and_self, reduceCtorEq, true_implies, false_implies, implies_true, decide_eq_true_eq, Option.map_some, fpOf, fpX, SOp.xs, oX, refs, refsL, dom, disj, List.all_nil, List.all_cons, List.contains_cons, List.contains_nil, Nat.reduceBEq, Bool.or_false, Bool.false_or, List.append_nil, Bool.not_false, Bool.not_true, List.forall_mem_cons, fm0, List.set, Nat.reduceLT, ne_eq, not_false_eq_true, not_true_eq_false
, ret1, ret1N, keep0, keep1, rf_int, rf_bool, rf_str, rf_sl, rf_agg, rf_tup, rfL0, rfL1, re_t, re_cN, re_L0, re_L1, ret_tup, ret_one, decide_true, AV.bool.injEq, AV.int.injEq, Nat.reduceLeDiff, Bool.true_eq, Bool.false_eq, decide_eq_true_eq, decide_eq_false_iff_not, t_iPathOk, t_bound, t_within, t_sPathOk, Stp7.row, toNat_pred, irow, List.length_map, un_stp, path_eta, flatOk, noref, ghost, Int.toNat_natCast, Nat.zero_add, Nat.sub_zero, hh]
    refine ⟨fun h3 => ⟨by omega, by omega, by omega, fun h4 => ⟨fun h5 => ?_, fun h5 => ⟨by omega, loopK_of (k + 1) ⟨⟨.inr rfl, .inr rfl, .inr rfl, .inr rfl, .inr rfl, trivial⟩, ⟨rfl, trivial⟩, rfl, rfl⟩ ⟨by omega, nx ⟨h4, fun h => absurd h (by omega)⟩⟩ (by omega)⟩⟩, fun h4 h => h4 (h.2.2 k (by omega)).1⟩, fun h3 => ⟨h1, hl, fun j hj => hs j (by omega)⟩⟩
    have b1 := (hs (k - 1) (by omega)).1
    have b2 := lo (k - 1) (by omega)
    have b3 := hi (k - 1) (by omega)
    have b4 := lo k (by omega)
    have b5 := hi k (by omega)
    exact ⟨by omega, by omega, by omega, by omega, fun h6 h => (by have := ((h.2.2 k (by omega)).2 (by omega)).1; omega), fun h6 => ⟨by omega, fun h7 => ⟨by omega, by omega, by omega, by omega, loopK_of (k + 1) ⟨⟨.inr rfl, .inr rfl, .inr rfl, .inr rfl, .inr rfl, trivial⟩, ⟨rfl, trivial⟩, rfl, rfl⟩ ⟨by omega, nx ⟨h4, fun _ => (by rw [hm]; omega)⟩⟩ (by omega)⟩, fun h7 => ⟨by omega, loopK_of (k + 1) ⟨⟨.inr rfl, .inr rfl, .inr rfl, .inr rfl, .inr rfl, trivial⟩, ⟨rfl, trivial⟩, rfl, rfl⟩ ⟨by omega, nx ⟨h4, fun _ => (by rw [hm]; omega)⟩⟩ (by omega)⟩⟩⟩
end Go.Ve
namespace Go.Ve
open Go.Proofs
set_option linter.unusedSimpArgs false
set_option linter.unusedVariables false
set_option maxRecDepth 100000
set_option maxHeartbeats 4000000
def r_late : RTab
  | [.agg [.int .i64 q, .int .i64 s, .sl 0 7 xs, .int .i64 f, .int .i64 b]], M => some ⟨(xs.map unStp).map Stp7.row = xs ∧ (xs.map unStp).length ≤ 1048576, fun a : Path5 => a.l.length ≤ (xs.map unStp).length, fun a => a.av, fun _ => []⟩
  | _, _ => none
theorem h_late : okTab P 103 r_late := by
  intro args M o h hp
  unfold r_late at h
  split at h
  · rename_i q s xs f b
    cases h
    obtain ⟨h1, h2⟩ := hp
    obtain ⟨a, ha, hC⟩ := c_late ⟨q, s, xs.map unStp, f, b⟩ h2
    simp only [Path5.av, h1] at hC
    exact ⟨a, ha, callR_look (by simp only [purL, pur, Option.map_some]) hC rfl (no99_av _)⟩
  · cases h
def t_lawful : List AV → Option (Prop × AV)
  | [.agg [.int .i64 q, .int .i64 s, .sl _ 7 xs, .int .i64 f, .int .i64 b], .sl _ 1 ys] => some ((xs.map unStp).map Stp7.row = xs ∧ (ys.map unI).map irow = ys, .bool (decide (Path5.lawful ⟨q, s, xs.map unStp, f, b⟩ (ys.map unI))))
  | _ => none
abbrev t_sLawful := t_lawful
theorem h_sLawful : ∀ args p v, t_lawful args = some (p, v) → p → Contract P 14 args [] v [] ∧ noref v = true ∧ No99 v := by
  intro args p v h1 h2
  unfold t_lawful at h1
  split at h1
  · rename_i q s t xs f b t' ys
    cases h1
    have := c_sLawful ⟨q, s, xs.map unStp, f, b⟩ t t' (ys.map unI)
    simp only [h2.1, h2.2] at this
    exact ⟨this, rfl, trivial⟩
  · cases h1
abbrev t_iLawful := t_lawful
theorem h_iLawful : ∀ args p v, t_lawful args = some (p, v) → p → Contract P 13 args [] v [] ∧ noref v = true ∧ No99 v := by
  intro args p v h1 h2
  unfold t_lawful at h1
  split at h1
  · rename_i q s t xs f b t' ys
    cases h1
    have := c_iLawful ⟨q, s, xs.map unStp, f, b⟩ t t' (ys.map unI)
    simp only [h2.1, h2.2] at this
    exact ⟨this, rfl, trivial⟩
  · cases h1
theorem c_any (cs : List Nat) (p : Int)  (hB : okB (cs.map brow)) (hp : 0 ≤ p ∧ p ≤ 1099511500000) (hc : True) : ∃ a : Path5 × Int, (a.1.l.length ≤ 100 ∧ p ≤ a.2 ∧ a.2 ≤ p + 4000) ∧ Contract P 50 [.ptr 3 0] [(3, rd cs p)] (a.1.av) [(3, rd cs (a.2))] := by
  refine fn_choose (((((Env.nil P).addR 52 r_pick h_pick).addR 99 r_lPath h_lPath).addR 98 r_spoil h_spoil).addR 103 r_late h_late) Go.Ve.hm k_spec_l30Any (Nat.le_of_ble_eq_true rfl) rfl (fun a : Path5 × Int => a.1.l.length ≤ 100 ∧ p ≤ a.2 ∧ a.2 ≤ p + 4000) (fun a => a.1.av) (fun a => [(3, rd cs (a.2))]) ?_
  unfold s_spec_l30Any
  have hR : ∀ {p lim : Int}, rdOk 0 1 1 (cs.map brow) p lim = (0 ≤ p ∧ p ≤ lim) := rdOk_of hB
  simp only [w_skip, w_rg, w_rgd, w_seq, w_cond, w_block, w_loop, w_exit, w_ret, w_gh, w_rg0, w_rg1, w_rgT, w_rgF, w_run, w_psd, w_und, w_dr0, w_dr1, w_drT, w_drF, w_drRun, w_drPsd, w_drUnd, w_drKn, w_drKs, w_putK, w_trimK, w_thenN, w_thenE, w_thenR, w_scope, w_label, w_blkN, w_blkE, w_blkR, w_call, w_effK, brU_true, brU_false, brU_u, brU_not, brU_and, brU_or, brU_dec, brU_eq, brU_ne, br_true, br_false, br_not, br_and, br_or, br_dec, br_eq, br_ne, w_getE0, w_getE1, w_setE0, w_setE1, w_dropE0, w_dropE1, w_drop0, w_drop1, w_getM0, w_getM1, w_setM0, w_setM1, ev_v, ev_c, w_putS, w_putN, w_lit, w_apU0, w_apU1, w_apU2, w_trim, enumE0, enumE1, w_callWp, w_callA0, w_callA1, w_R0, w_R1, w_R2, w_T2, w_callL, w_callT, w_T1, w_T0, o_mv, o_newnil, o_pick, o_bin, o_binN, o_neg, o_not, o_eqB, o_eqS, o_conv, o_alloc, o_box, o_load1, o_loadN, o_store, o_nilck, o_faddr, o_field1, o_fieldN, o_iaddr, o_istr, o_slStr, o_slSl, o_lenS, o_lenL, o_mx, o_mn, o_ext, o_build, o_lit, o_litOwn, o_app, o_mk, o_mvfrz, l_int, l_bool, l_str, l_agg, l_sl, l_own, l_ptr, l_pp, i_int, i_bool, i_str, i_sl, i_own, i_ptr, i_pp, all0, all1, e_ok1, eff, effBin, effBinN, ld_ptr, ld_pp, ld_elt, ia_own, ia_arr, el_1, el_N, load1K, faddrE, r_iaddr, sg_S, sg_c, sg_n, purL, pur, List.map, List.drop, List.take, List.length, List.foldl, List.append_eq, List.nil_append, List.cons_append, List.getD_cons_zero, List.getD_cons_succ, reduceIte, Nat.reduceEqDiff, Nat.reduceAdd, Nat.reduceLeDiff, true_and, and_true, Bool.not_true, Bool.not_false, Bool.and_true, Bool.true_and, Bool.and_self, reduceCtorEq, true_implies, false_implies, implies_true, decide_eq_true_eq, Option.map_some, fpOf, fpX, SOp.xs, oX, refs, refsL, dom, disj, List.all_nil, List.all_cons, List.contains_cons, List.contains_nil, Nat.reduceBEq, Bool.or_false, Bool.false_or, List.append_nil, Bool.not_false, Bool.not_true, List.forall_mem_cons, fm0, List.set, Nat.reduceLT, ne_eq, not_false_eq_true, not_true_eq_false
, ret1, ret1N, keep0, keep1, rf_int, rf_bool, rf_str, rf_sl, rf_agg, rf_tup, rfL0, rfL1, re_t, re_cN, re_L0, re_L1, ret_tup, ret_one, decide_true, AV.bool.injEq, AV.int.injEq, Nat.reduceLeDiff, Bool.true_eq, Bool.false_eq, decide_eq_true_eq, decide_eq_false_iff_not, hR, re_tup, or_t, List.length_map, rd, brow, retG_ret, ghost, retQ_eq, retOk, wkM, refsInO, keepB, Int.toNat_natCast, noref, flatOk, r_pick, r_lPath, r_spoil, r_late, Path5.av, retG_ret, ghost, retQ_eq, retOk, wkM, refsInO, keepB, re_tup, or_t, Int.toNat_natCast, noref, flatOk, List.length_map, Stp7.row, irow, un_stp, un_i, set_f, set_b, List.length_set, take_all, path_eta, true_and, rowsOf, appE]
  have fin : ∀ (b : Path5) (p' : Int), b.l.length ≤ 100 → (p ≤ p' ∧ p' ≤ p + 4000) → ∃ a : Path5 × Int, (a.1.l.length ≤ 100 ∧ p ≤ a.2 ∧ a.2 ≤ p + 4000) ∧ AV.agg [.int .i64 a.1.q, .int .i64 a.1.s, .sl 0 7 (a.1.l.map Stp7.row), .int .i64 a.1.f, .int .i64 a.1.b] = AV.agg [.int .i64 b.q, .int .i64 b.s, .sl 0 7 (b.l.map Stp7.row), .int .i64 b.f, .int .i64 b.b] ∧ some (AObj.box [.sl 1 1 (cs.map brow), .int .i64 p']) = some (.box [.sl 1 1 (cs.map brow), .int .i64 a.2]) :=
    fun b p' h1 h2 => ⟨(b, p'), ⟨h1, h2.1, h2.2⟩, rfl, rfl⟩
  repeat' (first | intro _ | apply And.intro | omega | (exact fin _ _ (by omega) (by omega)))
def r_any : RTab
  | [.ptr o off], M => match M o with
    | some (.box [.sl t sz B, .int .i64 p]) => some ⟨rdOk off t sz B p 1099511500000 ∧ True, fun a : Path5 × Int => a.1.l.length ≤ 100 ∧ p ≤ a.2 ∧ a.2 ≤ p + 4000, fun a => a.1.av, fun a => [(o, .box [.sl t sz B, .int .i64 (a.2)])]⟩
    | _ => none
  | _, _ => none
theorem h_any : okTab P 50 r_any := by
  intro args M o h hp
  unfold r_any at h
  split at h
  · split at h
    · rename_i hM
      cases h
      obtain ⟨⟨rfl, rfl, rfl, ⟨cs, rfl, h1, h2⟩, h3, h4⟩, hc⟩ := hp
      obtain ⟨x, hx, hC⟩ := c_any cs _  ⟨cs, rfl, h1, h2⟩ ⟨h3, h4⟩ hc
      exact ⟨x, hx, callR_rd _ hC rfl rfl hM⟩
    · cases h
  · cases h
theorem c_open (cs : List Nat) (hl : cs.length ≤ 9223372036854775807) : Contract P 49 [.sl 1 1 (cs.map brow)] [] (.ptr 110 0) [(110, rd (cs.take 2000) 0)] := by
  refine fn_sound (Env.nil P) Go.Ve.hm k_spec_l21Open (Nat.le_of_ble_eq_true rfl) rfl ?_
  unfold s_spec_l21Open
  simp only [w_skip, w_rg, w_rgd, w_seq, w_cond, w_block, w_loop, w_exit, w_ret, w_gh, w_rg0, w_rg1, w_rgT, w_rgF, w_run, w_psd, w_und, w_dr0, w_dr1, w_drT, w_drF, w_drRun, w_drPsd, w_drUnd, w_drKn, w_drKs, w_putK, w_trimK, w_thenN, w_thenE, w_thenR, w_scope, w_label, w_blkN, w_blkE, w_blkR, w_call, w_effK, brU_true, brU_false, brU_u, brU_not, brU_and, brU_or, brU_dec, brU_eq, brU_ne, br_true, br_false, br_not, br_and, br_or, br_dec, br_eq, br_ne, w_getE0, w_getE1, w_setE0, w_setE1, w_dropE0, w_dropE1, w_drop0, w_drop1, w_getM0, w_getM1, w_setM0, w_setM1, ev_v, ev_c, w_putS, w_putN, w_lit, w_apU0, w_apU1, w_apU2, w_trim, enumE0, enumE1, w_callWp, w_callA0, w_callA1, w_R0, w_R1, w_R2, w_T2, w_callL, w_callT, w_T1, w_T0, o_mv, o_newnil, o_pick, o_bin, o_binN, o_neg, o_not, o_eqB, o_eqS, o_conv, o_alloc, o_box, o_load1, o_loadN, o_store, o_nilck, o_faddr, o_field1, o_fieldN, o_iaddr, o_istr, o_slStr, o_slSl, o_lenS, o_lenL, o_mx, o_mn, o_ext, o_build, o_lit, o_litOwn, o_app, o_mk, o_mvfrz, l_int, l_bool, l_str, l_agg, l_sl, l_own, l_ptr, l_pp, i_int, i_bool, i_str, i_sl, i_own, i_ptr, i_pp, all0, all1, e_ok1, eff, effBin, effBinN, ld_ptr, ld_pp, ld_elt, ia_own, ia_arr, el_1, el_N, load1K, faddrE, r_iaddr, sg_S, sg_c, sg_n, purL, pur, List.map, List.drop, List.take, List.length, List.foldl, List.append_eq, List.nil_append, List.cons_append, List.getD_cons_zero, List.getD_cons_succ, reduceIte, Nat.reduceEqDiff, Nat.reduceAdd, Nat.reduceLeDiff, true_and, and_true, Bool.not_true, Bool.not_false, Bool.and_true, Bool.true_and, Bool.and_self, reduceCtorEq, true_implies, false_implies, implies_true, decide_eq_true_eq, Option.map_some, fpOf, fpX, SOp.xs, oX, refs, refsL, dom, disj, List.all_nil, List.all_cons, List.contains_cons, List.contains_nil, Nat.reduceBEq, Bool.or_false, Bool.false_or, List.append_nil, Bool.not_false, Bool.not_true, List.forall_mem_cons, fm0, List.set, Nat.reduceLT, ne_eq, not_false_eq_true, not_true_eq_false
, ret1, ret1N, keep0, keep1, rf_int, rf_bool, rf_str, rf_sl, rf_agg, rf_tup, rfL0, rfL1, re_t, re_cN, re_L0, re_L1, ret_tup, ret_one, decide_true, AV.bool.injEq, AV.int.injEq, Nat.reduceLeDiff, Bool.true_eq, Bool.false_eq, decide_eq_true_eq, decide_eq_false_iff_not, List.length_map, rd, brow, ghost, optI, take_all, Int.toNat_natCast, rowsOf, retQ_eq, retOk, wkM, refsInO, keepB]
  exact ⟨fun h => ⟨by omega, by rw [Int.toNat_zero, List.drop_zero, List.map_take]; rfl, rfl, rfl⟩, fun h => ⟨by rw [List.take_of_length_le (by omega)], rfl, rfl⟩⟩
def r_open : RTab
  | [.sl 1 1 B], M => some ⟨M 191 = none ∧ ∃ cs : List Nat, B = cs.map brow ∧ cs.length ≤ 9223372036854775807, fun _ : Unit => True, fun _ => .ptr 191 0, fun _ => [(191, .box [.sl 1 1 (B.take 2000), .int .i64 0])]⟩
  | _, _ => none
theorem h_open : okTab P 49 r_open := by
  intro args M o h hp
  unfold r_open at h
  split at h
  · cases h
    obtain ⟨h1, cs, rfl, h2⟩ := hp
    have hC := (c_open cs h2).ren (swp 110 191) (swp_swp 110 191)
    simp only [renL, ren, renM, renO, swp, reduceIte, rd, List.map_take] at hC
    refine ⟨(), trivial, .inl ⟨[], hC, by simp, fun p hp => .inr ?_, rfl, rfl, rfl, rfl, rfl⟩⟩
    simp only [List.mem_singleton] at hp
    rw [hp]; exact h1
  · cases h
structure AskS where
  i : Int
  m : Nat
  l : List Int
  p : Int
theorem snoc_i {l : List Int} {x : Int} : l.map irow ++ [[.int .i64 x]] = (l ++ [x]).map irow := by simp [irow]
def F_asked (cs : List Nat) (p0 : Path5) (b : Bool) (a : AskS) : St := ⟨[(0, .ptr 3 0), (5, .own 146 a.m 0 a.m), (6, .sl 0 2 (p0.fitS.map Span2.row)), (7, .bool b), (8, .int .i64 a.i)], [(3, rd cs a.p), (146, .arr 3 a.m 1 (a.l.map irow))]⟩
theorem fitS_len (p : Path5) : p.fitS.length ≤ p.l.length + 1 := by
  unfold Path5.fitS Path5.spans
  split
  · split <;> simp
  · simp
theorem c_asked (cs : List Nat) (p : Int) (p0 : Path5) (hB : okB (cs.map brow)) (hp : 0 ≤ p ∧ p ≤ 1099511500000) (hc : p0.l.length ≤ 100) : ∃ a : List Int × Int, (a.1.length ≤ 101 ∧ p ≤ a.2 ∧ a.2 ≤ p + 200) ∧ Contract P 51 [.ptr 3 0, p0.av] [(3, rd cs p)] (.sl 0 1 (a.1.map irow)) [(3, rd cs (a.2))] := by
  refine fn_choose (((Env.nil P).addR 52 r_pick h_pick).add 11 t_sFit h_sFit) Go.Ve.hm k_spec_l30Asked (Nat.le_of_ble_eq_true rfl) rfl (fun a : List Int × Int => a.1.length ≤ 101 ∧ p ≤ a.2 ∧ a.2 ≤ p + 200) (fun a => .sl 0 1 (a.1.map irow)) (fun a => [(3, rd cs (a.2))]) ?_
  unfold s_spec_l30Asked
  have hR : ∀ {p lim : Int}, rdOk 0 1 1 (cs.map brow) p lim = (0 ≤ p ∧ p ≤ lim) := rdOk_of hB
  have hav : p0.av = .agg [.int .i64 p0.q, .int .i64 p0.s, .sl 0 7 (p0.l.map Stp7.row), .int .i64 p0.f, .int .i64 p0.b] := rfl
  rw [hav]
  simp only [w_skip, w_rg, w_rgd, w_seq, w_cond, w_block, w_loop, w_exit, w_ret, w_gh, w_rg0, w_rg1, w_rgT, w_rgF, w_run, w_psd, w_und, w_dr0, w_dr1, w_drT, w_drF, w_drRun, w_drPsd, w_drUnd, w_drKn, w_drKs, w_putK, w_trimK, w_thenN, w_thenE, w_thenR, w_scope, w_label, w_blkN, w_blkE, w_blkR, w_call, w_effK, brU_true, brU_false, brU_u, brU_not, brU_and, brU_or, brU_dec, brU_eq, brU_ne, br_true, br_false, br_not, br_and, br_or, br_dec, br_eq, br_ne, w_getE0, w_getE1, w_setE0, w_setE1, w_dropE0, w_dropE1, w_drop0, w_drop1, w_getM0, w_getM1, w_setM0, w_setM1, ev_v, ev_c, w_putS, w_putN, w_lit, w_apU0, w_apU1, w_apU2, w_trim, enumE0, enumE1, w_callWp, w_callA0, w_callA1, w_R0, w_R1, w_R2, w_T2, w_callL, w_callT, w_T1, w_T0, o_mv, o_newnil, o_pick, o_bin, o_binN, o_neg, o_not, o_eqB, o_eqS, o_conv, o_alloc, o_box, o_load1, o_loadN, o_store, o_nilck, o_faddr, o_field1, o_fieldN, o_iaddr, o_istr, o_slStr, o_slSl, o_lenS, o_lenL, o_mx, o_mn, o_ext, o_build, o_lit, o_litOwn, o_app, o_mk, o_mvfrz, l_int, l_bool, l_str, l_agg, l_sl, l_own, l_ptr, l_pp, i_int, i_bool, i_str, i_sl, i_own, i_ptr, i_pp, all0, all1, e_ok1, eff, effBin, effBinN, ld_ptr, ld_pp, ld_elt, ia_own, ia_arr, el_1, el_N, load1K, faddrE, r_iaddr, sg_S, sg_c, sg_n, purL, pur, List.map, List.drop, List.take, List.length, List.foldl, List.append_eq, List.nil_append, List.cons_append, List.getD_cons_zero, List.getD_cons_succ, reduceIte, Nat.reduceEqDiff, Nat.reduceAdd, Nat.reduceLeDiff, true_and, and_true, Bool.not_true, Bool.not_false, Bool.and_true, Bool.true_and, Bool.and_self, reduceCtorEq, true_implies, false_implies, implies_true, decide_eq_true_eq, Option.map_some, fpOf, fpX, SOp.xs, oX, refs, refsL, dom, disj, List.all_nil, List.all_cons, List.contains_cons, List.contains_nil, Nat.reduceBEq, Bool.or_false, Bool.false_or, List.append_nil, Bool.not_false, Bool.not_true, List.forall_mem_cons, fm0, List.set, Nat.reduceLT, ne_eq, not_false_eq_true, not_true_eq_false
, ret1, ret1N, keep0, keep1, rf_int, rf_bool, rf_str, rf_sl, rf_agg, rf_tup, rfL0, rfL1, re_t, re_cN, re_L0, re_L1, ret_tup, ret_one, decide_true, AV.bool.injEq, AV.int.injEq, Nat.reduceLeDiff, Bool.true_eq, Bool.false_eq, decide_eq_true_eq, decide_eq_false_iff_not, t_sFit, hR, re_tup, or_t, List.length_map, rd, brow, retG_ret, ghost, retQ_eq, retOk, wkM, refsInO, keepB, Int.toNat_natCast, noref, flatOk, Path5.av, retG_ret, ghost, retQ_eq, retOk, wkM, refsInO, keepB, re_tup, or_t, Int.toNat_natCast, noref, flatOk, List.length_map, Stp7.row, irow, un_stp, un_i, set_f, set_b, List.length_set, take_all, path_eta, true_and, rowsOf, appE, r_pick, t_fit, Span2.row, snoc_i]
  have hfl := fitS_len p0
  refine loop_of (F_asked cs p0 (decide p0.fit)) (fun a => (0 ≤ a.i ∧ a.i ≤ p0.fitS.length) ∧ ((a.m : Int) = a.i ∧ a.l.length = a.m) ∧ p ≤ a.p ∧ a.p ≤ p + a.i) (fun a => (p0.fitS.length - a.i).toNat) ⟨0, 0, [], p⟩ ⟨⟨.inr rfl, .inr rfl, .inr rfl, .inr rfl, .inr rfl, trivial⟩, ⟨rfl, rfl, trivial⟩, rfl, rfl⟩ ⟨⟨Int.le_refl _, by simp only; omega⟩, ⟨rfl, rfl⟩, Int.le_refl _, by simp only; omega⟩ ?_
  rintro ⟨i, m, l, q⟩ ⟨hi, ⟨hm, hl⟩, hq⟩
  simp only at hi hm hl hq
  have hw1 : IntKind.i64.wrap (i + 1) = i + 1 := wrap_succ (by omega)
  have htk : List.take m (l.map irow) = l.map irow := List.take_of_length_le (by rw [List.length_map]; omega)
  unfold l_spec_l30Asked_0 F_asked
  simp only [w_skip, w_rg, w_rgd, w_seq, w_cond, w_block, w_loop, w_exit, w_ret, w_gh, w_rg0, w_rg1, w_rgT, w_rgF, w_run, w_psd, w_und, w_dr0, w_dr1, w_drT, w_drF, w_drRun, w_drPsd, w_drUnd, w_drKn, w_drKs, w_putK, w_trimK, w_thenN, w_thenE, w_thenR, w_scope, w_label, w_blkN, w_blkE, w_blkR, w_call, w_effK, brU_true, brU_false, brU_u, brU_not, brU_and, brU_or, brU_dec, brU_eq, brU_ne, br_true, br_false, br_not, br_and, br_or, br_dec, br_eq, br_ne, w_getE0, w_getE1, w_setE0, w_setE1, w_dropE0, w_dropE1, w_drop0, w_drop1, w_getM0, w_getM1, w_setM0, w_setM1, ev_v, ev_c, w_putS, w_putN, w_lit, w_apU0, w_apU1, w_apU2, w_trim, enumE0, enumE1, w_callWp, w_callA0, w_callA1, w_R0, w_R1, w_R2, w_T2, w_callL, w_callT, w_T1, w_T0, o_mv, o_newnil, o_pick, o_bin, o_binN, o_neg, o_not, o_eqB, o_eqS, o_conv, o_alloc, o_box, o_load1, o_loadN, o_store, o_nilck, o_faddr, o_field1, o_fieldN, o_iaddr, o_istr, o_slStr, o_slSl, o_lenS, o_lenL, o_mx, o_mn, o_ext, o_build, o_lit, o_litOwn, o_app, o_mk, o_mvfrz, l_int, l_bool, l_str, l_agg, l_sl, l_own, l_ptr, l_pp, i_int, i_bool, i_str, i_sl, i_own, i_ptr, i_pp, all0, all1, e_ok1, eff, effBin, effBinN, ld_ptr, ld_pp, ld_elt, ia_own, ia_arr, el_1, el_N, load1K, faddrE, r_iaddr, sg_S, sg_c, sg_n, purL, pur, List.map, List.drop, List.take, List.length, List.foldl, List.append_eq, List.nil_append, List.cons_append, List.getD_cons_zero, List.getD_cons_succ, reduceIte, Nat.reduceEqDiff, Nat.reduceAdd, Nat.reduceLeDiff, true_and, and_true, Bool.not_true, Bool.not_false, Bool.and_true, Bool.true_and, Bool.and_self, reduceCtorEq, true_implies, false_implies, implies_true, decide_eq_true_eq, Option.map_some, fpOf, fpX, SOp.xs, oX, refs, refsL, dom, disj, List.all_nil, List.all_cons, List.contains_cons, List.contains_nil, Nat.reduceBEq, Bool.or_false, Bool.false_or, List.append_nil, Bool.not_false, Bool.not_true, List.forall_mem_cons, fm0, List.set, Nat.reduceLT, ne_eq, not_false_eq_true, not_true_eq_false
, ret1, ret1N, keep0, keep1, rf_int, rf_bool, rf_str, rf_sl, rf_agg, rf_tup, rfL0, rfL1, re_t, re_cN, re_L0, re_L1, ret_tup, ret_one, decide_true, AV.bool.injEq, AV.int.injEq, Nat.reduceLeDiff, Bool.true_eq, Bool.false_eq, decide_eq_true_eq, decide_eq_false_iff_not, t_sFit, hR, re_tup, or_t, List.length_map, rd, brow, retG_ret, ghost, retQ_eq, retOk, wkM, refsInO, keepB, Int.toNat_natCast, noref, flatOk, Path5.av, retG_ret, ghost, retQ_eq, retOk, wkM, refsInO, keepB, re_tup, or_t, Int.toNat_natCast, noref, flatOk, List.length_map, Stp7.row, irow, un_stp, un_i, set_f, set_b, List.length_set, take_all, path_eta, true_and, rowsOf, appE, r_pick, t_fit, Span2.row, snoc_i]
  simp only [hw1, htk, snoc_i]
  have fin : ∃ a : List Int × Int, (a.1.length ≤ 101 ∧ p ≤ a.2 ∧ a.2 ≤ p + 200) ∧ AV.sl 0 1 (l.map irow) = AV.sl 0 1 (a.1.map irow) ∧ some (AObj.box [.sl 1 1 (cs.map brow), .int .i64 q]) = some (.box [.sl 1 1 (cs.map brow), .int .i64 a.2]) :=
    ⟨(l, q), ⟨by simp only; omega, by simp only; omega, by simp only; omega⟩, rfl, rfl⟩
  refine ⟨fun h1 => ⟨fun h2 => ⟨by omega, by omega, by omega, by omega, by omega, by omega, by omega, fun a ha => ⟨by omega, ?_⟩⟩, fun _ => fin⟩, fun _ => fin⟩
  exact loopK_of (⟨i + 1, m + 1, l ++ [_], _⟩ : AskS) ⟨⟨.inr rfl, .inr rfl, .inr rfl, .inr rfl, .inr rfl, trivial⟩, ⟨rfl, rfl, trivial⟩, rfl, rfl⟩ ⟨⟨by simp only; omega, by simp only; omega⟩, ⟨by simp only; omega, by simp only [List.length_append, List.length_cons, List.length_nil]; omega⟩, by simp only; omega, by simp only; omega⟩ (by simp only; omega)
def r_asked : RTab
  | [.ptr o off, .agg [.int .i64 q, .int .i64 s, .sl 0 7 xs, .int .i64 f, .int .i64 b]], M => match M o with
    | some (.box [.sl t sz B, .int .i64 p]) => some ⟨rdOk off t sz B p 1099511500000 ∧ (xs.map unStp).map Stp7.row = xs ∧ ((xs.map unStp).length ≤ 100), fun a : List Int × Int => a.1.length ≤ 101 ∧ p ≤ a.2 ∧ a.2 ≤ p + 200, fun a => .sl 0 1 (a.1.map irow), fun a => [(o, .box [.sl t sz B, .int .i64 (a.2)])]⟩
    | _ => none
  | _, _ => none
theorem h_asked : okTab P 51 r_asked := by
  intro args M o h hp
  unfold r_asked at h
  split at h
  · rename_i o' off q s xs f b
    split at h
    · rename_i hM
      cases h
      obtain ⟨⟨rfl, rfl, rfl, ⟨cs, rfl, h1, h2⟩, h3, h4⟩, h5, hc⟩ := hp
      obtain ⟨x, hx, hC⟩ := c_asked cs _ ⟨q, s, xs.map unStp, f, b⟩ ⟨cs, rfl, h1, h2⟩ ⟨h3, h4⟩ hc
      simp only [Path5.av, h5] at hC
      exact ⟨x, hx, callR_rd _ hC rfl rfl hM⟩
    · cases h
  · cases h
end Go.Ve
namespace Go.Ve
open Go.Proofs
set_option linter.unusedSimpArgs false
set_option linter.unusedVariables false
set_option maxRecDepth 100000
set_option maxHeartbeats 4000000
/-- The flight that keeps nearest to what is asked for. -/
def Path5.tick (p : Path5) (asked l : List Int) : Int := if l.length < asked.length then min (max (p.next l).lo (asked.getD l.length default)) (p.next l).hi else (p.next l).lo
def Path5.goL (p : Path5) (asked : List Int) : Nat → Option (List Int)
  | 0 => some []
  | n + 1 => (p.goL asked n).bind fun l => if p.begun l then some (l ++ [p.tick asked l]) else none
def Path5.go (p : Path5) (asked : List Int) : Option (List Int) := (p.goL asked (p.l.length + 1)).bind fun l => if p.lawful l then some l else none
theorem goL_len {p : Path5} {asked : List Int} : ∀ {n : Nat} {l : List Int}, p.goL asked n = some l → l.length = n
  | 0, l, h => by simp only [Path5.goL, Option.some.injEq] at h; subst h; rfl
  | n + 1, l, h => by
    simp only [Path5.goL, Option.bind_eq_some_iff] at h
    obtain ⟨l', h1, h2⟩ := h
    split at h2
    · cases h2; simp [goL_len h1]
    · cases h2
theorem goL_none {p : Path5} {asked : List Int} {n : Nat} (h : p.goL asked n = none) : ∀ m, n ≤ m → p.goL asked m = none := by
  intro m hm
  induction m with
  | zero => have : n = 0 := by omega
            rw [this] at h; exact h
  | succ m ih =>
    by_cases e : n = m + 1
    · rw [← e]; exact h
    · simp only [Path5.goL, ih (by omega), Option.bind_none]
theorem go_none {p : Path5} {asked : List Int} {n : Nat} (h : p.goL asked n = none) (hn : n ≤ p.l.length + 1) : p.go asked = none := by
  unfold Path5.go; rw [goL_none h _ hn]; rfl
theorem goL_step {p : Path5} {asked l : List Int} {n : Nat} (h : p.goL asked n = some l) : p.goL asked (n + 1) = if p.begun l then some (l ++ [p.tick asked l]) else none := by simp only [Path5.goL, h, Option.bind_some]
theorem go_end {p : Path5} {asked l : List Int} (h : p.goL asked (p.l.length + 1) = some l) : p.go asked = if p.lawful l then some l else none := by unfold Path5.go; rw [h]; rfl
theorem go_some {p : Path5} {asked l : List Int} (h : p.go asked = some l) : p.lawful l := by
  unfold Path5.go at h
  simp only [Option.bind_eq_some_iff] at h
  obtain ⟨l', _, h2⟩ := h
  split at h2
  · rename_i h3; cases h2; exact h3
  · cases h2
theorem go_len {p : Path5} {asked : List Int} : ((p.go asked).getD []).length ≤ p.l.length + 1 := by
  cases h : p.go asked with
  | none => simp
  | some l => have := (go_some h).2.1; simp only [Option.getD_some]; omega
theorem go_bad {p : Path5} {asked : List Int} (h : ¬ pathOk p.q p.s p.l p.f p.b) : p.go asked = none := by
  cases hg : p.go asked with
  | none => rfl
  | some l => exact absurd (go_some hg).1 h
theorem no99_i (l : List Int) : No99LL (l.map irow) := by
  induction l with
  | nil => trivial
  | cons x l ih => exact ⟨⟨trivial, trivial⟩, ih⟩
structure GoR where
  o : Nat
  v : Nat
  l : List Int
  ok : Bool
structure GoS where
  i : Int
  m : Nat
  l : List Int
def F_go (p : Path5) (t t' : Nat) (asked : List Int) (a : GoS) : St := ⟨[(2, .sl t' 1 (asked.map irow)), (3, .ptr 103 0), (8, .own 165 (1 + a.m) 0 a.m), (9, .int .i64 a.i)], [(103, .box [.int .i64 p.q, .int .i64 p.s, .sl t 7 (p.l.map Stp7.row), .int .i64 p.f, .int .i64 p.b]), (165, .arr 3 (1 + a.m) 1 (a.l.map irow))]⟩
theorem c_sGo (p : Path5) (t t' t2 : Nat) (asked : List Int) (hn : p.l.length ≤ 100) (ha : asked.length ≤ 4294967296) : ∃ a : GoR, (a.l = (p.go asked).getD [] ∧ (a.ok = true ↔ (p.go asked).isSome = true) ∧ 100 ≤ a.o) ∧ Contract P 29 [.agg [.int .i64 p.q, .int .i64 p.s, .sl t 7 (p.l.map Stp7.row), .int .i64 p.f, .int .i64 p.b], .sl t2 1 [], .sl t' 1 (asked.map irow)] [] (.tup [.own a.o a.v 0 a.l.length, .bool (decide (a.ok = true))]) [(a.o, .arr 3 a.v 1 (a.l.map irow))] := by
  refine fn_choose ((((((Env.nil P).add 33 t_sPathOk h_sPathOk).add 82 t_sNext h_sNext).add 14 t_sLawful h_sLawful).add 84 t_l21Max h_l21Max).add 83 t_l21Min h_l21Min) Go.Ve.hm k_spec_FlyGo (Nat.le_of_ble_eq_true rfl) rfl (fun a : GoR => a.l = (p.go asked).getD [] ∧ (a.ok = true ↔ (p.go asked).isSome = true) ∧ 100 ≤ a.o) (fun a => .tup [.own a.o a.v 0 a.l.length, .bool (decide (a.ok = true))]) (fun a => [(a.o, .arr 3 a.v 1 (a.l.map irow))]) ?_
  unfold s_spec_FlyGo
  simp only [w_skip, w_rg, w_rgd, w_seq, w_cond, w_block, w_loop, w_exit, w_ret, w_gh, w_rg0, w_rg1, w_rgT, w_rgF, w_run, w_psd, w_und, w_dr0, w_dr1, w_drT, w_drF, w_drRun, w_drPsd, w_drUnd, w_drKn, w_drKs, w_putK, w_trimK, w_thenN, w_thenE, w_thenR, w_scope, w_label, w_blkN, w_blkE, w_blkR, w_call, w_effK, brU_true, brU_false, brU_u, brU_not, brU_and, brU_or, brU_dec, brU_eq, brU_ne, br_true, br_false, br_not, br_and, br_or, br_dec, br_eq, br_ne, w_getE0, w_getE1, w_setE0, w_setE1, w_dropE0, w_dropE1, w_drop0, w_drop1, w_getM0, w_getM1, w_setM0, w_setM1, ev_v, ev_c, w_putS, w_putN, w_lit, w_apU0, w_apU1, w_apU2, w_trim, enumE0, enumE1, w_callWp, w_callA0, w_callA1, w_R0, w_R1, w_R2, w_T2, w_callL, w_callT, w_T1, w_T0, o_mv, o_newnil, o_pick, o_bin, o_binN, o_neg, o_not, o_eqB, o_eqS, o_conv, o_alloc, o_box, o_load1, o_loadN, o_store, o_nilck, o_faddr, o_field1, o_fieldN, o_iaddr, o_istr, o_slStr, o_slSl, o_lenS, o_lenL, o_mx, o_mn, o_ext, o_build, o_lit, o_litOwn, o_app, o_mk, o_mvfrz, l_int, l_bool, l_str, l_agg, l_sl, l_own, l_ptr, l_pp, i_int, i_bool, i_str, i_sl, i_own, i_ptr, i_pp, all0, all1, e_ok1, eff, effBin, effBinN, ld_ptr, ld_pp, ld_elt, ia_own, ia_arr, el_1, el_N, load1K, faddrE, r_iaddr, sg_S, sg_c, sg_n, purL, pur, List.map, List.drop, List.take, List.length, List.foldl, List.append_eq, List.nil_append, List.cons_append, List.getD_cons_zero, List.getD_cons_succ, reduceIte, Nat.reduceEqDiff, Nat.reduceAdd, Nat.reduceLeDiff, true_and, and_true, Bool.not_true, Bool.not_false, Bool.and_true, Bool.true_and, Bool.and_self, reduceCtorEq, true_implies, false_implies, implies_true, decide_eq_true_eq, Option.map_some, fpOf, fpX, SOp.xs, oX, refs, refsL, dom, disj, List.all_nil, List.all_cons, List.contains_cons, List.contains_nil, Nat.reduceBEq, Bool.or_false, Bool.false_or, List.append_nil, Bool.not_false, Bool.not_true, List.forall_mem_cons, fm0, List.set, Nat.reduceLT, ne_eq, not_false_eq_true, not_true_eq_false
, ret1, ret1N, keep0, keep1, rf_int, rf_bool, rf_str, rf_sl, rf_agg, rf_tup, rfL0, rfL1, re_t, re_cN, re_L0, re_L1, ret_tup, ret_one, decide_true, AV.bool.injEq, AV.int.injEq, Nat.reduceLeDiff, Bool.true_eq, Bool.false_eq, decide_eq_true_eq, decide_eq_false_iff_not, t_sPathOk, t_sNext, t_sLawful, t_l21Max, t_l21Min, t_next, t_lawful, Span2.row, snoc_i, Path5.av, retG_ret, ghost, retQ_eq, retOk, wkM, refsInO, keepB, re_tup, or_t, Int.toNat_natCast, noref, flatOk, List.length_map, Stp7.row, irow, un_stp, un_i, set_f, set_b, List.length_set, take_all, path_eta, true_and, rowsOf, appE]
  refine ⟨fun h1 => ⟨by omega, fun h2 => absurd h2 (by omega), fun h2 => ?_⟩, fun h1 => ⟨⟨228, 0, [], false⟩, ⟨by rw [go_bad h1]; rfl, by rw [go_bad h1]; simp, by simp only; omega⟩, ⟨rfl, by simp⟩, rfl, rfl, rfl⟩⟩
  refine loop_of (F_go p t t' asked) (fun a => (a.i = a.m ∧ a.m ≤ p.l.length + 1) ∧ p.goL asked a.m = some a.l) (fun a => p.l.length + 1 - a.m) ⟨0, 0, []⟩ ⟨⟨.inr rfl, .inr rfl, .inr rfl, .inr rfl, trivial⟩, ⟨rfl, rfl, trivial⟩, rfl, rfl⟩ ⟨⟨rfl, Nat.zero_le _⟩, rfl⟩ ?_
  rintro ⟨i, m, l⟩ ⟨⟨hi, hm⟩, hg⟩
  simp only at hi hm hg
  subst hi
  have hl := goL_len hg
  have htk : List.take m (l.map irow) = l.map irow := List.take_of_length_le (by rw [List.length_map]; omega)
  unfold l_spec_FlyGo_0 F_go
  simp only [w_skip, w_rg, w_rgd, w_seq, w_cond, w_block, w_loop, w_exit, w_ret, w_gh, w_rg0, w_rg1, w_rgT, w_rgF, w_run, w_psd, w_und, w_dr0, w_dr1, w_drT, w_drF, w_drRun, w_drPsd, w_drUnd, w_drKn, w_drKs, w_putK, w_trimK, w_thenN, w_thenE, w_thenR, w_scope, w_label, w_blkN, w_blkE, w_blkR, w_call, w_effK, brU_true, brU_false, brU_u, brU_not, brU_and, brU_or, brU_dec, brU_eq, brU_ne, br_true, br_false, br_not, br_and, br_or, br_dec, br_eq, br_ne, w_getE0, w_getE1, w_setE0, w_setE1, w_dropE0, w_dropE1, w_drop0, w_drop1, w_getM0, w_getM1, w_setM0, w_setM1, ev_v, ev_c, w_putS, w_putN, w_lit, w_apU0, w_apU1, w_apU2, w_trim, enumE0, enumE1, w_callWp, w_callA0, w_callA1, w_R0, w_R1, w_R2, w_T2, w_callL, w_callT, w_T1, w_T0, o_mv, o_newnil, o_pick, o_bin, o_binN, o_neg, o_not, o_eqB, o_eqS, o_conv, o_alloc, o_box, o_load1, o_loadN, o_store, o_nilck, o_faddr, o_field1, o_fieldN, o_iaddr, o_istr, o_slStr, o_slSl, o_lenS, o_lenL, o_mx, o_mn, o_ext, o_build, o_lit, o_litOwn, o_app, o_mk, o_mvfrz, l_int, l_bool, l_str, l_agg, l_sl, l_own, l_ptr, l_pp, i_int, i_bool, i_str, i_sl, i_own, i_ptr, i_pp, all0, all1, e_ok1, eff, effBin, effBinN, ld_ptr, ld_pp, ld_elt, ia_own, ia_arr, el_1, el_N, load1K, faddrE, r_iaddr, sg_S, sg_c, sg_n, purL, pur, List.map, List.drop, List.take, List.length, List.foldl, List.append_eq, List.nil_append, List.cons_append, List.getD_cons_zero, List.getD_cons_succ, reduceIte, Nat.reduceEqDiff, Nat.reduceAdd, Nat.reduceLeDiff, true_and, and_true, Bool.not_true, Bool.not_false, Bool.and_true, Bool.true_and, Bool.and_self, reduceCtorEq, true_implies, false_implies, implies_true, decide_eq_true_eq, Option.map_some, fpOf, fpX, SOp.xs, oX, refs, refsL, dom, disj, List.all_nil, List.all_cons, List.contains_cons, List.contains_nil, Nat.reduceBEq, Bool.or_false, Bool.false_or, List.append_nil, Bool.not_false, Bool.not_true, List.forall_mem_cons, fm0, List.set, Nat.reduceLT, ne_eq, not_false_eq_true, not_true_eq_false
, ret1, ret1N, keep0, keep1, rf_int, rf_bool, rf_str, rf_sl, rf_agg, rf_tup, rfL0, rfL1, re_t, re_cN, re_L0, re_L1, ret_tup, ret_one, decide_true, AV.bool.injEq, AV.int.injEq, Nat.reduceLeDiff, Bool.true_eq, Bool.false_eq, decide_eq_true_eq, decide_eq_false_iff_not, t_sPathOk, t_sNext, t_sLawful, t_l21Max, t_l21Min, t_next, t_lawful, Span2.row, snoc_i, Path5.av, retG_ret, ghost, retQ_eq, retOk, wkM, refsInO, keepB, re_tup, or_t, Int.toNat_natCast, noref, flatOk, List.length_map, Stp7.row, irow, un_stp, un_i, set_f, set_b, List.length_set, take_all, path_eta, true_and, rowsOf, appE]
  simp only [htk, snoc_i, un_i, Nat.sub_zero]
  refine ⟨fun h1 => ⟨trivial, fun h2 => ⟨fun h3 => ⟨by omega, by omega, by omega, by omega, ?_⟩, fun h3 => ⟨by omega, by omega, ?_⟩⟩, fun h2 => ?_⟩, fun h1 => ?_⟩
  · refine loopK_of (⟨(m : Int) + 1, m + 1, l ++ [_]⟩ : GoS) ⟨⟨.inr rfl, .inr rfl, .inr rfl, .inr rfl, trivial⟩, ⟨rfl, rfl, trivial⟩, rfl, rfl⟩ ⟨⟨by simp only; omega, by simp only; omega⟩, ?_⟩ (by simp only; omega)
    simp only
    rw [goL_step hg, if_pos h2, Path5.tick, if_pos (by omega), hl]
  · refine loopK_of (⟨(m : Int) + 1, m + 1, l ++ [_]⟩ : GoS) ⟨⟨.inr rfl, .inr rfl, .inr rfl, .inr rfl, trivial⟩, ⟨rfl, rfl, trivial⟩, rfl, rfl⟩ ⟨⟨by simp only; omega, by simp only; omega⟩, ?_⟩ (by simp only; omega)
    simp only
    rw [goL_step hg, if_pos h2, Path5.tick, if_neg (by omega)]
  · have hgo : p.go asked = none := go_none (n := m + 1) (by rw [goL_step hg, if_neg h2]) (by omega)
    exact ⟨⟨245, 0, [], false⟩, ⟨by rw [hgo]; rfl, by rw [hgo]; simp, by simp only; omega⟩, ⟨rfl, by simp⟩, rfl, rfl, rfl⟩
  · have e : m = p.l.length + 1 := by omega
    have hgo : p.go asked = if p.lawful l then some l else none := go_end (by rw [← e]; exact hg)
    refine ⟨trivial, fun h2 => ?_, fun h2 => ?_⟩
    · rw [if_pos h2] at hgo
      refine ⟨⟨165, 1 + m, l, true⟩, ⟨by rw [hgo]; rfl, by rw [hgo]; simp, by simp only; omega⟩, ⟨by simp only [hl], rfl⟩, rfl, by simp [refsIn], rfl⟩
    · rw [if_neg h2] at hgo
      exact ⟨⟨270, 0, [], false⟩, ⟨by rw [hgo]; rfl, by rw [hgo]; simp, by simp only; omega⟩, ⟨rfl, by simp⟩, rfl, rfl, rfl⟩
def r_go : RTab
  | [.agg [.int .i64 q, .int .i64 s, .sl _ 7 xs, .int .i64 f, .int .i64 b], .sl _ 1 [], .sl _ 1 ys], M => some ⟨M 190 = none ∧ ((xs.map unStp).map Stp7.row = xs ∧ (ys.map unI).map irow = ys) ∧ (xs.map unStp).length ≤ 100 ∧ (ys.map unI).length ≤ 4294967296, fun _ : Nat => True,
      fun v => .tup [.own 190 v 0 (((Path5.mk q s (xs.map unStp) f b).go (ys.map unI)).getD []).length, .bool (decide (((Path5.mk q s (xs.map unStp) f b).go (ys.map unI)).isSome = true))], fun v => [(190, .arr 3 v 1 ((((Path5.mk q s (xs.map unStp) f b).go (ys.map unI)).getD []).map irow))]⟩
  | _, _ => none
theorem h_go : okTab P 29 r_go := by
  intro args M o h hp
  unfold r_go at h
  split at h
  · rename_i q s t xs f b t2 t' ys
    cases h
    obtain ⟨h1, ⟨h2, h3⟩, h4, h5⟩ := hp
    obtain ⟨a, ⟨ha1, ha2, ha3⟩, hC⟩ := c_sGo ⟨q, s, xs.map unStp, f, b⟩ t t' t2 (ys.map unI) h4 h5
    have hC := hC.ren (swp a.o 190) (swp_swp a.o 190)
    have e : swp a.o 190 a.o = 190 := by simp [swp]
    have e2 : decide (a.ok = true) = decide (((Path5.mk q s (xs.map unStp) f b).go (ys.map unI)).isSome = true) := decide_eq_decide.2 ha2
    simp only [renL, ren, renM, renO, h2, h3, e, e2, ha1] at hC
    refine ⟨a.v, trivial, .inr (.inr ⟨_, by simp only [purL, pur, Option.map_some], hC, fun p hp => ?_, ?_, rfl, ?_, ?_⟩)⟩
    · simp only [List.mem_singleton] at hp
      rw [hp]; exact h1
    · simp [refsIn, refsInL, dom]
    · exact ⟨trivial, trivial, trivial⟩
    · intro p hp
      simp only [List.mem_singleton] at hp
      rw [hp]; exact no99_i _
  · cases h
end Go.Ve
namespace Go.Ve
open Go.Proofs
set_option linter.unusedSimpArgs false
set_option linter.unusedVariables false
set_option maxRecDepth 100000
set_option maxHeartbeats 8000000
theorem take_brow {cs : List Nat} {n : Nat} : List.take n (cs.map brow) = (cs.take n).map brow := List.map_take.symm
def isI (n : Nat) (xs : List (List AV)) : Prop := ∃ f : List Int, xs = f.map irow ∧ f.length ≤ n
theorem isI_map {n : Nat} {f : List Int} (h : f.length ≤ n) : isI n (f.map irow) := ⟨f, rfl, h⟩
theorem isI_take {n k : Nat} {xs : List (List AV)} (h : isI n xs) : isI n (xs.take k) := by
  obtain ⟨f, rfl, h⟩ := h
  exact ⟨f.take k, List.map_take.symm, by rw [List.length_take]; omega⟩
theorem isI_app {xs ys : List (List AV)} (h : isI 105 xs) (h' : isI 5 ys) : isI 110 (xs ++ ys) := by
  obtain ⟨f, rfl, h⟩ := h
  obtain ⟨g, rfl, h'⟩ := h'
  exact ⟨f ++ g, by simp, by rw [List.length_append]; omega⟩
theorem isI_1 {a : Int} : isI 5 [[.int .i64 a]] := ⟨[a], rfl, by simp⟩
theorem isI_2 {a b : Int} : isI 5 [[.int .i64 a], [.int .i64 b]] := ⟨[a, b], rfl, by simp⟩
theorem isI_0 {n : Nat} : isI n [] := ⟨[], rfl, by simp⟩
theorem c_drawLawful (cs : List Nat) (hcs : ∀ b ∈ cs, b ≤ 255) (hl : cs.length ≤ 1048576) : ∃ a : Path5 × List Int, (a.1.l.length ≤ 100 ∧ a.2.length ≤ 110) ∧ Contract P 9 [.sl 1 1 (cs.map brow)] [] (.tup [a.1.av, .sl 0 1 (a.2.map irow)]) [] := by
  refine fn_choose ((((((Env.nil P).addR 52 r_pick h_pick).addR 50 r_any h_any).addR 51 r_asked h_asked).addR 49 r_open h_open).addR 29 r_go h_go) Go.Ve.hm k_spec_DrawFlyLawful (Nat.le_of_ble_eq_true rfl) rfl (fun a : Path5 × List Int => a.1.l.length ≤ 100 ∧ a.2.length ≤ 110) (fun a => .tup [a.1.av, .sl 0 1 (a.2.map irow)]) (fun _ => []) ?_
  unfold s_spec_DrawFlyLawful
  have hB : okB ((cs.take 2000).map brow) := ⟨cs.take 2000, rfl, fun b hb => hcs b (List.mem_of_mem_take hb), by rw [List.length_take]; omega⟩
  have hR : ∀ {p lim : Int}, rdOk 0 1 1 ((cs.take 2000).map brow) p lim = (0 ≤ p ∧ p ≤ lim) := rdOk_of hB
  have hO : (∃ c : List Nat, cs.map brow = c.map brow ∧ c.length ≤ 9223372036854775807) = True := eq_true ⟨cs, rfl, by omega⟩
  simp only [w_skip, w_rg, w_rgd, w_seq, w_cond, w_block, w_loop, w_exit, w_ret, w_gh, w_rg0, w_rg1, w_rgT, w_rgF, w_run, w_psd, w_und, w_dr0, w_dr1, w_drT, w_drF, w_drRun, w_drPsd, w_drUnd, w_drKn, w_drKs, w_putK, w_trimK, w_thenN, w_thenE, w_thenR, w_scope, w_label, w_blkN, w_blkE, w_blkR, w_call, w_effK, brU_true, brU_false, brU_u, brU_not, brU_and, brU_or, brU_dec, brU_eq, brU_ne, br_true, br_false, br_not, br_and, br_or, br_dec, br_eq, br_ne, w_getE0, w_getE1, w_setE0, w_setE1, w_dropE0, w_dropE1, w_drop0, w_drop1, w_getM0, w_getM1, w_setM0, w_setM1, ev_v, ev_c, w_putS, w_putN, w_lit, w_apU0, w_apU1, w_apU2, w_trim, enumE0, enumE1, w_callWp, w_callA0, w_callA1, w_R0, w_R1, w_R2, w_T2, w_callL, w_callT, w_T1, w_T0, o_mv, o_newnil, o_pick, o_bin, o_binN, o_neg, o_not, o_eqB, o_eqS, o_conv, o_alloc, o_box, o_load1, o_loadN, o_store, o_nilck, o_faddr, o_field1, o_fieldN, o_iaddr, o_istr, o_slStr, o_slSl, o_lenS, o_lenL, o_mx, o_mn, o_ext, o_build, o_lit, o_litOwn, o_app, o_mk, o_mvfrz, l_int, l_bool, l_str, l_agg, l_sl, l_own, l_ptr, l_pp, i_int, i_bool, i_str, i_sl, i_own, i_ptr, i_pp, all0, all1, e_ok1, eff, effBin, effBinN, ld_ptr, ld_pp, ld_elt, ia_own, ia_arr, el_1, el_N, load1K, faddrE, r_iaddr, sg_S, sg_c, sg_n, purL, pur, List.map, List.drop, List.take, List.length, List.foldl, List.append_eq, List.nil_append, List.cons_append, List.getD_cons_zero, List.getD_cons_succ, reduceIte, Nat.reduceEqDiff, Nat.reduceAdd, Nat.reduceLeDiff, true_and, and_true, Bool.not_true, Bool.not_false, Bool.and_true, Bool.true_and, Bool.and_self, reduceCtorEq, true_implies, false_implies, implies_true, decide_eq_true_eq, Option.map_some, fpOf, fpX, SOp.xs, oX, refs, refsL, dom, disj, List.all_nil, List.all_cons, List.contains_cons, List.contains_nil, Nat.reduceBEq, Bool.or_false, Bool.false_or, List.append_nil, Bool.not_false, Bool.not_true, List.forall_mem_cons, fm0, List.set, Nat.reduceLT, ne_eq, not_false_eq_true, not_true_eq_false
, ret1, ret1N, keep0, keep1, rf_int, rf_bool, rf_str, rf_sl, rf_agg, rf_tup, rfL0, rfL1, re_t, re_cN, re_L0, re_L1, ret_tup, ret_one, decide_true, AV.bool.injEq, AV.int.injEq, Nat.reduceLeDiff, Bool.true_eq, Bool.false_eq, decide_eq_true_eq, decide_eq_false_iff_not, r_pick, r_any, r_asked, r_open, r_go, take_brow, hO, hR, brow, set_i, snoc_i, Sum.forall, Path5.av, retG_ret, ghost, retQ_eq, retOk, wkM, refsInO, keepB, re_tup, or_t, Int.toNat_natCast, noref, flatOk, List.length_map, Stp7.row, irow, un_stp, un_i, set_f, set_b, List.length_set, take_all, path_eta, true_and, rowsOf, appE]
  intro _
  refine ⟨by omega, fun a ha => ⟨by omega, fun b hb => ⟨by omega, fun v => ?_⟩⟩⟩
  have hgl := go_len (p := a.1) (asked := b.1)
  generalize (a.1.go b.1).getD [] = g at *
  have fin : ∀ (xs : List (List AV)), isI 110 xs → ∃ c : Path5 × List Int, (c.1.l.length ≤ 100 ∧ c.2.length ≤ 110) ∧ AV.agg [.int .i64 c.1.q, .int .i64 c.1.s, .sl 0 7 (c.1.l.map Stp7.row), .int .i64 c.1.f, .int .i64 c.1.b] = AV.agg [.int .i64 a.1.q, .int .i64 a.1.s, .sl 0 7 (a.1.l.map Stp7.row), .int .i64 a.1.f, .int .i64 a.1.b] ∧ AV.sl 0 1 xs = AV.sl 0 1 (c.2.map irow) := by
    rintro xs ⟨f, rfl, hf⟩
    exact ⟨(a.1, f), ⟨by simp only; omega, hf⟩, rfl, rfl⟩
  repeat' (first | intro _ | apply And.intro | omega | (refine fin _ ?_; repeat' (first | exact isI_map (by simp only [List.length_set, List.length_append, List.length_cons, List.length_nil]; omega) | exact isI_map (by omega) | apply isI_take | apply isI_app | exact isI_1 | exact isI_2 | exact isI_0)))
end Go.Ve
namespace Go.Ve
open Go.Proofs
set_option linter.unusedSimpArgs false
set_option linter.unusedVariables false
set_option maxRecDepth 100000
def Path5.restF (p : Path5) (k : Nat) (f b now : Int) : Path5 := if (p.rest k f b now).fit then p.rest k f b now else ⟨0, 0, [], 0, 0⟩
def t_rest : List AV → Option (Prop × AV)
  | [.agg [.int .i64 q, .int .i64 s, .sl _ 7 xs, .int .i64 f, .int .i64 b], .int .i64 k, .int .i64 fr, .int .i64 by_, .int .i64 now] => some ((xs.map unStp).map Stp7.row = xs ∧ (0 ≤ k ∧ k < (xs.map unStp).length) ∧ (xs.map unStp).length ≤ 1048576 ∧ (-4611686018427387904 ≤ now ∧ now ≤ 4611686018427387904), .tup [(Path5.restF ⟨q, s, xs.map unStp, f, b⟩ k.toNat fr by_ now).av, .bool (decide (Path5.rest ⟨q, s, xs.map unStp, f, b⟩ k.toNat fr by_ now).fit)])
  | _ => none
theorem h_rest : ∀ args p v, t_rest args = some (p, v) → p → Contract P 91 args [] v [] ∧ noref v = true ∧ No99 v := by
  intro args p v h1 h2
  unfold t_rest at h1
  split at h1
  · rename_i q s t xs f b k fr by_ now
    cases h1
    have := c_rest ⟨q, s, xs.map unStp, f, b⟩ t k fr by_ now h2.2.1 h2.2.2.1 h2.2.2.2
    simp only [h2.1] at this
    exact ⟨this, rfl, no99_av _, trivial, trivial⟩
  · cases h1
theorem c_iFlyRest (p : Path5) (t : Nat) (k e now : Int) : Contract P 36 [.agg [.int .i64 p.q, .int .i64 p.s, .sl t 7 (p.l.map Stp7.row), .int .i64 p.f, .int .i64 p.b], .int .i64 k, .int .i64 e, .int .i64 now] [] (.tup [(p.restR k e now).av, .bool (decide (p.goes k e now))]) [] := by
  refine fn_sound (((Env.nil P).add 32 t_iPathOk h_iPathOk).add 91 t_rest h_rest) hm k_impl_FlyRest (Nat.le_of_ble_eq_true rfl) rfl ?_
  unfold s_impl_FlyRest
  simp only [w_skip, w_rg, w_rgd, w_seq, w_cond, w_block, w_loop, w_exit, w_ret, w_gh, w_rg0, w_rg1, w_rgT, w_rgF, w_run, w_psd, w_und, w_dr0, w_dr1, w_drT, w_drF, w_drRun, w_drPsd, w_drUnd, w_drKn, w_drKs, w_putK, w_trimK, w_thenN, w_thenE, w_thenR, w_scope, w_label, w_blkN, w_blkE, w_blkR, w_call, w_effK, brU_true, brU_false, brU_u, brU_not, brU_and, brU_or, brU_dec, brU_eq, brU_ne, br_true, br_false, br_not, br_and, br_or, br_dec, br_eq, br_ne, w_getE0, w_getE1, w_setE0, w_setE1, w_dropE0, w_dropE1, w_drop0, w_drop1, w_getM0, w_getM1, w_setM0, w_setM1, ev_v, ev_c, w_putS, w_putN, w_lit, w_apU0, w_apU1, w_apU2, w_trim, enumE0, enumE1, w_callWp, w_callA0, w_callA1, w_R0, w_R1, w_R2, w_T2, w_callL, w_callT, w_T1, w_T0, o_mv, o_newnil, o_pick, o_bin, o_binN, o_neg, o_not, o_eqB, o_eqS, o_conv, o_alloc, o_box, o_load1, o_loadN, o_store, o_nilck, o_faddr, o_field1, o_fieldN, o_iaddr, o_istr, o_slStr, o_slSl, o_lenS, o_lenL, o_mx, o_mn, o_ext, o_build, o_lit, o_litOwn, o_app, o_mk, o_mvfrz, l_int, l_bool, l_str, l_agg, l_sl, l_own, l_ptr, l_pp, i_int, i_bool, i_str, i_sl, i_own, i_ptr, i_pp, all0, all1, e_ok1, eff, effBin, effBinN, ld_ptr, ld_pp, ld_elt, ia_own, ia_arr, el_1, el_N, load1K, faddrE, r_iaddr, sg_S, sg_c, sg_n, purL, pur, List.map, List.drop, List.take, List.length, List.foldl, List.append_eq, List.nil_append, List.cons_append, List.getD_cons_zero, List.getD_cons_succ, reduceIte, Nat.reduceEqDiff, Nat.reduceAdd, Nat.reduceLeDiff, true_and, and_true, Bool.not_true, Bool.not_false, Bool.and_true, Bool.true_and, Bool.and_self, reduceCtorEq, true_implies, false_implies, implies_true, decide_eq_true_eq, Option.map_some, fpOf, fpX, SOp.xs, oX, refs, refsL, dom, disj, List.all_nil, List.all_cons, List.contains_cons, List.contains_nil, Nat.reduceBEq, Bool.or_false, Bool.false_or, List.append_nil, Bool.not_false, Bool.not_true, List.forall_mem_cons, fm0, List.set, Nat.reduceLT, ne_eq, not_false_eq_true, not_true_eq_false
, ret1, ret1N, keep0, keep1, rf_int, rf_bool, rf_str, rf_sl, rf_agg, rf_tup, rfL0, rfL1, re_t, re_cN, re_L0, re_L1, ret_tup, ret_one, decide_true, AV.bool.injEq, AV.int.injEq, Nat.reduceLeDiff, Bool.true_eq, Bool.false_eq, decide_eq_true_eq, decide_eq_false_iff_not, t_iPathOk, t_rest, drop_rows, ite_max, ite_min, t_sPathOk, Path5.av, Int.toNat_zero, List.length_map, Stp7.row, irow, un_stp, un_i, path_eta, stp_eta, take_all, flatOk, noref, ghost, Nat.zero_add, Nat.sub_zero, Int.toNat_natCast]
  have no : ¬ p.goes k e now → AV.agg [AV.int IntKind.i64 (p.restR k e now).q, AV.int IntKind.i64 (p.restR k e now).s, AV.sl 0 7 (List.map Stp7.row (p.restR k e now).l), AV.int IntKind.i64 (p.restR k e now).f, AV.int IntKind.i64 (p.restR k e now).b] =
      AV.agg [AV.int IntKind.i64 0, AV.int IntKind.i64 0, AV.sl 0 7 [], AV.int IntKind.i64 0, AV.int IntKind.i64 0] ∧ ¬ p.goes k e now := fun h => ⟨by rw [Path5.restR, if_neg h]; rfl, h⟩
  refine ⟨fun h1 => ⟨fun h2 => no fun h => absurd h.2.1.1 (by omega), fun h2 => ⟨fun h3 => no fun h => absurd h.2.1.2 (by omega), fun h3 => ⟨fun h4 => no fun h => absurd h.2.2.1 (by omega), fun h4 => ⟨fun h5 => no fun h => absurd h.2.2.1 (by omega), fun h5 => ⟨fun h6 => no fun h => absurd h.2.2.1 (by omega), fun h6 => ?_⟩⟩⟩⟩⟩, fun h1 => no fun h => h1 h.1⟩
  have hb := (h1.2.2.2 k.toNat (by omega)).1
  unfold Stp7.ok at hb
  have hfit := rest_fit (p := p) (k := k.toNat) (f := max (p.l.getD k.toNat default).f e) (b := min (p.l.getD k.toNat default).b e) (now := now) h1 (by omega) (by omega) (by omega)
  have hgo : (p.rest k.toNat (max (p.l.getD k.toNat default).f e) (min (p.l.getD k.toNat default).b e) now).fit ↔ p.goes k e now :=
    ⟨fun h => ⟨h1, ⟨by omega, by omega⟩, ⟨by omega, by omega, by omega⟩, hfit.1 h⟩, fun h => hfit.2 h.2.2.2⟩
  have hR : p.restR k e now = p.restF k.toNat (max (p.l.getD k.toNat default).f e) (min (p.l.getD k.toNat default).b e) now := by
    unfold Path5.restR Path5.restF
    by_cases h : p.goes k e now
    · rw [if_pos h, if_pos (hgo.2 h)]; rfl
    · rw [if_neg h, if_neg (fun h' => h (hgo.1 h'))]
  exact ⟨by omega, by omega, ⟨⟨by omega, by omega⟩, by have := h1.2.1; omega, by omega, by omega⟩, by rw [hR], decide_eq_decide.2 hgo⟩
def t_frest : List AV → Option (Prop × AV)
  | [.agg [.int .i64 q, .int .i64 s, .sl _ 7 xs, .int .i64 f, .int .i64 b], .int .i64 k, .int .i64 e, .int .i64 now] => some ((xs.map unStp).map Stp7.row = xs, .tup [(Path5.restR ⟨q, s, xs.map unStp, f, b⟩ k e now).av, .bool (decide (Path5.goes ⟨q, s, xs.map unStp, f, b⟩ k e now))])
  | _ => none
abbrev t_iRest := t_frest
theorem h_iRest : ∀ args p v, t_frest args = some (p, v) → p → Contract P 36 args [] v [] ∧ noref v = true ∧ No99 v := by
  intro args p v h1 h2
  unfold t_frest at h1
  split at h1
  · rename_i q s t xs f b k e now
    cases h1
    have := c_iFlyRest ⟨q, s, xs.map unStp, f, b⟩ t k e now
    simp only [h2] at this
    exact ⟨this, rfl, no99_av _, trivial, trivial⟩
  · cases h1
abbrev t_sRest := t_frest
theorem h_sRest : ∀ args p v, t_frest args = some (p, v) → p → Contract P 40 args [] v [] ∧ noref v = true ∧ No99 v := by
  intro args p v h1 h2
  unfold t_frest at h1
  split at h1
  · rename_i q s t xs f b k e now
    cases h1
    have := c_sFlyRest ⟨q, s, xs.map unStp, f, b⟩ t k e now
    simp only [h2] at this
    exact ⟨this, rfl, no99_av _, trivial, trivial⟩
  · cases h1
theorem c_l43Waits (p : Path5) (t : Nat) (now : Int) (hc : p.calm) (hw : -4611686018427387904 ≤ now ∧ now ≤ 4611686018427387904) : Contract P 106 [.agg [.int .i64 p.q, .int .i64 p.s, .sl t 7 (p.l.map Stp7.row), .int .i64 p.f, .int .i64 p.b], .int .i64 now] [] (.bool (decide (pathOk p.q p.s p.l p.f p.b ∧ (p.wait now).can))) [] := by
  refine fn_sound ((((Env.nil P).add 33 t_sPathOk h_sPathOk).add 54 t_l24Spans h_l24Spans).add 84 t_l21Max h_l21Max) hm k_spec_l43Waits (Nat.le_of_ble_eq_true rfl) rfl ?_
  unfold s_spec_l43Waits
  simp only [w_skip, w_rg, w_rgd, w_seq, w_cond, w_block, w_loop, w_exit, w_ret, w_gh, w_rg0, w_rg1, w_rgT, w_rgF, w_run, w_psd, w_und, w_dr0, w_dr1, w_drT, w_drF, w_drRun, w_drPsd, w_drUnd, w_drKn, w_drKs, w_putK, w_trimK, w_thenN, w_thenE, w_thenR, w_scope, w_label, w_blkN, w_blkE, w_blkR, w_call, w_effK, brU_true, brU_false, brU_u, brU_not, brU_and, brU_or, brU_dec, brU_eq, brU_ne, br_true, br_false, br_not, br_and, br_or, br_dec, br_eq, br_ne, w_getE0, w_getE1, w_setE0, w_setE1, w_dropE0, w_dropE1, w_drop0, w_drop1, w_getM0, w_getM1, w_setM0, w_setM1, ev_v, ev_c, w_putS, w_putN, w_lit, w_apU0, w_apU1, w_apU2, w_trim, enumE0, enumE1, w_callWp, w_callA0, w_callA1, w_R0, w_R1, w_R2, w_T2, w_callL, w_callT, w_T1, w_T0, o_mv, o_newnil, o_pick, o_bin, o_binN, o_neg, o_not, o_eqB, o_eqS, o_conv, o_alloc, o_box, o_load1, o_loadN, o_store, o_nilck, o_faddr, o_field1, o_fieldN, o_iaddr, o_istr, o_slStr, o_slSl, o_lenS, o_lenL, o_mx, o_mn, o_ext, o_build, o_lit, o_litOwn, o_app, o_mk, o_mvfrz, l_int, l_bool, l_str, l_agg, l_sl, l_own, l_ptr, l_pp, i_int, i_bool, i_str, i_sl, i_own, i_ptr, i_pp, all0, all1, e_ok1, eff, effBin, effBinN, ld_ptr, ld_pp, ld_elt, ia_own, ia_arr, el_1, el_N, load1K, faddrE, r_iaddr, sg_S, sg_c, sg_n, purL, pur, List.map, List.drop, List.take, List.length, List.foldl, List.append_eq, List.nil_append, List.cons_append, List.getD_cons_zero, List.getD_cons_succ, reduceIte, Nat.reduceEqDiff, Nat.reduceAdd, Nat.reduceLeDiff, true_and, and_true, Bool.not_true, Bool.not_false, Bool.and_true, Bool.true_and, Bool.and_self, reduceCtorEq, true_implies, false_implies, implies_true, decide_eq_true_eq, Option.map_some, fpOf, fpX, SOp.xs, oX, refs, refsL, dom, disj, List.all_nil, List.all_cons, List.contains_cons, List.contains_nil, Nat.reduceBEq, Bool.or_false, Bool.false_or, List.append_nil, Bool.not_false, Bool.not_true, List.forall_mem_cons, fm0, List.set, Nat.reduceLT, ne_eq, not_false_eq_true, not_true_eq_false
, ret1, ret1N, keep0, keep1, rf_int, rf_bool, rf_str, rf_sl, rf_agg, rf_tup, rfL0, rfL1, re_t, re_cN, re_L0, re_L1, ret_tup, ret_one, decide_true, AV.bool.injEq, AV.int.injEq, Nat.reduceLeDiff, Bool.true_eq, Bool.false_eq, decide_eq_true_eq, decide_eq_false_iff_not, t_sPathOk, t_l24Spans, t_l21Max, set_f, List.length_set, take_s1, Path5.av, Int.toNat_zero, List.length_map, Stp7.row, irow, un_stp, un_i, path_eta, stp_eta, take_all, flatOk, noref, ghost, Nat.zero_add, Nat.sub_zero, Int.toNat_natCast]
  refine ⟨_, _, .inl ⟨[], c_l22Copy p t hc.n, by simp, by simp [getM], rfl, rfl, rfl, rfl, rfl⟩, ?_⟩
  simp only [w_skip, w_rg, w_rgd, w_seq, w_cond, w_block, w_loop, w_exit, w_ret, w_gh, w_rg0, w_rg1, w_rgT, w_rgF, w_run, w_psd, w_und, w_dr0, w_dr1, w_drT, w_drF, w_drRun, w_drPsd, w_drUnd, w_drKn, w_drKs, w_putK, w_trimK, w_thenN, w_thenE, w_thenR, w_scope, w_label, w_blkN, w_blkE, w_blkR, w_call, w_effK, brU_true, brU_false, brU_u, brU_not, brU_and, brU_or, brU_dec, brU_eq, brU_ne, br_true, br_false, br_not, br_and, br_or, br_dec, br_eq, br_ne, w_getE0, w_getE1, w_setE0, w_setE1, w_dropE0, w_dropE1, w_drop0, w_drop1, w_getM0, w_getM1, w_setM0, w_setM1, ev_v, ev_c, w_putS, w_putN, w_lit, w_apU0, w_apU1, w_apU2, w_trim, enumE0, enumE1, w_callWp, w_callA0, w_callA1, w_R0, w_R1, w_R2, w_T2, w_callL, w_callT, w_T1, w_T0, o_mv, o_newnil, o_pick, o_bin, o_binN, o_neg, o_not, o_eqB, o_eqS, o_conv, o_alloc, o_box, o_load1, o_loadN, o_store, o_nilck, o_faddr, o_field1, o_fieldN, o_iaddr, o_istr, o_slStr, o_slSl, o_lenS, o_lenL, o_mx, o_mn, o_ext, o_build, o_lit, o_litOwn, o_app, o_mk, o_mvfrz, l_int, l_bool, l_str, l_agg, l_sl, l_own, l_ptr, l_pp, i_int, i_bool, i_str, i_sl, i_own, i_ptr, i_pp, all0, all1, e_ok1, eff, effBin, effBinN, ld_ptr, ld_pp, ld_elt, ia_own, ia_arr, el_1, el_N, load1K, faddrE, r_iaddr, sg_S, sg_c, sg_n, purL, pur, List.map, List.drop, List.take, List.length, List.foldl, List.append_eq, List.nil_append, List.cons_append, List.getD_cons_zero, List.getD_cons_succ, reduceIte, Nat.reduceEqDiff, Nat.reduceAdd, Nat.reduceLeDiff, true_and, and_true, Bool.not_true, Bool.not_false, Bool.and_true, Bool.true_and, Bool.and_self, reduceCtorEq, true_implies, false_implies, implies_true, decide_eq_true_eq, Option.map_some, fpOf, fpX, SOp.xs, oX, refs, refsL, dom, disj, List.all_nil, List.all_cons, List.contains_cons, List.contains_nil, Nat.reduceBEq, Bool.or_false, Bool.false_or, List.append_nil, Bool.not_false, Bool.not_true, List.forall_mem_cons, fm0, List.set, Nat.reduceLT, ne_eq, not_false_eq_true, not_true_eq_false
, ret1, ret1N, keep0, keep1, rf_int, rf_bool, rf_str, rf_sl, rf_agg, rf_tup, rfL0, rfL1, re_t, re_cN, re_L0, re_L1, ret_tup, ret_one, decide_true, AV.bool.injEq, AV.int.injEq, Nat.reduceLeDiff, Bool.true_eq, Bool.false_eq, decide_eq_true_eq, decide_eq_false_iff_not, t_sPathOk, t_l24Spans, t_l21Max, set_f, List.length_set, take_s1, Path5.av, Int.toNat_zero, List.length_map, Stp7.row, irow, un_stp, un_i, path_eta, stp_eta, take_all, flatOk, noref, ghost, Nat.zero_add, Nat.sub_zero, Int.toNat_natCast]
  refine ⟨fun h => ⟨⟨by omega, by omega⟩, by omega, by omega, ⟨by omega, by omega⟩, wait_calm (by omega) hc, fun h1 => decide_eq_decide.2 ⟨fun h2 => ⟨h1, h2⟩, fun h2 => h2.2⟩, fun h1 h2 => h1 h2.1⟩, fun h => ⟨hc, fun h1 => absurd h1.2.1.1 (by omega), fun h1 h2 => h1 h2.1⟩⟩
def t_waits : List AV → Option (Prop × AV)
  | [.agg [.int .i64 q, .int .i64 s, .sl _ 7 xs, .int .i64 f, .int .i64 b], .int .i64 now] => some ((xs.map unStp).map Stp7.row = xs ∧ Path5.calm ⟨q, s, xs.map unStp, f, b⟩ ∧ (-4611686018427387904 ≤ now ∧ now ≤ 4611686018427387904), .bool (decide (pathOk q s (xs.map unStp) f b ∧ (Path5.wait ⟨q, s, xs.map unStp, f, b⟩ now).can)))
  | _ => none
theorem h_waits : ∀ args p v, t_waits args = some (p, v) → p → Contract P 106 args [] v [] ∧ noref v = true ∧ No99 v := by
  intro args p v h1 h2
  unfold t_waits at h1
  split at h1
  · rename_i q s t xs f b now
    cases h1
    have := c_l43Waits ⟨q, s, xs.map unStp, f, b⟩ t now h2.2.1 h2.2.2
    simp only [h2.1] at this
    exact ⟨this, rfl, trivial⟩
  · cases h1
/-- The aircraft can stay where it is behind now. -/
def Path5.stays (p : Path5) (bg : List Int) (now : Int) : Prop := if bg.length = 0 then pathOk p.q p.s p.l p.f p.b ∧ (p.wait now).can else p.goes ((bg.length : Int) - 1) (bg.getD (bg.length - 1) default) now
instance (p : Path5) (bg : List Int) (now : Int) : Decidable (p.stays bg now) := by unfold Path5.stays; infer_instance
theorem nat_pred (n : Nat) : ((n : Int) - 1).toNat = n - 1 := by omega
theorem len_zero (n : Nat) : ((n : Int) = 0) = (n = 0) := by simp
theorem c_l43Stays (p : Path5) (t t' : Nat) (bg : List Int) (now : Int) (hc : p.calm) (hw : -4611686018427387904 ≤ now ∧ now ≤ 4611686018427387904) (hb : bg.length ≤ 1048576) : Contract P 66 [.agg [.int .i64 p.q, .int .i64 p.s, .sl t 7 (p.l.map Stp7.row), .int .i64 p.f, .int .i64 p.b], .sl t' 1 (bg.map irow), .int .i64 now] [] (.bool (decide (p.stays bg now))) [] := by
  refine fn_sound (((Env.nil P).add 106 t_waits h_waits).add 40 t_sRest h_sRest) hm k_spec_l43Stays (Nat.le_of_ble_eq_true rfl) rfl ?_
  unfold s_spec_l43Stays
  simp only [w_skip, w_rg, w_rgd, w_seq, w_cond, w_block, w_loop, w_exit, w_ret, w_gh, w_rg0, w_rg1, w_rgT, w_rgF, w_run, w_psd, w_und, w_dr0, w_dr1, w_drT, w_drF, w_drRun, w_drPsd, w_drUnd, w_drKn, w_drKs, w_putK, w_trimK, w_thenN, w_thenE, w_thenR, w_scope, w_label, w_blkN, w_blkE, w_blkR, w_call, w_effK, brU_true, brU_false, brU_u, brU_not, brU_and, brU_or, brU_dec, brU_eq, brU_ne, br_true, br_false, br_not, br_and, br_or, br_dec, br_eq, br_ne, w_getE0, w_getE1, w_setE0, w_setE1, w_dropE0, w_dropE1, w_drop0, w_drop1, w_getM0, w_getM1, w_setM0, w_setM1, ev_v, ev_c, w_putS, w_putN, w_lit, w_apU0, w_apU1, w_apU2, w_trim, enumE0, enumE1, w_callWp, w_callA0, w_callA1, w_R0, w_R1, w_R2, w_T2, w_callL, w_callT, w_T1, w_T0, o_mv, o_newnil, o_pick, o_bin, o_binN, o_neg, o_not, o_eqB, o_eqS, o_conv, o_alloc, o_box, o_load1, o_loadN, o_store, o_nilck, o_faddr, o_field1, o_fieldN, o_iaddr, o_istr, o_slStr, o_slSl, o_lenS, o_lenL, o_mx, o_mn, o_ext, o_build, o_lit, o_litOwn, o_app, o_mk, o_mvfrz, l_int, l_bool, l_str, l_agg, l_sl, l_own, l_ptr, l_pp, i_int, i_bool, i_str, i_sl, i_own, i_ptr, i_pp, all0, all1, e_ok1, eff, effBin, effBinN, ld_ptr, ld_pp, ld_elt, ia_own, ia_arr, el_1, el_N, load1K, faddrE, r_iaddr, sg_S, sg_c, sg_n, purL, pur, List.map, List.drop, List.take, List.length, List.foldl, List.append_eq, List.nil_append, List.cons_append, List.getD_cons_zero, List.getD_cons_succ, reduceIte, Nat.reduceEqDiff, Nat.reduceAdd, Nat.reduceLeDiff, true_and, and_true, Bool.not_true, Bool.not_false, Bool.and_true, Bool.true_and, Bool.and_self, reduceCtorEq, true_implies, false_implies, implies_true, decide_eq_true_eq, Option.map_some, fpOf, fpX, SOp.xs, oX, refs, refsL, dom, disj, List.all_nil, List.all_cons, List.contains_cons, List.contains_nil, Nat.reduceBEq, Bool.or_false, Bool.false_or, List.append_nil, Bool.not_false, Bool.not_true, List.forall_mem_cons, fm0, List.set, Nat.reduceLT, ne_eq, not_false_eq_true, not_true_eq_false
, ret1, ret1N, keep0, keep1, rf_int, rf_bool, rf_str, rf_sl, rf_agg, rf_tup, rfL0, rfL1, re_t, re_cN, re_L0, re_L1, ret_tup, ret_one, decide_true, AV.bool.injEq, AV.int.injEq, Nat.reduceLeDiff, Bool.true_eq, Bool.false_eq, decide_eq_true_eq, decide_eq_false_iff_not, t_waits, t_sRest, t_frest, nat_pred, Path5.av, Int.toNat_zero, List.length_map, Stp7.row, irow, un_stp, un_i, path_eta, stp_eta, take_all, flatOk, noref, ghost, Nat.zero_add, Nat.sub_zero, Int.toNat_natCast]
  refine ⟨fun h => ⟨⟨hc, hw⟩, by unfold Path5.stays; simp only [show bg.length = 0 from by omega, if_true]⟩, fun h => ⟨by omega, by omega, by omega, ?_⟩⟩
  unfold Path5.stays
  simp only [show ¬ bg.length = 0 from by omega, if_false]
theorem c_stays (nm : ByteArray) (q s nr no : Int) (t t' t2 : Nat) (tu : List Box6) (fl : List Int) (p : Path5) (now : Int) (hp : pathOk p.q p.s p.l p.f p.b) (hb : fl.length ≤ 1048576) : Contract P 71 [.agg [.str nm, .int .i64 q, .int .i64 s, .int .i64 nr, .int .i64 no, .sl t 6 (tu.map Box6.row), .sl t' 1 (fl.map irow)], .agg [.int .i64 p.q, .int .i64 p.s, .sl t2 7 (p.l.map Stp7.row), .int .i64 p.f, .int .i64 p.b], .int .i64 now] [] (.bool (decide (p.stays fl now))) [] := by
  refine fn_sound (((Env.nil P).add 10 t_iFit h_iFit).add 36 t_iRest h_iRest) hm k_impl_LapCraft_stays (Nat.le_of_ble_eq_true rfl) rfl ?_
  unfold s_impl_LapCraft_stays
  simp only [w_skip, w_rg, w_rgd, w_seq, w_cond, w_block, w_loop, w_exit, w_ret, w_gh, w_rg0, w_rg1, w_rgT, w_rgF, w_run, w_psd, w_und, w_dr0, w_dr1, w_drT, w_drF, w_drRun, w_drPsd, w_drUnd, w_drKn, w_drKs, w_putK, w_trimK, w_thenN, w_thenE, w_thenR, w_scope, w_label, w_blkN, w_blkE, w_blkR, w_call, w_effK, brU_true, brU_false, brU_u, brU_not, brU_and, brU_or, brU_dec, brU_eq, brU_ne, br_true, br_false, br_not, br_and, br_or, br_dec, br_eq, br_ne, w_getE0, w_getE1, w_setE0, w_setE1, w_dropE0, w_dropE1, w_drop0, w_drop1, w_getM0, w_getM1, w_setM0, w_setM1, ev_v, ev_c, w_putS, w_putN, w_lit, w_apU0, w_apU1, w_apU2, w_trim, enumE0, enumE1, w_callWp, w_callA0, w_callA1, w_R0, w_R1, w_R2, w_T2, w_callL, w_callT, w_T1, w_T0, o_mv, o_newnil, o_pick, o_bin, o_binN, o_neg, o_not, o_eqB, o_eqS, o_conv, o_alloc, o_box, o_load1, o_loadN, o_store, o_nilck, o_faddr, o_field1, o_fieldN, o_iaddr, o_istr, o_slStr, o_slSl, o_lenS, o_lenL, o_mx, o_mn, o_ext, o_build, o_lit, o_litOwn, o_app, o_mk, o_mvfrz, l_int, l_bool, l_str, l_agg, l_sl, l_own, l_ptr, l_pp, i_int, i_bool, i_str, i_sl, i_own, i_ptr, i_pp, all0, all1, e_ok1, eff, effBin, effBinN, ld_ptr, ld_pp, ld_elt, ia_own, ia_arr, el_1, el_N, load1K, faddrE, r_iaddr, sg_S, sg_c, sg_n, purL, pur, List.map, List.drop, List.take, List.length, List.foldl, List.append_eq, List.nil_append, List.cons_append, List.getD_cons_zero, List.getD_cons_succ, reduceIte, Nat.reduceEqDiff, Nat.reduceAdd, Nat.reduceLeDiff, true_and, and_true, Bool.not_true, Bool.not_false, Bool.and_true, Bool.true_and, Bool.and_self, reduceCtorEq, true_implies, false_implies, implies_true, decide_eq_true_eq, Option.map_some, fpOf, fpX, SOp.xs, oX, refs, refsL, dom, disj, List.all_nil, List.all_cons, List.contains_cons, List.contains_nil, Nat.reduceBEq, Bool.or_false, Bool.false_or, List.append_nil, Bool.not_false, Bool.not_true, List.forall_mem_cons, fm0, List.set, Nat.reduceLT, ne_eq, not_false_eq_true, not_true_eq_false
, ret1, ret1N, keep0, keep1, rf_int, rf_bool, rf_str, rf_sl, rf_agg, rf_tup, rfL0, rfL1, re_t, re_cN, re_L0, re_L1, ret_tup, ret_one, decide_true, AV.bool.injEq, AV.int.injEq, Nat.reduceLeDiff, Bool.true_eq, Bool.false_eq, decide_eq_true_eq, decide_eq_false_iff_not, t_iFit, t_iRest, t_frest, nat_pred, Path5.av, Int.toNat_zero, List.length_map, Stp7.row, irow, un_stp, un_i, path_eta, stp_eta, take_all, flatOk, noref, ghost, Nat.zero_add, Nat.sub_zero, Int.toNat_natCast, t_fit, Span2.row]
  have hf : p.fit ↔ p.can := ⟨fun h => h.2, fun h => ⟨hp, h⟩⟩
  have hq : p.q ≤ p.s ∧ p.q ≤ 10000 := by have := hp.1; omega
  have h0 : 0 < p.l.length := by have := hp.2.1; omega
  have hw := wait_can (now := now) h0 hq
  refine ⟨fun h => ?_, fun h => ⟨by omega, by omega, by omega, by omega, ?_⟩⟩
  · unfold Path5.stays
    simp only [show fl.length = 0 from by omega, if_true]
    refine ⟨fun h1 => ?_, fun h1 h2 => h1 (hf.2 (hw.1 h2.2).1)⟩
    have e : p.fitS = (List.range (p.l.length + 1)).map p.span := by rw [Path5.fitS, if_pos hp]; exact if_pos h1.2
    rw [e, getD_range (by omega)]
    exact ⟨by omega, by simp only [List.length_map, List.length_range]; omega, decide_eq_decide.2 ⟨fun h2 => ⟨hp, hw.2 ⟨h1.2, h2⟩⟩, fun h2 => (hw.1 h2.2).2⟩⟩
  · unfold Path5.stays
    simp only [show ¬ fl.length = 0 from by omega, if_false]
end Go.Ve
namespace Go.Ve
open Go.Proofs
set_option linter.unusedSimpArgs false
set_option linter.unusedVariables false
set_option maxRecDepth 100000
set_option maxHeartbeats 4000000
theorem no99_bx (l : List Box6) : No99LL (l.map Box6.row) := by
  induction l with
  | nil => trivial
  | cons x l ih => exact ⟨⟨trivial, trivial, trivial, trivial, trivial, trivial, trivial⟩, ih⟩
def Path5.cell (p : Path5) (k : Nat) : Box6 := ⟨(p.l.getD k default).x, (p.l.getD k default).y, (p.l.getD k default).l, (p.l.getD k default).h, (p.fitS.getD k default).lo, (p.fitS.getD (k + 1) default).hi - 1⟩
def Path5.tube (p : Path5) : List Box6 := if p.fit then (List.range p.l.length).map p.cell else []
theorem tube_len (p : Path5) : p.tube.length = if p.fit then p.l.length else 0 := by unfold Path5.tube; split <;> simp
theorem fitS_fit {p : Path5} (h : p.fit) : p.fitS.length = p.l.length + 1 ∧ ∀ k, k < p.l.length + 1 → p.fitS.getD k default = p.span k := by
  have e : p.fitS = (List.range (p.l.length + 1)).map p.span := by rw [Path5.fitS, if_pos h.1]; exact if_pos h.2
  exact ⟨by rw [e]; simp, fun k hk => by rw [e]; exact getD_range hk⟩
theorem fitS_val {p : Path5} (h : p.fit) {k : Nat} (hk : k ≤ p.l.length) : 0 ≤ (p.span k).lo ∧ (p.span k).lo ≤ (p.span k).hi ∧ (p.span k).hi ≤ 10000 := by
  have h1 := span_in h.2 hk
  have h2 := (ok_calm h.1).lo k hk
  have h3 := (ok_calm h.1).hi k hk
  omega
theorem snoc_b (l : List Box6) (a b c d e f : Int) : l.map Box6.row ++ [[.int .i64 a, .int .i64 b, .int .i64 c, .int .i64 d, .int .i64 e, .int .i64 f]] = (l ++ [(⟨a, b, c, d, e, f⟩ : Box6)]).map Box6.row := by simp [Box6.row]
def F_tube (p : Path5) (t k : Nat) : St := ⟨[(3, .sl 0 2 (p.fitS.map Span2.row)), (5, .own 146 k 0 k), (16, .sl t 7 (p.l.map Stp7.row)), (17, .int .i64 p.l.length), (18, .int .i64 k)], [(146, .arr 106 k 6 (((List.range k).map p.cell).map Box6.row))]⟩
theorem c_tube (p : Path5) (t : Nat) (hn : p.l.length ≤ 1048576) : Contract P 31 [.agg [.int .i64 p.q, .int .i64 p.s, .sl t 7 (p.l.map Stp7.row), .int .i64 p.f, .int .i64 p.b]] [] (.sl 0 6 (p.tube.map Box6.row)) [] := by
  refine fn_sound ((Env.nil P).add 10 t_iFit h_iFit) hm kO_impl_FlyTube (Nat.le_of_ble_eq_true rfl) rfl ?_
  unfold sO_impl_FlyTube
  simp only [w_skip, w_rg, w_rgd, w_seq, w_cond, w_block, w_loop, w_exit, w_ret, w_gh, w_rg0, w_rg1, w_rgT, w_rgF, w_run, w_psd, w_und, w_dr0, w_dr1, w_drT, w_drF, w_drRun, w_drPsd, w_drUnd, w_drKn, w_drKs, w_putK, w_trimK, w_thenN, w_thenE, w_thenR, w_scope, w_label, w_blkN, w_blkE, w_blkR, w_call, w_effK, brU_true, brU_false, brU_u, brU_not, brU_and, brU_or, brU_dec, brU_eq, brU_ne, br_true, br_false, br_not, br_and, br_or, br_dec, br_eq, br_ne, w_getE0, w_getE1, w_setE0, w_setE1, w_dropE0, w_dropE1, w_drop0, w_drop1, w_getM0, w_getM1, w_setM0, w_setM1, ev_v, ev_c, w_putS, w_putN, w_lit, w_apU0, w_apU1, w_apU2, w_trim, enumE0, enumE1, w_callWp, w_callA0, w_callA1, w_R0, w_R1, w_R2, w_T2, w_callL, w_callT, w_T1, w_T0, o_mv, o_newnil, o_pick, o_bin, o_binN, o_neg, o_not, o_eqB, o_eqS, o_conv, o_alloc, o_box, o_load1, o_loadN, o_store, o_nilck, o_faddr, o_field1, o_fieldN, o_iaddr, o_istr, o_slStr, o_slSl, o_lenS, o_lenL, o_mx, o_mn, o_ext, o_build, o_lit, o_litOwn, o_app, o_mk, o_mvfrz, l_int, l_bool, l_str, l_agg, l_sl, l_own, l_ptr, l_pp, i_int, i_bool, i_str, i_sl, i_own, i_ptr, i_pp, all0, all1, e_ok1, eff, effBin, effBinN, ld_ptr, ld_pp, ld_elt, ia_own, ia_arr, el_1, el_N, load1K, faddrE, r_iaddr, sg_S, sg_c, sg_n, purL, pur, List.map, List.drop, List.take, List.length, List.foldl, List.append_eq, List.nil_append, List.cons_append, List.getD_cons_zero, List.getD_cons_succ, reduceIte, Nat.reduceEqDiff, Nat.reduceAdd, Nat.reduceLeDiff, true_and, and_true, Bool.not_true, Bool.not_false, Bool.and_true, Bool.true_and, Bool.and_self, reduceCtorEq, true_implies, false_implies, implies_true, decide_eq_true_eq, Option.map_some, fpOf, fpX, SOp.xs, oX, refs, refsL, dom, disj, List.all_nil, List.all_cons, List.contains_cons, List.contains_nil, Nat.reduceBEq, Bool.or_false, Bool.false_or, List.append_nil, Bool.not_false, Bool.not_true, List.forall_mem_cons, fm0, List.set, Nat.reduceLT, ne_eq, not_false_eq_true, not_true_eq_false
, ret1, ret1N, keep0, keep1, rf_int, rf_bool, rf_str, rf_sl, rf_agg, rf_tup, rfL0, rfL1, re_t, re_cN, re_L0, re_L1, ret_tup, ret_one, decide_true, AV.bool.injEq, AV.int.injEq, Nat.reduceLeDiff, Bool.true_eq, Bool.false_eq, decide_eq_true_eq, decide_eq_false_iff_not, t_iFit, t_fit, Span2.row, Stp7.row, take_all, snoc_b, List.length_map, irow, un_stp, path_eta, rowsOf, appE, ghost, flatOk, noref, Int.toNat_natCast, Nat.zero_add, Nat.sub_zero]
  refine ⟨fun h1 => ?_, fun h1 => by rw [Path5.tube, if_neg h1]; rfl⟩
  refine loop_of (F_tube p t) (fun k => k ≤ p.l.length) (fun k => p.l.length - k) 0 ⟨⟨.inr rfl, .inr rfl, .inr rfl, .inr rfl, .inr rfl, trivial⟩, ⟨rfl, trivial⟩, rfl, rfl⟩ (Nat.zero_le _) ?_
  intro k hk
  have htk : List.take k (((List.range k).map p.cell).map Box6.row) = ((List.range k).map p.cell).map Box6.row := List.take_of_length_le (by simp)
  obtain ⟨e1, e2⟩ := fitS_fit h1
  unfold lO_impl_FlyTube_0 F_tube
  simp only [w_skip, w_rg, w_rgd, w_seq, w_cond, w_block, w_loop, w_exit, w_ret, w_gh, w_rg0, w_rg1, w_rgT, w_rgF, w_run, w_psd, w_und, w_dr0, w_dr1, w_drT, w_drF, w_drRun, w_drPsd, w_drUnd, w_drKn, w_drKs, w_putK, w_trimK, w_thenN, w_thenE, w_thenR, w_scope, w_label, w_blkN, w_blkE, w_blkR, w_call, w_effK, brU_true, brU_false, brU_u, brU_not, brU_and, brU_or, brU_dec, brU_eq, brU_ne, br_true, br_false, br_not, br_and, br_or, br_dec, br_eq, br_ne, w_getE0, w_getE1, w_setE0, w_setE1, w_dropE0, w_dropE1, w_drop0, w_drop1, w_getM0, w_getM1, w_setM0, w_setM1, ev_v, ev_c, w_putS, w_putN, w_lit, w_apU0, w_apU1, w_apU2, w_trim, enumE0, enumE1, w_callWp, w_callA0, w_callA1, w_R0, w_R1, w_R2, w_T2, w_callL, w_callT, w_T1, w_T0, o_mv, o_newnil, o_pick, o_bin, o_binN, o_neg, o_not, o_eqB, o_eqS, o_conv, o_alloc, o_box, o_load1, o_loadN, o_store, o_nilck, o_faddr, o_field1, o_fieldN, o_iaddr, o_istr, o_slStr, o_slSl, o_lenS, o_lenL, o_mx, o_mn, o_ext, o_build, o_lit, o_litOwn, o_app, o_mk, o_mvfrz, l_int, l_bool, l_str, l_agg, l_sl, l_own, l_ptr, l_pp, i_int, i_bool, i_str, i_sl, i_own, i_ptr, i_pp, all0, all1, e_ok1, eff, effBin, effBinN, ld_ptr, ld_pp, ld_elt, ia_own, ia_arr, el_1, el_N, load1K, faddrE, r_iaddr, sg_S, sg_c, sg_n, purL, pur, List.map, List.drop, List.take, List.length, List.foldl, List.append_eq, List.nil_append, List.cons_append, List.getD_cons_zero, List.getD_cons_succ, reduceIte, Nat.reduceEqDiff, Nat.reduceAdd, Nat.reduceLeDiff, true_and, and_true, Bool.not_true, Bool.not_false, Bool.and_true, Bool.true_and, Bool.and_self, reduceCtorEq, true_implies, false_implies, implies_true, decide_eq_true_eq, Option.map_some, fpOf, fpX, SOp.xs, oX, refs, refsL, dom, disj, List.all_nil, List.all_cons, List.contains_cons, List.contains_nil, Nat.reduceBEq, Bool.or_false, Bool.false_or, List.append_nil, Bool.not_false, Bool.not_true, List.forall_mem_cons, fm0, List.set, Nat.reduceLT, ne_eq, not_false_eq_true, not_true_eq_false
, ret1, ret1N, keep0, keep1, rf_int, rf_bool, rf_str, rf_sl, rf_agg, rf_tup, rfL0, rfL1, re_t, re_cN, re_L0, re_L1, ret_tup, ret_one, decide_true, AV.bool.injEq, AV.int.injEq, Nat.reduceLeDiff, Bool.true_eq, Bool.false_eq, decide_eq_true_eq, decide_eq_false_iff_not, t_iFit, t_fit, Span2.row, Stp7.row, take_all, snoc_b, List.length_map, irow, un_stp, path_eta, rowsOf, appE, ghost, flatOk, noref, Int.toNat_natCast, Nat.zero_add, Nat.sub_zero]
  simp only [htk, snoc_b]
  refine ⟨fun h => ?_, fun h => ?_⟩
  · have hc : ((k : Int) + 1).toNat = k + 1 := by omega
    have hv := fitS_val h1 (k := k + 1) (by omega)
    have g2 := e2 (k + 1) (by omega)
    have ex : (List.range k).map p.cell ++ [(⟨(p.l.getD k default).x, (p.l.getD k default).y, (p.l.getD k default).l, (p.l.getD k default).h, (p.fitS.getD k default).lo, (p.fitS.getD (k + 1) default).hi - 1⟩ : Box6)] = (List.range (k + 1)).map p.cell := by
      rw [List.range_succ, List.map_append]; rfl
    rw [← g2] at hv
    simp only [hc, ex]
    exact ⟨by omega, by omega, by omega, by omega, by omega, by omega, by omega, by omega, by omega, by omega, loopK_of (k + 1) ⟨⟨.inr rfl, .inr rfl, .inr rfl, .inr rfl, .inr rfl, trivial⟩, ⟨rfl, trivial⟩, rfl, rfl⟩ (by omega) (by omega)⟩
  · have e : k = p.l.length := by omega
    subst e
    rw [Path5.tube, if_pos h1]
def whereR (f : List Int) (t : Int) : Option Nat := (List.range (f.length - 1)).find? fun k => decide (f.getD k default ≤ t ∧ t < f.getD (k + 1) default)
theorem where_some {f : List Int} {t : Int} {k : Nat} (hk : k + 1 < f.length) (h1 : f.getD k default ≤ t) (h2 : t < f.getD (k + 1) default) (h3 : ∀ j, j < k → ¬ (f.getD j default ≤ t ∧ t < f.getD (j + 1) default)) : whereR f t = some k := by
  unfold whereR
  rw [List.find?_range_eq_some]
  exact ⟨decide_eq_true ⟨h1, h2⟩, by simp; omega, fun j hj => by simp only [Bool.not_eq_true', decide_eq_false_iff_not]; exact h3 j hj⟩
theorem where_none {f : List Int} {t : Int} (h3 : ∀ j, j < f.length - 1 → ¬ (f.getD j default ≤ t ∧ t < f.getD (j + 1) default)) : whereR f t = none := by
  unfold whereR
  rw [List.find?_range_eq_none]
  exact fun j hj => by simp only [Bool.not_eq_true', decide_eq_false_iff_not]; exact h3 j hj
def F_where (t : Nat) (f : List Int) (x : Int) (k : Nat) : St := ⟨[(0, .sl t 1 (f.map irow)), (1, .int .i64 x), (6, .int .i64 k)], []⟩
theorem c_where (t : Nat) (f : List Int) (x : Int) (hn : f.length ≤ 1048576) : Contract P 34 [.sl t 1 (f.map irow), .int .i64 x] [] (.tup [.int .i64 ((whereR f x).getD 0 : Nat), .bool (decide ((whereR f x).isSome = true))]) [] := by
  refine fn_sound (Env.nil P) hm k_impl_FlyWhere (Nat.le_of_ble_eq_true rfl) rfl ?_
  unfold s_impl_FlyWhere
  simp only [w_skip, w_rg, w_rgd, w_seq, w_cond, w_block, w_loop, w_exit, w_ret, w_gh, w_rg0, w_rg1, w_rgT, w_rgF, w_run, w_psd, w_und, w_dr0, w_dr1, w_drT, w_drF, w_drRun, w_drPsd, w_drUnd, w_drKn, w_drKs, w_putK, w_trimK, w_thenN, w_thenE, w_thenR, w_scope, w_label, w_blkN, w_blkE, w_blkR, w_call, w_effK, brU_true, brU_false, brU_u, brU_not, brU_and, brU_or, brU_dec, brU_eq, brU_ne, br_true, br_false, br_not, br_and, br_or, br_dec, br_eq, br_ne, w_getE0, w_getE1, w_setE0, w_setE1, w_dropE0, w_dropE1, w_drop0, w_drop1, w_getM0, w_getM1, w_setM0, w_setM1, ev_v, ev_c, w_putS, w_putN, w_lit, w_apU0, w_apU1, w_apU2, w_trim, enumE0, enumE1, w_callWp, w_callA0, w_callA1, w_R0, w_R1, w_R2, w_T2, w_callL, w_callT, w_T1, w_T0, o_mv, o_newnil, o_pick, o_bin, o_binN, o_neg, o_not, o_eqB, o_eqS, o_conv, o_alloc, o_box, o_load1, o_loadN, o_store, o_nilck, o_faddr, o_field1, o_fieldN, o_iaddr, o_istr, o_slStr, o_slSl, o_lenS, o_lenL, o_mx, o_mn, o_ext, o_build, o_lit, o_litOwn, o_app, o_mk, o_mvfrz, l_int, l_bool, l_str, l_agg, l_sl, l_own, l_ptr, l_pp, i_int, i_bool, i_str, i_sl, i_own, i_ptr, i_pp, all0, all1, e_ok1, eff, effBin, effBinN, ld_ptr, ld_pp, ld_elt, ia_own, ia_arr, el_1, el_N, load1K, faddrE, r_iaddr, sg_S, sg_c, sg_n, purL, pur, List.map, List.drop, List.take, List.length, List.foldl, List.append_eq, List.nil_append, List.cons_append, List.getD_cons_zero, List.getD_cons_succ, reduceIte, Nat.reduceEqDiff, Nat.reduceAdd, Nat.reduceLeDiff, true_and, and_true, Bool.not_true, Bool.not_false, Bool.and_true, Bool.true_and, Bool.and_self, reduceCtorEq, true_implies, false_implies, implies_true, decide_eq_true_eq, Option.map_some, fpOf, fpX, SOp.xs, oX, refs, refsL, dom, disj, List.all_nil, List.all_cons, List.contains_cons, List.contains_nil, Nat.reduceBEq, Bool.or_false, Bool.false_or, List.append_nil, Bool.not_false, Bool.not_true, List.forall_mem_cons, fm0, List.set, Nat.reduceLT, ne_eq, not_false_eq_true, not_true_eq_false
, ret1, ret1N, keep0, keep1, rf_int, rf_bool, rf_str, rf_sl, rf_agg, rf_tup, rfL0, rfL1, re_t, re_cN, re_L0, re_L1, ret_tup, ret_one, decide_true, AV.bool.injEq, AV.int.injEq, Nat.reduceLeDiff, Bool.true_eq, Bool.false_eq, decide_eq_true_eq, decide_eq_false_iff_not, eq_self, irow, List.length_map, Int.toNat_natCast]
  refine loop_of (F_where t f x) (fun k => k ≤ f.length - 1 ∧ ∀ j, j < k → ¬ (f.getD j default ≤ x ∧ x < f.getD (j + 1) default)) (fun k => f.length - k) 0 ⟨⟨.inr rfl, .inr rfl, .inr rfl, trivial⟩, trivial, rfl, rfl⟩ ⟨Nat.zero_le _, fun j hj => by omega⟩ ?_
  intro k hk
  have hc : ((k : Int) + 1).toNat = k + 1 := by omega
  unfold l_impl_FlyWhere_0 F_where
  simp only [w_skip, w_rg, w_rgd, w_seq, w_cond, w_block, w_loop, w_exit, w_ret, w_gh, w_rg0, w_rg1, w_rgT, w_rgF, w_run, w_psd, w_und, w_dr0, w_dr1, w_drT, w_drF, w_drRun, w_drPsd, w_drUnd, w_drKn, w_drKs, w_putK, w_trimK, w_thenN, w_thenE, w_thenR, w_scope, w_label, w_blkN, w_blkE, w_blkR, w_call, w_effK, brU_true, brU_false, brU_u, brU_not, brU_and, brU_or, brU_dec, brU_eq, brU_ne, br_true, br_false, br_not, br_and, br_or, br_dec, br_eq, br_ne, w_getE0, w_getE1, w_setE0, w_setE1, w_dropE0, w_dropE1, w_drop0, w_drop1, w_getM0, w_getM1, w_setM0, w_setM1, ev_v, ev_c, w_putS, w_putN, w_lit, w_apU0, w_apU1, w_apU2, w_trim, enumE0, enumE1, w_callWp, w_callA0, w_callA1, w_R0, w_R1, w_R2, w_T2, w_callL, w_callT, w_T1, w_T0, o_mv, o_newnil, o_pick, o_bin, o_binN, o_neg, o_not, o_eqB, o_eqS, o_conv, o_alloc, o_box, o_load1, o_loadN, o_store, o_nilck, o_faddr, o_field1, o_fieldN, o_iaddr, o_istr, o_slStr, o_slSl, o_lenS, o_lenL, o_mx, o_mn, o_ext, o_build, o_lit, o_litOwn, o_app, o_mk, o_mvfrz, l_int, l_bool, l_str, l_agg, l_sl, l_own, l_ptr, l_pp, i_int, i_bool, i_str, i_sl, i_own, i_ptr, i_pp, all0, all1, e_ok1, eff, effBin, effBinN, ld_ptr, ld_pp, ld_elt, ia_own, ia_arr, el_1, el_N, load1K, faddrE, r_iaddr, sg_S, sg_c, sg_n, purL, pur, List.map, List.drop, List.take, List.length, List.foldl, List.append_eq, List.nil_append, List.cons_append, List.getD_cons_zero, List.getD_cons_succ, reduceIte, Nat.reduceEqDiff, Nat.reduceAdd, Nat.reduceLeDiff, true_and, and_true, Bool.not_true, Bool.not_false, Bool.and_true, Bool.true_and, Bool.and_self, reduceCtorEq, true_implies, false_implies, implies_true, decide_eq_true_eq, Option.map_some, fpOf, fpX, SOp.xs, oX, refs, refsL, dom, disj, List.all_nil, List.all_cons, List.contains_cons, List.contains_nil, Nat.reduceBEq, Bool.or_false, Bool.false_or, List.append_nil, Bool.not_false, Bool.not_true, List.forall_mem_cons, fm0, List.set, Nat.reduceLT, ne_eq, not_false_eq_true, not_true_eq_false
, ret1, ret1N, keep0, keep1, rf_int, rf_bool, rf_str, rf_sl, rf_agg, rf_tup, rfL0, rfL1, re_t, re_cN, re_L0, re_L1, ret_tup, ret_one, decide_true, AV.bool.injEq, AV.int.injEq, Nat.reduceLeDiff, Bool.true_eq, Bool.false_eq, decide_eq_true_eq, decide_eq_false_iff_not, eq_self, irow, List.length_map, Int.toNat_natCast]
  simp only [hc]
  have lp : ∀ (h : k + 1 < f.length) (h' : ¬ (f.getD k default ≤ x ∧ x < f.getD (k + 1) default)), k + 1 ≤ f.length - 1 ∧ ∀ j, j < k + 1 → ¬ (f.getD j default ≤ x ∧ x < f.getD (j + 1) default) := fun h h' => ⟨by omega, fun j hj => by
    by_cases e : j = k
    · rw [e]; exact h'
    · exact hk.2 j (by omega)⟩
  refine ⟨by omega, fun h1 => ⟨by omega, by omega, fun h2 => ⟨by omega, by omega, by omega, fun h3 => ?_, fun h3 => ⟨by omega, loopK_of (k + 1) ⟨⟨.inr rfl, .inr rfl, .inr rfl, trivial⟩, trivial, rfl, rfl⟩ (lp (by omega) fun h => h3 h.2) (by omega)⟩⟩, fun h2 => ⟨by omega, loopK_of (k + 1) ⟨⟨.inr rfl, .inr rfl, .inr rfl, trivial⟩, trivial, rfl, rfl⟩ (lp (by omega) fun h => h2 h.1) (by omega)⟩⟩, fun h1 => ?_⟩
  · have e : whereR f x = some k := where_some (by omega) h2 h3 hk.2
    rw [e]; exact ⟨rfl, rfl⟩
  · have e : whereR f x = none := where_none fun j hj => hk.2 j (by have := hk.1; omega)
    rw [e]; exact ⟨rfl, by simp⟩
def Box6.has (b : Box6) (x y l t : Int) : Prop := (b.x = x ∧ b.y = y ∧ b.l ≤ l ∧ l ≤ b.h) ∧ b.i ≤ t ∧ t ≤ b.o
instance (b : Box6) (x y l t : Int) : Decidable (b.has x y l t) := by unfold Box6.has; infer_instance
def someHas (tb : List Box6) (x y l t : Int) : Prop := ∃ k, k < tb.length ∧ (tb.getD k default).has x y l t
instance (tb : List Box6) (x y l t : Int) : Decidable (someHas tb x y l t) := decidable_of_iff (∃ k : Fin tb.length, (tb.getD k default).has x y l t) ⟨fun ⟨k, h⟩ => ⟨k.1, k.2, h⟩, fun ⟨k, h, h'⟩ => ⟨⟨k, h⟩, h'⟩⟩
def F_within (t : Nat) (tb : List Box6) (x y l u : Int) (k : Nat) : St := ⟨[(1, .int .i64 x), (2, .int .i64 y), (3, .int .i64 l), (4, .int .i64 u), (13, .sl t 6 (tb.map Box6.row)), (14, .int .i64 tb.length), (15, .int .i64 k)], []⟩
theorem c_fwithin (t : Nat) (tb : List Box6) (x y l u : Int) (hn : tb.length ≤ 4611686018427387904) : Contract P 35 [.sl t 6 (tb.map Box6.row), .int .i64 x, .int .i64 y, .int .i64 l, .int .i64 u] [] (.bool (decide (someHas tb x y l u))) [] := by
  refine fn_sound (Env.nil P) hm k_impl_FlyWithin (Nat.le_of_ble_eq_true rfl) rfl ?_
  unfold s_impl_FlyWithin
  simp only [w_skip, w_rg, w_rgd, w_seq, w_cond, w_block, w_loop, w_exit, w_ret, w_gh, w_rg0, w_rg1, w_rgT, w_rgF, w_run, w_psd, w_und, w_dr0, w_dr1, w_drT, w_drF, w_drRun, w_drPsd, w_drUnd, w_drKn, w_drKs, w_putK, w_trimK, w_thenN, w_thenE, w_thenR, w_scope, w_label, w_blkN, w_blkE, w_blkR, w_call, w_effK, brU_true, brU_false, brU_u, brU_not, brU_and, brU_or, brU_dec, brU_eq, brU_ne, br_true, br_false, br_not, br_and, br_or, br_dec, br_eq, br_ne, w_getE0, w_getE1, w_setE0, w_setE1, w_dropE0, w_dropE1, w_drop0, w_drop1, w_getM0, w_getM1, w_setM0, w_setM1, ev_v, ev_c, w_putS, w_putN, w_lit, w_apU0, w_apU1, w_apU2, w_trim, enumE0, enumE1, w_callWp, w_callA0, w_callA1, w_R0, w_R1, w_R2, w_T2, w_callL, w_callT, w_T1, w_T0, o_mv, o_newnil, o_pick, o_bin, o_binN, o_neg, o_not, o_eqB, o_eqS, o_conv, o_alloc, o_box, o_load1, o_loadN, o_store, o_nilck, o_faddr, o_field1, o_fieldN, o_iaddr, o_istr, o_slStr, o_slSl, o_lenS, o_lenL, o_mx, o_mn, o_ext, o_build, o_lit, o_litOwn, o_app, o_mk, o_mvfrz, l_int, l_bool, l_str, l_agg, l_sl, l_own, l_ptr, l_pp, i_int, i_bool, i_str, i_sl, i_own, i_ptr, i_pp, all0, all1, e_ok1, eff, effBin, effBinN, ld_ptr, ld_pp, ld_elt, ia_own, ia_arr, el_1, el_N, load1K, faddrE, r_iaddr, sg_S, sg_c, sg_n, purL, pur, List.map, List.drop, List.take, List.length, List.foldl, List.append_eq, List.nil_append, List.cons_append, List.getD_cons_zero, List.getD_cons_succ, reduceIte, Nat.reduceEqDiff, Nat.reduceAdd, Nat.reduceLeDiff, true_and, and_true, Bool.not_true, Bool.not_false, Bool.and_true, Bool.true_and, Bool.and_self, reduceCtorEq, true_implies, false_implies, implies_true, decide_eq_true_eq, Option.map_some, fpOf, fpX, SOp.xs, oX, refs, refsL, dom, disj, List.all_nil, List.all_cons, List.contains_cons, List.contains_nil, Nat.reduceBEq, Bool.or_false, Bool.false_or, List.append_nil, Bool.not_false, Bool.not_true, List.forall_mem_cons, fm0, List.set, Nat.reduceLT, ne_eq, not_false_eq_true, not_true_eq_false
, ret1, ret1N, keep0, keep1, rf_int, rf_bool, rf_str, rf_sl, rf_agg, rf_tup, rfL0, rfL1, re_t, re_cN, re_L0, re_L1, ret_tup, ret_one, decide_true, AV.bool.injEq, AV.int.injEq, Nat.reduceLeDiff, Bool.true_eq, Bool.false_eq, decide_eq_true_eq, decide_eq_false_iff_not, eq_self, Box6.row, List.length_map, Int.toNat_natCast]
  refine loop_of (F_within t tb x y l u) (fun k => k ≤ tb.length ∧ ∀ j, j < k → ¬ (tb.getD j default).has x y l u) (fun k => tb.length - k) 0 ⟨⟨.inr rfl, .inr rfl, .inr rfl, .inr rfl, .inr rfl, .inr rfl, .inr rfl, trivial⟩, trivial, rfl, rfl⟩ ⟨Nat.zero_le _, fun j hj => by omega⟩ ?_
  intro k hk
  unfold l_impl_FlyWithin_0 F_within
  simp only [w_skip, w_rg, w_rgd, w_seq, w_cond, w_block, w_loop, w_exit, w_ret, w_gh, w_rg0, w_rg1, w_rgT, w_rgF, w_run, w_psd, w_und, w_dr0, w_dr1, w_drT, w_drF, w_drRun, w_drPsd, w_drUnd, w_drKn, w_drKs, w_putK, w_trimK, w_thenN, w_thenE, w_thenR, w_scope, w_label, w_blkN, w_blkE, w_blkR, w_call, w_effK, brU_true, brU_false, brU_u, brU_not, brU_and, brU_or, brU_dec, brU_eq, brU_ne, br_true, br_false, br_not, br_and, br_or, br_dec, br_eq, br_ne, w_getE0, w_getE1, w_setE0, w_setE1, w_dropE0, w_dropE1, w_drop0, w_drop1, w_getM0, w_getM1, w_setM0, w_setM1, ev_v, ev_c, w_putS, w_putN, w_lit, w_apU0, w_apU1, w_apU2, w_trim, enumE0, enumE1, w_callWp, w_callA0, w_callA1, w_R0, w_R1, w_R2, w_T2, w_callL, w_callT, w_T1, w_T0, o_mv, o_newnil, o_pick, o_bin, o_binN, o_neg, o_not, o_eqB, o_eqS, o_conv, o_alloc, o_box, o_load1, o_loadN, o_store, o_nilck, o_faddr, o_field1, o_fieldN, o_iaddr, o_istr, o_slStr, o_slSl, o_lenS, o_lenL, o_mx, o_mn, o_ext, o_build, o_lit, o_litOwn, o_app, o_mk, o_mvfrz, l_int, l_bool, l_str, l_agg, l_sl, l_own, l_ptr, l_pp, i_int, i_bool, i_str, i_sl, i_own, i_ptr, i_pp, all0, all1, e_ok1, eff, effBin, effBinN, ld_ptr, ld_pp, ld_elt, ia_own, ia_arr, el_1, el_N, load1K, faddrE, r_iaddr, sg_S, sg_c, sg_n, purL, pur, List.map, List.drop, List.take, List.length, List.foldl, List.append_eq, List.nil_append, List.cons_append, List.getD_cons_zero, List.getD_cons_succ, reduceIte, Nat.reduceEqDiff, Nat.reduceAdd, Nat.reduceLeDiff, true_and, and_true, Bool.not_true, Bool.not_false, Bool.and_true, Bool.true_and, Bool.and_self, reduceCtorEq, true_implies, false_implies, implies_true, decide_eq_true_eq, Option.map_some, fpOf, fpX, SOp.xs, oX, refs, refsL, dom, disj, List.all_nil, List.all_cons, List.contains_cons, List.contains_nil, Nat.reduceBEq, Bool.or_false, Bool.false_or, List.append_nil, Bool.not_false, Bool.not_true, List.forall_mem_cons, fm0, List.set, Nat.reduceLT, ne_eq, not_false_eq_true, not_true_eq_false
, ret1, ret1N, keep0, keep1, rf_int, rf_bool, rf_str, rf_sl, rf_agg, rf_tup, rfL0, rfL1, re_t, re_cN, re_L0, re_L1, ret_tup, ret_one, decide_true, AV.bool.injEq, AV.int.injEq, Nat.reduceLeDiff, Bool.true_eq, Bool.false_eq, decide_eq_true_eq, decide_eq_false_iff_not, eq_self, Box6.row, List.length_map, Int.toNat_natCast]
  have lp : k < tb.length → ¬ (tb.getD k default).has x y l u → k + 1 ≤ tb.length ∧ ∀ j, j < k + 1 → ¬ (tb.getD j default).has x y l u := fun h h' => ⟨by omega, fun j hj => by
    by_cases e : j = k
    · rw [e]; exact h'
    · exact hk.2 j (by omega)⟩
  exact ⟨fun h0 => ⟨by omega, by omega, ⟨fun a1 => ⟨fun a2 => ⟨fun a3 => ⟨fun a4 => ⟨fun a5 => ⟨fun a6 => ⟨k, by omega, ⟨a1, a2, a3, a4⟩, a5, a6⟩, fun a6 => ⟨by omega, loopK_of (k + 1) ⟨⟨.inr rfl, .inr rfl, .inr rfl, .inr rfl, .inr rfl, .inr rfl, .inr rfl, trivial⟩, trivial, rfl, rfl⟩ (lp (by omega) fun h => a6 h.2.2) (by omega)⟩⟩, fun a5 => ⟨by omega, loopK_of (k + 1) ⟨⟨.inr rfl, .inr rfl, .inr rfl, .inr rfl, .inr rfl, .inr rfl, .inr rfl, trivial⟩, trivial, rfl, rfl⟩ (lp (by omega) fun h => a5 h.2.1) (by omega)⟩⟩, fun a4 => ⟨by omega, loopK_of (k + 1) ⟨⟨.inr rfl, .inr rfl, .inr rfl, .inr rfl, .inr rfl, .inr rfl, .inr rfl, trivial⟩, trivial, rfl, rfl⟩ (lp (by omega) fun h => a4 h.1.2.2.2) (by omega)⟩⟩, fun a3 => ⟨by omega, loopK_of (k + 1) ⟨⟨.inr rfl, .inr rfl, .inr rfl, .inr rfl, .inr rfl, .inr rfl, .inr rfl, trivial⟩, trivial, rfl, rfl⟩ (lp (by omega) fun h => a3 h.1.2.2.1) (by omega)⟩⟩, fun a2 => ⟨by omega, loopK_of (k + 1) ⟨⟨.inr rfl, .inr rfl, .inr rfl, .inr rfl, .inr rfl, .inr rfl, .inr rfl, trivial⟩, trivial, rfl, rfl⟩ (lp (by omega) fun h => a2 h.1.2.1) (by omega)⟩⟩, fun a1 => ⟨by omega, loopK_of (k + 1) ⟨⟨.inr rfl, .inr rfl, .inr rfl, .inr rfl, .inr rfl, .inr rfl, .inr rfl, trivial⟩, trivial, rfl, rfl⟩ (lp (by omega) fun h => a1 h.1.1) (by omega)⟩⟩⟩, fun h0 ⟨j, hj, hh⟩ => hk.2 j (by omega) hh⟩
def F_wfi (t t' : Nat) (a b : List Int) (i : Nat) : St := ⟨[(0, .sl t 1 (a.map irow)), (1, .sl t' 1 (b.map irow)), (5, .int .i64 i)], []⟩

theorem c_wfInts (t t' : Nat) (a b : List Int) (ha : a.length ≤ 4611686018427387904) : Contract P 30 [.sl t 1 (a.map irow), .sl t' 1 (b.map irow)] [] (.bool (decide (a = b))) [] := by
  refine fn_sound (Env.nil P) hm k_laws_wfInts (Nat.le_of_ble_eq_true rfl) rfl ?_
  unfold s_laws_wfInts
  simp only [w_skip, w_rg, w_rgd, w_seq, w_cond, w_block, w_loop, w_exit, w_ret, w_gh, w_rg0, w_rg1, w_rgT, w_rgF, w_run, w_psd, w_und, w_dr0, w_dr1, w_drT, w_drF, w_drRun, w_drPsd, w_drUnd, w_drKn, w_drKs, w_putK, w_trimK, w_thenN, w_thenE, w_thenR, w_scope, w_label, w_blkN, w_blkE, w_blkR, w_call, w_effK, brU_true, brU_false, brU_u, brU_not, brU_and, brU_or, brU_dec, brU_eq, brU_ne, br_true, br_false, br_not, br_and, br_or, br_dec, br_eq, br_ne, w_getE0, w_getE1, w_setE0, w_setE1, w_dropE0, w_dropE1, w_drop0, w_drop1, w_getM0, w_getM1, w_setM0, w_setM1, ev_v, ev_c, w_putS, w_putN, w_lit, w_apU0, w_apU1, w_apU2, w_trim, enumE0, enumE1, w_callWp, w_callA0, w_callA1, w_R0, w_R1, w_R2, w_T2, w_callL, w_callT, w_T1, w_T0, o_mv, o_newnil, o_pick, o_bin, o_binN, o_neg, o_not, o_eqB, o_eqS, o_conv, o_alloc, o_box, o_load1, o_loadN, o_store, o_nilck, o_faddr, o_field1, o_fieldN, o_iaddr, o_istr, o_slStr, o_slSl, o_lenS, o_lenL, o_mx, o_mn, o_ext, o_build, o_lit, o_litOwn, o_app, o_mk, o_mvfrz, l_int, l_bool, l_str, l_agg, l_sl, l_own, l_ptr, l_pp, i_int, i_bool, i_str, i_sl, i_own, i_ptr, i_pp, all0, all1, e_ok1, eff, effBin, effBinN, ld_ptr, ld_pp, ld_elt, ia_own, ia_arr, el_1, el_N, load1K, faddrE, r_iaddr, sg_S, sg_c, sg_n, purL, pur, List.map, List.drop, List.take, List.length, List.foldl, List.append_eq, List.nil_append, List.cons_append, List.getD_cons_zero, List.getD_cons_succ, reduceIte, Nat.reduceEqDiff, Nat.reduceAdd, Nat.reduceLeDiff, true_and, and_true, Bool.not_true, Bool.not_false, Bool.and_true, Bool.true_and, Bool.and_self, reduceCtorEq, true_implies, false_implies, implies_true, decide_eq_true_eq, Option.map_some, fpOf, fpX, SOp.xs, oX, refs, refsL, dom, disj, List.all_nil, List.all_cons, List.contains_cons, List.contains_nil, Nat.reduceBEq, Bool.or_false, Bool.false_or, List.append_nil, Bool.not_false, Bool.not_true, List.forall_mem_cons, fm0, List.set, Nat.reduceLT, ne_eq, not_false_eq_true, not_true_eq_false
, ret1, ret1N, keep0, keep1, rf_int, rf_bool, rf_str, rf_sl, rf_agg, rf_tup, rfL0, rfL1, re_t, re_cN, re_L0, re_L1, ret_tup, ret_one, decide_true, AV.bool.injEq, AV.int.injEq, Nat.reduceLeDiff, Bool.true_eq, Bool.false_eq, decide_eq_true_eq, decide_eq_false_iff_not, eq_self, irow, List.length_map, Int.toNat_natCast, Int.natCast_inj]
  refine ⟨fun h1 h => h1 (by rw [h]), fun h1 => ?_⟩
  refine loop_of (F_wfi t t' a b) (fun i => i ≤ a.length ∧ ∀ j, j < i → a.getD j default = b.getD j default) (fun i => a.length - i) 0 ⟨⟨.inr rfl, .inr rfl, .inr rfl, trivial⟩, trivial, rfl, rfl⟩ ⟨Nat.zero_le _, fun j hj => by omega⟩ ?_
  intro i hi
  unfold l_laws_wfInts_0 F_wfi
  simp only [w_skip, w_rg, w_rgd, w_seq, w_cond, w_block, w_loop, w_exit, w_ret, w_gh, w_rg0, w_rg1, w_rgT, w_rgF, w_run, w_psd, w_und, w_dr0, w_dr1, w_drT, w_drF, w_drRun, w_drPsd, w_drUnd, w_drKn, w_drKs, w_putK, w_trimK, w_thenN, w_thenE, w_thenR, w_scope, w_label, w_blkN, w_blkE, w_blkR, w_call, w_effK, brU_true, brU_false, brU_u, brU_not, brU_and, brU_or, brU_dec, brU_eq, brU_ne, br_true, br_false, br_not, br_and, br_or, br_dec, br_eq, br_ne, w_getE0, w_getE1, w_setE0, w_setE1, w_dropE0, w_dropE1, w_drop0, w_drop1, w_getM0, w_getM1, w_setM0, w_setM1, ev_v, ev_c, w_putS, w_putN, w_lit, w_apU0, w_apU1, w_apU2, w_trim, enumE0, enumE1, w_callWp, w_callA0, w_callA1, w_R0, w_R1, w_R2, w_T2, w_callL, w_callT, w_T1, w_T0, o_mv, o_newnil, o_pick, o_bin, o_binN, o_neg, o_not, o_eqB, o_eqS, o_conv, o_alloc, o_box, o_load1, o_loadN, o_store, o_nilck, o_faddr, o_field1, o_fieldN, o_iaddr, o_istr, o_slStr, o_slSl, o_lenS, o_lenL, o_mx, o_mn, o_ext, o_build, o_lit, o_litOwn, o_app, o_mk, o_mvfrz, l_int, l_bool, l_str, l_agg, l_sl, l_own, l_ptr, l_pp, i_int, i_bool, i_str, i_sl, i_own, i_ptr, i_pp, all0, all1, e_ok1, eff, effBin, effBinN, ld_ptr, ld_pp, ld_elt, ia_own, ia_arr, el_1, el_N, load1K, faddrE, r_iaddr, sg_S, sg_c, sg_n, purL, pur, List.map, List.drop, List.take, List.length, List.foldl, List.append_eq, List.nil_append, List.cons_append, List.getD_cons_zero, List.getD_cons_succ, reduceIte, Nat.reduceEqDiff, Nat.reduceAdd, Nat.reduceLeDiff, true_and, and_true, Bool.not_true, Bool.not_false, Bool.and_true, Bool.true_and, Bool.and_self, reduceCtorEq, true_implies, false_implies, implies_true, decide_eq_true_eq, Option.map_some, fpOf, fpX, SOp.xs, oX, refs, refsL, dom, disj, List.all_nil, List.all_cons, List.contains_cons, List.contains_nil, Nat.reduceBEq, Bool.or_false, Bool.false_or, List.append_nil, Bool.not_false, Bool.not_true, List.forall_mem_cons, fm0, List.set, Nat.reduceLT, ne_eq, not_false_eq_true, not_true_eq_false
, ret1, ret1N, keep0, keep1, rf_int, rf_bool, rf_str, rf_sl, rf_agg, rf_tup, rfL0, rfL1, re_t, re_cN, re_L0, re_L1, ret_tup, ret_one, decide_true, AV.bool.injEq, AV.int.injEq, Nat.reduceLeDiff, Bool.true_eq, Bool.false_eq, decide_eq_true_eq, decide_eq_false_iff_not, eq_self, irow, List.length_map, Int.toNat_natCast, Int.natCast_inj]
  refine ⟨fun h2 => ⟨by omega, by omega, by omega, by omega, fun h3 h => h3 (by rw [h]), fun h3 => ⟨by omega, loopK_of (i + 1) ⟨⟨.inr rfl, .inr rfl, .inr rfl, trivial⟩, trivial, rfl, rfl⟩ ⟨by omega, fun j hj => ?_⟩ (by omega)⟩⟩, fun h2 => ext_of h1 fun j hj => hi.2 j (by have := hi.1; omega)⟩
  by_cases e : j = i
  · subst e; exact h3
  · exact hi.2 j (by omega)
/-- What is left, as one sees it who doesn't know when the step was entered. -/
def Path5.seenAt (p : Path5) (k now : Int) : Path5 := p.rest k.toNat (p.span k.toNat).lo (min (p.span k.toNat).hi now) now
def Path5.sees (p : Path5) (k now : Int) : Prop := (p.fit ∧ (0 ≤ k ∧ k < p.l.length) ∧ 0 ≤ now ∧ now ≤ 10000) ∧ (p.seenAt k now).fit
instance (p : Path5) (k now : Int) : Decidable (p.sees k now) := by unfold Path5.sees; infer_instance
def Path5.seenR (p : Path5) (k now : Int) : Path5 := if p.sees k now then p.seenAt k now else ⟨0, 0, [], 0, 0⟩
theorem c_iSeen (p : Path5) (t : Nat) (k now : Int) : Contract P 37 [.agg [.int .i64 p.q, .int .i64 p.s, .sl t 7 (p.l.map Stp7.row), .int .i64 p.f, .int .i64 p.b], .int .i64 k, .int .i64 now] [] (.tup [(p.seenR k now).av, .bool (decide (p.sees k now))]) [] := by
  refine fn_sound (((Env.nil P).add 10 t_iFit h_iFit).add 91 t_rest h_rest) Go.Ve.hm k_impl_FlySeen (Nat.le_of_ble_eq_true rfl) rfl ?_
  unfold s_impl_FlySeen
  simp only [w_skip, w_rg, w_rgd, w_seq, w_cond, w_block, w_loop, w_exit, w_ret, w_gh, w_rg0, w_rg1, w_rgT, w_rgF, w_run, w_psd, w_und, w_dr0, w_dr1, w_drT, w_drF, w_drRun, w_drPsd, w_drUnd, w_drKn, w_drKs, w_putK, w_trimK, w_thenN, w_thenE, w_thenR, w_scope, w_label, w_blkN, w_blkE, w_blkR, w_call, w_effK, brU_true, brU_false, brU_u, brU_not, brU_and, brU_or, brU_dec, brU_eq, brU_ne, br_true, br_false, br_not, br_and, br_or, br_dec, br_eq, br_ne, w_getE0, w_getE1, w_setE0, w_setE1, w_dropE0, w_dropE1, w_drop0, w_drop1, w_getM0, w_getM1, w_setM0, w_setM1, ev_v, ev_c, w_putS, w_putN, w_lit, w_apU0, w_apU1, w_apU2, w_trim, enumE0, enumE1, w_callWp, w_callA0, w_callA1, w_R0, w_R1, w_R2, w_T2, w_callL, w_callT, w_T1, w_T0, o_mv, o_newnil, o_pick, o_bin, o_binN, o_neg, o_not, o_eqB, o_eqS, o_conv, o_alloc, o_box, o_load1, o_loadN, o_store, o_nilck, o_faddr, o_field1, o_fieldN, o_iaddr, o_istr, o_slStr, o_slSl, o_lenS, o_lenL, o_mx, o_mn, o_ext, o_build, o_lit, o_litOwn, o_app, o_mk, o_mvfrz, l_int, l_bool, l_str, l_agg, l_sl, l_own, l_ptr, l_pp, i_int, i_bool, i_str, i_sl, i_own, i_ptr, i_pp, all0, all1, e_ok1, eff, effBin, effBinN, ld_ptr, ld_pp, ld_elt, ia_own, ia_arr, el_1, el_N, load1K, faddrE, r_iaddr, sg_S, sg_c, sg_n, purL, pur, List.map, List.drop, List.take, List.length, List.foldl, List.append_eq, List.nil_append, List.cons_append, List.getD_cons_zero, List.getD_cons_succ, reduceIte, Nat.reduceEqDiff, Nat.reduceAdd, Nat.reduceLeDiff, true_and, and_true, Bool.not_true, Bool.not_false, Bool.and_true, Bool.true_and, Bool.and_self, reduceCtorEq, true_implies, false_implies, implies_true, decide_eq_true_eq, Option.map_some, fpOf, fpX, SOp.xs, oX, refs, refsL, dom, disj, List.all_nil, List.all_cons, List.contains_cons, List.contains_nil, Nat.reduceBEq, Bool.or_false, Bool.false_or, List.append_nil, Bool.not_false, Bool.not_true, List.forall_mem_cons, fm0, List.set, Nat.reduceLT, ne_eq, not_false_eq_true, not_true_eq_false
, ret1, ret1N, keep0, keep1, rf_int, rf_bool, rf_str, rf_sl, rf_agg, rf_tup, rfL0, rfL1, re_t, re_cN, re_L0, re_L1, ret_tup, ret_one, decide_true, AV.bool.injEq, AV.int.injEq, Nat.reduceLeDiff, Bool.true_eq, Bool.false_eq, decide_eq_true_eq, decide_eq_false_iff_not, t_iFit, t_rest, t_fit, Span2.row, Stp7.row, take_all, List.length_map, irow, un_stp, path_eta, rowsOf, flatOk, noref, Int.toNat_natCast, Path5.av, ite_min, ite_max]
  have no : ¬ p.sees k now → AV.agg [AV.int IntKind.i64 (p.seenR k now).q, AV.int IntKind.i64 (p.seenR k now).s, AV.sl 0 7 (List.map Stp7.row (p.seenR k now).l), AV.int IntKind.i64 (p.seenR k now).f, AV.int IntKind.i64 (p.seenR k now).b] =
      AV.agg [AV.int IntKind.i64 0, AV.int IntKind.i64 0, AV.sl 0 7 [], AV.int IntKind.i64 0, AV.int IntKind.i64 0] ∧ ¬ p.sees k now := fun h => ⟨by rw [Path5.seenR, if_neg h]; rfl, h⟩
  refine ⟨fun h1 => ⟨fun h2 => no fun h => absurd h.1.2.1 (by omega), fun h2 => ⟨fun h3 => no fun h => absurd h.1.2.1 (by omega), fun h3 => ⟨fun h4 => no fun h => absurd h.1.2.2 (by omega), fun h4 => ⟨fun h5 => no fun h => absurd h.1.2.2 (by omega), fun h5 => ?_⟩⟩⟩⟩, fun h1 => no fun h => h1 h.1.1⟩
  obtain ⟨e1, e2⟩ := fitS_fit h1
  have hn := h1.1.2.1
  rw [e2 k.toNat (by omega)]
  have hs : (p.seenAt k now).fit ↔ p.sees k now := ⟨fun h => ⟨⟨h1, by omega, by omega⟩, h⟩, fun h => h.2⟩
  have hR : p.seenR k now = p.restF k.toNat (p.span k.toNat).lo (min (p.span k.toNat).hi now) now := by
    unfold Path5.seenR Path5.restF
    by_cases h : p.sees k now
    · rw [if_pos h, if_pos (show (p.rest k.toNat (p.span k.toNat).lo (min (p.span k.toNat).hi now) now).fit from h.2)]; rfl
    · rw [if_neg h, if_neg (show ¬ (p.rest k.toNat (p.span k.toNat).lo (min (p.span k.toNat).hi now) now).fit from fun h' => h (hs.1 h'))]
  exact ⟨by omega, by omega, by omega, by omega, ⟨⟨by omega, by omega⟩, by omega, by omega, by omega⟩, by rw [hR], decide_eq_decide.2 hs⟩
def Box6.inside (a b : Box6) : Prop := a.x = b.x ∧ a.y = b.y ∧ b.l ≤ a.l ∧ a.h ≤ b.h ∧ b.i ≤ a.i ∧ a.o ≤ b.o
instance (a b : Box6) : Decidable (a.inside b) := by unfold Box6.inside; infer_instance
def covered (b : List Box6) (x : Box6) : Prop := (x.l > x.h ∨ x.i > x.o) ∨ ∃ j, j < b.length ∧ x.inside (b.getD j default)
instance (b : List Box6) (x : Box6) : Decidable (covered b x) := by
  unfold covered
  have : Decidable (∃ j, j < b.length ∧ x.inside (b.getD j default)) := decidable_of_iff (∃ j : Fin b.length, x.inside (b.getD j default)) ⟨fun ⟨k, h⟩ => ⟨k.1, k.2, h⟩, fun ⟨k, h, h'⟩ => ⟨⟨k, h⟩, h'⟩⟩
  infer_instance
def smaller (a b : List Box6) : Prop := ∀ i, i < a.length → covered b (a.getD i default)
instance (a b : List Box6) : Decidable (smaller a b) := decidable_of_iff (∀ i : Fin a.length, covered b (a.getD i default)) ⟨fun h i hi => h ⟨i, hi⟩, fun h i => h i.1 i.2⟩
def F_sm1 (t t' : Nat) (a b : List Box6) (k : Nat) : St := ⟨[(1, .sl t' 6 (b.map Box6.row)), (9, .sl t 6 (a.map Box6.row)), (10, .int .i64 a.length), (11, .int .i64 k)], []⟩
def F_sm0 (t t' : Nat) (a b : List Box6) (k j : Nat) : St := ⟨[(1, .sl t' 6 (b.map Box6.row)), (6, .ptr 106 0), (9, .sl t 6 (a.map Box6.row)), (10, .int .i64 a.length), (11, .int .i64 k), (27, .sl t' 6 (b.map Box6.row)), (28, .int .i64 b.length), (29, .int .i64 j)], [(106, .box (a.getD k default).row)]⟩
theorem c_smaller (t t' : Nat) (a b : List Box6) (ha : a.length ≤ 4611686018427387904) (hb : b.length ≤ 4611686018427387904) : Contract P 38 [.sl t 6 (a.map Box6.row), .sl t' 6 (b.map Box6.row)] [] (.bool (decide (smaller a b))) [] := by
  refine fn_sound (Env.nil P) hm k_impl_FlySmaller (Nat.le_of_ble_eq_true rfl) rfl ?_
  unfold s_impl_FlySmaller
  simp only [w_skip, w_rg, w_rgd, w_seq, w_cond, w_block, w_loop, w_exit, w_ret, w_gh, w_rg0, w_rg1, w_rgT, w_rgF, w_run, w_psd, w_und, w_dr0, w_dr1, w_drT, w_drF, w_drRun, w_drPsd, w_drUnd, w_drKn, w_drKs, w_putK, w_trimK, w_thenN, w_thenE, w_thenR, w_scope, w_label, w_blkN, w_blkE, w_blkR, w_call, w_effK, brU_true, brU_false, brU_u, brU_not, brU_and, brU_or, brU_dec, brU_eq, brU_ne, br_true, br_false, br_not, br_and, br_or, br_dec, br_eq, br_ne, w_getE0, w_getE1, w_setE0, w_setE1, w_dropE0, w_dropE1, w_drop0, w_drop1, w_getM0, w_getM1, w_setM0, w_setM1, ev_v, ev_c, w_putS, w_putN, w_lit, w_apU0, w_apU1, w_apU2, w_trim, enumE0, enumE1, w_callWp, w_callA0, w_callA1, w_R0, w_R1, w_R2, w_T2, w_callL, w_callT, w_T1, w_T0, o_mv, o_newnil, o_pick, o_bin, o_binN, o_neg, o_not, o_eqB, o_eqS, o_conv, o_alloc, o_box, o_load1, o_loadN, o_store, o_nilck, o_faddr, o_field1, o_fieldN, o_iaddr, o_istr, o_slStr, o_slSl, o_lenS, o_lenL, o_mx, o_mn, o_ext, o_build, o_lit, o_litOwn, o_app, o_mk, o_mvfrz, l_int, l_bool, l_str, l_agg, l_sl, l_own, l_ptr, l_pp, i_int, i_bool, i_str, i_sl, i_own, i_ptr, i_pp, all0, all1, e_ok1, eff, effBin, effBinN, ld_ptr, ld_pp, ld_elt, ia_own, ia_arr, el_1, el_N, load1K, faddrE, r_iaddr, sg_S, sg_c, sg_n, purL, pur, List.map, List.drop, List.take, List.length, List.foldl, List.append_eq, List.nil_append, List.cons_append, List.getD_cons_zero, List.getD_cons_succ, reduceIte, Nat.reduceEqDiff, Nat.reduceAdd, Nat.reduceLeDiff, true_and, and_true, Bool.not_true, Bool.not_false, Bool.and_true, Bool.true_and, Bool.and_self, reduceCtorEq, true_implies, false_implies, implies_true, decide_eq_true_eq, Option.map_some, fpOf, fpX, SOp.xs, oX, refs, refsL, dom, disj, List.all_nil, List.all_cons, List.contains_cons, List.contains_nil, Nat.reduceBEq, Bool.or_false, Bool.false_or, List.append_nil, Bool.not_false, Bool.not_true, List.forall_mem_cons, fm0, List.set, Nat.reduceLT, ne_eq, not_false_eq_true, not_true_eq_false
, ret1, ret1N, keep0, keep1, rf_int, rf_bool, rf_str, rf_sl, rf_agg, rf_tup, rfL0, rfL1, re_t, re_cN, re_L0, re_L1, ret_tup, ret_one, decide_true, AV.bool.injEq, AV.int.injEq, Nat.reduceLeDiff, Bool.true_eq, Bool.false_eq, decide_eq_true_eq, decide_eq_false_iff_not, eq_self, Box6.row, List.length_map, Int.toNat_natCast]
  refine loop_of (F_sm1 t t' a b) (fun k => k ≤ a.length ∧ ∀ i, i < k → covered b (a.getD i default)) (fun k => a.length - k) 0 ⟨⟨.inr rfl, .inr rfl, .inr rfl, .inr rfl, trivial⟩, trivial, rfl, rfl⟩ ⟨Nat.zero_le _, fun j hj => by omega⟩ ?_
  intro k hk
  have lp : k < a.length → covered b (a.getD k default) → k + 1 ≤ a.length ∧ ∀ i, i < k + 1 → covered b (a.getD i default) := fun h h' => ⟨by omega, fun j hj => by
    by_cases e : j = k
    · rw [e]; exact h'
    · exact hk.2 j (by omega)⟩
  unfold l_impl_FlySmaller_1 F_sm1
  simp only [w_skip, w_rg, w_rgd, w_seq, w_cond, w_block, w_loop, w_exit, w_ret, w_gh, w_rg0, w_rg1, w_rgT, w_rgF, w_run, w_psd, w_und, w_dr0, w_dr1, w_drT, w_drF, w_drRun, w_drPsd, w_drUnd, w_drKn, w_drKs, w_putK, w_trimK, w_thenN, w_thenE, w_thenR, w_scope, w_label, w_blkN, w_blkE, w_blkR, w_call, w_effK, brU_true, brU_false, brU_u, brU_not, brU_and, brU_or, brU_dec, brU_eq, brU_ne, br_true, br_false, br_not, br_and, br_or, br_dec, br_eq, br_ne, w_getE0, w_getE1, w_setE0, w_setE1, w_dropE0, w_dropE1, w_drop0, w_drop1, w_getM0, w_getM1, w_setM0, w_setM1, ev_v, ev_c, w_putS, w_putN, w_lit, w_apU0, w_apU1, w_apU2, w_trim, enumE0, enumE1, w_callWp, w_callA0, w_callA1, w_R0, w_R1, w_R2, w_T2, w_callL, w_callT, w_T1, w_T0, o_mv, o_newnil, o_pick, o_bin, o_binN, o_neg, o_not, o_eqB, o_eqS, o_conv, o_alloc, o_box, o_load1, o_loadN, o_store, o_nilck, o_faddr, o_field1, o_fieldN, o_iaddr, o_istr, o_slStr, o_slSl, o_lenS, o_lenL, o_mx, o_mn, o_ext, o_build, o_lit, o_litOwn, o_app, o_mk, o_mvfrz, l_int, l_bool, l_str, l_agg, l_sl, l_own, l_ptr, l_pp, i_int, i_bool, i_str, i_sl, i_own, i_ptr, i_pp, all0, all1, e_ok1, eff, effBin, effBinN, ld_ptr, ld_pp, ld_elt, ia_own, ia_arr, el_1, el_N, load1K, faddrE, r_iaddr, sg_S, sg_c, sg_n, purL, pur, List.map, List.drop, List.take, List.length, List.foldl, List.append_eq, List.nil_append, List.cons_append, List.getD_cons_zero, List.getD_cons_succ, reduceIte, Nat.reduceEqDiff, Nat.reduceAdd, Nat.reduceLeDiff, true_and, and_true, Bool.not_true, Bool.not_false, Bool.and_true, Bool.true_and, Bool.and_self, reduceCtorEq, true_implies, false_implies, implies_true, decide_eq_true_eq, Option.map_some, fpOf, fpX, SOp.xs, oX, refs, refsL, dom, disj, List.all_nil, List.all_cons, List.contains_cons, List.contains_nil, Nat.reduceBEq, Bool.or_false, Bool.false_or, List.append_nil, Bool.not_false, Bool.not_true, List.forall_mem_cons, fm0, List.set, Nat.reduceLT, ne_eq, not_false_eq_true, not_true_eq_false
, ret1, ret1N, keep0, keep1, rf_int, rf_bool, rf_str, rf_sl, rf_agg, rf_tup, rfL0, rfL1, re_t, re_cN, re_L0, re_L1, ret_tup, ret_one, decide_true, AV.bool.injEq, AV.int.injEq, Nat.reduceLeDiff, Bool.true_eq, Bool.false_eq, decide_eq_true_eq, decide_eq_false_iff_not, eq_self, Box6.row, List.length_map, Int.toNat_natCast]
  refine ⟨fun h0 => ⟨by omega, by omega, fun h1 => ⟨by omega, loopK_of (k + 1) ⟨⟨.inr rfl, .inr rfl, .inr rfl, .inr rfl, trivial⟩, trivial, rfl, rfl⟩ (lp (by omega) (.inl (.inl h1))) (by omega)⟩, fun h1 => ⟨fun h2 => ⟨by omega, loopK_of (k + 1) ⟨⟨.inr rfl, .inr rfl, .inr rfl, .inr rfl, trivial⟩, trivial, rfl, rfl⟩ (lp (by omega) (.inl (.inr h2))) (by omega)⟩, fun h2 => ?_⟩⟩, fun h0 i hi => hk.2 i (by omega)⟩
  refine loop_of (F_sm0 t t' a b k) (fun j => j ≤ b.length ∧ ∀ i, i < j → ¬ (a.getD k default).inside (b.getD i default)) (fun j => b.length - j) 0 ⟨⟨.inr rfl, .inr rfl, .inr rfl, .inr rfl, .inr rfl, .inr rfl, .inr rfl, .inr rfl, trivial⟩, ⟨rfl, trivial⟩, rfl, rfl⟩ ⟨Nat.zero_le _, fun j hj => by omega⟩ ?_
  intro j hj
  have lq : j < b.length → ¬ (a.getD k default).inside (b.getD j default) → j + 1 ≤ b.length ∧ ∀ i, i < j + 1 → ¬ (a.getD k default).inside (b.getD i default) := fun h h' => ⟨by omega, fun i hi => by
    by_cases e : i = j
    · rw [e]; exact h'
    · exact hj.2 i (by omega)⟩
  unfold l_impl_FlySmaller_0 F_sm0
  simp only [w_skip, w_rg, w_rgd, w_seq, w_cond, w_block, w_loop, w_exit, w_ret, w_gh, w_rg0, w_rg1, w_rgT, w_rgF, w_run, w_psd, w_und, w_dr0, w_dr1, w_drT, w_drF, w_drRun, w_drPsd, w_drUnd, w_drKn, w_drKs, w_putK, w_trimK, w_thenN, w_thenE, w_thenR, w_scope, w_label, w_blkN, w_blkE, w_blkR, w_call, w_effK, brU_true, brU_false, brU_u, brU_not, brU_and, brU_or, brU_dec, brU_eq, brU_ne, br_true, br_false, br_not, br_and, br_or, br_dec, br_eq, br_ne, w_getE0, w_getE1, w_setE0, w_setE1, w_dropE0, w_dropE1, w_drop0, w_drop1, w_getM0, w_getM1, w_setM0, w_setM1, ev_v, ev_c, w_putS, w_putN, w_lit, w_apU0, w_apU1, w_apU2, w_trim, enumE0, enumE1, w_callWp, w_callA0, w_callA1, w_R0, w_R1, w_R2, w_T2, w_callL, w_callT, w_T1, w_T0, o_mv, o_newnil, o_pick, o_bin, o_binN, o_neg, o_not, o_eqB, o_eqS, o_conv, o_alloc, o_box, o_load1, o_loadN, o_store, o_nilck, o_faddr, o_field1, o_fieldN, o_iaddr, o_istr, o_slStr, o_slSl, o_lenS, o_lenL, o_mx, o_mn, o_ext, o_build, o_lit, o_litOwn, o_app, o_mk, o_mvfrz, l_int, l_bool, l_str, l_agg, l_sl, l_own, l_ptr, l_pp, i_int, i_bool, i_str, i_sl, i_own, i_ptr, i_pp, all0, all1, e_ok1, eff, effBin, effBinN, ld_ptr, ld_pp, ld_elt, ia_own, ia_arr, el_1, el_N, load1K, faddrE, r_iaddr, sg_S, sg_c, sg_n, purL, pur, List.map, List.drop, List.take, List.length, List.foldl, List.append_eq, List.nil_append, List.cons_append, List.getD_cons_zero, List.getD_cons_succ, reduceIte, Nat.reduceEqDiff, Nat.reduceAdd, Nat.reduceLeDiff, true_and, and_true, Bool.not_true, Bool.not_false, Bool.and_true, Bool.true_and, Bool.and_self, reduceCtorEq, true_implies, false_implies, implies_true, decide_eq_true_eq, Option.map_some, fpOf, fpX, SOp.xs, oX, refs, refsL, dom, disj, List.all_nil, List.all_cons, List.contains_cons, List.contains_nil, Nat.reduceBEq, Bool.or_false, Bool.false_or, List.append_nil, Bool.not_false, Bool.not_true, List.forall_mem_cons, fm0, List.set, Nat.reduceLT, ne_eq, not_false_eq_true, not_true_eq_false
, ret1, ret1N, keep0, keep1, rf_int, rf_bool, rf_str, rf_sl, rf_agg, rf_tup, rfL0, rfL1, re_t, re_cN, re_L0, re_L1, ret_tup, ret_one, decide_true, AV.bool.injEq, AV.int.injEq, Nat.reduceLeDiff, Bool.true_eq, Bool.false_eq, decide_eq_true_eq, decide_eq_false_iff_not, eq_self, Box6.row, List.length_map, Int.toNat_natCast]
  refine ⟨fun g0 => ⟨by omega, by omega, ⟨fun a1 => ⟨fun a2 => ⟨fun a3 => ⟨fun a4 => ⟨fun a5 => ⟨fun a6 => ⟨by omega, loopK_of (k + 1) ⟨⟨.inr rfl, .inr rfl, .inr rfl, .inr rfl, trivial⟩, trivial, rfl, rfl⟩ (lp (by omega) (.inr ⟨j, by omega, a1, a2, a3, a4, a5, a6⟩)) (by omega)⟩, fun a6 => ⟨by omega, loopK_of (j + 1) ⟨⟨.inr rfl, .inr rfl, .inr rfl, .inr rfl, .inr rfl, .inr rfl, .inr rfl, .inr rfl, trivial⟩, ⟨rfl, trivial⟩, rfl, rfl⟩ (lq (by omega) fun h => a6 h.2.2.2.2.2) (by omega)⟩⟩, fun a5 => ⟨by omega, loopK_of (j + 1) ⟨⟨.inr rfl, .inr rfl, .inr rfl, .inr rfl, .inr rfl, .inr rfl, .inr rfl, .inr rfl, trivial⟩, ⟨rfl, trivial⟩, rfl, rfl⟩ (lq (by omega) fun h => a5 h.2.2.2.2.1) (by omega)⟩⟩, fun a4 => ⟨by omega, loopK_of (j + 1) ⟨⟨.inr rfl, .inr rfl, .inr rfl, .inr rfl, .inr rfl, .inr rfl, .inr rfl, .inr rfl, trivial⟩, ⟨rfl, trivial⟩, rfl, rfl⟩ (lq (by omega) fun h => a4 h.2.2.2.1) (by omega)⟩⟩, fun a3 => ⟨by omega, loopK_of (j + 1) ⟨⟨.inr rfl, .inr rfl, .inr rfl, .inr rfl, .inr rfl, .inr rfl, .inr rfl, .inr rfl, trivial⟩, ⟨rfl, trivial⟩, rfl, rfl⟩ (lq (by omega) fun h => a3 h.2.2.1) (by omega)⟩⟩, fun a2 => ⟨by omega, loopK_of (j + 1) ⟨⟨.inr rfl, .inr rfl, .inr rfl, .inr rfl, .inr rfl, .inr rfl, .inr rfl, .inr rfl, trivial⟩, ⟨rfl, trivial⟩, rfl, rfl⟩ (lq (by omega) fun h => a2 h.2.1) (by omega)⟩⟩, fun a1 => ⟨by omega, loopK_of (j + 1) ⟨⟨.inr rfl, .inr rfl, .inr rfl, .inr rfl, .inr rfl, .inr rfl, .inr rfl, .inr rfl, trivial⟩, ⟨rfl, trivial⟩, rfl, rfl⟩ (lq (by omega) fun h => a1 h.1) (by omega)⟩⟩⟩, fun g0 h => ?_⟩
  rcases h k (by omega) with (h | h) | ⟨i, hi, h⟩
  · exact h1 h
  · exact h2 h
  · exact hj.2 i (by omega) h
def F_igo (p : Path5) (t t' : Nat) (asked : List Int) (a : GoS) : St := ⟨[(2, .sl t' 1 (asked.map irow)), (3, .ptr 103 0), (8, .own 150 a.m 0 a.m), (9, .int .i64 a.i)], [(103, .box [.int .i64 p.q, .int .i64 p.s, .sl t 7 (p.l.map Stp7.row), .int .i64 p.f, .int .i64 p.b]), (150, .arr 3 a.m 1 (a.l.map irow))]⟩
theorem c_iGo (p : Path5) (t t' t2 : Nat) (asked : List Int) (hn : p.l.length ≤ 100) (ha : asked.length ≤ 4294967296) : Contract P 28 [.agg [.int .i64 p.q, .int .i64 p.s, .sl t 7 (p.l.map Stp7.row), .int .i64 p.f, .int .i64 p.b], .sl t2 1 [], .sl t' 1 (asked.map irow)] [] (.tup [.sl 0 1 (((p.go asked).getD []).map irow), .bool (decide ((p.go asked).isSome = true))]) [] := by
  refine fn_sound (((Env.nil P).add 81 t_iNext h_iNext).add 13 t_iLawful h_iLawful) Go.Ve.hm k_impl_FlyGo (Nat.le_of_ble_eq_true rfl) rfl ?_
  unfold s_impl_FlyGo
  simp only [w_skip, w_rg, w_rgd, w_seq, w_cond, w_block, w_loop, w_exit, w_ret, w_gh, w_rg0, w_rg1, w_rgT, w_rgF, w_run, w_psd, w_und, w_dr0, w_dr1, w_drT, w_drF, w_drRun, w_drPsd, w_drUnd, w_drKn, w_drKs, w_putK, w_trimK, w_thenN, w_thenE, w_thenR, w_scope, w_label, w_blkN, w_blkE, w_blkR, w_call, w_effK, brU_true, brU_false, brU_u, brU_not, brU_and, brU_or, brU_dec, brU_eq, brU_ne, br_true, br_false, br_not, br_and, br_or, br_dec, br_eq, br_ne, w_getE0, w_getE1, w_setE0, w_setE1, w_dropE0, w_dropE1, w_drop0, w_drop1, w_getM0, w_getM1, w_setM0, w_setM1, ev_v, ev_c, w_putS, w_putN, w_lit, w_apU0, w_apU1, w_apU2, w_trim, enumE0, enumE1, w_callWp, w_callA0, w_callA1, w_R0, w_R1, w_R2, w_T2, w_callL, w_callT, w_T1, w_T0, o_mv, o_newnil, o_pick, o_bin, o_binN, o_neg, o_not, o_eqB, o_eqS, o_conv, o_alloc, o_box, o_load1, o_loadN, o_store, o_nilck, o_faddr, o_field1, o_fieldN, o_iaddr, o_istr, o_slStr, o_slSl, o_lenS, o_lenL, o_mx, o_mn, o_ext, o_build, o_lit, o_litOwn, o_app, o_mk, o_mvfrz, l_int, l_bool, l_str, l_agg, l_sl, l_own, l_ptr, l_pp, i_int, i_bool, i_str, i_sl, i_own, i_ptr, i_pp, all0, all1, e_ok1, eff, effBin, effBinN, ld_ptr, ld_pp, ld_elt, ia_own, ia_arr, el_1, el_N, load1K, faddrE, r_iaddr, sg_S, sg_c, sg_n, purL, pur, List.map, List.drop, List.take, List.length, List.foldl, List.append_eq, List.nil_append, List.cons_append, List.getD_cons_zero, List.getD_cons_succ, reduceIte, Nat.reduceEqDiff, Nat.reduceAdd, Nat.reduceLeDiff, true_and, and_true, Bool.not_true, Bool.not_false, Bool.and_true, Bool.true_and, Bool.and_self, reduceCtorEq, true_implies, false_implies, implies_true, decide_eq_true_eq, Option.map_some, fpOf, fpX, SOp.xs, oX, refs, refsL, dom, disj, List.all_nil, List.all_cons, List.contains_cons, List.contains_nil, Nat.reduceBEq, Bool.or_false, Bool.false_or, List.append_nil, Bool.not_false, Bool.not_true, List.forall_mem_cons, fm0, List.set, Nat.reduceLT, ne_eq, not_false_eq_true, not_true_eq_false
, ret1, ret1N, keep0, keep1, rf_int, rf_bool, rf_str, rf_sl, rf_agg, rf_tup, rfL0, rfL1, re_t, re_cN, re_L0, re_L1, ret_tup, ret_one, decide_true, AV.bool.injEq, AV.int.injEq, Nat.reduceLeDiff, Bool.true_eq, Bool.false_eq, decide_eq_true_eq, decide_eq_false_iff_not, t_iNext, t_iLawful, t_next, t_lawful, Span2.row, snoc_i, Path5.av, retG_ret, ghost, retQ_eq, retOk, wkM, refsInO, keepB, re_tup, or_t, Int.toNat_natCast, noref, flatOk, List.length_map, Stp7.row, irow, un_stp, un_i, set_f, set_b, List.length_set, take_all, path_eta, true_and, rowsOf, appE]
  refine loop_of (F_igo p t t' asked) (fun a => (a.i = a.m ∧ a.m ≤ p.l.length + 1) ∧ p.goL asked a.m = some a.l) (fun a => p.l.length + 1 - a.m) ⟨0, 0, []⟩ ⟨⟨.inr rfl, .inr rfl, .inr rfl, .inr rfl, trivial⟩, ⟨rfl, rfl, trivial⟩, rfl, rfl⟩ ⟨⟨rfl, Nat.zero_le _⟩, rfl⟩ ?_
  rintro ⟨i, m, l⟩ ⟨⟨hi, hm⟩, hg⟩
  simp only at hi hm hg
  subst hi
  have hl := goL_len hg
  have htk : List.take m (l.map irow) = l.map irow := List.take_of_length_le (by rw [List.length_map]; omega)
  unfold l_impl_FlyGo_0 F_igo
  simp only [w_skip, w_rg, w_rgd, w_seq, w_cond, w_block, w_loop, w_exit, w_ret, w_gh, w_rg0, w_rg1, w_rgT, w_rgF, w_run, w_psd, w_und, w_dr0, w_dr1, w_drT, w_drF, w_drRun, w_drPsd, w_drUnd, w_drKn, w_drKs, w_putK, w_trimK, w_thenN, w_thenE, w_thenR, w_scope, w_label, w_blkN, w_blkE, w_blkR, w_call, w_effK, brU_true, brU_false, brU_u, brU_not, brU_and, brU_or, brU_dec, brU_eq, brU_ne, br_true, br_false, br_not, br_and, br_or, br_dec, br_eq, br_ne, w_getE0, w_getE1, w_setE0, w_setE1, w_dropE0, w_dropE1, w_drop0, w_drop1, w_getM0, w_getM1, w_setM0, w_setM1, ev_v, ev_c, w_putS, w_putN, w_lit, w_apU0, w_apU1, w_apU2, w_trim, enumE0, enumE1, w_callWp, w_callA0, w_callA1, w_R0, w_R1, w_R2, w_T2, w_callL, w_callT, w_T1, w_T0, o_mv, o_newnil, o_pick, o_bin, o_binN, o_neg, o_not, o_eqB, o_eqS, o_conv, o_alloc, o_box, o_load1, o_loadN, o_store, o_nilck, o_faddr, o_field1, o_fieldN, o_iaddr, o_istr, o_slStr, o_slSl, o_lenS, o_lenL, o_mx, o_mn, o_ext, o_build, o_lit, o_litOwn, o_app, o_mk, o_mvfrz, l_int, l_bool, l_str, l_agg, l_sl, l_own, l_ptr, l_pp, i_int, i_bool, i_str, i_sl, i_own, i_ptr, i_pp, all0, all1, e_ok1, eff, effBin, effBinN, ld_ptr, ld_pp, ld_elt, ia_own, ia_arr, el_1, el_N, load1K, faddrE, r_iaddr, sg_S, sg_c, sg_n, purL, pur, List.map, List.drop, List.take, List.length, List.foldl, List.append_eq, List.nil_append, List.cons_append, List.getD_cons_zero, List.getD_cons_succ, reduceIte, Nat.reduceEqDiff, Nat.reduceAdd, Nat.reduceLeDiff, true_and, and_true, Bool.not_true, Bool.not_false, Bool.and_true, Bool.true_and, Bool.and_self, reduceCtorEq, true_implies, false_implies, implies_true, decide_eq_true_eq, Option.map_some, fpOf, fpX, SOp.xs, oX, refs, refsL, dom, disj, List.all_nil, List.all_cons, List.contains_cons, List.contains_nil, Nat.reduceBEq, Bool.or_false, Bool.false_or, List.append_nil, Bool.not_false, Bool.not_true, List.forall_mem_cons, fm0, List.set, Nat.reduceLT, ne_eq, not_false_eq_true, not_true_eq_false
, ret1, ret1N, keep0, keep1, rf_int, rf_bool, rf_str, rf_sl, rf_agg, rf_tup, rfL0, rfL1, re_t, re_cN, re_L0, re_L1, ret_tup, ret_one, decide_true, AV.bool.injEq, AV.int.injEq, Nat.reduceLeDiff, Bool.true_eq, Bool.false_eq, decide_eq_true_eq, decide_eq_false_iff_not, t_iNext, t_iLawful, t_next, t_lawful, Span2.row, snoc_i, Path5.av, retG_ret, ghost, retQ_eq, retOk, wkM, refsInO, keepB, re_tup, or_t, Int.toNat_natCast, noref, flatOk, List.length_map, Stp7.row, irow, un_stp, un_i, set_f, set_b, List.length_set, take_all, path_eta, true_and, rowsOf, appE]
  simp only [htk, snoc_i, un_i, Nat.sub_zero, ite_max, ite_min]
  refine ⟨fun h1 => ⟨trivial, fun h2 => ⟨fun h3 => ⟨by omega, by omega, by omega, by omega, ?_⟩, fun h3 => ⟨by omega, by omega, ?_⟩⟩, fun h2 => ?_⟩, fun h1 => ?_⟩
  · refine loopK_of (⟨(m : Int) + 1, m + 1, l ++ [_]⟩ : GoS) ⟨⟨.inr rfl, .inr rfl, .inr rfl, .inr rfl, trivial⟩, ⟨rfl, rfl, trivial⟩, rfl, rfl⟩ ⟨⟨by simp only; omega, by simp only; omega⟩, ?_⟩ (by simp only; omega)
    simp only
    rw [goL_step hg, if_pos h2, Path5.tick, if_pos (by omega), hl, Int.max_comm]
  · refine loopK_of (⟨(m : Int) + 1, m + 1, l ++ [_]⟩ : GoS) ⟨⟨.inr rfl, .inr rfl, .inr rfl, .inr rfl, trivial⟩, ⟨rfl, rfl, trivial⟩, rfl, rfl⟩ ⟨⟨by simp only; omega, by simp only; omega⟩, ?_⟩ (by simp only; omega)
    simp only
    rw [goL_step hg, if_pos h2, Path5.tick, if_neg (by omega)]
  · have hgo : p.go asked = none := go_none (n := m + 1) (by rw [goL_step hg, if_neg h2]) (by omega)
    rw [hgo]; exact ⟨rfl, by simp⟩
  · have e : m = p.l.length + 1 := by omega
    have hgo : p.go asked = if p.lawful l then some l else none := go_end (by rw [← e]; exact hg)
    refine ⟨trivial, fun h2 => ?_, fun h2 => ?_⟩
    · rw [if_pos h2] at hgo
      rw [hgo]; exact ⟨rfl, rfl⟩
    · rw [if_neg h2] at hgo
      rw [hgo]; exact ⟨rfl, by simp⟩
theorem c_drawFlight (cs : List Nat) (hcs : ∀ b ∈ cs, b ≤ 255) (hl : cs.length ≤ 1048576) : ∃ a : Path5 × List Int, (a.1.l.length ≤ 100 ∧ a.2.length ≤ 110) ∧ Contract P 27 [.sl 1 1 (cs.map brow)] [] (.tup [a.1.av, .sl 0 1 (a.2.map irow)]) [] := by
  refine fn_choose ((((Env.nil P).addR 50 r_any h_any).addR 51 r_asked h_asked).addR 49 r_open h_open) Go.Ve.hm k_spec_DrawFlyFlight (Nat.le_of_ble_eq_true rfl) rfl (fun a : Path5 × List Int => a.1.l.length ≤ 100 ∧ a.2.length ≤ 110) (fun a => .tup [a.1.av, .sl 0 1 (a.2.map irow)]) (fun _ => []) ?_
  unfold s_spec_DrawFlyFlight
  have hB : okB ((cs.take 2000).map brow) := ⟨cs.take 2000, rfl, fun b hb => hcs b (List.mem_of_mem_take hb), by rw [List.length_take]; omega⟩
  have hR : ∀ {p lim : Int}, rdOk 0 1 1 ((cs.take 2000).map brow) p lim = (0 ≤ p ∧ p ≤ lim) := rdOk_of hB
  have hO : (∃ c : List Nat, cs.map brow = c.map brow ∧ c.length ≤ 9223372036854775807) = True := eq_true ⟨cs, rfl, by omega⟩
  simp only [w_skip, w_rg, w_rgd, w_seq, w_cond, w_block, w_loop, w_exit, w_ret, w_gh, w_rg0, w_rg1, w_rgT, w_rgF, w_run, w_psd, w_und, w_dr0, w_dr1, w_drT, w_drF, w_drRun, w_drPsd, w_drUnd, w_drKn, w_drKs, w_putK, w_trimK, w_thenN, w_thenE, w_thenR, w_scope, w_label, w_blkN, w_blkE, w_blkR, w_call, w_effK, brU_true, brU_false, brU_u, brU_not, brU_and, brU_or, brU_dec, brU_eq, brU_ne, br_true, br_false, br_not, br_and, br_or, br_dec, br_eq, br_ne, w_getE0, w_getE1, w_setE0, w_setE1, w_dropE0, w_dropE1, w_drop0, w_drop1, w_getM0, w_getM1, w_setM0, w_setM1, ev_v, ev_c, w_putS, w_putN, w_lit, w_apU0, w_apU1, w_apU2, w_trim, enumE0, enumE1, w_callWp, w_callA0, w_callA1, w_R0, w_R1, w_R2, w_T2, w_callL, w_callT, w_T1, w_T0, o_mv, o_newnil, o_pick, o_bin, o_binN, o_neg, o_not, o_eqB, o_eqS, o_conv, o_alloc, o_box, o_load1, o_loadN, o_store, o_nilck, o_faddr, o_field1, o_fieldN, o_iaddr, o_istr, o_slStr, o_slSl, o_lenS, o_lenL, o_mx, o_mn, o_ext, o_build, o_lit, o_litOwn, o_app, o_mk, o_mvfrz, l_int, l_bool, l_str, l_agg, l_sl, l_own, l_ptr, l_pp, i_int, i_bool, i_str, i_sl, i_own, i_ptr, i_pp, all0, all1, e_ok1, eff, effBin, effBinN, ld_ptr, ld_pp, ld_elt, ia_own, ia_arr, el_1, el_N, load1K, faddrE, r_iaddr, sg_S, sg_c, sg_n, purL, pur, List.map, List.drop, List.take, List.length, List.foldl, List.append_eq, List.nil_append, List.cons_append, List.getD_cons_zero, List.getD_cons_succ, reduceIte, Nat.reduceEqDiff, Nat.reduceAdd, Nat.reduceLeDiff, true_and, and_true, Bool.not_true, Bool.not_false, Bool.and_true, Bool.true_and, Bool.and_self, reduceCtorEq, true_implies, false_implies, implies_true, decide_eq_true_eq, Option.map_some, fpOf, fpX, SOp.xs, oX, refs, refsL, dom, disj, List.all_nil, List.all_cons, List.contains_cons, List.contains_nil, Nat.reduceBEq, Bool.or_false, Bool.false_or, List.append_nil, Bool.not_false, Bool.not_true, List.forall_mem_cons, fm0, List.set, Nat.reduceLT, ne_eq, not_false_eq_true, not_true_eq_false
, ret1, ret1N, keep0, keep1, rf_int, rf_bool, rf_str, rf_sl, rf_agg, rf_tup, rfL0, rfL1, re_t, re_cN, re_L0, re_L1, ret_tup, ret_one, decide_true, AV.bool.injEq, AV.int.injEq, Nat.reduceLeDiff, Bool.true_eq, Bool.false_eq, decide_eq_true_eq, decide_eq_false_iff_not, r_any, r_asked, r_open, take_brow, hO, hR, brow, set_i, snoc_i, Path5.av, retG_ret, ghost, retQ_eq, retOk, wkM, refsInO, keepB, re_tup, or_t, Int.toNat_natCast, noref, flatOk, List.length_map, Stp7.row, irow, un_stp, un_i, set_f, set_b, List.length_set, take_all, path_eta, true_and, rowsOf, appE]
  exact fun _ => ⟨by omega, fun a ha => ⟨by omega, fun b hb => ⟨(a.1, b.1), ⟨ha.1, by simp only; omega⟩, rfl, rfl⟩⟩⟩
def t_tube : List AV → Option (Prop × AV)
  | [.agg [.int .i64 pq, .int .i64 ps, .sl pt 7 px, .int .i64 pf, .int .i64 pb]] => some ((((px.map unStp).map Stp7.row = px)) ∧ ((Path5.mk pq ps (px.map unStp) pf pb).l.length ≤ 1048576), .sl 0 6 ((Path5.mk pq ps (px.map unStp) pf pb).tube.map Box6.row))
  | _ => none
theorem h_tube : ∀ args p v, t_tube args = some (p, v) → p → Contract P 31 args [] v [] ∧ noref v = true ∧ No99 v := by
  intro args p v h1 h2
  unfold t_tube at h1
  split at h1
  · rename_i pq ps pt px pf pb
    cases h1
    obtain ⟨e0, HP⟩ := h2
    have := c_tube (Path5.mk pq ps (px.map unStp) pf pb) pt HP
    simp only [e0] at this
    exact ⟨this, rfl, ⟨by omega, no99_bx _⟩⟩
  · cases h1
def t_where : List AV → Option (Prop × AV)
  | [.sl ft 1 fx, .int .i64 t] => some ((((fx.map unI).map irow = fx)) ∧ ((fx.map unI).length ≤ 1048576), .tup [.int .i64 ((whereR (fx.map unI) t).getD 0 : Nat), .bool (decide ((whereR (fx.map unI) t).isSome = true))])
  | _ => none
theorem h_where : ∀ args p v, t_where args = some (p, v) → p → Contract P 34 args [] v [] ∧ noref v = true ∧ No99 v := by
  intro args p v h1 h2
  unfold t_where at h1
  split at h1
  · rename_i ft fx t
    cases h1
    obtain ⟨e0, HP⟩ := h2
    have := c_where ft (fx.map unI) t HP
    simp only [e0] at this
    exact ⟨this, rfl, ⟨trivial, trivial, trivial⟩⟩
  · cases h1
def t_fwithin : List AV → Option (Prop × AV)
  | [.sl bt 6 bx, .int .i64 x, .int .i64 y, .int .i64 l, .int .i64 u] => some ((((bx.map unBox).map Box6.row = bx)) ∧ ((bx.map unBox).length ≤ 4611686018427387904), .bool (decide (someHas (bx.map unBox) x y l u)))
  | _ => none
theorem h_fwithin : ∀ args p v, t_fwithin args = some (p, v) → p → Contract P 35 args [] v [] ∧ noref v = true ∧ No99 v := by
  intro args p v h1 h2
  unfold t_fwithin at h1
  split at h1
  · rename_i bt bx x y l u
    cases h1
    obtain ⟨e0, HP⟩ := h2
    have := c_fwithin bt (bx.map unBox) x y l u HP
    simp only [e0] at this
    exact ⟨this, rfl, trivial⟩
  · cases h1
def t_wfInts : List AV → Option (Prop × AV)
  | [.sl ct 1 cx, .sl bt 1 bx] => some ((((cx.map unI).map irow = cx) ∧ ((bx.map unI).map irow = bx)) ∧ ((cx.map unI).length ≤ 4611686018427387904), .bool (decide ((cx.map unI) = (bx.map unI))))
  | _ => none
theorem h_wfInts : ∀ args p v, t_wfInts args = some (p, v) → p → Contract P 30 args [] v [] ∧ noref v = true ∧ No99 v := by
  intro args p v h1 h2
  unfold t_wfInts at h1
  split at h1
  · rename_i ct cx bt bx
    cases h1
    obtain ⟨⟨e0, e1⟩, HP⟩ := h2
    have := c_wfInts ct bt (cx.map unI) (bx.map unI) HP
    simp only [e0, e1] at this
    exact ⟨this, rfl, trivial⟩
  · cases h1
def t_iSeen : List AV → Option (Prop × AV)
  | [.agg [.int .i64 pq, .int .i64 ps, .sl pt 7 px, .int .i64 pf, .int .i64 pb], .int .i64 k, .int .i64 n] => some ((((px.map unStp).map Stp7.row = px)) ∧ (True), .tup [((Path5.mk pq ps (px.map unStp) pf pb).seenR k n).av, .bool (decide ((Path5.mk pq ps (px.map unStp) pf pb).sees k n))])
  | _ => none
theorem h_iSeen : ∀ args p v, t_iSeen args = some (p, v) → p → Contract P 37 args [] v [] ∧ noref v = true ∧ No99 v := by
  intro args p v h1 h2
  unfold t_iSeen at h1
  split at h1
  · rename_i pq ps pt px pf pb k n
    cases h1
    obtain ⟨e0, HP⟩ := h2
    have := c_iSeen (Path5.mk pq ps (px.map unStp) pf pb) pt k n
    simp only [e0] at this
    exact ⟨this, rfl, ⟨no99_av _, trivial, trivial⟩⟩
  · cases h1
def t_smaller : List AV → Option (Prop × AV)
  | [.sl ct 6 cx, .sl bt 6 bx] => some ((((cx.map unBox).map Box6.row = cx) ∧ ((bx.map unBox).map Box6.row = bx)) ∧ ((cx.map unBox).length ≤ 4611686018427387904 ∧ (bx.map unBox).length ≤ 4611686018427387904), .bool (decide (smaller (cx.map unBox) (bx.map unBox))))
  | _ => none
theorem h_smaller : ∀ args p v, t_smaller args = some (p, v) → p → Contract P 38 args [] v [] ∧ noref v = true ∧ No99 v := by
  intro args p v h1 h2
  unfold t_smaller at h1
  split at h1
  · rename_i ct cx bt bx
    cases h1
    obtain ⟨⟨e0, e1⟩, HP⟩ := h2
    have := c_smaller ct bt (cx.map unBox) (bx.map unBox) HP.1 HP.2
    simp only [e0, e1] at this
    exact ⟨this, rfl, trivial⟩
  · cases h1
def t_iGo : List AV → Option (Prop × AV)
  | [.agg [.int .i64 pq, .int .i64 ps, .sl pt 7 px, .int .i64 pf, .int .i64 pb], .sl zt 1 [], .sl ct 1 cx] => some ((((px.map unStp).map Stp7.row = px) ∧ ((cx.map unI).map irow = cx)) ∧ ((Path5.mk pq ps (px.map unStp) pf pb).l.length ≤ 100 ∧ (cx.map unI).length ≤ 4294967296), .tup [.sl 0 1 ((((Path5.mk pq ps (px.map unStp) pf pb).go (cx.map unI)).getD []).map irow), .bool (decide (((Path5.mk pq ps (px.map unStp) pf pb).go (cx.map unI)).isSome = true))])
  | _ => none
theorem h_iGo : ∀ args p v, t_iGo args = some (p, v) → p → Contract P 28 args [] v [] ∧ noref v = true ∧ No99 v := by
  intro args p v h1 h2
  unfold t_iGo at h1
  split at h1
  · rename_i pq ps pt px pf pb zt ct cx
    cases h1
    obtain ⟨⟨e0, e1⟩, HP⟩ := h2
    have := c_iGo (Path5.mk pq ps (px.map unStp) pf pb) pt ct zt (cx.map unI) HP.1 HP.2
    simp only [e0, e1] at this
    exact ⟨this, rfl, ⟨⟨by omega, no99_i _⟩, trivial, trivial⟩⟩
  · cases h1
end Go.Ve
namespace Go.Ve
open Go.Proofs
set_option linter.unusedSimpArgs false
set_option linter.unusedVariables false
set_option maxRecDepth 100000
set_option maxHeartbeats 4000000
def F_first (p : Path5) (k : Nat) : St := ⟨[(5, .own 123 k 0 k), (13, .sl 0 2 (p.fitS.map Span2.row)), (14, .int .i64 p.fitS.length), (15, .int .i64 k)], [(123, .arr 3 k 1 (((p.fitS.take k).map fun s => s.lo).map irow))]⟩
theorem c_first (p : Path5) (t : Nat) (hn : p.l.length ≤ 1048576) : Contract P 15 [.agg [.int .i64 p.q, .int .i64 p.s, .sl t 7 (p.l.map Stp7.row), .int .i64 p.f, .int .i64 p.b]] [] (.sl 0 1 ((p.fitS.map fun s => s.lo).map irow)) [] := by
  refine fn_sound ((Env.nil P).add 10 t_iFit h_iFit) hm k_impl_FlyFirst (Nat.le_of_ble_eq_true rfl) rfl ?_
  unfold s_impl_FlyFirst
  simp only [w_skip, w_rg, w_rgd, w_seq, w_cond, w_block, w_loop, w_exit, w_ret, w_gh, w_rg0, w_rg1, w_rgT, w_rgF, w_run, w_psd, w_und, w_dr0, w_dr1, w_drT, w_drF, w_drRun, w_drPsd, w_drUnd, w_drKn, w_drKs, w_putK, w_trimK, w_thenN, w_thenE, w_thenR, w_scope, w_label, w_blkN, w_blkE, w_blkR, w_call, w_effK, brU_true, brU_false, brU_u, brU_not, brU_and, brU_or, brU_dec, brU_eq, brU_ne, br_true, br_false, br_not, br_and, br_or, br_dec, br_eq, br_ne, w_getE0, w_getE1, w_setE0, w_setE1, w_dropE0, w_dropE1, w_drop0, w_drop1, w_getM0, w_getM1, w_setM0, w_setM1, ev_v, ev_c, w_putS, w_putN, w_lit, w_apU0, w_apU1, w_apU2, w_trim, enumE0, enumE1, w_callWp, w_callA0, w_callA1, w_R0, w_R1, w_R2, w_T2, w_callL, w_callT, w_T1, w_T0, o_mv, o_newnil, o_pick, o_bin, o_binN, o_neg, o_not, o_eqB, o_eqS, o_conv, o_alloc, o_box, o_load1, o_loadN, o_store, o_nilck, o_faddr, o_field1, o_fieldN, o_iaddr, o_istr, o_slStr, o_slSl, o_lenS, o_lenL, o_mx, o_mn, o_ext, o_build, o_lit, o_litOwn, o_app, o_mk, o_mvfrz, l_int, l_bool, l_str, l_agg, l_sl, l_own, l_ptr, l_pp, i_int, i_bool, i_str, i_sl, i_own, i_ptr, i_pp, all0, all1, e_ok1, eff, effBin, effBinN, ld_ptr, ld_pp, ld_elt, ia_own, ia_arr, el_1, el_N, load1K, faddrE, r_iaddr, sg_S, sg_c, sg_n, purL, pur, List.map, List.drop, List.take, List.length, List.foldl, List.append_eq, List.nil_append, List.cons_append, List.getD_cons_zero, List.getD_cons_succ, reduceIte, Nat.reduceEqDiff, Nat.reduceAdd, Nat.reduceLeDiff, true_and, and_true, Bool.not_true, Bool.not_false, Bool.and_true, Bool.true_and, Bool.and_self, reduceCtorEq, true_implies, false_implies, implies_true, decide_eq_true_eq, Option.map_some, fpOf, fpX, SOp.xs, oX, refs, refsL, dom, disj, List.all_nil, List.all_cons, List.contains_cons, List.contains_nil, Nat.reduceBEq, Bool.or_false, Bool.false_or, List.append_nil, Bool.not_false, Bool.not_true, List.forall_mem_cons, fm0, List.set, Nat.reduceLT, ne_eq, not_false_eq_true, not_true_eq_false
, ret1, ret1N, keep0, keep1, rf_int, rf_bool, rf_str, rf_sl, rf_agg, rf_tup, rfL0, rfL1, re_t, re_cN, re_L0, re_L1, ret_tup, ret_one, decide_true, AV.bool.injEq, AV.int.injEq, Nat.reduceLeDiff, Bool.true_eq, Bool.false_eq, decide_eq_true_eq, decide_eq_false_iff_not, t_iFit, t_fit, Span2.row, snoc_i, take_all, List.length_map, irow, un_stp, path_eta, rowsOf, appE, ghost, flatOk, noref, Int.toNat_natCast, Nat.zero_add, Nat.sub_zero]
  have hfl := fitS_len p
  refine loop_of (F_first p) (fun k => k ≤ p.fitS.length) (fun k => p.fitS.length - k) 0 ⟨⟨.inr rfl, .inr rfl, .inr rfl, .inr rfl, trivial⟩, ⟨rfl, trivial⟩, rfl, rfl⟩ (Nat.zero_le _) ?_
  intro k hk
  have htk : List.take k (((p.fitS.take k).map fun s => s.lo).map irow) = ((p.fitS.take k).map fun s => s.lo).map irow := List.take_of_length_le (by simp; omega)
  unfold l_impl_FlyFirst_0 F_first
  simp only [w_skip, w_rg, w_rgd, w_seq, w_cond, w_block, w_loop, w_exit, w_ret, w_gh, w_rg0, w_rg1, w_rgT, w_rgF, w_run, w_psd, w_und, w_dr0, w_dr1, w_drT, w_drF, w_drRun, w_drPsd, w_drUnd, w_drKn, w_drKs, w_putK, w_trimK, w_thenN, w_thenE, w_thenR, w_scope, w_label, w_blkN, w_blkE, w_blkR, w_call, w_effK, brU_true, brU_false, brU_u, brU_not, brU_and, brU_or, brU_dec, brU_eq, brU_ne, br_true, br_false, br_not, br_and, br_or, br_dec, br_eq, br_ne, w_getE0, w_getE1, w_setE0, w_setE1, w_dropE0, w_dropE1, w_drop0, w_drop1, w_getM0, w_getM1, w_setM0, w_setM1, ev_v, ev_c, w_putS, w_putN, w_lit, w_apU0, w_apU1, w_apU2, w_trim, enumE0, enumE1, w_callWp, w_callA0, w_callA1, w_R0, w_R1, w_R2, w_T2, w_callL, w_callT, w_T1, w_T0, o_mv, o_newnil, o_pick, o_bin, o_binN, o_neg, o_not, o_eqB, o_eqS, o_conv, o_alloc, o_box, o_load1, o_loadN, o_store, o_nilck, o_faddr, o_field1, o_fieldN, o_iaddr, o_istr, o_slStr, o_slSl, o_lenS, o_lenL, o_mx, o_mn, o_ext, o_build, o_lit, o_litOwn, o_app, o_mk, o_mvfrz, l_int, l_bool, l_str, l_agg, l_sl, l_own, l_ptr, l_pp, i_int, i_bool, i_str, i_sl, i_own, i_ptr, i_pp, all0, all1, e_ok1, eff, effBin, effBinN, ld_ptr, ld_pp, ld_elt, ia_own, ia_arr, el_1, el_N, load1K, faddrE, r_iaddr, sg_S, sg_c, sg_n, purL, pur, List.map, List.drop, List.take, List.length, List.foldl, List.append_eq, List.nil_append, List.cons_append, List.getD_cons_zero, List.getD_cons_succ, reduceIte, Nat.reduceEqDiff, Nat.reduceAdd, Nat.reduceLeDiff, true_and, and_true, Bool.not_true, Bool.not_false, Bool.and_true, Bool.true_and, Bool.and_self, reduceCtorEq, true_implies, false_implies, implies_true, decide_eq_true_eq, Option.map_some, fpOf, fpX, SOp.xs, oX, refs, refsL, dom, disj, List.all_nil, List.all_cons, List.contains_cons, List.contains_nil, Nat.reduceBEq, Bool.or_false, Bool.false_or, List.append_nil, Bool.not_false, Bool.not_true, List.forall_mem_cons, fm0, List.set, Nat.reduceLT, ne_eq, not_false_eq_true, not_true_eq_false
, ret1, ret1N, keep0, keep1, rf_int, rf_bool, rf_str, rf_sl, rf_agg, rf_tup, rfL0, rfL1, re_t, re_cN, re_L0, re_L1, ret_tup, ret_one, decide_true, AV.bool.injEq, AV.int.injEq, Nat.reduceLeDiff, Bool.true_eq, Bool.false_eq, decide_eq_true_eq, decide_eq_false_iff_not, t_iFit, t_fit, Span2.row, snoc_i, take_all, List.length_map, irow, un_stp, path_eta, rowsOf, appE, ghost, flatOk, noref, Int.toNat_natCast, Nat.zero_add, Nat.sub_zero]
  simp only [htk, snoc_i]
  have ex : k < p.fitS.length → (p.fitS.take k).map (fun s => s.lo) ++ [(p.fitS.getD k default).lo] = (p.fitS.take (k + 1)).map (fun s => s.lo) := fun h => by
    rw [List.take_succ_eq_append_getElem h, List.map_append]; congr 1; simp [h]
  refine ⟨fun h => ⟨by omega, by omega, by omega, by omega, loopK_of (k + 1) ⟨⟨.inr rfl, .inr rfl, .inr rfl, .inr rfl, trivial⟩, ⟨by rw [ex (by omega)]; rfl, trivial⟩, rfl, rfl⟩ (by omega) (by omega)⟩, fun h => ?_⟩
  rw [List.take_of_length_le (show p.fitS.length ≤ k by omega)]
def F_last (p : Path5) (k : Nat) : St := ⟨[(5, .own 123 k 0 k), (13, .sl 0 2 (p.fitS.map Span2.row)), (14, .int .i64 p.fitS.length), (15, .int .i64 k)], [(123, .arr 3 k 1 (((p.fitS.take k).map fun s => s.hi).map irow))]⟩
theorem c_last (p : Path5) (t : Nat) (hn : p.l.length ≤ 1048576) : Contract P 16 [.agg [.int .i64 p.q, .int .i64 p.s, .sl t 7 (p.l.map Stp7.row), .int .i64 p.f, .int .i64 p.b]] [] (.sl 0 1 ((p.fitS.map fun s => s.hi).map irow)) [] := by
  refine fn_sound ((Env.nil P).add 10 t_iFit h_iFit) hm k_impl_FlyLast (Nat.le_of_ble_eq_true rfl) rfl ?_
  unfold s_impl_FlyLast
  simp only [w_skip, w_rg, w_rgd, w_seq, w_cond, w_block, w_loop, w_exit, w_ret, w_gh, w_rg0, w_rg1, w_rgT, w_rgF, w_run, w_psd, w_und, w_dr0, w_dr1, w_drT, w_drF, w_drRun, w_drPsd, w_drUnd, w_drKn, w_drKs, w_putK, w_trimK, w_thenN, w_thenE, w_thenR, w_scope, w_label, w_blkN, w_blkE, w_blkR, w_call, w_effK, brU_true, brU_false, brU_u, brU_not, brU_and, brU_or, brU_dec, brU_eq, brU_ne, br_true, br_false, br_not, br_and, br_or, br_dec, br_eq, br_ne, w_getE0, w_getE1, w_setE0, w_setE1, w_dropE0, w_dropE1, w_drop0, w_drop1, w_getM0, w_getM1, w_setM0, w_setM1, ev_v, ev_c, w_putS, w_putN, w_lit, w_apU0, w_apU1, w_apU2, w_trim, enumE0, enumE1, w_callWp, w_callA0, w_callA1, w_R0, w_R1, w_R2, w_T2, w_callL, w_callT, w_T1, w_T0, o_mv, o_newnil, o_pick, o_bin, o_binN, o_neg, o_not, o_eqB, o_eqS, o_conv, o_alloc, o_box, o_load1, o_loadN, o_store, o_nilck, o_faddr, o_field1, o_fieldN, o_iaddr, o_istr, o_slStr, o_slSl, o_lenS, o_lenL, o_mx, o_mn, o_ext, o_build, o_lit, o_litOwn, o_app, o_mk, o_mvfrz, l_int, l_bool, l_str, l_agg, l_sl, l_own, l_ptr, l_pp, i_int, i_bool, i_str, i_sl, i_own, i_ptr, i_pp, all0, all1, e_ok1, eff, effBin, effBinN, ld_ptr, ld_pp, ld_elt, ia_own, ia_arr, el_1, el_N, load1K, faddrE, r_iaddr, sg_S, sg_c, sg_n, purL, pur, List.map, List.drop, List.take, List.length, List.foldl, List.append_eq, List.nil_append, List.cons_append, List.getD_cons_zero, List.getD_cons_succ, reduceIte, Nat.reduceEqDiff, Nat.reduceAdd, Nat.reduceLeDiff, true_and, and_true, Bool.not_true, Bool.not_false, Bool.and_true, Bool.true_and, Bool.and_self, reduceCtorEq, true_implies, false_implies, implies_true, decide_eq_true_eq, Option.map_some, fpOf, fpX, SOp.xs, oX, refs, refsL, dom, disj, List.all_nil, List.all_cons, List.contains_cons, List.contains_nil, Nat.reduceBEq, Bool.or_false, Bool.false_or, List.append_nil, Bool.not_false, Bool.not_true, List.forall_mem_cons, fm0, List.set, Nat.reduceLT, ne_eq, not_false_eq_true, not_true_eq_false
, ret1, ret1N, keep0, keep1, rf_int, rf_bool, rf_str, rf_sl, rf_agg, rf_tup, rfL0, rfL1, re_t, re_cN, re_L0, re_L1, ret_tup, ret_one, decide_true, AV.bool.injEq, AV.int.injEq, Nat.reduceLeDiff, Bool.true_eq, Bool.false_eq, decide_eq_true_eq, decide_eq_false_iff_not, t_iFit, t_fit, Span2.row, snoc_i, take_all, List.length_map, irow, un_stp, path_eta, rowsOf, appE, ghost, flatOk, noref, Int.toNat_natCast, Nat.zero_add, Nat.sub_zero]
  have hfl := fitS_len p
  refine loop_of (F_last p) (fun k => k ≤ p.fitS.length) (fun k => p.fitS.length - k) 0 ⟨⟨.inr rfl, .inr rfl, .inr rfl, .inr rfl, trivial⟩, ⟨rfl, trivial⟩, rfl, rfl⟩ (Nat.zero_le _) ?_
  intro k hk
  have htk : List.take k (((p.fitS.take k).map fun s => s.hi).map irow) = ((p.fitS.take k).map fun s => s.hi).map irow := List.take_of_length_le (by simp; omega)
  unfold l_impl_FlyLast_0 F_last
  simp only [w_skip, w_rg, w_rgd, w_seq, w_cond, w_block, w_loop, w_exit, w_ret, w_gh, w_rg0, w_rg1, w_rgT, w_rgF, w_run, w_psd, w_und, w_dr0, w_dr1, w_drT, w_drF, w_drRun, w_drPsd, w_drUnd, w_drKn, w_drKs, w_putK, w_trimK, w_thenN, w_thenE, w_thenR, w_scope, w_label, w_blkN, w_blkE, w_blkR, w_call, w_effK, brU_true, brU_false, brU_u, brU_not, brU_and, brU_or, brU_dec, brU_eq, brU_ne, br_true, br_false, br_not, br_and, br_or, br_dec, br_eq, br_ne, w_getE0, w_getE1, w_setE0, w_setE1, w_dropE0, w_dropE1, w_drop0, w_drop1, w_getM0, w_getM1, w_setM0, w_setM1, ev_v, ev_c, w_putS, w_putN, w_lit, w_apU0, w_apU1, w_apU2, w_trim, enumE0, enumE1, w_callWp, w_callA0, w_callA1, w_R0, w_R1, w_R2, w_T2, w_callL, w_callT, w_T1, w_T0, o_mv, o_newnil, o_pick, o_bin, o_binN, o_neg, o_not, o_eqB, o_eqS, o_conv, o_alloc, o_box, o_load1, o_loadN, o_store, o_nilck, o_faddr, o_field1, o_fieldN, o_iaddr, o_istr, o_slStr, o_slSl, o_lenS, o_lenL, o_mx, o_mn, o_ext, o_build, o_lit, o_litOwn, o_app, o_mk, o_mvfrz, l_int, l_bool, l_str, l_agg, l_sl, l_own, l_ptr, l_pp, i_int, i_bool, i_str, i_sl, i_own, i_ptr, i_pp, all0, all1, e_ok1, eff, effBin, effBinN, ld_ptr, ld_pp, ld_elt, ia_own, ia_arr, el_1, el_N, load1K, faddrE, r_iaddr, sg_S, sg_c, sg_n, purL, pur, List.map, List.drop, List.take, List.length, List.foldl, List.append_eq, List.nil_append, List.cons_append, List.getD_cons_zero, List.getD_cons_succ, reduceIte, Nat.reduceEqDiff, Nat.reduceAdd, Nat.reduceLeDiff, true_and, and_true, Bool.not_true, Bool.not_false, Bool.and_true, Bool.true_and, Bool.and_self, reduceCtorEq, true_implies, false_implies, implies_true, decide_eq_true_eq, Option.map_some, fpOf, fpX, SOp.xs, oX, refs, refsL, dom, disj, List.all_nil, List.all_cons, List.contains_cons, List.contains_nil, Nat.reduceBEq, Bool.or_false, Bool.false_or, List.append_nil, Bool.not_false, Bool.not_true, List.forall_mem_cons, fm0, List.set, Nat.reduceLT, ne_eq, not_false_eq_true, not_true_eq_false
, ret1, ret1N, keep0, keep1, rf_int, rf_bool, rf_str, rf_sl, rf_agg, rf_tup, rfL0, rfL1, re_t, re_cN, re_L0, re_L1, ret_tup, ret_one, decide_true, AV.bool.injEq, AV.int.injEq, Nat.reduceLeDiff, Bool.true_eq, Bool.false_eq, decide_eq_true_eq, decide_eq_false_iff_not, t_iFit, t_fit, Span2.row, snoc_i, take_all, List.length_map, irow, un_stp, path_eta, rowsOf, appE, ghost, flatOk, noref, Int.toNat_natCast, Nat.zero_add, Nat.sub_zero]
  simp only [htk, snoc_i]
  have ex : k < p.fitS.length → (p.fitS.take k).map (fun s => s.hi) ++ [(p.fitS.getD k default).hi] = (p.fitS.take (k + 1)).map (fun s => s.hi) := fun h => by
    rw [List.take_succ_eq_append_getElem h, List.map_append]; congr 1; simp [h]
  refine ⟨fun h => ⟨by omega, by omega, by omega, by omega, loopK_of (k + 1) ⟨⟨.inr rfl, .inr rfl, .inr rfl, .inr rfl, trivial⟩, ⟨by rw [ex (by omega)]; rfl, trivial⟩, rfl, rfl⟩ (by omega) (by omega)⟩, fun h => ?_⟩
  rw [List.take_of_length_le (show p.fitS.length ≤ k by omega)]
instance : DecidableEq Span2 := fun a b => decidable_of_iff (a.lo = b.lo ∧ a.hi = b.hi) ⟨fun h => by cases a; cases b; simp_all, fun h => by subst h; exact ⟨rfl, rfl⟩⟩
def F_wfs (t t' : Nat) (a : List Span2) (i : Nat) : St := ⟨[(0, .sl t 2 (a.map Span2.row)), (1, .sl t' 2 (a.map Span2.row)), (5, .int .i64 i)], []⟩
theorem c_wfSpans (t t' : Nat) (a : List Span2) (ha : a.length ≤ 4611686018427387904) : Contract P 12 [.sl t 2 (a.map Span2.row), .sl t' 2 (a.map Span2.row)] [] (.bool true) [] := by
  refine fn_sound (Env.nil P) Go.Ve.hm k_laws_wfSpans (Nat.le_of_ble_eq_true rfl) rfl ?_
  unfold s_laws_wfSpans
  simp only [w_skip, w_rg, w_rgd, w_seq, w_cond, w_block, w_loop, w_exit, w_ret, w_gh, w_rg0, w_rg1, w_rgT, w_rgF, w_run, w_psd, w_und, w_dr0, w_dr1, w_drT, w_drF, w_drRun, w_drPsd, w_drUnd, w_drKn, w_drKs, w_putK, w_trimK, w_thenN, w_thenE, w_thenR, w_scope, w_label, w_blkN, w_blkE, w_blkR, w_call, w_effK, brU_true, brU_false, brU_u, brU_not, brU_and, brU_or, brU_dec, brU_eq, brU_ne, br_true, br_false, br_not, br_and, br_or, br_dec, br_eq, br_ne, w_getE0, w_getE1, w_setE0, w_setE1, w_dropE0, w_dropE1, w_drop0, w_drop1, w_getM0, w_getM1, w_setM0, w_setM1, ev_v, ev_c, w_putS, w_putN, w_lit, w_apU0, w_apU1, w_apU2, w_trim, enumE0, enumE1, w_callWp, w_callA0, w_callA1, w_R0, w_R1, w_R2, w_T2, w_callL, w_callT, w_T1, w_T0, o_mv, o_newnil, o_pick, o_bin, o_binN, o_neg, o_not, o_eqB, o_eqS, o_conv, o_alloc, o_box, o_load1, o_loadN, o_store, o_nilck, o_faddr, o_field1, o_fieldN, o_iaddr, o_istr, o_slStr, o_slSl, o_lenS, o_lenL, o_mx, o_mn, o_ext, o_build, o_lit, o_litOwn, o_app, o_mk, o_mvfrz, l_int, l_bool, l_str, l_agg, l_sl, l_own, l_ptr, l_pp, i_int, i_bool, i_str, i_sl, i_own, i_ptr, i_pp, all0, all1, e_ok1, eff, effBin, effBinN, ld_ptr, ld_pp, ld_elt, ia_own, ia_arr, el_1, el_N, load1K, faddrE, r_iaddr, sg_S, sg_c, sg_n, purL, pur, List.map, List.drop, List.take, List.length, List.foldl, List.append_eq, List.nil_append, List.cons_append, List.getD_cons_zero, List.getD_cons_succ, reduceIte, Nat.reduceEqDiff, Nat.reduceAdd, Nat.reduceLeDiff, true_and, and_true, Bool.not_true, Bool.not_false, Bool.and_true, Bool.true_and, Bool.and_self, reduceCtorEq, true_implies, false_implies, implies_true, decide_eq_true_eq, Option.map_some, fpOf, fpX, SOp.xs, oX, refs, refsL, dom, disj, List.all_nil, List.all_cons, List.contains_cons, List.contains_nil, Nat.reduceBEq, Bool.or_false, Bool.false_or, List.append_nil, Bool.not_false, Bool.not_true, List.forall_mem_cons, fm0, List.set, Nat.reduceLT, ne_eq, not_false_eq_true, not_true_eq_false
, ret1, ret1N, keep0, keep1, rf_int, rf_bool, rf_str, rf_sl, rf_agg, rf_tup, rfL0, rfL1, re_t, re_cN, re_L0, re_L1, ret_tup, ret_one, decide_true, AV.bool.injEq, AV.int.injEq, Nat.reduceLeDiff, Bool.true_eq, Bool.false_eq, decide_eq_true_eq, decide_eq_false_iff_not, eq_self, bne_self_eq_false, Span2.row, List.length_map, Int.toNat_natCast, eqLs, eqLeaf, beq_self_eq_true, Bool.and_self, Bool.not_true, Option.map_some]
  refine loop_of (F_wfs t t' a) (fun k => k ≤ a.length) (fun k => a.length - k) 0 ⟨⟨.inr rfl, .inr rfl, .inr rfl, trivial⟩, trivial, rfl, rfl⟩ (Nat.zero_le _) ?_
  intro k hk
  unfold l_laws_wfSpans_0 F_wfs
  simp only [w_skip, w_rg, w_rgd, w_seq, w_cond, w_block, w_loop, w_exit, w_ret, w_gh, w_rg0, w_rg1, w_rgT, w_rgF, w_run, w_psd, w_und, w_dr0, w_dr1, w_drT, w_drF, w_drRun, w_drPsd, w_drUnd, w_drKn, w_drKs, w_putK, w_trimK, w_thenN, w_thenE, w_thenR, w_scope, w_label, w_blkN, w_blkE, w_blkR, w_call, w_effK, brU_true, brU_false, brU_u, brU_not, brU_and, brU_or, brU_dec, brU_eq, brU_ne, br_true, br_false, br_not, br_and, br_or, br_dec, br_eq, br_ne, w_getE0, w_getE1, w_setE0, w_setE1, w_dropE0, w_dropE1, w_drop0, w_drop1, w_getM0, w_getM1, w_setM0, w_setM1, ev_v, ev_c, w_putS, w_putN, w_lit, w_apU0, w_apU1, w_apU2, w_trim, enumE0, enumE1, w_callWp, w_callA0, w_callA1, w_R0, w_R1, w_R2, w_T2, w_callL, w_callT, w_T1, w_T0, o_mv, o_newnil, o_pick, o_bin, o_binN, o_neg, o_not, o_eqB, o_eqS, o_conv, o_alloc, o_box, o_load1, o_loadN, o_store, o_nilck, o_faddr, o_field1, o_fieldN, o_iaddr, o_istr, o_slStr, o_slSl, o_lenS, o_lenL, o_mx, o_mn, o_ext, o_build, o_lit, o_litOwn, o_app, o_mk, o_mvfrz, l_int, l_bool, l_str, l_agg, l_sl, l_own, l_ptr, l_pp, i_int, i_bool, i_str, i_sl, i_own, i_ptr, i_pp, all0, all1, e_ok1, eff, effBin, effBinN, ld_ptr, ld_pp, ld_elt, ia_own, ia_arr, el_1, el_N, load1K, faddrE, r_iaddr, sg_S, sg_c, sg_n, purL, pur, List.map, List.drop, List.take, List.length, List.foldl, List.append_eq, List.nil_append, List.cons_append, List.getD_cons_zero, List.getD_cons_succ, reduceIte, Nat.reduceEqDiff, Nat.reduceAdd, Nat.reduceLeDiff, true_and, and_true, Bool.not_true, Bool.not_false, Bool.and_true, Bool.true_and, Bool.and_self, reduceCtorEq, true_implies, false_implies, implies_true, decide_eq_true_eq, Option.map_some, fpOf, fpX, SOp.xs, oX, refs, refsL, dom, disj, List.all_nil, List.all_cons, List.contains_cons, List.contains_nil, Nat.reduceBEq, Bool.or_false, Bool.false_or, List.append_nil, Bool.not_false, Bool.not_true, List.forall_mem_cons, fm0, List.set, Nat.reduceLT, ne_eq, not_false_eq_true, not_true_eq_false
, ret1, ret1N, keep0, keep1, rf_int, rf_bool, rf_str, rf_sl, rf_agg, rf_tup, rfL0, rfL1, re_t, re_cN, re_L0, re_L1, ret_tup, ret_one, decide_true, AV.bool.injEq, AV.int.injEq, Nat.reduceLeDiff, Bool.true_eq, Bool.false_eq, decide_eq_true_eq, decide_eq_false_iff_not, eq_self, bne_self_eq_false, Span2.row, List.length_map, Int.toNat_natCast, eqLs, eqLeaf, beq_self_eq_true, Bool.and_self, Bool.not_true, Option.map_some]
  exact fun h => ⟨by omega, by omega, by omega, by omega, by omega, loopK_of (k + 1) ⟨⟨.inr rfl, .inr rfl, .inr rfl, trivial⟩, trivial, rfl, rfl⟩ (by omega) (by omega)⟩
end Go.Ve
namespace Go.Ve
open Go.Proofs
set_option linter.unusedSimpArgs false
set_option linter.unusedVariables false
set_option maxRecDepth 100000
set_option maxHeartbeats 4000000
def F_alw (p : Path5) (t t' : Nat) (f : List Int) (k : Nat) : St := ⟨[(1, .sl t' 1 (f.map irow)), (2, .ptr 102 0), (5, .int .i64 p.l.length), (6, .int .i64 k)], [(102, .box [.int .i64 p.q, .int .i64 p.s, .sl t 7 (p.l.map Stp7.row), .int .i64 p.f, .int .i64 p.b])]⟩
/-- One step that is allowed, by numbers that may wrap. -/
def Path5.alw (p : Path5) (f : List Int) (j : Nat) : Prop := (p.low j ≤ f.getD j default ∧ f.getD j default ≤ p.high j) ∧ p.q ≤ IntKind.i64.wrap (f.getD (j + 1) default - f.getD j default) ∧ IntKind.i64.wrap (f.getD (j + 1) default - f.getD j default) ≤ (if (p.l.getD j default).hold then 9223372036854775807 else p.s)
theorem wrap_le (a : Int) : IntKind.i64.wrap a ≤ 9223372036854775807 := by
  rw [IntWalk.i64_left]; unfold RowKit.wrap64; omega
theorem law_alw {p : Path5} {f : List Int} (h1 : pathOk p.q p.s p.l p.f p.b) (h : p.lawful f) {k : Nat} (hk : k < p.l.length) : p.alw f k := by
  have hc := ok_calm h1
  obtain ⟨_, hl, hs⟩ := h
  have a1 := (hs k (by omega)).1
  have a2 := (hs (k + 1) (by omega)).1
  have a3 := (hs (k + 1) (by omega)).2 (by omega)
  rw [show k + 1 - 1 = k by omega] at a3
  have b1 := hc.lo k (by omega)
  have b2 := hc.hi k (by omega)
  have b3 := hc.lo (k + 1) (by omega)
  have b4 := hc.hi (k + 1) (by omega)
  refine ⟨a1, ?_⟩
  rw [IntWalk.i64_in _ (by omega)]
  refine ⟨a3.1, ?_⟩
  have := a3.2
  unfold Path5.most at this
  split <;> split at this <;> simp_all <;> omega
theorem alw_law {p : Path5} {f : List Int} (h1 : pathOk p.q p.s p.l p.f p.b) (hl : f.length = p.l.length + 1) (hs : ∀ j, j < p.l.length → p.alw f j) (he : p.f ≤ f.getD p.l.length default ∧ f.getD p.l.length default ≤ p.b) : p.lawful f := by
  have hc := ok_calm h1
  have hr : ∀ j, j < f.length → p.low j ≤ f.getD j default ∧ f.getD j default ≤ p.high j := fun j hj => by
    by_cases e : j = p.l.length
    · rw [e]; unfold Path5.low Path5.high; simp only [Nat.lt_irrefl, if_false]; exact he
    · exact (hs j (by omega)).1
  refine ⟨h1, hl, fun j hj => ⟨hr j hj, fun h0 => ?_⟩⟩
  have a1 := hr j hj
  have a2 := hr (j - 1) (by omega)
  have b1 := hc.lo j (by omega)
  have b2 := hc.hi j (by omega)
  have b3 := hc.lo (j - 1) (by omega)
  have b4 := hc.hi (j - 1) (by omega)
  have a3 := (hs (j - 1) (by omega)).2
  rw [show j - 1 + 1 = j by omega, IntWalk.i64_in _ (by omega)] at a3
  refine ⟨a3.1, ?_⟩
  have := a3.2
  unfold Path5.most
  cases hd : (p.l.getD (j - 1) default).hold <;> rw [hd] at this <;> simp only [Bool.false_eq_true, if_false, if_true] at this ⊢ <;> omega
theorem c_wfAllowed (p : Path5) (t t' : Nat) (f : List Int) (h1 : pathOk p.q p.s p.l p.f p.b) : Contract P 17 [.agg [.int .i64 p.q, .int .i64 p.s, .sl t 7 (p.l.map Stp7.row), .int .i64 p.f, .int .i64 p.b], .sl t' 1 (f.map irow)] [] (.bool (decide (p.lawful f))) [] := by
  refine fn_sound (Env.nil P) Go.Ve.hm k_laws_wfAllowed (Nat.le_of_ble_eq_true rfl) rfl ?_
  unfold s_laws_wfAllowed
  have hn := h1.2.1
  have hw0 : IntKind.i64.wrap ((p.l.length : Int) + 1) = p.l.length + 1 := wrap_succ (by omega)
  simp only [w_skip, w_rg, w_rgd, w_seq, w_cond, w_block, w_loop, w_exit, w_ret, w_gh, w_rg0, w_rg1, w_rgT, w_rgF, w_run, w_psd, w_und, w_dr0, w_dr1, w_drT, w_drF, w_drRun, w_drPsd, w_drUnd, w_drKn, w_drKs, w_putK, w_trimK, w_thenN, w_thenE, w_thenR, w_scope, w_label, w_blkN, w_blkE, w_blkR, w_call, w_effK, brU_true, brU_false, brU_u, brU_not, brU_and, brU_or, brU_dec, brU_eq, brU_ne, br_true, br_false, br_not, br_and, br_or, br_dec, br_eq, br_ne, w_getE0, w_getE1, w_setE0, w_setE1, w_dropE0, w_dropE1, w_drop0, w_drop1, w_getM0, w_getM1, w_setM0, w_setM1, ev_v, ev_c, w_putS, w_putN, w_lit, w_apU0, w_apU1, w_apU2, w_trim, enumE0, enumE1, w_callWp, w_callA0, w_callA1, w_R0, w_R1, w_R2, w_T2, w_callL, w_callT, w_T1, w_T0, o_mv, o_newnil, o_pick, o_bin, o_binN, o_neg, o_not, o_eqB, o_eqS, o_conv, o_alloc, o_box, o_load1, o_loadN, o_store, o_nilck, o_faddr, o_field1, o_fieldN, o_iaddr, o_istr, o_slStr, o_slSl, o_lenS, o_lenL, o_mx, o_mn, o_ext, o_build, o_lit, o_litOwn, o_app, o_mk, o_mvfrz, l_int, l_bool, l_str, l_agg, l_sl, l_own, l_ptr, l_pp, i_int, i_bool, i_str, i_sl, i_own, i_ptr, i_pp, all0, all1, e_ok1, eff, effBin, effBinN, ld_ptr, ld_pp, ld_elt, ia_own, ia_arr, el_1, el_N, load1K, faddrE, r_iaddr, sg_S, sg_c, sg_n, purL, pur, List.map, List.drop, List.take, List.length, List.foldl, List.append_eq, List.nil_append, List.cons_append, List.getD_cons_zero, List.getD_cons_succ, reduceIte, Nat.reduceEqDiff, Nat.reduceAdd, Nat.reduceLeDiff, true_and, and_true, Bool.not_true, Bool.not_false, Bool.and_true, Bool.true_and, Bool.and_self, reduceCtorEq, true_implies, false_implies, implies_true, decide_eq_true_eq, Option.map_some, fpOf, fpX, SOp.xs, oX, refs, refsL, dom, disj, List.all_nil, List.all_cons, List.contains_cons, List.contains_nil, Nat.reduceBEq, Bool.or_false, Bool.false_or, List.append_nil, Bool.not_false, Bool.not_true, List.forall_mem_cons, fm0, List.set, Nat.reduceLT, ne_eq, not_false_eq_true, not_true_eq_false
, ret1, ret1N, keep0, keep1, rf_int, rf_bool, rf_str, rf_sl, rf_agg, rf_tup, rfL0, rfL1, re_t, re_cN, re_L0, re_L1, ret_tup, ret_one, decide_true, AV.bool.injEq, AV.int.injEq, Nat.reduceLeDiff, Bool.true_eq, Bool.false_eq, decide_eq_true_eq, decide_eq_false_iff_not, hw0, Stp7.row, irow, List.length_map, un_stp, path_eta, flatOk, noref, ghost, Int.toNat_natCast, Nat.zero_add, Nat.sub_zero]
  refine ⟨fun h2 h => h2 (by have := h.2.1; omega), fun h2 => ?_⟩
  have hc := ok_calm h1
  have hl : f.length = p.l.length + 1 := by omega
  refine loop_of (F_alw p t t' f) (fun k => k ≤ p.l.length ∧ ∀ j, j < k → p.alw f j) (fun k => p.l.length - k) 0 ⟨⟨.inr rfl, .inr rfl, .inr rfl, .inr rfl, trivial⟩, ⟨rfl, trivial⟩, rfl, rfl⟩ ⟨Nat.zero_le _, fun j hj => by omega⟩ ?_
  rintro k ⟨hk, hs⟩
  have hw1 : IntKind.i64.wrap ((k : Int) + 1) = k + 1 := wrap_succ (by omega)
  cases hh : (p.l.getD k default).hold with
  | false =>
    unfold l_laws_wfAllowed_0 F_alw
    simp only [w_skip, w_rg, w_rgd, w_seq, w_cond, w_block, w_loop, w_exit, w_ret, w_gh, w_rg0, w_rg1, w_rgT, w_rgF, w_run, w_psd, w_und, w_dr0, w_dr1, w_drT, w_drF, w_drRun, w_drPsd, w_drUnd, w_drKn, w_drKs, w_putK, w_trimK, w_thenN, w_thenE, w_thenR, w_scope, w_label, w_blkN, w_blkE, w_blkR, w_call, w_effK, brU_true, brU_false, brU_u, brU_not, brU_and, brU_or, brU_dec, brU_eq, brU_ne, br_true, br_false, br_not, br_and, br_or, br_dec, br_eq, br_ne, w_getE0, w_getE1, w_setE0, w_setE1, w_dropE0, w_dropE1, w_drop0, w_drop1, w_getM0, w_getM1, w_setM0, w_setM1, ev_v, ev_c, w_putS, w_putN, w_lit, w_apU0, w_apU1, w_apU2, w_trim, enumE0, enumE1, w_callWp, w_callA0, w_callA1, w_R0, w_R1, w_R2, w_T2, w_callL, w_callT, w_T1, w_T0, o_mv, o_newnil, o_pick, o_bin, o_binN, o_neg, o_not, o_eqB, o_eqS, o_conv, o_alloc, o_box, o_load1, o_loadN, o_store, o_nilck, o_faddr, o_field1, o_fieldN, o_iaddr, o_istr, o_slStr, o_slSl, o_lenS, o_lenL, o_mx, o_mn, o_ext, o_build, o_lit, o_litOwn, o_app, o_mk, o_mvfrz, l_int, l_bool, l_str, l_agg, l_sl, l_own, l_ptr, l_pp, i_int, i_bool, i_str, i_sl, i_own, i_ptr, i_pp, all0, all1, e_ok1, eff, effBin, effBinN, ld_ptr, ld_pp, ld_elt, ia_own, ia_arr, el_1, el_N, load1K, faddrE, r_iaddr, sg_S, sg_c, sg_n, purL, pur, List.map, List.drop, List.take, List.length, List.foldl, List.append_eq, List.nil_append, List.cons_append, List.getD_cons_zero, List.getD_cons_succ, reduceIte, Nat.reduceEqDiff, Nat.reduceAdd, Nat.reduceLeDiff, true_and, and_true, Bool.not_true, Bool.not_false, Bool.and_true, Bool.true_and, Bool.and_self, reduceCtorEq, true_implies, false_implies, implies_true, decide_eq_true_eq, Option.map_some, fpOf, fpX, SOp.xs, oX, refs, refsL, dom, disj, List.all_nil, List.all_cons, List.contains_cons, List.contains_nil, Nat.reduceBEq, Bool.or_false, Bool.false_or, List.append_nil, Bool.not_false, Bool.not_true, List.forall_mem_cons, fm0, List.set, Nat.reduceLT, ne_eq, not_false_eq_true, not_true_eq_false
, ret1, ret1N, keep0, keep1, rf_int, rf_bool, rf_str, rf_sl, rf_agg, rf_tup, rfL0, rfL1, re_t, re_cN, re_L0, re_L1, ret_tup, ret_one, decide_true, AV.bool.injEq, AV.int.injEq, Nat.reduceLeDiff, Bool.true_eq, Bool.false_eq, decide_eq_true_eq, decide_eq_false_iff_not, toNat_succ, hw1, Stp7.row, irow, List.length_map, un_stp, path_eta, flatOk, noref, ghost, Int.toNat_natCast, Nat.zero_add, Nat.sub_zero, hh]
    have hlow : p.low k = (p.l.getD k default).f ∨ ¬ k < p.l.length := by by_cases h : k < p.l.length <;> simp [Path5.low, h]
    have hhigh : p.high k = (p.l.getD k default).b ∨ ¬ k < p.l.length := by by_cases h : k < p.l.length <;> simp [Path5.high, h]
    have nx : ∀ (h : p.alw f k), ∀ j, j < k + 1 → p.alw f j := fun h j hj => by
      by_cases e : j = k
      · rw [e]; exact h
      · exact hs j (by omega)
    refine ⟨fun h3 => ⟨by omega, by omega, by omega, by omega, fun h4 h => by have := (law_alw h1 h (k := k) (by omega)).1; omega, fun h4 => ⟨by omega, by omega, fun h5 h => by have := (law_alw h1 h (k := k) (by omega)).1; omega, fun h5 => ⟨by omega, by omega, by omega, by omega, fun h6 h => by have := (law_alw h1 h (k := k) (by omega)).2.1; omega, fun h6 => ⟨by omega, by omega, by omega, by omega, fun h7 h => by have := (law_alw h1 h (k := k) (by omega)).2.2; rw [hh] at this; simp only [Bool.false_eq_true, if_false] at this; omega, fun h7 => loopK_of (k + 1) ⟨⟨.inr rfl, .inr rfl, .inr rfl, .inr rfl, trivial⟩, ⟨rfl, trivial⟩, rfl, rfl⟩ ⟨by omega, nx ⟨⟨by omega, by omega⟩, by omega, by rw [hh]; simp only [Bool.false_eq_true, if_false]; omega⟩⟩ (by omega)⟩⟩⟩⟩, fun h3 => ?_⟩
    have e : k = p.l.length := by omega
    refine ⟨by omega, by omega, fun h4 => ⟨by omega, by omega, decide_eq_decide.2 ⟨fun h5 => alw_law h1 hl (fun j hj => hs j (by omega)) ⟨h4, h5⟩, fun h => ?_⟩⟩, fun h4 h => h4 ?_⟩
    · have := (h.2.2 p.l.length (by omega)).1.2
      unfold Path5.high at this; simpa using this
    · have := (h.2.2 p.l.length (by omega)).1.1
      unfold Path5.low at this; simpa using this
  | true =>
    unfold l_laws_wfAllowed_0 F_alw
    simp only [w_skip, w_rg, w_rgd, w_seq, w_cond, w_block, w_loop, w_exit, w_ret, w_gh, w_rg0, w_rg1, w_rgT, w_rgF, w_run, w_psd, w_und, w_dr0, w_dr1, w_drT, w_drF, w_drRun, w_drPsd, w_drUnd, w_drKn, w_drKs, w_putK, w_trimK, w_thenN, w_thenE, w_thenR, w_scope, w_label, w_blkN, w_blkE, w_blkR, w_call, w_effK, brU_true, brU_false, brU_u, brU_not, brU_and, brU_or, brU_dec, brU_eq, brU_ne, br_true, br_false, br_not, br_and, br_or, br_dec, br_eq, br_ne, w_getE0, w_getE1, w_setE0, w_setE1, w_dropE0, w_dropE1, w_drop0, w_drop1, w_getM0, w_getM1, w_setM0, w_setM1, ev_v, ev_c, w_putS, w_putN, w_lit, w_apU0, w_apU1, w_apU2, w_trim, enumE0, enumE1, w_callWp, w_callA0, w_callA1, w_R0, w_R1, w_R2, w_T2, w_callL, w_callT, w_T1, w_T0, o_mv, o_newnil, o_pick, o_bin, o_binN, o_neg, o_not, o_eqB, o_eqS, o_conv, o_alloc, o_box, o_load1, o_loadN, o_store, o_nilck, o_faddr, o_field1, o_fieldN, o_iaddr, o_istr, o_slStr, o_slSl, o_lenS, o_lenL, o_mx, o_mn, o_ext, o_build, o_lit, o_litOwn, o_app, o_mk, o_mvfrz, l_int, l_bool, l_str, l_agg, l_sl, l_own, l_ptr, l_pp, i_int, i_bool, i_str, i_sl, i_own, i_ptr, i_pp, all0, all1, e_ok1, eff, effBin, effBinN, ld_ptr, ld_pp, ld_elt, ia_own, ia_arr, el_1, el_N, load1K, faddrE, r_iaddr, sg_S, sg_c, sg_n, purL, pur, List.map, List.drop, List.take, List.length, List.foldl, List.append_eq, List.nil_append, List.cons_append, List.getD_cons_zero, List.getD_cons_succ, reduceIte, Nat.reduceEqDiff, Nat.reduceAdd, Nat.reduceLeDiff, true_and, and_true, Bool.not_true, Bool.not_false, Bool.and_true, Bool.true_and, Bool.and_self, reduceCtorEq, true_implies, false_implies, implies_true, decide_eq_true_eq, Option.map_some, fpOf, fpX, SOp.xs, oX, refs, refsL, dom, disj, List.all_nil, List.all_cons, List.contains_cons, List.contains_nil, Nat.reduceBEq, Bool.or_false, Bool.false_or, List.append_nil, Bool.not_false, Bool.not_true, List.forall_mem_cons, fm0, List.set, Nat.reduceLT, ne_eq, not_false_eq_true, not_true_eq_false
, ret1, ret1N, keep0, keep1, rf_int, rf_bool, rf_str, rf_sl, rf_agg, rf_tup, rfL0, rfL1, re_t, re_cN, re_L0, re_L1, ret_tup, ret_one, decide_true, AV.bool.injEq, AV.int.injEq, Nat.reduceLeDiff, Bool.true_eq, Bool.false_eq, decide_eq_true_eq, decide_eq_false_iff_not, toNat_succ, hw1, Stp7.row, irow, List.length_map, un_stp, path_eta, flatOk, noref, ghost, Int.toNat_natCast, Nat.zero_add, Nat.sub_zero, hh]
    have hlow : p.low k = (p.l.getD k default).f ∨ ¬ k < p.l.length := by by_cases h : k < p.l.length <;> simp [Path5.low, h]
    have hhigh : p.high k = (p.l.getD k default).b ∨ ¬ k < p.l.length := by by_cases h : k < p.l.length <;> simp [Path5.high, h]
    have nx : ∀ (h : p.alw f k), ∀ j, j < k + 1 → p.alw f j := fun h j hj => by
      by_cases e : j = k
      · rw [e]; exact h
      · exact hs j (by omega)
    refine ⟨fun h3 => ⟨by omega, by omega, by omega, by omega, fun h4 h => by have := (law_alw h1 h (k := k) (by omega)).1; omega, fun h4 => ⟨by omega, by omega, fun h5 h => by have := (law_alw h1 h (k := k) (by omega)).1; omega, fun h5 => ⟨by omega, by omega, by omega, by omega, fun h6 h => by have := (law_alw h1 h (k := k) (by omega)).2.1; omega, fun h6 => loopK_of (k + 1) ⟨⟨.inr rfl, .inr rfl, .inr rfl, .inr rfl, trivial⟩, ⟨rfl, trivial⟩, rfl, rfl⟩ ⟨by omega, nx ⟨⟨by omega, by omega⟩, by omega, by rw [hh]; simp only [if_true]; exact (wrap_le _)⟩⟩ (by omega)⟩⟩⟩, fun h3 => ?_⟩
    have e : k = p.l.length := by omega
    refine ⟨by omega, by omega, fun h4 => ⟨by omega, by omega, decide_eq_decide.2 ⟨fun h5 => alw_law h1 hl (fun j hj => hs j (by omega)) ⟨h4, h5⟩, fun h => ?_⟩⟩, fun h4 h => h4 ?_⟩
    · have := (h.2.2 p.l.length (by omega)).1.2
      unfold Path5.high at this; simpa using this
    · have := (h.2.2 p.l.length (by omega)).1.1
      unfold Path5.low at this; simpa using this
end Go.Ve
namespace Go.Ve
open Go.Proofs
set_option linter.unusedSimpArgs false
set_option linter.unusedVariables false
set_option maxRecDepth 100000
set_option maxHeartbeats 8000000
def t_first : List AV → Option (Prop × AV)
  | [.agg [.int .i64 q, .int .i64 s, .sl _ 7 xs, .int .i64 f, .int .i64 b]] => some ((xs.map unStp).map Stp7.row = xs ∧ (xs.map unStp).length ≤ 1048576, .sl 0 1 (((Path5.mk q s (xs.map unStp) f b).fitS.map fun s => s.lo).map irow))
  | _ => none
theorem h_first : ∀ args p v, t_first args = some (p, v) → p → Contract P 15 args [] v [] ∧ noref v = true ∧ No99 v := by
  intro args p v h1 h2
  unfold t_first at h1
  split at h1
  · rename_i q s t xs f b
    cases h1
    have := c_first ⟨q, s, xs.map unStp, f, b⟩ t h2.2
    simp only [h2.1] at this
    exact ⟨this, rfl, by omega, no99_i _⟩
  · cases h1
def t_last : List AV → Option (Prop × AV)
  | [.agg [.int .i64 q, .int .i64 s, .sl _ 7 xs, .int .i64 f, .int .i64 b]] => some ((xs.map unStp).map Stp7.row = xs ∧ (xs.map unStp).length ≤ 1048576, .sl 0 1 (((Path5.mk q s (xs.map unStp) f b).fitS.map fun s => s.hi).map irow))
  | _ => none
theorem h_last : ∀ args p v, t_last args = some (p, v) → p → Contract P 16 args [] v [] ∧ noref v = true ∧ No99 v := by
  intro args p v h1 h2
  unfold t_last at h1
  split at h1
  · rename_i q s t xs f b
    cases h1
    have := c_last ⟨q, s, xs.map unStp, f, b⟩ t h2.2
    simp only [h2.1] at this
    exact ⟨this, rfl, by omega, no99_i _⟩
  · cases h1
def unSpan : List AV → Span2
  | [.int _ a, .int _ b] => ⟨a, b⟩
  | _ => default
theorem un_span (l : List Span2) : (l.map Span2.row).map unSpan = l := by
  rw [List.map_map]; exact List.map_id'' (fun s => rfl) l
def t_wfs : List AV → Option (Prop × AV)
  | [.sl _ 2 xs, .sl _ 2 ys] => some (((xs.map unSpan).map Span2.row = xs ∧ ys = xs) ∧ (xs.map unSpan).length ≤ 4611686018427387904, .bool true)
  | _ => none
theorem h_wfs : ∀ args p v, t_wfs args = some (p, v) → p → Contract P 12 args [] v [] ∧ noref v = true ∧ No99 v := by
  intro args p v h1 h2
  unfold t_wfs at h1
  split at h1
  · rename_i t xs t' ys
    cases h1
    obtain ⟨⟨h3, rfl⟩, h4⟩ := h2
    have := c_wfSpans t t' (ys.map unSpan) h4
    simp only [h3] at this
    exact ⟨this, rfl, trivial⟩
  · cases h1
def t_alw : List AV → Option (Prop × AV)
  | [.agg [.int .i64 q, .int .i64 s, .sl _ 7 xs, .int .i64 f, .int .i64 b], .sl _ 1 ys] => some (((xs.map unStp).map Stp7.row = xs ∧ (ys.map unI).map irow = ys) ∧ pathOk q s (xs.map unStp) f b, .bool (decide (Path5.lawful ⟨q, s, xs.map unStp, f, b⟩ (ys.map unI))))
  | _ => none
theorem h_alw : ∀ args p v, t_alw args = some (p, v) → p → Contract P 17 args [] v [] ∧ noref v = true ∧ No99 v := by
  intro args p v h1 h2
  unfold t_alw at h1
  split at h1
  · rename_i q s t xs f b t' ys
    cases h1
    have := c_wfAllowed ⟨q, s, xs.map unStp, f, b⟩ t t' (ys.map unI) h2.2
    simp only [h2.1.1, h2.1.2] at this
    exact ⟨this, rfl, trivial⟩
  · cases h1
/-- The plain law. -/
theorem spans_law {p : Path5} (h : p.fit) : p.fitS.length = p.l.length + 1 ∧ (∀ k, k < p.l.length + 1 → p.fitS.getD k default = p.span k) ∧ p.lawful (p.fitS.map fun s => s.lo) ∧ p.lawful (p.fitS.map fun s => s.hi) := by
  have hq : p.q ≤ p.s ∧ p.q ≤ 10000 := by have := h.1.1; omega
  have e : p.fitS = (List.range (p.l.length + 1)).map p.span := by rw [Path5.fitS, if_pos h.1]; exact if_pos h.2
  have hl : p.fitS.length = p.l.length + 1 := by rw [e]; simp
  have hg : ∀ k, k < p.l.length + 1 → p.fitS.getD k default = p.span k := fun k hk => by rw [e]; exact getD_range hk
  have hm : ∀ (g : Span2 → Int) k, k < p.l.length + 1 → (p.fitS.map g).getD k default = g (p.span k) := fun g k hk => by
    rw [← hg k hk]; simp [hl, hk]
  have key : ∀ (g : Span2 → Int), p.flight (fun k => g (p.span k)) → p.lawful (p.fitS.map g) := fun g hfl => by
    refine ⟨h.1, by rw [List.length_map, hl], fun j hj => ?_⟩
    rw [List.length_map, hl] at hj
    refine ⟨by rw [hm g j hj]; exact hfl.1 j (by omega), fun h0 => ?_⟩
    rw [hm g j hj, hm g (j - 1) (by omega)]
    have := hfl.2 (j - 1) (by omega)
    rwa [show j - 1 + 1 = j by omega] at this
  exact ⟨hl, hg, key _ (first_flight hq h.2), key _ (last_flight hq h.2)⟩
theorem lawful_flight {p : Path5} {f : List Int} (h : p.lawful f) : p.flight fun k => f.getD k default := by
  obtain ⟨_, hl, hs⟩ := h
  refine ⟨fun k hk => (hs k (by omega)).1, fun k hk => ?_⟩
  have := (hs (k + 1) (by omega)).2 (by omega)
  rwa [show k + 1 - 1 = k by omega] at this
theorem lawful_fit {p : Path5} {f : List Int} (h : p.lawful f) : p.fit := ⟨h.1, flight_can (lawful_flight h)⟩
theorem fitS_nil {p : Path5} (h : ¬ p.fit) : p.fitS = [] := by
  unfold Path5.fitS
  split
  · rename_i h1
    unfold Path5.spans
    rw [if_neg fun h2 => h ⟨h1, h2⟩]
  · rfl
def F_spl (p : Path5) (f : List Int) (b : Bool) (k : Nat) : St := ⟨[(3, .ptr 103 0), (4, .sl 0 1 (f.map irow)), (5, .sl 0 2 (p.fitS.map Span2.row)), (9, .sl 0 1 ((p.fitS.map fun s => s.lo).map irow)), (10, .sl 0 1 ((p.fitS.map fun s => s.hi).map irow)), (11, .bool b), (12, .int .i64 k)], [(103, .box [.int .i64 p.q, .int .i64 p.s, .sl 0 7 (p.l.map Stp7.row), .int .i64 p.f, .int .i64 p.b])]⟩
theorem getD_map {α : Type} [Inhabited α] {l : List α} {g : α → Int} {k : Nat} (h : k < l.length) : (l.map g).getD k default = g (l.getD k default) := by simp [h]
theorem c_FnFlySpans (cs : List Nat) (hcs : ∀ b ∈ cs, b ≤ 255) (hl : cs.length ≤ 9223372036854775807) : Contract P 3 [.sl 1 1 (cs.map brow)] [] (.bool true) [] := by
  refine fn_sound (((((((((Env.nil P).add 10 t_iFit h_iFit).add 11 t_sFit h_sFit).add 12 t_wfs h_wfs).add 13 t_iLawful h_iLawful).add 14 t_sLawful h_sLawful).add 15 t_first h_first).add 16 t_last h_last).add 17 t_alw h_alw) Go.Ve.hm k_laws_FnFlySpans (Nat.le_of_ble_eq_true rfl) rfl ?_
  unfold s_laws_FnFlySpans
  have hz : ((0 : Nat) : Int) = 0 := rfl
  by_cases hle : (1048576 : Int) < cs.length
  · simp only [w_skip, w_rg, w_rgd, w_seq, w_cond, w_block, w_loop, w_exit, w_ret, w_gh, w_rg0, w_rg1, w_rgT, w_rgF, w_run, w_psd, w_und, w_dr0, w_dr1, w_drT, w_drF, w_drRun, w_drPsd, w_drUnd, w_drKn, w_drKs, w_putK, w_trimK, w_thenN, w_thenE, w_thenR, w_scope, w_label, w_blkN, w_blkE, w_blkR, w_call, w_effK, brU_true, brU_false, brU_u, brU_not, brU_and, brU_or, brU_dec, brU_eq, brU_ne, br_true, br_false, br_not, br_and, br_or, br_dec, br_eq, br_ne, w_getE0, w_getE1, w_setE0, w_setE1, w_dropE0, w_dropE1, w_drop0, w_drop1, w_getM0, w_getM1, w_setM0, w_setM1, ev_v, ev_c, w_putS, w_putN, w_lit, w_apU0, w_apU1, w_apU2, w_trim, enumE0, enumE1, w_callWp, w_callA0, w_callA1, w_R0, w_R1, w_R2, w_T2, w_callL, w_callT, w_T1, w_T0, o_mv, o_newnil, o_pick, o_bin, o_binN, o_neg, o_not, o_eqB, o_eqS, o_conv, o_alloc, o_box, o_load1, o_loadN, o_store, o_nilck, o_faddr, o_field1, o_fieldN, o_iaddr, o_istr, o_slStr, o_slSl, o_lenS, o_lenL, o_mx, o_mn, o_ext, o_build, o_lit, o_litOwn, o_app, o_mk, o_mvfrz, l_int, l_bool, l_str, l_agg, l_sl, l_own, l_ptr, l_pp, i_int, i_bool, i_str, i_sl, i_own, i_ptr, i_pp, all0, all1, e_ok1, eff, effBin, effBinN, ld_ptr, ld_pp, ld_elt, ia_own, ia_arr, el_1, el_N, load1K, faddrE, r_iaddr, sg_S, sg_c, sg_n, purL, pur, List.map, List.drop, List.take, List.length, List.foldl, List.append_eq, List.nil_append, List.cons_append, List.getD_cons_zero, List.getD_cons_succ, reduceIte, Nat.reduceEqDiff, Nat.reduceAdd, Nat.reduceLeDiff, true_and, and_true, Bool.not_true, Bool.not_false, Bool.and_true, Bool.true_and, Bool.and_self, reduceCtorEq, true_implies, false_implies, implies_true, decide_eq_true_eq, Option.map_some, fpOf, fpX, SOp.xs, oX, refs, refsL, dom, disj, List.all_nil, List.all_cons, List.contains_cons, List.contains_nil, Nat.reduceBEq, Bool.or_false, Bool.false_or, List.append_nil, Bool.not_false, Bool.not_true, List.forall_mem_cons, fm0, List.set, Nat.reduceLT, ne_eq, not_false_eq_true, not_true_eq_false
, ret1, ret1N, keep0, keep1, rf_int, rf_bool, rf_str, rf_sl, rf_agg, rf_tup, rfL0, rfL1, re_t, re_cN, re_L0, re_L1, ret_tup, ret_one, decide_true, AV.bool.injEq, AV.int.injEq, Nat.reduceLeDiff, Bool.true_eq, Bool.false_eq, decide_eq_true_eq, decide_eq_false_iff_not, t_iFit, t_sFit, t_wfs, t_iLawful, t_sLawful, t_first, t_last, t_alw, hle, t_fit, t_lawful, brow, un_span, Span2.row, eq_self, beq_self_eq_true, bne_self_eq_false, decide_false, hz, List.length_nil, Path5.av, retG_ret, ghost, retQ_eq, retOk, wkM, refsInO, keepB, re_tup, or_t, Int.toNat_natCast, noref, flatOk, List.length_map, Stp7.row, irow, un_stp, un_i, set_f, set_b, List.length_set, take_all, path_eta, true_and, rowsOf, appE]
  simp only [w_skip, w_rg, w_rgd, w_seq, w_cond, w_block, w_loop, w_exit, w_ret, w_gh, w_rg0, w_rg1, w_rgT, w_rgF, w_run, w_psd, w_und, w_dr0, w_dr1, w_drT, w_drF, w_drRun, w_drPsd, w_drUnd, w_drKn, w_drKs, w_putK, w_trimK, w_thenN, w_thenE, w_thenR, w_scope, w_label, w_blkN, w_blkE, w_blkR, w_call, w_effK, brU_true, brU_false, brU_u, brU_not, brU_and, brU_or, brU_dec, brU_eq, brU_ne, br_true, br_false, br_not, br_and, br_or, br_dec, br_eq, br_ne, w_getE0, w_getE1, w_setE0, w_setE1, w_dropE0, w_dropE1, w_drop0, w_drop1, w_getM0, w_getM1, w_setM0, w_setM1, ev_v, ev_c, w_putS, w_putN, w_lit, w_apU0, w_apU1, w_apU2, w_trim, enumE0, enumE1, w_callWp, w_callA0, w_callA1, w_R0, w_R1, w_R2, w_T2, w_callL, w_callT, w_T1, w_T0, o_mv, o_newnil, o_pick, o_bin, o_binN, o_neg, o_not, o_eqB, o_eqS, o_conv, o_alloc, o_box, o_load1, o_loadN, o_store, o_nilck, o_faddr, o_field1, o_fieldN, o_iaddr, o_istr, o_slStr, o_slSl, o_lenS, o_lenL, o_mx, o_mn, o_ext, o_build, o_lit, o_litOwn, o_app, o_mk, o_mvfrz, l_int, l_bool, l_str, l_agg, l_sl, l_own, l_ptr, l_pp, i_int, i_bool, i_str, i_sl, i_own, i_ptr, i_pp, all0, all1, e_ok1, eff, effBin, effBinN, ld_ptr, ld_pp, ld_elt, ia_own, ia_arr, el_1, el_N, load1K, faddrE, r_iaddr, sg_S, sg_c, sg_n, purL, pur, List.map, List.drop, List.take, List.length, List.foldl, List.append_eq, List.nil_append, List.cons_append, List.getD_cons_zero, List.getD_cons_succ, reduceIte, Nat.reduceEqDiff, Nat.reduceAdd, Nat.reduceLeDiff, true_and, and_true, Bool.not_true, Bool.not_false, Bool.and_true, Bool.true_and, Bool.and_self, reduceCtorEq, true_implies, false_implies, implies_true, decide_eq_true_eq, Option.map_some, fpOf, fpX, SOp.xs, oX, refs, refsL, dom, disj, List.all_nil, List.all_cons, List.contains_cons, List.contains_nil, Nat.reduceBEq, Bool.or_false, Bool.false_or, List.append_nil, Bool.not_false, Bool.not_true, List.forall_mem_cons, fm0, List.set, Nat.reduceLT, ne_eq, not_false_eq_true, not_true_eq_false
, ret1, ret1N, keep0, keep1, rf_int, rf_bool, rf_str, rf_sl, rf_agg, rf_tup, rfL0, rfL1, re_t, re_cN, re_L0, re_L1, ret_tup, ret_one, decide_true, AV.bool.injEq, AV.int.injEq, Nat.reduceLeDiff, Bool.true_eq, Bool.false_eq, decide_eq_true_eq, decide_eq_false_iff_not, t_iFit, t_sFit, t_wfs, t_iLawful, t_sLawful, t_first, t_last, t_alw, hle, t_fit, t_lawful, brow, un_span, Span2.row, eq_self, beq_self_eq_true, bne_self_eq_false, decide_false, hz, List.length_nil, Path5.av, retG_ret, ghost, retQ_eq, retOk, wkM, refsInO, keepB, re_tup, or_t, Int.toNat_natCast, noref, flatOk, List.length_map, Stp7.row, irow, un_stp, un_i, set_f, set_b, List.length_set, take_all, path_eta, true_and, rowsOf, appE]
  obtain ⟨⟨p, f⟩, ⟨hp, hf⟩, hC⟩ := c_drawLawful cs hcs (by omega)
  simp only at hp hf
  refine ⟨_, _, .inr (.inl ⟨rfl, _, rfl, hC, rfl, ⟨no99_av _, ⟨by omega, no99_i _⟩, trivial⟩⟩), ?_⟩
  by_cases hfit : p.fit
  · obtain ⟨h1, h2, h3, h4⟩ := spans_law hfit
    have hcast : ((p.l.length + 1 : Nat) : Int) = (p.l.length : Int) + 1 := by omega
    by_cases hlaw : p.lawful f
    · simp only [w_skip, w_rg, w_rgd, w_seq, w_cond, w_block, w_loop, w_exit, w_ret, w_gh, w_rg0, w_rg1, w_rgT, w_rgF, w_run, w_psd, w_und, w_dr0, w_dr1, w_drT, w_drF, w_drRun, w_drPsd, w_drUnd, w_drKn, w_drKs, w_putK, w_trimK, w_thenN, w_thenE, w_thenR, w_scope, w_label, w_blkN, w_blkE, w_blkR, w_call, w_effK, brU_true, brU_false, brU_u, brU_not, brU_and, brU_or, brU_dec, brU_eq, brU_ne, br_true, br_false, br_not, br_and, br_or, br_dec, br_eq, br_ne, w_getE0, w_getE1, w_setE0, w_setE1, w_dropE0, w_dropE1, w_drop0, w_drop1, w_getM0, w_getM1, w_setM0, w_setM1, ev_v, ev_c, w_putS, w_putN, w_lit, w_apU0, w_apU1, w_apU2, w_trim, enumE0, enumE1, w_callWp, w_callA0, w_callA1, w_R0, w_R1, w_R2, w_T2, w_callL, w_callT, w_T1, w_T0, o_mv, o_newnil, o_pick, o_bin, o_binN, o_neg, o_not, o_eqB, o_eqS, o_conv, o_alloc, o_box, o_load1, o_loadN, o_store, o_nilck, o_faddr, o_field1, o_fieldN, o_iaddr, o_istr, o_slStr, o_slSl, o_lenS, o_lenL, o_mx, o_mn, o_ext, o_build, o_lit, o_litOwn, o_app, o_mk, o_mvfrz, l_int, l_bool, l_str, l_agg, l_sl, l_own, l_ptr, l_pp, i_int, i_bool, i_str, i_sl, i_own, i_ptr, i_pp, all0, all1, e_ok1, eff, effBin, effBinN, ld_ptr, ld_pp, ld_elt, ia_own, ia_arr, el_1, el_N, load1K, faddrE, r_iaddr, sg_S, sg_c, sg_n, purL, pur, List.map, List.drop, List.take, List.length, List.foldl, List.append_eq, List.nil_append, List.cons_append, List.getD_cons_zero, List.getD_cons_succ, reduceIte, Nat.reduceEqDiff, Nat.reduceAdd, Nat.reduceLeDiff, true_and, and_true, Bool.not_true, Bool.not_false, Bool.and_true, Bool.true_and, Bool.and_self, reduceCtorEq, true_implies, false_implies, implies_true, decide_eq_true_eq, Option.map_some, fpOf, fpX, SOp.xs, oX, refs, refsL, dom, disj, List.all_nil, List.all_cons, List.contains_cons, List.contains_nil, Nat.reduceBEq, Bool.or_false, Bool.false_or, List.append_nil, Bool.not_false, Bool.not_true, List.forall_mem_cons, fm0, List.set, Nat.reduceLT, ne_eq, not_false_eq_true, not_true_eq_false
, ret1, ret1N, keep0, keep1, rf_int, rf_bool, rf_str, rf_sl, rf_agg, rf_tup, rfL0, rfL1, re_t, re_cN, re_L0, re_L1, ret_tup, ret_one, decide_true, AV.bool.injEq, AV.int.injEq, Nat.reduceLeDiff, Bool.true_eq, Bool.false_eq, decide_eq_true_eq, decide_eq_false_iff_not, t_iFit, t_sFit, t_wfs, t_iLawful, t_sLawful, t_first, t_last, t_alw, hle, t_fit, t_lawful, brow, un_span, Span2.row, eq_self, beq_self_eq_true, bne_self_eq_false, decide_false, hz, List.length_nil, Path5.av, retG_ret, ghost, retQ_eq, retOk, wkM, refsInO, keepB, re_tup, or_t, Int.toNat_natCast, noref, flatOk, List.length_map, Stp7.row, irow, un_stp, un_i, set_f, set_b, List.length_set, take_all, path_eta, true_and, rowsOf, appE, hfit, h1, hcast, h3, h4, hlaw]
      refine ⟨by omega, by omega, by omega, hfit.1, hfit.1, by omega, hfit.1, ?_⟩
      refine loop_of (F_spl p f true) (fun k => k ≤ p.fitS.length) (fun k => p.fitS.length - k) 0 ⟨⟨.inr rfl, .inr rfl, .inr rfl, .inr rfl, .inr rfl, .inr rfl, .inr rfl, trivial⟩, ⟨rfl, trivial⟩, rfl, rfl⟩ (Nat.zero_le _) ?_
      intro k hk
      by_cases hkl : k < p.fitS.length
      · have g1 := getD_map (g := fun s => s.lo) hkl
        have g2 := getD_map (g := fun s => s.hi) hkl
        have hsp := flight_span (lawful_flight hlaw) (k := k) (by omega)
        rw [← h2 k (by omega)] at hsp
        have hlf : (f.getD k default < (p.fitS.getD k default).lo) = False ∧ ((p.fitS.getD k default).hi < f.getD k default) = False := ⟨eq_false (by omega), eq_false (by omega)⟩
        have hk2 : (k : Int) < (p.l.length : Int) + 1 := by omega
        unfold l_laws_FnFlySpans_0 F_spl
        simp only [w_skip, w_rg, w_rgd, w_seq, w_cond, w_block, w_loop, w_exit, w_ret, w_gh, w_rg0, w_rg1, w_rgT, w_rgF, w_run, w_psd, w_und, w_dr0, w_dr1, w_drT, w_drF, w_drRun, w_drPsd, w_drUnd, w_drKn, w_drKs, w_putK, w_trimK, w_thenN, w_thenE, w_thenR, w_scope, w_label, w_blkN, w_blkE, w_blkR, w_call, w_effK, brU_true, brU_false, brU_u, brU_not, brU_and, brU_or, brU_dec, brU_eq, brU_ne, br_true, br_false, br_not, br_and, br_or, br_dec, br_eq, br_ne, w_getE0, w_getE1, w_setE0, w_setE1, w_dropE0, w_dropE1, w_drop0, w_drop1, w_getM0, w_getM1, w_setM0, w_setM1, ev_v, ev_c, w_putS, w_putN, w_lit, w_apU0, w_apU1, w_apU2, w_trim, enumE0, enumE1, w_callWp, w_callA0, w_callA1, w_R0, w_R1, w_R2, w_T2, w_callL, w_callT, w_T1, w_T0, o_mv, o_newnil, o_pick, o_bin, o_binN, o_neg, o_not, o_eqB, o_eqS, o_conv, o_alloc, o_box, o_load1, o_loadN, o_store, o_nilck, o_faddr, o_field1, o_fieldN, o_iaddr, o_istr, o_slStr, o_slSl, o_lenS, o_lenL, o_mx, o_mn, o_ext, o_build, o_lit, o_litOwn, o_app, o_mk, o_mvfrz, l_int, l_bool, l_str, l_agg, l_sl, l_own, l_ptr, l_pp, i_int, i_bool, i_str, i_sl, i_own, i_ptr, i_pp, all0, all1, e_ok1, eff, effBin, effBinN, ld_ptr, ld_pp, ld_elt, ia_own, ia_arr, el_1, el_N, load1K, faddrE, r_iaddr, sg_S, sg_c, sg_n, purL, pur, List.map, List.drop, List.take, List.length, List.foldl, List.append_eq, List.nil_append, List.cons_append, List.getD_cons_zero, List.getD_cons_succ, reduceIte, Nat.reduceEqDiff, Nat.reduceAdd, Nat.reduceLeDiff, true_and, and_true, Bool.not_true, Bool.not_false, Bool.and_true, Bool.true_and, Bool.and_self, reduceCtorEq, true_implies, false_implies, implies_true, decide_eq_true_eq, Option.map_some, fpOf, fpX, SOp.xs, oX, refs, refsL, dom, disj, List.all_nil, List.all_cons, List.contains_cons, List.contains_nil, Nat.reduceBEq, Bool.or_false, Bool.false_or, List.append_nil, Bool.not_false, Bool.not_true, List.forall_mem_cons, fm0, List.set, Nat.reduceLT, ne_eq, not_false_eq_true, not_true_eq_false
, ret1, ret1N, keep0, keep1, rf_int, rf_bool, rf_str, rf_sl, rf_agg, rf_tup, rfL0, rfL1, re_t, re_cN, re_L0, re_L1, ret_tup, ret_one, decide_true, AV.bool.injEq, AV.int.injEq, Nat.reduceLeDiff, Bool.true_eq, Bool.false_eq, decide_eq_true_eq, decide_eq_false_iff_not, t_iFit, t_sFit, t_wfs, t_iLawful, t_sLawful, t_first, t_last, t_alw, hle, t_fit, t_lawful, brow, un_span, Span2.row, eq_self, beq_self_eq_true, bne_self_eq_false, decide_false, hz, List.length_nil, Path5.av, retG_ret, ghost, retQ_eq, retOk, wkM, refsInO, keepB, re_tup, or_t, Int.toNat_natCast, noref, flatOk, List.length_map, Stp7.row, irow, un_stp, un_i, set_f, set_b, List.length_set, take_all, path_eta, true_and, rowsOf, appE, hlf, hfit, h1, hcast, hlaw, g1, g2, hk2]
        have hfl := hlaw.2.1
        exact ⟨by omega, by omega, by omega, by omega, by omega, by omega, by omega, by omega, by omega, by omega, by omega, loopK_of (k + 1) ⟨⟨.inr rfl, .inr rfl, .inr rfl, .inr rfl, .inr rfl, .inr rfl, .inr rfl, trivial⟩, ⟨rfl, trivial⟩, rfl, rfl⟩ (by omega) (by omega)⟩
      · have hk3 : ¬ (k : Int) < (p.l.length : Int) + 1 := by omega
        unfold l_laws_FnFlySpans_0 F_spl
        simp only [w_skip, w_rg, w_rgd, w_seq, w_cond, w_block, w_loop, w_exit, w_ret, w_gh, w_rg0, w_rg1, w_rgT, w_rgF, w_run, w_psd, w_und, w_dr0, w_dr1, w_drT, w_drF, w_drRun, w_drPsd, w_drUnd, w_drKn, w_drKs, w_putK, w_trimK, w_thenN, w_thenE, w_thenR, w_scope, w_label, w_blkN, w_blkE, w_blkR, w_call, w_effK, brU_true, brU_false, brU_u, brU_not, brU_and, brU_or, brU_dec, brU_eq, brU_ne, br_true, br_false, br_not, br_and, br_or, br_dec, br_eq, br_ne, w_getE0, w_getE1, w_setE0, w_setE1, w_dropE0, w_dropE1, w_drop0, w_drop1, w_getM0, w_getM1, w_setM0, w_setM1, ev_v, ev_c, w_putS, w_putN, w_lit, w_apU0, w_apU1, w_apU2, w_trim, enumE0, enumE1, w_callWp, w_callA0, w_callA1, w_R0, w_R1, w_R2, w_T2, w_callL, w_callT, w_T1, w_T0, o_mv, o_newnil, o_pick, o_bin, o_binN, o_neg, o_not, o_eqB, o_eqS, o_conv, o_alloc, o_box, o_load1, o_loadN, o_store, o_nilck, o_faddr, o_field1, o_fieldN, o_iaddr, o_istr, o_slStr, o_slSl, o_lenS, o_lenL, o_mx, o_mn, o_ext, o_build, o_lit, o_litOwn, o_app, o_mk, o_mvfrz, l_int, l_bool, l_str, l_agg, l_sl, l_own, l_ptr, l_pp, i_int, i_bool, i_str, i_sl, i_own, i_ptr, i_pp, all0, all1, e_ok1, eff, effBin, effBinN, ld_ptr, ld_pp, ld_elt, ia_own, ia_arr, el_1, el_N, load1K, faddrE, r_iaddr, sg_S, sg_c, sg_n, purL, pur, List.map, List.drop, List.take, List.length, List.foldl, List.append_eq, List.nil_append, List.cons_append, List.getD_cons_zero, List.getD_cons_succ, reduceIte, Nat.reduceEqDiff, Nat.reduceAdd, Nat.reduceLeDiff, true_and, and_true, Bool.not_true, Bool.not_false, Bool.and_true, Bool.true_and, Bool.and_self, reduceCtorEq, true_implies, false_implies, implies_true, decide_eq_true_eq, Option.map_some, fpOf, fpX, SOp.xs, oX, refs, refsL, dom, disj, List.all_nil, List.all_cons, List.contains_cons, List.contains_nil, Nat.reduceBEq, Bool.or_false, Bool.false_or, List.append_nil, Bool.not_false, Bool.not_true, List.forall_mem_cons, fm0, List.set, Nat.reduceLT, ne_eq, not_false_eq_true, not_true_eq_false
, ret1, ret1N, keep0, keep1, rf_int, rf_bool, rf_str, rf_sl, rf_agg, rf_tup, rfL0, rfL1, re_t, re_cN, re_L0, re_L1, ret_tup, ret_one, decide_true, AV.bool.injEq, AV.int.injEq, Nat.reduceLeDiff, decide_eq_true_eq, decide_eq_false_iff_not, t_iFit, t_sFit, t_wfs, t_iLawful, t_sLawful, t_first, t_last, t_alw, hle, t_fit, t_lawful, brow, un_span, Span2.row, eq_self, beq_self_eq_true, bne_self_eq_false, decide_false, hz, List.length_nil, Path5.av, retG_ret, ghost, retQ_eq, retOk, wkM, refsInO, keepB, re_tup, or_t, Int.toNat_natCast, noref, flatOk, List.length_map, Stp7.row, irow, un_stp, un_i, set_f, set_b, List.length_set, take_all, path_eta, true_and, rowsOf, appE, hfit, h1, hcast, hlaw, hk3]
    · simp only [w_skip, w_rg, w_rgd, w_seq, w_cond, w_block, w_loop, w_exit, w_ret, w_gh, w_rg0, w_rg1, w_rgT, w_rgF, w_run, w_psd, w_und, w_dr0, w_dr1, w_drT, w_drF, w_drRun, w_drPsd, w_drUnd, w_drKn, w_drKs, w_putK, w_trimK, w_thenN, w_thenE, w_thenR, w_scope, w_label, w_blkN, w_blkE, w_blkR, w_call, w_effK, brU_true, brU_false, brU_u, brU_not, brU_and, brU_or, brU_dec, brU_eq, brU_ne, br_true, br_false, br_not, br_and, br_or, br_dec, br_eq, br_ne, w_getE0, w_getE1, w_setE0, w_setE1, w_dropE0, w_dropE1, w_drop0, w_drop1, w_getM0, w_getM1, w_setM0, w_setM1, ev_v, ev_c, w_putS, w_putN, w_lit, w_apU0, w_apU1, w_apU2, w_trim, enumE0, enumE1, w_callWp, w_callA0, w_callA1, w_R0, w_R1, w_R2, w_T2, w_callL, w_callT, w_T1, w_T0, o_mv, o_newnil, o_pick, o_bin, o_binN, o_neg, o_not, o_eqB, o_eqS, o_conv, o_alloc, o_box, o_load1, o_loadN, o_store, o_nilck, o_faddr, o_field1, o_fieldN, o_iaddr, o_istr, o_slStr, o_slSl, o_lenS, o_lenL, o_mx, o_mn, o_ext, o_build, o_lit, o_litOwn, o_app, o_mk, o_mvfrz, l_int, l_bool, l_str, l_agg, l_sl, l_own, l_ptr, l_pp, i_int, i_bool, i_str, i_sl, i_own, i_ptr, i_pp, all0, all1, e_ok1, eff, effBin, effBinN, ld_ptr, ld_pp, ld_elt, ia_own, ia_arr, el_1, el_N, load1K, faddrE, r_iaddr, sg_S, sg_c, sg_n, purL, pur, List.map, List.drop, List.take, List.length, List.foldl, List.append_eq, List.nil_append, List.cons_append, List.getD_cons_zero, List.getD_cons_succ, reduceIte, Nat.reduceEqDiff, Nat.reduceAdd, Nat.reduceLeDiff, true_and, and_true, Bool.not_true, Bool.not_false, Bool.and_true, Bool.true_and, Bool.and_self, reduceCtorEq, true_implies, false_implies, implies_true, decide_eq_true_eq, Option.map_some, fpOf, fpX, SOp.xs, oX, refs, refsL, dom, disj, List.all_nil, List.all_cons, List.contains_cons, List.contains_nil, Nat.reduceBEq, Bool.or_false, Bool.false_or, List.append_nil, Bool.not_false, Bool.not_true, List.forall_mem_cons, fm0, List.set, Nat.reduceLT, ne_eq, not_false_eq_true, not_true_eq_false
, ret1, ret1N, keep0, keep1, rf_int, rf_bool, rf_str, rf_sl, rf_agg, rf_tup, rfL0, rfL1, re_t, re_cN, re_L0, re_L1, ret_tup, ret_one, decide_true, AV.bool.injEq, AV.int.injEq, Nat.reduceLeDiff, Bool.true_eq, Bool.false_eq, decide_eq_true_eq, decide_eq_false_iff_not, t_iFit, t_sFit, t_wfs, t_iLawful, t_sLawful, t_first, t_last, t_alw, hle, t_fit, t_lawful, brow, un_span, Span2.row, eq_self, beq_self_eq_true, bne_self_eq_false, decide_false, hz, List.length_nil, Path5.av, retG_ret, ghost, retQ_eq, retOk, wkM, refsInO, keepB, re_tup, or_t, Int.toNat_natCast, noref, flatOk, List.length_map, Stp7.row, irow, un_stp, un_i, set_f, set_b, List.length_set, take_all, path_eta, true_and, rowsOf, appE, hfit, h1, hcast, h3, h4, hlaw]
      refine ⟨by omega, by omega, by omega, hfit.1, hfit.1, by omega, hfit.1, ?_⟩
      refine loop_of (F_spl p f false) (fun k => k ≤ p.fitS.length) (fun k => p.fitS.length - k) 0 ⟨⟨.inr rfl, .inr rfl, .inr rfl, .inr rfl, .inr rfl, .inr rfl, .inr rfl, trivial⟩, ⟨rfl, trivial⟩, rfl, rfl⟩ (Nat.zero_le _) ?_
      intro k hk
      by_cases hkl : k < p.fitS.length
      · have g1 := getD_map (g := fun s => s.lo) hkl
        have g2 := getD_map (g := fun s => s.hi) hkl
        have hk2 : (k : Int) < (p.l.length : Int) + 1 := by omega
        unfold l_laws_FnFlySpans_0 F_spl
        simp only [w_skip, w_rg, w_rgd, w_seq, w_cond, w_block, w_loop, w_exit, w_ret, w_gh, w_rg0, w_rg1, w_rgT, w_rgF, w_run, w_psd, w_und, w_dr0, w_dr1, w_drT, w_drF, w_drRun, w_drPsd, w_drUnd, w_drKn, w_drKs, w_putK, w_trimK, w_thenN, w_thenE, w_thenR, w_scope, w_label, w_blkN, w_blkE, w_blkR, w_call, w_effK, brU_true, brU_false, brU_u, brU_not, brU_and, brU_or, brU_dec, brU_eq, brU_ne, br_true, br_false, br_not, br_and, br_or, br_dec, br_eq, br_ne, w_getE0, w_getE1, w_setE0, w_setE1, w_dropE0, w_dropE1, w_drop0, w_drop1, w_getM0, w_getM1, w_setM0, w_setM1, ev_v, ev_c, w_putS, w_putN, w_lit, w_apU0, w_apU1, w_apU2, w_trim, enumE0, enumE1, w_callWp, w_callA0, w_callA1, w_R0, w_R1, w_R2, w_T2, w_callL, w_callT, w_T1, w_T0, o_mv, o_newnil, o_pick, o_bin, o_binN, o_neg, o_not, o_eqB, o_eqS, o_conv, o_alloc, o_box, o_load1, o_loadN, o_store, o_nilck, o_faddr, o_field1, o_fieldN, o_iaddr, o_istr, o_slStr, o_slSl, o_lenS, o_lenL, o_mx, o_mn, o_ext, o_build, o_lit, o_litOwn, o_app, o_mk, o_mvfrz, l_int, l_bool, l_str, l_agg, l_sl, l_own, l_ptr, l_pp, i_int, i_bool, i_str, i_sl, i_own, i_ptr, i_pp, all0, all1, e_ok1, eff, effBin, effBinN, ld_ptr, ld_pp, ld_elt, ia_own, ia_arr, el_1, el_N, load1K, faddrE, r_iaddr, sg_S, sg_c, sg_n, purL, pur, List.map, List.drop, List.take, List.length, List.foldl, List.append_eq, List.nil_append, List.cons_append, List.getD_cons_zero, List.getD_cons_succ, reduceIte, Nat.reduceEqDiff, Nat.reduceAdd, Nat.reduceLeDiff, true_and, and_true, Bool.not_true, Bool.not_false, Bool.and_true, Bool.true_and, Bool.and_self, reduceCtorEq, true_implies, false_implies, implies_true, decide_eq_true_eq, Option.map_some, fpOf, fpX, SOp.xs, oX, refs, refsL, dom, disj, List.all_nil, List.all_cons, List.contains_cons, List.contains_nil, Nat.reduceBEq, Bool.or_false, Bool.false_or, List.append_nil, Bool.not_false, Bool.not_true, List.forall_mem_cons, fm0, List.set, Nat.reduceLT, ne_eq, not_false_eq_true, not_true_eq_false
, ret1, ret1N, keep0, keep1, rf_int, rf_bool, rf_str, rf_sl, rf_agg, rf_tup, rfL0, rfL1, re_t, re_cN, re_L0, re_L1, ret_tup, ret_one, decide_true, AV.bool.injEq, AV.int.injEq, Nat.reduceLeDiff, Bool.true_eq, Bool.false_eq, decide_eq_true_eq, decide_eq_false_iff_not, t_iFit, t_sFit, t_wfs, t_iLawful, t_sLawful, t_first, t_last, t_alw, hle, t_fit, t_lawful, brow, un_span, Span2.row, eq_self, beq_self_eq_true, bne_self_eq_false, decide_false, hz, List.length_nil, Path5.av, retG_ret, ghost, retQ_eq, retOk, wkM, refsInO, keepB, re_tup, or_t, Int.toNat_natCast, noref, flatOk, List.length_map, Stp7.row, irow, un_stp, un_i, set_f, set_b, List.length_set, take_all, path_eta, true_and, rowsOf, appE, hfit, h1, hcast, hlaw, g1, g2, hk2]
        exact ⟨by omega, by omega, by omega, by omega, by omega, loopK_of (k + 1) ⟨⟨.inr rfl, .inr rfl, .inr rfl, .inr rfl, .inr rfl, .inr rfl, .inr rfl, trivial⟩, ⟨rfl, trivial⟩, rfl, rfl⟩ (by omega) (by omega)⟩
      · have hk3 : ¬ (k : Int) < (p.l.length : Int) + 1 := by omega
        unfold l_laws_FnFlySpans_0 F_spl
        simp only [w_skip, w_rg, w_rgd, w_seq, w_cond, w_block, w_loop, w_exit, w_ret, w_gh, w_rg0, w_rg1, w_rgT, w_rgF, w_run, w_psd, w_und, w_dr0, w_dr1, w_drT, w_drF, w_drRun, w_drPsd, w_drUnd, w_drKn, w_drKs, w_putK, w_trimK, w_thenN, w_thenE, w_thenR, w_scope, w_label, w_blkN, w_blkE, w_blkR, w_call, w_effK, brU_true, brU_false, brU_u, brU_not, brU_and, brU_or, brU_dec, brU_eq, brU_ne, br_true, br_false, br_not, br_and, br_or, br_dec, br_eq, br_ne, w_getE0, w_getE1, w_setE0, w_setE1, w_dropE0, w_dropE1, w_drop0, w_drop1, w_getM0, w_getM1, w_setM0, w_setM1, ev_v, ev_c, w_putS, w_putN, w_lit, w_apU0, w_apU1, w_apU2, w_trim, enumE0, enumE1, w_callWp, w_callA0, w_callA1, w_R0, w_R1, w_R2, w_T2, w_callL, w_callT, w_T1, w_T0, o_mv, o_newnil, o_pick, o_bin, o_binN, o_neg, o_not, o_eqB, o_eqS, o_conv, o_alloc, o_box, o_load1, o_loadN, o_store, o_nilck, o_faddr, o_field1, o_fieldN, o_iaddr, o_istr, o_slStr, o_slSl, o_lenS, o_lenL, o_mx, o_mn, o_ext, o_build, o_lit, o_litOwn, o_app, o_mk, o_mvfrz, l_int, l_bool, l_str, l_agg, l_sl, l_own, l_ptr, l_pp, i_int, i_bool, i_str, i_sl, i_own, i_ptr, i_pp, all0, all1, e_ok1, eff, effBin, effBinN, ld_ptr, ld_pp, ld_elt, ia_own, ia_arr, el_1, el_N, load1K, faddrE, r_iaddr, sg_S, sg_c, sg_n, purL, pur, List.map, List.drop, List.take, List.length, List.foldl, List.append_eq, List.nil_append, List.cons_append, List.getD_cons_zero, List.getD_cons_succ, reduceIte, Nat.reduceEqDiff, Nat.reduceAdd, Nat.reduceLeDiff, true_and, and_true, Bool.not_true, Bool.not_false, Bool.and_true, Bool.true_and, Bool.and_self, reduceCtorEq, true_implies, false_implies, implies_true, decide_eq_true_eq, Option.map_some, fpOf, fpX, SOp.xs, oX, refs, refsL, dom, disj, List.all_nil, List.all_cons, List.contains_cons, List.contains_nil, Nat.reduceBEq, Bool.or_false, Bool.false_or, List.append_nil, Bool.not_false, Bool.not_true, List.forall_mem_cons, fm0, List.set, Nat.reduceLT, ne_eq, not_false_eq_true, not_true_eq_false
, ret1, ret1N, keep0, keep1, rf_int, rf_bool, rf_str, rf_sl, rf_agg, rf_tup, rfL0, rfL1, re_t, re_cN, re_L0, re_L1, ret_tup, ret_one, decide_true, AV.bool.injEq, AV.int.injEq, Nat.reduceLeDiff, decide_eq_true_eq, decide_eq_false_iff_not, t_iFit, t_sFit, t_wfs, t_iLawful, t_sLawful, t_first, t_last, t_alw, hle, t_fit, t_lawful, brow, un_span, Span2.row, eq_self, beq_self_eq_true, bne_self_eq_false, decide_false, hz, List.length_nil, Path5.av, retG_ret, ghost, retQ_eq, retOk, wkM, refsInO, keepB, re_tup, or_t, Int.toNat_natCast, noref, flatOk, List.length_map, Stp7.row, irow, un_stp, un_i, set_f, set_b, List.length_set, take_all, path_eta, true_and, rowsOf, appE, hfit, h1, hcast, hlaw, hk3]
  · have h0 := fitS_nil hfit
    have hlaw : ¬ p.lawful f := fun h => hfit (lawful_fit h)
    simp only [w_skip, w_rg, w_rgd, w_seq, w_cond, w_block, w_loop, w_exit, w_ret, w_gh, w_rg0, w_rg1, w_rgT, w_rgF, w_run, w_psd, w_und, w_dr0, w_dr1, w_drT, w_drF, w_drRun, w_drPsd, w_drUnd, w_drKn, w_drKs, w_putK, w_trimK, w_thenN, w_thenE, w_thenR, w_scope, w_label, w_blkN, w_blkE, w_blkR, w_call, w_effK, brU_true, brU_false, brU_u, brU_not, brU_and, brU_or, brU_dec, brU_eq, brU_ne, br_true, br_false, br_not, br_and, br_or, br_dec, br_eq, br_ne, w_getE0, w_getE1, w_setE0, w_setE1, w_dropE0, w_dropE1, w_drop0, w_drop1, w_getM0, w_getM1, w_setM0, w_setM1, ev_v, ev_c, w_putS, w_putN, w_lit, w_apU0, w_apU1, w_apU2, w_trim, enumE0, enumE1, w_callWp, w_callA0, w_callA1, w_R0, w_R1, w_R2, w_T2, w_callL, w_callT, w_T1, w_T0, o_mv, o_newnil, o_pick, o_bin, o_binN, o_neg, o_not, o_eqB, o_eqS, o_conv, o_alloc, o_box, o_load1, o_loadN, o_store, o_nilck, o_faddr, o_field1, o_fieldN, o_iaddr, o_istr, o_slStr, o_slSl, o_lenS, o_lenL, o_mx, o_mn, o_ext, o_build, o_lit, o_litOwn, o_app, o_mk, o_mvfrz, l_int, l_bool, l_str, l_agg, l_sl, l_own, l_ptr, l_pp, i_int, i_bool, i_str, i_sl, i_own, i_ptr, i_pp, all0, all1, e_ok1, eff, effBin, effBinN, ld_ptr, ld_pp, ld_elt, ia_own, ia_arr, el_1, el_N, load1K, faddrE, r_iaddr, sg_S, sg_c, sg_n, purL, pur, List.map, List.drop, List.take, List.length, List.foldl, List.append_eq, List.nil_append, List.cons_append, List.getD_cons_zero, List.getD_cons_succ, reduceIte, Nat.reduceEqDiff, Nat.reduceAdd, Nat.reduceLeDiff, true_and, and_true, Bool.not_true, Bool.not_false, Bool.and_true, Bool.true_and, Bool.and_self, reduceCtorEq, true_implies, false_implies, implies_true, decide_eq_true_eq, Option.map_some, fpOf, fpX, SOp.xs, oX, refs, refsL, dom, disj, List.all_nil, List.all_cons, List.contains_cons, List.contains_nil, Nat.reduceBEq, Bool.or_false, Bool.false_or, List.append_nil, Bool.not_false, Bool.not_true, List.forall_mem_cons, fm0, List.set, Nat.reduceLT, ne_eq, not_false_eq_true, not_true_eq_false
, ret1, ret1N, keep0, keep1, rf_int, rf_bool, rf_str, rf_sl, rf_agg, rf_tup, rfL0, rfL1, re_t, re_cN, re_L0, re_L1, ret_tup, ret_one, decide_true, AV.bool.injEq, AV.int.injEq, Nat.reduceLeDiff, Bool.true_eq, Bool.false_eq, decide_eq_true_eq, decide_eq_false_iff_not, t_iFit, t_sFit, t_wfs, t_iLawful, t_sLawful, t_first, t_last, t_alw, hle, t_fit, t_lawful, brow, un_span, Span2.row, eq_self, beq_self_eq_true, bne_self_eq_false, decide_false, hz, List.length_nil, Path5.av, retG_ret, ghost, retQ_eq, retOk, wkM, refsInO, keepB, re_tup, or_t, Int.toNat_natCast, noref, flatOk, List.length_map, Stp7.row, irow, un_stp, un_i, set_f, set_b, List.length_set, take_all, path_eta, true_and, rowsOf, appE, hfit, h0, hlaw]
    exact ⟨by omega, by omega⟩
end Go.Ve
namespace Go.Ve
set_option linter.unusedSimpArgs false
set_option linter.unusedVariables false
/-! Flights in between two, of held paths, of what is left. -/
theorem flight_mid {p : Path5} {x y : Nat → Int} (hx : p.flight x) (hy : p.flight y) (c : Int) : p.flight x → 0 ≤ c → p.flight fun k => max (x k) (y k - c) := fun _ hc => by
  refine ⟨fun k hk => ?_, fun k hk => ?_⟩
  · have h1 := hx.1 k hk
    have h2 := hy.1 k hk
    simp only; omega
  · have h1 := hx.2 k hk
    have h2 := hy.2 k hk
    simp only; omega
theorem flight_thru {p : Path5} (hq : p.q ≤ p.s ∧ p.q ≤ 10000) (h : p.can) {k : Nat} {t : Int} (ht : (p.span k).lo ≤ t ∧ t ≤ (p.span k).hi) : ∃ x, p.flight x ∧ x k = t :=
  ⟨fun j => max (p.span j).lo ((p.span j).hi - ((p.span k).hi - t)), flight_mid (first_flight hq h) (last_flight hq h) _ (first_flight hq h) (by omega), by simp only; omega⟩
section
variable {p : Path5} {bg : List Int}
theorem held_flight (hb : bg.length ≤ p.l.length) {x : Nat → Int} : (p.held bg).flight x ↔ p.flight x ∧ (∀ j, j < bg.length → x j = bg.getD j default) := by
  have hL : ∀ j, (p.held bg).low j = if j < bg.length then max (p.low j) (bg.getD j default) else p.low j := fun j => by rw [held_low hb]; unfold Path5.ini; split <;> rfl
  have hH : ∀ j, (p.held bg).high j = if j < bg.length then min (p.high j) (bg.getD j default) else p.high j := fun j => by rw [held_high hb]; unfold Path5.ini; split <;> rfl
  have hM : ∀ j, j < p.l.length → (p.held bg).most j = p.most j := fun j hj => held_most hj
  unfold Path5.flight
  rw [held_len]
  constructor
  · rintro ⟨h1, h2⟩
    refine ⟨⟨fun k hk => ?_, fun k hk => ?_⟩, fun j hj => ?_⟩
    · have := h1 k hk
      rw [hL, hH] at this
      split at this <;> omega
    · have := h2 k hk
      rw [hM k hk] at this
      exact this
    · have := h1 j (by omega)
      rw [hL, hH, if_pos hj, if_pos hj] at this
      omega
  · rintro ⟨⟨h1, h2⟩, h3⟩
    refine ⟨fun k hk => ?_, fun k hk => ?_⟩
    · have := h1 k hk
      rw [hL, hH]
      split
      · rename_i h; have := h3 k h; omega
      · exact this
    · rw [hM k hk]; exact h2 k hk
end
theorem lawful_iff {p : Path5} {l : List Int} : p.lawful l ↔ pathOk p.q p.s p.l p.f p.b ∧ l.length = p.l.length + 1 ∧ p.flight fun k => l.getD k default := by
  refine ⟨fun h => ⟨h.1, h.2.1, lawful_flight h⟩, fun ⟨h1, h2, h3⟩ => ⟨h1, h2, fun j hj => ⟨h3.1 j (by omega), fun h0 => ?_⟩⟩⟩
  have := h3.2 (j - 1) (by omega)
  rwa [show j - 1 + 1 = j by omega] at this
theorem getD_snoc {l : List Int} {x : Int} {j : Nat} (hj : j < l.length + 1) : (l ++ [x]).getD j default = if j < l.length then l.getD j default else x := by
  by_cases h : j < l.length
  · rw [if_pos h]; simp [List.getElem?_append, h]
  · have : j = l.length := by omega
    subst this; simp
theorem ok_q {p : Path5} (h : pathOk p.q p.s p.l p.f p.b) : p.q ≤ p.s ∧ p.q ≤ 10000 := by have := h.1; omega
theorem goL_flight {p : Path5} (h : p.fit) (asked : List Int) : ∀ n, n ≤ p.l.length + 1 → ∃ l x, p.goL asked n = some l ∧ p.flight x ∧ ∀ j, j < n → x j = l.getD j default
  | 0, _ => ⟨[], _, rfl, first_flight (ok_q h.1) h.2, fun j hj => by omega⟩
  | n + 1, hn => by
    obtain ⟨l, x, h1, h2, h3⟩ := goL_flight h asked n (by omega)
    have hl := goL_len h1
    have hb : l.length ≤ p.l.length := by omega
    have hc : (p.held l).can := flight_can ((held_flight hb).2 ⟨h2, fun j hj => h3 j (by omega)⟩)
    have hbg : p.begun l := ⟨h.1, hb, hc⟩
    have hnx : p.next l = (p.held l).span l.length := if_pos hbg
    have hlh := hc l.length (by rw [held_len]; omega)
    have ht : ((p.held l).span l.length).lo ≤ p.tick asked l ∧ p.tick asked l ≤ ((p.held l).span l.length).hi := by
      unfold Path5.tick
      rw [hnx]
      split <;> omega
    obtain ⟨y, hy, hyt⟩ := flight_thru (p := p.held l) (show p.q ≤ p.s ∧ p.q ≤ 10000 from ok_q h.1) hc ht
    obtain ⟨hy1, hy2⟩ := (held_flight hb).1 hy
    refine ⟨l ++ [p.tick asked l], y, by rw [goL_step h1, if_pos hbg], hy1, fun j hj => ?_⟩
    rw [getD_snoc (by omega)]
    split
    · rename_i h4; exact hy2 j h4
    · have : j = l.length := by omega
      subst this; exact hyt
theorem flight_congr {p : Path5} {x y : Nat → Int} (h : ∀ j, j ≤ p.l.length → x j = y j) (hx : p.flight x) : p.flight y := by
  refine ⟨fun k hk => ?_, fun k hk => ?_⟩
  · rw [← h k hk]; exact hx.1 k hk
  · rw [← h k (by omega), ← h (k + 1) (by omega)]; exact hx.2 k hk
/-- WHAT FITS CAN BE FLOWN, whatever is asked. -/
theorem go_fit {p : Path5} (h : p.fit) (asked : List Int) : ∃ l, p.go asked = some l := by
  obtain ⟨l, x, h1, h2, h3⟩ := goL_flight h asked (p.l.length + 1) (Nat.le_refl _)
  have hl := goL_len h1
  exact ⟨l, by rw [go_end h1, if_pos (lawful_iff.2 ⟨h.1, hl, flight_congr (fun j hj => h3 j (by omega)) h2⟩)]⟩
section
variable {p : Path5} {k : Nat} {f b now : Int}
theorem rest_low (hk : k < p.l.length) {j : Nat} (hj : k + j ≤ p.l.length) : (p.rest k f b now).low j = if j = 0 then f else if j = 1 then max (p.low (k + j)) (now + 1) else p.low (k + j) := by
  have hl := rest_len (p := p) (k := k) (f := f) (b := b) (now := now)
  unfold Path5.low
  rw [hl]
  by_cases h : k + j < p.l.length
  · rw [if_pos (by omega), rest_getD h, if_pos h]
  · rw [if_neg (by omega), (rest_ff hk).1, if_neg h, if_neg (show ¬ j = 0 by omega)]
    by_cases e : j = 1
    · rw [if_pos e, if_neg (by omega)]
    · rw [if_neg e, if_pos (by omega)]
theorem rest_high (hk : k < p.l.length) {j : Nat} (hj : k + j ≤ p.l.length) : (p.rest k f b now).high j = if j = 0 then b else p.high (k + j) := by
  have hl := rest_len (p := p) (k := k) (f := f) (b := b) (now := now)
  unfold Path5.high
  rw [hl]
  by_cases h : k + j < p.l.length
  · rw [if_pos (by omega), rest_getD h, if_pos h]
  · rw [if_neg (by omega), (rest_ff hk).2.1, if_neg h, if_neg (show ¬ j = 0 by omega)]
theorem rest_most {j : Nat} (hj : k + j < p.l.length) : (p.rest k f b now).most j = p.most (k + j) := by
  unfold Path5.most
  rw [rest_getD hj, (rest_ff (by omega)).2.2.2]
theorem rest_flight (hk : k < p.l.length) {x : Nat → Int} : (p.rest k f b now).flight x ↔ (f ≤ x 0 ∧ x 0 ≤ b) ∧ now + 1 ≤ x 1 ∧ (∀ j, 0 < j → k + j ≤ p.l.length → p.low (k + j) ≤ x j ∧ x j ≤ p.high (k + j)) ∧ ∀ j, k + j < p.l.length → p.q ≤ x (j + 1) - x j ∧ x (j + 1) - x j ≤ p.most (k + j) := by
  have hl := rest_len (p := p) (k := k) (f := f) (b := b) (now := now)
  have hqq := (rest_ff (f := f) (b := b) (now := now) hk).2.2.1
  unfold Path5.flight
  rw [hl, hqq]
  constructor
  · rintro ⟨h1, h2⟩
    have a0 := h1 0 (by omega)
    have a1 := h1 1 (by omega)
    rw [rest_low hk (by omega), rest_high hk (by omega)] at a0 a1
    simp only [if_true, if_false, Nat.one_ne_zero] at a0 a1
    refine ⟨a0, by omega, fun j h0 hj => ?_, fun j hj => ?_⟩
    · have := h1 j (by omega)
      rw [rest_low hk hj, rest_high hk hj, if_neg (show ¬ j = 0 by omega), if_neg (show ¬ j = 0 by omega)] at this
      split at this <;> omega
    · have := h2 j (by omega)
      rwa [rest_most hj] at this
  · rintro ⟨h1, h2, h3, h4⟩
    refine ⟨fun j hj => ?_, fun j hj => ?_⟩
    · rw [rest_low hk (by omega), rest_high hk (by omega)]
      by_cases e : j = 0
      · subst e; simp only [if_true]; exact h1
      · have := h3 j (by omega) (by omega)
        rw [if_neg e, if_neg e]
        split
        · rename_i e1; subst e1; omega
        · exact this
    · rw [rest_most (by omega)]; exact h4 j (by omega)
theorem rest_ok (h : (p.rest k f b now).fit) : (p.rest k f b now).q ≤ (p.rest k f b now).s ∧ (p.rest k f b now).q ≤ 10000 := ok_q h.1
end
/-- A flight, from a step on: a flight of what is left. -/
theorem rest_of_flight {p : Path5} {k : Nat} {f b now : Int} (hk : k < p.l.length) {x : Nat → Int} (hx : p.flight x) (h0 : f ≤ x k ∧ x k ≤ b) (h1 : now < x (k + 1)) : (p.rest k f b now).flight fun j => x (k + j) :=
  (rest_flight hk).2 ⟨h0, by omega, fun j _ hj => hx.1 (k + j) hj, fun j hj => hx.2 (k + j) hj⟩
/-- A flight of what is left, begun at a tick that can be, goes back to the first step. -/
theorem flight_of_rest {p : Path5} (hp : p.fit) {k : Nat} {f b now : Int} (hk : k < p.l.length) {x : Nat → Int} (hx : (p.rest k f b now).flight x) (h0 : (p.span k).lo ≤ x 0 ∧ x 0 ≤ (p.span k).hi) : ∃ y, p.flight y ∧ ∀ j, j ≤ p.l.length - k → y (k + j) = x j := by
  obtain ⟨z, hz, hzk⟩ := flight_thru (ok_q hp.1) hp.2 h0
  obtain ⟨h1, h2, h3, h4⟩ := (rest_flight hk).1 hx
  refine ⟨fun j => if j ≤ k then z j else x (j - k), ⟨fun j hj => ?_, fun j hj => ?_⟩, fun j hj => ?_⟩
  · simp only
    split
    · exact hz.1 j hj
    · have := h3 (j - k) (by omega) (by omega)
      rwa [show k + (j - k) = j by omega] at this
  · simp only
    by_cases e : j + 1 ≤ k
    · rw [if_pos e, if_pos (by omega)]; exact hz.2 j hj
    · rw [if_neg e]
      have := h4 (j - k) (by omega)
      rw [show k + (j - k) = j by omega, show j - k + 1 = j + 1 - k by omega] at this
      split
      · have e2 : j = k := by omega
        subst e2
        rw [hzk]
        rwa [show j - j = 0 by omega] at this
      · exact this
  · simp only
    split
    · have : j = 0 := by omega
      subst this; rw [Nat.add_zero]; exact hzk
    · rw [show k + j - k = j by omega]
/-- Tubes. -/
theorem tube_getD {p : Path5} (h : p.fit) {j : Nat} (hj : j < p.l.length) : p.tube.getD j default = ⟨(p.l.getD j default).x, (p.l.getD j default).y, (p.l.getD j default).l, (p.l.getD j default).h, (p.span j).lo, (p.span (j + 1)).hi - 1⟩ := by
  obtain ⟨e1, e2⟩ := fitS_fit h
  rw [Path5.tube, if_pos h]
  have : ((List.range p.l.length).map p.cell).getD j default = p.cell j := by simp [hj]
  rw [this, Path5.cell, e2 j (by omega), e2 (j + 1) (by omega)]
theorem smaller_of {u v : Path5} {d : Nat} (hu : u.fit) (hv : v.fit) (hl : u.l.length + d = v.l.length)
    (hs : ∀ j, j < u.l.length → (u.l.getD j default).x = (v.l.getD (d + j) default).x ∧ (u.l.getD j default).y = (v.l.getD (d + j) default).y ∧ (u.l.getD j default).l = (v.l.getD (d + j) default).l ∧ (u.l.getD j default).h = (v.l.getD (d + j) default).h)
    (hf : ∀ x, u.flight x → ∃ y, v.flight y ∧ ∀ j, j ≤ u.l.length → y (d + j) = x j) : smaller u.tube (v.tube.drop d) := by
  have lo : ∀ j, j ≤ u.l.length → (v.span (d + j)).lo ≤ (u.span j).lo := fun j hj => by
    obtain ⟨y, hy, hyx⟩ := hf _ (first_flight (ok_q hu.1) hu.2)
    have := flight_span hy (k := d + j) (by omega)
    rw [hyx j hj] at this; exact this.1
  have hi : ∀ j, j ≤ u.l.length → (u.span j).hi ≤ (v.span (d + j)).hi := fun j hj => by
    obtain ⟨y, hy, hyx⟩ := hf _ (last_flight (ok_q hu.1) hu.2)
    have := flight_span hy (k := d + j) (by omega)
    rw [hyx j hj] at this; exact this.2
  have hlu : u.tube.length = u.l.length := by rw [tube_len, if_pos hu]
  have hlv : v.tube.length = v.l.length := by rw [tube_len, if_pos hv]
  intro j hj
  rw [hlu] at hj
  refine .inr ⟨j, by rw [List.length_drop]; omega, ?_⟩
  have e : (v.tube.drop d).getD j default = v.tube.getD (d + j) default := by simp [List.getD_eq_getElem?_getD]
  rw [e, tube_getD hu hj, tube_getD hv (by omega)]
  obtain ⟨a, b, c, g⟩ := hs j hj
  have l1 := lo j (by omega)
  have h1 := hi (j + 1) (by omega)
  rw [show d + (j + 1) = d + j + 1 by omega] at h1
  refine ⟨a, b, ?_, ?_, l1, ?_⟩
  · simp only; omega
  · simp only; omega
  · simp only; omega
theorem smaller_rest {p : Path5} (hp : p.fit) {k : Nat} {f b now : Int} (hk : k < p.l.length) (hr : (p.rest k f b now).fit) (h0 : (p.span k).lo ≤ f) (h1 : b ≤ (p.span k).hi) : smaller (p.rest k f b now).tube (p.tube.drop k) := by
  have hl := rest_len (p := p) (k := k) (f := f) (b := b) (now := now)
  have hs := (rest_like (f := f) (b := b) (now := now) hk).2.2.2
  refine smaller_of hr hp (by omega) hs fun x hx => ?_
  have h2 := ((rest_flight hk).1 hx).1
  obtain ⟨y, hy, hyx⟩ := flight_of_rest hp hk hx ⟨by omega, by omega⟩
  exact ⟨y, hy, fun j hj => hyx j (by omega)⟩
theorem smaller_two {p : Path5} {k : Nat} {f b f' b' now : Int} (hk : k < p.l.length) (hr : (p.rest k f b now).fit) (hr' : (p.rest k f' b' now).fit) (h0 : ∀ t, f ≤ t → t ≤ b → f' ≤ t ∧ t ≤ b') : smaller (p.rest k f b now).tube (p.rest k f' b' now).tube := by
  have h := smaller_of (d := 0) hr hr' (by rw [rest_len, rest_len]; omega) (fun j hj => ?_) fun x hx => ⟨x, ?_, fun j hj => by rw [Nat.zero_add]⟩
  · rwa [List.drop_zero] at h
  · have a := (rest_like (f := f) (b := b) (now := now) hk).2.2.2 j hj
    have b := (rest_like (f := f') (b := b') (now := now) hk).2.2.2 j (by rw [rest_len] at hj ⊢; exact hj)
    rw [Nat.zero_add]
    exact ⟨a.1.trans b.1.symm, a.2.1.trans b.2.1.symm, a.2.2.1.trans b.2.2.1.symm, a.2.2.2.trans b.2.2.2.symm⟩
  · obtain ⟨h1, h2⟩ := (rest_flight hk).1 hx
    exact (rest_flight hk).2 ⟨h0 _ h1.1 h1.2, h2⟩
/-- Where a flight is at a tick. -/
theorem where_spec {f : List Int} {t : Int} {k : Nat} (h : whereR f t = some k) : k + 1 < f.length ∧ f.getD k default ≤ t ∧ t < f.getD (k + 1) default := by
  unfold whereR at h
  have h1 := List.find?_some h
  have h2 := List.mem_of_find?_eq_some h
  simp only [List.mem_range] at h2
  simp only [decide_eq_true_eq] at h1
  exact ⟨by omega, h1⟩
theorem where_ex {f : List Int} {t : Int} (h0 : f.getD 0 default ≤ t) : ∀ n, n + 1 < f.length + 0 → t < f.getD (n + 1) default → ∃ k, whereR f t = some k := by
  intro n hn ht
  cases h : whereR f t with
  | some k => exact ⟨k, rfl⟩
  | none =>
    exfalso
    unfold whereR at h
    rw [List.find?_range_eq_none] at h
    have hh : ∀ j, j < f.length - 1 → ¬ (f.getD j default ≤ t ∧ t < f.getD (j + 1) default) := fun j hj => by
      have := h j hj
      simp only [Bool.not_eq_true', decide_eq_false_iff_not] at this
      exact this
    have : ∀ j, j ≤ n + 1 → f.getD j default ≤ t := by
      intro j hj
      induction j with
      | zero => exact h0
      | succ j ih =>
        have h1 := ih (by omega)
        have h2 := hh j (by omega)
        omega
    have := this (n + 1) (by omega)
    omega
end Go.Ve
namespace Go.Ve
set_option linter.unusedSimpArgs false
set_option linter.unusedVariables false
theorem getD_drop_i {l : List Int} {k j : Nat} : (l.drop k).getD j default = l.getD (k + j) default := by simp [List.getD_eq_getElem?_getD]
theorem step_f {p : Path5} (h : pathOk p.q p.s p.l p.f p.b) {k : Nat} (hk : k < p.l.length) : (p.l.getD k default).f = p.low k ∧ (p.l.getD k default).b = p.high k ∧ 0 ≤ p.low k ∧ p.high k ≤ 10000 := by
  have h1 := (ok_calm h).lo k (by omega)
  have h2 := (ok_calm h).hi k (by omega)
  refine ⟨?_, ?_, h1, h2⟩
  · unfold Path5.low; rw [if_pos hk]
  · unfold Path5.high; rw [if_pos hk]
/-- What is left of a flight, as the pilot has it and as others see it. -/
theorem top_rest {p : Path5} {l : List Int} {k : Nat} {t : Int} (hl : p.lawful l) (hk : k < p.l.length) (h0 : l.getD k default ≤ t) (h1 : t < l.getD (k + 1) default) :
    (p.goes k (l.getD k default) t ∧ p.sees k t) ∧ ((p.restR k (l.getD k default) t).lawful (l.drop k) ∧ (p.seenR k t).lawful (l.drop k)) ∧ smaller (p.restR k (l.getD k default) t).tube (p.seenR k t).tube ∧ smaller (p.seenR k t).tube (p.tube.drop k) := by
  have hfl := lawful_flight hl
  have hok := hl.1
  have hfit := lawful_fit hl
  obtain ⟨b1, b2, b3, b4⟩ := step_f hok hk
  have c0 := hfl.1 k (by omega)
  have c1 := hfl.1 (k + 1) (by omega)
  have c2 := (ok_calm hok).hi (k + 1) (by omega)
  have c3 := flight_span hfl (k := k) (by omega)
  have c4 := fitS_val hfit (k := k) (by omega)
  simp only at c0 c1 c3
  have hx : ∀ f b, f ≤ l.getD k default → l.getD k default ≤ b → (p.rest k f b t).flight fun j => l.getD (k + j) default := fun f b h2 h3 => rest_of_flight hk hfl ⟨h2, h3⟩ (by omega)
  have g1 := hx (max (p.l.getD k default).f (l.getD k default)) (min (p.l.getD k default).b (l.getD k default)) (by omega) (by omega)
  have g2 := hx (p.span k).lo (min (p.span k).hi t) (by omega) (by omega)
  have f1 := (rest_fit (now := t) hok hk (f := max (p.l.getD k default).f (l.getD k default)) (b := min (p.l.getD k default).b (l.getD k default)) (by omega) (by omega)).2 (flight_can g1)
  have f2 := (rest_fit (now := t) hok hk (f := (p.span k).lo) (b := min (p.span k).hi t) (by omega) (by omega)).2 (flight_can g2)
  have e1 : p.restAt k (l.getD k default) t = p.rest k (max (p.l.getD k default).f (l.getD k default)) (min (p.l.getD k default).b (l.getD k default)) t := rfl
  have e2 : p.seenAt k t = p.rest k (p.span k).lo (min (p.span k).hi t) t := rfl
  have a1 : p.goes k (l.getD k default) t := ⟨hok, ⟨by omega, by omega⟩, ⟨by omega, by omega, by omega⟩, by rw [e1]; exact f1.2⟩
  have a2 : p.sees k t := ⟨⟨hfit, ⟨by omega, by omega⟩, by omega, by omega⟩, by rw [e2]; exact f2⟩
  have r1 : p.restR k (l.getD k default) t = p.rest k (max (p.l.getD k default).f (l.getD k default)) (min (p.l.getD k default).b (l.getD k default)) t := by rw [Path5.restR, if_pos a1, e1]
  have r2 : p.seenR k t = p.rest k (p.span k).lo (min (p.span k).hi t) t := by rw [Path5.seenR, if_pos a2, e2]
  have ll := hl.2.1
  have lw : ∀ f b, (p.rest k f b t).fit → (p.rest k f b t).flight (fun j => l.getD (k + j) default) → (p.rest k f b t).lawful (l.drop k) := fun f b h2 h3 =>
    lawful_iff.2 ⟨h2.1, by rw [rest_len, List.length_drop]; omega, flight_congr (fun j hj => getD_drop_i.symm) h3⟩
  rw [r1, r2]
  exact ⟨⟨a1, a2⟩, ⟨lw _ _ f1 g1, lw _ _ f2 g2⟩, smaller_two hk f1 f2 fun x h2 h3 => by omega, smaller_rest hfit hk f2 (Int.le_refl _) (by omega)⟩
theorem top_within {p : Path5} {l : List Int} {k : Nat} {t lev : Int} (hl : p.lawful l) (hk : k < p.l.length) (h0 : l.getD k default ≤ t) (h1 : t < l.getD (k + 1) default) (h2 : (p.l.getD k default).l ≤ lev) (h3 : lev ≤ (p.l.getD k default).h) :
    someHas p.tube (p.l.getD k default).x (p.l.getD k default).y lev t := by
  have hfl := lawful_flight hl
  have hfit := lawful_fit hl
  have c3 := flight_span hfl (k := k) (by omega)
  have c4 := flight_span hfl (k := k + 1) (by omega)
  skip
  refine ⟨k, by rw [tube_len, if_pos hfit]; exact hk, ?_⟩
  rw [tube_getD hfit hk]
  exact ⟨⟨rfl, rfl, h2, h3⟩, by simp only; omega, by simp only; omega⟩
theorem lawful_val {p : Path5} {l : List Int} (hl : p.lawful l) {k : Nat} (hk : k ≤ p.l.length) : 0 ≤ l.getD k default ∧ l.getD k default ≤ 10000 := by
  have h1 := (lawful_flight hl).1 k hk
  have h2 := (ok_calm hl.1).lo k hk
  have h3 := (ok_calm hl.1).hi k hk
  simp only at h1
  omega
end Go.Ve
namespace Go.Ve
open Go.Proofs
set_option linter.unusedSimpArgs false
set_option linter.unusedVariables false
set_option maxRecDepth 100000
set_option maxHeartbeats 8000000
theorem drop_i {l : List Int} {k : Nat} : List.drop k (l.map irow) = (l.drop k).map irow := List.map_drop.symm
theorem drop_b {l : List Box6} {k : Nat} : List.drop k (l.map Box6.row) = (l.drop k).map Box6.row := List.map_drop.symm
theorem tube_le (p : Path5) : p.tube.length ≤ p.l.length := by rw [tube_len]; split <;> omega
theorem go_nofit {p : Path5} (h : ¬ p.fit) (asked : List Int) : p.go asked = none := by
  cases hg : p.go asked with
  | none => rfl
  | some l => exact absurd (lawful_fit (go_some hg)) h
theorem tube_nil {p : Path5} (h : ¬ p.fit) : p.tube = [] := by rw [Path5.tube, if_neg h]
def pbox (p : Path5) : AObj := .box [.int .i64 p.q, .int .i64 p.s, .sl 0 7 (p.l.map Stp7.row), .int .i64 p.f, .int .i64 p.b]
def F_top1 (p : Path5) (l : List Int) (t : Int) : St := ⟨[(3, .ptr 103 0), (5, .sl 0 1 (l.map irow)), (11, .sl 0 6 (p.tube.map Box6.row)), (12, .int .i64 p.l.length), (13, .int .i64 t)], [(103, .box [.int .i64 p.q, .int .i64 p.s, .sl 0 7 (p.l.map Stp7.row), .int .i64 p.f, .int .i64 p.b])]⟩
def F_top0 (p : Path5) (l : List Int) (t : Int) (k i : Nat) : St := ⟨[(3, .ptr 103 0), (5, .sl 0 1 (l.map irow)), (11, .sl 0 6 (p.tube.map Box6.row)), (12, .int .i64 p.l.length), (13, .int .i64 t), (14, .int .i64 k), (16, .ptr 116 0), (17, .int .i64 ((p.l.getD k default).l + i))], [(103, .box [.int .i64 p.q, .int .i64 p.s, .sl 0 7 (p.l.map Stp7.row), .int .i64 p.f, .int .i64 p.b]), (116, .box (p.l.getD k default).row)]⟩
theorem c_FnFlyTop (cs : List Nat) (hcs : ∀ b ∈ cs, b ≤ 255) (hl : cs.length ≤ 9223372036854775807) : Contract P 6 [.sl 1 1 (cs.map brow)] [] (.bool true) [] := by
  refine fn_sound (((((((((((((((Env.nil P).addR 29 r_go h_go).add 28 t_iGo h_iGo).add 30 t_wfInts h_wfInts).add 10 t_iFit h_iFit).add 31 t_tube h_tube).add 32 t_iPathOk h_iPathOk).add 33 t_sPathOk h_sPathOk).add 17 t_alw h_alw).add 13 t_iLawful h_iLawful).add 34 t_where h_where).add 35 t_fwithin h_fwithin).add 36 t_iRest h_iRest).add 37 t_iSeen h_iSeen).add 38 t_smaller h_smaller) Go.Ve.hm k_laws_FnFlyTop (Nat.le_of_ble_eq_true rfl) rfl ?_
  unfold s_laws_FnFlyTop
  have hz : ((0 : Nat) : Int) = 0 := rfl
  by_cases hle : (1048576 : Int) < cs.length
  · simp only [w_skip, w_rg, w_rgd, w_seq, w_cond, w_block, w_loop, w_exit, w_ret, w_gh, w_rg0, w_rg1, w_rgT, w_rgF, w_run, w_psd, w_und, w_dr0, w_dr1, w_drT, w_drF, w_drRun, w_drPsd, w_drUnd, w_drKn, w_drKs, w_putK, w_trimK, w_thenN, w_thenE, w_thenR, w_scope, w_label, w_blkN, w_blkE, w_blkR, w_call, w_effK, brU_true, brU_false, brU_u, brU_not, brU_and, brU_or, brU_dec, brU_eq, brU_ne, br_true, br_false, br_not, br_and, br_or, br_dec, br_eq, br_ne, w_getE0, w_getE1, w_setE0, w_setE1, w_dropE0, w_dropE1, w_drop0, w_drop1, w_getM0, w_getM1, w_setM0, w_setM1, ev_v, ev_c, w_putS, w_putN, w_lit, w_apU0, w_apU1, w_apU2, w_trim, enumE0, enumE1, w_callWp, w_callA0, w_callA1, w_R0, w_R1, w_R2, w_T2, w_callL, w_callT, w_T1, w_T0, o_mv, o_newnil, o_pick, o_bin, o_binN, o_neg, o_not, o_eqB, o_eqS, o_conv, o_alloc, o_box, o_load1, o_loadN, o_store, o_nilck, o_faddr, o_field1, o_fieldN, o_iaddr, o_istr, o_slStr, o_slSl, o_lenS, o_lenL, o_mx, o_mn, o_ext, o_build, o_lit, o_litOwn, o_app, o_mk, o_mvfrz, l_int, l_bool, l_str, l_agg, l_sl, l_own, l_ptr, l_pp, i_int, i_bool, i_str, i_sl, i_own, i_ptr, i_pp, all0, all1, e_ok1, eff, effBin, effBinN, ld_ptr, ld_pp, ld_elt, ia_own, ia_arr, el_1, el_N, load1K, faddrE, r_iaddr, sg_S, sg_c, sg_n, purL, pur, List.map, List.drop, List.take, List.length, List.foldl, List.append_eq, List.nil_append, List.cons_append, List.getD_cons_zero, List.getD_cons_succ, reduceIte, Nat.reduceEqDiff, Nat.reduceAdd, Nat.reduceLeDiff, true_and, and_true, Bool.not_true, Bool.not_false, Bool.and_true, Bool.true_and, Bool.and_self, reduceCtorEq, true_implies, false_implies, implies_true, decide_eq_true_eq, Option.map_some, fpOf, fpX, SOp.xs, oX, refs, refsL, dom, disj, List.all_nil, List.all_cons, List.contains_cons, List.contains_nil, Nat.reduceBEq, Bool.or_false, Bool.false_or, List.append_nil, Bool.not_false, Bool.not_true, List.forall_mem_cons, fm0, List.set, Nat.reduceLT, ne_eq, not_false_eq_true, not_true_eq_false
, ret1, ret1N, keep0, keep1, rf_int, rf_bool, rf_str, rf_sl, rf_agg, rf_tup, rfL0, rfL1, re_t, re_cN, re_L0, re_L1, ret_tup, ret_one, decide_true, AV.bool.injEq, AV.int.injEq, Nat.reduceLeDiff, Bool.true_eq, Bool.false_eq, decide_eq_true_eq, decide_eq_false_iff_not, t_iGo, t_wfInts, t_iFit, t_tube, t_iPathOk, t_sPathOk, t_alw, t_iLawful, t_where, t_fwithin, t_iRest, t_iSeen, t_smaller, r_go, hle, t_fit, t_frest, t_lawful, brow, un_box, Box6.row, eq_self, beq_self_eq_true, bne_self_eq_false, decide_false, hz, List.length_nil, Path5.av, retG_ret, ghost, retQ_eq, retOk, wkM, refsInO, keepB, re_tup, or_t, Int.toNat_natCast, noref, flatOk, List.length_map, Stp7.row, irow, un_stp, un_i, set_f, set_b, List.length_set, take_all, path_eta, true_and, rowsOf, appE]
  simp only [w_skip, w_rg, w_rgd, w_seq, w_cond, w_block, w_loop, w_exit, w_ret, w_gh, w_rg0, w_rg1, w_rgT, w_rgF, w_run, w_psd, w_und, w_dr0, w_dr1, w_drT, w_drF, w_drRun, w_drPsd, w_drUnd, w_drKn, w_drKs, w_putK, w_trimK, w_thenN, w_thenE, w_thenR, w_scope, w_label, w_blkN, w_blkE, w_blkR, w_call, w_effK, brU_true, brU_false, brU_u, brU_not, brU_and, brU_or, brU_dec, brU_eq, brU_ne, br_true, br_false, br_not, br_and, br_or, br_dec, br_eq, br_ne, w_getE0, w_getE1, w_setE0, w_setE1, w_dropE0, w_dropE1, w_drop0, w_drop1, w_getM0, w_getM1, w_setM0, w_setM1, ev_v, ev_c, w_putS, w_putN, w_lit, w_apU0, w_apU1, w_apU2, w_trim, enumE0, enumE1, w_callWp, w_callA0, w_callA1, w_R0, w_R1, w_R2, w_T2, w_callL, w_callT, w_T1, w_T0, o_mv, o_newnil, o_pick, o_bin, o_binN, o_neg, o_not, o_eqB, o_eqS, o_conv, o_alloc, o_box, o_load1, o_loadN, o_store, o_nilck, o_faddr, o_field1, o_fieldN, o_iaddr, o_istr, o_slStr, o_slSl, o_lenS, o_lenL, o_mx, o_mn, o_ext, o_build, o_lit, o_litOwn, o_app, o_mk, o_mvfrz, l_int, l_bool, l_str, l_agg, l_sl, l_own, l_ptr, l_pp, i_int, i_bool, i_str, i_sl, i_own, i_ptr, i_pp, all0, all1, e_ok1, eff, effBin, effBinN, ld_ptr, ld_pp, ld_elt, ia_own, ia_arr, el_1, el_N, load1K, faddrE, r_iaddr, sg_S, sg_c, sg_n, purL, pur, List.map, List.drop, List.take, List.length, List.foldl, List.append_eq, List.nil_append, List.cons_append, List.getD_cons_zero, List.getD_cons_succ, reduceIte, Nat.reduceEqDiff, Nat.reduceAdd, Nat.reduceLeDiff, true_and, and_true, Bool.not_true, Bool.not_false, Bool.and_true, Bool.true_and, Bool.and_self, reduceCtorEq, true_implies, false_implies, implies_true, decide_eq_true_eq, Option.map_some, fpOf, fpX, SOp.xs, oX, refs, refsL, dom, disj, List.all_nil, List.all_cons, List.contains_cons, List.contains_nil, Nat.reduceBEq, Bool.or_false, Bool.false_or, List.append_nil, Bool.not_false, Bool.not_true, List.forall_mem_cons, fm0, List.set, Nat.reduceLT, ne_eq, not_false_eq_true, not_true_eq_false
, ret1, ret1N, keep0, keep1, rf_int, rf_bool, rf_str, rf_sl, rf_agg, rf_tup, rfL0, rfL1, re_t, re_cN, re_L0, re_L1, ret_tup, ret_one, decide_true, AV.bool.injEq, AV.int.injEq, Nat.reduceLeDiff, Bool.true_eq, Bool.false_eq, decide_eq_true_eq, decide_eq_false_iff_not, t_iGo, t_wfInts, t_iFit, t_tube, t_iPathOk, t_sPathOk, t_alw, t_iLawful, t_where, t_fwithin, t_iRest, t_iSeen, t_smaller, r_go, hle, t_fit, t_frest, t_lawful, brow, un_box, Box6.row, eq_self, beq_self_eq_true, bne_self_eq_false, decide_false, hz, List.length_nil, Path5.av, retG_ret, ghost, retQ_eq, retOk, wkM, refsInO, keepB, re_tup, or_t, Int.toNat_natCast, noref, flatOk, List.length_map, Stp7.row, irow, un_stp, un_i, set_f, set_b, List.length_set, take_all, path_eta, true_and, rowsOf, appE]
  obtain ⟨⟨p, asked⟩, ⟨hp, ha⟩, hC⟩ := c_drawFlight cs hcs (by omega)
  simp only at hp ha
  refine ⟨_, _, .inr (.inl ⟨rfl, _, rfl, hC, rfl, ⟨no99_av _, ⟨by omega, no99_i _⟩, trivial⟩⟩), ?_⟩
  by_cases hfit : p.fit
  · obtain ⟨l, hgo⟩ := go_fit hfit asked
    have hlw := go_some hgo
    simp only [w_skip, w_rg, w_rgd, w_seq, w_cond, w_block, w_loop, w_exit, w_ret, w_gh, w_rg0, w_rg1, w_rgT, w_rgF, w_run, w_psd, w_und, w_dr0, w_dr1, w_drT, w_drF, w_drRun, w_drPsd, w_drUnd, w_drKn, w_drKs, w_putK, w_trimK, w_thenN, w_thenE, w_thenR, w_scope, w_label, w_blkN, w_blkE, w_blkR, w_call, w_effK, brU_true, brU_false, brU_u, brU_not, brU_and, brU_or, brU_dec, brU_eq, brU_ne, br_true, br_false, br_not, br_and, br_or, br_dec, br_eq, br_ne, w_getE0, w_getE1, w_setE0, w_setE1, w_dropE0, w_dropE1, w_drop0, w_drop1, w_getM0, w_getM1, w_setM0, w_setM1, ev_v, ev_c, w_putS, w_putN, w_lit, w_apU0, w_apU1, w_apU2, w_trim, enumE0, enumE1, w_callWp, w_callA0, w_callA1, w_R0, w_R1, w_R2, w_T2, w_callL, w_callT, w_T1, w_T0, o_mv, o_newnil, o_pick, o_bin, o_binN, o_neg, o_not, o_eqB, o_eqS, o_conv, o_alloc, o_box, o_load1, o_loadN, o_store, o_nilck, o_faddr, o_field1, o_fieldN, o_iaddr, o_istr, o_slStr, o_slSl, o_lenS, o_lenL, o_mx, o_mn, o_ext, o_build, o_lit, o_litOwn, o_app, o_mk, o_mvfrz, l_int, l_bool, l_str, l_agg, l_sl, l_own, l_ptr, l_pp, i_int, i_bool, i_str, i_sl, i_own, i_ptr, i_pp, all0, all1, e_ok1, eff, effBin, effBinN, ld_ptr, ld_pp, ld_elt, ia_own, ia_arr, el_1, el_N, load1K, faddrE, r_iaddr, sg_S, sg_c, sg_n, purL, pur, List.map, List.drop, List.take, List.length, List.foldl, List.append_eq, List.nil_append, List.cons_append, List.getD_cons_zero, List.getD_cons_succ, reduceIte, Nat.reduceEqDiff, Nat.reduceAdd, Nat.reduceLeDiff, true_and, and_true, Bool.not_true, Bool.not_false, Bool.and_true, Bool.true_and, Bool.and_self, reduceCtorEq, true_implies, false_implies, implies_true, decide_eq_true_eq, Option.map_some, fpOf, fpX, SOp.xs, oX, refs, refsL, dom, disj, List.all_nil, List.all_cons, List.contains_cons, List.contains_nil, Nat.reduceBEq, Bool.or_false, Bool.false_or, List.append_nil, Bool.not_false, Bool.not_true, List.forall_mem_cons, fm0, List.set, Nat.reduceLT, ne_eq, not_false_eq_true, not_true_eq_false
, ret1, ret1N, keep0, keep1, rf_int, rf_bool, rf_str, rf_sl, rf_agg, rf_tup, rfL0, rfL1, re_t, re_cN, re_L0, re_L1, ret_tup, ret_one, decide_true, AV.bool.injEq, AV.int.injEq, Nat.reduceLeDiff, Bool.true_eq, Bool.false_eq, decide_eq_true_eq, decide_eq_false_iff_not, t_iGo, t_wfInts, t_iFit, t_tube, t_iPathOk, t_sPathOk, t_alw, t_iLawful, t_where, t_fwithin, t_iRest, t_iSeen, t_smaller, r_go, hle, t_fit, t_frest, t_lawful, brow, un_box, Box6.row, eq_self, beq_self_eq_true, bne_self_eq_false, decide_false, hz, List.length_nil, Path5.av, retG_ret, ghost, retQ_eq, retOk, wkM, refsInO, keepB, re_tup, or_t, Int.toNat_natCast, noref, flatOk, List.length_map, Stp7.row, irow, un_stp, un_i, set_f, set_b, List.length_set, take_all, path_eta, true_and, rowsOf, appE, Int.toNat_zero, hgo, hlw, Option.getD_some, Option.isSome_some]
    have hll := hlw.2.1
    have hpl := hlw.1.2.1
    refine ⟨by omega, by omega, fun v => ⟨by omega, hlw.1, by omega, by omega, by omega, ?_⟩⟩
    refine loop_of (F_top1 p l) (fun t => l.getD 0 default ≤ t) (fun t => (l.getD p.l.length default - t).toNat) (l.getD 0 default) ⟨⟨.inr rfl, .inr rfl, .inr rfl, .inr rfl, .inr rfl, trivial⟩, ⟨rfl, trivial⟩, rfl, rfl⟩ (Int.le_refl _) ?_
    intro t ht
    have hv0 := lawful_val hlw (k := 0) (by omega)
    have hvn := lawful_val hlw (k := p.l.length) (by omega)
    by_cases hjn : t < l.getD p.l.length default
    · obtain ⟨k, hk⟩ := where_ex (f := l) (t := t) (by omega) (p.l.length - 1) (by omega) (by rwa [show p.l.length - 1 + 1 = p.l.length by omega])
      obtain ⟨k1, k2, k3⟩ := where_spec hk
      have hkl : k < p.l.length := by omega
      have hc : ((k : Int) + 1).toNat = k + 1 := by omega
      have e1 : (t < l.getD k default) = False := eq_false (by omega)
      have e2 : (l.getD (k + 1) default ≤ t) = False := eq_false (by omega)
      unfold l_laws_FnFlyTop_1 F_top1
      simp only [w_skip, w_rg, w_rgd, w_seq, w_cond, w_block, w_loop, w_exit, w_ret, w_gh, w_rg0, w_rg1, w_rgT, w_rgF, w_run, w_psd, w_und, w_dr0, w_dr1, w_drT, w_drF, w_drRun, w_drPsd, w_drUnd, w_drKn, w_drKs, w_putK, w_trimK, w_thenN, w_thenE, w_thenR, w_scope, w_label, w_blkN, w_blkE, w_blkR, w_call, w_effK, brU_true, brU_false, brU_u, brU_not, brU_and, brU_or, brU_dec, brU_eq, brU_ne, br_true, br_false, br_not, br_and, br_or, br_dec, br_eq, br_ne, w_getE0, w_getE1, w_setE0, w_setE1, w_dropE0, w_dropE1, w_drop0, w_drop1, w_getM0, w_getM1, w_setM0, w_setM1, ev_v, ev_c, w_putS, w_putN, w_lit, w_apU0, w_apU1, w_apU2, w_trim, enumE0, enumE1, w_callWp, w_callA0, w_callA1, w_R0, w_R1, w_R2, w_T2, w_callL, w_callT, w_T1, w_T0, o_mv, o_newnil, o_pick, o_bin, o_binN, o_neg, o_not, o_eqB, o_eqS, o_conv, o_alloc, o_box, o_load1, o_loadN, o_store, o_nilck, o_faddr, o_field1, o_fieldN, o_iaddr, o_istr, o_slStr, o_slSl, o_lenS, o_lenL, o_mx, o_mn, o_ext, o_build, o_lit, o_litOwn, o_app, o_mk, o_mvfrz, l_int, l_bool, l_str, l_agg, l_sl, l_own, l_ptr, l_pp, i_int, i_bool, i_str, i_sl, i_own, i_ptr, i_pp, all0, all1, e_ok1, eff, effBin, effBinN, ld_ptr, ld_pp, ld_elt, ia_own, ia_arr, el_1, el_N, load1K, faddrE, r_iaddr, sg_S, sg_c, sg_n, purL, pur, List.map, List.drop, List.take, List.length, List.foldl, List.append_eq, List.nil_append, List.cons_append, List.getD_cons_zero, List.getD_cons_succ, reduceIte, Nat.reduceEqDiff, Nat.reduceAdd, Nat.reduceLeDiff, true_and, and_true, Bool.not_true, Bool.not_false, Bool.and_true, Bool.true_and, Bool.and_self, reduceCtorEq, true_implies, false_implies, implies_true, decide_eq_true_eq, Option.map_some, fpOf, fpX, SOp.xs, oX, refs, refsL, dom, disj, List.all_nil, List.all_cons, List.contains_cons, List.contains_nil, Nat.reduceBEq, Bool.or_false, Bool.false_or, List.append_nil, Bool.not_false, Bool.not_true, List.forall_mem_cons, fm0, List.set, Nat.reduceLT, ne_eq, not_false_eq_true, not_true_eq_false
, ret1, ret1N, keep0, keep1, rf_int, rf_bool, rf_str, rf_sl, rf_agg, rf_tup, rfL0, rfL1, re_t, re_cN, re_L0, re_L1, ret_tup, ret_one, decide_true, AV.bool.injEq, AV.int.injEq, Nat.reduceLeDiff, decide_eq_true_eq, decide_eq_false_iff_not, t_iGo, t_wfInts, t_iFit, t_tube, t_iPathOk, t_sPathOk, t_alw, t_iLawful, t_where, t_fwithin, t_iRest, t_iSeen, t_smaller, r_go, hle, t_fit, t_frest, t_lawful, brow, un_box, Box6.row, eq_self, beq_self_eq_true, bne_self_eq_false, decide_false, hz, List.length_nil, Path5.av, retG_ret, ghost, retQ_eq, retOk, wkM, refsInO, keepB, re_tup, or_t, Int.toNat_natCast, noref, flatOk, List.length_map, Stp7.row, irow, un_stp, un_i, set_f, set_b, List.length_set, take_all, path_eta, true_and, rowsOf, appE, Int.toNat_zero, hk, e1, e2, hc, hjn, false_implies, Option.getD_some, Option.isSome_some]
      refine ⟨by omega, by omega, by omega, by omega, by omega, fun h60 => ⟨by omega, by omega, by omega, by omega, by omega, by omega, by omega, by omega, ?_⟩⟩
      have hok := (hlw.1.2.2.2 k hkl).1
      unfold Stp7.ok at hok
      obtain ⟨⟨t1, t2⟩, ⟨t3, t4⟩, t5, t6⟩ := top_rest hlw hkl k2 k3
      refine loop_of (F_top0 p l t k) (fun i => (p.l.getD k default).l + (i : Int) ≤ (p.l.getD k default).h + 1) (fun i => ((p.l.getD k default).h - (p.l.getD k default).l).toNat + 1 - i) 0 ⟨⟨.inr rfl, .inr rfl, .inr rfl, .inr rfl, .inr rfl, .inr rfl, .inr rfl, .inr (congrArg (AV.int .i64) (show (p.l.getD k default).l = (p.l.getD k default).l + ((0 : Nat) : Int) by omega)), trivial⟩, ⟨rfl, rfl, trivial⟩, rfl, rfl⟩ (by omega) ?_
      intro i hi
      by_cases hlev : (p.l.getD k default).l + (i : Int) ≤ (p.l.getD k default).h
      · have hw := top_within (lev := (p.l.getD k default).l + (i : Int)) hlw hkl k2 k3 (by omega) hlev
        unfold l_laws_FnFlyTop_0 F_top0
        simp only [w_skip, w_rg, w_rgd, w_seq, w_cond, w_block, w_loop, w_exit, w_ret, w_gh, w_rg0, w_rg1, w_rgT, w_rgF, w_run, w_psd, w_und, w_dr0, w_dr1, w_drT, w_drF, w_drRun, w_drPsd, w_drUnd, w_drKn, w_drKs, w_putK, w_trimK, w_thenN, w_thenE, w_thenR, w_scope, w_label, w_blkN, w_blkE, w_blkR, w_call, w_effK, brU_true, brU_false, brU_u, brU_not, brU_and, brU_or, brU_dec, brU_eq, brU_ne, br_true, br_false, br_not, br_and, br_or, br_dec, br_eq, br_ne, w_getE0, w_getE1, w_setE0, w_setE1, w_dropE0, w_dropE1, w_drop0, w_drop1, w_getM0, w_getM1, w_setM0, w_setM1, ev_v, ev_c, w_putS, w_putN, w_lit, w_apU0, w_apU1, w_apU2, w_trim, enumE0, enumE1, w_callWp, w_callA0, w_callA1, w_R0, w_R1, w_R2, w_T2, w_callL, w_callT, w_T1, w_T0, o_mv, o_newnil, o_pick, o_bin, o_binN, o_neg, o_not, o_eqB, o_eqS, o_conv, o_alloc, o_box, o_load1, o_loadN, o_store, o_nilck, o_faddr, o_field1, o_fieldN, o_iaddr, o_istr, o_slStr, o_slSl, o_lenS, o_lenL, o_mx, o_mn, o_ext, o_build, o_lit, o_litOwn, o_app, o_mk, o_mvfrz, l_int, l_bool, l_str, l_agg, l_sl, l_own, l_ptr, l_pp, i_int, i_bool, i_str, i_sl, i_own, i_ptr, i_pp, all0, all1, e_ok1, eff, effBin, effBinN, ld_ptr, ld_pp, ld_elt, ia_own, ia_arr, el_1, el_N, load1K, faddrE, r_iaddr, sg_S, sg_c, sg_n, purL, pur, List.map, List.drop, List.take, List.length, List.foldl, List.append_eq, List.nil_append, List.cons_append, List.getD_cons_zero, List.getD_cons_succ, reduceIte, Nat.reduceEqDiff, Nat.reduceAdd, Nat.reduceLeDiff, true_and, and_true, Bool.not_true, Bool.not_false, Bool.and_true, Bool.true_and, Bool.and_self, reduceCtorEq, true_implies, false_implies, implies_true, decide_eq_true_eq, Option.map_some, fpOf, fpX, SOp.xs, oX, refs, refsL, dom, disj, List.all_nil, List.all_cons, List.contains_cons, List.contains_nil, Nat.reduceBEq, Bool.or_false, Bool.false_or, List.append_nil, Bool.not_false, Bool.not_true, List.forall_mem_cons, fm0, List.set, Nat.reduceLT, ne_eq, not_false_eq_true, not_true_eq_false
, ret1, ret1N, keep0, keep1, rf_int, rf_bool, rf_str, rf_sl, rf_agg, rf_tup, rfL0, rfL1, re_t, re_cN, re_L0, re_L1, ret_tup, ret_one, decide_true, AV.bool.injEq, AV.int.injEq, Nat.reduceLeDiff, decide_eq_true_eq, decide_eq_false_iff_not, t_iGo, t_wfInts, t_iFit, t_tube, t_iPathOk, t_sPathOk, t_alw, t_iLawful, t_where, t_fwithin, t_iRest, t_iSeen, t_smaller, r_go, hle, t_fit, t_frest, t_lawful, brow, un_box, Box6.row, eq_self, beq_self_eq_true, bne_self_eq_false, decide_false, hz, List.length_nil, Path5.av, retG_ret, ghost, retQ_eq, retOk, wkM, refsInO, keepB, re_tup, or_t, Int.toNat_natCast, noref, flatOk, List.length_map, Stp7.row, irow, un_stp, un_i, set_f, set_b, List.length_set, take_all, path_eta, true_and, rowsOf, appE, hlev, hw]
        exact ⟨by rw [tube_len, if_pos hfit]; omega, by omega, loopK_of (i + 1) ⟨⟨.inr rfl, .inr rfl, .inr rfl, .inr rfl, .inr rfl, .inr rfl, .inr rfl, .inr (congrArg (AV.int .i64) (show (p.l.getD k default).l + (i : Int) + 1 = (p.l.getD k default).l + ((i + 1 : Nat) : Int) by omega)), trivial⟩, ⟨rfl, rfl, trivial⟩, rfl, rfl⟩ (by omega) (by omega)⟩
      · unfold l_laws_FnFlyTop_0 F_top0
        simp only [w_skip, w_rg, w_rgd, w_seq, w_cond, w_block, w_loop, w_exit, w_ret, w_gh, w_rg0, w_rg1, w_rgT, w_rgF, w_run, w_psd, w_und, w_dr0, w_dr1, w_drT, w_drF, w_drRun, w_drPsd, w_drUnd, w_drKn, w_drKs, w_putK, w_trimK, w_thenN, w_thenE, w_thenR, w_scope, w_label, w_blkN, w_blkE, w_blkR, w_call, w_effK, brU_true, brU_false, brU_u, brU_not, brU_and, brU_or, brU_dec, brU_eq, brU_ne, br_true, br_false, br_not, br_and, br_or, br_dec, br_eq, br_ne, w_getE0, w_getE1, w_setE0, w_setE1, w_dropE0, w_dropE1, w_drop0, w_drop1, w_getM0, w_getM1, w_setM0, w_setM1, ev_v, ev_c, w_putS, w_putN, w_lit, w_apU0, w_apU1, w_apU2, w_trim, enumE0, enumE1, w_callWp, w_callA0, w_callA1, w_R0, w_R1, w_R2, w_T2, w_callL, w_callT, w_T1, w_T0, o_mv, o_newnil, o_pick, o_bin, o_binN, o_neg, o_not, o_eqB, o_eqS, o_conv, o_alloc, o_box, o_load1, o_loadN, o_store, o_nilck, o_faddr, o_field1, o_fieldN, o_iaddr, o_istr, o_slStr, o_slSl, o_lenS, o_lenL, o_mx, o_mn, o_ext, o_build, o_lit, o_litOwn, o_app, o_mk, o_mvfrz, l_int, l_bool, l_str, l_agg, l_sl, l_own, l_ptr, l_pp, i_int, i_bool, i_str, i_sl, i_own, i_ptr, i_pp, all0, all1, e_ok1, eff, effBin, effBinN, ld_ptr, ld_pp, ld_elt, ia_own, ia_arr, el_1, el_N, load1K, faddrE, r_iaddr, sg_S, sg_c, sg_n, purL, pur, List.map, List.drop, List.take, List.length, List.foldl, List.append_eq, List.nil_append, List.cons_append, List.getD_cons_zero, List.getD_cons_succ, reduceIte, Nat.reduceEqDiff, Nat.reduceAdd, Nat.reduceLeDiff, true_and, and_true, Bool.not_true, Bool.not_false, Bool.and_true, Bool.true_and, Bool.and_self, reduceCtorEq, true_implies, false_implies, implies_true, decide_eq_true_eq, Option.map_some, fpOf, fpX, SOp.xs, oX, refs, refsL, dom, disj, List.all_nil, List.all_cons, List.contains_cons, List.contains_nil, Nat.reduceBEq, Bool.or_false, Bool.false_or, List.append_nil, Bool.not_false, Bool.not_true, List.forall_mem_cons, fm0, List.set, Nat.reduceLT, ne_eq, not_false_eq_true, not_true_eq_false
, ret1, ret1N, keep0, keep1, rf_int, rf_bool, rf_str, rf_sl, rf_agg, rf_tup, rfL0, rfL1, re_t, re_cN, re_L0, re_L1, ret_tup, ret_one, decide_true, AV.bool.injEq, AV.int.injEq, Nat.reduceLeDiff, decide_eq_true_eq, decide_eq_false_iff_not, t_iGo, t_wfInts, t_iFit, t_tube, t_iPathOk, t_sPathOk, t_alw, t_iLawful, t_where, t_fwithin, t_iRest, t_iSeen, t_smaller, r_go, hle, t_fit, t_frest, t_lawful, brow, un_box, Box6.row, eq_self, beq_self_eq_true, bne_self_eq_false, decide_false, hz, List.length_nil, Path5.av, retG_ret, ghost, retQ_eq, retOk, wkM, refsInO, keepB, re_tup, or_t, Int.toNat_natCast, noref, flatOk, List.length_map, Stp7.row, irow, un_stp, un_i, set_f, set_b, List.length_set, take_all, path_eta, true_and, rowsOf, appE, Int.toNat_zero, hlev, optI, drop_i, drop_b, t1, t2, t3, t4, t5, t6]
        have q1 := t3.1.2.1
        have q2 := t4.1.2.1
        have q3 := tube_le (p.restR k (l.getD k default) t)
        have q4 := tube_le (p.seenR k t)
        have q5 : p.tube.length = p.l.length := by rw [tube_len, if_pos hfit]
        have q6 : (List.drop k p.tube).length ≤ p.tube.length := by rw [List.length_drop]; omega
        exact ⟨by omega, by omega, by omega, fun g1 => ⟨⟨by omega, by omega⟩, fun g2 => ⟨by omega, loopK_of (t + 1) ⟨⟨.inr rfl, .inr rfl, .inr rfl, .inr rfl, .inr rfl, trivial⟩, ⟨rfl, trivial⟩, rfl, rfl⟩ (by omega) (by omega)⟩, fun g2 => ⟨by omega, by omega, ⟨by omega, by omega, by omega⟩, ⟨by omega, by omega, by omega⟩, by omega, by omega, ⟨by omega, by omega⟩, by omega, ⟨by omega, by omega, by omega⟩, ⟨by omega, by omega⟩, by omega, loopK_of (t + 1) ⟨⟨.inr rfl, .inr rfl, .inr rfl, .inr rfl, .inr rfl, trivial⟩, ⟨rfl, trivial⟩, rfl, rfl⟩ (by omega) (by omega)⟩⟩, fun g1 => ⟨by omega, by omega, ⟨by omega, by omega, by omega⟩, ⟨by omega, by omega, by omega⟩, by omega, by omega, ⟨by omega, by omega⟩, by omega, ⟨by omega, by omega, by omega⟩, ⟨by omega, by omega⟩, by omega, loopK_of (t + 1) ⟨⟨.inr rfl, .inr rfl, .inr rfl, .inr rfl, .inr rfl, trivial⟩, ⟨rfl, trivial⟩, rfl, rfl⟩ (by omega) (by omega)⟩⟩
    · unfold l_laws_FnFlyTop_1 F_top1
      simp only [w_skip, w_rg, w_rgd, w_seq, w_cond, w_block, w_loop, w_exit, w_ret, w_gh, w_rg0, w_rg1, w_rgT, w_rgF, w_run, w_psd, w_und, w_dr0, w_dr1, w_drT, w_drF, w_drRun, w_drPsd, w_drUnd, w_drKn, w_drKs, w_putK, w_trimK, w_thenN, w_thenE, w_thenR, w_scope, w_label, w_blkN, w_blkE, w_blkR, w_call, w_effK, brU_true, brU_false, brU_u, brU_not, brU_and, brU_or, brU_dec, brU_eq, brU_ne, br_true, br_false, br_not, br_and, br_or, br_dec, br_eq, br_ne, w_getE0, w_getE1, w_setE0, w_setE1, w_dropE0, w_dropE1, w_drop0, w_drop1, w_getM0, w_getM1, w_setM0, w_setM1, ev_v, ev_c, w_putS, w_putN, w_lit, w_apU0, w_apU1, w_apU2, w_trim, enumE0, enumE1, w_callWp, w_callA0, w_callA1, w_R0, w_R1, w_R2, w_T2, w_callL, w_callT, w_T1, w_T0, o_mv, o_newnil, o_pick, o_bin, o_binN, o_neg, o_not, o_eqB, o_eqS, o_conv, o_alloc, o_box, o_load1, o_loadN, o_store, o_nilck, o_faddr, o_field1, o_fieldN, o_iaddr, o_istr, o_slStr, o_slSl, o_lenS, o_lenL, o_mx, o_mn, o_ext, o_build, o_lit, o_litOwn, o_app, o_mk, o_mvfrz, l_int, l_bool, l_str, l_agg, l_sl, l_own, l_ptr, l_pp, i_int, i_bool, i_str, i_sl, i_own, i_ptr, i_pp, all0, all1, e_ok1, eff, effBin, effBinN, ld_ptr, ld_pp, ld_elt, ia_own, ia_arr, el_1, el_N, load1K, faddrE, r_iaddr, sg_S, sg_c, sg_n, purL, pur, List.map, List.drop, List.take, List.length, List.foldl, List.append_eq, List.nil_append, List.cons_append, List.getD_cons_zero, List.getD_cons_succ, reduceIte, Nat.reduceEqDiff, Nat.reduceAdd, Nat.reduceLeDiff, true_and, and_true, Bool.not_true, Bool.not_false, Bool.and_true, Bool.true_and, Bool.and_self, reduceCtorEq, true_implies, false_implies, implies_true, decide_eq_true_eq, Option.map_some, fpOf, fpX, SOp.xs, oX, refs, refsL, dom, disj, List.all_nil, List.all_cons, List.contains_cons, List.contains_nil, Nat.reduceBEq, Bool.or_false, Bool.false_or, List.append_nil, Bool.not_false, Bool.not_true, List.forall_mem_cons, fm0, List.set, Nat.reduceLT, ne_eq, not_false_eq_true, not_true_eq_false
, ret1, ret1N, keep0, keep1, rf_int, rf_bool, rf_str, rf_sl, rf_agg, rf_tup, rfL0, rfL1, re_t, re_cN, re_L0, re_L1, ret_tup, ret_one, decide_true, AV.bool.injEq, AV.int.injEq, Nat.reduceLeDiff, decide_eq_true_eq, decide_eq_false_iff_not, t_iGo, t_wfInts, t_iFit, t_tube, t_iPathOk, t_sPathOk, t_alw, t_iLawful, t_where, t_fwithin, t_iRest, t_iSeen, t_smaller, r_go, hle, t_fit, t_frest, t_lawful, brow, un_box, Box6.row, eq_self, beq_self_eq_true, bne_self_eq_false, decide_false, hz, List.length_nil, Path5.av, retG_ret, ghost, retQ_eq, retOk, wkM, refsInO, keepB, re_tup, or_t, Int.toNat_natCast, noref, flatOk, List.length_map, Stp7.row, irow, un_stp, un_i, set_f, set_b, List.length_set, take_all, path_eta, true_and, rowsOf, appE, Int.toNat_zero, hjn]
      exact ⟨by omega, by omega⟩
  · have hgo := go_nofit hfit asked
    have htn := tube_nil hfit
    simp only [w_skip, w_rg, w_rgd, w_seq, w_cond, w_block, w_loop, w_exit, w_ret, w_gh, w_rg0, w_rg1, w_rgT, w_rgF, w_run, w_psd, w_und, w_dr0, w_dr1, w_drT, w_drF, w_drRun, w_drPsd, w_drUnd, w_drKn, w_drKs, w_putK, w_trimK, w_thenN, w_thenE, w_thenR, w_scope, w_label, w_blkN, w_blkE, w_blkR, w_call, w_effK, brU_true, brU_false, brU_u, brU_not, brU_and, brU_or, brU_dec, brU_eq, brU_ne, br_true, br_false, br_not, br_and, br_or, br_dec, br_eq, br_ne, w_getE0, w_getE1, w_setE0, w_setE1, w_dropE0, w_dropE1, w_drop0, w_drop1, w_getM0, w_getM1, w_setM0, w_setM1, ev_v, ev_c, w_putS, w_putN, w_lit, w_apU0, w_apU1, w_apU2, w_trim, enumE0, enumE1, w_callWp, w_callA0, w_callA1, w_R0, w_R1, w_R2, w_T2, w_callL, w_callT, w_T1, w_T0, o_mv, o_newnil, o_pick, o_bin, o_binN, o_neg, o_not, o_eqB, o_eqS, o_conv, o_alloc, o_box, o_load1, o_loadN, o_store, o_nilck, o_faddr, o_field1, o_fieldN, o_iaddr, o_istr, o_slStr, o_slSl, o_lenS, o_lenL, o_mx, o_mn, o_ext, o_build, o_lit, o_litOwn, o_app, o_mk, o_mvfrz, l_int, l_bool, l_str, l_agg, l_sl, l_own, l_ptr, l_pp, i_int, i_bool, i_str, i_sl, i_own, i_ptr, i_pp, all0, all1, e_ok1, eff, effBin, effBinN, ld_ptr, ld_pp, ld_elt, ia_own, ia_arr, el_1, el_N, load1K, faddrE, r_iaddr, sg_S, sg_c, sg_n, purL, pur, List.map, List.drop, List.take, List.length, List.foldl, List.append_eq, List.nil_append, List.cons_append, List.getD_cons_zero, List.getD_cons_succ, reduceIte, Nat.reduceEqDiff, Nat.reduceAdd, Nat.reduceLeDiff, true_and, and_true, Bool.not_true, Bool.not_false, Bool.and_true, Bool.true_and, Bool.and_self, reduceCtorEq, true_implies, false_implies, implies_true, decide_eq_true_eq, Option.map_some, fpOf, fpX, SOp.xs, oX, refs, refsL, dom, disj, List.all_nil, List.all_cons, List.contains_cons, List.contains_nil, Nat.reduceBEq, Bool.or_false, Bool.false_or, List.append_nil, Bool.not_false, Bool.not_true, List.forall_mem_cons, fm0, List.set, Nat.reduceLT, ne_eq, not_false_eq_true, not_true_eq_false
, ret1, ret1N, keep0, keep1, rf_int, rf_bool, rf_str, rf_sl, rf_agg, rf_tup, rfL0, rfL1, re_t, re_cN, re_L0, re_L1, ret_tup, ret_one, decide_true, AV.bool.injEq, AV.int.injEq, Nat.reduceLeDiff, decide_eq_true_eq, decide_eq_false_iff_not, t_iGo, t_wfInts, t_iFit, t_tube, t_iPathOk, t_sPathOk, t_alw, t_iLawful, t_where, t_fwithin, t_iRest, t_iSeen, t_smaller, r_go, hle, t_fit, t_frest, t_lawful, brow, un_box, Box6.row, eq_self, beq_self_eq_true, bne_self_eq_false, decide_false, hz, List.length_nil, Path5.av, retG_ret, ghost, retQ_eq, retOk, wkM, refsInO, keepB, re_tup, or_t, Int.toNat_natCast, noref, flatOk, List.length_map, Stp7.row, irow, un_stp, un_i, set_f, set_b, List.length_set, take_all, path_eta, true_and, rowsOf, appE, hgo, hfit, htn, Option.getD_none, Option.isSome_none, Bool.false_eq_true]
    exact ⟨by omega, by omega, fun _ => by omega⟩
end Go.Ve
