/- Part 4 of the proof: laws and contracts of functions, each proved; they are joined in the last part. No conditions beyond those that the theorems state. -/
import Derived.Test.YtbghmmeeghdleaaLc3
set_option linter.all false
namespace Go.Ve
noncomputable section
open Go.Proofs
set_option linter.unusedSimpArgs false
set_option linter.unusedVariables false
set_option maxRecDepth 100000
def t_zonesOk : List AV → Option (Prop × AV)
  | [.sl zst 5 zsx] => some ((((zsx.map unZone).map Zone.row = zsx)) ∧ ((zsx.map unZone).length ≤ 4611686018427387904), .bool (decide (zonesOk (zsx.map unZone))))
  | _ => none
theorem h_zonesOk : ∀ args p v, t_zonesOk args = some (p, v) → p → Contract P 36 args [] v [] ∧ noref v = true ∧ No99 v := by
  intro args p v h1 h2
  unfold t_zonesOk at h1
  split at h1
  · rename_i zst zsx
    cases h1
    obtain ⟨e0, HP⟩ := h2
    have := c_zonesOk zst (zsx.map unZone) HP
    exact ⟨by simpa only [e0] using this, rfl, trivial⟩
  · cases h1
set_option maxHeartbeats 1000000 in
theorem c_sZonesOk (t : Nat) (zs : List Zone) (hl : zs.length ≤ 4611686018427387904) : Contract P 45 [.sl t 5 (zs.map Zone.row)] [] (.bool (decide (zonesOk zs))) [] := by
  refine fn_sound (((Env.nil P).add 48 t_l31In h_l31In).add 28 t_l31NameOk h_l31NameOk) hm k_spec_HandZonesOk (Nat.le_of_ble_eq_true rfl) rfl ?_; unfold s_spec_HandZonesOk; simp (config := { maxSteps := 2000000 }) only [w_skip, w_rg, w_rgd, w_seq, w_cond, w_block, w_loop, w_exit, w_ret, w_gh, w_rg0, w_rg1, w_rgT, w_rgF, w_run, w_psd, w_und, w_dr0, w_dr1, w_drT, w_drF, w_drRun, w_drPsd, w_drUnd, w_drKn, w_drKs, w_putK, w_trimK, w_thenN, w_thenE, w_thenR, w_scope, w_label, w_blkN, w_blkE, w_blkR, w_call, w_callV, w_callF, o_clos, o_b2s, b2sE, w_effK, brU_true, brU_false, brU_u, brU_not, brU_and, brU_or, brU_dec, brU_eq, brU_ne, br_true, br_false, br_not, br_and, br_or, br_dec, br_eq, br_ne, w_getE0, w_getE1, w_setE0, w_setE1, w_dropE0, w_dropE1, w_drop0, w_drop1, w_getM0, w_getM1, w_setM0, w_setM1, ev_v, ev_c, w_putS, w_putN, w_lit, w_apU0, w_apU1, w_apU2, w_trim, enumE0, enumE1, w_callWp, w_callA0, w_callA1, w_R0, w_R1, w_R2, w_T2, w_callL, w_callT, w_T1, w_T0, o_mv, o_newnil, o_pick, o_bin, o_binN, o_neg, o_not, o_eqB, o_eqS, o_conv, o_alloc, o_box, o_load1, o_loadN, o_store, o_nilck, o_faddr, o_field1, o_fieldN, o_iaddr, o_istr, o_slStr, o_slSl, o_lenS, o_lenL, o_mx, o_mn, o_ext, o_build, o_lit, o_litOwn, o_app, o_mk, o_mvfrz, u_M1, u_M0, u_E1, optI, List.length_take, Int.toNat_zero, List.drop_zero, u_E0, o_idxN, o_idx, o_mset, o_look, o_mkmap, l_int, l_bool, l_str, l_agg, l_sl, l_own, l_ptr, l_pp, i_int, i_bool, i_str, i_sl, i_own, i_ptr, i_pp, all0, all1, e_ok1, eff, effBin, effBinN, ld_ptr, ld_pp, ld_elt, ia_own, ia_arr, el_1, el_N, load1K, faddrE, r_iaddr, sg_S, sg_c, sg_n, purL, pur, List.map, List.drop, List.take, List.length, List.foldl, List.append_eq, List.nil_append, List.cons_append, List.getD_cons_zero, List.getD_cons_succ, reduceIte, Nat.reduceEqDiff, Nat.reduceAdd, Nat.reduceLeDiff, true_and, and_true, Bool.not_true, Bool.not_false, Bool.and_true, Bool.true_and, Bool.and_self, reduceCtorEq, true_implies, false_implies, implies_true, decide_eq_true_eq, Option.map_some, fpOf, fpX, SOp.xs, oX, refs, refsL, dom, disj, List.all_nil, List.all_cons, List.contains_cons, List.contains_nil, Nat.reduceBEq, Bool.or_false, Bool.false_or, List.append_nil, Bool.not_false, Bool.not_true, List.forall_mem_cons, fm0, List.set, Nat.reduceLT, ne_eq, not_false_eq_true, not_true_eq_false, ret1, ret1N, keep0, keep1, rf_int, rf_bool, rf_str, rf_sl, rf_agg, rf_tup, rfL0, rfL1, re_t, re_cN, re_L0, re_L1, ret_tup, ret_one, decide_true, AV.bool.injEq, AV.int.injEq, Nat.reduceLeDiff, decide_eq_true_eq, decide_eq_false_iff_not, Int.toNat_natCast, List.length_map, decide_false, ghost, noref, flatOk, refsInO, wkM, str_eq, int_eq, int_ne, dec_beq, bool_beq, str_lt, str_le, false_dec, true_dec, Classical.not_not, t_l31In, t_l31NameOk, Zone.row, Zone_eta, Box6.row, box_eta6, tk_map, dp_map, toNat_pred]
  refine ⟨fun h1 => ?_, fun h1 => by grind [zonesOk]⟩
  · refine loop_st (fun i : Nat => [(3, .int .i64 i)]) (fun _ => []) (fun i => i ≤ zs.length ∧ ∀ j, j < i → zoneAt zs j) (fun i => zs.length - i) (0) (by simp only [u_E0, u_E1, u_M0, u_M1, w_setE0, w_setE1, w_setM0, w_setM1, reduceIte, Nat.reduceEqDiff]; exact ⟨by repeat' (first | exact trivial | refine ⟨.inr rfl, ?_⟩), by repeat' (first | exact trivial | refine ⟨rfl, ?_⟩), by first | rfl | simp [closedB, refsIn, refsInL, refsInO, dom, refsInL_nr, *], by first | rfl | simp [keepB, dom]⟩) ?_ ?_
    · exact ⟨Nat.zero_le _, by intro j hj; omega⟩
    intro i hi NX hN
    unfold l_spec_HandZonesOk_1; simp (config := { maxSteps := 2000000 }) only [w_skip, w_rg, w_rgd, w_seq, w_cond, w_block, w_loop, w_exit, w_ret, w_gh, w_rg0, w_rg1, w_rgT, w_rgF, w_run, w_psd, w_und, w_dr0, w_dr1, w_drT, w_drF, w_drRun, w_drPsd, w_drUnd, w_drKn, w_drKs, w_putK, w_trimK, w_thenN, w_thenE, w_thenR, w_scope, w_label, w_blkN, w_blkE, w_blkR, w_call, w_callV, w_callF, o_clos, o_b2s, b2sE, w_effK, brU_true, brU_false, brU_u, brU_not, brU_and, brU_or, brU_dec, brU_eq, brU_ne, br_true, br_false, br_not, br_and, br_or, br_dec, br_eq, br_ne, w_getE0, w_getE1, w_setE0, w_setE1, w_dropE0, w_dropE1, w_drop0, w_drop1, w_getM0, w_getM1, w_setM0, w_setM1, ev_v, ev_c, w_putS, w_putN, w_lit, w_apU0, w_apU1, w_apU2, w_trim, enumE0, enumE1, w_callWp, w_callA0, w_callA1, w_R0, w_R1, w_R2, w_T2, w_callL, w_callT, w_T1, w_T0, o_mv, o_newnil, o_pick, o_bin, o_binN, o_neg, o_not, o_eqB, o_eqS, o_conv, o_alloc, o_box, o_load1, o_loadN, o_store, o_nilck, o_faddr, o_field1, o_fieldN, o_iaddr, o_istr, o_slStr, o_slSl, o_lenS, o_lenL, o_mx, o_mn, o_ext, o_build, o_lit, o_litOwn, o_app, o_mk, o_mvfrz, u_M1, u_M0, u_E1, optI, List.length_take, Int.toNat_zero, List.drop_zero, u_E0, o_idxN, o_idx, o_mset, o_look, o_mkmap, l_int, l_bool, l_str, l_agg, l_sl, l_own, l_ptr, l_pp, i_int, i_bool, i_str, i_sl, i_own, i_ptr, i_pp, all0, all1, e_ok1, eff, effBin, effBinN, ld_ptr, ld_pp, ld_elt, ia_own, ia_arr, el_1, el_N, load1K, faddrE, r_iaddr, sg_S, sg_c, sg_n, purL, pur, List.map, List.drop, List.take, List.length, List.foldl, List.append_eq, List.nil_append, List.cons_append, List.getD_cons_zero, List.getD_cons_succ, reduceIte, Nat.reduceEqDiff, Nat.reduceAdd, Nat.reduceLeDiff, true_and, and_true, Bool.not_true, Bool.not_false, Bool.and_true, Bool.true_and, Bool.and_self, reduceCtorEq, true_implies, false_implies, implies_true, decide_eq_true_eq, Option.map_some, fpOf, fpX, SOp.xs, oX, refs, refsL, dom, disj, List.all_nil, List.all_cons, List.contains_cons, List.contains_nil, Nat.reduceBEq, Bool.or_false, Bool.false_or, List.append_nil, Bool.not_false, Bool.not_true, List.forall_mem_cons, fm0, List.set, Nat.reduceLT, ne_eq, not_false_eq_true, not_true_eq_false, ret1, ret1N, keep0, keep1, rf_int, rf_bool, rf_str, rf_sl, rf_agg, rf_tup, rfL0, rfL1, re_t, re_cN, re_L0, re_L1, ret_tup, ret_one, decide_true, AV.bool.injEq, AV.int.injEq, Nat.reduceLeDiff, decide_eq_true_eq, decide_eq_false_iff_not, Int.toNat_natCast, List.length_map, decide_false, ghost, noref, flatOk, refsInO, wkM, str_eq, int_eq, int_ne, dec_beq, bool_beq, str_lt, str_le, false_dec, true_dec, Classical.not_not, t_l31In, t_l31NameOk, Zone.row, Zone_eta, Box6.row, box_eta6, tk_map, dp_map, toNat_pred]
    repeat' (first | with_reducible apply And.intro | with_reducible intro _)
    all_goals first
      | omega
      | (intro hq; have := hq.2 i (by omega); unfold zoneAt Zone.ok at this; grind)
      | (refine loop_st (fun k : Nat => [(5, .int .i64 k)]) (fun _ => []) (fun k => k ≤ i ∧ ∀ j, j < k → ¬ (zs.getD j default).meet (zs.getD i default)) (fun k => i - k) (0) (by simp only [u_E0, u_E1, u_M0, u_M1, w_setE0, w_setE1, w_setM0, w_setM1, reduceIte, Nat.reduceEqDiff]; exact ⟨by repeat' (first | exact trivial | refine ⟨.inr rfl, ?_⟩), by repeat' (first | exact trivial | refine ⟨rfl, ?_⟩), by first | rfl | simp [closedB, refsIn, refsInL, refsInO, dom, refsInL_nr, *], by first | rfl | simp [keepB, dom]⟩) ?_ ?_
         · exact ⟨Nat.zero_le _, by intro j hj; omega⟩
         intro k hk NX2 hN2
         unfold l_spec_HandZonesOk_0; simp (config := { maxSteps := 2000000 }) only [w_skip, w_rg, w_rgd, w_seq, w_cond, w_block, w_loop, w_exit, w_ret, w_gh, w_rg0, w_rg1, w_rgT, w_rgF, w_run, w_psd, w_und, w_dr0, w_dr1, w_drT, w_drF, w_drRun, w_drPsd, w_drUnd, w_drKn, w_drKs, w_putK, w_trimK, w_thenN, w_thenE, w_thenR, w_scope, w_label, w_blkN, w_blkE, w_blkR, w_call, w_callV, w_callF, o_clos, o_b2s, b2sE, w_effK, brU_true, brU_false, brU_u, brU_not, brU_and, brU_or, brU_dec, brU_eq, brU_ne, br_true, br_false, br_not, br_and, br_or, br_dec, br_eq, br_ne, w_getE0, w_getE1, w_setE0, w_setE1, w_dropE0, w_dropE1, w_drop0, w_drop1, w_getM0, w_getM1, w_setM0, w_setM1, ev_v, ev_c, w_putS, w_putN, w_lit, w_apU0, w_apU1, w_apU2, w_trim, enumE0, enumE1, w_callWp, w_callA0, w_callA1, w_R0, w_R1, w_R2, w_T2, w_callL, w_callT, w_T1, w_T0, o_mv, o_newnil, o_pick, o_bin, o_binN, o_neg, o_not, o_eqB, o_eqS, o_conv, o_alloc, o_box, o_load1, o_loadN, o_store, o_nilck, o_faddr, o_field1, o_fieldN, o_iaddr, o_istr, o_slStr, o_slSl, o_lenS, o_lenL, o_mx, o_mn, o_ext, o_build, o_lit, o_litOwn, o_app, o_mk, o_mvfrz, u_M1, u_M0, u_E1, optI, List.length_take, Int.toNat_zero, List.drop_zero, u_E0, o_idxN, o_idx, o_mset, o_look, o_mkmap, l_int, l_bool, l_str, l_agg, l_sl, l_own, l_ptr, l_pp, i_int, i_bool, i_str, i_sl, i_own, i_ptr, i_pp, all0, all1, e_ok1, eff, effBin, effBinN, ld_ptr, ld_pp, ld_elt, ia_own, ia_arr, el_1, el_N, load1K, faddrE, r_iaddr, sg_S, sg_c, sg_n, purL, pur, List.map, List.drop, List.take, List.length, List.foldl, List.append_eq, List.nil_append, List.cons_append, List.getD_cons_zero, List.getD_cons_succ, reduceIte, Nat.reduceEqDiff, Nat.reduceAdd, Nat.reduceLeDiff, true_and, and_true, Bool.not_true, Bool.not_false, Bool.and_true, Bool.true_and, Bool.and_self, reduceCtorEq, true_implies, false_implies, implies_true, decide_eq_true_eq, Option.map_some, fpOf, fpX, SOp.xs, oX, refs, refsL, dom, disj, List.all_nil, List.all_cons, List.contains_cons, List.contains_nil, Nat.reduceBEq, Bool.or_false, Bool.false_or, List.append_nil, Bool.not_false, Bool.not_true, List.forall_mem_cons, fm0, List.set, Nat.reduceLT, ne_eq, not_false_eq_true, not_true_eq_false, ret1, ret1N, keep0, keep1, rf_int, rf_bool, rf_str, rf_sl, rf_agg, rf_tup, rfL0, rfL1, re_t, re_cN, re_L0, re_L1, ret_tup, ret_one, decide_true, AV.bool.injEq, AV.int.injEq, Nat.reduceLeDiff, decide_eq_true_eq, decide_eq_false_iff_not, Int.toNat_natCast, List.length_map, decide_false, ghost, noref, flatOk, refsInO, wkM, str_eq, int_eq, int_ne, dec_beq, bool_beq, str_lt, str_le, false_dec, true_dec, Classical.not_not, t_l31In, t_l31NameOk, Zone.row, Zone_eta, Box6.row, box_eta6, tk_map, dp_map, toNat_pred]
         repeat' (first | with_reducible apply And.intro | with_reducible intro _)
         all_goals first
           | omega
           | (refine hN2 (k + 1) _ (by simp only [u_E0, u_E1, u_M0, u_M1, w_setE0, w_setE1, w_setM0, w_setM1, reduceIte, Nat.reduceEqDiff]; exact ⟨by repeat' (first | exact trivial | refine ⟨.inr rfl, ?_⟩), by repeat' (first | exact trivial | refine ⟨rfl, ?_⟩), by first | rfl | simp [closedB, refsIn, refsInL, refsInO, dom, refsInL_nr, *], by first | rfl | simp [keepB, dom]⟩) ?_ ?_
              · refine ⟨by omega, all_snoc hk.2 ?_⟩
                grind [Zone.meet]
              · omega)
           | (refine hN (i + 1) _ (by simp only [u_E0, u_E1, u_M0, u_M1, w_setE0, w_setE1, w_setM0, w_setM1, reduceIte, Nat.reduceEqDiff]; exact ⟨by repeat' (first | exact trivial | refine ⟨.inr rfl, ?_⟩), by repeat' (first | exact trivial | refine ⟨rfl, ?_⟩), by first | rfl | simp [closedB, refsIn, refsInL, refsInO, dom, refsInL_nr, *], by first | rfl | simp [keepB, dom]⟩) ?_ ?_
              · refine ⟨by omega, all_snoc hi.2 ⟨?_, ?_, fun k hk2 => hk.2 k (by omega)⟩⟩
                · grind [Zone.ok]
                · grind
              · omega)
           | (intro hq
              have := (hq.2 i (by omega)).2.2 k (by omega)
              grind [Zone.meet]))
      | (refine ⟨by omega, fun j hj => hi.2 j (by omega)⟩)
def t_sZonesOk : List AV → Option (Prop × AV)
  | [.sl zst 5 zsx] => some ((((zsx.map unZone).map Zone.row = zsx)) ∧ ((zsx.map unZone).length ≤ 4611686018427387904), .bool (decide (zonesOk (zsx.map unZone))))
  | _ => none
theorem h_sZonesOk : ∀ args p v, t_sZonesOk args = some (p, v) → p → Contract P 45 args [] v [] ∧ noref v = true ∧ No99 v := by
  intro args p v h1 h2
  unfold t_sZonesOk at h1
  split at h1
  · rename_i zst zsx
    cases h1
    obtain ⟨e0, HP⟩ := h2
    have := c_sZonesOk zst (zsx.map unZone) HP
    exact ⟨by simpa only [e0] using this, rfl, trivial⟩
  · cases h1
def Zone.over (z : Zone) (x y : Int) : Prop := (z.x0 ≤ x ∧ x ≤ z.x1) ∧ (z.y0 ≤ y ∧ y ≤ z.y1)
noncomputable instance (z : Zone) (x y : Int) : Decidable (z.over x y) := Classical.propDecidable _
theorem c_over (nm : ByteArray) (x0 y0 x1 y1 x y : Int) (hp : True) : Contract P 131 [.agg [.str nm, .int .i64 x0, .int .i64 y0, .int .i64 x1, .int .i64 y1], .int .i64 x, .int .i64 y] [] (.bool (decide (Zone.over ⟨nm, x0, y0, x1, y1⟩ x y))) [] := by
  refine fn_sound ((Env.nil P).add 75 t_within h_within) hm k_impl_HandZone_over (Nat.le_of_ble_eq_true rfl) rfl ?_; unfold s_impl_HandZone_over; simp (config := { maxSteps := 2000000 }) only [w_skip, w_rg, w_rgd, w_seq, w_cond, w_block, w_loop, w_exit, w_ret, w_gh, w_rg0, w_rg1, w_rgT, w_rgF, w_run, w_psd, w_und, w_dr0, w_dr1, w_drT, w_drF, w_drRun, w_drPsd, w_drUnd, w_drKn, w_drKs, w_putK, w_trimK, w_thenN, w_thenE, w_thenR, w_scope, w_label, w_blkN, w_blkE, w_blkR, w_call, w_callV, w_callF, o_clos, o_b2s, b2sE, w_effK, brU_true, brU_false, brU_u, brU_not, brU_and, brU_or, brU_dec, brU_eq, brU_ne, br_true, br_false, br_not, br_and, br_or, br_dec, br_eq, br_ne, w_getE0, w_getE1, w_setE0, w_setE1, w_dropE0, w_dropE1, w_drop0, w_drop1, w_getM0, w_getM1, w_setM0, w_setM1, ev_v, ev_c, w_putS, w_putN, w_lit, w_apU0, w_apU1, w_apU2, w_trim, enumE0, enumE1, w_callWp, w_callA0, w_callA1, w_R0, w_R1, w_R2, w_T2, w_callL, w_callT, w_T1, w_T0, o_mv, o_newnil, o_pick, o_bin, o_binN, o_neg, o_not, o_eqB, o_eqS, o_conv, o_alloc, o_box, o_load1, o_loadN, o_store, o_nilck, o_faddr, o_field1, o_fieldN, o_iaddr, o_istr, o_slStr, o_slSl, o_lenS, o_lenL, o_mx, o_mn, o_ext, o_build, o_lit, o_litOwn, o_app, o_mk, o_mvfrz, u_M1, u_M0, u_E1, optI, List.length_take, Int.toNat_zero, List.drop_zero, u_E0, o_idxN, o_idx, o_mset, o_look, o_mkmap, l_int, l_bool, l_str, l_agg, l_sl, l_own, l_ptr, l_pp, i_int, i_bool, i_str, i_sl, i_own, i_ptr, i_pp, all0, all1, e_ok1, eff, effBin, effBinN, ld_ptr, ld_pp, ld_elt, ia_own, ia_arr, el_1, el_N, load1K, faddrE, r_iaddr, sg_S, sg_c, sg_n, purL, pur, List.map, List.drop, List.take, List.length, List.foldl, List.append_eq, List.nil_append, List.cons_append, List.getD_cons_zero, List.getD_cons_succ, reduceIte, Nat.reduceEqDiff, Nat.reduceAdd, Nat.reduceLeDiff, true_and, and_true, Bool.not_true, Bool.not_false, Bool.and_true, Bool.true_and, Bool.and_self, reduceCtorEq, true_implies, false_implies, implies_true, decide_eq_true_eq, Option.map_some, fpOf, fpX, SOp.xs, oX, refs, refsL, dom, disj, List.all_nil, List.all_cons, List.contains_cons, List.contains_nil, Nat.reduceBEq, Bool.or_false, Bool.false_or, List.append_nil, Bool.not_false, Bool.not_true, List.forall_mem_cons, fm0, List.set, Nat.reduceLT, ne_eq, not_false_eq_true, not_true_eq_false, ret1, ret1N, keep0, keep1, rf_int, rf_bool, rf_str, rf_sl, rf_agg, rf_tup, rfL0, rfL1, re_t, re_cN, re_L0, re_L1, ret_tup, ret_one, decide_true, AV.bool.injEq, AV.int.injEq, Nat.reduceLeDiff, decide_eq_true_eq, decide_eq_false_iff_not, Int.toNat_natCast, List.length_map, decide_false, ghost, noref, flatOk, refsInO, wkM, str_eq, int_eq, int_ne, dec_beq, bool_beq, str_lt, str_le, false_dec, true_dec, Classical.not_not, t_within]
  simp only [Zone.over]
  repeat' (first | with_reducible apply And.intro | with_reducible intro _)
  all_goals (first | trivial | omega | (simp_all; done) | (simp_all; omega) | grind)
def t_over : List AV → Option (Prop × AV)
  | [.agg [.str z_nm, .int .i64 z_x0, .int .i64 z_y0, .int .i64 z_x1, .int .i64 z_y1], .int .i64 x, .int .i64 y] => some ((True) ∧ (True), .bool (decide ((Zone.mk z_nm z_x0 z_y0 z_x1 z_y1).over x y)))
  | _ => none
theorem h_over : ∀ args p v, t_over args = some (p, v) → p → Contract P 131 args [] v [] ∧ noref v = true ∧ No99 v := by
  intro args p v h1 h2
  unfold t_over at h1
  split at h1
  · rename_i z_nm z_x0 z_y0 z_x1 z_y1 x y
    cases h1
    obtain ⟨_, HP⟩ := h2
    have := c_over z_nm z_x0 z_y0 z_x1 z_y1 x y HP
    exact ⟨by simpa only [Zone.row] using this, rfl, trivial⟩
  · cases h1
theorem c_sOver (nm : ByteArray) (x0 y0 x1 y1 x y l h i o : Int) (hp : True) : Contract P 120 [.agg [.str nm, .int .i64 x0, .int .i64 y0, .int .i64 x1, .int .i64 y1], .agg [.int .i64 x, .int .i64 y, .int .i64 l, .int .i64 h, .int .i64 i, .int .i64 o]] [] (.bool (decide (Zone.over ⟨nm, x0, y0, x1, y1⟩ x y))) [] := by
  refine fn_sound ((Env.nil P).add 48 t_l31In h_l31In) hm k_spec_l31Over (Nat.le_of_ble_eq_true rfl) rfl ?_; unfold s_spec_l31Over; simp (config := { maxSteps := 2000000 }) only [w_skip, w_rg, w_rgd, w_seq, w_cond, w_block, w_loop, w_exit, w_ret, w_gh, w_rg0, w_rg1, w_rgT, w_rgF, w_run, w_psd, w_und, w_dr0, w_dr1, w_drT, w_drF, w_drRun, w_drPsd, w_drUnd, w_drKn, w_drKs, w_putK, w_trimK, w_thenN, w_thenE, w_thenR, w_scope, w_label, w_blkN, w_blkE, w_blkR, w_call, w_callV, w_callF, o_clos, o_b2s, b2sE, w_effK, brU_true, brU_false, brU_u, brU_not, brU_and, brU_or, brU_dec, brU_eq, brU_ne, br_true, br_false, br_not, br_and, br_or, br_dec, br_eq, br_ne, w_getE0, w_getE1, w_setE0, w_setE1, w_dropE0, w_dropE1, w_drop0, w_drop1, w_getM0, w_getM1, w_setM0, w_setM1, ev_v, ev_c, w_putS, w_putN, w_lit, w_apU0, w_apU1, w_apU2, w_trim, enumE0, enumE1, w_callWp, w_callA0, w_callA1, w_R0, w_R1, w_R2, w_T2, w_callL, w_callT, w_T1, w_T0, o_mv, o_newnil, o_pick, o_bin, o_binN, o_neg, o_not, o_eqB, o_eqS, o_conv, o_alloc, o_box, o_load1, o_loadN, o_store, o_nilck, o_faddr, o_field1, o_fieldN, o_iaddr, o_istr, o_slStr, o_slSl, o_lenS, o_lenL, o_mx, o_mn, o_ext, o_build, o_lit, o_litOwn, o_app, o_mk, o_mvfrz, u_M1, u_M0, u_E1, optI, List.length_take, Int.toNat_zero, List.drop_zero, u_E0, o_idxN, o_idx, o_mset, o_look, o_mkmap, l_int, l_bool, l_str, l_agg, l_sl, l_own, l_ptr, l_pp, i_int, i_bool, i_str, i_sl, i_own, i_ptr, i_pp, all0, all1, e_ok1, eff, effBin, effBinN, ld_ptr, ld_pp, ld_elt, ia_own, ia_arr, el_1, el_N, load1K, faddrE, r_iaddr, sg_S, sg_c, sg_n, purL, pur, List.map, List.drop, List.take, List.length, List.foldl, List.append_eq, List.nil_append, List.cons_append, List.getD_cons_zero, List.getD_cons_succ, reduceIte, Nat.reduceEqDiff, Nat.reduceAdd, Nat.reduceLeDiff, true_and, and_true, Bool.not_true, Bool.not_false, Bool.and_true, Bool.true_and, Bool.and_self, reduceCtorEq, true_implies, false_implies, implies_true, decide_eq_true_eq, Option.map_some, fpOf, fpX, SOp.xs, oX, refs, refsL, dom, disj, List.all_nil, List.all_cons, List.contains_cons, List.contains_nil, Nat.reduceBEq, Bool.or_false, Bool.false_or, List.append_nil, Bool.not_false, Bool.not_true, List.forall_mem_cons, fm0, List.set, Nat.reduceLT, ne_eq, not_false_eq_true, not_true_eq_false, ret1, ret1N, keep0, keep1, rf_int, rf_bool, rf_str, rf_sl, rf_agg, rf_tup, rfL0, rfL1, re_t, re_cN, re_L0, re_L1, ret_tup, ret_one, decide_true, AV.bool.injEq, AV.int.injEq, Nat.reduceLeDiff, decide_eq_true_eq, decide_eq_false_iff_not, Int.toNat_natCast, List.length_map, decide_false, ghost, noref, flatOk, refsInO, wkM, str_eq, int_eq, int_ne, dec_beq, bool_beq, str_lt, str_le, false_dec, true_dec, Classical.not_not, t_l31In]
  simp only [Zone.over]
  repeat' (first | with_reducible apply And.intro | with_reducible intro _)
  all_goals (first | trivial | omega | (simp_all; done) | (simp_all; omega) | grind)
def t_sOver : List AV → Option (Prop × AV)
  | [.agg [.str z_nm, .int .i64 z_x0, .int .i64 z_y0, .int .i64 z_x1, .int .i64 z_y1], .agg [.int .i64 b_x, .int .i64 b_y, .int .i64 b_l, .int .i64 b_h, .int .i64 b_i, .int .i64 b_o]] => some ((True) ∧ (True), .bool (decide ((Zone.mk z_nm z_x0 z_y0 z_x1 z_y1).over (Box6.mk b_x b_y b_l b_h b_i b_o).x (Box6.mk b_x b_y b_l b_h b_i b_o).y)))
  | _ => none
theorem h_sOver : ∀ args p v, t_sOver args = some (p, v) → p → Contract P 120 args [] v [] ∧ noref v = true ∧ No99 v := by
  intro args p v h1 h2
  unfold t_sOver at h1
  split at h1
  · rename_i z_nm z_x0 z_y0 z_x1 z_y1 b_x b_y b_l b_h b_i b_o
    cases h1
    obtain ⟨_, HP⟩ := h2
    have := c_sOver z_nm z_x0 z_y0 z_x1 z_y1 b_x b_y b_l b_h b_i b_o HP
    exact ⟨by simpa only [Zone.row, Box6.row] using this, rfl, trivial⟩
  · cases h1
end
end Go.Ve

namespace Go.Ve
noncomputable section
open Go.Proofs
set_option linter.unusedSimpArgs false
set_option linter.unusedVariables false
set_option maxRecDepth 100000
theorem c_IndexFunc_Zone (g : FuncId) (hg : calleeB P g = true) (ls : List AV) (hls : norefL ls = true) (p : Zone → Bool) (t : Nat) (zs : List Zone) (hl : zs.length ≤ 4611686018427387904)
    (hC : ∀ z, Contract P g (.agg (Zone.row z) :: [.ptr 3 0]) [(3, .box ls)] (.bool (p z)) [(3, .box ls)]) : Contract P 143 [.sl t 5 (zs.map Zone.row), .fn g [] [.ptr 3 0]] [(3, .box ls)] (.int .i64 (fIdx p zs)) [(3, .box ls)] := by
  refine fn_sound (Env.nil P) hm k_slices_IndexFunc_HandZone (Nat.le_of_ble_eq_true rfl) rfl ?_; unfold s_slices_IndexFunc_HandZone; simp (config := { maxSteps := 2000000 }) only [w_skip, w_rg, w_rgd, w_seq, w_cond, w_block, w_loop, w_exit, w_ret, w_gh, w_rg0, w_rg1, w_rgT, w_rgF, w_run, w_psd, w_und, w_dr0, w_dr1, w_drT, w_drF, w_drRun, w_drPsd, w_drUnd, w_drKn, w_drKs, w_putK, w_trimK, w_thenN, w_thenE, w_thenR, w_scope, w_label, w_blkN, w_blkE, w_blkR, w_call, w_callV, w_callF, o_clos, o_b2s, b2sE, w_effK, brU_true, brU_false, brU_u, brU_not, brU_and, brU_or, brU_dec, brU_eq, brU_ne, br_true, br_false, br_not, br_and, br_or, br_dec, br_eq, br_ne, w_getE0, w_getE1, w_setE0, w_setE1, w_dropE0, w_dropE1, w_drop0, w_drop1, w_getM0, w_getM1, w_setM0, w_setM1, ev_v, ev_c, w_putS, w_putN, w_lit, w_apU0, w_apU1, w_apU2, w_trim, enumE0, enumE1, w_callWp, w_callA0, w_callA1, w_R0, w_R1, w_R2, w_T2, w_callL, w_callT, w_T1, w_T0, o_mv, o_newnil, o_pick, o_bin, o_binN, o_neg, o_not, o_eqB, o_eqS, o_conv, o_alloc, o_box, o_load1, o_loadN, o_store, o_nilck, o_faddr, o_field1, o_fieldN, o_iaddr, o_istr, o_slStr, o_slSl, o_lenS, o_lenL, o_mx, o_mn, o_ext, o_build, o_lit, o_litOwn, o_app, o_mk, o_mvfrz, u_M1, u_M0, u_E1, optI, List.length_take, Int.toNat_zero, List.drop_zero, u_E0, o_idxN, o_idx, o_mset, o_look, o_mkmap, l_int, l_bool, l_str, l_agg, l_sl, l_own, l_ptr, l_pp, i_int, i_bool, i_str, i_sl, i_own, i_ptr, i_pp, all0, all1, e_ok1, eff, effBin, effBinN, ld_ptr, ld_pp, ld_elt, ia_own, ia_arr, el_1, el_N, load1K, faddrE, r_iaddr, sg_S, sg_c, sg_n, purL, pur, List.map, List.drop, List.take, List.length, List.foldl, List.append_eq, List.nil_append, List.cons_append, List.getD_cons_zero, List.getD_cons_succ, reduceIte, Nat.reduceEqDiff, Nat.reduceAdd, Nat.reduceLeDiff, true_and, and_true, Bool.not_true, Bool.not_false, Bool.and_true, Bool.true_and, Bool.and_self, reduceCtorEq, true_implies, false_implies, implies_true, decide_eq_true_eq, Option.map_some, fpOf, fpX, SOp.xs, oX, refs, refsL, dom, disj, List.all_nil, List.all_cons, List.contains_cons, List.contains_nil, Nat.reduceBEq, Bool.or_false, Bool.false_or, List.append_nil, Bool.not_false, Bool.not_true, List.forall_mem_cons, fm0, List.set, Nat.reduceLT, ne_eq, not_false_eq_true, not_true_eq_false, ret1, ret1N, keep0, keep1, rf_int, rf_bool, rf_str, rf_sl, rf_agg, rf_tup, rfL0, rfL1, re_t, re_cN, re_L0, re_L1, ret_tup, ret_one, decide_true, AV.bool.injEq, AV.int.injEq, Nat.reduceLeDiff, decide_eq_true_eq, decide_eq_false_iff_not, Int.toNat_natCast, List.length_map, decide_false, ghost, noref, flatOk, refsInO, wkM, str_eq, int_eq, int_ne, dec_beq, bool_beq, str_lt, str_le, false_dec, true_dec, Classical.not_not, retG_ret, retQ_eq, retQ_eqN, retOk, keepB, re_tupl, orr_t, callL_nil]
  refine loop_st (fun i : Nat => [(8, .int .i64 i)]) (fun _ => []) (fun i => i ≤ zs.length ∧ ∀ j, j < i → p (zs.getD j default) = false) (fun i => zs.length - i) (0) (by simp only [u_E0, u_E1, u_M0, u_M1, w_setE0, w_setE1, w_setM0, w_setM1, reduceIte, Nat.reduceEqDiff]; exact ⟨by repeat' (first | exact trivial | refine ⟨.inr rfl, ?_⟩), by repeat' (first | exact trivial | refine ⟨rfl, ?_⟩), by first | rfl | simp [closedB, refsIn, refsInL, refsInO, dom, refsInL_nr, *], by first | rfl | simp [keepB, dom]⟩) ?_ ?_
  · exact ⟨Nat.zero_le _, by intro j hj; omega⟩
  intro i hi NX hN
  unfold l_slices_IndexFunc_HandZone_0; simp (config := { maxSteps := 2000000 }) only [w_skip, w_rg, w_rgd, w_seq, w_cond, w_block, w_loop, w_exit, w_ret, w_gh, w_rg0, w_rg1, w_rgT, w_rgF, w_run, w_psd, w_und, w_dr0, w_dr1, w_drT, w_drF, w_drRun, w_drPsd, w_drUnd, w_drKn, w_drKs, w_putK, w_trimK, w_thenN, w_thenE, w_thenR, w_scope, w_label, w_blkN, w_blkE, w_blkR, w_call, w_callV, w_callF, o_clos, o_b2s, b2sE, w_effK, brU_true, brU_false, brU_u, brU_not, brU_and, brU_or, brU_dec, brU_eq, brU_ne, br_true, br_false, br_not, br_and, br_or, br_dec, br_eq, br_ne, w_getE0, w_getE1, w_setE0, w_setE1, w_dropE0, w_dropE1, w_drop0, w_drop1, w_getM0, w_getM1, w_setM0, w_setM1, ev_v, ev_c, w_putS, w_putN, w_lit, w_apU0, w_apU1, w_apU2, w_trim, enumE0, enumE1, w_callWp, w_callA0, w_callA1, w_R0, w_R1, w_R2, w_T2, w_callL, w_callT, w_T1, w_T0, o_mv, o_newnil, o_pick, o_bin, o_binN, o_neg, o_not, o_eqB, o_eqS, o_conv, o_alloc, o_box, o_load1, o_loadN, o_store, o_nilck, o_faddr, o_field1, o_fieldN, o_iaddr, o_istr, o_slStr, o_slSl, o_lenS, o_lenL, o_mx, o_mn, o_ext, o_build, o_lit, o_litOwn, o_app, o_mk, o_mvfrz, u_M1, u_M0, u_E1, optI, List.length_take, Int.toNat_zero, List.drop_zero, u_E0, o_idxN, o_idx, o_mset, o_look, o_mkmap, l_int, l_bool, l_str, l_agg, l_sl, l_own, l_ptr, l_pp, i_int, i_bool, i_str, i_sl, i_own, i_ptr, i_pp, all0, all1, e_ok1, eff, effBin, effBinN, ld_ptr, ld_pp, ld_elt, ia_own, ia_arr, el_1, el_N, load1K, faddrE, r_iaddr, sg_S, sg_c, sg_n, purL, pur, List.map, List.drop, List.take, List.length, List.foldl, List.append_eq, List.nil_append, List.cons_append, List.getD_cons_zero, List.getD_cons_succ, reduceIte, Nat.reduceEqDiff, Nat.reduceAdd, Nat.reduceLeDiff, true_and, and_true, Bool.not_true, Bool.not_false, Bool.and_true, Bool.true_and, Bool.and_self, reduceCtorEq, true_implies, false_implies, implies_true, decide_eq_true_eq, Option.map_some, fpOf, fpX, SOp.xs, oX, refs, refsL, dom, disj, List.all_nil, List.all_cons, List.contains_cons, List.contains_nil, Nat.reduceBEq, Bool.or_false, Bool.false_or, List.append_nil, Bool.not_false, Bool.not_true, List.forall_mem_cons, fm0, List.set, Nat.reduceLT, ne_eq, not_false_eq_true, not_true_eq_false, ret1, ret1N, keep0, keep1, rf_int, rf_bool, rf_str, rf_sl, rf_agg, rf_tup, rfL0, rfL1, re_t, re_cN, re_L0, re_L1, ret_tup, ret_one, decide_true, AV.bool.injEq, AV.int.injEq, Nat.reduceLeDiff, decide_eq_true_eq, decide_eq_false_iff_not, Int.toNat_natCast, List.length_map, decide_false, ghost, noref, flatOk, refsInO, wkM, str_eq, int_eq, int_ne, dec_beq, bool_beq, str_lt, str_le, false_dec, true_dec, Classical.not_not, retG_ret, retQ_eq, retQ_eqN, retOk, keepB, re_tupl, orr_t, callL_nil, Zone_len, Zone_take]
  refine ⟨fun h1 => ⟨by omega, by omega, hg, _, _, .inl ⟨[(3, .box ls)], hC (zs.getD i default), ?_, ?_, ?_, ?_, ?_, rfl, ?_⟩, ?_⟩, fun h1 => ?_⟩
  · simp [getM]
  · intro q hq; left; revert q; simp [dom]
  · simp [dom]
  · simp [refsInL, refsIn, dom, refsInL_nr, Zone_nr]
  · simp [refsInO, refsInL_nr, *]
  · simp [refsInO, refsInL_nr, *]
  · simp (config := { maxSteps := 2000000 }) only [w_skip, w_rg, w_rgd, w_seq, w_cond, w_block, w_loop, w_exit, w_ret, w_gh, w_rg0, w_rg1, w_rgT, w_rgF, w_run, w_psd, w_und, w_dr0, w_dr1, w_drT, w_drF, w_drRun, w_drPsd, w_drUnd, w_drKn, w_drKs, w_putK, w_trimK, w_thenN, w_thenE, w_thenR, w_scope, w_label, w_blkN, w_blkE, w_blkR, w_call, w_callV, w_callF, o_clos, o_b2s, b2sE, w_effK, brU_true, brU_false, brU_u, brU_not, brU_and, brU_or, brU_dec, brU_eq, brU_ne, br_true, br_false, br_not, br_and, br_or, br_dec, br_eq, br_ne, w_getE0, w_getE1, w_setE0, w_setE1, w_dropE0, w_dropE1, w_drop0, w_drop1, w_getM0, w_getM1, w_setM0, w_setM1, ev_v, ev_c, w_putS, w_putN, w_lit, w_apU0, w_apU1, w_apU2, w_trim, enumE0, enumE1, w_callWp, w_callA0, w_callA1, w_R0, w_R1, w_R2, w_T2, w_callL, w_callT, w_T1, w_T0, o_mv, o_newnil, o_pick, o_bin, o_binN, o_neg, o_not, o_eqB, o_eqS, o_conv, o_alloc, o_box, o_load1, o_loadN, o_store, o_nilck, o_faddr, o_field1, o_fieldN, o_iaddr, o_istr, o_slStr, o_slSl, o_lenS, o_lenL, o_mx, o_mn, o_ext, o_build, o_lit, o_litOwn, o_app, o_mk, o_mvfrz, u_M1, u_M0, u_E1, optI, List.length_take, Int.toNat_zero, List.drop_zero, u_E0, o_idxN, o_idx, o_mset, o_look, o_mkmap, l_int, l_bool, l_str, l_agg, l_sl, l_own, l_ptr, l_pp, i_int, i_bool, i_str, i_sl, i_own, i_ptr, i_pp, all0, all1, e_ok1, eff, effBin, effBinN, ld_ptr, ld_pp, ld_elt, ia_own, ia_arr, el_1, el_N, load1K, faddrE, r_iaddr, sg_S, sg_c, sg_n, purL, pur, List.map, List.drop, List.take, List.length, List.foldl, List.append_eq, List.nil_append, List.cons_append, List.getD_cons_zero, List.getD_cons_succ, reduceIte, Nat.reduceEqDiff, Nat.reduceAdd, Nat.reduceLeDiff, true_and, and_true, Bool.not_true, Bool.not_false, Bool.and_true, Bool.true_and, Bool.and_self, reduceCtorEq, true_implies, false_implies, implies_true, decide_eq_true_eq, Option.map_some, fpOf, fpX, SOp.xs, oX, refs, refsL, dom, disj, List.all_nil, List.all_cons, List.contains_cons, List.contains_nil, Nat.reduceBEq, Bool.or_false, Bool.false_or, List.append_nil, Bool.not_false, Bool.not_true, List.forall_mem_cons, fm0, List.set, Nat.reduceLT, ne_eq, not_false_eq_true, not_true_eq_false, ret1, ret1N, keep0, keep1, rf_int, rf_bool, rf_str, rf_sl, rf_agg, rf_tup, rfL0, rfL1, re_t, re_cN, re_L0, re_L1, ret_tup, ret_one, decide_true, AV.bool.injEq, AV.int.injEq, Nat.reduceLeDiff, decide_eq_true_eq, decide_eq_false_iff_not, Int.toNat_natCast, List.length_map, decide_false, ghost, noref, flatOk, refsInO, wkM, str_eq, int_eq, int_ne, dec_beq, bool_beq, str_lt, str_le, false_dec, true_dec, Classical.not_not, retG_ret, retQ_eq, retQ_eqN, retOk, keepB, re_tupl, orr_t, callL_nil]
    refine ⟨fun h2 => ?_, fun h2 => ?_⟩
    · simp (config := { maxSteps := 2000000 }) only [w_skip, w_rg, w_rgd, w_seq, w_cond, w_block, w_loop, w_exit, w_ret, w_gh, w_rg0, w_rg1, w_rgT, w_rgF, w_run, w_psd, w_und, w_dr0, w_dr1, w_drT, w_drF, w_drRun, w_drPsd, w_drUnd, w_drKn, w_drKs, w_putK, w_trimK, w_thenN, w_thenE, w_thenR, w_scope, w_label, w_blkN, w_blkE, w_blkR, w_call, w_callV, w_callF, o_clos, o_b2s, b2sE, w_effK, brU_true, brU_false, brU_u, brU_not, brU_and, brU_or, brU_dec, brU_eq, brU_ne, br_true, br_false, br_not, br_and, br_or, br_dec, br_eq, br_ne, w_getE0, w_getE1, w_setE0, w_setE1, w_dropE0, w_dropE1, w_drop0, w_drop1, w_getM0, w_getM1, w_setM0, w_setM1, ev_v, ev_c, w_putS, w_putN, w_lit, w_apU0, w_apU1, w_apU2, w_trim, enumE0, enumE1, w_callWp, w_callA0, w_callA1, w_R0, w_R1, w_R2, w_T2, w_callL, w_callT, w_T1, w_T0, o_mv, o_newnil, o_pick, o_bin, o_binN, o_neg, o_not, o_eqB, o_eqS, o_conv, o_alloc, o_box, o_load1, o_loadN, o_store, o_nilck, o_faddr, o_field1, o_fieldN, o_iaddr, o_istr, o_slStr, o_slSl, o_lenS, o_lenL, o_mx, o_mn, o_ext, o_build, o_lit, o_litOwn, o_app, o_mk, o_mvfrz, u_M1, u_M0, u_E1, optI, List.length_take, Int.toNat_zero, List.drop_zero, u_E0, o_idxN, o_idx, o_mset, o_look, o_mkmap, l_int, l_bool, l_str, l_agg, l_sl, l_own, l_ptr, l_pp, i_int, i_bool, i_str, i_sl, i_own, i_ptr, i_pp, all0, all1, e_ok1, eff, effBin, effBinN, ld_ptr, ld_pp, ld_elt, ia_own, ia_arr, el_1, el_N, load1K, faddrE, r_iaddr, sg_S, sg_c, sg_n, purL, pur, List.map, List.drop, List.take, List.length, List.foldl, List.append_eq, List.nil_append, List.cons_append, List.getD_cons_zero, List.getD_cons_succ, reduceIte, Nat.reduceEqDiff, Nat.reduceAdd, Nat.reduceLeDiff, true_and, and_true, Bool.not_true, Bool.not_false, Bool.and_true, Bool.true_and, Bool.and_self, reduceCtorEq, true_implies, false_implies, implies_true, decide_eq_true_eq, Option.map_some, fpOf, fpX, SOp.xs, oX, refs, refsL, dom, disj, List.all_nil, List.all_cons, List.contains_cons, List.contains_nil, Nat.reduceBEq, Bool.or_false, Bool.false_or, List.append_nil, Bool.not_false, Bool.not_true, List.forall_mem_cons, fm0, List.set, Nat.reduceLT, ne_eq, not_false_eq_true, not_true_eq_false, ret1, ret1N, keep0, keep1, rf_int, rf_bool, rf_str, rf_sl, rf_agg, rf_tup, rfL0, rfL1, re_t, re_cN, re_L0, re_L1, ret_tup, ret_one, decide_true, AV.bool.injEq, AV.int.injEq, Nat.reduceLeDiff, decide_eq_true_eq, decide_eq_false_iff_not, Int.toNat_natCast, List.length_map, decide_false, ghost, noref, flatOk, refsInO, wkM, str_eq, int_eq, int_ne, dec_beq, bool_beq, str_lt, str_le, false_dec, true_dec, Classical.not_not, retG_ret, retQ_eq, retQ_eqN, retOk, keepB, re_tupl, orr_t, callL_nil]
      rw [fIdx_at (by omega) h2 hi.2]
      simp [dom, refsInL_nr, *]
    · simp (config := { maxSteps := 2000000 }) only [w_skip, w_rg, w_rgd, w_seq, w_cond, w_block, w_loop, w_exit, w_ret, w_gh, w_rg0, w_rg1, w_rgT, w_rgF, w_run, w_psd, w_und, w_dr0, w_dr1, w_drT, w_drF, w_drRun, w_drPsd, w_drUnd, w_drKn, w_drKs, w_putK, w_trimK, w_thenN, w_thenE, w_thenR, w_scope, w_label, w_blkN, w_blkE, w_blkR, w_call, w_callV, w_callF, o_clos, o_b2s, b2sE, w_effK, brU_true, brU_false, brU_u, brU_not, brU_and, brU_or, brU_dec, brU_eq, brU_ne, br_true, br_false, br_not, br_and, br_or, br_dec, br_eq, br_ne, w_getE0, w_getE1, w_setE0, w_setE1, w_dropE0, w_dropE1, w_drop0, w_drop1, w_getM0, w_getM1, w_setM0, w_setM1, ev_v, ev_c, w_putS, w_putN, w_lit, w_apU0, w_apU1, w_apU2, w_trim, enumE0, enumE1, w_callWp, w_callA0, w_callA1, w_R0, w_R1, w_R2, w_T2, w_callL, w_callT, w_T1, w_T0, o_mv, o_newnil, o_pick, o_bin, o_binN, o_neg, o_not, o_eqB, o_eqS, o_conv, o_alloc, o_box, o_load1, o_loadN, o_store, o_nilck, o_faddr, o_field1, o_fieldN, o_iaddr, o_istr, o_slStr, o_slSl, o_lenS, o_lenL, o_mx, o_mn, o_ext, o_build, o_lit, o_litOwn, o_app, o_mk, o_mvfrz, u_M1, u_M0, u_E1, optI, List.length_take, Int.toNat_zero, List.drop_zero, u_E0, o_idxN, o_idx, o_mset, o_look, o_mkmap, l_int, l_bool, l_str, l_agg, l_sl, l_own, l_ptr, l_pp, i_int, i_bool, i_str, i_sl, i_own, i_ptr, i_pp, all0, all1, e_ok1, eff, effBin, effBinN, ld_ptr, ld_pp, ld_elt, ia_own, ia_arr, el_1, el_N, load1K, faddrE, r_iaddr, sg_S, sg_c, sg_n, purL, pur, List.map, List.drop, List.take, List.length, List.foldl, List.append_eq, List.nil_append, List.cons_append, List.getD_cons_zero, List.getD_cons_succ, reduceIte, Nat.reduceEqDiff, Nat.reduceAdd, Nat.reduceLeDiff, true_and, and_true, Bool.not_true, Bool.not_false, Bool.and_true, Bool.true_and, Bool.and_self, reduceCtorEq, true_implies, false_implies, implies_true, decide_eq_true_eq, Option.map_some, fpOf, fpX, SOp.xs, oX, refs, refsL, dom, disj, List.all_nil, List.all_cons, List.contains_cons, List.contains_nil, Nat.reduceBEq, Bool.or_false, Bool.false_or, List.append_nil, Bool.not_false, Bool.not_true, List.forall_mem_cons, fm0, List.set, Nat.reduceLT, ne_eq, not_false_eq_true, not_true_eq_false, ret1, ret1N, keep0, keep1, rf_int, rf_bool, rf_str, rf_sl, rf_agg, rf_tup, rfL0, rfL1, re_t, re_cN, re_L0, re_L1, ret_tup, ret_one, decide_true, AV.bool.injEq, AV.int.injEq, Nat.reduceLeDiff, decide_eq_true_eq, decide_eq_false_iff_not, Int.toNat_natCast, List.length_map, decide_false, ghost, noref, flatOk, refsInO, wkM, str_eq, int_eq, int_ne, dec_beq, bool_beq, str_lt, str_le, false_dec, true_dec, Classical.not_not, retG_ret, retQ_eq, retQ_eqN, retOk, keepB, re_tupl, orr_t, callL_nil]
      refine ⟨by omega, ?_⟩
      refine hN (i + 1) _ (by simp only [u_E0, u_E1, u_M0, u_M1, w_setE0, w_setE1, w_setM0, w_setM1, reduceIte, Nat.reduceEqDiff]; exact ⟨by repeat' (first | exact trivial | refine ⟨.inr rfl, ?_⟩), by repeat' (first | exact trivial | refine ⟨rfl, ?_⟩), by first | rfl | simp [closedB, refsIn, refsInL, refsInO, dom, refsInL_nr, *], by first | rfl | simp [keepB, dom]⟩) ?_ ?_
      · exact ⟨by omega, all_snoc hi.2 h2⟩
      · omega
  · rw [fIdx_none fun j hj => hi.2 j (by omega)]
    simp [dom, refsInL_nr, *]
theorem c_ContainsFunc_Zone (g : FuncId) (hg : calleeB P g = true) (ls : List AV) (hls : norefL ls = true) (p : Zone → Bool) (t : Nat) (zs : List Zone) (hl : zs.length ≤ 4611686018427387904)
    (hC : ∀ z, Contract P g (.agg (Zone.row z) :: [.ptr 3 0]) [(3, .box ls)] (.bool (p z)) [(3, .box ls)]) : Contract P 129 [.sl t 5 (zs.map Zone.row), .fn g [] [.ptr 3 0]] [(3, .box ls)] (.bool (decide (∃ i, i < zs.length ∧ p (zs.getD i default) = true))) [(3, .box ls)] := by
  refine fn_sound (Env.nil P) hm k_slices_ContainsFunc_HandZone (Nat.le_of_ble_eq_true rfl) rfl ?_; unfold s_slices_ContainsFunc_HandZone; simp (config := { maxSteps := 2000000 }) only [w_skip, w_rg, w_rgd, w_seq, w_cond, w_block, w_loop, w_exit, w_ret, w_gh, w_rg0, w_rg1, w_rgT, w_rgF, w_run, w_psd, w_und, w_dr0, w_dr1, w_drT, w_drF, w_drRun, w_drPsd, w_drUnd, w_drKn, w_drKs, w_putK, w_trimK, w_thenN, w_thenE, w_thenR, w_scope, w_label, w_blkN, w_blkE, w_blkR, w_call, w_callV, w_callF, o_clos, o_b2s, b2sE, w_effK, brU_true, brU_false, brU_u, brU_not, brU_and, brU_or, brU_dec, brU_eq, brU_ne, br_true, br_false, br_not, br_and, br_or, br_dec, br_eq, br_ne, w_getE0, w_getE1, w_setE0, w_setE1, w_dropE0, w_dropE1, w_drop0, w_drop1, w_getM0, w_getM1, w_setM0, w_setM1, ev_v, ev_c, w_putS, w_putN, w_lit, w_apU0, w_apU1, w_apU2, w_trim, enumE0, enumE1, w_callWp, w_callA0, w_callA1, w_R0, w_R1, w_R2, w_T2, w_callL, w_callT, w_T1, w_T0, o_mv, o_newnil, o_pick, o_bin, o_binN, o_neg, o_not, o_eqB, o_eqS, o_conv, o_alloc, o_box, o_load1, o_loadN, o_store, o_nilck, o_faddr, o_field1, o_fieldN, o_iaddr, o_istr, o_slStr, o_slSl, o_lenS, o_lenL, o_mx, o_mn, o_ext, o_build, o_lit, o_litOwn, o_app, o_mk, o_mvfrz, u_M1, u_M0, u_E1, optI, List.length_take, Int.toNat_zero, List.drop_zero, u_E0, o_idxN, o_idx, o_mset, o_look, o_mkmap, l_int, l_bool, l_str, l_agg, l_sl, l_own, l_ptr, l_pp, i_int, i_bool, i_str, i_sl, i_own, i_ptr, i_pp, all0, all1, e_ok1, eff, effBin, effBinN, ld_ptr, ld_pp, ld_elt, ia_own, ia_arr, el_1, el_N, load1K, faddrE, r_iaddr, sg_S, sg_c, sg_n, purL, pur, List.map, List.drop, List.take, List.length, List.foldl, List.append_eq, List.nil_append, List.cons_append, List.getD_cons_zero, List.getD_cons_succ, reduceIte, Nat.reduceEqDiff, Nat.reduceAdd, Nat.reduceLeDiff, true_and, and_true, Bool.not_true, Bool.not_false, Bool.and_true, Bool.true_and, Bool.and_self, reduceCtorEq, true_implies, false_implies, implies_true, decide_eq_true_eq, Option.map_some, fpOf, fpX, SOp.xs, oX, refs, refsL, dom, disj, List.all_nil, List.all_cons, List.contains_cons, List.contains_nil, Nat.reduceBEq, Bool.or_false, Bool.false_or, List.append_nil, Bool.not_false, Bool.not_true, List.forall_mem_cons, fm0, List.set, Nat.reduceLT, ne_eq, not_false_eq_true, not_true_eq_false, ret1, ret1N, keep0, keep1, rf_int, rf_bool, rf_str, rf_sl, rf_agg, rf_tup, rfL0, rfL1, re_t, re_cN, re_L0, re_L1, ret_tup, ret_one, decide_true, AV.bool.injEq, AV.int.injEq, Nat.reduceLeDiff, decide_eq_true_eq, decide_eq_false_iff_not, Int.toNat_natCast, List.length_map, decide_false, ghost, noref, flatOk, refsInO, wkM, str_eq, int_eq, int_ne, dec_beq, bool_beq, str_lt, str_le, false_dec, true_dec, Classical.not_not, retG_ret, retQ_eq, retQ_eqN, retOk, keepB, re_tupl, orr_t, callL_nil]
  refine ⟨_, _, .inl ⟨[(3, .box ls)], c_IndexFunc_Zone g hg ls hls p t zs hl hC, ?_, ?_, ?_, ?_, ?_, rfl, ?_⟩, ?_⟩
  · simp [getM]
  · intro q hq; left; revert q; simp [dom]
  · simp [dom]
  · simp [refsInL, refsIn, dom, refsInL_nr, *]
  · simp [refsInO, refsInL_nr, *]
  · simp [refsInO, refsInL_nr, *]
  · simp (config := { maxSteps := 2000000 }) only [w_skip, w_rg, w_rgd, w_seq, w_cond, w_block, w_loop, w_exit, w_ret, w_gh, w_rg0, w_rg1, w_rgT, w_rgF, w_run, w_psd, w_und, w_dr0, w_dr1, w_drT, w_drF, w_drRun, w_drPsd, w_drUnd, w_drKn, w_drKs, w_putK, w_trimK, w_thenN, w_thenE, w_thenR, w_scope, w_label, w_blkN, w_blkE, w_blkR, w_call, w_callV, w_callF, o_clos, o_b2s, b2sE, w_effK, brU_true, brU_false, brU_u, brU_not, brU_and, brU_or, brU_dec, brU_eq, brU_ne, br_true, br_false, br_not, br_and, br_or, br_dec, br_eq, br_ne, w_getE0, w_getE1, w_setE0, w_setE1, w_dropE0, w_dropE1, w_drop0, w_drop1, w_getM0, w_getM1, w_setM0, w_setM1, ev_v, ev_c, w_putS, w_putN, w_lit, w_apU0, w_apU1, w_apU2, w_trim, enumE0, enumE1, w_callWp, w_callA0, w_callA1, w_R0, w_R1, w_R2, w_T2, w_callL, w_callT, w_T1, w_T0, o_mv, o_newnil, o_pick, o_bin, o_binN, o_neg, o_not, o_eqB, o_eqS, o_conv, o_alloc, o_box, o_load1, o_loadN, o_store, o_nilck, o_faddr, o_field1, o_fieldN, o_iaddr, o_istr, o_slStr, o_slSl, o_lenS, o_lenL, o_mx, o_mn, o_ext, o_build, o_lit, o_litOwn, o_app, o_mk, o_mvfrz, u_M1, u_M0, u_E1, optI, List.length_take, Int.toNat_zero, List.drop_zero, u_E0, o_idxN, o_idx, o_mset, o_look, o_mkmap, l_int, l_bool, l_str, l_agg, l_sl, l_own, l_ptr, l_pp, i_int, i_bool, i_str, i_sl, i_own, i_ptr, i_pp, all0, all1, e_ok1, eff, effBin, effBinN, ld_ptr, ld_pp, ld_elt, ia_own, ia_arr, el_1, el_N, load1K, faddrE, r_iaddr, sg_S, sg_c, sg_n, purL, pur, List.map, List.drop, List.take, List.length, List.foldl, List.append_eq, List.nil_append, List.cons_append, List.getD_cons_zero, List.getD_cons_succ, reduceIte, Nat.reduceEqDiff, Nat.reduceAdd, Nat.reduceLeDiff, true_and, and_true, Bool.not_true, Bool.not_false, Bool.and_true, Bool.true_and, Bool.and_self, reduceCtorEq, true_implies, false_implies, implies_true, decide_eq_true_eq, Option.map_some, fpOf, fpX, SOp.xs, oX, refs, refsL, dom, disj, List.all_nil, List.all_cons, List.contains_cons, List.contains_nil, Nat.reduceBEq, Bool.or_false, Bool.false_or, List.append_nil, Bool.not_false, Bool.not_true, List.forall_mem_cons, fm0, List.set, Nat.reduceLT, ne_eq, not_false_eq_true, not_true_eq_false, ret1, ret1N, keep0, keep1, rf_int, rf_bool, rf_str, rf_sl, rf_agg, rf_tup, rfL0, rfL1, re_t, re_cN, re_L0, re_L1, ret_tup, ret_one, decide_true, AV.bool.injEq, AV.int.injEq, Nat.reduceLeDiff, decide_eq_true_eq, decide_eq_false_iff_not, Int.toNat_natCast, List.length_map, decide_false, ghost, noref, flatOk, refsInO, wkM, str_eq, int_eq, int_ne, dec_beq, bool_beq, str_lt, str_le, false_dec, true_dec, Classical.not_not, retG_ret, retQ_eq, retQ_eqN, retOk, keepB, re_tupl, orr_t, callL_nil]
    simp [fIdx_ge, dom, refsInL_nr, *]
theorem c_tubeOk1 (z : Zone) (b : Box6) : Contract P 130 [.agg z.row, .ptr 3 0] [(3, .box b.row)] (.bool (decide (z.over b.x b.y))) [(3, .box b.row)] := by
  simp only [Zone.row, Box6.row]
  refine fn_sound ((Env.nil P).add 131 t_over h_over) hm k_impl_tubeOk_1 (Nat.le_of_ble_eq_true rfl) rfl ?_; unfold s_impl_tubeOk_1; simp (config := { maxSteps := 2000000 }) only [w_skip, w_rg, w_rgd, w_seq, w_cond, w_block, w_loop, w_exit, w_ret, w_gh, w_rg0, w_rg1, w_rgT, w_rgF, w_run, w_psd, w_und, w_dr0, w_dr1, w_drT, w_drF, w_drRun, w_drPsd, w_drUnd, w_drKn, w_drKs, w_putK, w_trimK, w_thenN, w_thenE, w_thenR, w_scope, w_label, w_blkN, w_blkE, w_blkR, w_call, w_callV, w_callF, o_clos, o_b2s, b2sE, w_effK, brU_true, brU_false, brU_u, brU_not, brU_and, brU_or, brU_dec, brU_eq, brU_ne, br_true, br_false, br_not, br_and, br_or, br_dec, br_eq, br_ne, w_getE0, w_getE1, w_setE0, w_setE1, w_dropE0, w_dropE1, w_drop0, w_drop1, w_getM0, w_getM1, w_setM0, w_setM1, ev_v, ev_c, w_putS, w_putN, w_lit, w_apU0, w_apU1, w_apU2, w_trim, enumE0, enumE1, w_callWp, w_callA0, w_callA1, w_R0, w_R1, w_R2, w_T2, w_callL, w_callT, w_T1, w_T0, o_mv, o_newnil, o_pick, o_bin, o_binN, o_neg, o_not, o_eqB, o_eqS, o_conv, o_alloc, o_box, o_load1, o_loadN, o_store, o_nilck, o_faddr, o_field1, o_fieldN, o_iaddr, o_istr, o_slStr, o_slSl, o_lenS, o_lenL, o_mx, o_mn, o_ext, o_build, o_lit, o_litOwn, o_app, o_mk, o_mvfrz, u_M1, u_M0, u_E1, optI, List.length_take, Int.toNat_zero, List.drop_zero, u_E0, o_idxN, o_idx, o_mset, o_look, o_mkmap, l_int, l_bool, l_str, l_agg, l_sl, l_own, l_ptr, l_pp, i_int, i_bool, i_str, i_sl, i_own, i_ptr, i_pp, all0, all1, e_ok1, eff, effBin, effBinN, ld_ptr, ld_pp, ld_elt, ia_own, ia_arr, el_1, el_N, load1K, faddrE, r_iaddr, sg_S, sg_c, sg_n, purL, pur, List.map, List.drop, List.take, List.length, List.foldl, List.append_eq, List.nil_append, List.cons_append, List.getD_cons_zero, List.getD_cons_succ, reduceIte, Nat.reduceEqDiff, Nat.reduceAdd, Nat.reduceLeDiff, true_and, and_true, Bool.not_true, Bool.not_false, Bool.and_true, Bool.true_and, Bool.and_self, reduceCtorEq, true_implies, false_implies, implies_true, decide_eq_true_eq, Option.map_some, fpOf, fpX, SOp.xs, oX, refs, refsL, dom, disj, List.all_nil, List.all_cons, List.contains_cons, List.contains_nil, Nat.reduceBEq, Bool.or_false, Bool.false_or, List.append_nil, Bool.not_false, Bool.not_true, List.forall_mem_cons, fm0, List.set, Nat.reduceLT, ne_eq, not_false_eq_true, not_true_eq_false, ret1, ret1N, keep0, keep1, rf_int, rf_bool, rf_str, rf_sl, rf_agg, rf_tup, rfL0, rfL1, re_t, re_cN, re_L0, re_L1, ret_tup, ret_one, decide_true, AV.bool.injEq, AV.int.injEq, Nat.reduceLeDiff, decide_eq_true_eq, decide_eq_false_iff_not, Int.toNat_natCast, List.length_map, decide_false, ghost, noref, flatOk, refsInO, wkM, str_eq, int_eq, int_ne, dec_beq, bool_beq, str_lt, str_le, false_dec, true_dec, Classical.not_not, retG_ret, retQ_eq, retQ_eqN, retOk, keepB, re_tupl, orr_t, t_over, Zone_eta]
  all_goals simp [dom]
def r_tubeC : RTab
  | [.sl zt 5 zx, .fn 130 [] [.ptr ob off]], M => match M ob with
    | some (.box [.int .i64 b_x, .int .i64 b_y, .int .i64 b_l, .int .i64 b_h, .int .i64 b_i, .int .i64 b_o]) => some ⟨off = 0 ∧ (zx.map unZone).map Zone.row = zx ∧ (zx.map unZone).length ≤ 4611686018427387904, fun _ : Unit => True, fun _ => .bool (decide (∃ i, i < (zx.map unZone).length ∧ ((zx.map unZone).getD i default).over b_x b_y)), fun _ => [(ob, .box [.int .i64 b_x, .int .i64 b_y, .int .i64 b_l, .int .i64 b_h, .int .i64 b_i, .int .i64 b_o])]⟩
    | _ => none
  | _, _ => none
theorem h_tubeC : okTab P 129 r_tubeC := by
  intro args M o h hp
  unfold r_tubeC at h
  split at h
  · rename_i zt zx ob off
    split at h
    · rename_i b_x b_y b_l b_h b_i b_o hM
      cases h
      obtain ⟨rfl, e0, HP⟩ := hp
      have hC := c_ContainsFunc_Zone 130 (by kernel_rfl) _ rfl (fun z => decide (z.over b_x b_y)) zt (zx.map unZone) HP fun z => c_tubeOk1 z ⟨b_x, b_y, b_l, b_h, b_i, b_o⟩
      simp only [e0, decide_eq_true_eq, Box6.row] at hC
      exact ⟨(), trivial, callR_box _ hC (by simp [norefL, noref]) rfl (by assumption) (by simp [renL, ren, swp]) (by simp [refsInL, refsIn, noref])⟩
    · cases h
  · cases h
def zAt (zs : List Zone) (s : ByteArray) : Int := fIdx (fun z => decide (z.nm = s)) zs
def boxesIn (zs : List Zone) (b : Box6) : Prop := b.ok ∧ ∃ i, i < zs.length ∧ (zs.getD i default).over b.x b.y
def tubeOk (zs : List Zone) (tu : List Box6) : Prop := (1 ≤ tu.length ∧ tu.length ≤ 20) ∧ ∀ i, i < tu.length → boxesIn zs (tu.getD i default)
noncomputable instance (zs : List Zone) (tu : List Box6) : Decidable (tubeOk zs tu) := Classical.propDecidable _
theorem c_tubeOk (t t' : Nat) (zs : List Zone) (tu : List Box6) (hz : zs.length ≤ 4611686018427387904) (hl : tu.length ≤ 4611686018427387904) : Contract P 78 [.sl t 5 (zs.map Zone.row), .sl t' 6 (tu.map Box6.row)] [] (.bool (decide (tubeOk zs tu))) [] := by
  refine fn_sound ((((Env.nil P).addR 129 r_tubeC h_tubeC).add 75 t_within h_within).add 128 t_handBox h_handBox) hm k_impl_tubeOk (Nat.le_of_ble_eq_true rfl) rfl ?_; unfold s_impl_tubeOk; simp (config := { maxSteps := 2000000 }) only [w_skip, w_rg, w_rgd, w_seq, w_cond, w_block, w_loop, w_exit, w_ret, w_gh, w_rg0, w_rg1, w_rgT, w_rgF, w_run, w_psd, w_und, w_dr0, w_dr1, w_drT, w_drF, w_drRun, w_drPsd, w_drUnd, w_drKn, w_drKs, w_putK, w_trimK, w_thenN, w_thenE, w_thenR, w_scope, w_label, w_blkN, w_blkE, w_blkR, w_call, w_callV, w_callF, o_clos, o_b2s, b2sE, w_effK, brU_true, brU_false, brU_u, brU_not, brU_and, brU_or, brU_dec, brU_eq, brU_ne, br_true, br_false, br_not, br_and, br_or, br_dec, br_eq, br_ne, w_getE0, w_getE1, w_setE0, w_setE1, w_dropE0, w_dropE1, w_drop0, w_drop1, w_getM0, w_getM1, w_setM0, w_setM1, ev_v, ev_c, w_putS, w_putN, w_lit, w_apU0, w_apU1, w_apU2, w_trim, enumE0, enumE1, w_callWp, w_callA0, w_callA1, w_R0, w_R1, w_R2, w_T2, w_callL, w_callT, w_T1, w_T0, o_mv, o_newnil, o_pick, o_bin, o_binN, o_neg, o_not, o_eqB, o_eqS, o_conv, o_alloc, o_box, o_load1, o_loadN, o_store, o_nilck, o_faddr, o_field1, o_fieldN, o_iaddr, o_istr, o_slStr, o_slSl, o_lenS, o_lenL, o_mx, o_mn, o_ext, o_build, o_lit, o_litOwn, o_app, o_mk, o_mvfrz, u_M1, u_M0, u_E1, optI, List.length_take, Int.toNat_zero, List.drop_zero, u_E0, o_idxN, o_idx, o_mset, o_look, o_mkmap, l_int, l_bool, l_str, l_agg, l_sl, l_own, l_ptr, l_pp, i_int, i_bool, i_str, i_sl, i_own, i_ptr, i_pp, all0, all1, e_ok1, eff, effBin, effBinN, ld_ptr, ld_pp, ld_elt, ia_own, ia_arr, el_1, el_N, load1K, faddrE, r_iaddr, sg_S, sg_c, sg_n, purL, pur, List.map, List.drop, List.take, List.length, List.foldl, List.append_eq, List.nil_append, List.cons_append, List.getD_cons_zero, List.getD_cons_succ, reduceIte, Nat.reduceEqDiff, Nat.reduceAdd, Nat.reduceLeDiff, true_and, and_true, Bool.not_true, Bool.not_false, Bool.and_true, Bool.true_and, Bool.and_self, reduceCtorEq, true_implies, false_implies, implies_true, decide_eq_true_eq, Option.map_some, fpOf, fpX, SOp.xs, oX, refs, refsL, dom, disj, List.all_nil, List.all_cons, List.contains_cons, List.contains_nil, Nat.reduceBEq, Bool.or_false, Bool.false_or, List.append_nil, Bool.not_false, Bool.not_true, List.forall_mem_cons, fm0, List.set, Nat.reduceLT, ne_eq, not_false_eq_true, not_true_eq_false, ret1, ret1N, keep0, keep1, rf_int, rf_bool, rf_str, rf_sl, rf_agg, rf_tup, rfL0, rfL1, re_t, re_cN, re_L0, re_L1, ret_tup, ret_one, decide_true, AV.bool.injEq, AV.int.injEq, Nat.reduceLeDiff, decide_eq_true_eq, decide_eq_false_iff_not, Int.toNat_natCast, List.length_map, decide_false, ghost, noref, flatOk, refsInO, wkM, str_eq, int_eq, int_ne, dec_beq, bool_beq, str_lt, str_le, false_dec, true_dec, Classical.not_not, retG_ret, retQ_eq, retQ_eqN, retOk, keepB, re_tupl, orr_t, t_within, t_handBox, r_tubeC, Zone.row, Zone_eta, Box6.row, box_eta6, tk_map, dp_map, toNat_pred, un_Zone]
  refine ⟨fun h1 => ?_, fun h1 => by grind [tubeOk]⟩
  · refine loop_st (fun i : Nat => [(13, .int .i64 i)]) (fun _ => []) (fun i => i ≤ tu.length ∧ ∀ j, j < i → boxesIn zs (tu.getD j default)) (fun i => tu.length - i) (0) (by simp only [u_E0, u_E1, u_M0, u_M1, w_setE0, w_setE1, w_setM0, w_setM1, reduceIte, Nat.reduceEqDiff]; exact ⟨by repeat' (first | exact trivial | refine ⟨.inr rfl, ?_⟩), by repeat' (first | exact trivial | refine ⟨rfl, ?_⟩), by first | rfl | simp [closedB, refsIn, refsInL, refsInO, dom, refsInL_nr, *], by first | rfl | simp [keepB, dom]⟩) ?_ ?_
    · exact ⟨Nat.zero_le _, by intro j hj; omega⟩
    intro i hi NX hN
    unfold l_impl_tubeOk_0; simp (config := { maxSteps := 2000000 }) only [w_skip, w_rg, w_rgd, w_seq, w_cond, w_block, w_loop, w_exit, w_ret, w_gh, w_rg0, w_rg1, w_rgT, w_rgF, w_run, w_psd, w_und, w_dr0, w_dr1, w_drT, w_drF, w_drRun, w_drPsd, w_drUnd, w_drKn, w_drKs, w_putK, w_trimK, w_thenN, w_thenE, w_thenR, w_scope, w_label, w_blkN, w_blkE, w_blkR, w_call, w_callV, w_callF, o_clos, o_b2s, b2sE, w_effK, brU_true, brU_false, brU_u, brU_not, brU_and, brU_or, brU_dec, brU_eq, brU_ne, br_true, br_false, br_not, br_and, br_or, br_dec, br_eq, br_ne, w_getE0, w_getE1, w_setE0, w_setE1, w_dropE0, w_dropE1, w_drop0, w_drop1, w_getM0, w_getM1, w_setM0, w_setM1, ev_v, ev_c, w_putS, w_putN, w_lit, w_apU0, w_apU1, w_apU2, w_trim, enumE0, enumE1, w_callWp, w_callA0, w_callA1, w_R0, w_R1, w_R2, w_T2, w_callL, w_callT, w_T1, w_T0, o_mv, o_newnil, o_pick, o_bin, o_binN, o_neg, o_not, o_eqB, o_eqS, o_conv, o_alloc, o_box, o_load1, o_loadN, o_store, o_nilck, o_faddr, o_field1, o_fieldN, o_iaddr, o_istr, o_slStr, o_slSl, o_lenS, o_lenL, o_mx, o_mn, o_ext, o_build, o_lit, o_litOwn, o_app, o_mk, o_mvfrz, u_M1, u_M0, u_E1, optI, List.length_take, Int.toNat_zero, List.drop_zero, u_E0, o_idxN, o_idx, o_mset, o_look, o_mkmap, l_int, l_bool, l_str, l_agg, l_sl, l_own, l_ptr, l_pp, i_int, i_bool, i_str, i_sl, i_own, i_ptr, i_pp, all0, all1, e_ok1, eff, effBin, effBinN, ld_ptr, ld_pp, ld_elt, ia_own, ia_arr, el_1, el_N, load1K, faddrE, r_iaddr, sg_S, sg_c, sg_n, purL, pur, List.map, List.drop, List.take, List.length, List.foldl, List.append_eq, List.nil_append, List.cons_append, List.getD_cons_zero, List.getD_cons_succ, reduceIte, Nat.reduceEqDiff, Nat.reduceAdd, Nat.reduceLeDiff, true_and, and_true, Bool.not_true, Bool.not_false, Bool.and_true, Bool.true_and, Bool.and_self, reduceCtorEq, true_implies, false_implies, implies_true, decide_eq_true_eq, Option.map_some, fpOf, fpX, SOp.xs, oX, refs, refsL, dom, disj, List.all_nil, List.all_cons, List.contains_cons, List.contains_nil, Nat.reduceBEq, Bool.or_false, Bool.false_or, List.append_nil, Bool.not_false, Bool.not_true, List.forall_mem_cons, fm0, List.set, Nat.reduceLT, ne_eq, not_false_eq_true, not_true_eq_false, ret1, ret1N, keep0, keep1, rf_int, rf_bool, rf_str, rf_sl, rf_agg, rf_tup, rfL0, rfL1, re_t, re_cN, re_L0, re_L1, ret_tup, ret_one, decide_true, AV.bool.injEq, AV.int.injEq, Nat.reduceLeDiff, decide_eq_true_eq, decide_eq_false_iff_not, Int.toNat_natCast, List.length_map, decide_false, ghost, noref, flatOk, refsInO, wkM, str_eq, int_eq, int_ne, dec_beq, bool_beq, str_lt, str_le, false_dec, true_dec, Classical.not_not, retG_ret, retQ_eq, retQ_eqN, retOk, keepB, re_tupl, orr_t, t_within, t_handBox, r_tubeC, Zone.row, Zone_eta, Box6.row, box_eta6, tk_map, dp_map, toNat_pred, un_Zone]
    repeat' (first | with_reducible apply And.intro | with_reducible intro _)
    all_goals first
      | exact trivial
      | omega
      | (refine hN (i + 1) _ (by simp only [u_E0, u_E1, u_M0, u_M1, w_setE0, w_setE1, w_setM0, w_setM1, reduceIte, Nat.reduceEqDiff]; exact ⟨by repeat' (first | exact trivial | refine ⟨.inr rfl, ?_⟩), by repeat' (first | exact trivial | refine ⟨rfl, ?_⟩), by first | rfl | simp [closedB, refsIn, refsInL, refsInO, dom, refsInL_nr, *], by first | rfl | simp [keepB, dom]⟩) ?_ ?_
         · exact ⟨by omega, all_snoc hi.2 (by grind [tubeOk, boxesIn])⟩
         · omega)
      | grind [tubeOk, boxesIn]
end
end Go.Ve

namespace Go.Ve
noncomputable section
open Go.Proofs
set_option linter.unusedSimpArgs false
set_option linter.unusedVariables false
set_option maxRecDepth 100000
theorem unZone_mk {a : ByteArray} {b c d e : Int} : unZone [.str a, .int .i64 b, .int .i64 c, .int .i64 d, .int .i64 e] = ⟨a, b, c, d, e⟩ := rfl
def Zone.sees (z : Zone) (b : Box6) : Prop := b.ok ∧ (z.x0 - 1 ≤ b.x ∧ b.x ≤ z.x1 + 1) ∧ (z.y0 - 1 ≤ b.y ∧ b.y ≤ z.y1 + 1)
instance (z : Zone) (b : Box6) : Decidable (z.sees b) := Classical.propDecidable _
def partOf (z : Zone) (tu : List Box6) : List Box6 := if zonesOk [z] then tu.filter (fun b => decide (z.sees b)) else []
def t_tubeOk : List AV → Option (Prop × AV)
  | [.sl zst 5 zsx, .sl tut 6 tux] => some ((((zsx.map unZone).map Zone.row = zsx) ∧ ((tux.map unBox).map Box6.row = tux)) ∧ ((zsx.map unZone).length ≤ 4611686018427387904 ∧ (tux.map unBox).length ≤ 4611686018427387904), .bool (decide (tubeOk (zsx.map unZone) (tux.map unBox))))
  | _ => none
theorem h_tubeOk : ∀ args p v, t_tubeOk args = some (p, v) → p → Contract P 78 args [] v [] ∧ noref v = true ∧ No99 v := by
  intro args p v h1 h2
  unfold t_tubeOk at h1
  split at h1
  · rename_i zst zsx tut tux
    cases h1
    obtain ⟨⟨e0, e1⟩, HP⟩ := h2
    have := c_tubeOk zst tut (zsx.map unZone) (tux.map unBox) HP.1 HP.2
    exact ⟨by simpa only [e0, e1] using this, rfl, trivial⟩
  · cases h1
theorem c_sTubeOk (t t' : Nat) (zs : List Zone) (tu : List Box6) (hz : zs.length ≤ 4611686018427387904) (hl : tu.length ≤ 4611686018427387904) : Contract P 69 [.sl t 5 (zs.map Zone.row), .sl t' 6 (tu.map Box6.row)] [] (.bool (decide (zonesOk zs ∧ tubeOk zs tu))) [] := by
  refine fn_sound (((((Env.nil P).add 45 t_sZonesOk h_sZonesOk).add 48 t_l31In h_l31In).add 120 t_sOver h_sOver).add 117 t_l31BoxOk h_l31BoxOk) hm k_spec_HandTubeOk (Nat.le_of_ble_eq_true rfl) rfl ?_; unfold s_spec_HandTubeOk; simp (config := { maxSteps := 2000000 }) only [w_skip, w_rg, w_rgd, w_seq, w_cond, w_block, w_loop, w_exit, w_ret, w_gh, w_rg0, w_rg1, w_rgT, w_rgF, w_run, w_psd, w_und, w_dr0, w_dr1, w_drT, w_drF, w_drRun, w_drPsd, w_drUnd, w_drKn, w_drKs, w_putK, w_trimK, w_thenN, w_thenE, w_thenR, w_scope, w_label, w_blkN, w_blkE, w_blkR, w_call, w_callV, w_callF, o_clos, o_b2s, b2sE, w_effK, brU_true, brU_false, brU_u, brU_not, brU_and, brU_or, brU_dec, brU_eq, brU_ne, br_true, br_false, br_not, br_and, br_or, br_dec, br_eq, br_ne, w_getE0, w_getE1, w_setE0, w_setE1, w_dropE0, w_dropE1, w_drop0, w_drop1, w_getM0, w_getM1, w_setM0, w_setM1, ev_v, ev_c, w_putS, w_putN, w_lit, w_apU0, w_apU1, w_apU2, w_trim, enumE0, enumE1, w_callWp, w_callA0, w_callA1, w_R0, w_R1, w_R2, w_T2, w_callL, w_callT, w_T1, w_T0, o_mv, o_newnil, o_pick, o_bin, o_binN, o_neg, o_not, o_eqB, o_eqS, o_conv, o_alloc, o_box, o_load1, o_loadN, o_store, o_nilck, o_faddr, o_field1, o_fieldN, o_iaddr, o_istr, o_slStr, o_slSl, o_lenS, o_lenL, o_mx, o_mn, o_ext, o_build, o_lit, o_litOwn, o_app, o_mk, o_mvfrz, u_M1, u_M0, u_E1, optI, List.length_take, Int.toNat_zero, List.drop_zero, u_E0, o_idxN, o_idx, o_mset, o_look, o_mkmap, l_int, l_bool, l_str, l_agg, l_sl, l_own, l_ptr, l_pp, i_int, i_bool, i_str, i_sl, i_own, i_ptr, i_pp, all0, all1, e_ok1, eff, effBin, effBinN, ld_ptr, ld_pp, ld_elt, ia_own, ia_arr, el_1, el_N, load1K, faddrE, r_iaddr, sg_S, sg_c, sg_n, purL, pur, List.map, List.drop, List.take, List.length, List.foldl, List.append_eq, List.nil_append, List.cons_append, List.getD_cons_zero, List.getD_cons_succ, reduceIte, Nat.reduceEqDiff, Nat.reduceAdd, Nat.reduceLeDiff, true_and, and_true, Bool.not_true, Bool.not_false, Bool.and_true, Bool.true_and, Bool.and_self, reduceCtorEq, true_implies, false_implies, implies_true, decide_eq_true_eq, Option.map_some, fpOf, fpX, SOp.xs, oX, refs, refsL, dom, disj, List.all_nil, List.all_cons, List.contains_cons, List.contains_nil, Nat.reduceBEq, Bool.or_false, Bool.false_or, List.append_nil, Bool.not_false, Bool.not_true, List.forall_mem_cons, fm0, List.set, Nat.reduceLT, ne_eq, not_false_eq_true, not_true_eq_false, ret1, ret1N, keep0, keep1, rf_int, rf_bool, rf_str, rf_sl, rf_agg, rf_tup, rfL0, rfL1, re_t, re_cN, re_L0, re_L1, ret_tup, ret_one, decide_true, AV.bool.injEq, AV.int.injEq, Nat.reduceLeDiff, decide_eq_true_eq, decide_eq_false_iff_not, Int.toNat_natCast, List.length_map, decide_false, ghost, noref, flatOk, refsInO, wkM, str_eq, int_eq, int_ne, dec_beq, bool_beq, str_lt, str_le, false_dec, true_dec, Classical.not_not, t_sZonesOk, t_l31In, t_sOver, t_l31BoxOk, Zone.row, Zone_eta, Box6.row, box_eta6, tk_map, dp_map, toNat_pred, unZone_mk, appE, rowsOf, List.take_length, List.length_cons, List.length_nil, Nat.zero_add, srow, irow, un_s, un_i, un_box, un_Zone, un_Own, un_Part, un_Seen, un_Word, un_Zone]
  refine ⟨hz, fun h1 => ⟨fun h2 => ?_, fun h2 h => by grind [tubeOk]⟩, fun h1 h => h1 h.1⟩
  · refine loop_st (fun i : Nat => [(5, .int .i64 i)]) (fun _ => []) (fun i => i ≤ tu.length ∧ ∀ j, j < i → boxesIn zs (tu.getD j default)) (fun i => tu.length - i) (0) (by simp only [u_E0, u_E1, u_M0, u_M1, w_setE0, w_setE1, w_setM0, w_setM1, reduceIte, Nat.reduceEqDiff]; exact ⟨by repeat' (first | exact trivial | refine ⟨.inr rfl, ?_⟩), by repeat' (first | exact trivial | refine ⟨rfl, ?_⟩), by first | rfl | simp [closedB, refsIn, refsInL, refsInO, dom, refsInL_nr, *], by first | rfl | simp [keepB, dom]⟩) ?_ ?_
    · exact ⟨Nat.zero_le _, by intro j hj; omega⟩
    intro i hi NX hN
    unfold l_spec_HandTubeOk_1; simp (config := { maxSteps := 2000000 }) only [w_skip, w_rg, w_rgd, w_seq, w_cond, w_block, w_loop, w_exit, w_ret, w_gh, w_rg0, w_rg1, w_rgT, w_rgF, w_run, w_psd, w_und, w_dr0, w_dr1, w_drT, w_drF, w_drRun, w_drPsd, w_drUnd, w_drKn, w_drKs, w_putK, w_trimK, w_thenN, w_thenE, w_thenR, w_scope, w_label, w_blkN, w_blkE, w_blkR, w_call, w_callV, w_callF, o_clos, o_b2s, b2sE, w_effK, brU_true, brU_false, brU_u, brU_not, brU_and, brU_or, brU_dec, brU_eq, brU_ne, br_true, br_false, br_not, br_and, br_or, br_dec, br_eq, br_ne, w_getE0, w_getE1, w_setE0, w_setE1, w_dropE0, w_dropE1, w_drop0, w_drop1, w_getM0, w_getM1, w_setM0, w_setM1, ev_v, ev_c, w_putS, w_putN, w_lit, w_apU0, w_apU1, w_apU2, w_trim, enumE0, enumE1, w_callWp, w_callA0, w_callA1, w_R0, w_R1, w_R2, w_T2, w_callL, w_callT, w_T1, w_T0, o_mv, o_newnil, o_pick, o_bin, o_binN, o_neg, o_not, o_eqB, o_eqS, o_conv, o_alloc, o_box, o_load1, o_loadN, o_store, o_nilck, o_faddr, o_field1, o_fieldN, o_iaddr, o_istr, o_slStr, o_slSl, o_lenS, o_lenL, o_mx, o_mn, o_ext, o_build, o_lit, o_litOwn, o_app, o_mk, o_mvfrz, u_M1, u_M0, u_E1, optI, List.length_take, Int.toNat_zero, List.drop_zero, u_E0, o_idxN, o_idx, o_mset, o_look, o_mkmap, l_int, l_bool, l_str, l_agg, l_sl, l_own, l_ptr, l_pp, i_int, i_bool, i_str, i_sl, i_own, i_ptr, i_pp, all0, all1, e_ok1, eff, effBin, effBinN, ld_ptr, ld_pp, ld_elt, ia_own, ia_arr, el_1, el_N, load1K, faddrE, r_iaddr, sg_S, sg_c, sg_n, purL, pur, List.map, List.drop, List.take, List.length, List.foldl, List.append_eq, List.nil_append, List.cons_append, List.getD_cons_zero, List.getD_cons_succ, reduceIte, Nat.reduceEqDiff, Nat.reduceAdd, Nat.reduceLeDiff, true_and, and_true, Bool.not_true, Bool.not_false, Bool.and_true, Bool.true_and, Bool.and_self, reduceCtorEq, true_implies, false_implies, implies_true, decide_eq_true_eq, Option.map_some, fpOf, fpX, SOp.xs, oX, refs, refsL, dom, disj, List.all_nil, List.all_cons, List.contains_cons, List.contains_nil, Nat.reduceBEq, Bool.or_false, Bool.false_or, List.append_nil, Bool.not_false, Bool.not_true, List.forall_mem_cons, fm0, List.set, Nat.reduceLT, ne_eq, not_false_eq_true, not_true_eq_false, ret1, ret1N, keep0, keep1, rf_int, rf_bool, rf_str, rf_sl, rf_agg, rf_tup, rfL0, rfL1, re_t, re_cN, re_L0, re_L1, ret_tup, ret_one, decide_true, AV.bool.injEq, AV.int.injEq, Nat.reduceLeDiff, decide_eq_true_eq, decide_eq_false_iff_not, Int.toNat_natCast, List.length_map, decide_false, ghost, noref, flatOk, refsInO, wkM, str_eq, int_eq, int_ne, dec_beq, bool_beq, str_lt, str_le, false_dec, true_dec, Classical.not_not, t_sZonesOk, t_l31In, t_sOver, t_l31BoxOk, Zone.row, Zone_eta, Box6.row, box_eta6, tk_map, dp_map, toNat_pred, unZone_mk, appE, rowsOf, List.take_length, List.length_cons, List.length_nil, Nat.zero_add, srow, irow, un_s, un_i, un_box, un_Zone, un_Own, un_Part, un_Seen, un_Word, un_Zone]
    repeat' (first | with_reducible apply And.intro | with_reducible intro _)
    · refine loop_st (fun a : Nat × Bool => [(6, .bool a.2), (7, .int .i64 a.1)]) (fun _ => []) (fun a => a.1 ≤ zs.length ∧ (a.2 = true ↔ ∃ k, k < a.1 ∧ (zs.getD k default).over (tu.getD i default).x (tu.getD i default).y)) (fun a => zs.length - a.1) ((0, false)) (by simp only [u_E0, u_E1, u_M0, u_M1, w_setE0, w_setE1, w_setM0, w_setM1, reduceIte, Nat.reduceEqDiff]; exact ⟨by repeat' (first | exact trivial | refine ⟨.inr rfl, ?_⟩), by repeat' (first | exact trivial | refine ⟨rfl, ?_⟩), by first | rfl | simp [closedB, refsIn, refsInL, refsInO, dom, refsInL_nr, *], by first | rfl | simp [keepB, dom]⟩) ?_ ?_
      · exact ⟨Nat.zero_le _, by simp⟩
      rintro ⟨k, b⟩ hk NX2 hN2
      unfold l_spec_HandTubeOk_0; simp (config := { maxSteps := 2000000 }) only [w_skip, w_rg, w_rgd, w_seq, w_cond, w_block, w_loop, w_exit, w_ret, w_gh, w_rg0, w_rg1, w_rgT, w_rgF, w_run, w_psd, w_und, w_dr0, w_dr1, w_drT, w_drF, w_drRun, w_drPsd, w_drUnd, w_drKn, w_drKs, w_putK, w_trimK, w_thenN, w_thenE, w_thenR, w_scope, w_label, w_blkN, w_blkE, w_blkR, w_call, w_callV, w_callF, o_clos, o_b2s, b2sE, w_effK, brU_true, brU_false, brU_u, brU_not, brU_and, brU_or, brU_dec, brU_eq, brU_ne, br_true, br_false, br_not, br_and, br_or, br_dec, br_eq, br_ne, w_getE0, w_getE1, w_setE0, w_setE1, w_dropE0, w_dropE1, w_drop0, w_drop1, w_getM0, w_getM1, w_setM0, w_setM1, ev_v, ev_c, w_putS, w_putN, w_lit, w_apU0, w_apU1, w_apU2, w_trim, enumE0, enumE1, w_callWp, w_callA0, w_callA1, w_R0, w_R1, w_R2, w_T2, w_callL, w_callT, w_T1, w_T0, o_mv, o_newnil, o_pick, o_bin, o_binN, o_neg, o_not, o_eqB, o_eqS, o_conv, o_alloc, o_box, o_load1, o_loadN, o_store, o_nilck, o_faddr, o_field1, o_fieldN, o_iaddr, o_istr, o_slStr, o_slSl, o_lenS, o_lenL, o_mx, o_mn, o_ext, o_build, o_lit, o_litOwn, o_app, o_mk, o_mvfrz, u_M1, u_M0, u_E1, optI, List.length_take, Int.toNat_zero, List.drop_zero, u_E0, o_idxN, o_idx, o_mset, o_look, o_mkmap, l_int, l_bool, l_str, l_agg, l_sl, l_own, l_ptr, l_pp, i_int, i_bool, i_str, i_sl, i_own, i_ptr, i_pp, all0, all1, e_ok1, eff, effBin, effBinN, ld_ptr, ld_pp, ld_elt, ia_own, ia_arr, el_1, el_N, load1K, faddrE, r_iaddr, sg_S, sg_c, sg_n, purL, pur, List.map, List.drop, List.take, List.length, List.foldl, List.append_eq, List.nil_append, List.cons_append, List.getD_cons_zero, List.getD_cons_succ, reduceIte, Nat.reduceEqDiff, Nat.reduceAdd, Nat.reduceLeDiff, true_and, and_true, Bool.not_true, Bool.not_false, Bool.and_true, Bool.true_and, Bool.and_self, reduceCtorEq, true_implies, false_implies, implies_true, decide_eq_true_eq, Option.map_some, fpOf, fpX, SOp.xs, oX, refs, refsL, dom, disj, List.all_nil, List.all_cons, List.contains_cons, List.contains_nil, Nat.reduceBEq, Bool.or_false, Bool.false_or, List.append_nil, Bool.not_false, Bool.not_true, List.forall_mem_cons, fm0, List.set, Nat.reduceLT, ne_eq, not_false_eq_true, not_true_eq_false, ret1, ret1N, keep0, keep1, rf_int, rf_bool, rf_str, rf_sl, rf_agg, rf_tup, rfL0, rfL1, re_t, re_cN, re_L0, re_L1, ret_tup, ret_one, decide_true, AV.bool.injEq, AV.int.injEq, Nat.reduceLeDiff, decide_eq_true_eq, decide_eq_false_iff_not, Int.toNat_natCast, List.length_map, decide_false, ghost, noref, flatOk, refsInO, wkM, str_eq, int_eq, int_ne, dec_beq, bool_beq, str_lt, str_le, false_dec, true_dec, Classical.not_not, t_sZonesOk, t_l31In, t_sOver, t_l31BoxOk, Zone.row, Zone_eta, Box6.row, box_eta6, tk_map, dp_map, toNat_pred, unZone_mk, appE, rowsOf, List.take_length, List.length_cons, List.length_nil, Nat.zero_add, srow, irow, un_s, un_i, un_box, un_Zone, un_Own, un_Part, un_Seen, un_Word, un_Zone]
      simp only at hk
      have sn : ∀ b' : Bool, (b' = true ↔ b = true ∨ (zs.getD k default).over (tu.getD i default).x (tu.getD i default).y) → (b' = true ↔ ∃ j, j < k + 1 ∧ (zs.getD j default).over (tu.getD i default).x (tu.getD i default).y) := by
        intro b' hb'
        rw [hb', hk.2]
        constructor
        · rintro (⟨j, h1, h2⟩ | h)
          · exact ⟨j, by omega, h2⟩
          · exact ⟨k, by omega, h⟩
        · rintro ⟨j, h1, h2⟩
          by_cases e : j = k
          · subst e; exact .inr h2
          · exact .inl ⟨j, by omega, h2⟩
      have fin : k = zs.length → (b = true ↔ ∃ k, k < zs.length ∧ (zs.getD k default).over (tu.getD i default).x (tu.getD i default).y) := fun e => e ▸ hk.2
      refine ⟨fun h3 => ?_, fun h3 => ?_⟩
      · cases b <;> (simp (config := { maxSteps := 2000000 }) only [w_skip, w_rg, w_rgd, w_seq, w_cond, w_block, w_loop, w_exit, w_ret, w_gh, w_rg0, w_rg1, w_rgT, w_rgF, w_run, w_psd, w_und, w_dr0, w_dr1, w_drT, w_drF, w_drRun, w_drPsd, w_drUnd, w_drKn, w_drKs, w_putK, w_trimK, w_thenN, w_thenE, w_thenR, w_scope, w_label, w_blkN, w_blkE, w_blkR, w_call, w_callV, w_callF, o_clos, o_b2s, b2sE, w_effK, brU_true, brU_false, brU_u, brU_not, brU_and, brU_or, brU_dec, brU_eq, brU_ne, br_true, br_false, br_not, br_and, br_or, br_dec, br_eq, br_ne, w_getE0, w_getE1, w_setE0, w_setE1, w_dropE0, w_dropE1, w_drop0, w_drop1, w_getM0, w_getM1, w_setM0, w_setM1, ev_v, ev_c, w_putS, w_putN, w_lit, w_apU0, w_apU1, w_apU2, w_trim, enumE0, enumE1, w_callWp, w_callA0, w_callA1, w_R0, w_R1, w_R2, w_T2, w_callL, w_callT, w_T1, w_T0, o_mv, o_newnil, o_pick, o_bin, o_binN, o_neg, o_not, o_eqB, o_eqS, o_conv, o_alloc, o_box, o_load1, o_loadN, o_store, o_nilck, o_faddr, o_field1, o_fieldN, o_iaddr, o_istr, o_slStr, o_slSl, o_lenS, o_lenL, o_mx, o_mn, o_ext, o_build, o_lit, o_litOwn, o_app, o_mk, o_mvfrz, u_M1, u_M0, u_E1, optI, List.length_take, Int.toNat_zero, List.drop_zero, u_E0, o_idxN, o_idx, o_mset, o_look, o_mkmap, l_int, l_bool, l_str, l_agg, l_sl, l_own, l_ptr, l_pp, i_int, i_bool, i_str, i_sl, i_own, i_ptr, i_pp, all0, all1, e_ok1, eff, effBin, effBinN, ld_ptr, ld_pp, ld_elt, ia_own, ia_arr, el_1, el_N, load1K, faddrE, r_iaddr, sg_S, sg_c, sg_n, purL, pur, List.map, List.drop, List.take, List.length, List.foldl, List.append_eq, List.nil_append, List.cons_append, List.getD_cons_zero, List.getD_cons_succ, reduceIte, Nat.reduceEqDiff, Nat.reduceAdd, Nat.reduceLeDiff, true_and, and_true, Bool.not_true, Bool.not_false, Bool.and_true, Bool.true_and, Bool.and_self, reduceCtorEq, true_implies, false_implies, implies_true, decide_eq_true_eq, Option.map_some, fpOf, fpX, SOp.xs, oX, refs, refsL, dom, disj, List.all_nil, List.all_cons, List.contains_cons, List.contains_nil, Nat.reduceBEq, Bool.or_false, Bool.false_or, List.append_nil, Bool.not_false, Bool.not_true, List.forall_mem_cons, fm0, List.set, Nat.reduceLT, ne_eq, not_false_eq_true, not_true_eq_false, ret1, ret1N, keep0, keep1, rf_int, rf_bool, rf_str, rf_sl, rf_agg, rf_tup, rfL0, rfL1, re_t, re_cN, re_L0, re_L1, ret_tup, ret_one, decide_true, AV.bool.injEq, AV.int.injEq, Nat.reduceLeDiff, decide_eq_true_eq, decide_eq_false_iff_not, Int.toNat_natCast, List.length_map, decide_false, ghost, noref, flatOk, refsInO, wkM, str_eq, int_eq, int_ne, dec_beq, bool_beq, str_lt, str_le, false_dec, true_dec, Classical.not_not, t_sZonesOk, t_l31In, t_sOver, t_l31BoxOk, Zone.row, Zone_eta, Box6.row, box_eta6, tk_map, dp_map, toNat_pred, unZone_mk, appE, rowsOf, List.take_length, List.length_cons, List.length_nil, Nat.zero_add, srow, irow, un_s, un_i, un_box, un_Zone, un_Own, un_Part, un_Seen, un_Word, un_Zone])
        · refine ⟨by omega, by omega, by omega, by omega, by omega, ?_⟩
          refine hN2 ((k + 1, _)) _ (by simp only [u_E0, u_E1, u_M0, u_M1, w_setE0, w_setE1, w_setM0, w_setM1, reduceIte, Nat.reduceEqDiff]; exact ⟨by repeat' (first | exact trivial | refine ⟨.inr rfl, ?_⟩), by repeat' (first | exact trivial | refine ⟨rfl, ?_⟩), by first | rfl | simp [closedB, refsIn, refsInL, refsInO, dom, refsInL_nr, *], by first | rfl | simp [keepB, dom]⟩) ?_ ?_
          · exact ⟨by simp only; omega, sn _ (by simp)⟩
          · simp only; omega
        · refine ⟨by omega, ?_⟩
          refine hN2 ((k + 1, _)) _ (by simp only [u_E0, u_E1, u_M0, u_M1, w_setE0, w_setE1, w_setM0, w_setM1, reduceIte, Nat.reduceEqDiff]; exact ⟨by repeat' (first | exact trivial | refine ⟨.inr rfl, ?_⟩), by repeat' (first | exact trivial | refine ⟨rfl, ?_⟩), by first | rfl | simp [closedB, refsIn, refsInL, refsInO, dom, refsInL_nr, *], by first | rfl | simp [keepB, dom]⟩) ?_ ?_
          · exact ⟨by simp only; omega, sn _ (by simp)⟩
          · simp only; omega
      · have hf := fin (by omega)
        cases b <;> (simp (config := { maxSteps := 2000000 }) only [w_skip, w_rg, w_rgd, w_seq, w_cond, w_block, w_loop, w_exit, w_ret, w_gh, w_rg0, w_rg1, w_rgT, w_rgF, w_run, w_psd, w_und, w_dr0, w_dr1, w_drT, w_drF, w_drRun, w_drPsd, w_drUnd, w_drKn, w_drKs, w_putK, w_trimK, w_thenN, w_thenE, w_thenR, w_scope, w_label, w_blkN, w_blkE, w_blkR, w_call, w_callV, w_callF, o_clos, o_b2s, b2sE, w_effK, brU_true, brU_false, brU_u, brU_not, brU_and, brU_or, brU_dec, brU_eq, brU_ne, br_true, br_false, br_not, br_and, br_or, br_dec, br_eq, br_ne, w_getE0, w_getE1, w_setE0, w_setE1, w_dropE0, w_dropE1, w_drop0, w_drop1, w_getM0, w_getM1, w_setM0, w_setM1, ev_v, ev_c, w_putS, w_putN, w_lit, w_apU0, w_apU1, w_apU2, w_trim, enumE0, enumE1, w_callWp, w_callA0, w_callA1, w_R0, w_R1, w_R2, w_T2, w_callL, w_callT, w_T1, w_T0, o_mv, o_newnil, o_pick, o_bin, o_binN, o_neg, o_not, o_eqB, o_eqS, o_conv, o_alloc, o_box, o_load1, o_loadN, o_store, o_nilck, o_faddr, o_field1, o_fieldN, o_iaddr, o_istr, o_slStr, o_slSl, o_lenS, o_lenL, o_mx, o_mn, o_ext, o_build, o_lit, o_litOwn, o_app, o_mk, o_mvfrz, u_M1, u_M0, u_E1, optI, List.length_take, Int.toNat_zero, List.drop_zero, u_E0, o_idxN, o_idx, o_mset, o_look, o_mkmap, l_int, l_bool, l_str, l_agg, l_sl, l_own, l_ptr, l_pp, i_int, i_bool, i_str, i_sl, i_own, i_ptr, i_pp, all0, all1, e_ok1, eff, effBin, effBinN, ld_ptr, ld_pp, ld_elt, ia_own, ia_arr, el_1, el_N, load1K, faddrE, r_iaddr, sg_S, sg_c, sg_n, purL, pur, List.map, List.drop, List.take, List.length, List.foldl, List.append_eq, List.nil_append, List.cons_append, List.getD_cons_zero, List.getD_cons_succ, reduceIte, Nat.reduceEqDiff, Nat.reduceAdd, Nat.reduceLeDiff, true_and, and_true, Bool.not_true, Bool.not_false, Bool.and_true, Bool.true_and, Bool.and_self, reduceCtorEq, true_implies, false_implies, implies_true, decide_eq_true_eq, Option.map_some, fpOf, fpX, SOp.xs, oX, refs, refsL, dom, disj, List.all_nil, List.all_cons, List.contains_cons, List.contains_nil, Nat.reduceBEq, Bool.or_false, Bool.false_or, List.append_nil, Bool.not_false, Bool.not_true, List.forall_mem_cons, fm0, List.set, Nat.reduceLT, ne_eq, not_false_eq_true, not_true_eq_false, ret1, ret1N, keep0, keep1, rf_int, rf_bool, rf_str, rf_sl, rf_agg, rf_tup, rfL0, rfL1, re_t, re_cN, re_L0, re_L1, ret_tup, ret_one, decide_true, AV.bool.injEq, AV.int.injEq, Nat.reduceLeDiff, decide_eq_true_eq, decide_eq_false_iff_not, Int.toNat_natCast, List.length_map, decide_false, ghost, noref, flatOk, refsInO, wkM, str_eq, int_eq, int_ne, dec_beq, bool_beq, str_lt, str_le, false_dec, true_dec, Classical.not_not, t_sZonesOk, t_l31In, t_sOver, t_l31BoxOk, Zone.row, Zone_eta, Box6.row, box_eta6, tk_map, dp_map, toNat_pred, unZone_mk, appE, rowsOf, List.take_length, List.length_cons, List.length_nil, Nat.zero_add, srow, irow, un_s, un_i, un_box, un_Zone, un_Own, un_Part, un_Seen, un_Word, un_Zone])
        · intro h; have := (h.2.2 i (by omega)).2; grind
        · refine ⟨by omega, by omega, fun h4 => ⟨by omega, ?_⟩, fun h4 h => h4 (h.2.2 i (by omega)).1⟩
          refine hN (i + 1) _ (by simp only [u_E0, u_E1, u_M0, u_M1, w_setE0, w_setE1, w_setM0, w_setM1, reduceIte, Nat.reduceEqDiff]; exact ⟨by repeat' (first | exact trivial | refine ⟨.inr rfl, ?_⟩), by repeat' (first | exact trivial | refine ⟨rfl, ?_⟩), by first | rfl | simp [closedB, refsIn, refsInL, refsInO, dom, refsInL_nr, *], by first | rfl | simp [keepB, dom]⟩) ?_ ?_
          · exact ⟨by omega, all_snoc hi.2 ⟨h4, hf.1 rfl⟩⟩
          · omega
    · exact h1
    · exact ⟨by omega, fun j hj => hi.2 j (by omega)⟩
def t_sTubeOk : List AV → Option (Prop × AV)
  | [.sl zst 5 zsx, .sl tut 6 tux] => some ((((zsx.map unZone).map Zone.row = zsx) ∧ ((tux.map unBox).map Box6.row = tux)) ∧ ((zsx.map unZone).length ≤ 4611686018427387904 ∧ (tux.map unBox).length ≤ 4611686018427387904), .bool (decide (zonesOk (zsx.map unZone) ∧ tubeOk (zsx.map unZone) (tux.map unBox))))
  | _ => none
theorem h_sTubeOk : ∀ args p v, t_sTubeOk args = some (p, v) → p → Contract P 69 args [] v [] ∧ noref v = true ∧ No99 v := by
  intro args p v h1 h2
  unfold t_sTubeOk at h1
  split at h1
  · rename_i zst zsx tut tux
    cases h1
    obtain ⟨⟨e0, e1⟩, HP⟩ := h2
    have := c_sTubeOk zst tut (zsx.map unZone) (tux.map unBox) HP.1 HP.2
    exact ⟨by simpa only [e0, e1] using this, rfl, trivial⟩
  · cases h1
def kp (z : Zone) (tu : List Box6) (i : Nat) : List Box6 := (tu.take i).filter (fun b => decide (z.sees b))
def whoOf (zs : List Zone) (tu : List Box6) : List ByteArray := (zs.filter (fun z => decide (0 < (partOf z tu).length))).map (·.nm)
def wk (zs : List Zone) (tu : List Box6) (i : Nat) : List ByteArray := ((zs.take i).filter (fun z => decide (0 < (partOf z tu).length))).map (·.nm)
end
end Go.Ve

namespace Go.Ve
noncomputable section
open Go.Proofs
set_option linter.unusedSimpArgs false
set_option linter.unusedVariables false
set_option maxRecDepth 100000
def Box6.near (a b : Box6) : Prop := a.ok ∧ b.ok ∧ (a.i ≤ b.o ∧ b.i ≤ a.o) ∧ (a.l ≤ b.h ∧ b.l ≤ a.h) ∧ (-1 ≤ a.x - b.x ∧ a.x - b.x ≤ 1) ∧ (-1 ≤ a.y - b.y ∧ a.y - b.y ≤ 1)
instance (a b : Box6) : Decidable (a.near b) := Classical.propDecidable _
def nearT (a b : List Box6) : Prop := ∃ i, i < a.length ∧ ∃ k, k < b.length ∧ (a.getD i default).near (b.getD k default)
instance (a b : List Box6) : Decidable (nearT a b) := Classical.propDecidable _
instance (v : ByteArray) (l : List ByteArray) : Decidable (v ∈ l) := Classical.propDecidable _
def allIn (gr who : List ByteArray) : Prop := ∀ i, i < who.length → who.getD i default ∈ gr
instance (gr who : List ByteArray) : Decidable (allIn gr who) := Classical.propDecidable _
def seenOf (l : List Seen) (f : ByteArray) : Int := if 0 ≤ fIdx (fun s => decide (s.fl = f)) l then (l.getD (fIdx (fun s => decide (s.fl = f)) l).toNat default).nr else 0
end
end Go.Ve

namespace Go.Ve
noncomputable section
open Go.Proofs
set_option linter.unusedSimpArgs false
set_option linter.unusedVariables false
set_option maxRecDepth 100000
def heldOk (zs : List Zone) (n : Int) (tu : List Box6) : Prop := (n = 0 → tu.length = 0) ∧ (n ≠ 0 → tubeOk zs tu)
instance (zs : List Zone) (n : Int) (tu : List Box6) : Decidable (heldOk zs n tu) := Classical.propDecidable _
def grAt (wh gr : List ByteArray) (i : Nat) : Prop := gr.getD i default ∈ wh ∧ (0 < i → slt (gr.getD (i - 1) default) (gr.getD i default))
def ownOk1 (zs : List Zone) (o : Own) : Prop := nameOk o.fl ∧ (1 ≤ o.st ∧ o.st ≤ 3) ∧ (1 ≤ o.tn ∧ o.tn ≤ 1000000) ∧ (0 ≤ o.la ∧ o.la ≤ 1000000) ∧ (0 ≤ o.nr ∧ o.nr ≤ o.la) ∧ (0 ≤ o.wi ∧ o.wi ≤ o.la) ∧ (o.wi ≠ 0 → o.nr < o.wi)
def ownOk2 (zs : List Zone) (o : Own) : Prop := (o.st = 1 ↔ o.dst = ⟨#[]⟩) ∧ (o.st ≠ 1 → 0 ≤ zAt zs o.dst) ∧ (o.st ≠ 1 → o.wi = 0) ∧ (o.st = 2 → o.nr ≠ 0)
def ownOk3 (zs : List Zone) (o : Own) : Prop := heldOk zs o.nr o.tu ∧ heldOk zs o.wi o.nx
def ownOk4 (zs : List Zone) (o : Own) : Prop := (∀ i, i < o.gr.length → grAt (whoOf zs o.nx) o.gr i) ∧ (o.sent = true ↔ 0 < o.wi ∧ allIn o.gr (whoOf zs o.nx))
def ownOk (zs : List Zone) (o : Own) : Prop := ownOk1 zs o ∧ ownOk2 zs o ∧ ownOk3 zs o ∧ ownOk4 zs o
instance (zs : List Zone) (o : Own) : Decidable (ownOk zs o) := Classical.propDecidable _
def ownAt (zs : List Zone) (l : List Own) (i : Nat) : Prop := ownOk zs (l.getD i default) ∧ (0 < i → slt (l.getD (i - 1) default).fl (l.getD i default).fl)
def ownsOk (zs : List Zone) (l : List Own) : Prop := l.length ≤ 6 ∧ ∀ i, i < l.length → ownAt zs l i
instance (zs : List Zone) (l : List Own) : Decidable (ownsOk zs l) := Classical.propDecidable _
def Part.before (a p : Part) : Prop := slt a.fl p.fl ∨ (a.fl = p.fl ∧ a.nr < p.nr)
instance (a p : Part) : Decidable (a.before p) := Classical.propDecidable _
def partAt (zs : List Zone) (b : Book) (i : Nat) : Prop := nameOk (b.parts.getD i default).fl ∧ (1 ≤ (b.parts.getD i default).nr ∧ (b.parts.getD i default).nr ≤ seenOf b.seen (b.parts.getD i default).fl) ∧ tubeOk zs (b.parts.getD i default).bx ∧
  (0 < i → (b.parts.getD (i - 1) default).before (b.parts.getD i default)) ∧ ∀ k, k < i → (b.parts.getD k default).fl ≠ (b.parts.getD i default).fl → ¬ nearT (b.parts.getD k default).bx (b.parts.getD i default).bx
def partsOk (zs : List Zone) (b : Book) : Prop := b.parts.length ≤ 16 ∧ ∀ i, i < b.parts.length → partAt zs b i
instance (zs : List Zone) (b : Book) : Decidable (partsOk zs b) := Classical.propDecidable _
def seenAt (l : List Seen) (i : Nat) : Prop := nameOk (l.getD i default).fl ∧ (1 ≤ (l.getD i default).nr ∧ (l.getD i default).nr ≤ 1000000) ∧ (0 < i → slt (l.getD (i - 1) default).fl (l.getD i default).fl)
def seenOk (l : List Seen) : Prop := l.length ≤ 6 ∧ ∀ i, i < l.length → seenAt l i
def bookOk (zs : List Zone) (b : Book) : Prop := ownsOk zs b.own ∧ partsOk zs b ∧ seenOk b.seen
instance (zs : List Zone) (b : Book) : Decidable (bookOk zs b) := Classical.propDecidable _
/-- Lists that are not too long for a machine. -/
def Own.small (o : Own) : Prop := o.tu.length ≤ 1048576 ∧ o.nx.length ≤ 1048576 ∧ o.gr.length ≤ 1048576
def Book.small (b : Book) : Prop := (b.own.length ≤ 1048576 ∧ ∀ o ∈ b.own, o.small) ∧ (b.parts.length ≤ 1048576 ∧ ∀ p ∈ b.parts, p.bx.length ≤ 1048576) ∧ b.seen.length ≤ 1048576
end
end Go.Ve

namespace Go.Ve
noncomputable section
open Go.Proofs
set_option linter.unusedSimpArgs false
set_option linter.unusedVariables false
set_option maxRecDepth 100000
end
end Go.Ve

namespace Go.Ve
noncomputable section
open Go.Proofs
set_option linter.unusedSimpArgs false
set_option linter.unusedVariables false
set_option maxRecDepth 100000
instance (zs : List Zone) (o : Own) : Decidable (ownOk4 zs o) := Classical.propDecidable _
end
end Go.Ve

namespace Go.Ve
noncomputable section
open Go.Proofs
set_option linter.unusedSimpArgs false
set_option linter.unusedVariables false
set_option maxRecDepth 100000
end
end Go.Ve

namespace Go.Ve
noncomputable section
open Go.Proofs
set_option linter.unusedSimpArgs false
set_option linter.unusedVariables false
set_option maxRecDepth 100000
open Go.ChangeShapes Go.WideShapes
/-- What is left when a list is counted, and each of its parts. -/
def szS {α : Type} (f : α → Int → Int) (l : List α) (a : Int) : Int := l.foldl (fun a x => f x a) (szOf a l.length)
def szStr (s : ByteArray) (a : Int) : Int := szOf a s.toList.length
def Meas {α : Type} (f : α → Int → Int) : Prop := ∀ x a, a ≤ 1048576 → (f x a = -1 ∨ 0 ≤ f x a) ∧ (a < 0 → f x a = -1) ∧ f x a ≤ max a (-1)
def chk (x : Int) (k : Int → Int) : Int := if x < 0 then -1 else k x
def Meas1 (g : Int → Int) : Prop := ∀ a, a ≤ 1048576 → (g a = -1 ∨ 0 ≤ g a) ∧ (a < 0 → g a = -1) ∧ g a ≤ max a (-1)
def MeasP (g : Int → Int) : Prop := ∀ a, 0 ≤ a → a ≤ 1048576 → (g a = -1 ∨ 0 ≤ g a) ∧ g a ≤ a
theorem Meas1.p {g : Int → Int} (h : Meas1 g) : MeasP g := fun a h0 h1 => ⟨(h a h1).1, by have := (h a h1).2.2; omega⟩
theorem measP_id : MeasP fun z => z := fun a h0 h1 => ⟨.inr h0, Int.le_refl a⟩
theorem chk_sub {k : Int → Int} (n : Nat) (h : MeasP k) : Meas1 fun a => chk (a - n) k := fun a ha => by
  simp only [chk]
  split
  · exact ⟨.inl rfl, fun _ => rfl, by omega⟩
  · rename_i h1
    have := h (a - n) (by omega) (by omega)
    exact ⟨this.1, fun _ => by omega, by omega⟩
theorem fold_meas {α : Type} {f : α → Int → Int} (h : Meas f) : ∀ (l : List α) (a : Int), a ≤ 1048576 → (a = -1 ∨ 0 ≤ a) → (l.foldl (fun a x => f x a) a = -1 ∨ 0 ≤ l.foldl (fun a x => f x a) a) ∧ (a < 0 → l.foldl (fun a x => f x a) a = -1) ∧ l.foldl (fun a x => f x a) a ≤ max a (-1)
  | [], a, h1, h2 => ⟨h2, fun h3 => by simp only [List.foldl_nil]; omega, by simp only [List.foldl_nil]; omega⟩
  | x :: l, a, h1, h2 => by
    obtain ⟨k1, k2, k3⟩ := h x a h1
    obtain ⟨i1, i2, i3⟩ := fold_meas h l (f x a) (by omega) k1
    simp only [List.foldl_cons]
    exact ⟨i1, fun h3 => i2 (by have := k2 h3; omega), by omega⟩
theorem meas_szS {α : Type} {f : α → Int → Int} (h : Meas f) : Meas (szS f) := fun l a ha => by
  unfold szS
  have h0 : (szOf a l.length = -1 ∨ 0 ≤ szOf a l.length) ∧ (a < 0 → szOf a l.length = -1) ∧ szOf a l.length ≤ max a (-1) := by unfold szOf; split <;> omega
  obtain ⟨i1, i2, i3⟩ := fold_meas h l (szOf a l.length) (by omega) h0.1
  exact ⟨i1, fun h3 => i2 (by have := h0.2.1 h3; omega), by omega⟩
/-- A list that was counted is small, and so are its parts. -/
theorem fold_ok {α : Type} {f : α → Int → Int} {p : α → Prop} (h : Meas f) (hp : ∀ x a, a ≤ 1048576 → 0 ≤ f x a → p x) : ∀ (l : List α) (a : Int), a ≤ 1048576 → (a = -1 ∨ 0 ≤ a) → 0 ≤ l.foldl (fun a x => f x a) a → ∀ x ∈ l, p x
  | [], _, _, _, _, x, hx => by simp at hx
  | y :: l, a, h1, h2, h3, x, hx => by
    simp only [List.foldl_cons] at h3
    obtain ⟨k1, k2, k3⟩ := h y a h1
    have hy : 0 ≤ f y a := by
      rcases k1 with k1 | k1
      · have := (fold_meas h l (f y a) (by omega) (.inl k1)).2.1 (by omega); omega
      · exact k1
    rcases List.mem_cons.1 hx with rfl | hx
    · exact hp _ a h1 hy
    · exact fold_ok h hp l (f y a) (by omega) (.inr hy) h3 x hx
theorem szS_ok {α : Type} {f : α → Int → Int} {p : α → Prop} (h : Meas f) (hp : ∀ x a, a ≤ 1048576 → 0 ≤ f x a → p x) {l : List α} {a : Int} (ha : a ≤ 1048576) (h0 : 0 ≤ szS f l a) : l.length ≤ 1048576 ∧ ∀ x ∈ l, p x := by
  unfold szS at h0
  have hs : (szOf a l.length = -1 ∨ 0 ≤ szOf a l.length) ∧ szOf a l.length ≤ 1048576 := by unfold szOf; split <;> omega
  refine ⟨?_, fold_ok h hp l _ hs.2 hs.1 h0⟩
  rcases hs.1 with e | e
  · have := (fold_meas h l _ hs.2 (.inl e)).2.1 (by omega); omega
  · unfold szOf at e; split at e <;> omega
/-- One more part of a list. -/
theorem fold_take {α : Type} [Inhabited α] {f : α → Int → Int} {l : List α} {i : Nat} {a : Int} (hi : i < l.length) : (l.take (i + 1)).foldl (fun a x => f x a) a = f (l.getD i default) ((l.take i).foldl (fun a x => f x a) a) := by
  have e : l.getD i default = l[i] := by simp [hi]
  rw [e, List.take_succ_eq_append_getElem hi, List.foldl_append]; rfl
theorem fold_stop {α : Type} [Inhabited α] {f : α → Int → Int} (h : Meas f) {l : List α} {i : Nat} {a : Int} (hi : i < l.length) (ha : a ≤ 1048576) (h0 : a = -1 ∨ 0 ≤ a) (hn : f (l.getD i default) ((l.take i).foldl (fun a x => f x a) a) < 0) : l.foldl (fun a x => f x a) a = -1 := by
  rw [← fold_take (f := f) hi] at hn
  have e : l.foldl (fun a x => f x a) a = (l.drop (i + 1)).foldl (fun a x => f x a) ((l.take (i + 1)).foldl (fun a x => f x a) a) := by
    rw [← List.foldl_append, List.take_append_drop]
  rw [e]
  have k := fold_meas h (l.take (i + 1)) a ha h0
  exact (fold_meas h _ _ (by omega) k.1).2.1 hn
theorem fit_rows2 {α : Type} {f : α → List AV} {p : α → Prop} {rs : List LSh} (h : ∀ r, fitsL rs r → ∃ x : α, r = f x ∧ p x) : ∀ {rows : List (List AV)}, (∀ r ∈ rows, fitsL rs r) → ∃ l : List α, rows = l.map f ∧ ∀ x ∈ l, p x
  | [], _ => ⟨[], rfl, by simp⟩
  | r :: rows, k => by
    obtain ⟨x, rfl, hx⟩ := h r (k r (by simp))
    obtain ⟨l, rfl, hl⟩ := fit_rows2 h (rows := rows) fun r' h' => k r' (by simp [h'])
    exact ⟨x :: l, rfl, by simpa using ⟨hx, hl⟩⟩
theorem getD_mem' {α : Type} [Inhabited α] {l : List α} {i : Nat} (h : i < l.length) : l.getD i default ∈ l := by simp [h]
def Zone.fitp (s : Zone) : Prop := s.nm.toList.length ≤ 9223372036854775807
def Zone.sz (s : Zone) (z0 : Int) : Int := chk (z0 - (s.nm.toList.length : Nat)) (fun z1 => z1)
theorem meas_Zone : Meas Zone.sz := fun s => chk_sub _ (measP_id)
def Seen.fitp (s : Seen) : Prop := s.fl.toList.length ≤ 9223372036854775807
def Seen.sz (s : Seen) (z0 : Int) : Int := chk (z0 - (s.fl.toList.length : Nat)) (fun z1 => z1)
def Own.fitp (s : Own) : Prop := s.fl.toList.length ≤ 9223372036854775807 ∧ s.dst.toList.length ≤ 9223372036854775807 ∧ s.tu.length ≤ 9223372036854775807 ∧ s.nx.length ≤ 9223372036854775807 ∧ (s.gr.length ≤ 9223372036854775807 ∧ ∀ y ∈ s.gr, y.toList.length ≤ 9223372036854775807)
def Own.sz (s : Own) (z0 : Int) : Int := chk (z0 - (s.fl.toList.length : Nat)) (fun z1 => chk (z1 - (s.dst.toList.length : Nat)) (fun z2 => chk (szOf z2 s.tu.length) (fun z3 => chk (szOf z3 s.nx.length) (fun z4 => chk (szS szStr s.gr z4) (fun z5 => z5)))))
def Part.fitp (s : Part) : Prop := s.fl.toList.length ≤ 9223372036854775807 ∧ s.bx.length ≤ 9223372036854775807
def Part.small (s : Part) : Prop := s.bx.length ≤ 1048576
def Part.sz (s : Part) (z0 : Int) : Int := chk (z0 - (s.fl.toList.length : Nat)) (fun z1 => chk (szOf z1 s.bx.length) (fun z2 => z2))
def Book.fitp (s : Book) : Prop := (s.own.length ≤ 9223372036854775807 ∧ ∀ y ∈ s.own, y.fitp) ∧ (s.parts.length ≤ 9223372036854775807 ∧ ∀ y ∈ s.parts, y.fitp) ∧ (s.seen.length ≤ 9223372036854775807 ∧ ∀ y ∈ s.seen, y.fitp)
def Book.sz (s : Book) (z0 : Int) : Int := chk (szS Own.sz s.own z0) (fun z1 => chk (szS Part.sz s.parts z1) (fun z2 => chk (szS Seen.sz s.seen z2) (fun z3 => z3)))
theorem c_szZone (s : Zone) (a : Int) (ha : 0 ≤ a ∧ a ≤ 1048576) (hs : s.fitp) : Contract P 25 [.agg s.row, .int .i64 a] [] (.int .i64 (s.sz a)) [] := by
  unfold Zone.fitp at hs
  simp only [Zone.row]
  refine fn_sound (Env.nil P) hm k_laws_szHandZone (Nat.le_of_ble_eq_true rfl) rfl ?_; unfold s_laws_szHandZone; simp (config := { maxSteps := 2000000 }) only [w_skip, w_rg, w_rgd, w_seq, w_cond, w_block, w_loop, w_exit, w_ret, w_gh, w_rg0, w_rg1, w_rgT, w_rgF, w_run, w_psd, w_und, w_dr0, w_dr1, w_drT, w_drF, w_drRun, w_drPsd, w_drUnd, w_drKn, w_drKs, w_putK, w_trimK, w_thenN, w_thenE, w_thenR, w_scope, w_label, w_blkN, w_blkE, w_blkR, w_call, w_callV, w_callF, o_clos, o_b2s, b2sE, w_effK, brU_true, brU_false, brU_u, brU_not, brU_and, brU_or, brU_dec, brU_eq, brU_ne, br_true, br_false, br_not, br_and, br_or, br_dec, br_eq, br_ne, w_getE0, w_getE1, w_setE0, w_setE1, w_dropE0, w_dropE1, w_drop0, w_drop1, w_getM0, w_getM1, w_setM0, w_setM1, ev_v, ev_c, w_putS, w_putN, w_lit, w_apU0, w_apU1, w_apU2, w_trim, enumE0, enumE1, w_callWp, w_callA0, w_callA1, w_R0, w_R1, w_R2, w_T2, w_callL, w_callT, w_T1, w_T0, o_mv, o_newnil, o_pick, o_bin, o_binN, o_neg, o_not, o_eqB, o_eqS, o_conv, o_alloc, o_box, o_load1, o_loadN, o_store, o_nilck, o_faddr, o_field1, o_fieldN, o_iaddr, o_istr, o_slStr, o_slSl, o_lenS, o_lenL, o_mx, o_mn, o_ext, o_build, o_lit, o_litOwn, o_app, o_mk, o_mvfrz, u_M1, u_M0, u_E1, optI, List.length_take, Int.toNat_zero, List.drop_zero, u_E0, o_idxN, o_idx, o_mset, o_look, o_mkmap, l_int, l_bool, l_str, l_agg, l_sl, l_own, l_ptr, l_pp, i_int, i_bool, i_str, i_sl, i_own, i_ptr, i_pp, all0, all1, e_ok1, eff, effBin, effBinN, ld_ptr, ld_pp, ld_elt, ia_own, ia_arr, el_1, el_N, load1K, faddrE, r_iaddr, sg_S, sg_c, sg_n, purL, pur, List.map, List.drop, List.take, List.length, List.foldl, List.append_eq, List.nil_append, List.cons_append, List.getD_cons_zero, List.getD_cons_succ, reduceIte, Nat.reduceEqDiff, Nat.reduceAdd, Nat.reduceLeDiff, true_and, and_true, Bool.not_true, Bool.not_false, Bool.and_true, Bool.true_and, Bool.and_self, reduceCtorEq, true_implies, false_implies, implies_true, decide_eq_true_eq, Option.map_some, fpOf, fpX, SOp.xs, oX, refs, refsL, dom, disj, List.all_nil, List.all_cons, List.contains_cons, List.contains_nil, Nat.reduceBEq, Bool.or_false, Bool.false_or, List.append_nil, Bool.not_false, Bool.not_true, List.forall_mem_cons, fm0, List.set, Nat.reduceLT, ne_eq, not_false_eq_true, not_true_eq_false, ret1, ret1N, keep0, keep1, rf_int, rf_bool, rf_str, rf_sl, rf_agg, rf_tup, rfL0, rfL1, re_t, re_cN, re_L0, re_L1, ret_tup, ret_one, decide_true, AV.bool.injEq, AV.int.injEq, Nat.reduceLeDiff, decide_eq_true_eq, decide_eq_false_iff_not, Int.toNat_natCast, List.length_map, decide_false, ghost, noref, flatOk, refsInO, wkM, str_eq, int_eq, int_ne, dec_beq, bool_beq, str_lt, str_le, false_dec, true_dec, Classical.not_not, Zone.row, Zone_eta, Box6.row, box_eta6, tk_map, dp_map, toNat_pred, unZone_mk, appE, rowsOf, List.take_length, List.length_cons, List.length_nil, Nat.zero_add, srow, irow, un_s, un_i, un_box, un_Zone, un_Own, un_Part, un_Seen, un_Word, Word.row, Word_eta, Own.row, Own_eta, Part.row, Part_eta, Seen.row, Seen_eta, Book.row, Book_eta, Sector.row, Sector_eta, HCraft.row, HCraft_eta, World.row, World_eta, un_Word, un_Own, un_Part, un_Seen, un_Book, un_Sector, un_HCraft, un_World]
  unfold Zone.sz
  repeat' (first | with_reducible apply And.intro | with_reducible intro _)
  all_goals first | omega | (exact hs) | (exact hs.1) | (exact hs.2.1) | (exact hs.2.2) | (exact hs.2.2.1) | (exact hs.2.2.2) | (exact hs.2.2.2.1) | (exact hs.2.2.2.2) | (exact hs.1.1) | (exact hs.1.2) | (exact hs.2.1.1) | (exact hs.2.1.2) | (unfold chk; grind) | grind
def t_szZone : List AV → Option (Prop × AV)
  | [.agg [.str s_nm, .int .i64 s_x0, .int .i64 s_y0, .int .i64 s_x1, .int .i64 s_y1], .int .i64 b] => some ((True) ∧ ((0 ≤ b ∧ b ≤ 1048576) ∧ (Zone.fitp (Zone.mk s_nm s_x0 s_y0 s_x1 s_y1))), .int .i64 (Zone.sz (Zone.mk s_nm s_x0 s_y0 s_x1 s_y1) b))
  | _ => none
theorem h_szZone : ∀ args p v, t_szZone args = some (p, v) → p → Contract P 25 args [] v [] ∧ noref v = true ∧ No99 v := by
  intro args p v h1 h2
  unfold t_szZone at h1
  split at h1
  · rename_i s_nm s_x0 s_y0 s_x1 s_y1 b
    cases h1
    obtain ⟨_, HP⟩ := h2
    have := c_szZone (Zone.mk s_nm s_x0 s_y0 s_x1 s_y1) b HP.1 HP.2
    exact ⟨by simpa only [Zone.row] using this, rfl, trivial⟩
  · cases h1
theorem c_szZoneS (t : Nat) (l : List Zone) (a : Int) (ha : 0 ≤ a ∧ a ≤ 1048576) (hl : l.length ≤ 9223372036854775807 ∧ ∀ y ∈ l, y.fitp) : Contract P 6 [.sl t 5 (l.map Zone.row), .int .i64 a] [] (.int .i64 (szS Zone.sz l a)) [] := by
  refine fn_sound ((Env.nil P).add 25 t_szZone h_szZone) hm k_laws_szHandZoneS (Nat.le_of_ble_eq_true rfl) rfl ?_; unfold s_laws_szHandZoneS; simp (config := { maxSteps := 2000000 }) only [w_skip, w_rg, w_rgd, w_seq, w_cond, w_block, w_loop, w_exit, w_ret, w_gh, w_rg0, w_rg1, w_rgT, w_rgF, w_run, w_psd, w_und, w_dr0, w_dr1, w_drT, w_drF, w_drRun, w_drPsd, w_drUnd, w_drKn, w_drKs, w_putK, w_trimK, w_thenN, w_thenE, w_thenR, w_scope, w_label, w_blkN, w_blkE, w_blkR, w_call, w_callV, w_callF, o_clos, o_b2s, b2sE, w_effK, brU_true, brU_false, brU_u, brU_not, brU_and, brU_or, brU_dec, brU_eq, brU_ne, br_true, br_false, br_not, br_and, br_or, br_dec, br_eq, br_ne, w_getE0, w_getE1, w_setE0, w_setE1, w_dropE0, w_dropE1, w_drop0, w_drop1, w_getM0, w_getM1, w_setM0, w_setM1, ev_v, ev_c, w_putS, w_putN, w_lit, w_apU0, w_apU1, w_apU2, w_trim, enumE0, enumE1, w_callWp, w_callA0, w_callA1, w_R0, w_R1, w_R2, w_T2, w_callL, w_callT, w_T1, w_T0, o_mv, o_newnil, o_pick, o_bin, o_binN, o_neg, o_not, o_eqB, o_eqS, o_conv, o_alloc, o_box, o_load1, o_loadN, o_store, o_nilck, o_faddr, o_field1, o_fieldN, o_iaddr, o_istr, o_slStr, o_slSl, o_lenS, o_lenL, o_mx, o_mn, o_ext, o_build, o_lit, o_litOwn, o_app, o_mk, o_mvfrz, u_M1, u_M0, u_E1, optI, List.length_take, Int.toNat_zero, List.drop_zero, u_E0, o_idxN, o_idx, o_mset, o_look, o_mkmap, l_int, l_bool, l_str, l_agg, l_sl, l_own, l_ptr, l_pp, i_int, i_bool, i_str, i_sl, i_own, i_ptr, i_pp, all0, all1, e_ok1, eff, effBin, effBinN, ld_ptr, ld_pp, ld_elt, ia_own, ia_arr, el_1, el_N, load1K, faddrE, r_iaddr, sg_S, sg_c, sg_n, purL, pur, List.map, List.drop, List.take, List.length, List.foldl, List.append_eq, List.nil_append, List.cons_append, List.getD_cons_zero, List.getD_cons_succ, reduceIte, Nat.reduceEqDiff, Nat.reduceAdd, Nat.reduceLeDiff, true_and, and_true, Bool.not_true, Bool.not_false, Bool.and_true, Bool.true_and, Bool.and_self, reduceCtorEq, true_implies, false_implies, implies_true, decide_eq_true_eq, Option.map_some, fpOf, fpX, SOp.xs, oX, refs, refsL, dom, disj, List.all_nil, List.all_cons, List.contains_cons, List.contains_nil, Nat.reduceBEq, Bool.or_false, Bool.false_or, List.append_nil, Bool.not_false, Bool.not_true, List.forall_mem_cons, fm0, List.set, Nat.reduceLT, ne_eq, not_false_eq_true, not_true_eq_false, ret1, ret1N, keep0, keep1, rf_int, rf_bool, rf_str, rf_sl, rf_agg, rf_tup, rfL0, rfL1, re_t, re_cN, re_L0, re_L1, ret_tup, ret_one, decide_true, AV.bool.injEq, AV.int.injEq, Nat.reduceLeDiff, decide_eq_true_eq, decide_eq_false_iff_not, Int.toNat_natCast, List.length_map, decide_false, ghost, noref, flatOk, refsInO, wkM, str_eq, int_eq, int_ne, dec_beq, bool_beq, str_lt, str_le, false_dec, true_dec, Classical.not_not, t_szZone, Zone.row, Zone_eta, Box6.row, box_eta6, tk_map, dp_map, toNat_pred, unZone_mk, appE, rowsOf, List.take_length, List.length_cons, List.length_nil, Nat.zero_add, srow, irow, un_s, un_i, un_box, un_Zone, un_Own, un_Part, un_Seen, un_Word, Word.row, Word_eta, Own.row, Own_eta, Part.row, Part_eta, Seen.row, Seen_eta, Book.row, Book_eta, Sector.row, Sector_eta, HCraft.row, HCraft_eta, World.row, World_eta, un_Word, un_Own, un_Part, un_Seen, un_Book, un_Sector, un_HCraft, un_World, List.take_zero, List.foldl_nil]
  have hz : szOf a l.length = if a - l.length < 0 then -1 else a - l.length := rfl
  refine ⟨by omega, fun h1 => ?_, fun h1 => ?_⟩
  · unfold szS
    rw [(fold_meas meas_Zone l _ (by omega) (by omega)).2.1 (by omega)]
  have e0 : szOf a l.length = a - l.length := if_neg h1
  refine loop_st (fun i : Nat => [(1, .int .i64 ((l.take i).foldl (fun a x => x.sz a) (a - l.length))), (5, .int .i64 i)]) (fun _ => []) (fun i => i ≤ l.length ∧ 0 ≤ (l.take i).foldl (fun a x => x.sz a) (a - l.length)) (fun i => l.length - i) (0) (by simp only [u_E0, u_E1, u_M0, u_M1, w_setE0, w_setE1, w_setM0, w_setM1, reduceIte, Nat.reduceEqDiff]; exact ⟨by repeat' (first | exact trivial | refine ⟨.inr rfl, ?_⟩), by repeat' (first | exact trivial | refine ⟨rfl, ?_⟩), by first | rfl | simp [closedB, refsIn, refsInL, refsInO, dom, refsInL_nr, *], by first | rfl | simp [keepB, dom]⟩) ?_ ?_
  · simp only [List.take_zero, List.foldl_nil]; omega
  intro i hi NX hN
  have hm := (fold_meas meas_Zone (l.take i) (a - l.length) (by omega) (by omega)).2.2
  have hg : i < l.length → (l.getD i default).fitp := fun h => hl.2 _ (getD_mem' h)
  have hn : i < l.length → (l.take (i + 1)).foldl (fun a x => x.sz a) (a - l.length) = (l.getD i default).sz ((l.take i).foldl (fun a x => x.sz a) (a - l.length)) := fun h => fold_take (f := Zone.sz) h
  have hs : i < l.length → (l.getD i default).sz ((l.take i).foldl (fun a x => x.sz a) (a - l.length)) < 0 → szS Zone.sz l a = -1 := fun h h2 => by unfold szS; rw [e0]; exact fold_stop meas_Zone h (by omega) (by omega) h2
  unfold l_laws_szHandZoneS_0; simp (config := { maxSteps := 2000000 }) only [w_skip, w_rg, w_rgd, w_seq, w_cond, w_block, w_loop, w_exit, w_ret, w_gh, w_rg0, w_rg1, w_rgT, w_rgF, w_run, w_psd, w_und, w_dr0, w_dr1, w_drT, w_drF, w_drRun, w_drPsd, w_drUnd, w_drKn, w_drKs, w_putK, w_trimK, w_thenN, w_thenE, w_thenR, w_scope, w_label, w_blkN, w_blkE, w_blkR, w_call, w_callV, w_callF, o_clos, o_b2s, b2sE, w_effK, brU_true, brU_false, brU_u, brU_not, brU_and, brU_or, brU_dec, brU_eq, brU_ne, br_true, br_false, br_not, br_and, br_or, br_dec, br_eq, br_ne, w_getE0, w_getE1, w_setE0, w_setE1, w_dropE0, w_dropE1, w_drop0, w_drop1, w_getM0, w_getM1, w_setM0, w_setM1, ev_v, ev_c, w_putS, w_putN, w_lit, w_apU0, w_apU1, w_apU2, w_trim, enumE0, enumE1, w_callWp, w_callA0, w_callA1, w_R0, w_R1, w_R2, w_T2, w_callL, w_callT, w_T1, w_T0, o_mv, o_newnil, o_pick, o_bin, o_binN, o_neg, o_not, o_eqB, o_eqS, o_conv, o_alloc, o_box, o_load1, o_loadN, o_store, o_nilck, o_faddr, o_field1, o_fieldN, o_iaddr, o_istr, o_slStr, o_slSl, o_lenS, o_lenL, o_mx, o_mn, o_ext, o_build, o_lit, o_litOwn, o_app, o_mk, o_mvfrz, u_M1, u_M0, u_E1, optI, List.length_take, Int.toNat_zero, List.drop_zero, u_E0, o_idxN, o_idx, o_mset, o_look, o_mkmap, l_int, l_bool, l_str, l_agg, l_sl, l_own, l_ptr, l_pp, i_int, i_bool, i_str, i_sl, i_own, i_ptr, i_pp, all0, all1, e_ok1, eff, effBin, effBinN, ld_ptr, ld_pp, ld_elt, ia_own, ia_arr, el_1, el_N, load1K, faddrE, r_iaddr, sg_S, sg_c, sg_n, purL, pur, List.map, List.drop, List.take, List.length, List.foldl, List.append_eq, List.nil_append, List.cons_append, List.getD_cons_zero, List.getD_cons_succ, reduceIte, Nat.reduceEqDiff, Nat.reduceAdd, Nat.reduceLeDiff, true_and, and_true, Bool.not_true, Bool.not_false, Bool.and_true, Bool.true_and, Bool.and_self, reduceCtorEq, true_implies, false_implies, implies_true, decide_eq_true_eq, Option.map_some, fpOf, fpX, SOp.xs, oX, refs, refsL, dom, disj, List.all_nil, List.all_cons, List.contains_cons, List.contains_nil, Nat.reduceBEq, Bool.or_false, Bool.false_or, List.append_nil, Bool.not_false, Bool.not_true, List.forall_mem_cons, fm0, List.set, Nat.reduceLT, ne_eq, not_false_eq_true, not_true_eq_false, ret1, ret1N, keep0, keep1, rf_int, rf_bool, rf_str, rf_sl, rf_agg, rf_tup, rfL0, rfL1, re_t, re_cN, re_L0, re_L1, ret_tup, ret_one, decide_true, AV.bool.injEq, AV.int.injEq, Nat.reduceLeDiff, decide_eq_true_eq, decide_eq_false_iff_not, Int.toNat_natCast, List.length_map, decide_false, ghost, noref, flatOk, refsInO, wkM, str_eq, int_eq, int_ne, dec_beq, bool_beq, str_lt, str_le, false_dec, true_dec, Classical.not_not, t_szZone, Zone.row, Zone_eta, Box6.row, box_eta6, tk_map, dp_map, toNat_pred, unZone_mk, appE, rowsOf, List.take_length, List.length_cons, List.length_nil, Nat.zero_add, srow, irow, un_s, un_i, un_box, un_Zone, un_Own, un_Part, un_Seen, un_Word, Word.row, Word_eta, Own.row, Own_eta, Part.row, Part_eta, Seen.row, Seen_eta, Book.row, Book_eta, Sector.row, Sector_eta, HCraft.row, HCraft_eta, World.row, World_eta, un_Word, un_Own, un_Part, un_Seen, un_Book, un_Sector, un_HCraft, un_World, List.take_zero, List.foldl_nil]
  refine ⟨fun h2 => ⟨by omega, by omega, ⟨⟨by omega, by omega⟩, hg (by omega)⟩, fun h3 => by rw [hs (by omega) h3], fun h3 => ⟨by omega, ?_⟩⟩, fun h2 => ?_⟩
  · have e := hn (by omega)
    refine hN (i + 1) _ (by simp only [e, List.length_append, List.length_cons, List.length_nil, Nat.zero_add, List.map_append, List.map_cons, List.map_nil, u_E0, u_E1, u_M0, u_M1, w_setE0, w_setE1, w_setM0, w_setM1, reduceIte, Nat.reduceEqDiff]; exact ⟨by repeat' (first | exact trivial | refine ⟨.inr rfl, ?_⟩), by repeat' (first | exact trivial | refine ⟨rfl, ?_⟩), by first | rfl | simp [closedB, refsIn, refsInL, refsInO, dom, refsInL_nr, *], by first | rfl | simp [keepB, dom]⟩) ?_ ?_
    · exact ⟨by omega, by rw [e]; omega⟩
    · omega
  · have e : i = l.length := by omega
    subst e
    simp only [List.take_length]; unfold szS; rw [e0]
def t_szZoneS : List AV → Option (Prop × AV)
  | [.sl lt 5 lx, .int .i64 b] => some ((((lx.map unZone).map Zone.row = lx)) ∧ ((0 ≤ b ∧ b ≤ 1048576) ∧ ((lx.map unZone).length ≤ 9223372036854775807 ∧ ∀ y ∈ (lx.map unZone), Zone.fitp y)), .int .i64 (szS Zone.sz (lx.map unZone) b))
  | _ => none
theorem h_szZoneS : ∀ args p v, t_szZoneS args = some (p, v) → p → Contract P 6 args [] v [] ∧ noref v = true ∧ No99 v := by
  intro args p v h1 h2
  unfold t_szZoneS at h1
  split at h1
  · rename_i lt lx b
    cases h1
    obtain ⟨e0, HP⟩ := h2
    have := c_szZoneS lt (lx.map unZone) b HP.1 HP.2
    exact ⟨by simpa only [e0] using this, rfl, trivial⟩
  · cases h1
end
end Go.Ve

namespace Go.Ve
noncomputable section
open Go.Proofs
set_option linter.unusedSimpArgs false
set_option linter.unusedVariables false
set_option maxRecDepth 100000
theorem c_toZone (s : Zone) : Contract P 32 [.agg (s.row)] [] (.agg (s.row)) [] := by
  simp only [Zone.row]
  refine fn_sound (Env.nil P) hm k_laws_toHandZone (Nat.le_of_ble_eq_true rfl) rfl ?_; unfold s_laws_toHandZone; simp (config := { maxSteps := 2000000 }) only [w_skip, w_rg, w_rgd, w_seq, w_cond, w_block, w_loop, w_exit, w_ret, w_gh, w_rg0, w_rg1, w_rgT, w_rgF, w_run, w_psd, w_und, w_dr0, w_dr1, w_drT, w_drF, w_drRun, w_drPsd, w_drUnd, w_drKn, w_drKs, w_putK, w_trimK, w_thenN, w_thenE, w_thenR, w_scope, w_label, w_blkN, w_blkE, w_blkR, w_call, w_callV, w_callF, o_clos, o_b2s, b2sE, w_effK, brU_true, brU_false, brU_u, brU_not, brU_and, brU_or, brU_dec, brU_eq, brU_ne, br_true, br_false, br_not, br_and, br_or, br_dec, br_eq, br_ne, w_getE0, w_getE1, w_setE0, w_setE1, w_dropE0, w_dropE1, w_drop0, w_drop1, w_getM0, w_getM1, w_setM0, w_setM1, ev_v, ev_c, w_putS, w_putN, w_lit, w_apU0, w_apU1, w_apU2, w_trim, enumE0, enumE1, w_callWp, w_callA0, w_callA1, w_R0, w_R1, w_R2, w_T2, w_callL, w_callT, w_T1, w_T0, o_mv, o_newnil, o_pick, o_bin, o_binN, o_neg, o_not, o_eqB, o_eqS, o_conv, o_alloc, o_box, o_load1, o_loadN, o_store, o_nilck, o_faddr, o_field1, o_fieldN, o_iaddr, o_istr, o_slStr, o_slSl, o_lenS, o_lenL, o_mx, o_mn, o_ext, o_build, o_lit, o_litOwn, o_app, o_mk, o_mvfrz, u_M1, u_M0, u_E1, optI, List.length_take, Int.toNat_zero, List.drop_zero, u_E0, o_idxN, o_idx, o_mset, o_look, o_mkmap, l_int, l_bool, l_str, l_agg, l_sl, l_own, l_ptr, l_pp, i_int, i_bool, i_str, i_sl, i_own, i_ptr, i_pp, all0, all1, e_ok1, eff, effBin, effBinN, ld_ptr, ld_pp, ld_elt, ia_own, ia_arr, el_1, el_N, load1K, faddrE, r_iaddr, sg_S, sg_c, sg_n, purL, pur, List.map, List.drop, List.take, List.length, List.foldl, List.append_eq, List.nil_append, List.cons_append, List.getD_cons_zero, List.getD_cons_succ, reduceIte, Nat.reduceEqDiff, Nat.reduceAdd, Nat.reduceLeDiff, true_and, and_true, Bool.not_true, Bool.not_false, Bool.and_true, Bool.true_and, Bool.and_self, reduceCtorEq, true_implies, false_implies, implies_true, decide_eq_true_eq, Option.map_some, fpOf, fpX, SOp.xs, oX, refs, refsL, dom, disj, List.all_nil, List.all_cons, List.contains_cons, List.contains_nil, Nat.reduceBEq, Bool.or_false, Bool.false_or, List.append_nil, Bool.not_false, Bool.not_true, List.forall_mem_cons, fm0, List.set, Nat.reduceLT, ne_eq, not_false_eq_true, not_true_eq_false, ret1, ret1N, keep0, keep1, rf_int, rf_bool, rf_str, rf_sl, rf_agg, rf_tup, rfL0, rfL1, re_t, re_cN, re_L0, re_L1, ret_tup, ret_one, decide_true, AV.bool.injEq, AV.int.injEq, Nat.reduceLeDiff, decide_eq_true_eq, decide_eq_false_iff_not, Int.toNat_natCast, List.length_map, decide_false, ghost, noref, flatOk, refsInO, wkM, str_eq, int_eq, int_ne, dec_beq, bool_beq, br_beq, brU_beq, str_lt, str_le, false_dec, true_dec, Classical.not_not, Zone.row, Zone_eta, Box6.row, box_eta6, tk_map, dp_map, toNat_pred, unZone_mk, appE, rowsOf, List.take_length, List.length_cons, List.length_nil, Nat.zero_add, srow, irow, un_s, un_i, un_box, un_Zone, un_Own, un_Part, un_Seen, un_Word, Word.row, Word_eta, Own.row, Own_eta, Part.row, Part_eta, Seen.row, Seen_eta, Book.row, Book_eta, Sector.row, Sector_eta, HCraft.row, HCraft_eta, World.row, World_eta, un_Word, un_Own, un_Part, un_Seen, un_Book, un_Sector, un_HCraft, un_World]
  all_goals trivial
def t_toZone : List AV → Option (Prop × AV)
  | [.agg [.str s_nm, .int .i64 s_x0, .int .i64 s_y0, .int .i64 s_x1, .int .i64 s_y1]] => some ((True) ∧ (True), .agg (Zone.row (Zone.mk s_nm s_x0 s_y0 s_x1 s_y1)))
  | _ => none
theorem h_toZone : ∀ args p v, t_toZone args = some (p, v) → p → Contract P 32 args [] v [] ∧ noref v = true ∧ No99 v := by
  intro args p v h1 h2
  unfold t_toZone at h1
  split at h1
  · rename_i s_nm s_x0 s_y0 s_x1 s_y1
    cases h1
    obtain ⟨_, HP⟩ := h2
    have := c_toZone (Zone.mk s_nm s_x0 s_y0 s_x1 s_y1)
    exact ⟨by simpa only [Zone.row] using this, rfl, by simp [Zone.row, No99, No99L, no99_box, no99_i, no99_str, no99_Zone, no99_Word, no99_Own, no99_Part, no99_Seen, no99_Book, no99_Sector, no99_HCraft, no99_World, -List.map_map]⟩
  · cases h1
theorem set_Zone {lst : List Zone} {idx : Nat} {vnm : ByteArray} {vx0 : Int} {vy0 : Int} {vx1 : Int} {vy1 : Int} : (lst.map Zone.row).set idx (setSeg ((lst.map Zone.row).getD idx []) 0 [.str vnm, .int .i64 vx0, .int .i64 vy0, .int .i64 vx1, .int .i64 vy1]) = (lst.set idx (Zone.mk vnm vx0 vy0 vx1 vy1)).map Zone.row :=
  set_rows (α := Zone) (f := Zone.row) (fun s => (Zone.mk vnm vx0 vy0 vx1 vy1)) fun x => by simp [Zone.row, setSeg]
def to_Zone (a : List Zone) (i : Nat) : List Zone := a.take i ++ List.replicate (a.length - i) ⟨⟨#[]⟩, 0, 0, 0, 0⟩
theorem to_Zone_st {a : List Zone} {i : Nat} (h : i < a.length) : (to_Zone a i).set i (a.getD i default) = to_Zone a (i + 1) := by
  refine List.ext_getElem (by simp [to_Zone]; omega) fun j h1 h2 => ?_
  by_cases e : j = i
  · subst e
    simp [to_Zone, List.getElem_append, h]
    intro h9; omega
  · simp only [List.getElem_set_ne (Ne.symm e)]
    simp only [to_Zone, List.getElem_append, List.length_take, List.getElem_take, List.getElem_replicate]
    split <;> split <;> first | rfl | omega
theorem c_toZoneS (t : Nat) (a : List Zone) (ha : a.length ≤ 1048576) : Contract P 9 [.sl t 5 (a.map Zone.row)] [] (.sl 0 5 (a.map Zone.row)) [] := by
  refine fn_sound ((Env.nil P).add 32 t_toZone h_toZone) hm k_laws_toHandZoneS (Nat.le_of_ble_eq_true rfl) rfl ?_; unfold s_laws_toHandZoneS; simp (config := { maxSteps := 2000000 }) only [w_skip, w_rg, w_rgd, w_seq, w_cond, w_block, w_loop, w_exit, w_ret, w_gh, w_rg0, w_rg1, w_rgT, w_rgF, w_run, w_psd, w_und, w_dr0, w_dr1, w_drT, w_drF, w_drRun, w_drPsd, w_drUnd, w_drKn, w_drKs, w_putK, w_trimK, w_thenN, w_thenE, w_thenR, w_scope, w_label, w_blkN, w_blkE, w_blkR, w_call, w_callV, w_callF, o_clos, o_b2s, b2sE, w_effK, brU_true, brU_false, brU_u, brU_not, brU_and, brU_or, brU_dec, brU_eq, brU_ne, br_true, br_false, br_not, br_and, br_or, br_dec, br_eq, br_ne, w_getE0, w_getE1, w_setE0, w_setE1, w_dropE0, w_dropE1, w_drop0, w_drop1, w_getM0, w_getM1, w_setM0, w_setM1, ev_v, ev_c, w_putS, w_putN, w_lit, w_apU0, w_apU1, w_apU2, w_trim, enumE0, enumE1, w_callWp, w_callA0, w_callA1, w_R0, w_R1, w_R2, w_T2, w_callL, w_callT, w_T1, w_T0, o_mv, o_newnil, o_pick, o_bin, o_binN, o_neg, o_not, o_eqB, o_eqS, o_conv, o_alloc, o_box, o_load1, o_loadN, o_store, o_nilck, o_faddr, o_field1, o_fieldN, o_iaddr, o_istr, o_slStr, o_slSl, o_lenS, o_lenL, o_mx, o_mn, o_ext, o_build, o_lit, o_litOwn, o_app, o_mk, o_mvfrz, u_M1, u_M0, u_E1, optI, List.length_take, Int.toNat_zero, List.drop_zero, u_E0, o_idxN, o_idx, o_mset, o_look, o_mkmap, l_int, l_bool, l_str, l_agg, l_sl, l_own, l_ptr, l_pp, i_int, i_bool, i_str, i_sl, i_own, i_ptr, i_pp, all0, all1, e_ok1, eff, effBin, effBinN, ld_ptr, ld_pp, ld_elt, ia_own, ia_arr, el_1, el_N, load1K, faddrE, r_iaddr, sg_S, sg_c, sg_n, purL, pur, List.map, List.drop, List.take, List.length, List.foldl, List.append_eq, List.nil_append, List.cons_append, List.getD_cons_zero, List.getD_cons_succ, reduceIte, Nat.reduceEqDiff, Nat.reduceAdd, Nat.reduceLeDiff, true_and, and_true, Bool.not_true, Bool.not_false, Bool.and_true, Bool.true_and, Bool.and_self, reduceCtorEq, true_implies, false_implies, implies_true, decide_eq_true_eq, Option.map_some, fpOf, fpX, SOp.xs, oX, refs, refsL, dom, disj, List.all_nil, List.all_cons, List.contains_cons, List.contains_nil, Nat.reduceBEq, Bool.or_false, Bool.false_or, List.append_nil, Bool.not_false, Bool.not_true, List.forall_mem_cons, fm0, List.set, Nat.reduceLT, ne_eq, not_false_eq_true, not_true_eq_false, ret1, ret1N, keep0, keep1, rf_int, rf_bool, rf_str, rf_sl, rf_agg, rf_tup, rfL0, rfL1, re_t, re_cN, re_L0, re_L1, ret_tup, ret_one, decide_true, AV.bool.injEq, AV.int.injEq, Nat.reduceLeDiff, decide_eq_true_eq, decide_eq_false_iff_not, Int.toNat_natCast, List.length_map, decide_false, ghost, noref, flatOk, refsInO, wkM, str_eq, int_eq, int_ne, dec_beq, bool_beq, br_beq, brU_beq, str_lt, str_le, false_dec, true_dec, Classical.not_not, t_toZone, Zone.row, Zone_eta, Box6.row, box_eta6, tk_map, dp_map, toNat_pred, unZone_mk, appE, rowsOf, List.take_length, List.length_cons, List.length_nil, Nat.zero_add, srow, irow, un_s, un_i, un_box, un_Zone, un_Own, un_Part, un_Seen, un_Word, Word.row, Word_eta, Own.row, Own_eta, Part.row, Part_eta, Seen.row, Seen_eta, Book.row, Book_eta, Sector.row, Sector_eta, HCraft.row, HCraft_eta, World.row, World_eta, un_Word, un_Own, un_Part, un_Seen, un_Book, un_Sector, un_HCraft, un_World, set_Zone, Nat.sub_zero]
  have m0 : List.replicate a.length [.str ⟨#[]⟩, .int .i64 0, .int .i64 0, .int .i64 0, .int .i64 0] = (to_Zone a 0).map Zone.row := by simp [to_Zone, Zone.row]
  refine ⟨by omega, ?_⟩
  refine loop_st (fun i : Nat => [(4, .int .i64 i)]) (fun i => [(107, .arr 75 0 5 ((to_Zone a i).map Zone.row))]) (fun i => i ≤ a.length) (fun i => a.length - i) 0 (by simp only [u_E0, u_E1, u_M0, u_M1, w_setE0, w_setE1, w_setM0, w_setM1, reduceIte, Nat.reduceEqDiff]; exact ⟨by repeat' (first | exact trivial | refine ⟨.inr rfl, ?_⟩), ⟨congrArg (fun g => some (AObj.arr 75 0 5 g)) m0, trivial⟩, rfl, rfl⟩) (Nat.zero_le _) ?_
  intro i hi NX hN
  skip
  unfold l_laws_toHandZoneS_0; simp (config := { maxSteps := 2000000 }) only [w_skip, w_rg, w_rgd, w_seq, w_cond, w_block, w_loop, w_exit, w_ret, w_gh, w_rg0, w_rg1, w_rgT, w_rgF, w_run, w_psd, w_und, w_dr0, w_dr1, w_drT, w_drF, w_drRun, w_drPsd, w_drUnd, w_drKn, w_drKs, w_putK, w_trimK, w_thenN, w_thenE, w_thenR, w_scope, w_label, w_blkN, w_blkE, w_blkR, w_call, w_callV, w_callF, o_clos, o_b2s, b2sE, w_effK, brU_true, brU_false, brU_u, brU_not, brU_and, brU_or, brU_dec, brU_eq, brU_ne, br_true, br_false, br_not, br_and, br_or, br_dec, br_eq, br_ne, w_getE0, w_getE1, w_setE0, w_setE1, w_dropE0, w_dropE1, w_drop0, w_drop1, w_getM0, w_getM1, w_setM0, w_setM1, ev_v, ev_c, w_putS, w_putN, w_lit, w_apU0, w_apU1, w_apU2, w_trim, enumE0, enumE1, w_callWp, w_callA0, w_callA1, w_R0, w_R1, w_R2, w_T2, w_callL, w_callT, w_T1, w_T0, o_mv, o_newnil, o_pick, o_bin, o_binN, o_neg, o_not, o_eqB, o_eqS, o_conv, o_alloc, o_box, o_load1, o_loadN, o_store, o_nilck, o_faddr, o_field1, o_fieldN, o_iaddr, o_istr, o_slStr, o_slSl, o_lenS, o_lenL, o_mx, o_mn, o_ext, o_build, o_lit, o_litOwn, o_app, o_mk, o_mvfrz, u_M1, u_M0, u_E1, optI, List.length_take, Int.toNat_zero, List.drop_zero, u_E0, o_idxN, o_idx, o_mset, o_look, o_mkmap, l_int, l_bool, l_str, l_agg, l_sl, l_own, l_ptr, l_pp, i_int, i_bool, i_str, i_sl, i_own, i_ptr, i_pp, all0, all1, e_ok1, eff, effBin, effBinN, ld_ptr, ld_pp, ld_elt, ia_own, ia_arr, el_1, el_N, load1K, faddrE, r_iaddr, sg_S, sg_c, sg_n, purL, pur, List.map, List.drop, List.take, List.length, List.foldl, List.append_eq, List.nil_append, List.cons_append, List.getD_cons_zero, List.getD_cons_succ, reduceIte, Nat.reduceEqDiff, Nat.reduceAdd, Nat.reduceLeDiff, true_and, and_true, Bool.not_true, Bool.not_false, Bool.and_true, Bool.true_and, Bool.and_self, reduceCtorEq, true_implies, false_implies, implies_true, decide_eq_true_eq, Option.map_some, fpOf, fpX, SOp.xs, oX, refs, refsL, dom, disj, List.all_nil, List.all_cons, List.contains_cons, List.contains_nil, Nat.reduceBEq, Bool.or_false, Bool.false_or, List.append_nil, Bool.not_false, Bool.not_true, List.forall_mem_cons, fm0, List.set, Nat.reduceLT, ne_eq, not_false_eq_true, not_true_eq_false, ret1, ret1N, keep0, keep1, rf_int, rf_bool, rf_str, rf_sl, rf_agg, rf_tup, rfL0, rfL1, re_t, re_cN, re_L0, re_L1, ret_tup, ret_one, decide_true, AV.bool.injEq, AV.int.injEq, Nat.reduceLeDiff, decide_eq_true_eq, decide_eq_false_iff_not, Int.toNat_natCast, List.length_map, decide_false, ghost, noref, flatOk, refsInO, wkM, str_eq, int_eq, int_ne, dec_beq, bool_beq, br_beq, brU_beq, str_lt, str_le, false_dec, true_dec, Classical.not_not, t_toZone, Zone.row, Zone_eta, Box6.row, box_eta6, tk_map, dp_map, toNat_pred, unZone_mk, appE, rowsOf, List.take_length, List.length_cons, List.length_nil, Nat.zero_add, srow, irow, un_s, un_i, un_box, un_Zone, un_Own, un_Part, un_Seen, un_Word, Word.row, Word_eta, Own.row, Own_eta, Part.row, Part_eta, Seen.row, Seen_eta, Book.row, Book_eta, Sector.row, Sector_eta, HCraft.row, HCraft_eta, World.row, World_eta, un_Word, un_Own, un_Part, un_Seen, un_Book, un_Sector, un_HCraft, un_World, set_Zone, Nat.sub_zero]
  refine ⟨fun h => ?_, fun h => ?_⟩
  · repeat' (first | with_reducible apply And.intro | with_reducible intro _)
    all_goals first
      | omega
      | rfl
      | exact hs2 (by omega)
      | (have e := to_Zone_st (a := a) (i := i) (by omega)
         try simp only [Zone.row] at *
         refine hN (i + 1) _ ⟨by repeat' (first | exact trivial | refine ⟨.inr rfl, ?_⟩), ⟨congrArg (fun g => some (AObj.arr 75 0 5 (List.map Zone.row g))) e, trivial⟩, rfl, rfl⟩ ?_ ?_ <;> omega)
  · have e : i = a.length := by omega
    subst e
    simp only [to_Zone, List.take_length, Nat.sub_self, List.replicate_zero, List.append_nil]
    try rw [List.take_of_length_le (by simp)]
def t_toZoneS : List AV → Option (Prop × AV)
  | [.sl st 5 sx] => some ((((sx.map unZone).map Zone.row = sx)) ∧ ((sx.map unZone).length ≤ 1048576), .sl 0 5 ((sx.map unZone).map Zone.row))
  | _ => none
theorem h_toZoneS : ∀ args p v, t_toZoneS args = some (p, v) → p → Contract P 9 args [] v [] ∧ noref v = true ∧ No99 v := by
  intro args p v h1 h2
  unfold t_toZoneS at h1
  split at h1
  · rename_i st sx
    cases h1
    obtain ⟨e0, HP⟩ := h2
    have := c_toZoneS st (sx.map unZone) HP
    exact ⟨by simpa only [e0] using this, rfl, by simp [No99, No99L, no99_box, no99_i, no99_str, no99_Zone, no99_Word, no99_Own, no99_Part, no99_Seen, no99_Book, no99_Sector, no99_HCraft, no99_World, -List.map_map]⟩
  · cases h1
theorem c_eqZone (c d : Zone)  : Contract P 38 [.agg (c.row), .agg (d.row)] [] (.bool (decide (c = d))) [] := by
  obtain ⟨c_nm, c_x0, c_y0, c_x1, c_y1⟩ := c
  obtain ⟨d_nm, d_x0, d_y0, d_x1, d_y1⟩ := d
  simp only [Zone.row]
  refine fn_sound (Env.nil P) hm k_laws_eqHandZone (Nat.le_of_ble_eq_true rfl) rfl ?_; unfold s_laws_eqHandZone; simp (config := { maxSteps := 2000000 }) only [w_skip, w_rg, w_rgd, w_seq, w_cond, w_block, w_loop, w_exit, w_ret, w_gh, w_rg0, w_rg1, w_rgT, w_rgF, w_run, w_psd, w_und, w_dr0, w_dr1, w_drT, w_drF, w_drRun, w_drPsd, w_drUnd, w_drKn, w_drKs, w_putK, w_trimK, w_thenN, w_thenE, w_thenR, w_scope, w_label, w_blkN, w_blkE, w_blkR, w_call, w_callV, w_callF, o_clos, o_b2s, b2sE, w_effK, brU_true, brU_false, brU_u, brU_not, brU_and, brU_or, brU_dec, brU_eq, brU_ne, br_true, br_false, br_not, br_and, br_or, br_dec, br_eq, br_ne, w_getE0, w_getE1, w_setE0, w_setE1, w_dropE0, w_dropE1, w_drop0, w_drop1, w_getM0, w_getM1, w_setM0, w_setM1, ev_v, ev_c, w_putS, w_putN, w_lit, w_apU0, w_apU1, w_apU2, w_trim, enumE0, enumE1, w_callWp, w_callA0, w_callA1, w_R0, w_R1, w_R2, w_T2, w_callL, w_callT, w_T1, w_T0, o_mv, o_newnil, o_pick, o_bin, o_binN, o_neg, o_not, o_eqB, o_eqS, o_conv, o_alloc, o_box, o_load1, o_loadN, o_store, o_nilck, o_faddr, o_field1, o_fieldN, o_iaddr, o_istr, o_slStr, o_slSl, o_lenS, o_lenL, o_mx, o_mn, o_ext, o_build, o_lit, o_litOwn, o_app, o_mk, o_mvfrz, u_M1, u_M0, u_E1, optI, List.length_take, Int.toNat_zero, List.drop_zero, u_E0, o_idxN, o_idx, o_mset, o_look, o_mkmap, l_int, l_bool, l_str, l_agg, l_sl, l_own, l_ptr, l_pp, i_int, i_bool, i_str, i_sl, i_own, i_ptr, i_pp, all0, all1, e_ok1, eff, effBin, effBinN, ld_ptr, ld_pp, ld_elt, ia_own, ia_arr, el_1, el_N, load1K, faddrE, r_iaddr, sg_S, sg_c, sg_n, purL, pur, List.map, List.drop, List.take, List.length, List.foldl, List.append_eq, List.nil_append, List.cons_append, List.getD_cons_zero, List.getD_cons_succ, reduceIte, Nat.reduceEqDiff, Nat.reduceAdd, Nat.reduceLeDiff, true_and, and_true, Bool.not_true, Bool.not_false, Bool.and_true, Bool.true_and, Bool.and_self, reduceCtorEq, true_implies, false_implies, implies_true, decide_eq_true_eq, Option.map_some, fpOf, fpX, SOp.xs, oX, refs, refsL, dom, disj, List.all_nil, List.all_cons, List.contains_cons, List.contains_nil, Nat.reduceBEq, Bool.or_false, Bool.false_or, List.append_nil, Bool.not_false, Bool.not_true, List.forall_mem_cons, fm0, List.set, Nat.reduceLT, ne_eq, not_false_eq_true, not_true_eq_false, ret1, ret1N, keep0, keep1, rf_int, rf_bool, rf_str, rf_sl, rf_agg, rf_tup, rfL0, rfL1, re_t, re_cN, re_L0, re_L1, ret_tup, ret_one, decide_true, AV.bool.injEq, AV.int.injEq, Nat.reduceLeDiff, decide_eq_true_eq, decide_eq_false_iff_not, Int.toNat_natCast, List.length_map, decide_false, ghost, noref, flatOk, refsInO, wkM, str_eq, int_eq, int_ne, dec_beq, bool_beq, br_beq, brU_beq, str_lt, str_le, false_dec, true_dec, Classical.not_not, Zone.row, Zone_eta, Box6.row, box_eta6, tk_map, dp_map, toNat_pred, unZone_mk, appE, rowsOf, List.take_length, List.length_cons, List.length_nil, Nat.zero_add, srow, irow, un_s, un_i, un_box, un_Zone, un_Own, un_Part, un_Seen, un_Word, Word.row, Word_eta, Own.row, Own_eta, Part.row, Part_eta, Seen.row, Seen_eta, Book.row, Book_eta, Sector.row, Sector_eta, HCraft.row, HCraft_eta, World.row, World_eta, un_Word, un_Own, un_Part, un_Seen, un_Book, un_Sector, un_HCraft, un_World]
  simp only [Zone.mk.injEq]
  repeat' (first | with_reducible apply And.intro | with_reducible intro _)
  all_goals first | omega | (simp_all; done) | grind
def t_eqZone : List AV → Option (Prop × AV)
  | [.agg [.str c_nm, .int .i64 c_x0, .int .i64 c_y0, .int .i64 c_x1, .int .i64 c_y1], .agg [.str d_nm, .int .i64 d_x0, .int .i64 d_y0, .int .i64 d_x1, .int .i64 d_y1]] => some ((True) ∧ (True), .bool (decide ((Zone.mk c_nm c_x0 c_y0 c_x1 c_y1) = (Zone.mk d_nm d_x0 d_y0 d_x1 d_y1))))
  | _ => none
theorem h_eqZone : ∀ args p v, t_eqZone args = some (p, v) → p → Contract P 38 args [] v [] ∧ noref v = true ∧ No99 v := by
  intro args p v h1 h2
  unfold t_eqZone at h1
  split at h1
  · rename_i c_nm c_x0 c_y0 c_x1 c_y1 d_nm d_x0 d_y0 d_x1 d_y1
    cases h1
    obtain ⟨_, HP⟩ := h2
    have := c_eqZone (Zone.mk c_nm c_x0 c_y0 c_x1 c_y1) (Zone.mk d_nm d_x0 d_y0 d_x1 d_y1)
    exact ⟨by simpa only [Zone.row, Zone.row] using this, rfl, trivial⟩
  · cases h1
theorem c_eqZoneS (t t' : Nat) (p q : List Zone) (hp : p.length ≤ 4611686018427387904) : Contract P 12 [.sl t 5 (p.map Zone.row), .sl t' 5 (q.map Zone.row)] [] (.bool (decide (p = q))) [] := by
  refine fn_sound ((Env.nil P).add 38 t_eqZone h_eqZone) hm k_laws_eqHandZoneS (Nat.le_of_ble_eq_true rfl) rfl ?_; unfold s_laws_eqHandZoneS; simp (config := { maxSteps := 2000000 }) only [w_skip, w_rg, w_rgd, w_seq, w_cond, w_block, w_loop, w_exit, w_ret, w_gh, w_rg0, w_rg1, w_rgT, w_rgF, w_run, w_psd, w_und, w_dr0, w_dr1, w_drT, w_drF, w_drRun, w_drPsd, w_drUnd, w_drKn, w_drKs, w_putK, w_trimK, w_thenN, w_thenE, w_thenR, w_scope, w_label, w_blkN, w_blkE, w_blkR, w_call, w_callV, w_callF, o_clos, o_b2s, b2sE, w_effK, brU_true, brU_false, brU_u, brU_not, brU_and, brU_or, brU_dec, brU_eq, brU_ne, br_true, br_false, br_not, br_and, br_or, br_dec, br_eq, br_ne, w_getE0, w_getE1, w_setE0, w_setE1, w_dropE0, w_dropE1, w_drop0, w_drop1, w_getM0, w_getM1, w_setM0, w_setM1, ev_v, ev_c, w_putS, w_putN, w_lit, w_apU0, w_apU1, w_apU2, w_trim, enumE0, enumE1, w_callWp, w_callA0, w_callA1, w_R0, w_R1, w_R2, w_T2, w_callL, w_callT, w_T1, w_T0, o_mv, o_newnil, o_pick, o_bin, o_binN, o_neg, o_not, o_eqB, o_eqS, o_conv, o_alloc, o_box, o_load1, o_loadN, o_store, o_nilck, o_faddr, o_field1, o_fieldN, o_iaddr, o_istr, o_slStr, o_slSl, o_lenS, o_lenL, o_mx, o_mn, o_ext, o_build, o_lit, o_litOwn, o_app, o_mk, o_mvfrz, u_M1, u_M0, u_E1, optI, List.length_take, Int.toNat_zero, List.drop_zero, u_E0, o_idxN, o_idx, o_mset, o_look, o_mkmap, l_int, l_bool, l_str, l_agg, l_sl, l_own, l_ptr, l_pp, i_int, i_bool, i_str, i_sl, i_own, i_ptr, i_pp, all0, all1, e_ok1, eff, effBin, effBinN, ld_ptr, ld_pp, ld_elt, ia_own, ia_arr, el_1, el_N, load1K, faddrE, r_iaddr, sg_S, sg_c, sg_n, purL, pur, List.map, List.drop, List.take, List.length, List.foldl, List.append_eq, List.nil_append, List.cons_append, List.getD_cons_zero, List.getD_cons_succ, reduceIte, Nat.reduceEqDiff, Nat.reduceAdd, Nat.reduceLeDiff, true_and, and_true, Bool.not_true, Bool.not_false, Bool.and_true, Bool.true_and, Bool.and_self, reduceCtorEq, true_implies, false_implies, implies_true, decide_eq_true_eq, Option.map_some, fpOf, fpX, SOp.xs, oX, refs, refsL, dom, disj, List.all_nil, List.all_cons, List.contains_cons, List.contains_nil, Nat.reduceBEq, Bool.or_false, Bool.false_or, List.append_nil, Bool.not_false, Bool.not_true, List.forall_mem_cons, fm0, List.set, Nat.reduceLT, ne_eq, not_false_eq_true, not_true_eq_false, ret1, ret1N, keep0, keep1, rf_int, rf_bool, rf_str, rf_sl, rf_agg, rf_tup, rfL0, rfL1, re_t, re_cN, re_L0, re_L1, ret_tup, ret_one, decide_true, AV.bool.injEq, AV.int.injEq, Nat.reduceLeDiff, decide_eq_true_eq, decide_eq_false_iff_not, Int.toNat_natCast, List.length_map, decide_false, ghost, noref, flatOk, refsInO, wkM, str_eq, int_eq, int_ne, dec_beq, bool_beq, br_beq, brU_beq, str_lt, str_le, false_dec, true_dec, Classical.not_not, t_eqZone, Zone.row, Zone_eta, Box6.row, box_eta6, tk_map, dp_map, toNat_pred, unZone_mk, appE, rowsOf, List.take_length, List.length_cons, List.length_nil, Nat.zero_add, srow, irow, un_s, un_i, un_box, un_Zone, un_Own, un_Part, un_Seen, un_Word, Word.row, Word_eta, Own.row, Own_eta, Part.row, Part_eta, Seen.row, Seen_eta, Book.row, Book_eta, Sector.row, Sector_eta, HCraft.row, HCraft_eta, World.row, World_eta, un_Word, un_Own, un_Part, un_Seen, un_Book, un_Sector, un_HCraft, un_World]
  refine ⟨fun h1 h => h1 (by rw [h]), fun h1 => ?_⟩
  refine loop_st (fun i : Nat => [(5, .int .i64 i)]) (fun _ => []) (fun i => i ≤ p.length ∧ ∀ j, j < i → p.getD j default = q.getD j default) (fun i => p.length - i) (0) (by simp only [u_E0, u_E1, u_M0, u_M1, w_setE0, w_setE1, w_setM0, w_setM1, reduceIte, Nat.reduceEqDiff]; exact ⟨by repeat' (first | exact trivial | refine ⟨.inr rfl, ?_⟩), by repeat' (first | exact trivial | refine ⟨rfl, ?_⟩), by first | rfl | simp [closedB, refsIn, refsInL, refsInO, dom, refsInL_nr, *], by first | rfl | simp [keepB, dom]⟩) ?_ ?_
  · exact ⟨Nat.zero_le _, by intro j hj; omega⟩
  intro i hi NX hN
  unfold l_laws_eqHandZoneS_0; simp (config := { maxSteps := 2000000 }) only [w_skip, w_rg, w_rgd, w_seq, w_cond, w_block, w_loop, w_exit, w_ret, w_gh, w_rg0, w_rg1, w_rgT, w_rgF, w_run, w_psd, w_und, w_dr0, w_dr1, w_drT, w_drF, w_drRun, w_drPsd, w_drUnd, w_drKn, w_drKs, w_putK, w_trimK, w_thenN, w_thenE, w_thenR, w_scope, w_label, w_blkN, w_blkE, w_blkR, w_call, w_callV, w_callF, o_clos, o_b2s, b2sE, w_effK, brU_true, brU_false, brU_u, brU_not, brU_and, brU_or, brU_dec, brU_eq, brU_ne, br_true, br_false, br_not, br_and, br_or, br_dec, br_eq, br_ne, w_getE0, w_getE1, w_setE0, w_setE1, w_dropE0, w_dropE1, w_drop0, w_drop1, w_getM0, w_getM1, w_setM0, w_setM1, ev_v, ev_c, w_putS, w_putN, w_lit, w_apU0, w_apU1, w_apU2, w_trim, enumE0, enumE1, w_callWp, w_callA0, w_callA1, w_R0, w_R1, w_R2, w_T2, w_callL, w_callT, w_T1, w_T0, o_mv, o_newnil, o_pick, o_bin, o_binN, o_neg, o_not, o_eqB, o_eqS, o_conv, o_alloc, o_box, o_load1, o_loadN, o_store, o_nilck, o_faddr, o_field1, o_fieldN, o_iaddr, o_istr, o_slStr, o_slSl, o_lenS, o_lenL, o_mx, o_mn, o_ext, o_build, o_lit, o_litOwn, o_app, o_mk, o_mvfrz, u_M1, u_M0, u_E1, optI, List.length_take, Int.toNat_zero, List.drop_zero, u_E0, o_idxN, o_idx, o_mset, o_look, o_mkmap, l_int, l_bool, l_str, l_agg, l_sl, l_own, l_ptr, l_pp, i_int, i_bool, i_str, i_sl, i_own, i_ptr, i_pp, all0, all1, e_ok1, eff, effBin, effBinN, ld_ptr, ld_pp, ld_elt, ia_own, ia_arr, el_1, el_N, load1K, faddrE, r_iaddr, sg_S, sg_c, sg_n, purL, pur, List.map, List.drop, List.take, List.length, List.foldl, List.append_eq, List.nil_append, List.cons_append, List.getD_cons_zero, List.getD_cons_succ, reduceIte, Nat.reduceEqDiff, Nat.reduceAdd, Nat.reduceLeDiff, true_and, and_true, Bool.not_true, Bool.not_false, Bool.and_true, Bool.true_and, Bool.and_self, reduceCtorEq, true_implies, false_implies, implies_true, decide_eq_true_eq, Option.map_some, fpOf, fpX, SOp.xs, oX, refs, refsL, dom, disj, List.all_nil, List.all_cons, List.contains_cons, List.contains_nil, Nat.reduceBEq, Bool.or_false, Bool.false_or, List.append_nil, Bool.not_false, Bool.not_true, List.forall_mem_cons, fm0, List.set, Nat.reduceLT, ne_eq, not_false_eq_true, not_true_eq_false, ret1, ret1N, keep0, keep1, rf_int, rf_bool, rf_str, rf_sl, rf_agg, rf_tup, rfL0, rfL1, re_t, re_cN, re_L0, re_L1, ret_tup, ret_one, decide_true, AV.bool.injEq, AV.int.injEq, Nat.reduceLeDiff, decide_eq_true_eq, decide_eq_false_iff_not, Int.toNat_natCast, List.length_map, decide_false, ghost, noref, flatOk, refsInO, wkM, str_eq, int_eq, int_ne, dec_beq, bool_beq, br_beq, brU_beq, str_lt, str_le, false_dec, true_dec, Classical.not_not, t_eqZone, Zone.row, Zone_eta, Box6.row, box_eta6, tk_map, dp_map, toNat_pred, unZone_mk, appE, rowsOf, List.take_length, List.length_cons, List.length_nil, Nat.zero_add, srow, irow, un_s, un_i, un_box, un_Zone, un_Own, un_Part, un_Seen, un_Word, Word.row, Word_eta, Own.row, Own_eta, Part.row, Part_eta, Seen.row, Seen_eta, Book.row, Book_eta, Sector.row, Sector_eta, HCraft.row, HCraft_eta, World.row, World_eta, un_Word, un_Own, un_Part, un_Seen, un_Book, un_Sector, un_HCraft, un_World]
  skip
  repeat' (first | with_reducible apply And.intro | with_reducible intro _)
  all_goals first
    | omega
    | (refine hN (i + 1) _ (by simp only [u_E0, u_E1, u_M0, u_M1, w_setE0, w_setE1, w_setM0, w_setM1, reduceIte, Nat.reduceEqDiff]; exact ⟨by repeat' (first | exact trivial | refine ⟨.inr rfl, ?_⟩), by repeat' (first | exact trivial | refine ⟨rfl, ?_⟩), by first | rfl | simp [closedB, refsIn, refsInL, refsInO, dom, refsInL_nr, *], by first | rfl | simp [keepB, dom]⟩) ?_ ?_
       · exact ⟨by omega, all_snoc hi.2 (by with_reducible assumption)⟩
       · omega)
    | (intro h; subst h; exact absurd rfl (by with_reducible assumption))
    | (exact ext_of (by omega) fun j hj => hi.2 j (by omega))
    | grind
def t_eqZoneS : List AV → Option (Prop × AV)
  | [.sl ct 5 cx, .sl dt 5 dx] => some ((((cx.map unZone).map Zone.row = cx) ∧ ((dx.map unZone).map Zone.row = dx)) ∧ ((cx.map unZone).length ≤ 4611686018427387904), .bool (decide ((cx.map unZone) = (dx.map unZone))))
  | _ => none
theorem h_eqZoneS : ∀ args p v, t_eqZoneS args = some (p, v) → p → Contract P 12 args [] v [] ∧ noref v = true ∧ No99 v := by
  intro args p v h1 h2
  unfold t_eqZoneS at h1
  split at h1
  · rename_i ct cx dt dx
    cases h1
    obtain ⟨⟨e0, e1⟩, HP⟩ := h2
    have := c_eqZoneS ct dt (cx.map unZone) (dx.map unZone) HP
    exact ⟨by simpa only [e0, e1] using this, rfl, trivial⟩
  · cases h1
end
end Go.Ve

namespace Go.Ve
noncomputable section
open Go.Proofs
set_option linter.unusedSimpArgs false
set_option linter.unusedVariables false
set_option maxRecDepth 100000
open Go.ChangeShapes Go.WideShapes
theorem fit_rows {α : Type} {f : α → List AV} {rs : List LSh} (h : ∀ r, fitsL rs r → ∃ x : α, r = f x) : ∀ {rows : List (List AV)}, (∀ r ∈ rows, fitsL rs r) → ∃ l : List α, rows = l.map f
  | [], _ => ⟨[], rfl⟩
  | r :: rows, k => by
    obtain ⟨x, rfl⟩ := h r (k r (by simp))
    obtain ⟨l, rfl⟩ := fit_rows h (rows := rows) fun r' h' => k r' (by simp [h'])
    exact ⟨x :: l, rfl⟩
def sh_Int : List LSh := [.int .i64]
def sh_Box6 : List LSh := [.int .i64, .int .i64, .int .i64, .int .i64, .int .i64, .int .i64]
theorem fit_Int (r : List AV) (h : fitsL sh_Int r) : ∃ x : Int, r = irow x := by
  simp only [sh_Int, fitsL, fits] at h
  obtain ⟨_, _, rfl, ⟨n, rfl, _⟩, rfl⟩ := h
  exact ⟨n, rfl⟩
theorem fit_Box6 (r : List AV) (h : fitsL sh_Box6 r) : ∃ x : Box6, r = x.row := by
  simp only [sh_Box6, fitsL, fits] at h
  obtain ⟨_, _, rfl, ⟨a, rfl, _⟩, _, _, rfl, ⟨b, rfl, _⟩, _, _, rfl, ⟨c, rfl, _⟩, _, _, rfl, ⟨d, rfl, _⟩, _, _, rfl, ⟨e, rfl, _⟩, _, _, rfl, ⟨g, rfl, _⟩, rfl⟩ := h
  exact ⟨⟨a, b, c, d, e, g⟩, rfl⟩
def sh_Zone : List LSh := [.str, .int .i64, .int .i64, .int .i64, .int .i64]
theorem fit_Zone (r : List AV) (h : fitsL sh_Zone r) : ∃ x : Zone, r = Zone.row x ∧ x.fitp := by
  simp only [sh_Zone, fitsL, fits] at h
  obtain ⟨_, _, rfl, ⟨nm, rfl, h_nm⟩, _, _, rfl, ⟨x0, rfl, _⟩, _, _, rfl, ⟨y0, rfl, _⟩, _, _, rfl, ⟨x1, rfl, _⟩, _, _, rfl, ⟨y1, rfl, _⟩, rfl⟩ := h

  exact ⟨⟨nm, x0, y0, x1, y1⟩, rfl, (by have e := toList_size nm; unfold maxLen at h_nm; show nm.toList.length ≤ _; omega)⟩
end
end Go.Ve

namespace Go.Ve
open Go.Proofs
set_option linter.unusedSimpArgs false
set_option linter.unusedVariables false
set_option maxRecDepth 100000
set_option maxHeartbeats 4000000
def Path5.step (p : Path5) (f : List Int) (j : Nat) : Prop := (p.low j ≤ f.getD j default ∧ f.getD j default ≤ p.high j) ∧ (0 < j → p.q ≤ f.getD j default - f.getD (j - 1) default ∧ f.getD j default - f.getD (j - 1) default ≤ p.most (j - 1))
def Path5.lawful (p : Path5) (f : List Int) : Prop := pathOk p.q p.s p.l p.f p.b ∧ f.length = p.l.length + 1 ∧ ∀ j, j < f.length → p.step f j
instance (p : Path5) (f : List Int) (j : Nat) : Decidable (p.step f j) := by unfold Path5.step; infer_instance
instance (p : Path5) (f : List Int) : Decidable (p.lawful f) := by unfold Path5.lawful; infer_instance
def F_iLaw (p : Path5) (t t' : Nat) (f : List Int) (k : Nat) : St := ⟨[(1, .sl t' 1 (f.map irow)), (2, .ptr 102 0), (22, .sl t' 1 (f.map irow)), (23, .int .i64 f.length), (24, .int .i64 k)], [(102, .box [.int .i64 p.q, .int .i64 p.s, .sl t 7 (p.l.map Stp7.row), .int .i64 p.f, .int .i64 p.b])]⟩
def F_sLaw (p : Path5) (t t' : Nat) (f : List Int) (k : Nat) : St := ⟨[(1, .sl t' 1 (f.map irow)), (2, .ptr 102 0), (5, .int .i64 k)], [(102, .box [.int .i64 p.q, .int .i64 p.s, .sl t 7 (p.l.map Stp7.row), .int .i64 p.f, .int .i64 p.b])]⟩
theorem c_sLawful (p : Path5) (t t' : Nat) (f : List Int) : Contract P 71 [.agg [.int .i64 p.q, .int .i64 p.s, .sl t 7 (p.l.map Stp7.row), .int .i64 p.f, .int .i64 p.b], .sl t' 1 (f.map irow)] [] (.bool (decide (p.lawful f))) [] := by
  refine fn_sound ((((((Env.nil P).add 119 t_sPathOk h_sPathOk).add 67 t_l21In h_l21In).add 121 t_l23Low h_l23Low).add 122 t_l23High h_l23High).add 123 t_l23Most h_l23Most) hm k_spec_FlyLawful (Nat.le_of_ble_eq_true rfl) rfl ?_
  unfold s_spec_FlyLawful
  simp only [w_skip, w_rg, w_rgd, w_seq, w_cond, w_block, w_loop, w_exit, w_ret, w_gh, w_rg0, w_rg1, w_rgT, w_rgF, w_run, w_psd, w_und, w_dr0, w_dr1, w_drT, w_drF, w_drRun, w_drPsd, w_drUnd, w_drKn, w_drKs, w_putK, w_trimK, w_thenN, w_thenE, w_thenR, w_scope, w_label, w_blkN, w_blkE, w_blkR, w_call, w_effK, brU_true, brU_false, brU_u, brU_not, brU_and, brU_or, brU_dec, brU_eq, brU_ne, br_true, br_false, br_not, br_and, br_or, br_dec, br_eq, br_ne, w_getE0, w_getE1, w_setE0, w_setE1, w_dropE0, w_dropE1, w_drop0, w_drop1, w_getM0, w_getM1, w_setM0, w_setM1, ev_v, ev_c, w_putS, w_putN, w_lit, w_apU0, w_apU1, w_apU2, w_trim, enumE0, enumE1, w_callWp, w_callA0, w_callA1, w_R0, w_R1, w_R2, w_T2, w_callL, w_callT, w_T1, w_T0, o_mv, o_newnil, o_pick, o_bin, o_binN, o_neg, o_not, o_eqB, o_eqS, o_conv, o_alloc, o_box, o_load1, o_loadN, o_store, o_nilck, o_faddr, o_field1, o_fieldN, o_iaddr, o_istr, o_slStr, o_slSl, o_lenS, o_lenL, o_mx, o_mn, o_ext, o_build, o_lit, o_litOwn, o_app, o_mk, o_mvfrz, l_int, l_bool, l_str, l_agg, l_sl, l_own, l_ptr, l_pp, i_int, i_bool, i_str, i_sl, i_own, i_ptr, i_pp, all0, all1, e_ok1, eff, effBin, effBinN, ld_ptr, ld_pp, ld_elt, ia_own, ia_arr, el_1, el_N, load1K, faddrE, r_iaddr, sg_S, sg_c, sg_n, purL, pur, List.map, List.drop, List.take, List.length, List.foldl, List.append_eq, List.nil_append, List.cons_append, List.getD_cons_zero, List.getD_cons_succ, reduceIte, Nat.reduceEqDiff, Nat.reduceAdd, Nat.reduceLeDiff, true_and, and_true, Bool.not_true, Bool.not_false, Bool.and_true, Bool.true_and, Bool.and_self, reduceCtorEq, true_implies, false_implies, implies_true, decide_eq_true_eq, Option.map_some, fpOf, fpX, SOp.xs, oX, refs, refsL, dom, disj, List.all_nil, List.all_cons, List.contains_cons, List.contains_nil, Nat.reduceBEq, Bool.or_false, Bool.false_or, List.append_nil, Bool.not_false, Bool.not_true, List.forall_mem_cons, fm0, List.set, Nat.reduceLT, ne_eq, not_false_eq_true, not_true_eq_false
, ret1, ret1N, keep0, keep1, rf_int, rf_bool, rf_str, rf_sl, rf_agg, rf_tup, rfL0, rfL1, re_t, re_cN, re_L0, re_L1, ret_tup, ret_one, decide_true, AV.bool.injEq, AV.int.injEq, Nat.reduceLeDiff, Bool.true_eq, Bool.false_eq, decide_eq_true_eq, decide_eq_false_iff_not, t_sPathOk, t_l21In, t_l23Low, t_l23High, t_l23Most, toNat_pred, irow, List.length_map, un_stp, path_eta, flatOk, noref, ghost, Int.toNat_natCast, Nat.zero_add, Nat.sub_zero]
  refine ⟨fun h1 => ⟨by have := h1.2.1; omega, fun h2 h => h2 (by have := h.2.1; omega), fun h2 => ?_⟩, fun h1 h => h1 h.1⟩
  have hc := ok_calm h1
  have hl : f.length = p.l.length + 1 := by omega
  refine loop_of (F_sLaw p t t' f) (fun k => k ≤ f.length ∧ ∀ j, j < k → p.step f j) (fun k => f.length - k) 0 ⟨⟨.inr rfl, .inr rfl, .inr rfl, trivial⟩, ⟨rfl, trivial⟩, rfl, rfl⟩ ⟨Nat.zero_le _, fun j hj => by omega⟩ ?_
  rintro k ⟨hk, hs⟩
  unfold l_spec_FlyLawful_0 F_sLaw
  simp only [w_skip, w_rg, w_rgd, w_seq, w_cond, w_block, w_loop, w_exit, w_ret, w_gh, w_rg0, w_rg1, w_rgT, w_rgF, w_run, w_psd, w_und, w_dr0, w_dr1, w_drT, w_drF, w_drRun, w_drPsd, w_drUnd, w_drKn, w_drKs, w_putK, w_trimK, w_thenN, w_thenE, w_thenR, w_scope, w_label, w_blkN, w_blkE, w_blkR, w_call, w_effK, brU_true, brU_false, brU_u, brU_not, brU_and, brU_or, brU_dec, brU_eq, brU_ne, br_true, br_false, br_not, br_and, br_or, br_dec, br_eq, br_ne, w_getE0, w_getE1, w_setE0, w_setE1, w_dropE0, w_dropE1, w_drop0, w_drop1, w_getM0, w_getM1, w_setM0, w_setM1, ev_v, ev_c, w_putS, w_putN, w_lit, w_apU0, w_apU1, w_apU2, w_trim, enumE0, enumE1, w_callWp, w_callA0, w_callA1, w_R0, w_R1, w_R2, w_T2, w_callL, w_callT, w_T1, w_T0, o_mv, o_newnil, o_pick, o_bin, o_binN, o_neg, o_not, o_eqB, o_eqS, o_conv, o_alloc, o_box, o_load1, o_loadN, o_store, o_nilck, o_faddr, o_field1, o_fieldN, o_iaddr, o_istr, o_slStr, o_slSl, o_lenS, o_lenL, o_mx, o_mn, o_ext, o_build, o_lit, o_litOwn, o_app, o_mk, o_mvfrz, l_int, l_bool, l_str, l_agg, l_sl, l_own, l_ptr, l_pp, i_int, i_bool, i_str, i_sl, i_own, i_ptr, i_pp, all0, all1, e_ok1, eff, effBin, effBinN, ld_ptr, ld_pp, ld_elt, ia_own, ia_arr, el_1, el_N, load1K, faddrE, r_iaddr, sg_S, sg_c, sg_n, purL, pur, List.map, List.drop, List.take, List.length, List.foldl, List.append_eq, List.nil_append, List.cons_append, List.getD_cons_zero, List.getD_cons_succ, reduceIte, Nat.reduceEqDiff, Nat.reduceAdd, Nat.reduceLeDiff, true_and, and_true, Bool.not_true, Bool.not_false, Bool.and_true, Bool.true_and, Bool.and_self, reduceCtorEq, true_implies, false_implies, implies_true, decide_eq_true_eq, Option.map_some, fpOf, fpX, SOp.xs, oX, refs, refsL, dom, disj, List.all_nil, List.all_cons, List.contains_cons, List.contains_nil, Nat.reduceBEq, Bool.or_false, Bool.false_or, List.append_nil, Bool.not_false, Bool.not_true, List.forall_mem_cons, fm0, List.set, Nat.reduceLT, ne_eq, not_false_eq_true, not_true_eq_false
, ret1, ret1N, keep0, keep1, rf_int, rf_bool, rf_str, rf_sl, rf_agg, rf_tup, rfL0, rfL1, re_t, re_cN, re_L0, re_L1, ret_tup, ret_one, decide_true, AV.bool.injEq, AV.int.injEq, Nat.reduceLeDiff, Bool.true_eq, Bool.false_eq, decide_eq_true_eq, decide_eq_false_iff_not, t_sPathOk, t_l21In, t_l23Low, t_l23High, t_l23Most, toNat_pred, irow, List.length_map, un_stp, path_eta, flatOk, noref, ghost, Int.toNat_natCast, Nat.zero_add, Nat.sub_zero]
  have hn := h1.2.1
  have lo := fun j (h : j ≤ p.l.length) => hc.lo j h
  have hi := fun j (h : j ≤ p.l.length) => hc.hi j h
  have nx : ∀ (h : p.step f k), ∀ j, j < k + 1 → p.step f j := fun h j hj => by
    by_cases e : j = k
    · rw [e]; exact h
    · exact hs j (by omega)
  refine ⟨fun h3 => ⟨by omega, by omega, by omega, by omega, fun h4 => ⟨fun h5 => ?_, fun h5 => ⟨by omega, loopK_of (k + 1) ⟨⟨.inr rfl, .inr rfl, .inr rfl, trivial⟩, ⟨rfl, trivial⟩, rfl, rfl⟩ ⟨by omega, nx ⟨h4, fun h => by omega⟩⟩ (by omega)⟩⟩, fun h4 h => h4 (h.2.2 k (by omega)).1⟩, fun h3 => ⟨h1, hl, fun j hj => hs j (by omega)⟩⟩
  have b1 := (hs (k - 1) (by omega)).1
  have b2 := lo (k - 1) (by omega)
  have b3 := hi (k - 1) (by omega)
  have b4 := lo k (by omega)
  have b5 := hi k (by omega)
  exact ⟨by omega, by omega, by omega, by omega, by omega, by omega, by omega, by omega, fun h6 => ⟨by omega, loopK_of (k + 1) ⟨⟨.inr rfl, .inr rfl, .inr rfl, trivial⟩, ⟨rfl, trivial⟩, rfl, rfl⟩ ⟨by omega, nx ⟨h4, fun _ => h6⟩⟩ (by omega)⟩, fun h6 h => h6 ((h.2.2 k (by omega)).2 (by omega))⟩
theorem c_iLawful (p : Path5) (t t' : Nat) (f : List Int) : Contract P 80 [.agg [.int .i64 p.q, .int .i64 p.s, .sl t 7 (p.l.map Stp7.row), .int .i64 p.f, .int .i64 p.b], .sl t' 1 (f.map irow)] [] (.bool (decide (p.lawful f))) [] := by
  refine fn_sound ((((Env.nil P).add 132 t_iPathOk h_iPathOk).add 133 t_bound h_bound).add 75 t_within h_within) hm k_impl_FlyLawful (Nat.le_of_ble_eq_true rfl) rfl ?_
  unfold s_impl_FlyLawful
  simp only [w_skip, w_rg, w_rgd, w_seq, w_cond, w_block, w_loop, w_exit, w_ret, w_gh, w_rg0, w_rg1, w_rgT, w_rgF, w_run, w_psd, w_und, w_dr0, w_dr1, w_drT, w_drF, w_drRun, w_drPsd, w_drUnd, w_drKn, w_drKs, w_putK, w_trimK, w_thenN, w_thenE, w_thenR, w_scope, w_label, w_blkN, w_blkE, w_blkR, w_call, w_effK, brU_true, brU_false, brU_u, brU_not, brU_and, brU_or, brU_dec, brU_eq, brU_ne, br_true, br_false, br_not, br_and, br_or, br_dec, br_eq, br_ne, w_getE0, w_getE1, w_setE0, w_setE1, w_dropE0, w_dropE1, w_drop0, w_drop1, w_getM0, w_getM1, w_setM0, w_setM1, ev_v, ev_c, w_putS, w_putN, w_lit, w_apU0, w_apU1, w_apU2, w_trim, enumE0, enumE1, w_callWp, w_callA0, w_callA1, w_R0, w_R1, w_R2, w_T2, w_callL, w_callT, w_T1, w_T0, o_mv, o_newnil, o_pick, o_bin, o_binN, o_neg, o_not, o_eqB, o_eqS, o_conv, o_alloc, o_box, o_load1, o_loadN, o_store, o_nilck, o_faddr, o_field1, o_fieldN, o_iaddr, o_istr, o_slStr, o_slSl, o_lenS, o_lenL, o_mx, o_mn, o_ext, o_build, o_lit, o_litOwn, o_app, o_mk, o_mvfrz, l_int, l_bool, l_str, l_agg, l_sl, l_own, l_ptr, l_pp, i_int, i_bool, i_str, i_sl, i_own, i_ptr, i_pp, all0, all1, e_ok1, eff, effBin, effBinN, ld_ptr, ld_pp, ld_elt, ia_own, ia_arr, el_1, el_N, load1K, faddrE, r_iaddr, sg_S, sg_c, sg_n, purL, pur, List.map, List.drop, List.take, List.length, List.foldl, List.append_eq, List.nil_append, List.cons_append, List.getD_cons_zero, List.getD_cons_succ, reduceIte, Nat.reduceEqDiff, Nat.reduceAdd, Nat.reduceLeDiff, true_and, and_true, Bool.not_true, Bool.not_false, Bool.and_true, Bool.true_and, Bool.and_self, reduceCtorEq, true_implies, false_implies, implies_true, decide_eq_true_eq, Option.map_some, fpOf, fpX, SOp.xs, oX, refs, refsL, dom, disj, List.all_nil, List.all_cons, List.contains_cons, List.contains_nil, Nat.reduceBEq, Bool.or_false, Bool.false_or, List.append_nil, Bool.not_false, Bool.not_true, List.forall_mem_cons, fm0, List.set, Nat.reduceLT, ne_eq, not_false_eq_true, not_true_eq_false
, ret1, ret1N, keep0, keep1, rf_int, rf_bool, rf_str, rf_sl, rf_agg, rf_tup, rfL0, rfL1, re_t, re_cN, re_L0, re_L1, ret_tup, ret_one, decide_true, AV.bool.injEq, AV.int.injEq, Nat.reduceLeDiff, Bool.true_eq, Bool.false_eq, decide_eq_true_eq, decide_eq_false_iff_not, t_iPathOk, t_bound, t_within, t_sPathOk, Stp7.row, toNat_pred, irow, List.length_map, un_stp, path_eta, flatOk, noref, ghost, Int.toNat_natCast, Nat.zero_add, Nat.sub_zero]
  refine ⟨fun h1 => ⟨by have := h1.2.1; omega, fun h2 h => h2 (by have := h.2.1; omega), fun h2 => ?_⟩, fun h1 h => h1 h.1⟩
  have hc := ok_calm h1
  have hl : f.length = p.l.length + 1 := by omega
  refine loop_of (F_iLaw p t t' f) (fun k => k ≤ f.length ∧ ∀ j, j < k → p.step f j) (fun k => f.length - k) 0 ⟨⟨.inr rfl, .inr rfl, .inr rfl, .inr rfl, .inr rfl, trivial⟩, ⟨rfl, trivial⟩, rfl, rfl⟩ ⟨Nat.zero_le _, fun j hj => by omega⟩ ?_
  rintro k ⟨hk, hs⟩
  have hn := h1.2.1
  have lo := fun j (h : j ≤ p.l.length) => hc.lo j h
  have hi := fun j (h : j ≤ p.l.length) => hc.hi j h
  have nx : ∀ (h : p.step f k), ∀ j, j < k + 1 → p.step f j := fun h j hj => by
    by_cases e : j = k
    · rw [e]; exact h
    · exact hs j (by omega)
  have hqs : 0 ≤ p.q ∧ p.q ≤ 50 ∧ 0 ≤ p.s ∧ p.s ≤ 50 := by have := h1.1; omega
  cases hh : (p.l.getD (k - 1) default).hold with
  | false =>
    have hm : p.most (k - 1) = p.s := by unfold Path5.most; rw [hh]; rfl
    unfold l_impl_FlyLawful_0 F_iLaw
    simp only [w_skip, w_rg, w_rgd, w_seq, w_cond, w_block, w_loop, w_exit, w_ret, w_gh, w_rg0, w_rg1, w_rgT, w_rgF, w_run, w_psd, w_und, w_dr0, w_dr1, w_drT, w_drF, w_drRun, w_drPsd, w_drUnd, w_drKn, w_drKs, w_putK, w_trimK, w_thenN, w_thenE, w_thenR, w_scope, w_label, w_blkN, w_blkE, w_blkR, w_call, w_effK, brU_true, brU_false, brU_u, brU_not, brU_and, brU_or, brU_dec, brU_eq, brU_ne, br_true, br_false, br_not, br_and, br_or, br_dec, br_eq, br_ne, w_getE0, w_getE1, w_setE0, w_setE1, w_dropE0, w_dropE1, w_drop0, w_drop1, w_getM0, w_getM1, w_setM0, w_setM1, ev_v, ev_c, w_putS, w_putN, w_lit, w_apU0, w_apU1, w_apU2, w_trim, enumE0, enumE1, w_callWp, w_callA0, w_callA1, w_R0, w_R1, w_R2, w_T2, w_callL, w_callT, w_T1, w_T0, o_mv, o_newnil, o_pick, o_bin, o_binN, o_neg, o_not, o_eqB, o_eqS, o_conv, o_alloc, o_box, o_load1, o_loadN, o_store, o_nilck, o_faddr, o_field1, o_fieldN, o_iaddr, o_istr, o_slStr, o_slSl, o_lenS, o_lenL, o_mx, o_mn, o_ext, o_build, o_lit, o_litOwn, o_app, o_mk, o_mvfrz, l_int, l_bool, l_str, l_agg, l_sl, l_own, l_ptr, l_pp, i_int, i_bool, i_str, i_sl, i_own, i_ptr, i_pp, all0, all1, e_ok1, eff, effBin, effBinN, ld_ptr, ld_pp, ld_elt, ia_own, ia_arr, el_1, el_N, load1K, faddrE, r_iaddr, sg_S, sg_c, sg_n, purL, pur, List.map, List.drop, List.take, List.length, List.foldl, List.append_eq, List.nil_append, List.cons_append, List.getD_cons_zero, List.getD_cons_succ, reduceIte, Nat.reduceEqDiff, Nat.reduceAdd, Nat.reduceLeDiff, true_and, and_true, Bool.not_true, Bool.not_false, Bool.and_true, Bool.true_and, Bool.and_self, reduceCtorEq, true_implies, false_implies, implies_true, decide_eq_true_eq, Option.map_some, fpOf, fpX, SOp.xs, oX, refs, refsL, dom, disj, List.all_nil, List.all_cons, List.contains_cons, List.contains_nil, Nat.reduceBEq, Bool.or_false, Bool.false_or, List.append_nil, Bool.not_false, Bool.not_true, List.forall_mem_cons, fm0, List.set, Nat.reduceLT, ne_eq, not_false_eq_true, not_true_eq_false
, ret1, ret1N, keep0, keep1, rf_int, rf_bool, rf_str, rf_sl, rf_agg, rf_tup, rfL0, rfL1, re_t, re_cN, re_L0, re_L1, ret_tup, ret_one, decide_true, AV.bool.injEq, AV.int.injEq, Nat.reduceLeDiff, Bool.true_eq, Bool.false_eq, decide_eq_true_eq, decide_eq_false_iff_not, t_iPathOk, t_bound, t_within, t_sPathOk, Stp7.row, toNat_pred, irow, List.length_map, un_stp, path_eta, flatOk, noref, ghost, Int.toNat_natCast, Nat.zero_add, Nat.sub_zero, hh]
    refine ⟨fun h3 => ⟨by omega, by omega, by omega, fun h4 => ⟨fun h5 => ?_, fun h5 => ⟨by omega, loopK_of (k + 1) ⟨⟨.inr rfl, .inr rfl, .inr rfl, .inr rfl, .inr rfl, trivial⟩, ⟨rfl, trivial⟩, rfl, rfl⟩ ⟨by omega, nx ⟨h4, fun h => absurd h (by omega)⟩⟩ (by omega)⟩⟩, fun h4 h => h4 (h.2.2 k (by omega)).1⟩, fun h3 => ⟨h1, hl, fun j hj => hs j (by omega)⟩⟩
    have b1 := (hs (k - 1) (by omega)).1
    have b2 := lo (k - 1) (by omega)
    have b3 := hi (k - 1) (by omega)
    have b4 := lo k (by omega)
    have b5 := hi k (by omega)
    exact ⟨by omega, by omega, by omega, by omega, fun h6 h => (by have := ((h.2.2 k (by omega)).2 (by omega)).1; omega), fun h6 => ⟨by omega, fun h7 => ⟨by omega, by omega, by omega, fun h => by have := ((h.2.2 k (by omega)).2 (by omega)).2; rw [hm] at this; omega⟩, fun h7 => ⟨by omega, loopK_of (k + 1) ⟨⟨.inr rfl, .inr rfl, .inr rfl, .inr rfl, .inr rfl, trivial⟩, ⟨rfl, trivial⟩, rfl, rfl⟩ ⟨by omega, nx ⟨h4, fun _ => (by rw [hm]; omega)⟩⟩ (by omega)⟩⟩⟩
  | true =>
    have hm : p.most (k - 1) = 10000 := by unfold Path5.most; rw [hh]; rfl
    unfold l_impl_FlyLawful_0 F_iLaw
    simp only [w_skip, w_rg, w_rgd, w_seq, w_cond, w_block, w_loop, w_exit, w_ret, w_gh, w_rg0, w_rg1, w_rgT, w_rgF, w_run, w_psd, w_und, w_dr0, w_dr1, w_drT, w_drF, w_drRun, w_drPsd, w_drUnd, w_drKn, w_drKs, w_putK, w_trimK, w_thenN, w_thenE, w_thenR, w_scope, w_label, w_blkN, w_blkE, w_blkR, w_call, w_effK, brU_true, brU_false, brU_u, brU_not, brU_and, brU_or, brU_dec, brU_eq, brU_ne, br_true, br_false, br_not, br_and, br_or, br_dec, br_eq, br_ne, w_getE0, w_getE1, w_setE0, w_setE1, w_dropE0, w_dropE1, w_drop0, w_drop1, w_getM0, w_getM1, w_setM0, w_setM1, ev_v, ev_c, w_putS, w_putN, w_lit, w_apU0, w_apU1, w_apU2, w_trim, enumE0, enumE1, w_callWp, w_callA0, w_callA1, w_R0, w_R1, w_R2, w_T2, w_callL, w_callT, w_T1, w_T0, o_mv, o_newnil, o_pick, o_bin, o_binN, o_neg, o_not, o_eqB, o_eqS, o_conv, o_alloc, o_box, o_load1, o_loadN, o_store, o_nilck, o_faddr, o_field1, o_fieldN, o_iaddr, o_istr, o_slStr, o_slSl, o_lenS, o_lenL, o_mx, o_mn, o_ext, o_build, o_lit, o_litOwn, o_app, o_mk, o_mvfrz, l_int, l_bool, l_str, l_agg, l_sl, l_own, l_ptr, l_pp, i_int, i_bool, i_str, i_sl, i_own, i_ptr, i_pp, all0, all1, e_ok1, eff, effBin, effBinN, ld_ptr, ld_pp, ld_elt, ia_own, ia_arr, el_1, el_N, load1K, faddrE, r_iaddr, sg_S, sg_c, sg_n, purL, pur, List.map, List.drop, List.take, List.length, List.foldl, List.append_eq, List.nil_append, List.cons_append, List.getD_cons_zero, List.getD_cons_succ, reduceIte, Nat.reduceEqDiff, Nat.reduceAdd, Nat.reduceLeDiff, true_and, and_true, Bool.not_true, Bool.not_false, Bool.and_true, Bool.true_and, Bool.and_self, reduceCtorEq, true_implies, false_implies, implies_true, decide_eq_true_eq, Option.map_some, fpOf, fpX, SOp.xs, oX, refs, refsL, dom, disj, List.all_nil, List.all_cons, List.contains_cons, List.contains_nil, Nat.reduceBEq, Bool.or_false, Bool.false_or, List.append_nil, Bool.not_false, Bool.not_true, List.forall_mem_cons, fm0, List.set, Nat.reduceLT, ne_eq, not_false_eq_true, not_true_eq_false
, ret1, ret1N, keep0, keep1, rf_int, rf_bool, rf_str, rf_sl, rf_agg, rf_tup, rfL0, rfL1, re_t, re_cN, re_L0, re_L1, ret_tup, ret_one, decide_true, AV.bool.injEq, AV.int.injEq, Nat.reduceLeDiff, Bool.true_eq, Bool.false_eq, decide_eq_true_eq, decide_eq_false_iff_not, t_iPathOk, t_bound, t_within, t_sPathOk, Stp7.row, toNat_pred, irow, List.length_map, un_stp, path_eta, flatOk, noref, ghost, Int.toNat_natCast, Nat.zero_add, Nat.sub_zero, hh]
    refine ⟨fun h3 => ⟨by omega, by omega, by omega, fun h4 => ⟨fun h5 => ?_, fun h5 => ⟨by omega, loopK_of (k + 1) ⟨⟨.inr rfl, .inr rfl, .inr rfl, .inr rfl, .inr rfl, trivial⟩, ⟨rfl, trivial⟩, rfl, rfl⟩ ⟨by omega, nx ⟨h4, fun h => absurd h (by omega)⟩⟩ (by omega)⟩⟩, fun h4 h => h4 (h.2.2 k (by omega)).1⟩, fun h3 => ⟨h1, hl, fun j hj => hs j (by omega)⟩⟩
    have b1 := (hs (k - 1) (by omega)).1
    have b2 := lo (k - 1) (by omega)
    have b3 := hi (k - 1) (by omega)
    have b4 := lo k (by omega)
    have b5 := hi k (by omega)
    exact ⟨by omega, by omega, by omega, by omega, fun h6 h => (by have := ((h.2.2 k (by omega)).2 (by omega)).1; omega), fun h6 => ⟨by omega, fun h7 => ⟨by omega, by omega, by omega, by omega, loopK_of (k + 1) ⟨⟨.inr rfl, .inr rfl, .inr rfl, .inr rfl, .inr rfl, trivial⟩, ⟨rfl, trivial⟩, rfl, rfl⟩ ⟨by omega, nx ⟨h4, fun _ => (by rw [hm]; omega)⟩⟩ (by omega)⟩, fun h7 => ⟨by omega, loopK_of (k + 1) ⟨⟨.inr rfl, .inr rfl, .inr rfl, .inr rfl, .inr rfl, trivial⟩, ⟨rfl, trivial⟩, rfl, rfl⟩ ⟨by omega, nx ⟨h4, fun _ => (by rw [hm]; omega)⟩⟩ (by omega)⟩⟩⟩
end Go.Ve

namespace Go.Ve
noncomputable section
open Go.Proofs
set_option linter.unusedSimpArgs false
set_option linter.unusedVariables false
set_option maxRecDepth 100000
open Go.ChangeShapes Go.WideShapes
def isDown (tu : List Box6) (fl : List Int) : Prop := 0 < tu.length ∧ fl.length = tu.length + 1
instance (tu : List Box6) (fl : List Int) : Decidable (isDown tu fl) := by unfold isDown; infer_instance
theorem c_down (nm : ByteArray) (q s nr no : Int) (t t' : Nat) (tu : List Box6) (fl : List Int) (hl : tu.length ≤ 1048576) (hf : fl.length ≤ 1048576) : Contract P 79 [.agg [.str nm, .int .i64 q, .int .i64 s, .int .i64 nr, .int .i64 no, .sl t 6 (tu.map Box6.row), .sl t' 1 (fl.map irow)]] [] (.bool (decide (isDown tu fl))) [] := by
  refine fn_sound (Env.nil P) hm k_impl_LapCraft_down (Nat.le_of_ble_eq_true rfl) rfl ?_; unfold s_impl_LapCraft_down; simp (config := { maxSteps := 2000000 }) only [w_skip, w_rg, w_rgd, w_seq, w_cond, w_block, w_loop, w_exit, w_ret, w_gh, w_rg0, w_rg1, w_rgT, w_rgF, w_run, w_psd, w_und, w_dr0, w_dr1, w_drT, w_drF, w_drRun, w_drPsd, w_drUnd, w_drKn, w_drKs, w_putK, w_trimK, w_thenN, w_thenE, w_thenR, w_scope, w_label, w_blkN, w_blkE, w_blkR, w_call, w_callV, w_callF, o_clos, o_b2s, b2sE, w_effK, brU_true, brU_false, brU_u, brU_not, brU_and, brU_or, brU_dec, brU_eq, brU_ne, br_true, br_false, br_not, br_and, br_or, br_dec, br_eq, br_ne, w_getE0, w_getE1, w_setE0, w_setE1, w_dropE0, w_dropE1, w_drop0, w_drop1, w_getM0, w_getM1, w_setM0, w_setM1, ev_v, ev_c, w_putS, w_putN, w_lit, w_apU0, w_apU1, w_apU2, w_trim, enumE0, enumE1, w_callWp, w_callA0, w_callA1, w_R0, w_R1, w_R2, w_T2, w_callL, w_callT, w_T1, w_T0, o_mv, o_newnil, o_pick, o_bin, o_binN, o_neg, o_not, o_eqB, o_eqS, o_conv, o_alloc, o_box, o_load1, o_loadN, o_store, o_nilck, o_faddr, o_field1, o_fieldN, o_iaddr, o_istr, o_slStr, o_slSl, o_lenS, o_lenL, o_mx, o_mn, o_ext, o_build, o_lit, o_litOwn, o_app, o_mk, o_mvfrz, u_M1, u_M0, u_E1, optI, List.length_take, Int.toNat_zero, List.drop_zero, u_E0, o_idxN, o_idx, o_mset, o_look, o_mkmap, l_int, l_bool, l_str, l_agg, l_sl, l_own, l_ptr, l_pp, i_int, i_bool, i_str, i_sl, i_own, i_ptr, i_pp, all0, all1, e_ok1, eff, effBin, effBinN, ld_ptr, ld_pp, ld_elt, ia_own, ia_arr, el_1, el_N, load1K, faddrE, r_iaddr, sg_S, sg_c, sg_n, purL, pur, List.map, List.drop, List.take, List.length, List.foldl, List.append_eq, List.nil_append, List.cons_append, List.getD_cons_zero, List.getD_cons_succ, reduceIte, Nat.reduceEqDiff, Nat.reduceAdd, Nat.reduceLeDiff, true_and, and_true, Bool.not_true, Bool.not_false, Bool.and_true, Bool.true_and, Bool.and_self, reduceCtorEq, true_implies, false_implies, implies_true, decide_eq_true_eq, Option.map_some, fpOf, fpX, SOp.xs, oX, refs, refsL, dom, disj, List.all_nil, List.all_cons, List.contains_cons, List.contains_nil, Nat.reduceBEq, Bool.or_false, Bool.false_or, List.append_nil, Bool.not_false, Bool.not_true, List.forall_mem_cons, fm0, List.set, Nat.reduceLT, ne_eq, not_false_eq_true, not_true_eq_false, ret1, ret1N, keep0, keep1, rf_int, rf_bool, rf_str, rf_sl, rf_agg, rf_tup, rfL0, rfL1, re_t, re_cN, re_L0, re_L1, ret_tup, ret_one, decide_true, AV.bool.injEq, AV.int.injEq, Nat.reduceLeDiff, decide_eq_true_eq, decide_eq_false_iff_not, Int.toNat_natCast, List.length_map, decide_false, ghost, noref, flatOk, refsInO, wkM, str_eq, int_eq, int_ne, dec_beq, bool_beq, br_beq, brU_beq, str_lt, str_le, false_dec, true_dec, Classical.not_not, Zone.row, Zone_eta, Box6.row, box_eta6, tk_map, dp_map, toNat_pred, unZone_mk, appE, rowsOf, List.take_length, List.length_cons, List.length_nil, Nat.zero_add, srow, irow, un_s, un_i, un_box, un_Zone, un_Own, un_Part, un_Seen, un_Word, t_lap, Path5.av, Span2.row, un_stp, path_eta, irow, un_i, Int.reduceEq, Int.reduceNe, or_false, false_or, or_true, true_or, not_true_eq_false, not_false_eq_true, and_false, false_and]
  repeat' (first | with_reducible apply And.intro | with_reducible intro _)
  all_goals first
    | omega
    | exact trivial
    | grind [isDown]
def t_down : List AV → Option (Prop × AV)
  | [.agg [.str nm, .int .i64 q, .int .i64 s, .int .i64 nr, .int .i64 no, .sl t 6 tu, .sl t' 1 fl]] => some (((tu.map unBox).map Box6.row = tu ∧ (fl.map unI).map irow = fl) ∧ ((tu.map unBox).length ≤ 1048576 ∧ (fl.map unI).length ≤ 1048576), .bool (decide (isDown (tu.map unBox) (fl.map unI))))
  | _ => none
theorem h_down : ∀ args p v, t_down args = some (p, v) → p → Contract P 79 args [] v [] ∧ noref v = true ∧ No99 v := by
  intro args p v h1 h2
  unfold t_down at h1
  split at h1
  · rename_i nm q s nr no t tu t' fl
    cases h1
    obtain ⟨E, HP⟩ := h2
    have := c_down nm q s nr no t t' (tu.map unBox) (fl.map unI) HP.1 HP.2
    simp only [E.1, E.2] at this
    exact ⟨this, rfl, trivial⟩
  · cases h1
theorem c_sDown (nm : ByteArray) (q s nr no : Int) (t t' : Nat) (tu : List Box6) (fl : List Int) (hl : tu.length ≤ 1048576) (hf : fl.length ≤ 1048576) : Contract P 70 [.agg [.str nm, .int .i64 q, .int .i64 s, .int .i64 nr, .int .i64 no, .sl t 6 (tu.map Box6.row), .sl t' 1 (fl.map irow)]] [] (.bool (decide (isDown tu fl))) [] := by
  refine fn_sound (Env.nil P) hm k_spec_l43Down (Nat.le_of_ble_eq_true rfl) rfl ?_; unfold s_spec_l43Down; simp (config := { maxSteps := 2000000 }) only [w_skip, w_rg, w_rgd, w_seq, w_cond, w_block, w_loop, w_exit, w_ret, w_gh, w_rg0, w_rg1, w_rgT, w_rgF, w_run, w_psd, w_und, w_dr0, w_dr1, w_drT, w_drF, w_drRun, w_drPsd, w_drUnd, w_drKn, w_drKs, w_putK, w_trimK, w_thenN, w_thenE, w_thenR, w_scope, w_label, w_blkN, w_blkE, w_blkR, w_call, w_callV, w_callF, o_clos, o_b2s, b2sE, w_effK, brU_true, brU_false, brU_u, brU_not, brU_and, brU_or, brU_dec, brU_eq, brU_ne, br_true, br_false, br_not, br_and, br_or, br_dec, br_eq, br_ne, w_getE0, w_getE1, w_setE0, w_setE1, w_dropE0, w_dropE1, w_drop0, w_drop1, w_getM0, w_getM1, w_setM0, w_setM1, ev_v, ev_c, w_putS, w_putN, w_lit, w_apU0, w_apU1, w_apU2, w_trim, enumE0, enumE1, w_callWp, w_callA0, w_callA1, w_R0, w_R1, w_R2, w_T2, w_callL, w_callT, w_T1, w_T0, o_mv, o_newnil, o_pick, o_bin, o_binN, o_neg, o_not, o_eqB, o_eqS, o_conv, o_alloc, o_box, o_load1, o_loadN, o_store, o_nilck, o_faddr, o_field1, o_fieldN, o_iaddr, o_istr, o_slStr, o_slSl, o_lenS, o_lenL, o_mx, o_mn, o_ext, o_build, o_lit, o_litOwn, o_app, o_mk, o_mvfrz, u_M1, u_M0, u_E1, optI, List.length_take, Int.toNat_zero, List.drop_zero, u_E0, o_idxN, o_idx, o_mset, o_look, o_mkmap, l_int, l_bool, l_str, l_agg, l_sl, l_own, l_ptr, l_pp, i_int, i_bool, i_str, i_sl, i_own, i_ptr, i_pp, all0, all1, e_ok1, eff, effBin, effBinN, ld_ptr, ld_pp, ld_elt, ia_own, ia_arr, el_1, el_N, load1K, faddrE, r_iaddr, sg_S, sg_c, sg_n, purL, pur, List.map, List.drop, List.take, List.length, List.foldl, List.append_eq, List.nil_append, List.cons_append, List.getD_cons_zero, List.getD_cons_succ, reduceIte, Nat.reduceEqDiff, Nat.reduceAdd, Nat.reduceLeDiff, true_and, and_true, Bool.not_true, Bool.not_false, Bool.and_true, Bool.true_and, Bool.and_self, reduceCtorEq, true_implies, false_implies, implies_true, decide_eq_true_eq, Option.map_some, fpOf, fpX, SOp.xs, oX, refs, refsL, dom, disj, List.all_nil, List.all_cons, List.contains_cons, List.contains_nil, Nat.reduceBEq, Bool.or_false, Bool.false_or, List.append_nil, Bool.not_false, Bool.not_true, List.forall_mem_cons, fm0, List.set, Nat.reduceLT, ne_eq, not_false_eq_true, not_true_eq_false, ret1, ret1N, keep0, keep1, rf_int, rf_bool, rf_str, rf_sl, rf_agg, rf_tup, rfL0, rfL1, re_t, re_cN, re_L0, re_L1, ret_tup, ret_one, decide_true, AV.bool.injEq, AV.int.injEq, Nat.reduceLeDiff, decide_eq_true_eq, decide_eq_false_iff_not, Int.toNat_natCast, List.length_map, decide_false, ghost, noref, flatOk, refsInO, wkM, str_eq, int_eq, int_ne, dec_beq, bool_beq, br_beq, brU_beq, str_lt, str_le, false_dec, true_dec, Classical.not_not, Zone.row, Zone_eta, Box6.row, box_eta6, tk_map, dp_map, toNat_pred, unZone_mk, appE, rowsOf, List.take_length, List.length_cons, List.length_nil, Nat.zero_add, srow, irow, un_s, un_i, un_box, un_Zone, un_Own, un_Part, un_Seen, un_Word, t_lap, Path5.av, Span2.row, un_stp, path_eta, irow, un_i, Int.reduceEq, Int.reduceNe, or_false, false_or, or_true, true_or, not_true_eq_false, not_false_eq_true, and_false, false_and]
  repeat' (first | with_reducible apply And.intro | with_reducible intro _)
  all_goals first
    | omega
    | exact trivial
    | grind [isDown]
def t_sDown : List AV → Option (Prop × AV)
  | [.agg [.str nm, .int .i64 q, .int .i64 s, .int .i64 nr, .int .i64 no, .sl t 6 tu, .sl t' 1 fl]] => some (((tu.map unBox).map Box6.row = tu ∧ (fl.map unI).map irow = fl) ∧ ((tu.map unBox).length ≤ 1048576 ∧ (fl.map unI).length ≤ 1048576), .bool (decide (isDown (tu.map unBox) (fl.map unI))))
  | _ => none
theorem h_sDown : ∀ args p v, t_sDown args = some (p, v) → p → Contract P 70 args [] v [] ∧ noref v = true ∧ No99 v := by
  intro args p v h1 h2
  unfold t_sDown at h1
  split at h1
  · rename_i nm q s nr no t tu t' fl
    cases h1
    obtain ⟨E, HP⟩ := h2
    have := c_sDown nm q s nr no t t' (tu.map unBox) (fl.map unI) HP.1 HP.2
    simp only [E.1, E.2] at this
    exact ⟨this, rfl, trivial⟩
  · cases h1
def t_iLawful : List AV → Option (Prop × AV)
  | [.agg [.int .i64 q, .int .i64 s, .sl t 7 xs, .int .i64 f, .int .i64 b], .sl t' 1 ys] => some (((xs.map unStp).map Stp7.row = xs ∧ (ys.map unI).map irow = ys) ∧ (True), .bool (decide (Path5.lawful ⟨q, s, xs.map unStp, f, b⟩ (ys.map unI))))
  | _ => none
theorem h_iLawful : ∀ args p v, t_iLawful args = some (p, v) → p → Contract P 80 args [] v [] ∧ noref v = true ∧ No99 v := by
  intro args p v h1 h2
  unfold t_iLawful at h1
  split at h1
  · rename_i q s t xs f b t' ys
    cases h1
    obtain ⟨E, HP⟩ := h2
    have := c_iLawful ⟨q, s, xs.map unStp, f, b⟩ t t' (ys.map unI)
    simp only [E.1, E.2] at this
    exact ⟨this, rfl, trivial⟩
  · cases h1
def t_sLawful : List AV → Option (Prop × AV)
  | [.agg [.int .i64 q, .int .i64 s, .sl t 7 xs, .int .i64 f, .int .i64 b], .sl t' 1 ys] => some (((xs.map unStp).map Stp7.row = xs ∧ (ys.map unI).map irow = ys) ∧ (True), .bool (decide (Path5.lawful ⟨q, s, xs.map unStp, f, b⟩ (ys.map unI))))
  | _ => none
theorem h_sLawful : ∀ args p v, t_sLawful args = some (p, v) → p → Contract P 71 args [] v [] ∧ noref v = true ∧ No99 v := by
  intro args p v h1 h2
  unfold t_sLawful at h1
  split at h1
  · rename_i q s t xs f b t' ys
    cases h1
    obtain ⟨E, HP⟩ := h2
    have := c_sLawful ⟨q, s, xs.map unStp, f, b⟩ t t' (ys.map unI)
    simp only [E.1, E.2] at this
    exact ⟨this, rfl, trivial⟩
  · cases h1
def holdsOk (zs : List Zone) (q s : Int) (tu : List Box6) (fl : List Int) (now : Int) : Prop := tubeOk zs tu ∧ (0 < fl.length → fl.getD (fl.length - 1) default ≤ now) ∧ (isDown tu fl → (lapPath q s tu).lawful fl) ∧ (¬ isDown tu fl → (lapPath q s tu).begun fl ∧ (lapPath q s tu).stays fl now)
instance (zs : List Zone) (q s : Int) (tu : List Box6) (fl : List Int) (now : Int) : Decidable (holdsOk zs q s tu fl now) := Classical.propDecidable _
def craftOk (zs : List Zone) (nm : ByteArray) (q s nr no : Int) (tu : List Box6) (fl : List Int) (now : Int) : Prop := nameOk nm ∧ (1 ≤ q ∧ q ≤ s ∧ s ≤ 50) ∧ (0 ≤ nr ∧ nr ≤ 1000000) ∧ (0 ≤ no ∧ no ≤ 1000000) ∧ (0 ≤ now ∧ now ≤ 10000) ∧
  (nr = 0 → tu.length = 0 ∧ fl.length = 0) ∧ (nr ≠ 0 → no ≠ nr ∧ holdsOk zs q s tu fl now)
instance (zs : List Zone) (nm : ByteArray) (q s nr no : Int) (tu : List Box6) (fl : List Int) (now : Int) : Decidable (craftOk zs nm q s nr no tu fl now) := Classical.propDecidable _
set_option maxHeartbeats 2000000 in
theorem c_craftOk (nm : ByteArray) (q s nr no : Int) (t0 t t' : Nat) (zs : List Zone) (tu : List Box6) (fl : List Int) (now : Int) (hz : zs.length ≤ 4611686018427387904) (hl : tu.length ≤ 1048576) (hf : fl.length ≤ 1048576) : Contract P 37 [.sl t0 5 (zs.map Zone.row), .agg [.str nm, .int .i64 q, .int .i64 s, .int .i64 nr, .int .i64 no, .sl t 6 (tu.map Box6.row), .sl t' 1 (fl.map irow)], .int .i64 now] [] (.bool (decide (craftOk zs nm q s nr no tu fl now))) [] := by
  refine fn_sound ((((((((((Env.nil P).add 75 t_within h_within).add 76 t_isName h_isName).add 77 t_iKindOk h_iKindOk).add 78 t_tubeOk h_tubeOk).add 79 t_down h_down).add 80 t_iLawful h_iLawful).add 81 t_iLap h_iLap).add 82 t_cnext h_cnext).add 83 t_stays h_stays) hm k_impl_craftOk (Nat.le_of_ble_eq_true rfl) rfl ?_; unfold s_impl_craftOk; simp (config := { maxSteps := 2000000 }) only [w_skip, w_rg, w_rgd, w_seq, w_cond, w_block, w_loop, w_exit, w_ret, w_gh, w_rg0, w_rg1, w_rgT, w_rgF, w_run, w_psd, w_und, w_dr0, w_dr1, w_drT, w_drF, w_drRun, w_drPsd, w_drUnd, w_drKn, w_drKs, w_putK, w_trimK, w_thenN, w_thenE, w_thenR, w_scope, w_label, w_blkN, w_blkE, w_blkR, w_call, w_callV, w_callF, o_clos, o_b2s, b2sE, w_effK, brU_true, brU_false, brU_u, brU_not, brU_and, brU_or, brU_dec, brU_eq, brU_ne, br_true, br_false, br_not, br_and, br_or, br_dec, br_eq, br_ne, w_getE0, w_getE1, w_setE0, w_setE1, w_dropE0, w_dropE1, w_drop0, w_drop1, w_getM0, w_getM1, w_setM0, w_setM1, ev_v, ev_c, w_putS, w_putN, w_lit, w_apU0, w_apU1, w_apU2, w_trim, enumE0, enumE1, w_callWp, w_callA0, w_callA1, w_R0, w_R1, w_R2, w_T2, w_callL, w_callT, w_T1, w_T0, o_mv, o_newnil, o_pick, o_bin, o_binN, o_neg, o_not, o_eqB, o_eqS, o_conv, o_alloc, o_box, o_load1, o_loadN, o_store, o_nilck, o_faddr, o_field1, o_fieldN, o_iaddr, o_istr, o_slStr, o_slSl, o_lenS, o_lenL, o_mx, o_mn, o_ext, o_build, o_lit, o_litOwn, o_app, o_mk, o_mvfrz, u_M1, u_M0, u_E1, optI, List.length_take, Int.toNat_zero, List.drop_zero, u_E0, o_idxN, o_idx, o_mset, o_look, o_mkmap, l_int, l_bool, l_str, l_agg, l_sl, l_own, l_ptr, l_pp, i_int, i_bool, i_str, i_sl, i_own, i_ptr, i_pp, all0, all1, e_ok1, eff, effBin, effBinN, ld_ptr, ld_pp, ld_elt, ia_own, ia_arr, el_1, el_N, load1K, faddrE, r_iaddr, sg_S, sg_c, sg_n, purL, pur, List.map, List.drop, List.take, List.length, List.foldl, List.append_eq, List.nil_append, List.cons_append, List.getD_cons_zero, List.getD_cons_succ, reduceIte, Nat.reduceEqDiff, Nat.reduceAdd, Nat.reduceLeDiff, true_and, and_true, Bool.not_true, Bool.not_false, Bool.and_true, Bool.true_and, Bool.and_self, reduceCtorEq, true_implies, false_implies, implies_true, decide_eq_true_eq, Option.map_some, fpOf, fpX, SOp.xs, oX, refs, refsL, dom, disj, List.all_nil, List.all_cons, List.contains_cons, List.contains_nil, Nat.reduceBEq, Bool.or_false, Bool.false_or, List.append_nil, Bool.not_false, Bool.not_true, List.forall_mem_cons, fm0, List.set, Nat.reduceLT, ne_eq, not_false_eq_true, not_true_eq_false, ret1, ret1N, keep0, keep1, rf_int, rf_bool, rf_str, rf_sl, rf_agg, rf_tup, rfL0, rfL1, re_t, re_cN, re_L0, re_L1, ret_tup, ret_one, decide_true, AV.bool.injEq, AV.int.injEq, Nat.reduceLeDiff, decide_eq_true_eq, decide_eq_false_iff_not, Int.toNat_natCast, List.length_map, decide_false, ghost, noref, flatOk, refsInO, wkM, str_eq, int_eq, int_ne, dec_beq, bool_beq, br_beq, brU_beq, str_lt, str_le, false_dec, true_dec, Classical.not_not, t_within, t_isName, t_iKindOk, t_tubeOk, t_down, t_iLawful, t_iLap, t_cnext, t_stays, Zone.row, Zone_eta, Box6.row, box_eta6, tk_map, dp_map, toNat_pred, unZone_mk, appE, rowsOf, List.take_length, List.length_cons, List.length_nil, Nat.zero_add, srow, irow, un_s, un_i, un_box, un_Zone, un_Own, un_Part, un_Seen, un_Word, t_lap, Path5.av, Span2.row, un_stp, path_eta, irow, un_i, Int.reduceEq, Int.reduceNe, or_false, false_or, or_true, true_or, not_true_eq_false, not_false_eq_true, and_false, false_and]
  have hbo : (lapPath q s tu).begun fl → pathOk (lapPath q s tu).q (lapPath q s tu).s (lapPath q s tu).l (lapPath q s tu).f (lapPath q s tu).b := fun h => h.1
  repeat' (first | with_reducible apply And.intro | with_reducible intro _)
  all_goals first
    | with_reducible assumption
    | omega
    | exact trivial
    | grind [craftOk, holdsOk]
theorem c_sHolds (nm : ByteArray) (q s nr no : Int) (t0 t t' : Nat) (zs : List Zone) (tu : List Box6) (fl : List Int) (now : Int) (hz : zs.length ≤ 4611686018427387904) (hl : tu.length ≤ 1048576) (hf : fl.length ≤ 1048576) (hw : 0 ≤ now ∧ now ≤ 10000) : Contract P 31 [.sl t0 5 (zs.map Zone.row), .agg [.str nm, .int .i64 q, .int .i64 s, .int .i64 nr, .int .i64 no, .sl t 6 (tu.map Box6.row), .sl t' 1 (fl.map irow)], .int .i64 now] [] (.bool (decide (zonesOk zs ∧ holdsOk zs q s tu fl now))) [] := by
  refine fn_sound (((((((Env.nil P).add 68 t_sLap h_sLap).add 69 t_sTubeOk h_sTubeOk).add 70 t_sDown h_sDown).add 71 t_sLawful h_sLawful).add 72 t_begun h_begun).add 73 t_sStays h_sStays) hm k_spec_l43HoldsOk (Nat.le_of_ble_eq_true rfl) rfl ?_; unfold s_spec_l43HoldsOk; simp (config := { maxSteps := 2000000 }) only [w_skip, w_rg, w_rgd, w_seq, w_cond, w_block, w_loop, w_exit, w_ret, w_gh, w_rg0, w_rg1, w_rgT, w_rgF, w_run, w_psd, w_und, w_dr0, w_dr1, w_drT, w_drF, w_drRun, w_drPsd, w_drUnd, w_drKn, w_drKs, w_putK, w_trimK, w_thenN, w_thenE, w_thenR, w_scope, w_label, w_blkN, w_blkE, w_blkR, w_call, w_callV, w_callF, o_clos, o_b2s, b2sE, w_effK, brU_true, brU_false, brU_u, brU_not, brU_and, brU_or, brU_dec, brU_eq, brU_ne, br_true, br_false, br_not, br_and, br_or, br_dec, br_eq, br_ne, w_getE0, w_getE1, w_setE0, w_setE1, w_dropE0, w_dropE1, w_drop0, w_drop1, w_getM0, w_getM1, w_setM0, w_setM1, ev_v, ev_c, w_putS, w_putN, w_lit, w_apU0, w_apU1, w_apU2, w_trim, enumE0, enumE1, w_callWp, w_callA0, w_callA1, w_R0, w_R1, w_R2, w_T2, w_callL, w_callT, w_T1, w_T0, o_mv, o_newnil, o_pick, o_bin, o_binN, o_neg, o_not, o_eqB, o_eqS, o_conv, o_alloc, o_box, o_load1, o_loadN, o_store, o_nilck, o_faddr, o_field1, o_fieldN, o_iaddr, o_istr, o_slStr, o_slSl, o_lenS, o_lenL, o_mx, o_mn, o_ext, o_build, o_lit, o_litOwn, o_app, o_mk, o_mvfrz, u_M1, u_M0, u_E1, optI, List.length_take, Int.toNat_zero, List.drop_zero, u_E0, o_idxN, o_idx, o_mset, o_look, o_mkmap, l_int, l_bool, l_str, l_agg, l_sl, l_own, l_ptr, l_pp, i_int, i_bool, i_str, i_sl, i_own, i_ptr, i_pp, all0, all1, e_ok1, eff, effBin, effBinN, ld_ptr, ld_pp, ld_elt, ia_own, ia_arr, el_1, el_N, load1K, faddrE, r_iaddr, sg_S, sg_c, sg_n, purL, pur, List.map, List.drop, List.take, List.length, List.foldl, List.append_eq, List.nil_append, List.cons_append, List.getD_cons_zero, List.getD_cons_succ, reduceIte, Nat.reduceEqDiff, Nat.reduceAdd, Nat.reduceLeDiff, true_and, and_true, Bool.not_true, Bool.not_false, Bool.and_true, Bool.true_and, Bool.and_self, reduceCtorEq, true_implies, false_implies, implies_true, decide_eq_true_eq, Option.map_some, fpOf, fpX, SOp.xs, oX, refs, refsL, dom, disj, List.all_nil, List.all_cons, List.contains_cons, List.contains_nil, Nat.reduceBEq, Bool.or_false, Bool.false_or, List.append_nil, Bool.not_false, Bool.not_true, List.forall_mem_cons, fm0, List.set, Nat.reduceLT, ne_eq, not_false_eq_true, not_true_eq_false, ret1, ret1N, keep0, keep1, rf_int, rf_bool, rf_str, rf_sl, rf_agg, rf_tup, rfL0, rfL1, re_t, re_cN, re_L0, re_L1, ret_tup, ret_one, decide_true, AV.bool.injEq, AV.int.injEq, Nat.reduceLeDiff, decide_eq_true_eq, decide_eq_false_iff_not, Int.toNat_natCast, List.length_map, decide_false, ghost, noref, flatOk, refsInO, wkM, str_eq, int_eq, int_ne, dec_beq, bool_beq, br_beq, brU_beq, str_lt, str_le, false_dec, true_dec, Classical.not_not, t_sLap, t_sTubeOk, t_sDown, t_sLawful, t_begun, t_sStays, Zone.row, Zone_eta, Box6.row, box_eta6, tk_map, dp_map, toNat_pred, unZone_mk, appE, rowsOf, List.take_length, List.length_cons, List.length_nil, Nat.zero_add, srow, irow, un_s, un_i, un_box, un_Zone, un_Own, un_Part, un_Seen, un_Word, t_lap, Path5.av, Span2.row, un_stp, path_eta, irow, un_i, Int.reduceEq, Int.reduceNe, or_false, false_or, or_true, true_or, not_true_eq_false, not_false_eq_true, and_false, false_and]
  have hbo : (lapPath q s tu).begun fl → (lapPath q s tu).calm := fun h => ok_calm h.1
  repeat' (first | with_reducible apply And.intro | with_reducible intro _)
  all_goals first
    | with_reducible assumption
    | omega
    | exact trivial
    | grind [holdsOk]
def t_craftOk : List AV → Option (Prop × AV)
  | [.sl t0 5 zx, .agg [.str nm, .int .i64 q, .int .i64 s, .int .i64 nr, .int .i64 no, .sl t 6 tu, .sl t' 1 fl], .int .i64 now] => some (((zx.map unZone).map Zone.row = zx ∧ (tu.map unBox).map Box6.row = tu ∧ (fl.map unI).map irow = fl) ∧ ((zx.map unZone).length ≤ 4611686018427387904 ∧ (tu.map unBox).length ≤ 1048576 ∧ (fl.map unI).length ≤ 1048576), .bool (decide (craftOk (zx.map unZone) nm q s nr no (tu.map unBox) (fl.map unI) now)))
  | _ => none
theorem h_craftOk : ∀ args p v, t_craftOk args = some (p, v) → p → Contract P 37 args [] v [] ∧ noref v = true ∧ No99 v := by
  intro args p v h1 h2
  unfold t_craftOk at h1
  split at h1
  · rename_i t0 zx nm q s nr no t tu t' fl now
    cases h1
    obtain ⟨E, HP⟩ := h2
    have := c_craftOk nm q s nr no t0 t t' (zx.map unZone) (tu.map unBox) (fl.map unI) now HP.1 HP.2.1 HP.2.2
    simp only [E.1, E.2.1, E.2.2] at this
    exact ⟨this, rfl, trivial⟩
  · cases h1
def t_sHolds : List AV → Option (Prop × AV)
  | [.sl t0 5 zx, .agg [.str nm, .int .i64 q, .int .i64 s, .int .i64 nr, .int .i64 no, .sl t 6 tu, .sl t' 1 fl], .int .i64 now] => some (((zx.map unZone).map Zone.row = zx ∧ (tu.map unBox).map Box6.row = tu ∧ (fl.map unI).map irow = fl) ∧ ((zx.map unZone).length ≤ 4611686018427387904 ∧ (tu.map unBox).length ≤ 1048576 ∧ (fl.map unI).length ≤ 1048576 ∧ (0 ≤ now ∧ now ≤ 10000)), .bool (decide (zonesOk (zx.map unZone) ∧ holdsOk (zx.map unZone) q s (tu.map unBox) (fl.map unI) now)))
  | _ => none
theorem h_sHolds : ∀ args p v, t_sHolds args = some (p, v) → p → Contract P 31 args [] v [] ∧ noref v = true ∧ No99 v := by
  intro args p v h1 h2
  unfold t_sHolds at h1
  split at h1
  · rename_i t0 zx nm q s nr no t tu t' fl now
    cases h1
    obtain ⟨E, HP⟩ := h2
    have := c_sHolds nm q s nr no t0 t t' (zx.map unZone) (tu.map unBox) (fl.map unI) now HP.1 HP.2.1 HP.2.2.1 HP.2.2.2
    simp only [E.1, E.2.1, E.2.2] at this
    exact ⟨this, rfl, trivial⟩
  · cases h1
theorem c_iLapCraftOk (nm : ByteArray) (q s nr no : Int) (t0 t t' : Nat) (zs : List Zone) (tu : List Box6) (fl : List Int) (now : Int) (hz : zs.length ≤ 4611686018427387904) (hl : tu.length ≤ 1048576) (hf : fl.length ≤ 1048576) : Contract P 11 [.sl t0 5 (zs.map Zone.row), .agg [.str nm, .int .i64 q, .int .i64 s, .int .i64 nr, .int .i64 no, .sl t 6 (tu.map Box6.row), .sl t' 1 (fl.map irow)], .int .i64 now] [] (.bool (decide ((nr ≠ 0 → zonesOk zs) ∧ craftOk zs nm q s nr no tu fl now))) [] := by
  refine fn_sound (((Env.nil P).add 36 t_zonesOk h_zonesOk).add 37 t_craftOk h_craftOk) hm k_impl_LapCraftOk (Nat.le_of_ble_eq_true rfl) rfl ?_; unfold s_impl_LapCraftOk; simp (config := { maxSteps := 2000000 }) only [w_skip, w_rg, w_rgd, w_seq, w_cond, w_block, w_loop, w_exit, w_ret, w_gh, w_rg0, w_rg1, w_rgT, w_rgF, w_run, w_psd, w_und, w_dr0, w_dr1, w_drT, w_drF, w_drRun, w_drPsd, w_drUnd, w_drKn, w_drKs, w_putK, w_trimK, w_thenN, w_thenE, w_thenR, w_scope, w_label, w_blkN, w_blkE, w_blkR, w_call, w_callV, w_callF, o_clos, o_b2s, b2sE, w_effK, brU_true, brU_false, brU_u, brU_not, brU_and, brU_or, brU_dec, brU_eq, brU_ne, br_true, br_false, br_not, br_and, br_or, br_dec, br_eq, br_ne, w_getE0, w_getE1, w_setE0, w_setE1, w_dropE0, w_dropE1, w_drop0, w_drop1, w_getM0, w_getM1, w_setM0, w_setM1, ev_v, ev_c, w_putS, w_putN, w_lit, w_apU0, w_apU1, w_apU2, w_trim, enumE0, enumE1, w_callWp, w_callA0, w_callA1, w_R0, w_R1, w_R2, w_T2, w_callL, w_callT, w_T1, w_T0, o_mv, o_newnil, o_pick, o_bin, o_binN, o_neg, o_not, o_eqB, o_eqS, o_conv, o_alloc, o_box, o_load1, o_loadN, o_store, o_nilck, o_faddr, o_field1, o_fieldN, o_iaddr, o_istr, o_slStr, o_slSl, o_lenS, o_lenL, o_mx, o_mn, o_ext, o_build, o_lit, o_litOwn, o_app, o_mk, o_mvfrz, u_M1, u_M0, u_E1, optI, List.length_take, Int.toNat_zero, List.drop_zero, u_E0, o_idxN, o_idx, o_mset, o_look, o_mkmap, l_int, l_bool, l_str, l_agg, l_sl, l_own, l_ptr, l_pp, i_int, i_bool, i_str, i_sl, i_own, i_ptr, i_pp, all0, all1, e_ok1, eff, effBin, effBinN, ld_ptr, ld_pp, ld_elt, ia_own, ia_arr, el_1, el_N, load1K, faddrE, r_iaddr, sg_S, sg_c, sg_n, purL, pur, List.map, List.drop, List.take, List.length, List.foldl, List.append_eq, List.nil_append, List.cons_append, List.getD_cons_zero, List.getD_cons_succ, reduceIte, Nat.reduceEqDiff, Nat.reduceAdd, Nat.reduceLeDiff, true_and, and_true, Bool.not_true, Bool.not_false, Bool.and_true, Bool.true_and, Bool.and_self, reduceCtorEq, true_implies, false_implies, implies_true, decide_eq_true_eq, Option.map_some, fpOf, fpX, SOp.xs, oX, refs, refsL, dom, disj, List.all_nil, List.all_cons, List.contains_cons, List.contains_nil, Nat.reduceBEq, Bool.or_false, Bool.false_or, List.append_nil, Bool.not_false, Bool.not_true, List.forall_mem_cons, fm0, List.set, Nat.reduceLT, ne_eq, not_false_eq_true, not_true_eq_false, ret1, ret1N, keep0, keep1, rf_int, rf_bool, rf_str, rf_sl, rf_agg, rf_tup, rfL0, rfL1, re_t, re_cN, re_L0, re_L1, ret_tup, ret_one, decide_true, AV.bool.injEq, AV.int.injEq, Nat.reduceLeDiff, decide_eq_true_eq, decide_eq_false_iff_not, Int.toNat_natCast, List.length_map, decide_false, ghost, noref, flatOk, refsInO, wkM, str_eq, int_eq, int_ne, dec_beq, bool_beq, br_beq, brU_beq, str_lt, str_le, false_dec, true_dec, Classical.not_not, t_zonesOk, t_craftOk, Zone.row, Zone_eta, Box6.row, box_eta6, tk_map, dp_map, toNat_pred, unZone_mk, appE, rowsOf, List.take_length, List.length_cons, List.length_nil, Nat.zero_add, srow, irow, un_s, un_i, un_box, un_Zone, un_Own, un_Part, un_Seen, un_Word, t_lap, Path5.av, Span2.row, un_stp, path_eta, irow, un_i, Int.reduceEq, Int.reduceNe, or_false, false_or, or_true, true_or, not_true_eq_false, not_false_eq_true, and_false, false_and]
  repeat' (first | with_reducible apply And.intro | with_reducible intro _)
  all_goals first
    | with_reducible assumption
    | omega
    | exact trivial
    | grind [craftOk]
theorem c_sLapCraftOk (nm : ByteArray) (q s nr no : Int) (t0 t t' : Nat) (zs : List Zone) (tu : List Box6) (fl : List Int) (now : Int) (hz : zs.length ≤ 4611686018427387904) (hl : tu.length ≤ 1048576) (hf : fl.length ≤ 1048576) : Contract P 8 [.sl t0 5 (zs.map Zone.row), .agg [.str nm, .int .i64 q, .int .i64 s, .int .i64 nr, .int .i64 no, .sl t 6 (tu.map Box6.row), .sl t' 1 (fl.map irow)], .int .i64 now] [] (.bool (decide ((nr ≠ 0 → zonesOk zs) ∧ craftOk zs nm q s nr no tu fl now))) [] := by
  refine fn_sound (((((Env.nil P).add 28 t_l31NameOk h_l31NameOk).add 29 t_sKindOk h_sKindOk).add 30 t_l1In h_l1In).add 31 t_sHolds h_sHolds) hm k_spec_LapCraftOk (Nat.le_of_ble_eq_true rfl) rfl ?_; unfold s_spec_LapCraftOk; simp (config := { maxSteps := 2000000 }) only [w_skip, w_rg, w_rgd, w_seq, w_cond, w_block, w_loop, w_exit, w_ret, w_gh, w_rg0, w_rg1, w_rgT, w_rgF, w_run, w_psd, w_und, w_dr0, w_dr1, w_drT, w_drF, w_drRun, w_drPsd, w_drUnd, w_drKn, w_drKs, w_putK, w_trimK, w_thenN, w_thenE, w_thenR, w_scope, w_label, w_blkN, w_blkE, w_blkR, w_call, w_callV, w_callF, o_clos, o_b2s, b2sE, w_effK, brU_true, brU_false, brU_u, brU_not, brU_and, brU_or, brU_dec, brU_eq, brU_ne, br_true, br_false, br_not, br_and, br_or, br_dec, br_eq, br_ne, w_getE0, w_getE1, w_setE0, w_setE1, w_dropE0, w_dropE1, w_drop0, w_drop1, w_getM0, w_getM1, w_setM0, w_setM1, ev_v, ev_c, w_putS, w_putN, w_lit, w_apU0, w_apU1, w_apU2, w_trim, enumE0, enumE1, w_callWp, w_callA0, w_callA1, w_R0, w_R1, w_R2, w_T2, w_callL, w_callT, w_T1, w_T0, o_mv, o_newnil, o_pick, o_bin, o_binN, o_neg, o_not, o_eqB, o_eqS, o_conv, o_alloc, o_box, o_load1, o_loadN, o_store, o_nilck, o_faddr, o_field1, o_fieldN, o_iaddr, o_istr, o_slStr, o_slSl, o_lenS, o_lenL, o_mx, o_mn, o_ext, o_build, o_lit, o_litOwn, o_app, o_mk, o_mvfrz, u_M1, u_M0, u_E1, optI, List.length_take, Int.toNat_zero, List.drop_zero, u_E0, o_idxN, o_idx, o_mset, o_look, o_mkmap, l_int, l_bool, l_str, l_agg, l_sl, l_own, l_ptr, l_pp, i_int, i_bool, i_str, i_sl, i_own, i_ptr, i_pp, all0, all1, e_ok1, eff, effBin, effBinN, ld_ptr, ld_pp, ld_elt, ia_own, ia_arr, el_1, el_N, load1K, faddrE, r_iaddr, sg_S, sg_c, sg_n, purL, pur, List.map, List.drop, List.take, List.length, List.foldl, List.append_eq, List.nil_append, List.cons_append, List.getD_cons_zero, List.getD_cons_succ, reduceIte, Nat.reduceEqDiff, Nat.reduceAdd, Nat.reduceLeDiff, true_and, and_true, Bool.not_true, Bool.not_false, Bool.and_true, Bool.true_and, Bool.and_self, reduceCtorEq, true_implies, false_implies, implies_true, decide_eq_true_eq, Option.map_some, fpOf, fpX, SOp.xs, oX, refs, refsL, dom, disj, List.all_nil, List.all_cons, List.contains_cons, List.contains_nil, Nat.reduceBEq, Bool.or_false, Bool.false_or, List.append_nil, Bool.not_false, Bool.not_true, List.forall_mem_cons, fm0, List.set, Nat.reduceLT, ne_eq, not_false_eq_true, not_true_eq_false, ret1, ret1N, keep0, keep1, rf_int, rf_bool, rf_str, rf_sl, rf_agg, rf_tup, rfL0, rfL1, re_t, re_cN, re_L0, re_L1, ret_tup, ret_one, decide_true, AV.bool.injEq, AV.int.injEq, Nat.reduceLeDiff, decide_eq_true_eq, decide_eq_false_iff_not, Int.toNat_natCast, List.length_map, decide_false, ghost, noref, flatOk, refsInO, wkM, str_eq, int_eq, int_ne, dec_beq, bool_beq, br_beq, brU_beq, str_lt, str_le, false_dec, true_dec, Classical.not_not, t_l31NameOk, t_sKindOk, t_l1In, t_sHolds, Zone.row, Zone_eta, Box6.row, box_eta6, tk_map, dp_map, toNat_pred, unZone_mk, appE, rowsOf, List.take_length, List.length_cons, List.length_nil, Nat.zero_add, srow, irow, un_s, un_i, un_box, un_Zone, un_Own, un_Part, un_Seen, un_Word, t_lap, Path5.av, Span2.row, un_stp, path_eta, irow, un_i, Int.reduceEq, Int.reduceNe, or_false, false_or, or_true, true_or, not_true_eq_false, not_false_eq_true, and_false, false_and]
  repeat' (first | with_reducible apply And.intro | with_reducible intro _)
  all_goals first
    | with_reducible assumption
    | omega
    | exact trivial
    | grind [craftOk]
def t_iLapCraftOk : List AV → Option (Prop × AV)
  | [.sl t0 5 zx, .agg [.str nm, .int .i64 q, .int .i64 s, .int .i64 nr, .int .i64 no, .sl t 6 tu, .sl t' 1 fl], .int .i64 now] => some (((zx.map unZone).map Zone.row = zx ∧ (tu.map unBox).map Box6.row = tu ∧ (fl.map unI).map irow = fl) ∧ ((zx.map unZone).length ≤ 4611686018427387904 ∧ (tu.map unBox).length ≤ 1048576 ∧ (fl.map unI).length ≤ 1048576), .bool (decide ((nr ≠ 0 → zonesOk (zx.map unZone)) ∧ craftOk (zx.map unZone) nm q s nr no (tu.map unBox) (fl.map unI) now)))
  | _ => none
theorem h_iLapCraftOk : ∀ args p v, t_iLapCraftOk args = some (p, v) → p → Contract P 11 args [] v [] ∧ noref v = true ∧ No99 v := by
  intro args p v h1 h2
  unfold t_iLapCraftOk at h1
  split at h1
  · rename_i t0 zx nm q s nr no t tu t' fl now
    cases h1
    obtain ⟨E, HP⟩ := h2
    have := c_iLapCraftOk nm q s nr no t0 t t' (zx.map unZone) (tu.map unBox) (fl.map unI) now HP.1 HP.2.1 HP.2.2
    simp only [E.1, E.2.1, E.2.2] at this
    exact ⟨this, rfl, trivial⟩
  · cases h1
def t_sLapCraftOk : List AV → Option (Prop × AV)
  | [.sl t0 5 zx, .agg [.str nm, .int .i64 q, .int .i64 s, .int .i64 nr, .int .i64 no, .sl t 6 tu, .sl t' 1 fl], .int .i64 now] => some (((zx.map unZone).map Zone.row = zx ∧ (tu.map unBox).map Box6.row = tu ∧ (fl.map unI).map irow = fl) ∧ ((zx.map unZone).length ≤ 4611686018427387904 ∧ (tu.map unBox).length ≤ 1048576 ∧ (fl.map unI).length ≤ 1048576), .bool (decide ((nr ≠ 0 → zonesOk (zx.map unZone)) ∧ craftOk (zx.map unZone) nm q s nr no (tu.map unBox) (fl.map unI) now)))
  | _ => none
theorem h_sLapCraftOk : ∀ args p v, t_sLapCraftOk args = some (p, v) → p → Contract P 8 args [] v [] ∧ noref v = true ∧ No99 v := by
  intro args p v h1 h2
  unfold t_sLapCraftOk at h1
  split at h1
  · rename_i t0 zx nm q s nr no t tu t' fl now
    cases h1
    obtain ⟨E, HP⟩ := h2
    have := c_sLapCraftOk nm q s nr no t0 t t' (zx.map unZone) (tu.map unBox) (fl.map unI) now HP.1 HP.2.1 HP.2.2
    simp only [E.1, E.2.1, E.2.2] at this
    exact ⟨this, rfl, trivial⟩
  · cases h1
end
end Go.Ve

namespace Go.Ve
noncomputable section
open Go.Proofs
set_option linter.unusedSimpArgs false
set_option linter.unusedVariables false
set_option maxRecDepth 100000
open Go.ChangeShapes Go.WideShapes
def t_eqCraft : List AV → Option (Prop × AV)
  | [.agg [.str nm, .int .i64 q, .int .i64 s, .int .i64 nr, .int .i64 no, .sl t 6 tu, .sl t' 1 fl], .agg [.str nm2, .int .i64 q2, .int .i64 s2, .int .i64 nr2, .int .i64 no2, .sl t2 6 tu2, .sl t3 1 fl2]] =>
    some (((tu.map unBox).map Box6.row = tu ∧ (fl.map unI).map irow = fl) ∧ (nm2 = nm ∧ q2 = q ∧ s2 = s ∧ nr2 = nr ∧ no2 = no ∧ tu2 = tu ∧ fl2 = fl) ∧ (tu.map unBox).length ≤ 1048576 ∧ (fl.map unI).length ≤ 1048576, .bool true)
  | _ => none
theorem h_eqCraft : ∀ args p v, t_eqCraft args = some (p, v) → p → Contract P 13 args [] v [] ∧ noref v = true ∧ No99 v := by
  intro args p v h1 h2
  unfold t_eqCraft at h1
  split at h1
  · rename_i nm q s nr no t tu t' fl nm2 q2 s2 nr2 no2 t2 tu2 t3 fl2
    cases h1
    obtain ⟨E, ⟨rfl, rfl, rfl, rfl, rfl, rfl, rfl⟩, HP⟩ := h2
    have := c_eqCraft1 nm2 q2 s2 nr2 no2 t t' (tu2.map unBox) (fl2.map unI) t2 t3 HP.1 HP.2
    simp only [E.1, E.2] at this
    exact ⟨this, rfl, trivial⟩
  · cases h1
theorem szCraft_ok {a : Int} {n m k : Nat} (ha : a ≤ 1048576) (h : 0 ≤ szCraft a n m k) : m ≤ 1048576 ∧ k ≤ 1048576 := by
  unfold szCraft at h; split at h <;> omega
theorem c_FnExactLapCraftOk (t0 t t' : Nat) (zs : List Zone) (nm : ByteArray) (q s nr no : Int) (tu : List Box6) (fl : List Int) (now : Int) (hz : zs.length ≤ 9223372036854775807 ∧ ∀ y ∈ zs, y.fitp) (hn : nm.toList.length ≤ 9223372036854775807) (hu : tu.length ≤ 9223372036854775807) (hk : fl.length ≤ 9223372036854775807) :
    Contract P 3 [.sl t0 5 (zs.map Zone.row), .agg [.str nm, .int .i64 q, .int .i64 s, .int .i64 nr, .int .i64 no, .sl t 6 (tu.map Box6.row), .sl t' 1 (fl.map irow)], .int .i64 now] [] (.bool true) [] := by
  have z1 : 0 ≤ szS Zone.sz zs 1048576 → zs.length ≤ 1048576 := fun h => (szS_ok (p := fun _ => True) meas_Zone (fun _ _ _ _ => trivial) (by omega) h).1
  have z2 : szS Zone.sz zs 1048576 ≤ 1048576 := by have := (meas_szS meas_Zone zs 1048576 (by omega)).2.2; omega
  have z3 : 0 ≤ szCraft (szS Zone.sz zs 1048576) nm.toList.length tu.length fl.length → tu.length ≤ 1048576 ∧ fl.length ≤ 1048576 := fun h => szCraft_ok z2 h
  refine fn_sound (((((((((Env.nil P).add 6 t_szZoneS h_szZoneS).add 7 t_szCraft h_szCraft).add 9 t_toZoneS h_toZoneS).add 10 t_toCraft h_toCraft).add 8 t_sLapCraftOk h_sLapCraftOk).add 11 t_iLapCraftOk h_iLapCraftOk).add 12 t_eqZoneS h_eqZoneS).add 13 t_eqCraft h_eqCraft) hm k_laws_FnExactLapCraftOk (Nat.le_of_ble_eq_true rfl) rfl ?_; unfold s_laws_FnExactLapCraftOk; simp (config := { maxSteps := 2000000 }) only [w_skip, w_rg, w_rgd, w_seq, w_cond, w_block, w_loop, w_exit, w_ret, w_gh, w_rg0, w_rg1, w_rgT, w_rgF, w_run, w_psd, w_und, w_dr0, w_dr1, w_drT, w_drF, w_drRun, w_drPsd, w_drUnd, w_drKn, w_drKs, w_putK, w_trimK, w_thenN, w_thenE, w_thenR, w_scope, w_label, w_blkN, w_blkE, w_blkR, w_call, w_callV, w_callF, o_clos, o_b2s, b2sE, w_effK, brU_true, brU_false, brU_u, brU_not, brU_and, brU_or, brU_dec, brU_eq, brU_ne, br_true, br_false, br_not, br_and, br_or, br_dec, br_eq, br_ne, w_getE0, w_getE1, w_setE0, w_setE1, w_dropE0, w_dropE1, w_drop0, w_drop1, w_getM0, w_getM1, w_setM0, w_setM1, ev_v, ev_c, w_putS, w_putN, w_lit, w_apU0, w_apU1, w_apU2, w_trim, enumE0, enumE1, w_callWp, w_callA0, w_callA1, w_R0, w_R1, w_R2, w_T2, w_callL, w_callT, w_T1, w_T0, o_mv, o_newnil, o_pick, o_bin, o_binN, o_neg, o_not, o_eqB, o_eqS, o_conv, o_alloc, o_box, o_load1, o_loadN, o_store, o_nilck, o_faddr, o_field1, o_fieldN, o_iaddr, o_istr, o_slStr, o_slSl, o_lenS, o_lenL, o_mx, o_mn, o_ext, o_build, o_lit, o_litOwn, o_app, o_mk, o_mvfrz, u_M1, u_M0, u_E1, optI, List.length_take, Int.toNat_zero, List.drop_zero, u_E0, o_idxN, o_idx, o_mset, o_look, o_mkmap, l_int, l_bool, l_str, l_agg, l_sl, l_own, l_ptr, l_pp, i_int, i_bool, i_str, i_sl, i_own, i_ptr, i_pp, all0, all1, e_ok1, eff, effBin, effBinN, ld_ptr, ld_pp, ld_elt, ia_own, ia_arr, el_1, el_N, load1K, faddrE, r_iaddr, sg_S, sg_c, sg_n, purL, pur, List.map, List.drop, List.take, List.length, List.foldl, List.append_eq, List.nil_append, List.cons_append, List.getD_cons_zero, List.getD_cons_succ, reduceIte, Nat.reduceEqDiff, Nat.reduceAdd, Nat.reduceLeDiff, true_and, and_true, Bool.not_true, Bool.not_false, Bool.and_true, Bool.true_and, Bool.and_self, reduceCtorEq, true_implies, false_implies, implies_true, decide_eq_true_eq, Option.map_some, fpOf, fpX, SOp.xs, oX, refs, refsL, dom, disj, List.all_nil, List.all_cons, List.contains_cons, List.contains_nil, Nat.reduceBEq, Bool.or_false, Bool.false_or, List.append_nil, Bool.not_false, Bool.not_true, List.forall_mem_cons, fm0, List.set, Nat.reduceLT, ne_eq, not_false_eq_true, not_true_eq_false, ret1, ret1N, keep0, keep1, rf_int, rf_bool, rf_str, rf_sl, rf_agg, rf_tup, rfL0, rfL1, re_t, re_cN, re_L0, re_L1, ret_tup, ret_one, decide_true, AV.bool.injEq, AV.int.injEq, Nat.reduceLeDiff, decide_eq_true_eq, decide_eq_false_iff_not, Int.toNat_natCast, List.length_map, decide_false, ghost, noref, flatOk, refsInO, wkM, str_eq, int_eq, int_ne, dec_beq, bool_beq, br_beq, brU_beq, str_lt, str_le, false_dec, true_dec, Classical.not_not, t_szZoneS, t_szCraft, t_toZoneS, t_toCraft, t_sLapCraftOk, t_iLapCraftOk, t_eqZoneS, t_eqCraft, Zone.row, Zone_eta, Box6.row, box_eta6, un_box, un_Zone, un_s, un_i, irow]
  generalize szS Zone.sz zs 1048576 = n1 at *
  generalize szCraft n1 nm.toList.length tu.length fl.length = n2 at *
  repeat' (first | with_reducible apply And.intro | with_reducible intro _)
  all_goals first
    | omega
    | with_reducible assumption
    | exact trivial
    | exact hz.1
    | exact hz.2 _ (by assumption)
    | exact (z3 (by omega)).1
    | exact (z3 (by omega)).2
    | rfl
def sh_Craft : List LSh := [.str, .int .i64, .int .i64, .int .i64, .int .i64, .sl sh_Box6, .sl sh_Int]
end
end Go.Ve

