/- Part 3 of the proof: laws and contracts of functions, each proved; they are joined in the last part. No conditions beyond those that the theorems state. -/
import Derived.Test.YtnggoadnhnbmkaaProg
import Derived.Test.YtnggoadnhnbmkaaTu2
set_option linter.all false
namespace Go.Ve
open Go.Proofs
set_option linter.unusedSimpArgs false
set_option linter.unusedVariables false
set_option maxRecDepth 100000
/-- A code's bytes, and its reader. -/
def brow (b : Nat) : List AV := [.int .u8 (b : Int)]
def rd (cs : List Nat) (p : Int) : AObj := .box [.sl 1 1 (cs.map brow), .int .i64 p]
def okB (B : List (List AV)) : Prop := ∃ cs : List Nat, B = cs.map brow ∧ (∀ b ∈ cs, b ≤ 255) ∧ cs.length ≤ 2000
theorem okCode_get {cs : List Nat} (h : ∀ b ∈ cs, b ≤ 255) (i : Nat) : cs.getD i default ≤ 255 := by
  by_cases hi : i < cs.length
  · have : cs.getD i default = cs[i] := by simp [hi]
    rw [this]; exact h _ (List.getElem_mem hi)
  · have : cs.getD i default = 0 := by simp [List.getD_eq_getElem?_getD, Nat.not_lt.1 hi]
    rw [this]; omega
theorem xor_nn {a b : Int} (ha : 0 ≤ a ∧ a < 4611686018427387904) (hb : 0 ≤ b ∧ b < 4611686018427387904) : 0 ≤ bitsV .xor .i64 a b := by
  have h1 : (BitVec.ofInt 64 a).toNat < 4611686018427387904 := by
    rw [BitVec.toNat_ofInt]; omega
  have h2 : (BitVec.ofInt 64 b).toNat < 4611686018427387904 := by
    rw [BitVec.toNat_ofInt]; omega
  have h3 : ((BitVec.ofInt 64 a) ^^^ (BitVec.ofInt 64 b)).toNat < 2 ^ 62 := by
    rw [BitVec.toNat_xor]; exact Nat.xor_lt_two_pow h1 h2
  show 0 ≤ IntKind.i64.wrap (((BitVec.ofInt 64 a) ^^^ (BitVec.ofInt 64 b)).toNat : Int)
  rw [IntWalk.i64_in _ (by omega)]
  omega
theorem c_pick (cs : List Nat) (p n : Int) (hcs : ∀ b ∈ cs, b ≤ 255) (hl : cs.length ≤ 2000) (hp : 0 ≤ p ∧ p ≤ 1099511627776) : ∃ x : Int, (0 ≤ x ∧ (x < n ∨ x = 0)) ∧ Contract P 52 [.ptr 3 0, .int .i64 n] [(3, rd cs p)] (.int .i64 x) [(3, rd cs (p + 1))] := by
  have hc := okCode_get hcs
  have hw : ∀ i, IntKind.i64.wrap ((cs.getD i default : Nat) : Int) = (cs.getD i default : Nat) := fun i => IntWalk.i64_in _ (by have := hc i; omega)
  refine fn_choose (Env.nil P) Go.Ve.hm k_spec_l21Rd_pick (Nat.le_of_ble_eq_true rfl) rfl (fun x => 0 ≤ x ∧ (x < n ∨ x = 0)) (fun x => .int .i64 x) (fun _ => [(3, rd cs (p + 1))]) ?_
  unfold s_spec_l21Rd_pick
  simp only [w_skip, w_rg, w_rgd, w_seq, w_cond, w_block, w_loop, w_exit, w_ret, w_gh, w_rg0, w_rg1, w_rgT, w_rgF, w_run, w_psd, w_und, w_dr0, w_dr1, w_drT, w_drF, w_drRun, w_drPsd, w_drUnd, w_drKn, w_drKs, w_putK, w_trimK, w_thenN, w_thenE, w_thenR, w_scope, w_label, w_blkN, w_blkE, w_blkR, w_call, w_effK, brU_true, brU_false, brU_u, brU_not, brU_and, brU_or, brU_dec, brU_eq, brU_ne, br_true, br_false, br_not, br_and, br_or, br_dec, br_eq, br_ne, w_getE0, w_getE1, w_setE0, w_setE1, w_dropE0, w_dropE1, w_drop0, w_drop1, w_getM0, w_getM1, w_setM0, w_setM1, ev_v, ev_c, w_putS, w_putN, w_lit, w_apU0, w_apU1, w_apU2, w_trim, enumE0, enumE1, w_callWp, w_callA0, w_callA1, w_R0, w_R1, w_R2, w_T2, w_callL, w_callT, w_T1, w_T0, o_mv, o_newnil, o_pick, o_bin, o_binN, o_neg, o_not, o_eqB, o_eqS, o_conv, o_alloc, o_box, o_load1, o_loadN, o_store, o_nilck, o_faddr, o_field1, o_fieldN, o_iaddr, o_istr, o_slStr, o_slSl, o_lenS, o_lenL, o_mx, o_mn, o_ext, o_build, o_lit, o_litOwn, o_app, o_mk, o_mvfrz, l_int, l_bool, l_str, l_agg, l_sl, l_own, l_ptr, l_pp, i_int, i_bool, i_str, i_sl, i_own, i_ptr, i_pp, all0, all1, e_ok1, eff, effBin, effBinN, ld_ptr, ld_pp, ld_elt, ia_own, ia_arr, el_1, el_N, load1K, faddrE, r_iaddr, sg_S, sg_c, sg_n, purL, pur, List.map, List.drop, List.take, List.length, List.foldl, List.append_eq, List.nil_append, List.cons_append, List.getD_cons_zero, List.getD_cons_succ, reduceIte, Nat.reduceEqDiff, Nat.reduceAdd, Nat.reduceLeDiff, true_and, and_true, Bool.not_true, Bool.not_false, Bool.and_true, Bool.true_and, Bool.and_self, reduceCtorEq, true_implies, false_implies, implies_true, decide_eq_true_eq, Option.map_some, fpOf, fpX, SOp.xs, oX, refs, refsL, dom, disj, List.all_nil, List.all_cons, List.contains_cons, List.contains_nil, Nat.reduceBEq, Bool.or_false, Bool.false_or, List.append_nil, Bool.not_false, Bool.not_true, List.forall_mem_cons, fm0, List.set, Nat.reduceLT, ne_eq, not_false_eq_true, not_true_eq_false
, ret1, ret1N, keep0, keep1, rf_int, rf_bool, rf_str, rf_sl, rf_agg, rf_tup, rfL0, rfL1, re_t, re_cN, re_L0, re_L1, ret_tup, ret_one, decide_true, AV.bool.injEq, AV.int.injEq, Nat.reduceLeDiff, Bool.true_eq, Bool.false_eq, decide_eq_true_eq, decide_eq_false_iff_not, List.length_map, rd, brow, retG_ret, ghost, w_psd, retQ_eq, retOk, wkM, refsInO, keepB, Int.toNat_natCast, hw]
  refine ⟨by omega, fun h1 => ⟨0, by omega, rfl, rfl⟩, fun h1 => ⟨fun h2 => ⟨0, by omega, rfl, rfl⟩, fun h2 => ⟨by omega, fun h3 => ?_, fun h3 => ?_⟩⟩⟩
  · have hk : 0 ≤ p + 1 - 1 := by omega
    generalize p + 1 - 1 = k at *
    have := hc k.toNat
    refine ⟨by omega, by omega, by omega, _, ⟨Int.emod_nonneg _ (by omega), .inl (Int.emod_lt_of_pos _ (by omega))⟩, rfl, rfl⟩
  · have hk : 0 ≤ p + 1 - 1 ∧ p + 1 - 1 ≤ 1099511627776 := by omega
    generalize p + 1 - 1 = k at *
    have hL : 0 < (cs.length : Int) := by omega
    have e1 := Int.emod_nonneg k (show (cs.length : Int) ≠ 0 by omega)
    have e2 := Int.emod_lt_of_pos k hL
    have e3 := Int.emod_nonneg (k * 7 + 3) (show (cs.length : Int) ≠ 0 by omega)
    have e4 := Int.emod_lt_of_pos (k * 7 + 3) hL
    have b1 := hc (k % (cs.length : Int)).toNat
    have b2 := hc ((k * 7 + 3) % (cs.length : Int)).toNat
    have q1 : 0 ≤ k / (cs.length : Int) := Int.ediv_nonneg hk.1 (by omega)
    have q2 : k / (cs.length : Int) ≤ k := Int.ediv_le_self _ hk.1
    generalize (cs.getD (k % (cs.length : Int)).toNat default) = x1 at *
    generalize (cs.getD ((k * 7 + 3) % (cs.length : Int)).toNat default) = x2 at *
    generalize k / (cs.length : Int) = k2 at *
    generalize k % (cs.length : Int) = k3 at *
    generalize (k * 7 + 3) % (cs.length : Int) = k4 at *
    have hx : 0 ≤ (x1 : Int) * 131 + x2 * 1117 + k * 29 + k2 * 53 ∧ (x1 : Int) * 131 + x2 * 1117 + k * 29 + k2 * 53 < 4611686018427387904 := by omega
    have hxx := xor_nn hx (b := ((x1 : Int) * 131 + x2 * 1117 + k * 29 + k2 * 53) / 64) (by omega)
    refine ⟨by omega, by omega, by omega, by omega, by omega, by omega, by omega, by omega, by omega, by omega, by omega, by omega, by omega, by omega, by omega, by omega, by omega, ⟨hxx, by omega⟩, _, ⟨Int.emod_nonneg _ (by omega), .inl (Int.emod_lt_of_pos _ (by omega))⟩, rfl, rfl⟩
mutual
theorem ren_noref (s : Nat → Nat) : ∀ x : AV, noref x = true → ren s x = x
  | .agg ls, h => by simp only [noref] at h; simp only [ren, renL_noref s ls h]
  | .tup ls, h => by simp only [noref] at h; simp only [ren, renL_noref s ls h]
  | .fn f a b, h => by simp only [noref, Bool.and_eq_true] at h; simp only [ren, renL_noref s a h.1, renL_noref s b h.2]
  | .own .., h => by simp [noref] at h
  | .ptr .., h => by simp [noref] at h
  | .elt .., h => by simp [noref] at h
  | .junk, h => rfl
  | .int .., h => rfl
  | .bool .., h => rfl
  | .str .., h => rfl
  | .sl .., h => rfl
  | .pp .., h => rfl
theorem renL_noref (s : Nat → Nat) : ∀ x : List AV, norefL x = true → renL s x = x
  | [], _ => rfl
  | x :: xs, h => by simp only [norefL, Bool.and_eq_true] at h; simp only [renL, ren_noref s x h.1, renL_noref s xs h.2]
end
mutual
theorem refsIn_noref (d : List Nat) : ∀ x : AV, noref x = true → refsIn d x = true
  | .agg ls, h => by simp only [noref] at h; simp only [refsIn, refsInL_noref d ls h]
  | .tup ls, h => by simp only [noref] at h; simp only [refsIn, refsInL_noref d ls h]
  | .fn f a b, h => by simp only [noref, Bool.and_eq_true] at h; simp only [refsIn, refsInL_noref d a h.1, refsInL_noref d b h.2, Bool.and_self]
  | .own .., h => by simp [noref] at h
  | .ptr .., h => by simp [noref] at h
  | .elt .., h => by simp [noref] at h
  | .junk, h => rfl
  | .int .., h => rfl
  | .bool .., h => rfl
  | .str .., h => rfl
  | .sl .., h => rfl
  | .pp .., h => rfl
theorem refsInL_noref (d : List Nat) : ∀ x : List AV, norefL x = true → refsInL d x = true
  | [], _ => rfl
  | x :: xs, h => by simp only [norefL, Bool.and_eq_true] at h; simp only [refsInL, refsIn_noref d x h.1, refsInL_noref d xs h.2, Bool.and_self]
end
/-- A callee that is handed the reader (and values that lead to nothing of the call's own). -/
theorem callR_rd {f : FuncId} {args : List AV} {cs : List Nat} {p p' : Int} {r : AV} {M : Nat → Option AObj} (o : Nat) (hC : Contract P f (.ptr 3 0 :: args) [(3, rd cs p)] r [(3, rd cs p')]) (ha : norefL args = true) (hr : noref r = true) (hM : M o = some (rd cs p)) :
    callR P f (.ptr o 0 :: args) M r [(o, rd cs p')] := by
  have h := hC.ren (swp 3 o) (swp_swp 3 o)
  have e3 : swp 3 o 3 = o := by simp [swp]
  have eo : ∀ q, renO (swp 3 o) (rd cs q) = rd cs q := fun q => by simp only [rd, renO, renL, ren]
  simp only [renL, ren, renM, e3, eo, renL_noref _ _ ha, ren_noref _ _ hr] at h
  have ed : ∀ q : Int, dom [(o, rd cs q)] = [o] := fun q => rfl
  refine .inl ⟨[(o, rd cs p)], h, by simpa using hM, fun q hq => .inl ?_, ?_, ?_, ?_, refsIn_noref _ _ hr, ?_⟩
  · simp only [List.mem_singleton] at hq; subst hq; simp [ed]
  · simp [ed]
  · simp only [refsInL, refsIn, ed, refsInL_noref _ _ ha, Bool.and_true]; simp
  · simp [rd, refsInO, refsInL, refsIn]
  · simp [rd, refsInO, refsInL, refsIn]
theorem re_tup {st : St} {xs : List SRes} {r : List AV} : (∃ vs, resLP st xs vs ∧ AV.tup r = AV.tup vs) = resLP st xs r :=
  propext ⟨fun ⟨vs, h1, h2⟩ => by cases h2; exact h1, fun h => ⟨r, h, rfl⟩⟩
theorem or_t : (decide False || true) = true := rfl
/-- What a read object must be. -/
def rdOk (off t sz : Nat) (B : List (List AV)) (p lim : Int) : Prop := off = 0 ∧ t = 1 ∧ sz = 1 ∧ okB B ∧ 0 ≤ p ∧ p ≤ lim
def r_pick : RTab
  | [.ptr o off, .int .i64 n], M => match M o with
    | some (.box [.sl t sz B, .int .i64 p]) => some ⟨rdOk off t sz B p 1099511627776, fun x : Int => 0 ≤ x ∧ (x < n ∨ x = 0), fun x => .int .i64 x, fun _ => [(o, .box [.sl t sz B, .int .i64 (p + 1)])]⟩
    | _ => none
  | _, _ => none
theorem h_pick : okTab P 52 r_pick := by
  intro args M o h hp
  unfold r_pick at h
  split at h
  · rename_i o' off n
    split at h
    · rename_i t sz B p hM
      cases h
      obtain ⟨rfl, rfl, rfl, ⟨cs, rfl, h1, h2⟩, h3, h4⟩ := hp
      obtain ⟨x, hx, hC⟩ := c_pick cs p n h1 h2 ⟨h3, h4⟩
      exact ⟨x, hx, callR_rd o' hC rfl rfl hM⟩
    · cases h
  · cases h
theorem rdOk_of {cs : List Nat} {p lim : Int} (hB : okB (cs.map brow)) : rdOk 0 1 1 (cs.map brow) p lim = (0 ≤ p ∧ p ≤ lim) := by simp only [rdOk, hB, true_and]
end Go.Ve

namespace Go.Ve
open Go.Proofs
set_option linter.unusedSimpArgs false
set_option linter.unusedVariables false
set_option maxRecDepth 100000
theorem c_lKind (cs : List Nat) (p : Int)  (hB : okB (cs.map brow)) (hp : 0 ≤ p ∧ p ≤ 1099511627770) (hc : True) : ∃ a : Int × Int × Int, (p ≤ a.2.2 ∧ a.2.2 ≤ p + 3) ∧ Contract P 114 [.ptr 3 0] [(3, rd cs p)] (.agg [.int .i64 a.1, .int .i64 a.2.1]) [(3, rd cs (a.2.2))] := by
  refine fn_choose ((Env.nil P).addR 52 r_pick h_pick) Go.Ve.hm k_spec_l30Kind (Nat.le_of_ble_eq_true rfl) rfl (fun a : Int × Int × Int => p ≤ a.2.2 ∧ a.2.2 ≤ p + 3) (fun a => .agg [.int .i64 a.1, .int .i64 a.2.1]) (fun a => [(3, rd cs (a.2.2))]) ?_
  unfold s_spec_l30Kind
  have hR : ∀ {p lim : Int}, rdOk 0 1 1 (cs.map brow) p lim = (0 ≤ p ∧ p ≤ lim) := rdOk_of hB
  simp only [w_skip, w_rg, w_rgd, w_seq, w_cond, w_block, w_loop, w_exit, w_ret, w_gh, w_rg0, w_rg1, w_rgT, w_rgF, w_run, w_psd, w_und, w_dr0, w_dr1, w_drT, w_drF, w_drRun, w_drPsd, w_drUnd, w_drKn, w_drKs, w_putK, w_trimK, w_thenN, w_thenE, w_thenR, w_scope, w_label, w_blkN, w_blkE, w_blkR, w_call, w_effK, brU_true, brU_false, brU_u, brU_not, brU_and, brU_or, brU_dec, brU_eq, brU_ne, br_true, br_false, br_not, br_and, br_or, br_dec, br_eq, br_ne, w_getE0, w_getE1, w_setE0, w_setE1, w_dropE0, w_dropE1, w_drop0, w_drop1, w_getM0, w_getM1, w_setM0, w_setM1, ev_v, ev_c, w_putS, w_putN, w_lit, w_apU0, w_apU1, w_apU2, w_trim, enumE0, enumE1, w_callWp, w_callA0, w_callA1, w_R0, w_R1, w_R2, w_T2, w_callL, w_callT, w_T1, w_T0, o_mv, o_newnil, o_pick, o_bin, o_binN, o_neg, o_not, o_eqB, o_eqS, o_conv, o_alloc, o_box, o_load1, o_loadN, o_store, o_nilck, o_faddr, o_field1, o_fieldN, o_iaddr, o_istr, o_slStr, o_slSl, o_lenS, o_lenL, o_mx, o_mn, o_ext, o_build, o_lit, o_litOwn, o_app, o_mk, o_mvfrz, l_int, l_bool, l_str, l_agg, l_sl, l_own, l_ptr, l_pp, i_int, i_bool, i_str, i_sl, i_own, i_ptr, i_pp, all0, all1, e_ok1, eff, effBin, effBinN, ld_ptr, ld_pp, ld_elt, ia_own, ia_arr, el_1, el_N, load1K, faddrE, r_iaddr, sg_S, sg_c, sg_n, purL, pur, List.map, List.drop, List.take, List.length, List.foldl, List.append_eq, List.nil_append, List.cons_append, List.getD_cons_zero, List.getD_cons_succ, reduceIte, Nat.reduceEqDiff, Nat.reduceAdd, Nat.reduceLeDiff, true_and, and_true, Bool.not_true, Bool.not_false, Bool.and_true, Bool.true_and, Bool.and_self, reduceCtorEq, true_implies, false_implies, implies_true, decide_eq_true_eq, Option.map_some, fpOf, fpX, SOp.xs, oX, refs, refsL, dom, disj, List.all_nil, List.all_cons, List.contains_cons, List.contains_nil, Nat.reduceBEq, Bool.or_false, Bool.false_or, List.append_nil, Bool.not_false, Bool.not_true, List.forall_mem_cons, fm0, List.set, Nat.reduceLT, ne_eq, not_false_eq_true, not_true_eq_false
, ret1, ret1N, keep0, keep1, rf_int, rf_bool, rf_str, rf_sl, rf_agg, rf_tup, rfL0, rfL1, re_t, re_cN, re_L0, re_L1, ret_tup, ret_one, decide_true, AV.bool.injEq, AV.int.injEq, Nat.reduceLeDiff, Bool.true_eq, Bool.false_eq, decide_eq_true_eq, decide_eq_false_iff_not, hR, re_tup, or_t, List.length_map, rd, brow, retG_ret, ghost, retQ_eq, retOk, wkM, refsInO, keepB, Int.toNat_natCast, noref, flatOk, r_pick]
  exact ⟨by omega, fun a ha => ⟨by omega, fun b hb => ⟨by omega, fun c hc => ⟨fun h => ⟨(_, _, _), ⟨by simp only; omega, by simp only; omega⟩, rfl, rfl⟩, fun h => ⟨(_, _, _), ⟨by simp only; omega, by simp only; omega⟩, rfl, rfl⟩⟩⟩⟩⟩
def r_lKind : RTab
  | [.ptr o off], M => match M o with
    | some (.box [.sl t sz B, .int .i64 p]) => some ⟨rdOk off t sz B p 1099511627770 ∧ True, fun a : Int × Int × Int => p ≤ a.2.2 ∧ a.2.2 ≤ p + 3, fun a => .agg [.int .i64 a.1, .int .i64 a.2.1], fun a => [(o, .box [.sl t sz B, .int .i64 (a.2.2)])]⟩
    | _ => none
  | _, _ => none
theorem h_lKind : okTab P 114 r_lKind := by
  intro args M o h hp
  unfold r_lKind at h
  split at h
  · split at h
    · rename_i hM
      cases h
      obtain ⟨⟨rfl, rfl, rfl, ⟨cs, rfl, h1, h2⟩, h3, h4⟩, hc⟩ := hp
      obtain ⟨x, hx, hC⟩ := c_lKind cs _  ⟨cs, rfl, h1, h2⟩ ⟨h3, h4⟩ hc
      exact ⟨x, hx, callR_rd _ hC rfl rfl hM⟩
    · cases h
  · cases h
def lessV (a b : Int) : Int := if b > a then 0 else IntKind.i64.wrap (a - b)
theorem c_less (a b : Int) (hp : True) : Contract P 115 [.int .i64 a, .int .i64 b] [] (.int .i64 (lessV a b)) [] := by
  refine fn_sound (Env.nil P) hm k_spec_l30Less (Nat.le_of_ble_eq_true rfl) rfl ?_
  unfold s_spec_l30Less
  simp only [w_skip, w_rg, w_rgd, w_seq, w_cond, w_block, w_loop, w_exit, w_ret, w_gh, w_rg0, w_rg1, w_rgT, w_rgF, w_run, w_psd, w_und, w_dr0, w_dr1, w_drT, w_drF, w_drRun, w_drPsd, w_drUnd, w_drKn, w_drKs, w_putK, w_trimK, w_thenN, w_thenE, w_thenR, w_scope, w_label, w_blkN, w_blkE, w_blkR, w_call, w_effK, brU_true, brU_false, brU_u, brU_not, brU_and, brU_or, brU_dec, brU_eq, brU_ne, br_true, br_false, br_not, br_and, br_or, br_dec, br_eq, br_ne, w_getE0, w_getE1, w_setE0, w_setE1, w_dropE0, w_dropE1, w_drop0, w_drop1, w_getM0, w_getM1, w_setM0, w_setM1, ev_v, ev_c, w_putS, w_putN, w_lit, w_apU0, w_apU1, w_apU2, w_trim, enumE0, enumE1, w_callWp, w_callA0, w_callA1, w_R0, w_R1, w_R2, w_T2, w_callL, w_callT, w_T1, w_T0, o_mv, o_newnil, o_pick, o_bin, o_binN, o_neg, o_not, o_eqB, o_eqS, o_conv, o_alloc, o_box, o_load1, o_loadN, o_store, o_nilck, o_faddr, o_field1, o_fieldN, o_iaddr, o_istr, o_slStr, o_slSl, o_lenS, o_lenL, o_mx, o_mn, o_ext, o_build, o_lit, o_litOwn, o_app, o_mk, o_mvfrz, l_int, l_bool, l_str, l_agg, l_sl, l_own, l_ptr, l_pp, i_int, i_bool, i_str, i_sl, i_own, i_ptr, i_pp, all0, all1, e_ok1, eff, effBin, effBinN, ld_ptr, ld_pp, ld_elt, ia_own, ia_arr, el_1, el_N, load1K, faddrE, r_iaddr, sg_S, sg_c, sg_n, purL, pur, List.map, List.drop, List.take, List.length, List.foldl, List.append_eq, List.nil_append, List.cons_append, List.getD_cons_zero, List.getD_cons_succ, reduceIte, Nat.reduceEqDiff, Nat.reduceAdd, Nat.reduceLeDiff, true_and, and_true, Bool.not_true, Bool.not_false, Bool.and_true, Bool.true_and, Bool.and_self, reduceCtorEq, true_implies, false_implies, implies_true, decide_eq_true_eq, Option.map_some, fpOf, fpX, SOp.xs, oX, refs, refsL, dom, disj, List.all_nil, List.all_cons, List.contains_cons, List.contains_nil, Nat.reduceBEq, Bool.or_false, Bool.false_or, List.append_nil, Bool.not_false, Bool.not_true, List.forall_mem_cons, fm0, List.set, Nat.reduceLT, ne_eq, not_false_eq_true, not_true_eq_false
, ret1, ret1N, keep0, keep1, rf_int, rf_bool, rf_str, rf_sl, rf_agg, rf_tup, rfL0, rfL1, re_t, re_cN, re_L0, re_L1, ret_tup, ret_one, decide_true, AV.bool.injEq, AV.int.injEq, Nat.reduceLeDiff, Bool.true_eq, Bool.false_eq, decide_eq_true_eq, decide_eq_false_iff_not]
  exact ⟨fun h => by rw [lessV, if_pos h], fun h => by rw [lessV, if_neg h]⟩
def t_less : List AV → Option (Prop × AV)
  | [.int .i64 a, .int .i64 b] => some (True, .int .i64 (lessV a b))
  | _ => none
theorem h_less : ∀ args p v, t_less args = some (p, v) → p → Contract P 115 args [] v [] ∧ noref v = true ∧ No99 v := by
  intro args p v h1 h2
  unfold t_less at h1
  split at h1
  · cases h1; exact ⟨c_less _ _ h2, rfl, trivial⟩
  · cases h1
theorem wrap_succ {n : Int} (h : -4611686018427387904 ≤ n ∧ n ≤ 4611686018427387904) : IntKind.i64.wrap (n + 1) = n + 1 := IntWalk.i64_in _ (by omega)
structure StepS where
  n : Int
  p : Int
def F_step (cs : List Nat) (x y : Int) (a : StepS) : St := ⟨[(0, .ptr 3 0), (1, .int .i64 x), (2, .int .i64 y), (8, .int .i64 a.n)], [(3, rd cs a.p)]⟩
theorem c_lStep (cs : List Nat) (p : Int) (x y : Int) (hB : okB (cs.map brow)) (hp : 0 ≤ p ∧ p ≤ 1099511627000) (hc : True) : ∃ a : Int × Int × Int, (p ≤ a.2.2 ∧ a.2.2 ≤ p + 40) ∧ Contract P 113 [.ptr 3 0, .int .i64 x, .int .i64 y] [(3, rd cs p)] (.tup [.int .i64 a.1, .int .i64 a.2.1]) [(3, rd cs (a.2.2))] := by
  refine fn_choose (((Env.nil P).addR 52 r_pick h_pick).add 57 t_l21In h_l21In) Go.Ve.hm k_spec_l30Step (Nat.le_of_ble_eq_true rfl) rfl (fun a : Int × Int × Int => p ≤ a.2.2 ∧ a.2.2 ≤ p + 40) (fun a => .tup [.int .i64 a.1, .int .i64 a.2.1]) (fun a => [(3, rd cs (a.2.2))]) ?_
  unfold s_spec_l30Step
  have hR : ∀ {p lim : Int}, rdOk 0 1 1 (cs.map brow) p lim = (0 ≤ p ∧ p ≤ lim) := rdOk_of hB
  simp only [w_skip, w_rg, w_rgd, w_seq, w_cond, w_block, w_loop, w_exit, w_ret, w_gh, w_rg0, w_rg1, w_rgT, w_rgF, w_run, w_psd, w_und, w_dr0, w_dr1, w_drT, w_drF, w_drRun, w_drPsd, w_drUnd, w_drKn, w_drKs, w_putK, w_trimK, w_thenN, w_thenE, w_thenR, w_scope, w_label, w_blkN, w_blkE, w_blkR, w_call, w_effK, brU_true, brU_false, brU_u, brU_not, brU_and, brU_or, brU_dec, brU_eq, brU_ne, br_true, br_false, br_not, br_and, br_or, br_dec, br_eq, br_ne, w_getE0, w_getE1, w_setE0, w_setE1, w_dropE0, w_dropE1, w_drop0, w_drop1, w_getM0, w_getM1, w_setM0, w_setM1, ev_v, ev_c, w_putS, w_putN, w_lit, w_apU0, w_apU1, w_apU2, w_trim, enumE0, enumE1, w_callWp, w_callA0, w_callA1, w_R0, w_R1, w_R2, w_T2, w_callL, w_callT, w_T1, w_T0, o_mv, o_newnil, o_pick, o_bin, o_binN, o_neg, o_not, o_eqB, o_eqS, o_conv, o_alloc, o_box, o_load1, o_loadN, o_store, o_nilck, o_faddr, o_field1, o_fieldN, o_iaddr, o_istr, o_slStr, o_slSl, o_lenS, o_lenL, o_mx, o_mn, o_ext, o_build, o_lit, o_litOwn, o_app, o_mk, o_mvfrz, l_int, l_bool, l_str, l_agg, l_sl, l_own, l_ptr, l_pp, i_int, i_bool, i_str, i_sl, i_own, i_ptr, i_pp, all0, all1, e_ok1, eff, effBin, effBinN, ld_ptr, ld_pp, ld_elt, ia_own, ia_arr, el_1, el_N, load1K, faddrE, r_iaddr, sg_S, sg_c, sg_n, purL, pur, List.map, List.drop, List.take, List.length, List.foldl, List.append_eq, List.nil_append, List.cons_append, List.getD_cons_zero, List.getD_cons_succ, reduceIte, Nat.reduceEqDiff, Nat.reduceAdd, Nat.reduceLeDiff, true_and, and_true, Bool.not_true, Bool.not_false, Bool.and_true, Bool.true_and, Bool.and_self, reduceCtorEq, true_implies, false_implies, implies_true, decide_eq_true_eq, Option.map_some, fpOf, fpX, SOp.xs, oX, refs, refsL, dom, disj, List.all_nil, List.all_cons, List.contains_cons, List.contains_nil, Nat.reduceBEq, Bool.or_false, Bool.false_or, List.append_nil, Bool.not_false, Bool.not_true, List.forall_mem_cons, fm0, List.set, Nat.reduceLT, ne_eq, not_false_eq_true, not_true_eq_false
, ret1, ret1N, keep0, keep1, rf_int, rf_bool, rf_str, rf_sl, rf_agg, rf_tup, rfL0, rfL1, re_t, re_cN, re_L0, re_L1, ret_tup, ret_one, decide_true, AV.bool.injEq, AV.int.injEq, Nat.reduceLeDiff, Bool.true_eq, Bool.false_eq, decide_eq_true_eq, decide_eq_false_iff_not, t_l21In, hR, re_tup, or_t, List.length_map, rd, brow, retG_ret, ghost, retQ_eq, retOk, wkM, refsInO, keepB, Int.toNat_natCast, noref, flatOk, r_pick]
  refine loop_of (F_step cs x y) (fun a => (0 ≤ a.n ∧ a.n ≤ 20) ∧ p ≤ a.p ∧ a.p ≤ p + 2 * a.n) (fun a => 20 - a.n.toNat) ⟨0, p⟩ ⟨⟨.inr rfl, .inr rfl, .inr rfl, .inr rfl, trivial⟩, ⟨rfl, trivial⟩, rfl, rfl⟩ (by simp only; omega) ?_
  rintro ⟨n, q⟩ ⟨hn, hq1, hq2⟩
  simp only at hn hq1 hq2
  have hw1 : IntKind.i64.wrap (n + 1) = n + 1 := wrap_succ (by omega)
  unfold l_spec_l30Step_0 F_step
  simp only [w_skip, w_rg, w_rgd, w_seq, w_cond, w_block, w_loop, w_exit, w_ret, w_gh, w_rg0, w_rg1, w_rgT, w_rgF, w_run, w_psd, w_und, w_dr0, w_dr1, w_drT, w_drF, w_drRun, w_drPsd, w_drUnd, w_drKn, w_drKs, w_putK, w_trimK, w_thenN, w_thenE, w_thenR, w_scope, w_label, w_blkN, w_blkE, w_blkR, w_call, w_effK, brU_true, brU_false, brU_u, brU_not, brU_and, brU_or, brU_dec, brU_eq, brU_ne, br_true, br_false, br_not, br_and, br_or, br_dec, br_eq, br_ne, w_getE0, w_getE1, w_setE0, w_setE1, w_dropE0, w_dropE1, w_drop0, w_drop1, w_getM0, w_getM1, w_setM0, w_setM1, ev_v, ev_c, w_putS, w_putN, w_lit, w_apU0, w_apU1, w_apU2, w_trim, enumE0, enumE1, w_callWp, w_callA0, w_callA1, w_R0, w_R1, w_R2, w_T2, w_callL, w_callT, w_T1, w_T0, o_mv, o_newnil, o_pick, o_bin, o_binN, o_neg, o_not, o_eqB, o_eqS, o_conv, o_alloc, o_box, o_load1, o_loadN, o_store, o_nilck, o_faddr, o_field1, o_fieldN, o_iaddr, o_istr, o_slStr, o_slSl, o_lenS, o_lenL, o_mx, o_mn, o_ext, o_build, o_lit, o_litOwn, o_app, o_mk, o_mvfrz, l_int, l_bool, l_str, l_agg, l_sl, l_own, l_ptr, l_pp, i_int, i_bool, i_str, i_sl, i_own, i_ptr, i_pp, all0, all1, e_ok1, eff, effBin, effBinN, ld_ptr, ld_pp, ld_elt, ia_own, ia_arr, el_1, el_N, load1K, faddrE, r_iaddr, sg_S, sg_c, sg_n, purL, pur, List.map, List.drop, List.take, List.length, List.foldl, List.append_eq, List.nil_append, List.cons_append, List.getD_cons_zero, List.getD_cons_succ, reduceIte, Nat.reduceEqDiff, Nat.reduceAdd, Nat.reduceLeDiff, true_and, and_true, Bool.not_true, Bool.not_false, Bool.and_true, Bool.true_and, Bool.and_self, reduceCtorEq, true_implies, false_implies, implies_true, decide_eq_true_eq, Option.map_some, fpOf, fpX, SOp.xs, oX, refs, refsL, dom, disj, List.all_nil, List.all_cons, List.contains_cons, List.contains_nil, Nat.reduceBEq, Bool.or_false, Bool.false_or, List.append_nil, Bool.not_false, Bool.not_true, List.forall_mem_cons, fm0, List.set, Nat.reduceLT, ne_eq, not_false_eq_true, not_true_eq_false
, ret1, ret1N, keep0, keep1, rf_int, rf_bool, rf_str, rf_sl, rf_agg, rf_tup, rfL0, rfL1, re_t, re_cN, re_L0, re_L1, ret_tup, ret_one, decide_true, AV.bool.injEq, AV.int.injEq, Nat.reduceLeDiff, Bool.true_eq, Bool.false_eq, decide_eq_true_eq, decide_eq_false_iff_not, t_l21In, hR, re_tup, or_t, List.length_map, rd, brow, retG_ret, ghost, retQ_eq, retOk, wkM, refsInO, keepB, Int.toNat_natCast, noref, flatOk, r_pick]
  simp only [hw1]
  refine ⟨fun h1 => ⟨by omega, fun a ha => ⟨by omega, fun b hb => ?_⟩⟩, fun h1 => ?_⟩
  · have lp : loopK (fun m st => ∃ a : StepS, st = F_step cs x y a ∧ ((0 ≤ a.n ∧ a.n ≤ 20) ∧ p ≤ a.p ∧ a.p ≤ p + 2 * a.n) ∧ 20 - a.n.toNat = m) (20 - n.toNat) ⟨[(0, .ptr 3 0), (1, .int .i64 x), (2, .int .i64 y), (8, .int .i64 (n + 1))], [(3, rd cs (q + 1 + 1))]⟩ :=
      loopK_of ⟨n + 1, q + 1 + 1⟩ ⟨⟨.inr rfl, .inr rfl, .inr rfl, .inr rfl, trivial⟩, ⟨rfl, trivial⟩, rfl, rfl⟩ (by simp only; omega) (by simp only; omega)
    have fin : ∀ u v : Int, ∃ a : Int × Int × Int, (p ≤ a.2.2 ∧ a.2.2 ≤ p + 40) ∧ (u = a.1 ∧ v = a.2.1) ∧ some (AObj.box [.sl 1 1 (cs.map brow), .int .i64 (q + 1 + 1)]) = some (.box [.sl 1 1 (cs.map brow), .int .i64 a.2.2]) :=
      fun u v => ⟨(u, v, q + 1 + 1), ⟨by simp only; omega, by simp only; omega⟩, ⟨rfl, rfl⟩, rfl⟩
    repeat' (first | exact lp | exact fin _ _ | refine ⟨?_, ?_⟩ | intro _)
  · have fin : ∀ u v : Int, ∃ a : Int × Int × Int, (p ≤ a.2.2 ∧ a.2.2 ≤ p + 40) ∧ (u = a.1 ∧ v = a.2.1) ∧ some (AObj.box [.sl 1 1 (cs.map brow), .int .i64 q]) = some (.box [.sl 1 1 (cs.map brow), .int .i64 a.2.2]) :=
      fun u v => ⟨(u, v, q), ⟨by simp only; omega, by simp only; omega⟩, ⟨rfl, rfl⟩, rfl⟩
    exact ⟨fun _ => fin _ _, fun _ => fin _ _⟩
def r_lStep : RTab
  | [.ptr o off, .int .i64 x, .int .i64 y], M => match M o with
    | some (.box [.sl t sz B, .int .i64 p]) => some ⟨rdOk off t sz B p 1099511627000 ∧ True, fun a : Int × Int × Int => p ≤ a.2.2 ∧ a.2.2 ≤ p + 40, fun a => .tup [.int .i64 a.1, .int .i64 a.2.1], fun a => [(o, .box [.sl t sz B, .int .i64 (a.2.2)])]⟩
    | _ => none
  | _, _ => none
theorem h_lStep : okTab P 113 r_lStep := by
  intro args M o h hp
  unfold r_lStep at h
  split at h
  · split at h
    · rename_i hM
      cases h
      obtain ⟨⟨rfl, rfl, rfl, ⟨cs, rfl, h1, h2⟩, h3, h4⟩, hc⟩ := hp
      obtain ⟨x, hx, hC⟩ := c_lStep cs _ _ _ ⟨cs, rfl, h1, h2⟩ ⟨h3, h4⟩ hc
      exact ⟨x, hx, callR_rd _ hC rfl rfl hM⟩
    · cases h
  · cases h
end Go.Ve

namespace Go.Ve
open Go.Proofs
set_option linter.unusedSimpArgs false
set_option linter.unusedVariables false
set_option maxRecDepth 100000
set_option maxHeartbeats 4000000
structure PathS where
  t : Int
  x : Int
  y : Int
  low : Int
  k : Int
  m : Nat
  l : List Stp7
  p : Int
theorem snoc_row {l : List Stp7} {x y lo hi f b : Int} {h : Bool} : l.map Stp7.row ++ [[.int .i64 x, .int .i64 y, .int .i64 lo, .int .i64 hi, .int .i64 f, .int .i64 b, .bool h]] = (l ++ [(⟨x, y, lo, hi, f, b, h⟩ : Stp7)]).map Stp7.row := by simp [Stp7.row]
def F_path (cs : List Nat) (q s n : Int) (a : PathS) : St := ⟨[(0, .ptr 3 0), (2, .ptr 102 0), (3, .ptr 103 0), (4, .int .i64 a.t), (5, .int .i64 a.x), (6, .int .i64 a.y), (7, .int .i64 a.low), (8, .int .i64 n), (9, .int .i64 a.k)],
  [(3, rd cs a.p), (102, .box [.int .i64 0, .int .i64 0, .sl 0 7 [], .int .i64 0, .int .i64 0]), (103, .box [.int .i64 q, .int .i64 s, .own 169 a.m 0 a.m, .int .i64 0, .int .i64 0]), (169, .arr 64 a.m 7 (a.l.map Stp7.row))]⟩
def G_path (p n : Int) (a : PathS) : Prop := (0 ≤ a.k ∧ a.k ≤ n) ∧ ((a.m : Int) = a.k ∧ a.l.length = a.m) ∧ p ≤ a.p ∧ a.p ≤ p + 60 * a.k
theorem c_lPath (cs : List Nat) (p : Int)  (hB : okB (cs.map brow)) (hp : 0 ≤ p ∧ p ≤ 1099511600000) (hc : True) : ∃ a : Path5 × Int, ((1 ≤ a.1.l.length ∧ a.1.l.length ≤ 40) ∧ p ≤ a.2 ∧ a.2 ≤ p + 3000) ∧ Contract P 99 [.ptr 3 0] [(3, rd cs p)] (a.1.av) [(3, rd cs (a.2))] := by
  refine fn_choose (((((Env.nil P).addR 52 r_pick h_pick).addR 114 r_lKind h_lKind).addR 113 r_lStep h_lStep).add 115 t_less h_less) Go.Ve.hm k_spec_l30Path (Nat.le_of_ble_eq_true rfl) rfl (fun a : Path5 × Int => (1 ≤ a.1.l.length ∧ a.1.l.length ≤ 40) ∧ p ≤ a.2 ∧ a.2 ≤ p + 3000) (fun a => a.1.av) (fun a => [(3, rd cs (a.2))]) ?_
  unfold s_spec_l30Path
  have hR : ∀ {p lim : Int}, rdOk 0 1 1 (cs.map brow) p lim = (0 ≤ p ∧ p ≤ lim) := rdOk_of hB
  simp only [w_skip, w_rg, w_rgd, w_seq, w_cond, w_block, w_loop, w_exit, w_ret, w_gh, w_rg0, w_rg1, w_rgT, w_rgF, w_run, w_psd, w_und, w_dr0, w_dr1, w_drT, w_drF, w_drRun, w_drPsd, w_drUnd, w_drKn, w_drKs, w_putK, w_trimK, w_thenN, w_thenE, w_thenR, w_scope, w_label, w_blkN, w_blkE, w_blkR, w_call, w_effK, brU_true, brU_false, brU_u, brU_not, brU_and, brU_or, brU_dec, brU_eq, brU_ne, br_true, br_false, br_not, br_and, br_or, br_dec, br_eq, br_ne, w_getE0, w_getE1, w_setE0, w_setE1, w_dropE0, w_dropE1, w_drop0, w_drop1, w_getM0, w_getM1, w_setM0, w_setM1, ev_v, ev_c, w_putS, w_putN, w_lit, w_apU0, w_apU1, w_apU2, w_trim, enumE0, enumE1, w_callWp, w_callA0, w_callA1, w_R0, w_R1, w_R2, w_T2, w_callL, w_callT, w_T1, w_T0, o_mv, o_newnil, o_pick, o_bin, o_binN, o_neg, o_not, o_eqB, o_eqS, o_conv, o_alloc, o_box, o_load1, o_loadN, o_store, o_nilck, o_faddr, o_field1, o_fieldN, o_iaddr, o_istr, o_slStr, o_slSl, o_lenS, o_lenL, o_mx, o_mn, o_ext, o_build, o_lit, o_litOwn, o_app, o_mk, o_mvfrz, l_int, l_bool, l_str, l_agg, l_sl, l_own, l_ptr, l_pp, i_int, i_bool, i_str, i_sl, i_own, i_ptr, i_pp, all0, all1, e_ok1, eff, effBin, effBinN, ld_ptr, ld_pp, ld_elt, ia_own, ia_arr, el_1, el_N, load1K, faddrE, r_iaddr, sg_S, sg_c, sg_n, purL, pur, List.map, List.drop, List.take, List.length, List.foldl, List.append_eq, List.nil_append, List.cons_append, List.getD_cons_zero, List.getD_cons_succ, reduceIte, Nat.reduceEqDiff, Nat.reduceAdd, Nat.reduceLeDiff, true_and, and_true, Bool.not_true, Bool.not_false, Bool.and_true, Bool.true_and, Bool.and_self, reduceCtorEq, true_implies, false_implies, implies_true, decide_eq_true_eq, Option.map_some, fpOf, fpX, SOp.xs, oX, refs, refsL, dom, disj, List.all_nil, List.all_cons, List.contains_cons, List.contains_nil, Nat.reduceBEq, Bool.or_false, Bool.false_or, List.append_nil, Bool.not_false, Bool.not_true, List.forall_mem_cons, fm0, List.set, Nat.reduceLT, ne_eq, not_false_eq_true, not_true_eq_false
, ret1, ret1N, keep0, keep1, rf_int, rf_bool, rf_str, rf_sl, rf_agg, rf_tup, rfL0, rfL1, re_t, re_cN, re_L0, re_L1, ret_tup, ret_one, decide_true, AV.bool.injEq, AV.int.injEq, Nat.reduceLeDiff, Bool.true_eq, Bool.false_eq, decide_eq_true_eq, decide_eq_false_iff_not, t_less, hR, re_tup, or_t, List.length_map, rd, brow, retG_ret, ghost, retQ_eq, retOk, wkM, refsInO, keepB, Int.toNat_natCast, noref, flatOk, r_pick, r_lKind, r_lStep, Stp7.row, true_and, snoc_row, rowsOf, appE]
  refine ⟨by omega, fun a ha => ⟨by omega, fun a2 h2 => ⟨by omega, fun a4 h4 => ⟨by omega, fun a6 h6 => ⟨by omega, fun a8 h8 => ⟨by omega, fun a10 h10 => ⟨by omega, fun a12 h12 => ⟨fun e => ⟨by omega, fun a15 h15 => ?_⟩, fun e => ?_⟩⟩⟩⟩⟩⟩⟩⟩
  all_goals first
    | (rw [IntWalk.i64_in (40 - a15) (by omega)]
       generalize hn : 40 - a15 = n
       have hn1 : 1 ≤ n ∧ n ≤ 40 := by omega
       clear hn h15
       generalize hq : a.2.2 + 1 + 1 + 1 + 1 + 1 + 1 + 1 = p1
       have hp1 : p ≤ p1 ∧ p1 ≤ p + 20 := by omega
       clear hq)
    | (rw [IntWalk.i64_in (1 + a10) (by omega)]
       generalize hn : 1 + a10 = n
       have hn1 : 1 ≤ n ∧ n ≤ 40 := by omega
       clear hn
       generalize hq : a.2.2 + 1 + 1 + 1 + 1 + 1 + 1 = p1
       have hp1 : p ≤ p1 ∧ p1 ≤ p + 20 := by omega
       clear hq)
  all_goals
    refine loop_of (F_path cs a.1 a.2.1 n) (G_path p1 n) (fun b => (n - b.k).toNat) ⟨a2, a4, a6, a8, 0, 0, [], p1⟩ ⟨⟨.inr rfl, .inr rfl, .inr rfl, .inr rfl, .inr rfl, .inr rfl, .inr rfl, .inr rfl, .inr rfl, trivial⟩, ⟨rfl, rfl, rfl, rfl, trivial⟩, rfl, rfl⟩ ⟨⟨Int.le_refl _, by simp only; omega⟩, ⟨rfl, rfl⟩, Int.le_refl _, by simp only; omega⟩ ?_
    rintro ⟨t, x, y, low, k, m, l, q⟩ ⟨hk, ⟨hl, hm⟩, hq1, hq2⟩
    simp only at hk hl hm hq1 hq2
    have htk : List.take m (l.map Stp7.row) = l.map Stp7.row := List.take_of_length_le (by rw [List.length_map]; omega)
    have hw1 : IntKind.i64.wrap (k + 1) = k + 1 := wrap_succ (by omega)
    unfold l_spec_l30Path_0 F_path
    simp only [w_skip, w_rg, w_rgd, w_seq, w_cond, w_block, w_loop, w_exit, w_ret, w_gh, w_rg0, w_rg1, w_rgT, w_rgF, w_run, w_psd, w_und, w_dr0, w_dr1, w_drT, w_drF, w_drRun, w_drPsd, w_drUnd, w_drKn, w_drKs, w_putK, w_trimK, w_thenN, w_thenE, w_thenR, w_scope, w_label, w_blkN, w_blkE, w_blkR, w_call, w_effK, brU_true, brU_false, brU_u, brU_not, brU_and, brU_or, brU_dec, brU_eq, brU_ne, br_true, br_false, br_not, br_and, br_or, br_dec, br_eq, br_ne, w_getE0, w_getE1, w_setE0, w_setE1, w_dropE0, w_dropE1, w_drop0, w_drop1, w_getM0, w_getM1, w_setM0, w_setM1, ev_v, ev_c, w_putS, w_putN, w_lit, w_apU0, w_apU1, w_apU2, w_trim, enumE0, enumE1, w_callWp, w_callA0, w_callA1, w_R0, w_R1, w_R2, w_T2, w_callL, w_callT, w_T1, w_T0, o_mv, o_newnil, o_pick, o_bin, o_binN, o_neg, o_not, o_eqB, o_eqS, o_conv, o_alloc, o_box, o_load1, o_loadN, o_store, o_nilck, o_faddr, o_field1, o_fieldN, o_iaddr, o_istr, o_slStr, o_slSl, o_lenS, o_lenL, o_mx, o_mn, o_ext, o_build, o_lit, o_litOwn, o_app, o_mk, o_mvfrz, l_int, l_bool, l_str, l_agg, l_sl, l_own, l_ptr, l_pp, i_int, i_bool, i_str, i_sl, i_own, i_ptr, i_pp, all0, all1, e_ok1, eff, effBin, effBinN, ld_ptr, ld_pp, ld_elt, ia_own, ia_arr, el_1, el_N, load1K, faddrE, r_iaddr, sg_S, sg_c, sg_n, purL, pur, List.map, List.drop, List.take, List.length, List.foldl, List.append_eq, List.nil_append, List.cons_append, List.getD_cons_zero, List.getD_cons_succ, reduceIte, Nat.reduceEqDiff, Nat.reduceAdd, Nat.reduceLeDiff, true_and, and_true, Bool.not_true, Bool.not_false, Bool.and_true, Bool.true_and, Bool.and_self, reduceCtorEq, true_implies, false_implies, implies_true, decide_eq_true_eq, Option.map_some, fpOf, fpX, SOp.xs, oX, refs, refsL, dom, disj, List.all_nil, List.all_cons, List.contains_cons, List.contains_nil, Nat.reduceBEq, Bool.or_false, Bool.false_or, List.append_nil, Bool.not_false, Bool.not_true, List.forall_mem_cons, fm0, List.set, Nat.reduceLT, ne_eq, not_false_eq_true, not_true_eq_false
, ret1, ret1N, keep0, keep1, rf_int, rf_bool, rf_str, rf_sl, rf_agg, rf_tup, rfL0, rfL1, re_t, re_cN, re_L0, re_L1, ret_tup, ret_one, decide_true, AV.bool.injEq, AV.int.injEq, Nat.reduceLeDiff, Bool.true_eq, Bool.false_eq, decide_eq_true_eq, decide_eq_false_iff_not, t_less, hR, re_tup, or_t, List.length_map, rd, brow, retG_ret, ghost, retQ_eq, retOk, wkM, refsInO, keepB, Int.toNat_natCast, noref, flatOk, r_pick, r_lKind, r_lStep, Stp7.row, true_and, snoc_row, rowsOf, appE]
    simp only [htk, hw1, snoc_row]
    refine ⟨fun h9 => ?_, fun h9 => ?_⟩
    · repeat' (first | intro _ | apply And.intro | (exact loopK_of (⟨_, _, _, _, k + 1, m + 1, l ++ [_], _⟩ : PathS) ⟨⟨.inr rfl, .inr rfl, .inr rfl, .inr rfl, .inr rfl, .inr rfl, .inr rfl, .inr rfl, .inr rfl, trivial⟩, ⟨rfl, rfl, rfl, rfl, trivial⟩, rfl, rfl⟩ ⟨by simp only; omega, ⟨by simp only; omega, by simp only [List.length_append, List.length_cons, List.length_nil]; omega⟩, by simp only; omega, by simp only; omega⟩ (by simp only; omega)) | omega)
    · refine ⟨by omega, ?_⟩
      intro b hb
      refine ⟨by omega, ?_⟩
      intro c hc
      exact ⟨((⟨a.1, a.2.1, l, lessV t b, IntKind.i64.wrap (t + c)⟩ : Path5), q + 1 + 1), ⟨by simp only; omega, by simp only; omega, by simp only; omega⟩, rfl, rfl, rfl⟩
def r_lPath : RTab
  | [.ptr o off], M => match M o with
    | some (.box [.sl t sz B, .int .i64 p]) => some ⟨rdOk off t sz B p 1099511600000 ∧ True, fun a : Path5 × Int => (1 ≤ a.1.l.length ∧ a.1.l.length ≤ 40) ∧ p ≤ a.2 ∧ a.2 ≤ p + 3000, fun a => a.1.av, fun a => [(o, .box [.sl t sz B, .int .i64 (a.2)])]⟩
    | _ => none
  | _, _ => none
theorem h_lPath : okTab P 99 r_lPath := by
  intro args M o h hp
  unfold r_lPath at h
  split at h
  · split at h
    · rename_i hM
      cases h
      obtain ⟨⟨rfl, rfl, rfl, ⟨cs, rfl, h1, h2⟩, h3, h4⟩, hc⟩ := hp
      obtain ⟨x, hx, hC⟩ := c_lPath cs _  ⟨cs, rfl, h1, h2⟩ ⟨h3, h4⟩ hc
      exact ⟨x, hx, callR_rd _ hC rfl rfl hM⟩
    · cases h
  · cases h
end Go.Ve

namespace Go.Ve
open Go.Proofs
def l_laws_FnFlyTurn_0 : SCode := (.seq (.seq (.rg [⟨some 40, .mv (.v 8), none, []⟩, ⟨some 41, .mv (.v 6), none, []⟩, ⟨some 42, .bin .leq (.v 40) (.v 41), none, [40, 41]⟩] [3, 4, 5, 6, 7, 8, 42]) (.cond (.v 42) .skip (.exit 0))) (.seq (.block 1 (.seq (.rg [⟨some 50, .loadN 5 (.v 3), none, []⟩, ⟨some 51, .loadN 5 (.v 4), none, []⟩, ⟨some 52, .mv (.v 7), none, []⟩, ⟨some 53, .mv (.v 8), none, []⟩, ⟨some 54, .call 48 [.v 50, .v 51, .v 52, .v 53], none, [50, 51, 52, 53]⟩, ⟨some 55, .not (.v 54), none, [54]⟩] [3, 4, 5, 6, 7, 8, 55]) (.cond (.v 55) (.seq (.rg [⟨some 2, .mv (.c (.bool false)), none, []⟩] [2]) .ret) .skip))) (.rg [⟨some 43, .mv (.v 8), none, [8]⟩, ⟨some 44, .binN .add (.v 43) (.c (.int .i64 1)), none, [43]⟩, ⟨some 45, .mv (.v 6), none, []⟩, ⟨some 46, .mv (.v 5), none, []⟩, ⟨some 47, .binN .sub (.v 45) (.v 46), none, [45, 46]⟩, ⟨some 48, .binN .quo (.v 47) (.c (.int .i64 9)), none, [47]⟩, ⟨some 49, .binN .add (.v 44) (.v 48), none, [44, 48]⟩, ⟨some 8, .mv (.v 49), none, [49]⟩] [3, 4, 5, 6, 7, 8])))
/-- laws.FnFlyTurn: function 8 -/
def s_laws_FnFlyTurn : SFun := { n := 97, res := [.t 2], body := (.seq (.rg [⟨some 2, .mv (.c (.bool false)), none, [2]⟩] [0]) (.seq (.seq (.rg [⟨some 9, .mv (.v 0), none, []⟩, ⟨some 10, .lenL (.v 9), none, [9]⟩, ⟨some 11, .bin .gtr (.v 10) (.c (.int .i64 1048576)), none, [10]⟩] [0, 11]) (.cond (.v 11) (.seq (.rg [⟨some 2, .mv (.c (.bool true)), none, []⟩] [2]) .ret) .skip)) (.seq (.rg [⟨some 13, .mv (.v 0), none, [0]⟩, ⟨some 14, .call 43 [.v 13], none, [13]⟩, ⟨some 12, .mv (.v 14), none, [14]⟩, ⟨some 15, .ext 0 (.v 12), none, []⟩, ⟨some 16, .ext 1 (.v 12), none, []⟩, ⟨some 17, .ext 2 (.v 12), none, [12]⟩, ⟨some 3, .alloc 103 [.int .i64 0, .int .i64 0, .sl 0 7 [], .int .i64 0, .int .i64 0], none, []⟩, ⟨some 4, .alloc 104 [.int .i64 0, .int .i64 0, .sl 0 7 [], .int .i64 0, .int .i64 0], none, []⟩, ⟨none, .store 5 (.v 3) (.v 15), none, [15]⟩, ⟨none, .store 5 (.v 4) (.v 16), none, [16]⟩, ⟨some 5, .mv (.v 17), none, [17]⟩] [3, 4, 5]) (.seq (.rg [⟨some 18, .loadN 5 (.v 3), none, []⟩, ⟨some 19, .loadN 5 (.v 4), none, []⟩, ⟨some 20, .mv (.v 5), none, []⟩, ⟨some 21, .call 44 [.v 18, .v 19, .v 20], none, [18, 19, 20]⟩, ⟨some 6, .mv (.v 21), none, [21]⟩] [3, 4, 5, 6]) (.seq (.seq (.rgd [⟨some 22, .mv (.v 6), none, []⟩, ⟨some 23, .loadN 5 (.v 3), none, []⟩, ⟨some 24, .loadN 5 (.v 4), none, []⟩, ⟨some 25, .mv (.v 5), none, []⟩, ⟨some 26, .call 45 [.v 23, .v 24, .v 25], none, []⟩, ⟨some 27, .bin .neq (.v 22) (.v 26), none, []⟩, ⟨some 28, .mv (.v 27), none, []⟩, ⟨some 29, .loadN 5 (.v 3), some (28, false), []⟩, ⟨some 30, .loadN 5 (.v 4), some (28, false), []⟩, ⟨some 31, .call 46 [.v 29, .v 30], some (28, false), []⟩, ⟨some 32, .loadN 5 (.v 3), some (28, false), []⟩, ⟨some 33, .loadN 5 (.v 4), some (28, false), []⟩, ⟨some 34, .call 47 [.v 32, .v 33], some (28, false), []⟩, ⟨some 35, .bin .neq (.v 31) (.v 34), some (28, false), []⟩, ⟨some 36, .pick (.v 28) (.c (.bool true)) (.v 35), none, []⟩] [3, 4, 5, 6, 36] [none, none, none, none, none, none, none, none, none, some [], some [0], some [1], none, none, none]) (.cond (.v 36) (.seq (.rg [⟨some 2, .mv (.c (.bool false)), none, []⟩] [2]) .ret) .skip)) (.seq (.rg [⟨some 37, .loadN 5 (.v 3), none, []⟩, ⟨some 38, .call 31 [.v 37], none, [37]⟩, ⟨some 7, .mv (.v 38), none, [38]⟩] [3, 4, 5, 6, 7]) (.seq (.seq (.rg [⟨some 39, .mv (.v 5), none, []⟩, ⟨some 8, .mv (.v 39), none, [39]⟩] [3, 4, 5, 6, 7, 8]) (.block 0 (.loop l_laws_FnFlyTurn_0))) (.seq (.seq (.rg [⟨some 56, .mv (.v 6), none, []⟩, ⟨some 57, .mv (.v 5), none, []⟩, ⟨some 58, .bin .geq (.v 56) (.v 57), none, [56, 57]⟩, ⟨some 59, .mv (.v 58), none, [58]⟩, ⟨some 60, .mv (.v 6), some (59, true), []⟩, ⟨some 61, .bin .lss (.v 60) (.c (.int .i64 10000)), some (59, true), [60]⟩, ⟨some 62, .pick (.v 59) (.v 61) (.c (.bool false)), none, [59, 61]⟩] [3, 4, 5, 6, 7, 62]) (.cond (.v 62) (.seq (.rg [⟨some 63, .loadN 5 (.v 3), none, [3]⟩, ⟨some 64, .loadN 5 (.v 4), none, [4]⟩, ⟨some 65, .mv (.v 7), none, [7]⟩, ⟨some 66, .mv (.v 6), none, [6]⟩, ⟨some 67, .binN .add (.v 66) (.c (.int .i64 1)), none, [66]⟩, ⟨some 68, .call 48 [.v 63, .v 64, .v 65, .v 67], none, [63, 64, 65, 67]⟩, ⟨some 69, .not (.v 68), none, [68]⟩, ⟨some 2, .mv (.v 69), none, [69]⟩] [2]) .ret) .skip)) (.seq (.rg [⟨some 70, .mv (.v 6), none, []⟩, ⟨some 71, .bin .eql (.v 70) (.c (.int .i64 (-1))), none, [70]⟩, ⟨some 72, .mv (.v 71), none, [71]⟩, ⟨some 73, .mv (.v 5), some (72, true), []⟩, ⟨some 74, .bin .lss (.v 73) (.c (.int .i64 0)), some (72, true), [73]⟩, ⟨some 75, .mv (.v 74), some (72, true), [74]⟩, ⟨some 76, .mv (.v 5), some (75, false), []⟩, ⟨some 77, .bin .gtr (.v 76) (.c (.int .i64 10000)), some (75, false), [76]⟩, ⟨some 78, .pick (.v 75) (.c (.bool true)) (.v 77), some (72, true), [75, 77]⟩, ⟨some 79, .mv (.v 78), some (72, true), [78]⟩, ⟨some 80, .loadN 5 (.v 3), some (79, false), [3]⟩, ⟨some 81, .loadN 5 (.v 4), some (79, false), []⟩, ⟨some 82, .mv (.v 7), some (79, false), [7]⟩, ⟨some 83, .mv (.v 5), some (79, false), [5]⟩, ⟨some 84, .call 48 [.v 80, .v 81, .v 82, .v 83], some (79, false), [80, 81, 82, 83]⟩, ⟨some 85, .not (.v 84), some (79, false), [84]⟩, ⟨some 86, .pick (.v 79) (.c (.bool true)) (.v 85), some (72, true), [79, 85]⟩, ⟨some 87, .mv (.v 86), some (72, true), [86]⟩, ⟨some 88, .loadN 5 (.v 4), some (87, false), [4]⟩, ⟨some 89, .call 33 [.v 88], some (87, false), [88]⟩, ⟨some 90, .not (.v 89), some (87, false), [89]⟩, ⟨some 91, .pick (.v 87) (.c (.bool true)) (.v 90), some (72, true), [87, 90]⟩, ⟨some 92, .pick (.v 72) (.v 91) (.c (.bool false)), none, [72, 91]⟩, ⟨some 93, .mv (.v 92), none, [92]⟩, ⟨some 94, .mv (.v 6), some (93, false), [6]⟩, ⟨some 95, .bin .eql (.v 94) (.c (.int .i64 10000)), some (93, false), [94]⟩, ⟨some 96, .pick (.v 93) (.c (.bool true)) (.v 95), none, [93, 95]⟩, ⟨some 2, .mv (.v 96), none, [96]⟩] [2]) .ret))))))))) }
theorem k_laws_FnFlyTurn : okFun Go.Proofs.Try.prog 8 s_laws_FnFlyTurn = true := by kernel_rfl
def l_spec_FlyLawful_0 : SCode := (.seq (.seq (.rg [⟨some 18, .mv (.v 5), none, []⟩, ⟨some 19, .mv (.v 1), none, []⟩, ⟨some 20, .lenL (.v 19), none, [19]⟩, ⟨some 21, .bin .lss (.v 18) (.v 20), none, [18, 20]⟩] [1, 2, 5, 21]) (.cond (.v 21) .skip (.exit 0))) (.seq (.block 1 (.seq (.seq (.rgd [⟨some 24, .mv (.v 1), none, []⟩, ⟨some 25, .mv (.v 5), none, []⟩, ⟨some 26, .iaddr 1 (.v 24) (.v 25), none, []⟩, ⟨some 27, .load1 (.v 26), none, []⟩, ⟨some 28, .loadN 5 (.v 2), none, []⟩, ⟨some 29, .mv (.v 5), none, []⟩, ⟨some 30, .call 58 [.v 28, .v 29], none, []⟩, ⟨some 31, .loadN 5 (.v 2), none, []⟩, ⟨some 32, .mv (.v 5), none, []⟩, ⟨some 33, .call 59 [.v 31, .v 32], none, []⟩, ⟨some 34, .call 57 [.v 27, .v 30, .v 33], none, []⟩, ⟨some 35, .not (.v 34), none, []⟩] [1, 2, 5, 35] [none, none, some [], some [], none, none, some [3, 2], some [0], none, some [6, 5], none, none]) (.cond (.v 35) (.seq (.rg [⟨some 4, .mv (.c (.bool false)), none, []⟩] [4]) .ret) .skip)) (.seq (.rgd [⟨some 36, .mv (.v 5), none, []⟩, ⟨some 37, .bin .gtr (.v 36) (.c (.int .i64 0)), none, []⟩, ⟨some 38, .mv (.v 37), none, []⟩, ⟨some 39, .mv (.v 1), some (38, true), []⟩, ⟨some 40, .mv (.v 5), some (38, true), []⟩, ⟨some 41, .iaddr 1 (.v 39) (.v 40), some (38, true), []⟩, ⟨some 42, .load1 (.v 41), some (38, true), []⟩, ⟨some 43, .mv (.v 1), some (38, true), []⟩, ⟨some 44, .mv (.v 5), some (38, true), []⟩, ⟨some 45, .binN .sub (.v 44) (.c (.int .i64 1)), some (38, true), []⟩, ⟨some 46, .iaddr 1 (.v 43) (.v 45), some (38, true), []⟩, ⟨some 47, .load1 (.v 46), some (38, true), []⟩, ⟨some 48, .binN .sub (.v 42) (.v 47), some (38, true), []⟩, ⟨some 49, .faddr 0 (.v 2), some (38, true), []⟩, ⟨some 50, .faddr 0 (.v 49), some (38, true), []⟩, ⟨some 51, .load1 (.v 50), some (38, true), []⟩, ⟨some 52, .loadN 5 (.v 2), some (38, true), []⟩, ⟨some 53, .mv (.v 5), some (38, true), []⟩, ⟨some 54, .binN .sub (.v 53) (.c (.int .i64 1)), some (38, true), []⟩, ⟨some 55, .call 60 [.v 52, .v 54], some (38, true), []⟩, ⟨some 56, .call 57 [.v 48, .v 51, .v 55], some (38, true), []⟩, ⟨some 57, .not (.v 56), some (38, true), []⟩, ⟨some 58, .pick (.v 38) (.v 57) (.c (.bool false)), none, []⟩] [1, 2, 5, 58] [none, none, none, none, none, some [], some [], none, none, none, some [], some [], none, some [], some [], some [], none, none, none, some [13, 12, 8, 7, 5, 4, 3], none, none, none]) (.cond (.v 58) (.seq (.rg [⟨some 4, .mv (.c (.bool false)), none, []⟩] [4]) .ret) .skip)))) (.rg [⟨some 22, .mv (.v 5), none, [5]⟩, ⟨some 23, .binN .add (.v 22) (.c (.int .i64 1)), none, [22]⟩, ⟨some 5, .mv (.v 23), none, [23]⟩] [1, 2, 5])))
/-- spec.FlyLawful: function 14 -/
def s_spec_FlyLawful : SFun := { n := 59, res := [.t 4], body := (.seq (.rg [⟨some 2, .box 102 (.v 0), none, [0]⟩, ⟨some 4, .mv (.c (.bool false)), none, [4]⟩] [1, 2]) (.seq (.seq (.rg [⟨some 6, .loadN 5 (.v 2), none, []⟩, ⟨some 7, .call 33 [.v 6], none, [6]⟩, ⟨some 8, .not (.v 7), none, [7]⟩, ⟨some 9, .mv (.v 8), none, [8]⟩, ⟨some 10, .mv (.v 1), some (9, false), []⟩, ⟨some 11, .lenL (.v 10), some (9, false), [10]⟩, ⟨some 12, .faddr 2 (.v 2), some (9, false), []⟩, ⟨some 13, .load1 (.v 12), some (9, false), [12]⟩, ⟨some 14, .lenL (.v 13), some (9, false), [13]⟩, ⟨some 15, .binN .add (.v 14) (.c (.int .i64 1)), some (9, false), [14]⟩, ⟨some 16, .bin .neq (.v 11) (.v 15), some (9, false), [11, 15]⟩, ⟨some 17, .pick (.v 9) (.c (.bool true)) (.v 16), none, [9, 16]⟩] [1, 2, 17]) (.cond (.v 17) (.seq (.rg [⟨some 4, .mv (.c (.bool false)), none, []⟩] [4]) .ret) .skip)) (.seq (.seq (.rg [⟨some 5, .mv (.c (.int .i64 0)), none, []⟩] [1, 2, 5]) (.block 0 (.loop l_spec_FlyLawful_0))) (.seq (.rg [⟨some 4, .mv (.c (.bool true)), none, []⟩] [4]) .ret)))) }
theorem k_spec_FlyLawful : okFun Go.Proofs.Try.prog 14 s_spec_FlyLawful = true := by kernel_rfl
def l_spec_FlyGo_0 : SCode := (.seq (.seq (.rg [⟨some 29, .mv (.v 8), none, []⟩, ⟨some 30, .lenL (.v 29), none, [29]⟩, ⟨some 31, .faddr 2 (.v 3), none, []⟩, ⟨some 32, .load1 (.v 31), none, [31]⟩, ⟨some 33, .lenL (.v 32), none, [32]⟩, ⟨some 34, .bin .leq (.v 30) (.v 33), none, [30, 33]⟩] [2, 3, 8, 9, 34]) (.cond (.v 34) .skip (.exit 0))) (.seq (.block 1 (.seq (.rg [⟨some 38, .loadN 5 (.v 3), none, []⟩, ⟨some 39, .mv (.v 8), none, []⟩, ⟨some 40, .call 82 [.v 38, .v 39], none, [38, 39]⟩, ⟨some 37, .mv (.v 40), none, [40]⟩, ⟨some 41, .ext 0 (.v 37), none, []⟩, ⟨some 42, .ext 1 (.v 37), none, [37]⟩, ⟨some 10, .alloc 110 [.int .i64 0, .int .i64 0], none, []⟩, ⟨none, .store 2 (.v 10) (.v 41), none, [41]⟩, ⟨some 11, .mv (.v 42), none, [42]⟩] [2, 3, 8, 9, 10, 11]) (.seq (.seq (.rg [⟨some 43, .mv (.v 11), none, [11]⟩, ⟨some 44, .not (.v 43), none, [43]⟩] [2, 3, 8, 9, 10, 44]) (.cond (.v 44) (.seq (.rg [⟨some 45, .litOwn 245 3 1 [], none, []⟩, ⟨some 6, .mv (.v 45), none, [45]⟩, ⟨some 7, .mv (.c (.bool false)), none, []⟩] [6, 7]) .ret) .skip)) (.seq (.rg [⟨some 46, .faddr 0 (.v 10), none, []⟩, ⟨some 47, .load1 (.v 46), none, [46]⟩, ⟨some 12, .mv (.v 47), none, [47]⟩] [2, 3, 8, 9, 10, 12]) (.seq (.seq (.rg [⟨some 48, .mv (.v 9), none, []⟩, ⟨some 49, .mv (.v 2), none, []⟩, ⟨some 50, .lenL (.v 49), none, [49]⟩, ⟨some 51, .bin .lss (.v 48) (.v 50), none, [48, 50]⟩] [2, 3, 8, 9, 10, 12, 51]) (.cond (.v 51) (.rgd [⟨some 52, .faddr 0 (.v 10), none, []⟩, ⟨some 53, .load1 (.v 52), none, []⟩, ⟨some 54, .mv (.v 2), none, []⟩, ⟨some 55, .mv (.v 9), none, []⟩, ⟨some 56, .iaddr 1 (.v 54) (.v 55), none, []⟩, ⟨some 57, .load1 (.v 56), none, []⟩, ⟨some 58, .call 84 [.v 53, .v 57], none, []⟩, ⟨some 59, .faddr 1 (.v 10), none, []⟩, ⟨some 60, .load1 (.v 59), none, []⟩, ⟨some 61, .call 83 [.v 58, .v 60], none, []⟩, ⟨some 12, .mv (.v 61), none, []⟩] [2, 3, 8, 9, 12] [none, none, none, none, none, none, some [], some [0], some [1], none, none]) .skip)) (.rg [⟨some 62, .mv (.v 8), none, [8]⟩, ⟨some 63, .mv (.v 12), none, [12]⟩, ⟨some 64, .lit 3 1 [.v 63], none, [63]⟩, ⟨some 65, .app 165 3 1 (.v 62) (.v 64), none, [62, 64]⟩, ⟨some 8, .mv (.v 65), none, [65]⟩] [2, 3, 8, 9])))))) (.rg [⟨some 35, .mv (.v 9), none, [9]⟩, ⟨some 36, .binN .add (.v 35) (.c (.int .i64 1)), none, [35]⟩, ⟨some 9, .mv (.v 36), none, [36]⟩] [2, 3, 8, 9])))
/-- spec.FlyGo: function 29 -/
def s_spec_FlyGo : SFun := { n := 72, res := [.t 6, .t 7], body := (.seq (.rg [⟨some 3, .box 103 (.v 0), none, [0]⟩, ⟨some 6, .mv (.c (.sl 0 1 [])), none, [6]⟩, ⟨some 7, .mv (.c (.bool false)), none, [7]⟩] [1, 2, 3]) (.seq (.rg [⟨some 13, .litOwn 165 3 1 [], none, []⟩, ⟨some 14, .mv (.v 1), none, []⟩, ⟨some 15, .app 165 3 1 (.v 13) (.v 14), none, [13, 14]⟩, ⟨some 8, .mv (.v 15), none, [15]⟩] [1, 2, 3, 8]) (.seq (.seq (.rg [⟨some 16, .loadN 5 (.v 3), none, []⟩, ⟨some 17, .call 33 [.v 16], none, [16]⟩, ⟨some 18, .not (.v 17), none, [17]⟩, ⟨some 19, .mv (.v 18), none, [18]⟩, ⟨some 20, .mv (.v 1), some (19, false), [1]⟩, ⟨some 21, .lenL (.v 20), some (19, false), [20]⟩, ⟨some 22, .faddr 2 (.v 3), some (19, false), []⟩, ⟨some 23, .load1 (.v 22), some (19, false), [22]⟩, ⟨some 24, .lenL (.v 23), some (19, false), [23]⟩, ⟨some 25, .binN .add (.v 24) (.c (.int .i64 1)), some (19, false), [24]⟩, ⟨some 26, .bin .gtr (.v 21) (.v 25), some (19, false), [21, 25]⟩, ⟨some 27, .pick (.v 19) (.c (.bool true)) (.v 26), none, [19, 26]⟩] [2, 3, 8, 27]) (.cond (.v 27) (.seq (.rg [⟨some 28, .litOwn 228 3 1 [], none, []⟩, ⟨some 6, .mv (.v 28), none, [28]⟩, ⟨some 7, .mv (.c (.bool false)), none, []⟩] [6, 7]) .ret) .skip)) (.seq (.seq (.rg [⟨some 9, .mv (.c (.int .i64 0)), none, []⟩] [2, 3, 8, 9]) (.block 0 (.loop l_spec_FlyGo_0))) (.seq (.seq (.rg [⟨some 66, .loadN 5 (.v 3), none, [3]⟩, ⟨some 67, .mv (.v 8), none, []⟩, ⟨some 68, .call 14 [.v 66, .v 67], none, [66, 67]⟩, ⟨some 69, .not (.v 68), none, [68]⟩] [8, 69]) (.cond (.v 69) (.seq (.rg [⟨some 70, .litOwn 270 3 1 [], none, []⟩, ⟨some 6, .mv (.v 70), none, [70]⟩, ⟨some 7, .mv (.c (.bool false)), none, []⟩] [6, 7]) .ret) .skip)) (.seq (.rg [⟨some 71, .mv (.v 8), none, [8]⟩, ⟨some 6, .mv (.v 71), none, [71]⟩, ⟨some 7, .mv (.c (.bool true)), none, []⟩] [6, 7]) .ret)))))) }
theorem k_spec_FlyGo : okFun Go.Proofs.Try.prog 29 s_spec_FlyGo = true := by kernel_rfl
/-- impl.FlySeen: function 37 -/
def s_impl_FlySeen : SFun := { n := 55, res := [.cN 6 5, .t 7], body := (.seq (.rg [⟨some 3, .box 103 (.v 0), none, [0]⟩, ⟨some 6, .alloc 106 [.int .i64 0, .int .i64 0, .sl 0 7 [], .int .i64 0, .int .i64 0], none, []⟩, ⟨some 7, .mv (.c (.bool false)), none, [7]⟩] [1, 2, 3, 6]) (.seq (.rg [⟨some 11, .loadN 5 (.v 3), none, []⟩, ⟨some 12, .call 10 [.v 11], none, [11]⟩, ⟨some 10, .mv (.v 12), none, [12]⟩, ⟨some 13, .ext 0 (.v 10), none, []⟩, ⟨some 14, .ext 1 (.v 10), none, [10]⟩, ⟨some 8, .mv (.v 13), none, [13]⟩, ⟨some 9, .mv (.v 14), none, [14]⟩] [1, 2, 3, 6, 8, 9]) (.seq (.seq (.rg [⟨some 15, .mv (.v 9), none, [9]⟩, ⟨some 16, .not (.v 15), none, [15]⟩, ⟨some 17, .mv (.v 16), none, [16]⟩, ⟨some 18, .mv (.v 1), some (17, false), []⟩, ⟨some 19, .bin .lss (.v 18) (.c (.int .i64 0)), some (17, false), [18]⟩, ⟨some 20, .pick (.v 17) (.c (.bool true)) (.v 19), none, [17, 19]⟩, ⟨some 21, .mv (.v 20), none, [20]⟩, ⟨some 22, .mv (.v 1), some (21, false), []⟩, ⟨some 23, .faddr 2 (.v 3), some (21, false), []⟩, ⟨some 24, .load1 (.v 23), some (21, false), [23]⟩, ⟨some 25, .lenL (.v 24), some (21, false), [24]⟩, ⟨some 26, .bin .geq (.v 22) (.v 25), some (21, false), [22, 25]⟩, ⟨some 27, .pick (.v 21) (.c (.bool true)) (.v 26), none, [21, 26]⟩, ⟨some 28, .mv (.v 27), none, [27]⟩, ⟨some 29, .mv (.v 2), some (28, false), []⟩, ⟨some 30, .bin .lss (.v 29) (.c (.int .i64 0)), some (28, false), [29]⟩, ⟨some 31, .pick (.v 28) (.c (.bool true)) (.v 30), none, [28, 30]⟩, ⟨some 32, .mv (.v 31), none, [31]⟩, ⟨some 33, .mv (.v 2), some (32, false), []⟩, ⟨some 34, .bin .gtr (.v 33) (.c (.int .i64 10000)), some (32, false), [33]⟩, ⟨some 35, .pick (.v 32) (.c (.bool true)) (.v 34), none, [32, 34]⟩] [1, 2, 3, 6, 8, 35]) (.cond (.v 35) (.seq (.rg [⟨some 36, .build [.int .i64 0, .int .i64 0, .sl 0 7 [], .int .i64 0, .int .i64 0] [], none, []⟩, ⟨none, .store 5 (.v 6) (.v 36), none, [36]⟩, ⟨some 7, .mv (.c (.bool false)), none, []⟩] [6, 7]) .ret) .skip)) (.seq (.rgd [⟨some 37, .loadN 5 (.v 3), none, []⟩, ⟨some 38, .mv (.v 1), none, []⟩, ⟨some 39, .mv (.v 8), none, []⟩, ⟨some 40, .mv (.v 1), none, []⟩, ⟨some 41, .iaddr 2 (.v 39) (.v 40), none, []⟩, ⟨some 42, .faddr 0 (.v 41), none, []⟩, ⟨some 43, .load1 (.v 42), none, []⟩, ⟨some 44, .mv (.v 8), none, []⟩, ⟨some 45, .mv (.v 1), none, []⟩, ⟨some 46, .iaddr 2 (.v 44) (.v 45), none, []⟩, ⟨some 47, .faddr 1 (.v 46), none, []⟩, ⟨some 48, .load1 (.v 47), none, []⟩, ⟨some 49, .mv (.v 2), none, []⟩, ⟨some 50, .mn (.v 48) (.v 49), none, []⟩, ⟨some 51, .mv (.v 2), none, []⟩, ⟨some 52, .call 91 [.v 37, .v 38, .v 43, .v 50, .v 51], none, []⟩, ⟨some 53, .ext 0 (.v 52), none, []⟩, ⟨some 54, .ext 1 (.v 52), none, []⟩, ⟨none, .store 5 (.v 6) (.v 53), none, []⟩, ⟨some 7, .mv (.v 54), none, []⟩] [6, 7] [none, none, none, none, none, none, none, none, none, none, none, none, none, none, none, none, none, none, none, none]) .ret)))) }
theorem k_impl_FlySeen : okFun Go.Proofs.Try.prog 37 s_impl_FlySeen = true := by kernel_rfl
/-- spec.DrawFlyTurnBy: function 43 -/
def s_spec_DrawFlyTurnBy : SFun := { n := 54, res := [.cN 2 5, .cN 3 5, .t 4], body := (.seq (.rg [⟨some 2, .alloc 102 [.int .i64 0, .int .i64 0, .sl 0 7 [], .int .i64 0, .int .i64 0], none, []⟩, ⟨some 3, .alloc 103 [.int .i64 0, .int .i64 0, .sl 0 7 [], .int .i64 0, .int .i64 0], none, []⟩, ⟨some 4, .mv (.c (.int .i64 0)), none, [4]⟩] [0, 2, 3]) (.seq (.rg [⟨some 13, .mv (.v 0), none, [0]⟩, ⟨some 14, .call 49 [.v 13], none, [13]⟩, ⟨some 5, .mv (.v 14), none, [14]⟩] [2, 3, 5]) (.seq (.rg [⟨some 16, .mv (.v 5), none, []⟩, ⟨some 17, .call 92 [.v 16], none, [16]⟩, ⟨some 15, .mv (.v 17), none, [17]⟩, ⟨some 18, .ext 0 (.v 15), none, []⟩, ⟨some 19, .ext 1 (.v 15), none, []⟩, ⟨some 20, .ext 2 (.v 15), none, []⟩, ⟨some 21, .ext 3 (.v 15), none, [15]⟩, ⟨some 6, .alloc 106 [.int .i64 0, .int .i64 0, .sl 0 7 [], .int .i64 0, .int .i64 0], none, []⟩, ⟨none, .store 5 (.v 6) (.v 18), none, [18]⟩, ⟨some 7, .mv (.v 19), none, [7, 19]⟩, ⟨some 8, .mv (.v 20), none, [8, 20]⟩, ⟨some 9, .mv (.v 21), none, [21]⟩] [2, 3, 5, 6, 9]) (.seq (.rg [⟨some 22, .mv (.v 5), none, []⟩, ⟨some 23, .loadN 5 (.v 6), none, []⟩, ⟨some 24, .call 97 [.v 22, .v 23], none, [22, 23]⟩, ⟨some 10, .alloc 110 [.int .i64 0, .int .i64 0, .sl 0 7 [], .int .i64 0, .int .i64 0], none, []⟩, ⟨none, .store 5 (.v 10) (.v 24), none, [24]⟩] [2, 3, 5, 6, 9, 10]) (.seq (.seq (.rg [⟨some 25, .mv (.v 5), none, []⟩, ⟨some 26, .call 52 [.v 25, .c (.int .i64 16)], none, [25]⟩, ⟨some 27, .bin .eql (.v 26) (.c (.int .i64 0)), none, [26]⟩] [2, 3, 5, 6, 9, 10, 27]) (.cond (.v 27) (.rg [⟨some 28, .mv (.v 5), none, []⟩, ⟨some 29, .mv (.v 5), none, []⟩, ⟨some 30, .call 99 [.v 29], none, [29]⟩, ⟨some 31, .call 98 [.v 28, .v 30], none, [28, 30]⟩, ⟨none, .store 5 (.v 10) (.v 31), none, [31]⟩] [2, 3, 5, 6, 9, 10]) .skip)) (.seq (.seq (.rg [⟨some 32, .mv (.v 5), none, [5]⟩, ⟨some 33, .call 52 [.v 32, .c (.int .i64 2)], none, [32]⟩, ⟨some 34, .bin .eql (.v 33) (.c (.int .i64 0)), none, [33]⟩, ⟨some 35, .mv (.v 34), none, [34]⟩, ⟨some 36, .faddr 2 (.v 6), some (35, true), []⟩, ⟨some 37, .load1 (.v 36), some (35, true), [36]⟩, ⟨some 38, .lenL (.v 37), some (35, true), [37]⟩, ⟨some 39, .bin .gtr (.v 38) (.c (.int .i64 0)), some (35, true), [38]⟩, ⟨some 40, .pick (.v 35) (.v 39) (.c (.bool false)), none, [35, 39]⟩] [2, 3, 6, 9, 10, 40]) (.cond (.v 40) (.seq (.rg [⟨some 42, .loadN 5 (.v 6), none, []⟩, ⟨some 43, .call 11 [.v 42], none, [42]⟩, ⟨some 41, .mv (.v 43), none, [43]⟩, ⟨some 44, .ext 0 (.v 41), none, []⟩, ⟨some 45, .ext 1 (.v 41), none, [41]⟩, ⟨some 11, .mv (.v 44), none, [44]⟩, ⟨some 12, .mv (.v 45), none, [45]⟩] [2, 3, 6, 9, 10, 11, 12]) (.seq (.rg [⟨some 46, .mv (.v 12), none, [12]⟩] [2, 3, 6, 9, 10, 11, 46]) (.cond (.v 46) (.rg [⟨some 47, .mv (.v 11), none, [11]⟩, ⟨some 48, .iaddr 2 (.v 47) (.c (.int .i64 0)), none, [47]⟩, ⟨some 49, .faddr 0 (.v 48), none, [48]⟩, ⟨some 50, .load1 (.v 49), none, [49]⟩, ⟨some 9, .mv (.v 50), none, [50]⟩] [2, 3, 6, 9, 10]) .skip))) .skip)) (.seq (.rgd [⟨some 51, .loadN 5 (.v 6), none, []⟩, ⟨some 52, .loadN 5 (.v 10), none, []⟩, ⟨some 53, .mv (.v 9), none, []⟩, ⟨none, .store 5 (.v 2) (.v 51), none, []⟩, ⟨none, .store 5 (.v 3) (.v 52), none, []⟩, ⟨some 4, .mv (.v 53), none, []⟩] [2, 3, 4] [none, some [], none, some [1], none, none]) .ret))))))) }
theorem k_spec_DrawFlyTurnBy : okFun Go.Proofs.Try.prog 43 s_spec_DrawFlyTurnBy = true := by kernel_rfl
def l_impl_FlyTurnBy_0 : SCode := (.seq (.rg [⟨some 31, .bin .lss (.v 30) (.v 29), none, []⟩] [3, 4, 7, 8, 9, 10, 28, 29, 30, 31]) (.seq (.cond (.v 31) .skip (.exit 2)) (.seq (.block 3 (.seq (.rg [⟨some 32, .mv (.v 30), none, []⟩, ⟨some 33, .iaddr 6 (.v 28) (.v 30), none, []⟩, ⟨some 34, .loadN 6 (.v 33), none, [33]⟩, ⟨some 12, .alloc 112 [.int .i64 0, .int .i64 0, .int .i64 0, .int .i64 0, .int .i64 0, .int .i64 0], none, []⟩, ⟨some 11, .mv (.v 32), none, [32]⟩, ⟨none, .store 6 (.v 12) (.v 34), none, [34]⟩] [3, 4, 7, 8, 9, 10, 11, 12, 28, 29, 30]) (.seq (.rg [⟨some 35, .faddr 4 (.v 12), none, []⟩, ⟨some 36, .load1 (.v 35), none, [35]⟩, ⟨some 37, .mv (.v 9), none, []⟩, ⟨some 38, .bin .leq (.v 36) (.v 37), none, [36, 37]⟩, ⟨some 39, .mv (.v 38), none, [38]⟩, ⟨some 40, .mv (.v 9), some (39, true), []⟩, ⟨some 41, .faddr 5 (.v 12), some (39, true), [12]⟩, ⟨some 42, .load1 (.v 41), some (39, true), [41]⟩, ⟨some 43, .bin .leq (.v 40) (.v 42), some (39, true), [40, 42]⟩, ⟨some 44, .pick (.v 39) (.v 43) (.c (.bool false)), none, [39, 43]⟩] [3, 4, 7, 8, 9, 10, 11, 28, 29, 30, 44]) (.cond (.v 44) (.seq (.rg [⟨some 10, .mv (.c (.bool true)), none, []⟩] [3, 4, 7, 8, 9, 10, 11, 28, 29, 30]) (.seq (.rg [⟨some 45, .loadN 5 (.v 3), none, []⟩, ⟨some 46, .loadN 5 (.v 4), none, []⟩, ⟨some 47, .mv (.v 11), none, [11]⟩, ⟨some 48, .mv (.v 9), none, []⟩, ⟨some 49, .call 100 [.v 45, .v 46, .v 47, .v 48], none, [45, 46, 47, 48]⟩, ⟨some 50, .not (.v 49), none, [49]⟩] [3, 4, 7, 8, 9, 10, 28, 29, 30, 50]) (.cond (.v 50) (.seq (.rg [⟨some 51, .mv (.v 8), none, [8]⟩, ⟨some 6, .mv (.v 51), none, [51]⟩] [6]) .ret) .skip))) .skip)))) (.rg [⟨some 52, .binN .add (.v 30) (.c (.int .i64 1)), none, [30]⟩, ⟨some 30, .mv (.v 52), none, [52]⟩] [3, 4, 7, 8, 9, 10, 28, 29, 30]))))
def l_impl_FlyTurnBy_1 : SCode := (.seq (.seq (.rg [⟨some 24, .mv (.v 9), none, []⟩, ⟨some 25, .bin .leq (.v 24) (.c (.int .i64 10000)), none, [24]⟩] [3, 4, 7, 8, 9, 25]) (.cond (.v 25) .skip (.exit 0))) (.seq (.block 1 (.seq (.rg [⟨some 10, .mv (.c (.bool false)), none, []⟩] [3, 4, 7, 8, 9, 10]) (.seq (.seq (.rg [⟨some 28, .mv (.v 7), none, []⟩, ⟨some 29, .lenL (.v 28), none, []⟩, ⟨some 30, .mv (.c (.int .i64 0)), none, []⟩] [3, 4, 7, 8, 9, 10, 28, 29, 30]) (.block 2 (.loop l_impl_FlyTurnBy_0))) (.seq (.seq (.rg [⟨some 53, .mv (.v 10), none, [10]⟩, ⟨some 54, .not (.v 53), none, [53]⟩] [3, 4, 7, 8, 9, 54]) (.cond (.v 54) (.seq (.rg [⟨some 55, .mv (.v 8), none, [8]⟩, ⟨some 6, .mv (.v 55), none, [55]⟩] [6]) .ret) .skip)) (.rg [⟨some 56, .mv (.v 9), none, []⟩, ⟨some 8, .mv (.v 56), none, [56]⟩] [3, 4, 7, 8, 9]))))) (.rg [⟨some 26, .mv (.v 9), none, [9]⟩, ⟨some 27, .binN .add (.v 26) (.c (.int .i64 1)), none, [26]⟩, ⟨some 9, .mv (.v 27), none, [27]⟩] [3, 4, 7, 8, 9])))
/-- impl.FlyTurnBy: function 44 -/
def s_impl_FlyTurnBy : SFun := { n := 58, res := [.t 6], body := (.seq (.rg [⟨some 3, .box 103 (.v 0), none, [0]⟩, ⟨some 4, .box 104 (.v 1), none, [1]⟩, ⟨some 6, .mv (.c (.int .i64 0)), none, [6]⟩] [2, 3, 4]) (.seq (.seq (.rg [⟨some 13, .mv (.v 2), none, []⟩, ⟨some 14, .call 56 [.v 13, .c (.int .i64 0), .c (.int .i64 10000)], none, [13]⟩, ⟨some 15, .not (.v 14), none, [14]⟩, ⟨some 16, .mv (.v 15), none, [15]⟩, ⟨some 17, .loadN 5 (.v 4), some (16, false), []⟩, ⟨some 18, .call 32 [.v 17], some (16, false), [17]⟩, ⟨some 19, .not (.v 18), some (16, false), [18]⟩, ⟨some 20, .pick (.v 16) (.c (.bool true)) (.v 19), none, [16, 19]⟩] [2, 3, 4, 20]) (.cond (.v 20) (.seq (.rg [⟨some 6, .mv (.c (.int .i64 (-1))), none, []⟩] [6]) .ret) .skip)) (.seq (.rg [⟨some 21, .loadN 5 (.v 3), none, []⟩, ⟨some 22, .call 31 [.v 21], none, [21]⟩, ⟨some 7, .mv (.v 22), none, [22]⟩] [2, 3, 4, 7]) (.seq (.rg [⟨some 8, .mv (.c (.int .i64 (-1))), none, []⟩] [2, 3, 4, 7, 8]) (.seq (.seq (.rg [⟨some 23, .mv (.v 2), none, [2]⟩, ⟨some 9, .mv (.v 23), none, [23]⟩] [3, 4, 7, 8, 9]) (.block 0 (.loop l_impl_FlyTurnBy_1))) (.seq (.rg [⟨some 57, .mv (.v 8), none, [8]⟩, ⟨some 6, .mv (.v 57), none, [57]⟩] [6]) .ret)))))) }
theorem k_impl_FlyTurnBy : okFun Go.Proofs.Try.prog 44 s_impl_FlyTurnBy = true := by kernel_rfl
def l_spec_FlyTurnBy_0 : SCode := (.seq (.seq (.rg [⟨some 20, .mv (.v 8), none, []⟩, ⟨some 21, .bin .leq (.v 20) (.c (.int .i64 10000)), none, [20]⟩, ⟨some 22, .mv (.v 21), none, [21]⟩, ⟨some 23, .loadN 5 (.v 3), some (22, true), []⟩, ⟨some 24, .loadN 5 (.v 4), some (22, true), []⟩, ⟨some 25, .mv (.v 7), some (22, true), []⟩, ⟨some 26, .mv (.v 8), some (22, true), []⟩, ⟨some 27, .call 102 [.v 23, .v 24, .v 25, .v 26], some (22, true), [23, 24, 25, 26]⟩, ⟨some 28, .pick (.v 22) (.v 27) (.c (.bool false)), none, [22, 27]⟩] [2, 3, 4, 7, 8, 28]) (.cond (.v 28) .skip (.exit 0))) (.block 1 (.rg [⟨some 29, .mv (.v 8), none, [8]⟩, ⟨some 30, .binN .add (.v 29) (.c (.int .i64 1)), none, [29]⟩, ⟨some 8, .mv (.v 30), none, [30]⟩] [2, 3, 4, 7, 8])))
/-- spec.FlyTurnBy: function 45 -/
def s_spec_FlyTurnBy : SFun := { n := 36, res := [.t 6], body := (.seq (.rg [⟨some 3, .box 103 (.v 0), none, [0]⟩, ⟨some 4, .box 104 (.v 1), none, [1]⟩, ⟨some 6, .mv (.c (.int .i64 0)), none, [6]⟩] [2, 3, 4]) (.seq (.rg [⟨some 9, .loadN 5 (.v 3), none, []⟩, ⟨some 10, .call 101 [.v 9], none, [9]⟩, ⟨some 7, .mv (.v 10), none, [10]⟩] [2, 3, 4, 7]) (.seq (.seq (.rg [⟨some 11, .mv (.v 2), none, []⟩, ⟨some 12, .call 57 [.v 11, .c (.int .i64 0), .c (.int .i64 10000)], none, [11]⟩, ⟨some 13, .not (.v 12), none, [12]⟩, ⟨some 14, .mv (.v 13), none, [13]⟩, ⟨some 15, .loadN 5 (.v 4), some (14, false), []⟩, ⟨some 16, .call 33 [.v 15], some (14, false), [15]⟩, ⟨some 17, .not (.v 16), some (14, false), [16]⟩, ⟨some 18, .pick (.v 14) (.c (.bool true)) (.v 17), none, [14, 17]⟩] [2, 3, 4, 7, 18]) (.cond (.v 18) (.seq (.rg [⟨some 6, .mv (.c (.int .i64 (-1))), none, []⟩] [6]) .ret) .skip)) (.seq (.rg [⟨some 19, .mv (.v 2), none, []⟩, ⟨some 8, .mv (.v 19), none, [19]⟩] [2, 3, 4, 7, 8]) (.seq (.block 0 (.loop l_spec_FlyTurnBy_0)) (.seq (.seq (.rg [⟨some 31, .mv (.v 8), none, []⟩, ⟨some 32, .mv (.v 2), none, [2]⟩, ⟨some 33, .bin .eql (.v 31) (.v 32), none, [31, 32]⟩] [8, 33]) (.cond (.v 33) (.seq (.rg [⟨some 6, .mv (.c (.int .i64 (-1))), none, []⟩] [6]) .ret) .skip)) (.seq (.rg [⟨some 34, .mv (.v 8), none, [8]⟩, ⟨some 35, .binN .sub (.v 34) (.c (.int .i64 1)), none, [34]⟩, ⟨some 6, .mv (.v 35), none, [35]⟩] [6]) .ret))))))) }
theorem k_spec_FlyTurnBy : okFun Go.Proofs.Try.prog 45 s_spec_FlyTurnBy = true := by kernel_rfl
def l_impl_FlyShared_0 : SCode := (.seq (.seq (.rgd [⟨some 11, .mv (.v 5), none, []⟩, ⟨some 12, .faddr 2 (.v 2), none, []⟩, ⟨some 13, .load1 (.v 12), none, []⟩, ⟨some 14, .lenL (.v 13), none, []⟩, ⟨some 15, .bin .lss (.v 11) (.v 14), none, []⟩, ⟨some 16, .mv (.v 15), none, []⟩, ⟨some 17, .mv (.v 5), some (16, true), []⟩, ⟨some 18, .faddr 2 (.v 3), some (16, true), []⟩, ⟨some 19, .load1 (.v 18), some (16, true), []⟩, ⟨some 20, .lenL (.v 19), some (16, true), []⟩, ⟨some 21, .bin .lss (.v 17) (.v 20), some (16, true), []⟩, ⟨some 22, .pick (.v 16) (.v 21) (.c (.bool false)), none, []⟩, ⟨some 23, .mv (.v 22), none, []⟩, ⟨some 24, .faddr 2 (.v 2), some (23, true), []⟩, ⟨some 25, .load1 (.v 24), some (23, true), []⟩, ⟨some 26, .mv (.v 5), some (23, true), []⟩, ⟨some 27, .iaddr 7 (.v 25) (.v 26), some (23, true), []⟩, ⟨some 28, .loadN 7 (.v 27), some (23, true), []⟩, ⟨some 29, .faddr 2 (.v 3), some (23, true), []⟩, ⟨some 30, .load1 (.v 29), some (23, true), []⟩, ⟨some 31, .mv (.v 5), some (23, true), []⟩, ⟨some 32, .iaddr 7 (.v 30) (.v 31), some (23, true), []⟩, ⟨some 33, .loadN 7 (.v 32), some (23, true), []⟩, ⟨some 34, .eqS false [.int, .int, .int, .int, .int, .int, .bool] (.v 28) (.v 33), some (23, true), []⟩, ⟨some 35, .pick (.v 23) (.v 34) (.c (.bool false)), none, []⟩] [2, 3, 5, 35] [none, none, none, none, none, none, none, none, none, none, none, none, none, none, none, none, none, none, none, none, none, none, none, none, none]) (.cond (.v 35) .skip (.exit 0))) (.block 1 (.rg [⟨some 36, .mv (.v 5), none, [5]⟩, ⟨some 37, .binN .add (.v 36) (.c (.int .i64 1)), none, [36]⟩, ⟨some 5, .mv (.v 37), none, [37]⟩] [2, 3, 5])))
/-- impl.FlyShared: function 46 -/
def s_impl_FlyShared : SFun := { n := 39, res := [.t 4], body := (.seq (.rg [⟨some 2, .box 102 (.v 0), none, [0]⟩, ⟨some 3, .box 103 (.v 1), none, [1]⟩, ⟨some 4, .mv (.c (.int .i64 0)), none, [4]⟩] [2, 3]) (.seq (.rg [⟨some 5, .mv (.c (.int .i64 0)), none, []⟩] [2, 3, 5]) (.seq (.seq (.rg [⟨some 6, .faddr 0 (.v 2), none, []⟩, ⟨some 7, .loadN 2 (.v 6), none, [6]⟩, ⟨some 8, .faddr 0 (.v 3), none, []⟩, ⟨some 9, .loadN 2 (.v 8), none, [8]⟩, ⟨some 10, .eqS false [.int, .int] (.v 7) (.v 9), none, [7, 9]⟩] [2, 3, 5, 10]) (.cond (.v 10) (.block 0 (.loop l_impl_FlyShared_0)) .skip)) (.seq (.rg [⟨some 38, .mv (.v 5), none, [5]⟩, ⟨some 4, .mv (.v 38), none, [38]⟩] [4]) .ret)))) }
theorem k_impl_FlyShared : okFun Go.Proofs.Try.prog 46 s_impl_FlyShared = true := by kernel_rfl
def l_spec_FlyShared_0 : SCode := (.seq (.seq (.rgd [⟨some 6, .mv (.v 5), none, []⟩, ⟨some 7, .faddr 2 (.v 2), none, []⟩, ⟨some 8, .load1 (.v 7), none, []⟩, ⟨some 9, .lenL (.v 8), none, []⟩, ⟨some 10, .bin .lss (.v 6) (.v 9), none, []⟩, ⟨some 11, .mv (.v 10), none, []⟩, ⟨some 12, .mv (.v 5), some (11, true), []⟩, ⟨some 13, .faddr 2 (.v 3), some (11, true), []⟩, ⟨some 14, .load1 (.v 13), some (11, true), []⟩, ⟨some 15, .lenL (.v 14), some (11, true), []⟩, ⟨some 16, .bin .lss (.v 12) (.v 15), some (11, true), []⟩, ⟨some 17, .pick (.v 11) (.v 16) (.c (.bool false)), none, []⟩, ⟨some 18, .mv (.v 17), none, []⟩, ⟨some 19, .faddr 2 (.v 2), some (18, true), []⟩, ⟨some 20, .load1 (.v 19), some (18, true), []⟩, ⟨some 21, .mv (.v 5), some (18, true), []⟩, ⟨some 22, .iaddr 7 (.v 20) (.v 21), some (18, true), []⟩, ⟨some 23, .loadN 7 (.v 22), some (18, true), []⟩, ⟨some 24, .faddr 2 (.v 3), some (18, true), []⟩, ⟨some 25, .load1 (.v 24), some (18, true), []⟩, ⟨some 26, .mv (.v 5), some (18, true), []⟩, ⟨some 27, .iaddr 7 (.v 25) (.v 26), some (18, true), []⟩, ⟨some 28, .loadN 7 (.v 27), some (18, true), []⟩, ⟨some 29, .eqS false [.int, .int, .int, .int, .int, .int, .bool] (.v 23) (.v 28), some (18, true), []⟩, ⟨some 30, .pick (.v 18) (.v 29) (.c (.bool false)), none, []⟩, ⟨some 31, .mv (.v 30), none, []⟩, ⟨some 32, .faddr 0 (.v 2), some (31, true), []⟩, ⟨some 33, .loadN 2 (.v 32), some (31, true), []⟩, ⟨some 34, .faddr 0 (.v 3), some (31, true), []⟩, ⟨some 35, .loadN 2 (.v 34), some (31, true), []⟩, ⟨some 36, .eqS false [.int, .int] (.v 33) (.v 35), some (31, true), []⟩, ⟨some 37, .pick (.v 31) (.v 36) (.c (.bool false)), none, []⟩] [2, 3, 5, 37] [none, none, none, none, none, none, none, none, none, none, none, none, none, none, none, none, none, none, none, none, none, none, none, none, none, none, none, none, none, none, none, none]) (.cond (.v 37) .skip (.exit 0))) (.block 1 (.rg [⟨some 38, .mv (.v 5), none, [5]⟩, ⟨some 39, .binN .add (.v 38) (.c (.int .i64 1)), none, [38]⟩, ⟨some 5, .mv (.v 39), none, [39]⟩] [2, 3, 5])))
/-- spec.FlyShared: function 47 -/
def s_spec_FlyShared : SFun := { n := 41, res := [.t 4], body := (.seq (.rg [⟨some 2, .box 102 (.v 0), none, [0]⟩, ⟨some 3, .box 103 (.v 1), none, [1]⟩, ⟨some 4, .mv (.c (.int .i64 0)), none, [4]⟩] [2, 3]) (.seq (.rg [⟨some 5, .mv (.c (.int .i64 0)), none, []⟩] [2, 3, 5]) (.seq (.block 0 (.loop l_spec_FlyShared_0)) (.seq (.rg [⟨some 40, .mv (.v 5), none, [5]⟩, ⟨some 4, .mv (.v 40), none, [40]⟩] [4]) .ret)))) }
theorem k_spec_FlyShared : okFun Go.Proofs.Try.prog 47 s_spec_FlyShared = true := by kernel_rfl
def l_laws_wfAll_0 : SCode := (.seq (.seq (.rg [⟨some 68, .mv (.v 15), none, []⟩, ⟨some 69, .mv (.v 13), none, []⟩, ⟨some 70, .iaddr 2 (.v 69) (.c (.int .i64 0)), none, [69]⟩, ⟨some 71, .faddr 1 (.v 70), none, [70]⟩, ⟨some 72, .load1 (.v 71), none, [71]⟩, ⟨some 73, .bin .leq (.v 68) (.v 72), none, [68, 72]⟩] [2, 3, 4, 5, 9, 10, 13, 15, 73]) (.cond (.v 73) .skip (.exit 2))) (.seq (.block 3 (.seq (.rg [⟨some 88, .loadN 5 (.v 5), none, []⟩, ⟨some 89, .mv (.v 10), none, []⟩, ⟨some 90, .mv (.v 15), none, []⟩, ⟨some 91, .mv (.v 3), none, []⟩, ⟨some 92, .call 36 [.v 88, .v 89, .v 90, .v 91], none, [88, 89, 90, 91]⟩, ⟨some 87, .mv (.v 92), none, [92]⟩, ⟨some 93, .ext 0 (.v 87), none, []⟩, ⟨some 94, .ext 1 (.v 87), none, [87]⟩, ⟨some 16, .alloc 116 [.int .i64 0, .int .i64 0, .sl 0 7 [], .int .i64 0, .int .i64 0], none, []⟩, ⟨none, .store 5 (.v 16) (.v 93), none, [16, 93]⟩, ⟨some 17, .mv (.v 94), none, [94]⟩] [2, 3, 4, 5, 9, 10, 13, 15, 17]) (.seq (.rg [⟨some 95, .mv (.v 17), none, [17]⟩, ⟨some 96, .not (.v 95), none, [95]⟩] [2, 3, 4, 5, 9, 10, 13, 15, 96]) (.cond (.v 96) (.seq (.rg [⟨some 8, .mv (.c (.bool false)), none, []⟩] [8]) .ret) .skip)))) (.rgd [⟨some 74, .mv (.v 15), none, []⟩, ⟨some 75, .binN .add (.v 74) (.c (.int .i64 1)), none, []⟩, ⟨some 76, .mv (.v 13), none, []⟩, ⟨some 77, .iaddr 2 (.v 76) (.c (.int .i64 0)), none, []⟩, ⟨some 78, .faddr 1 (.v 77), none, []⟩, ⟨some 79, .load1 (.v 78), none, []⟩, ⟨some 80, .mv (.v 13), none, []⟩, ⟨some 81, .iaddr 2 (.v 80) (.c (.int .i64 0)), none, []⟩, ⟨some 82, .faddr 0 (.v 81), none, []⟩, ⟨some 83, .load1 (.v 82), none, []⟩, ⟨some 84, .binN .sub (.v 79) (.v 83), none, []⟩, ⟨some 85, .binN .quo (.v 84) (.c (.int .i64 5)), none, []⟩, ⟨some 86, .binN .add (.v 75) (.v 85), none, []⟩, ⟨some 15, .mv (.v 86), none, []⟩] [2, 3, 4, 5, 9, 10, 13, 15] [none, none, none, none, none, none, none, none, none, none, none, none, none, none])))
def l_laws_wfAll_1 : SCode := (.seq (.seq (.rg [⟨some 20, .mv (.v 10), none, []⟩, ⟨some 21, .mv (.v 2), none, []⟩, ⟨some 22, .lenL (.v 21), none, [21]⟩, ⟨some 23, .bin .lss (.v 20) (.v 22), none, [20, 22]⟩] [2, 3, 4, 5, 9, 10, 23]) (.cond (.v 23) .skip (.exit 0))) (.seq (.block 1 (.seq (.seq (.rg [⟨some 26, .mv (.v 3), none, []⟩, ⟨some 27, .mv (.v 2), none, []⟩, ⟨some 28, .mv (.v 10), none, []⟩, ⟨some 29, .iaddr 6 (.v 27) (.v 28), none, [27, 28]⟩, ⟨some 30, .faddr 4 (.v 29), none, [29]⟩, ⟨some 31, .load1 (.v 30), none, [30]⟩, ⟨some 32, .bin .lss (.v 26) (.v 31), none, [26, 31]⟩, ⟨some 33, .mv (.v 32), none, [32]⟩, ⟨some 34, .mv (.v 3), some (33, false), []⟩, ⟨some 35, .mv (.v 2), some (33, false), []⟩, ⟨some 36, .mv (.v 10), some (33, false), []⟩, ⟨some 37, .iaddr 6 (.v 35) (.v 36), some (33, false), [35, 36]⟩, ⟨some 38, .faddr 5 (.v 37), some (33, false), [37]⟩, ⟨some 39, .load1 (.v 38), some (33, false), [38]⟩, ⟨some 40, .bin .gtr (.v 34) (.v 39), some (33, false), [34, 39]⟩, ⟨some 41, .pick (.v 33) (.c (.bool true)) (.v 40), none, [33, 40]⟩] [2, 3, 4, 5, 9, 10, 41]) (.cond (.v 41) (.exit 1) .skip)) (.seq (.rg [⟨some 9, .mv (.c (.bool true)), none, []⟩] [2, 3, 4, 5, 9, 10]) (.seq (.rg [⟨some 43, .loadN 5 (.v 4), none, []⟩, ⟨some 44, .mv (.v 10), none, []⟩, ⟨some 45, .mv (.v 3), none, []⟩, ⟨some 46, .call 37 [.v 43, .v 44, .v 45], none, [43, 44, 45]⟩, ⟨some 42, .mv (.v 46), none, [46]⟩, ⟨some 47, .ext 0 (.v 42), none, []⟩, ⟨some 48, .ext 1 (.v 42), none, [42]⟩, ⟨some 11, .alloc 111 [.int .i64 0, .int .i64 0, .sl 0 7 [], .int .i64 0, .int .i64 0], none, []⟩, ⟨none, .store 5 (.v 11) (.v 47), none, [47]⟩, ⟨some 12, .mv (.v 48), none, [12, 48]⟩] [2, 3, 4, 5, 9, 10, 11]) (.seq (.rg [⟨some 50, .loadN 5 (.v 11), none, [11]⟩, ⟨some 51, .call 10 [.v 50], none, [50]⟩, ⟨some 49, .mv (.v 51), none, [51]⟩, ⟨some 52, .ext 0 (.v 49), none, []⟩, ⟨some 53, .ext 1 (.v 49), none, [49]⟩, ⟨some 13, .mv (.v 52), none, [52]⟩, ⟨some 14, .mv (.v 53), none, [14, 53]⟩] [2, 3, 4, 5, 9, 10, 13]) (.seq (.seq (.rg [⟨some 54, .mv (.v 10), none, []⟩, ⟨some 55, .loadN 5 (.v 4), none, []⟩, ⟨some 56, .loadN 5 (.v 5), none, []⟩, ⟨some 57, .call 46 [.v 55, .v 56], none, [55, 56]⟩, ⟨some 58, .bin .geq (.v 54) (.v 57), none, [54, 57]⟩, ⟨some 59, .mv (.v 58), none, [58]⟩, ⟨some 60, .mv (.v 13), some (59, false), []⟩, ⟨some 61, .lenL (.v 60), some (59, false), [60]⟩, ⟨some 62, .bin .eql (.v 61) (.c (.int .i64 0)), some (59, false), [61]⟩, ⟨some 63, .pick (.v 59) (.c (.bool true)) (.v 62), none, [59, 62]⟩] [2, 3, 4, 5, 9, 10, 13, 63]) (.cond (.v 63) (.seq (.rg [⟨some 8, .mv (.c (.bool false)), none, []⟩] [8]) .ret) .skip)) (.seq (.seq (.rg [⟨some 64, .mv (.v 13), none, []⟩, ⟨some 65, .iaddr 2 (.v 64) (.c (.int .i64 0)), none, [64]⟩, ⟨some 66, .faddr 0 (.v 65), none, [65]⟩, ⟨some 67, .load1 (.v 66), none, [66]⟩, ⟨some 15, .mv (.v 67), none, [67]⟩] [2, 3, 4, 5, 9, 10, 13, 15]) (.block 2 (.loop l_laws_wfAll_0))) (.seq (.rgd [⟨some 98, .loadN 5 (.v 5), none, []⟩, ⟨some 99, .mv (.v 10), none, []⟩, ⟨some 100, .mv (.v 13), none, []⟩, ⟨some 101, .iaddr 2 (.v 100) (.c (.int .i64 0)), none, []⟩, ⟨some 102, .faddr 1 (.v 101), none, []⟩, ⟨some 103, .load1 (.v 102), none, []⟩, ⟨some 104, .mv (.v 3), none, []⟩, ⟨some 105, .call 36 [.v 98, .v 99, .v 103, .v 104], none, []⟩, ⟨some 97, .mv (.v 105), none, []⟩, ⟨some 106, .ext 0 (.v 97), none, []⟩, ⟨some 107, .ext 1 (.v 97), none, []⟩, ⟨some 18, .alloc 118 [.int .i64 0, .int .i64 0, .sl 0 7 [], .int .i64 0, .int .i64 0], none, []⟩, ⟨none, .store 5 (.v 18) (.v 106), none, []⟩, ⟨some 19, .mv (.v 107), none, []⟩] [2, 3, 4, 5, 9, 10, 19] [some [], none, none, some [], some [], some [], none, some [], none, none, none, some [10, 7, 6, 5, 3], none, none]) (.seq (.rg [⟨some 108, .mv (.v 19), none, [19]⟩, ⟨some 109, .not (.v 108), none, [108]⟩] [2, 3, 4, 5, 9, 10, 109]) (.cond (.v 109) (.seq (.rg [⟨some 8, .mv (.c (.bool false)), none, []⟩] [8]) .ret) .skip)))))))))) (.rg [⟨some 24, .mv (.v 10), none, [10]⟩, ⟨some 25, .binN .add (.v 24) (.c (.int .i64 1)), none, [24]⟩, ⟨some 10, .mv (.v 25), none, [25]⟩] [2, 3, 4, 5, 9, 10])))
/-- laws.wfAll: function 48 -/
def s_laws_wfAll : SFun := { n := 111, res := [.t 8], body := (.seq (.rg [⟨some 4, .box 104 (.v 0), none, [0]⟩, ⟨some 5, .box 105 (.v 1), none, [1]⟩, ⟨some 8, .mv (.c (.bool false)), none, [8]⟩] [2, 3, 4, 5]) (.seq (.rg [⟨some 9, .mv (.c (.bool false)), none, []⟩] [2, 3, 4, 5, 9]) (.seq (.seq (.rg [⟨some 10, .mv (.c (.int .i64 0)), none, []⟩] [2, 3, 4, 5, 9, 10]) (.block 0 (.loop l_laws_wfAll_1))) (.seq (.rg [⟨some 110, .mv (.v 9), none, [9]⟩, ⟨some 8, .mv (.v 110), none, [110]⟩] [8]) .ret)))) }
theorem k_laws_wfAll : okFun Go.Proofs.Try.prog 48 s_laws_wfAll = true := by kernel_rfl
/-- spec.l21Open: function 49 -/
def s_spec_l21Open : SFun := { n := 11, res := [.t 2], body := (.seq (.rg [⟨some 2, .mv (.c (.junk)), none, [2]⟩] [0]) (.seq (.seq (.rg [⟨some 3, .mv (.v 0), none, []⟩, ⟨some 4, .lenL (.v 3), none, [3]⟩, ⟨some 5, .bin .gtr (.v 4) (.c (.int .i64 2000)), none, [4]⟩] [0, 5]) (.cond (.v 5) (.rg [⟨some 6, .mv (.v 0), none, [0]⟩, ⟨some 7, .slSl 1 (.v 6) none (some (.c (.int .i64 2000))), none, [6]⟩, ⟨some 0, .mv (.v 7), none, [7]⟩] [0]) .skip)) (.seq (.rg [⟨some 8, .mv (.v 0), none, [0]⟩, ⟨some 9, .build [.sl 0 1 [], .int .i64 0] [(0, 1, .v 8)], none, [8]⟩, ⟨some 10, .box 110 (.v 9), none, [9]⟩, ⟨some 2, .mv (.v 10), none, [10]⟩] [2]) .ret))) }
theorem k_spec_l21Open : okFun Go.Proofs.Try.prog 49 s_spec_l21Open = true := by kernel_rfl
/-- spec.l30Any: function 50 -/
def s_spec_l30Any : SFun := { n := 18, res := [.cN 2 5], body := (.seq (.rg [⟨some 2, .alloc 102 [.int .i64 0, .int .i64 0, .sl 0 7 [], .int .i64 0, .int .i64 0], none, []⟩] [0, 2]) (.seq (.rg [⟨some 4, .mv (.v 0), none, []⟩, ⟨some 5, .call 99 [.v 4], none, [4]⟩, ⟨some 3, .alloc 103 [.int .i64 0, .int .i64 0, .sl 0 7 [], .int .i64 0, .int .i64 0], none, []⟩, ⟨none, .store 5 (.v 3) (.v 5), none, [5]⟩] [0, 2, 3]) (.seq (.seq (.rg [⟨some 6, .mv (.v 0), none, []⟩, ⟨some 7, .call 52 [.v 6, .c (.int .i64 12)], none, [6]⟩] [0, 2, 3, 7]) (.block 0 (.seq (.rg [⟨some 9, .bin .eql (.v 7) (.c (.int .i64 0)), none, []⟩, ⟨some 8, .mv (.v 9), none, [9]⟩] [0, 2, 3, 7, 8]) (.cond (.v 8) (.seq (.rg [⟨some 10, .mv (.v 0), none, [0]⟩, ⟨some 11, .loadN 5 (.v 3), none, [3]⟩, ⟨some 12, .call 98 [.v 10, .v 11], none, [10, 11]⟩, ⟨none, .store 5 (.v 2) (.v 12), none, [12]⟩] [2]) .ret) (.seq (.rg [⟨some 14, .bin .eql (.v 7) (.c (.int .i64 1)), none, [7]⟩, ⟨some 13, .mv (.v 14), none, [14]⟩] [2, 3, 13]) (.cond (.v 13) (.seq (.rg [⟨some 15, .loadN 5 (.v 3), none, [3]⟩, ⟨some 16, .call 103 [.v 15], none, [15]⟩, ⟨none, .store 5 (.v 2) (.v 16), none, [16]⟩] [2]) .ret) .skip)))))) (.seq (.rg [⟨some 17, .loadN 5 (.v 3), none, [3]⟩, ⟨none, .store 5 (.v 2) (.v 17), none, [17]⟩] [2]) .ret)))) }
theorem k_spec_l30Any : okFun Go.Proofs.Try.prog 50 s_spec_l30Any = true := by kernel_rfl
def l_spec_l30Asked_0 : SCode := (.seq (.seq (.rg [⟨some 15, .mv (.v 7), none, []⟩, ⟨some 16, .mv (.v 15), none, [15]⟩, ⟨some 17, .mv (.v 8), some (16, true), []⟩, ⟨some 18, .mv (.v 6), some (16, true), []⟩, ⟨some 19, .lenL (.v 18), some (16, true), [18]⟩, ⟨some 20, .bin .lss (.v 17) (.v 19), some (16, true), [17, 19]⟩, ⟨some 21, .pick (.v 16) (.v 20) (.c (.bool false)), none, [16, 20]⟩] [0, 5, 6, 7, 8, 21]) (.cond (.v 21) .skip (.exit 0))) (.seq (.block 1 (.rgd [⟨some 24, .mv (.v 5), none, []⟩, ⟨some 25, .mv (.v 6), none, []⟩, ⟨some 26, .mv (.v 8), none, []⟩, ⟨some 27, .iaddr 2 (.v 25) (.v 26), none, []⟩, ⟨some 28, .faddr 0 (.v 27), none, []⟩, ⟨some 29, .load1 (.v 28), none, []⟩, ⟨some 30, .mv (.v 0), none, []⟩, ⟨some 31, .mv (.v 6), none, []⟩, ⟨some 32, .mv (.v 8), none, []⟩, ⟨some 33, .iaddr 2 (.v 31) (.v 32), none, []⟩, ⟨some 34, .faddr 1 (.v 33), none, []⟩, ⟨some 35, .load1 (.v 34), none, []⟩, ⟨some 36, .bin .add (.c (.int .i64 1)) (.v 35), none, []⟩, ⟨some 37, .mv (.v 6), none, []⟩, ⟨some 38, .mv (.v 8), none, []⟩, ⟨some 39, .iaddr 2 (.v 37) (.v 38), none, []⟩, ⟨some 40, .faddr 0 (.v 39), none, []⟩, ⟨some 41, .load1 (.v 40), none, []⟩, ⟨some 42, .bin .sub (.v 36) (.v 41), none, []⟩, ⟨some 43, .call 52 [.v 30, .v 42], none, []⟩, ⟨some 44, .bin .add (.v 29) (.v 43), none, []⟩, ⟨some 45, .lit 3 1 [.v 44], none, []⟩, ⟨some 46, .app 146 3 1 (.v 24) (.v 45), none, []⟩, ⟨some 5, .mv (.v 46), none, []⟩] [0, 5, 6, 7, 8] [none, none, none, some [], some [], some [], none, none, none, none, none, none, none, none, none, none, none, none, none, some [15, 14, 13], none, none, none, none])) (.rg [⟨some 22, .mv (.v 8), none, [8]⟩, ⟨some 23, .bin .add (.v 22) (.c (.int .i64 1)), none, [22]⟩, ⟨some 8, .mv (.v 23), none, [23]⟩] [0, 5, 6, 7, 8])))
/-- spec.l30Asked: function 51 -/
def s_spec_l30Asked : SFun := { n := 48, res := [.t 4], body := (.seq (.rg [⟨some 3, .box 103 (.v 1), none, [1]⟩, ⟨some 4, .mv (.c (.sl 0 1 [])), none, [4]⟩] [0, 3]) (.seq (.rg [⟨some 9, .litOwn 146 3 1 [], none, []⟩, ⟨some 5, .mv (.v 9), none, [9]⟩] [0, 3, 5]) (.seq (.rg [⟨some 11, .loadN 5 (.v 3), none, [3]⟩, ⟨some 12, .call 11 [.v 11], none, [11]⟩, ⟨some 10, .mv (.v 12), none, [12]⟩, ⟨some 13, .ext 0 (.v 10), none, []⟩, ⟨some 14, .ext 1 (.v 10), none, [10]⟩, ⟨some 6, .mv (.v 13), none, [13]⟩, ⟨some 7, .mv (.v 14), none, [14]⟩] [0, 5, 6, 7]) (.seq (.seq (.rg [⟨some 8, .mv (.c (.int .i64 0)), none, []⟩] [0, 5, 6, 7, 8]) (.block 0 (.loop l_spec_l30Asked_0))) (.seq (.rg [⟨some 47, .mv (.v 5), none, [5]⟩, ⟨some 4, .mv (.v 47), none, [47]⟩] [4]) (.gh (.frzE 4) .ret)))))) }
theorem k_spec_l30Asked : okFun Go.Proofs.Try.prog 51 s_spec_l30Asked = true := by kernel_rfl
/-- spec.l30Seen: function 92 -/
def s_spec_l30Seen : SFun := { n := 100, res := [.cN 2 5, .t 3, .t 4, .t 5], body := (.seq (.rg [⟨some 2, .alloc 102 [.int .i64 0, .int .i64 0, .sl 0 7 [], .int .i64 0, .int .i64 0], none, []⟩, ⟨some 3, .mv (.c (.int .i64 0)), none, [3]⟩, ⟨some 4, .mv (.c (.int .i64 0)), none, [4]⟩, ⟨some 5, .mv (.c (.int .i64 0)), none, [5]⟩] [0, 2]) (.seq (.rg [⟨some 11, .mv (.v 0), none, []⟩, ⟨some 12, .call 50 [.v 11], none, [11]⟩, ⟨some 6, .alloc 106 [.int .i64 0, .int .i64 0, .sl 0 7 [], .int .i64 0, .int .i64 0], none, []⟩, ⟨none, .store 5 (.v 6) (.v 12), none, [12]⟩] [0, 2, 6]) (.seq (.rgd [⟨some 14, .loadN 5 (.v 6), none, []⟩, ⟨some 15, .lit 3 1 [], none, []⟩, ⟨some 16, .mv (.v 0), none, []⟩, ⟨some 17, .loadN 5 (.v 6), none, []⟩, ⟨some 18, .call 51 [.v 16, .v 17], none, []⟩, ⟨some 19, .call 29 [.v 14, .v 15, .v 18], none, []⟩, ⟨some 13, .mv (.v 19), none, []⟩, ⟨some 20, .ext 0 (.v 13), none, []⟩, ⟨some 21, .ext 1 (.v 13), none, []⟩, ⟨some 7, .mv (.v 20), none, []⟩, ⟨some 8, .mv (.v 21), none, []⟩] [0, 2, 6, 7, 8] [some [], none, none, none, some [3], none, none, none, none, none, none]) (.seq (.seq (.rg [⟨some 22, .mv (.v 8), none, [8]⟩, ⟨some 23, .not (.v 22), none, [22]⟩] [0, 2, 6, 7, 23]) (.cond (.v 23) (.seq (.rgd [⟨some 24, .loadN 5 (.v 6), none, []⟩, ⟨some 25, .mv (.v 0), none, []⟩, ⟨some 26, .call 52 [.v 25, .c (.int .i64 3)], none, []⟩, ⟨some 27, .bin .sub (.v 26) (.c (.int .i64 1)), none, []⟩, ⟨some 28, .mv (.v 0), none, []⟩, ⟨some 29, .call 52 [.v 28, .c (.int .i64 9)], none, []⟩, ⟨some 30, .mv (.v 0), none, []⟩, ⟨some 31, .call 52 [.v 30, .c (.int .i64 20)], none, []⟩, ⟨none, .store 5 (.v 2) (.v 24), none, []⟩, ⟨some 3, .mv (.v 27), none, []⟩, ⟨some 4, .mv (.v 29), none, []⟩, ⟨some 5, .mv (.v 31), none, []⟩] [2, 3, 4, 5] [some [], none, some [1], none, none, some [4], none, some [6], none, none, none, none]) .ret) .skip)) (.seq (.rg [⟨some 32, .mv (.v 0), none, []⟩, ⟨some 33, .faddr 2 (.v 6), none, []⟩, ⟨some 34, .load1 (.v 33), none, [33]⟩, ⟨some 35, .lenL (.v 34), none, [34]⟩, ⟨some 36, .call 52 [.v 32, .v 35], none, [32, 35]⟩, ⟨some 9, .mv (.v 36), none, [36]⟩] [0, 2, 6, 7, 9]) (.seq (.rgd [⟨some 37, .mv (.v 7), none, []⟩, ⟨some 38, .mv (.v 9), none, []⟩, ⟨some 39, .iaddr 1 (.v 37) (.v 38), none, []⟩, ⟨some 40, .load1 (.v 39), none, []⟩, ⟨some 41, .mv (.v 0), none, []⟩, ⟨some 42, .mv (.v 7), none, []⟩, ⟨some 43, .mv (.v 9), none, []⟩, ⟨some 44, .bin .add (.v 43) (.c (.int .i64 1)), none, []⟩, ⟨some 45, .iaddr 1 (.v 42) (.v 44), none, []⟩, ⟨some 46, .load1 (.v 45), none, []⟩, ⟨some 47, .mv (.v 7), none, []⟩, ⟨some 48, .mv (.v 9), none, []⟩, ⟨some 49, .iaddr 1 (.v 47) (.v 48), none, []⟩, ⟨some 50, .load1 (.v 49), none, []⟩, ⟨some 51, .bin .sub (.v 46) (.v 50), none, []⟩, ⟨some 52, .call 52 [.v 41, .v 51], none, []⟩, ⟨some 53, .bin .add (.v 40) (.v 52), none, []⟩, ⟨some 10, .mv (.v 53), none, []⟩] [0, 2, 6, 7, 9, 10] [none, none, some [], some [], none, none, none, none, none, none, none, none, none, none, none, some [12, 11], none, none]) (.seq (.seq (.rg [⟨some 54, .mv (.v 0), none, []⟩, ⟨some 55, .call 52 [.v 54, .c (.int .i64 10)], none, [54]⟩] [0, 2, 6, 7, 9, 10, 55]) (.block 0 (.seq (.rg [⟨some 57, .bin .eql (.v 55) (.c (.int .i64 0)), none, []⟩, ⟨some 56, .mv (.v 57), none, [57]⟩] [0, 2, 6, 7, 9, 10, 55, 56]) (.cond (.v 56) (.rg [⟨some 58, .mv (.v 9), none, [9]⟩, ⟨some 59, .mv (.v 0), none, [0]⟩, ⟨some 60, .call 52 [.v 59, .c (.int .i64 3)], none, [59]⟩, ⟨some 61, .bin .add (.v 58) (.v 60), none, [58, 60]⟩, ⟨some 62, .bin .sub (.v 61) (.c (.int .i64 1)), none, [61]⟩, ⟨some 9, .mv (.v 62), none, [62]⟩] [2, 6, 7, 9, 10]) (.seq (.rg [⟨some 64, .bin .eql (.v 55) (.c (.int .i64 1)), none, []⟩, ⟨some 63, .mv (.v 64), none, [64]⟩] [0, 2, 6, 7, 9, 10, 55, 63]) (.cond (.v 63) (.seq (.rgd [⟨some 65, .loadN 5 (.v 6), none, []⟩, ⟨some 66, .mv (.v 9), none, []⟩, ⟨some 67, .mv (.v 7), none, []⟩, ⟨some 68, .mv (.v 9), none, []⟩, ⟨some 69, .iaddr 1 (.v 67) (.v 68), none, []⟩, ⟨some 70, .load1 (.v 69), none, []⟩, ⟨some 71, .mv (.v 0), none, []⟩, ⟨some 72, .call 52 [.v 71, .c (.int .i64 5)], none, []⟩, ⟨some 73, .bin .add (.v 70) (.v 72), none, []⟩, ⟨some 74, .bin .sub (.v 73) (.c (.int .i64 2)), none, []⟩, ⟨some 75, .mv (.v 10), none, []⟩, ⟨none, .store 5 (.v 2) (.v 65), none, []⟩, ⟨some 3, .mv (.v 66), none, []⟩, ⟨some 4, .mv (.v 74), none, []⟩, ⟨some 5, .mv (.v 75), none, []⟩] [2, 3, 4, 5] [some [], none, none, none, some [], some [], none, some [6, 2, 1], none, none, none, some [6, 5], none, none, none]) .ret) (.seq (.rg [⟨some 77, .bin .eql (.v 55) (.c (.int .i64 2)), none, [55]⟩, ⟨some 76, .mv (.v 77), none, [77]⟩] [0, 2, 6, 7, 9, 10, 76]) (.cond (.v 76) (.rg [⟨some 78, .mv (.v 10), none, [10]⟩, ⟨some 79, .mv (.v 0), none, [0]⟩, ⟨some 80, .call 52 [.v 79, .c (.int .i64 9)], none, [79]⟩, ⟨some 81, .bin .add (.v 78) (.v 80), none, [78, 80]⟩, ⟨some 10, .mv (.v 81), none, [81]⟩] [2, 6, 7, 9, 10]) .skip)))))))) (.seq (.seq (.rg [⟨some 82, .mv (.v 9), none, []⟩, ⟨some 83, .faddr 2 (.v 6), none, []⟩, ⟨some 84, .load1 (.v 83), none, [83]⟩, ⟨some 85, .lenL (.v 84), none, [84]⟩, ⟨some 86, .bin .sub (.v 85) (.c (.int .i64 1)), none, [85]⟩, ⟨some 87, .call 57 [.v 82, .c (.int .i64 0), .v 86], none, [82, 86]⟩, ⟨some 88, .not (.v 87), none, [87]⟩] [2, 6, 7, 9, 10, 88]) (.cond (.v 88) (.seq (.rg [⟨some 89, .loadN 5 (.v 6), none, [6]⟩, ⟨some 90, .mv (.v 9), none, [9]⟩, ⟨some 91, .mv (.v 10), none, []⟩, ⟨some 92, .mv (.v 10), none, [10]⟩, ⟨none, .store 5 (.v 2) (.v 89), none, [89]⟩, ⟨some 3, .mv (.v 90), none, [90]⟩, ⟨some 4, .mv (.v 91), none, [91]⟩, ⟨some 5, .mv (.v 92), none, [92]⟩] [2, 3, 4, 5]) .ret) .skip)) (.seq (.rgd [⟨some 93, .loadN 5 (.v 6), none, []⟩, ⟨some 94, .mv (.v 9), none, []⟩, ⟨some 95, .mv (.v 7), none, []⟩, ⟨some 96, .mv (.v 9), none, []⟩, ⟨some 97, .iaddr 1 (.v 95) (.v 96), none, []⟩, ⟨some 98, .load1 (.v 97), none, []⟩, ⟨some 99, .mv (.v 10), none, []⟩, ⟨none, .store 5 (.v 2) (.v 93), none, []⟩, ⟨some 3, .mv (.v 94), none, []⟩, ⟨some 4, .mv (.v 98), none, []⟩, ⟨some 5, .mv (.v 99), none, []⟩] [2, 3, 4, 5] [none, none, none, none, some [], some [], none, some [2, 1], none, none, none]) .ret))))))))) }
theorem k_spec_l30Seen : okFun Go.Proofs.Try.prog 92 s_spec_l30Seen = true := by kernel_rfl
def l_spec_l30Spoil_0 : SCode := (.seq (.seq (.rgd [⟨some 144, .faddr 2 (.v 5), none, []⟩, ⟨some 145, .load1 (.v 144), none, []⟩, ⟨some 146, .lenL (.v 145), none, []⟩, ⟨some 147, .mv (.v 0), none, []⟩, ⟨some 148, .call 52 [.v 147, .c (.int .i64 2)], none, []⟩, ⟨some 149, .bin .add (.c (.int .i64 40)) (.v 148), none, []⟩, ⟨some 150, .bin .lss (.v 146) (.v 149), none, []⟩] [0, 4, 5, 150] [some [], some [], some [], none, some [3, 2, 1], none, none]) (.cond (.v 150) .skip (.exit 1))) (.block 2 (.seq (.rg [⟨some 151, .faddr 2 (.v 5), none, []⟩, ⟨some 152, .load1 (.v 151), none, [151]⟩, ⟨some 153, .faddr 2 (.v 5), none, []⟩, ⟨some 154, .load1 (.v 153), none, [153]⟩, ⟨some 155, .lenL (.v 154), none, [154]⟩, ⟨some 156, .bin .sub (.v 155) (.c (.int .i64 1)), none, [155]⟩, ⟨some 157, .iaddr 7 (.v 152) (.v 156), none, [152, 156]⟩, ⟨some 158, .loadN 7 (.v 157), none, [157]⟩, ⟨some 7, .alloc 107 [.int .i64 0, .int .i64 0, .int .i64 0, .int .i64 0, .int .i64 0, .int .i64 0, .bool false], none, []⟩, ⟨none, .store 7 (.v 7) (.v 158), none, [158]⟩] [0, 4, 5, 7]) (.seq (.seq (.rg [⟨some 159, .faddr 0 (.v 7), none, []⟩, ⟨some 160, .load1 (.v 159), none, [159]⟩, ⟨some 161, .bin .gtr (.v 160) (.c (.int .i64 0)), none, [160]⟩] [0, 4, 5, 7, 161]) (.cond (.v 161) (.rg [⟨some 162, .faddr 0 (.v 7), none, []⟩, ⟨some 163, .load1 (.v 162), none, [162]⟩, ⟨some 164, .bin .sub (.v 163) (.c (.int .i64 1)), none, [163]⟩, ⟨some 165, .faddr 0 (.v 7), none, []⟩, ⟨none, .store 1 (.v 165) (.v 164), none, [164, 165]⟩] [0, 4, 5, 7]) (.rg [⟨some 166, .faddr 0 (.v 7), none, []⟩, ⟨some 167, .load1 (.v 166), none, [166]⟩, ⟨some 168, .bin .add (.v 167) (.c (.int .i64 1)), none, [167]⟩, ⟨some 169, .faddr 0 (.v 7), none, []⟩, ⟨none, .store 1 (.v 169) (.v 168), none, [168, 169]⟩] [0, 4, 5, 7]))) (.rg [⟨some 170, .faddr 2 (.v 5), none, []⟩, ⟨some 171, .load1 (.v 170), none, [170]⟩, ⟨some 172, .loadN 7 (.v 7), none, [7]⟩, ⟨some 173, .lit 64 7 [.v 172], none, [172]⟩, ⟨some 174, .app 190 64 7 (.v 171) (.v 173), none, [171, 173]⟩, ⟨some 175, .faddr 2 (.v 5), none, []⟩, ⟨none, .store 1 (.v 175) (.v 174), none, [174, 175]⟩] [0, 4, 5])))))
/-- spec.l30Spoil: function 98 -/
def s_spec_l30Spoil : SFun := { n := 191, res := [.cN 4 5], body := (.seq (.rg [⟨some 3, .box 103 (.v 1), none, [1]⟩, ⟨some 4, .alloc 104 [.int .i64 0, .int .i64 0, .sl 0 7 [], .int .i64 0, .int .i64 0], none, []⟩] [0, 3, 4]) (.seq (.rg [⟨some 8, .loadN 5 (.v 3), none, [3]⟩, ⟨some 9, .call 112 [.v 8], none, [8]⟩, ⟨some 5, .alloc 105 [.int .i64 0, .int .i64 0, .sl 0 7 [], .int .i64 0, .int .i64 0], none, []⟩, ⟨none, .store 5 (.v 5) (.v 9), none, [9]⟩] [0, 4, 5]) (.seq (.rg [⟨some 10, .mv (.v 0), none, []⟩, ⟨some 11, .faddr 2 (.v 5), none, []⟩, ⟨some 12, .load1 (.v 11), none, [11]⟩, ⟨some 13, .lenL (.v 12), none, [12]⟩, ⟨some 14, .call 52 [.v 10, .v 13], none, [10, 13]⟩, ⟨some 6, .mv (.v 14), none, [14]⟩] [0, 4, 5, 6]) (.seq (.seq (.rg [⟨some 15, .mv (.v 0), none, []⟩, ⟨some 16, .call 52 [.v 15, .c (.int .i64 12)], none, [15]⟩] [0, 4, 5, 6, 16]) (.block 0 (.seq (.rg [⟨some 31, .bin .eql (.v 16) (.c (.int .i64 0)), none, []⟩, ⟨some 30, .mv (.v 31), none, [31]⟩] [0, 4, 5, 6, 16, 30]) (.cond (.v 30) (.rg [⟨some 32, .mv (.v 0), none, [0]⟩, ⟨some 33, .call 52 [.v 32, .c (.int .i64 5)], none, [32]⟩, ⟨some 34, .faddr 0 (.v 5), none, []⟩, ⟨some 35, .faddr 0 (.v 34), none, [34]⟩, ⟨none, .store 1 (.v 35) (.v 33), none, [33, 35]⟩] [4, 5]) (.seq (.rg [⟨some 37, .bin .eql (.v 16) (.c (.int .i64 1)), none, []⟩, ⟨some 36, .mv (.v 37), none, [37]⟩] [0, 4, 5, 6, 16, 36]) (.cond (.v 36) (.rgd [⟨some 38, .faddr 2 (.v 5), none, []⟩, ⟨some 39, .load1 (.v 38), none, []⟩, ⟨some 40, .mv (.v 6), none, []⟩, ⟨some 41, .faddr 2 (.v 5), none, []⟩, ⟨some 42, .load1 (.v 41), none, []⟩, ⟨some 43, .mv (.v 6), none, []⟩, ⟨some 44, .iaddr 7 (.v 42) (.v 43), none, []⟩, ⟨some 45, .faddr 0 (.v 44), none, []⟩, ⟨some 46, .load1 (.v 45), none, []⟩, ⟨some 47, .bin .add (.v 46) (.c (.int .i64 1)), none, []⟩, ⟨some 48, .lit 3 1 [.c (.int .i64 (-1)), .c (.int .i64 16), .v 47], none, []⟩, ⟨some 49, .mv (.v 0), none, []⟩, ⟨some 50, .call 52 [.v 49, .c (.int .i64 3)], none, []⟩, ⟨some 51, .iaddr 1 (.v 48) (.v 50), none, []⟩, ⟨some 52, .load1 (.v 51), none, []⟩, ⟨some 53, .iaddr 7 (.v 39) (.v 40), none, []⟩, ⟨some 54, .faddr 0 (.v 53), none, []⟩, ⟨none, .store 1 (.v 54) (.v 52), none, []⟩] [4, 5] [some [], some [], none, some [], some [], none, some [], some [], some [], none, none, none, some [11, 10, 8, 7, 5, 4, 3], none, none, none, none, none]) (.seq (.rg [⟨some 56, .bin .eql (.v 16) (.c (.int .i64 2)), none, []⟩, ⟨some 55, .mv (.v 56), none, [56]⟩] [0, 4, 5, 6, 16, 55]) (.cond (.v 55) (.rgd [⟨some 57, .faddr 2 (.v 5), none, []⟩, ⟨some 58, .load1 (.v 57), none, []⟩, ⟨some 59, .mv (.v 6), none, []⟩, ⟨some 60, .mv (.v 0), none, []⟩, ⟨some 61, .call 52 [.v 60, .c (.int .i64 6)], none, []⟩, ⟨some 62, .bin .sub (.v 61) (.c (.int .i64 1)), none, []⟩, ⟨some 63, .iaddr 7 (.v 58) (.v 59), none, []⟩, ⟨some 64, .faddr 2 (.v 63), none, []⟩, ⟨none, .store 1 (.v 64) (.v 62), none, []⟩] [4, 5] [some [], some [], none, none, some [3, 2], none, none, none, none]) (.seq (.rg [⟨some 66, .bin .eql (.v 16) (.c (.int .i64 3)), none, []⟩, ⟨some 65, .mv (.v 66), none, [66]⟩] [0, 4, 5, 6, 16, 65]) (.cond (.v 65) (.rgd [⟨some 67, .faddr 2 (.v 5), none, []⟩, ⟨some 68, .load1 (.v 67), none, []⟩, ⟨some 69, .mv (.v 6), none, []⟩, ⟨some 70, .mv (.v 0), none, []⟩, ⟨some 71, .call 52 [.v 70, .c (.int .i64 9)], none, []⟩, ⟨some 72, .iaddr 7 (.v 68) (.v 69), none, []⟩, ⟨some 73, .faddr 3 (.v 72), none, []⟩, ⟨none, .store 1 (.v 73) (.v 71), none, []⟩] [4, 5] [some [], some [], none, none, some [3, 2], none, none, none]) (.seq (.rg [⟨some 75, .bin .eql (.v 16) (.c (.int .i64 4)), none, []⟩, ⟨some 74, .mv (.v 75), none, [75]⟩] [0, 4, 5, 6, 16, 74]) (.cond (.v 74) (.rgd [⟨some 76, .faddr 2 (.v 5), none, []⟩, ⟨some 77, .load1 (.v 76), none, []⟩, ⟨some 78, .mv (.v 6), none, []⟩, ⟨some 79, .faddr 2 (.v 5), none, []⟩, ⟨some 80, .load1 (.v 79), none, []⟩, ⟨some 81, .mv (.v 6), none, []⟩, ⟨some 82, .iaddr 7 (.v 80) (.v 81), none, []⟩, ⟨some 83, .faddr 5 (.v 82), none, []⟩, ⟨some 84, .load1 (.v 83), none, []⟩, ⟨some 85, .faddr 2 (.v 5), none, []⟩, ⟨some 86, .load1 (.v 85), none, []⟩, ⟨some 87, .mv (.v 6), none, []⟩, ⟨some 88, .iaddr 7 (.v 86) (.v 87), none, []⟩, ⟨some 89, .faddr 5 (.v 88), none, []⟩, ⟨some 90, .load1 (.v 89), none, []⟩, ⟨some 91, .bin .add (.v 90) (.c (.int .i64 1)), none, []⟩, ⟨some 92, .lit 3 1 [.c (.int .i64 (-1)), .v 84, .v 91], none, []⟩, ⟨some 93, .mv (.v 0), none, []⟩, ⟨some 94, .call 52 [.v 93, .c (.int .i64 3)], none, []⟩, ⟨some 95, .iaddr 1 (.v 92) (.v 94), none, []⟩, ⟨some 96, .load1 (.v 95), none, []⟩, ⟨some 97, .iaddr 7 (.v 77) (.v 78), none, []⟩, ⟨some 98, .faddr 4 (.v 97), none, []⟩, ⟨none, .store 1 (.v 98) (.v 96), none, []⟩] [4, 5] [some [], some [], none, some [], some [], none, some [], some [], some [], some [], some [], none, some [], some [], some [], none, none, none, some [17, 16, 14, 13, 11, 10, 9, 8, 7, 5, 4, 3], none, none, none, none, none]) (.seq (.rg [⟨some 100, .bin .eql (.v 16) (.c (.int .i64 5)), none, []⟩, ⟨some 99, .mv (.v 100), none, [100]⟩] [0, 4, 5, 6, 16, 99]) (.cond (.v 99) (.rgd [⟨some 101, .faddr 2 (.v 5), none, []⟩, ⟨some 102, .load1 (.v 101), none, []⟩, ⟨some 103, .mv (.v 6), none, []⟩, ⟨some 104, .faddr 2 (.v 5), none, []⟩, ⟨some 105, .load1 (.v 104), none, []⟩, ⟨some 106, .mv (.v 6), none, []⟩, ⟨some 107, .iaddr 7 (.v 105) (.v 106), none, []⟩, ⟨some 108, .faddr 4 (.v 107), none, []⟩, ⟨some 109, .load1 (.v 108), none, []⟩, ⟨some 110, .lit 3 1 [.c (.int .i64 10000), .c (.int .i64 10001), .c (.int .i64 0), .v 109], none, []⟩, ⟨some 111, .mv (.v 0), none, []⟩, ⟨some 112, .call 52 [.v 111, .c (.int .i64 4)], none, []⟩, ⟨some 113, .iaddr 1 (.v 110) (.v 112), none, []⟩, ⟨some 114, .load1 (.v 113), none, []⟩, ⟨some 115, .iaddr 7 (.v 102) (.v 103), none, []⟩, ⟨some 116, .faddr 5 (.v 115), none, []⟩, ⟨none, .store 1 (.v 116) (.v 114), none, []⟩] [4, 5] [some [], some [], none, some [], some [], none, some [], some [], some [], none, none, some [10, 9, 7, 6, 4, 3, 2], none, none, none, none, none]) (.seq (.rg [⟨some 118, .bin .eql (.v 16) (.c (.int .i64 6)), none, []⟩, ⟨some 117, .mv (.v 118), none, [118]⟩] [0, 4, 5, 6, 16, 117]) (.cond (.v 117) (.rgd [⟨some 119, .faddr 4 (.v 5), none, []⟩, ⟨some 120, .load1 (.v 119), none, []⟩, ⟨some 121, .mv (.v 0), none, []⟩, ⟨some 122, .call 52 [.v 121, .c (.int .i64 3)], none, []⟩, ⟨some 123, .bin .add (.v 120) (.v 122), none, []⟩, ⟨some 124, .faddr 3 (.v 5), none, []⟩, ⟨none, .store 1 (.v 124) (.v 123), none, []⟩] [4, 5] [some [], some [], none, some [2, 1], none, none, none]) (.seq (.rg [⟨some 126, .bin .eql (.v 16) (.c (.int .i64 7)), none, []⟩, ⟨some 125, .mv (.v 126), none, [126]⟩] [0, 4, 5, 6, 16, 125]) (.cond (.v 125) (.rgd [⟨some 127, .faddr 3 (.v 5), none, []⟩, ⟨some 128, .load1 (.v 127), none, []⟩, ⟨some 129, .lit 3 1 [.c (.int .i64 0), .c (.int .i64 10000), .c (.int .i64 10001), .v 128], none, []⟩, ⟨some 130, .mv (.v 0), none, []⟩, ⟨some 131, .call 52 [.v 130, .c (.int .i64 4)], none, []⟩, ⟨some 132, .iaddr 1 (.v 129) (.v 131), none, []⟩, ⟨some 133, .load1 (.v 132), none, []⟩, ⟨some 134, .faddr 4 (.v 5), none, []⟩, ⟨none, .store 1 (.v 134) (.v 133), none, []⟩] [4, 5] [some [], some [], none, none, some [3, 2], none, none, none, none]) (.seq (.rg [⟨some 136, .bin .eql (.v 16) (.c (.int .i64 8)), none, []⟩, ⟨some 135, .mv (.v 136), none, [136]⟩] [0, 4, 5, 6, 16, 135]) (.cond (.v 135) (.rg [⟨some 137, .faddr 2 (.v 5), none, []⟩, ⟨some 138, .load1 (.v 137), none, [137]⟩, ⟨some 139, .mv (.v 6), none, [6]⟩, ⟨some 140, .slSl 7 (.v 138) none (some (.v 139)), none, [138, 139]⟩, ⟨some 141, .faddr 2 (.v 5), none, []⟩, ⟨none, .store 1 (.v 141) (.v 140), none, [140, 141]⟩] [4, 5]) (.seq (.rg [⟨some 143, .bin .eql (.v 16) (.c (.int .i64 9)), none, []⟩, ⟨some 142, .mv (.v 143), none, [143]⟩] [0, 4, 5, 6, 16, 142]) (.cond (.v 142) (.block 1 (.loop l_spec_l30Spoil_0)) (.seq (.rg [⟨some 177, .bin .eql (.v 16) (.c (.int .i64 10)), none, [16]⟩, ⟨some 176, .mv (.v 177), none, [177]⟩] [4, 5, 6, 176]) (.cond (.v 176) (.rgd [⟨some 178, .faddr 2 (.v 5), none, []⟩, ⟨some 179, .load1 (.v 178), none, []⟩, ⟨some 180, .mv (.v 6), none, []⟩, ⟨some 181, .faddr 2 (.v 5), none, []⟩, ⟨some 182, .load1 (.v 181), none, []⟩, ⟨some 183, .mv (.v 6), none, []⟩, ⟨some 184, .iaddr 7 (.v 182) (.v 183), none, []⟩, ⟨some 185, .faddr 6 (.v 184), none, []⟩, ⟨some 186, .load1 (.v 185), none, []⟩, ⟨some 187, .not (.v 186), none, []⟩, ⟨some 188, .iaddr 7 (.v 179) (.v 180), none, []⟩, ⟨some 189, .faddr 6 (.v 188), none, []⟩, ⟨none, .store 1 (.v 189) (.v 187), none, []⟩] [4, 5] [none, none, none, none, none, none, none, none, none, none, none, none, none]) (.rgd [⟨some 17, .faddr 2 (.v 5), none, []⟩, ⟨some 18, .load1 (.v 17), none, []⟩, ⟨some 19, .faddr 2 (.v 5), none, []⟩, ⟨some 20, .load1 (.v 19), none, []⟩, ⟨some 21, .faddr 2 (.v 5), none, []⟩, ⟨some 22, .load1 (.v 21), none, []⟩, ⟨some 23, .lenL (.v 22), none, []⟩, ⟨some 24, .bin .sub (.v 23) (.c (.int .i64 1)), none, []⟩, ⟨some 25, .iaddr 7 (.v 20) (.v 24), none, []⟩, ⟨some 26, .loadN 7 (.v 25), none, []⟩, ⟨some 27, .lit 64 7 [.v 26], none, []⟩, ⟨some 28, .app 190 64 7 (.v 18) (.v 27), none, []⟩, ⟨some 29, .faddr 2 (.v 5), none, []⟩, ⟨none, .store 1 (.v 29) (.v 28), none, []⟩] [4, 5] [none, none, none, none, none, none, none, none, none, none, none, none, none, none]))))))))))))))))))))))))) (.seq (.rg [⟨some 190, .loadN 5 (.v 5), none, [5]⟩, ⟨none, .store 5 (.v 4) (.v 190), none, [190]⟩] [4]) (.gh (.frzB 104 2) .ret)))))) }
theorem k_spec_l30Spoil : okFun Go.Proofs.Try.prog 98 s_spec_l30Spoil = true := by kernel_rfl
/-- impl.FlyMayTurn: function 100 -/
def s_impl_FlyMayTurn : SFun := { n := 69, res := [.t 8], body := (.seq (.rg [⟨some 4, .box 104 (.v 0), none, [0]⟩, ⟨some 5, .box 105 (.v 1), none, [1]⟩, ⟨some 8, .mv (.c (.bool false)), none, [8]⟩] [2, 3, 4, 5]) (.seq (.rg [⟨some 18, .loadN 5 (.v 4), none, []⟩, ⟨some 19, .mv (.v 2), none, []⟩, ⟨some 20, .mv (.v 3), none, []⟩, ⟨some 21, .call 37 [.v 18, .v 19, .v 20], none, [18, 19, 20]⟩, ⟨some 17, .mv (.v 21), none, [21]⟩, ⟨some 22, .ext 0 (.v 17), none, []⟩, ⟨some 23, .ext 1 (.v 17), none, [17]⟩, ⟨some 9, .alloc 109 [.int .i64 0, .int .i64 0, .sl 0 7 [], .int .i64 0, .int .i64 0], none, []⟩, ⟨none, .store 5 (.v 9) (.v 22), none, [22]⟩, ⟨some 10, .mv (.v 23), none, [23]⟩] [2, 3, 4, 5, 9, 10]) (.seq (.seq (.rg [⟨some 24, .mv (.v 10), none, [10]⟩, ⟨some 25, .not (.v 24), none, [24]⟩, ⟨some 26, .mv (.v 25), none, [25]⟩, ⟨some 27, .loadN 5 (.v 5), some (26, false), []⟩, ⟨some 28, .call 32 [.v 27], some (26, false), [27]⟩, ⟨some 29, .not (.v 28), some (26, false), [28]⟩, ⟨some 30, .pick (.v 26) (.c (.bool true)) (.v 29), none, [26, 29]⟩, ⟨some 31, .mv (.v 30), none, [30]⟩, ⟨some 32, .loadN 5 (.v 4), some (31, false), [4]⟩, ⟨some 33, .loadN 5 (.v 5), some (31, false), []⟩, ⟨some 34, .call 46 [.v 32, .v 33], some (31, false), [32, 33]⟩, ⟨some 35, .mv (.v 2), some (31, false), []⟩, ⟨some 36, .bin .leq (.v 34) (.v 35), some (31, false), [34, 35]⟩, ⟨some 37, .pick (.v 31) (.c (.bool true)) (.v 36), none, [31, 36]⟩] [2, 3, 5, 9, 37]) (.cond (.v 37) (.seq (.rg [⟨some 8, .mv (.c (.bool false)), none, []⟩] [8]) .ret) .skip)) (.seq (.rg [⟨some 39, .loadN 5 (.v 9), none, [9]⟩, ⟨some 40, .call 10 [.v 39], none, [39]⟩, ⟨some 38, .mv (.v 40), none, [40]⟩, ⟨some 41, .ext 0 (.v 38), none, []⟩, ⟨some 42, .ext 1 (.v 38), none, [38]⟩, ⟨some 11, .mv (.v 41), none, [41]⟩, ⟨some 12, .mv (.v 42), none, [12, 42]⟩] [2, 3, 5, 11]) (.seq (.rgd [⟨some 44, .loadN 5 (.v 5), none, []⟩, ⟨some 45, .mv (.v 2), none, []⟩, ⟨some 46, .mv (.v 11), none, []⟩, ⟨some 47, .iaddr 2 (.v 46) (.c (.int .i64 0)), none, []⟩, ⟨some 48, .faddr 0 (.v 47), none, []⟩, ⟨some 49, .load1 (.v 48), none, []⟩, ⟨some 50, .mv (.v 3), none, []⟩, ⟨some 51, .call 36 [.v 44, .v 45, .v 49, .v 50], none, []⟩, ⟨some 43, .mv (.v 51), none, []⟩, ⟨some 52, .ext 0 (.v 43), none, []⟩, ⟨some 53, .ext 1 (.v 43), none, []⟩, ⟨some 13, .alloc 113 [.int .i64 0, .int .i64 0, .sl 0 7 [], .int .i64 0, .int .i64 0], none, []⟩, ⟨none, .store 5 (.v 13) (.v 52), none, []⟩, ⟨some 14, .mv (.v 53), none, []⟩] [2, 3, 5, 11, 14] [some [], none, none, some [], some [], some [], none, some [], none, none, none, some [10, 7, 6, 5, 3], none, none]) (.seq (.rgd [⟨some 55, .loadN 5 (.v 5), none, []⟩, ⟨some 56, .mv (.v 2), none, []⟩, ⟨some 57, .mv (.v 11), none, []⟩, ⟨some 58, .iaddr 2 (.v 57) (.c (.int .i64 0)), none, []⟩, ⟨some 59, .faddr 1 (.v 58), none, []⟩, ⟨some 60, .load1 (.v 59), none, []⟩, ⟨some 61, .mv (.v 3), none, []⟩, ⟨some 62, .call 36 [.v 55, .v 56, .v 60, .v 61], none, []⟩, ⟨some 54, .mv (.v 62), none, []⟩, ⟨some 63, .ext 0 (.v 54), none, []⟩, ⟨some 64, .ext 1 (.v 54), none, []⟩, ⟨some 15, .alloc 115 [.int .i64 0, .int .i64 0, .sl 0 7 [], .int .i64 0, .int .i64 0], none, []⟩, ⟨none, .store 5 (.v 15) (.v 63), none, []⟩, ⟨some 16, .mv (.v 64), none, []⟩] [14, 16] [some [], none, none, some [], some [], some [], none, some [], none, none, none, some [10, 7, 6, 5, 3], none, none]) (.seq (.rg [⟨some 65, .mv (.v 14), none, [14]⟩, ⟨some 66, .mv (.v 65), none, [65]⟩, ⟨some 67, .mv (.v 16), some (66, true), [16]⟩, ⟨some 68, .pick (.v 66) (.v 67) (.c (.bool false)), none, [66, 67]⟩, ⟨some 8, .mv (.v 68), none, [68]⟩] [8]) .ret))))))) }
theorem k_impl_FlyMayTurn : okFun Go.Proofs.Try.prog 100 s_impl_FlyMayTurn = true := by kernel_rfl
def l_spec_l28All_0 : SCode := (.seq (.seq (.rg [⟨some 11, .mv (.v 10), none, []⟩, ⟨some 12, .mv (.v 2), none, []⟩, ⟨some 13, .lenL (.v 12), none, [12]⟩, ⟨some 14, .bin .lss (.v 11) (.v 13), none, [11, 13]⟩] [2, 3, 4, 5, 9, 10, 14]) (.cond (.v 14) .skip (.exit 0))) (.seq (.block 1 (.seq (.seq (.rgd [⟨some 17, .mv (.v 3), none, []⟩, ⟨some 18, .mv (.v 2), none, []⟩, ⟨some 19, .mv (.v 10), none, []⟩, ⟨some 20, .iaddr 6 (.v 18) (.v 19), none, []⟩, ⟨some 21, .faddr 4 (.v 20), none, []⟩, ⟨some 22, .load1 (.v 21), none, []⟩, ⟨some 23, .mv (.v 2), none, []⟩, ⟨some 24, .mv (.v 10), none, []⟩, ⟨some 25, .iaddr 6 (.v 23) (.v 24), none, []⟩, ⟨some 26, .faddr 5 (.v 25), none, []⟩, ⟨some 27, .load1 (.v 26), none, []⟩, ⟨some 28, .call 57 [.v 17, .v 22, .v 27], none, []⟩, ⟨some 29, .not (.v 28), none, []⟩] [2, 3, 4, 5, 9, 10, 29] [none, none, none, none, none, none, none, none, none, none, none, none, none]) (.cond (.v 29) (.exit 1) .skip)) (.seq (.rg [⟨some 9, .mv (.c (.bool true)), none, []⟩] [2, 3, 4, 5, 9, 10]) (.seq (.rg [⟨some 30, .loadN 5 (.v 4), none, []⟩, ⟨some 31, .loadN 5 (.v 5), none, []⟩, ⟨some 32, .mv (.v 10), none, []⟩, ⟨some 33, .mv (.v 3), none, []⟩, ⟨some 34, .call 116 [.v 30, .v 31, .v 32, .v 33], none, [30, 31, 32, 33]⟩, ⟨some 35, .not (.v 34), none, [34]⟩] [2, 3, 4, 5, 9, 10, 35]) (.cond (.v 35) (.seq (.rg [⟨some 8, .mv (.c (.bool false)), none, []⟩] [8]) .ret) .skip))))) (.rg [⟨some 15, .mv (.v 10), none, [10]⟩, ⟨some 16, .binN .add (.v 15) (.c (.int .i64 1)), none, [15]⟩, ⟨some 10, .mv (.v 16), none, [16]⟩] [2, 3, 4, 5, 9, 10])))
/-- spec.l28All: function 102 -/
def s_spec_l28All : SFun := { n := 37, res := [.t 8], body := (.seq (.rg [⟨some 4, .box 104 (.v 0), none, [0]⟩, ⟨some 5, .box 105 (.v 1), none, [1]⟩, ⟨some 8, .mv (.c (.bool false)), none, [8]⟩] [2, 3, 4, 5]) (.seq (.rg [⟨some 9, .mv (.c (.bool false)), none, []⟩] [2, 3, 4, 5, 9]) (.seq (.seq (.rg [⟨some 10, .mv (.c (.int .i64 0)), none, []⟩] [2, 3, 4, 5, 9, 10]) (.block 0 (.loop l_spec_l28All_0))) (.seq (.rg [⟨some 36, .mv (.v 9), none, [9]⟩, ⟨some 8, .mv (.v 36), none, [36]⟩] [8]) .ret)))) }
theorem k_spec_l28All : okFun Go.Proofs.Try.prog 102 s_spec_l28All = true := by kernel_rfl
def l_spec_l30Late_0 : SCode := (.seq (.seq (.rg [⟨some 9, .mv (.v 4), none, []⟩, ⟨some 10, .faddr 2 (.v 1), none, []⟩, ⟨some 11, .load1 (.v 10), none, [10]⟩, ⟨some 12, .lenL (.v 11), none, [11]⟩, ⟨some 13, .bin .lss (.v 9) (.v 12), none, [9, 12]⟩] [1, 2, 3, 4, 13]) (.cond (.v 13) .skip (.exit 0))) (.seq (.block 1 (.rg [⟨some 16, .mv (.v 3), none, [3]⟩, ⟨some 17, .faddr 2 (.v 1), none, []⟩, ⟨some 18, .load1 (.v 17), none, [17]⟩, ⟨some 19, .mv (.v 4), none, []⟩, ⟨some 20, .iaddr 7 (.v 18) (.v 19), none, [18, 19]⟩, ⟨some 21, .faddr 5 (.v 20), none, [20]⟩, ⟨some 22, .load1 (.v 21), none, [21]⟩, ⟨some 23, .call 84 [.v 16, .v 22], none, [16, 22]⟩, ⟨some 3, .mv (.v 23), none, [23]⟩] [1, 2, 3, 4])) (.rg [⟨some 14, .mv (.v 4), none, [4]⟩, ⟨some 15, .bin .add (.v 14) (.c (.int .i64 1)), none, [14]⟩, ⟨some 4, .mv (.v 15), none, [15]⟩] [1, 2, 3, 4])))
/-- spec.l30Late: function 103 -/
def s_spec_l30Late : SFun := { n := 35, res := [.cN 2 5], body := (.seq (.rg [⟨some 1, .box 101 (.v 0), none, [0]⟩, ⟨some 2, .alloc 102 [.int .i64 0, .int .i64 0, .sl 0 7 [], .int .i64 0, .int .i64 0], none, []⟩] [1, 2]) (.seq (.rg [⟨some 7, .faddr 4 (.v 1), none, []⟩, ⟨some 8, .load1 (.v 7), none, [7]⟩, ⟨some 3, .mv (.v 8), none, [8]⟩] [1, 2, 3]) (.seq (.seq (.rg [⟨some 4, .mv (.c (.int .i64 0)), none, []⟩] [1, 2, 3, 4]) (.block 0 (.loop l_spec_l30Late_0))) (.seq (.rg [⟨some 25, .loadN 5 (.v 1), none, []⟩, ⟨some 26, .mv (.v 3), none, [3]⟩, ⟨some 27, .bin .sub (.c (.int .i64 10000)) (.v 26), none, [26]⟩, ⟨some 28, .call 117 [.v 25, .v 27], none, [25, 27]⟩, ⟨some 24, .mv (.v 28), none, [28]⟩, ⟨some 29, .ext 0 (.v 24), none, []⟩, ⟨some 30, .ext 1 (.v 24), none, [24]⟩, ⟨some 5, .alloc 105 [.int .i64 0, .int .i64 0, .sl 0 7 [], .int .i64 0, .int .i64 0], none, []⟩, ⟨none, .store 5 (.v 5) (.v 29), none, [29]⟩, ⟨some 6, .mv (.v 30), none, [30]⟩] [1, 2, 5, 6]) (.seq (.seq (.rg [⟨some 31, .mv (.v 6), none, [6]⟩, ⟨some 32, .not (.v 31), none, [31]⟩] [1, 2, 5, 32]) (.cond (.v 32) (.seq (.rg [⟨some 33, .loadN 5 (.v 1), none, [1]⟩, ⟨none, .store 5 (.v 2) (.v 33), none, [33]⟩] [2]) .ret) .skip)) (.seq (.rg [⟨some 34, .loadN 5 (.v 5), none, [5]⟩, ⟨none, .store 5 (.v 2) (.v 34), none, [34]⟩] [2]) .ret)))))) }
theorem k_spec_l30Late : okFun Go.Proofs.Try.prog 103 s_spec_l30Late = true := by kernel_rfl
/-- spec.FlyMayTurn: function 116 -/
def s_spec_FlyMayTurn : SFun := { n := 69, res := [.t 8], body := (.seq (.rg [⟨some 4, .box 104 (.v 0), none, [0]⟩, ⟨some 5, .box 105 (.v 1), none, [1]⟩, ⟨some 8, .mv (.c (.bool false)), none, [8]⟩] [2, 3, 4, 5]) (.seq (.rg [⟨some 18, .loadN 5 (.v 4), none, []⟩, ⟨some 19, .mv (.v 2), none, []⟩, ⟨some 20, .mv (.v 3), none, []⟩, ⟨some 21, .call 41 [.v 18, .v 19, .v 20], none, [18, 19, 20]⟩, ⟨some 17, .mv (.v 21), none, [21]⟩, ⟨some 22, .ext 0 (.v 17), none, []⟩, ⟨some 23, .ext 1 (.v 17), none, [17]⟩, ⟨some 9, .alloc 109 [.int .i64 0, .int .i64 0, .sl 0 7 [], .int .i64 0, .int .i64 0], none, []⟩, ⟨none, .store 5 (.v 9) (.v 22), none, [22]⟩, ⟨some 10, .mv (.v 23), none, [23]⟩] [2, 3, 4, 5, 9, 10]) (.seq (.seq (.rg [⟨some 24, .mv (.v 10), none, [10]⟩, ⟨some 25, .not (.v 24), none, [24]⟩, ⟨some 26, .mv (.v 25), none, [25]⟩, ⟨some 27, .loadN 5 (.v 5), some (26, false), []⟩, ⟨some 28, .call 33 [.v 27], some (26, false), [27]⟩, ⟨some 29, .not (.v 28), some (26, false), [28]⟩, ⟨some 30, .pick (.v 26) (.c (.bool true)) (.v 29), none, [26, 29]⟩, ⟨some 31, .mv (.v 30), none, [30]⟩, ⟨some 32, .loadN 5 (.v 4), some (31, false), [4]⟩, ⟨some 33, .loadN 5 (.v 5), some (31, false), []⟩, ⟨some 34, .call 47 [.v 32, .v 33], some (31, false), [32, 33]⟩, ⟨some 35, .mv (.v 2), some (31, false), []⟩, ⟨some 36, .bin .leq (.v 34) (.v 35), some (31, false), [34, 35]⟩, ⟨some 37, .pick (.v 31) (.c (.bool true)) (.v 36), none, [31, 36]⟩] [2, 3, 5, 9, 37]) (.cond (.v 37) (.seq (.rg [⟨some 8, .mv (.c (.bool false)), none, []⟩] [8]) .ret) .skip)) (.seq (.rg [⟨some 39, .loadN 5 (.v 9), none, [9]⟩, ⟨some 40, .call 54 [.v 39], none, [39]⟩, ⟨some 38, .mv (.v 40), none, [40]⟩, ⟨some 41, .ext 0 (.v 38), none, []⟩, ⟨some 42, .ext 1 (.v 38), none, [38]⟩, ⟨some 11, .mv (.v 41), none, [41]⟩, ⟨some 12, .mv (.v 42), none, [12, 42]⟩] [2, 3, 5, 11]) (.seq (.rgd [⟨some 44, .loadN 5 (.v 5), none, []⟩, ⟨some 45, .mv (.v 2), none, []⟩, ⟨some 46, .mv (.v 11), none, []⟩, ⟨some 47, .iaddr 2 (.v 46) (.c (.int .i64 0)), none, []⟩, ⟨some 48, .faddr 0 (.v 47), none, []⟩, ⟨some 49, .load1 (.v 48), none, []⟩, ⟨some 50, .mv (.v 3), none, []⟩, ⟨some 51, .call 40 [.v 44, .v 45, .v 49, .v 50], none, []⟩, ⟨some 43, .mv (.v 51), none, []⟩, ⟨some 52, .ext 0 (.v 43), none, []⟩, ⟨some 53, .ext 1 (.v 43), none, []⟩, ⟨some 13, .alloc 113 [.int .i64 0, .int .i64 0, .sl 0 7 [], .int .i64 0, .int .i64 0], none, []⟩, ⟨none, .store 5 (.v 13) (.v 52), none, []⟩, ⟨some 14, .mv (.v 53), none, []⟩] [2, 3, 5, 11, 14] [some [], none, none, some [], some [], some [], none, some [], none, none, none, some [10, 7, 6, 5, 3], none, none]) (.seq (.rgd [⟨some 55, .loadN 5 (.v 5), none, []⟩, ⟨some 56, .mv (.v 2), none, []⟩, ⟨some 57, .mv (.v 11), none, []⟩, ⟨some 58, .iaddr 2 (.v 57) (.c (.int .i64 0)), none, []⟩, ⟨some 59, .faddr 1 (.v 58), none, []⟩, ⟨some 60, .load1 (.v 59), none, []⟩, ⟨some 61, .mv (.v 3), none, []⟩, ⟨some 62, .call 40 [.v 55, .v 56, .v 60, .v 61], none, []⟩, ⟨some 54, .mv (.v 62), none, []⟩, ⟨some 63, .ext 0 (.v 54), none, []⟩, ⟨some 64, .ext 1 (.v 54), none, []⟩, ⟨some 15, .alloc 115 [.int .i64 0, .int .i64 0, .sl 0 7 [], .int .i64 0, .int .i64 0], none, []⟩, ⟨none, .store 5 (.v 15) (.v 63), none, []⟩, ⟨some 16, .mv (.v 64), none, []⟩] [14, 16] [some [], none, none, some [], some [], some [], none, some [], none, none, none, some [10, 7, 6, 5, 3], none, none]) (.seq (.rg [⟨some 65, .mv (.v 14), none, [14]⟩, ⟨some 66, .mv (.v 65), none, [65]⟩, ⟨some 67, .mv (.v 16), some (66, true), [16]⟩, ⟨some 68, .pick (.v 66) (.v 67) (.c (.bool false)), none, [66, 67]⟩, ⟨some 8, .mv (.v 68), none, [68]⟩] [8]) .ret))))))) }
theorem k_spec_FlyMayTurn : okFun Go.Proofs.Try.prog 116 s_spec_FlyMayTurn = true := by kernel_rfl
def l_spec_FlyShift_0 : SCode := (.seq (.seq (.rg [⟨some 19, .mv (.v 7), none, []⟩, ⟨some 20, .faddr 2 (.v 6), none, []⟩, ⟨some 21, .load1 (.v 20), none, [20]⟩, ⟨some 22, .lenL (.v 21), none, [21]⟩, ⟨some 23, .bin .lss (.v 19) (.v 22), none, [19, 22]⟩] [1, 4, 6, 7, 23]) (.cond (.v 23) .skip (.exit 0))) (.seq (.block 1 (.seq (.rgd [⟨some 26, .faddr 2 (.v 6), none, []⟩, ⟨some 27, .load1 (.v 26), none, []⟩, ⟨some 28, .mv (.v 7), none, []⟩, ⟨some 29, .faddr 2 (.v 6), none, []⟩, ⟨some 30, .load1 (.v 29), none, []⟩, ⟨some 31, .mv (.v 7), none, []⟩, ⟨some 32, .iaddr 7 (.v 30) (.v 31), none, []⟩, ⟨some 33, .faddr 4 (.v 32), none, []⟩, ⟨some 34, .load1 (.v 33), none, []⟩, ⟨some 35, .mv (.v 1), none, []⟩, ⟨some 36, .bin .add (.v 34) (.v 35), none, []⟩, ⟨some 37, .iaddr 7 (.v 27) (.v 28), none, []⟩, ⟨some 38, .faddr 4 (.v 37), none, []⟩, ⟨none, .store 1 (.v 38) (.v 36), none, []⟩] [1, 4, 6, 7] [none, none, none, none, none, none, none, none, none, none, none, none, none, none]) (.rgd [⟨some 39, .faddr 2 (.v 6), none, []⟩, ⟨some 40, .load1 (.v 39), none, []⟩, ⟨some 41, .mv (.v 7), none, []⟩, ⟨some 42, .faddr 2 (.v 6), none, []⟩, ⟨some 43, .load1 (.v 42), none, []⟩, ⟨some 44, .mv (.v 7), none, []⟩, ⟨some 45, .iaddr 7 (.v 43) (.v 44), none, []⟩, ⟨some 46, .faddr 5 (.v 45), none, []⟩, ⟨some 47, .load1 (.v 46), none, []⟩, ⟨some 48, .mv (.v 1), none, []⟩, ⟨some 49, .bin .add (.v 47) (.v 48), none, []⟩, ⟨some 50, .iaddr 7 (.v 40) (.v 41), none, []⟩, ⟨some 51, .faddr 5 (.v 50), none, []⟩, ⟨none, .store 1 (.v 51) (.v 49), none, []⟩] [1, 4, 6, 7] [none, none, none, none, none, none, none, none, none, none, none, none, none, none]))) (.rg [⟨some 24, .mv (.v 7), none, [7]⟩, ⟨some 25, .bin .add (.v 24) (.c (.int .i64 1)), none, [24]⟩, ⟨some 7, .mv (.v 25), none, [25]⟩] [1, 4, 6, 7])))
/-- spec.FlyShift: function 117 -/
def s_spec_FlyShift : SFun := { n := 67, res := [.cN 4 5, .t 5], body := (.seq (.rg [⟨some 2, .box 102 (.v 0), none, [0]⟩, ⟨some 4, .alloc 104 [.int .i64 0, .int .i64 0, .sl 0 7 [], .int .i64 0, .int .i64 0], none, []⟩, ⟨some 5, .mv (.c (.bool false)), none, [5]⟩] [1, 2, 4]) (.seq (.seq (.rg [⟨some 8, .loadN 5 (.v 2), none, []⟩, ⟨some 9, .call 33 [.v 8], none, [8]⟩, ⟨some 10, .not (.v 9), none, [9]⟩, ⟨some 11, .mv (.v 10), none, [10]⟩, ⟨some 12, .mv (.v 1), some (11, false), []⟩, ⟨some 13, .call 57 [.v 12, .c (.int .i64 (-10000)), .c (.int .i64 10000)], some (11, false), [12]⟩, ⟨some 14, .not (.v 13), some (11, false), [13]⟩, ⟨some 15, .pick (.v 11) (.c (.bool true)) (.v 14), none, [11, 14]⟩] [1, 2, 4, 15]) (.cond (.v 15) (.seq (.rg [⟨some 16, .build [.int .i64 0, .int .i64 0, .sl 0 7 [], .int .i64 0, .int .i64 0] [], none, []⟩, ⟨none, .store 5 (.v 4) (.v 16), none, [16]⟩, ⟨some 5, .mv (.c (.bool false)), none, []⟩] [4, 5]) (.gh (.frzB 104 2) .ret)) .skip)) (.seq (.rg [⟨some 17, .loadN 5 (.v 2), none, [2]⟩, ⟨some 18, .call 112 [.v 17], none, [17]⟩, ⟨some 6, .alloc 106 [.int .i64 0, .int .i64 0, .sl 0 7 [], .int .i64 0, .int .i64 0], none, []⟩, ⟨none, .store 5 (.v 6) (.v 18), none, [18]⟩] [1, 4, 6]) (.seq (.seq (.rg [⟨some 7, .mv (.c (.int .i64 0)), none, []⟩] [1, 4, 6, 7]) (.block 0 (.loop l_spec_FlyShift_0))) (.seq (.rg [⟨some 52, .faddr 3 (.v 6), none, []⟩, ⟨some 53, .load1 (.v 52), none, [52]⟩, ⟨some 54, .mv (.v 1), none, []⟩, ⟨some 55, .bin .add (.v 53) (.v 54), none, [53, 54]⟩, ⟨some 56, .faddr 3 (.v 6), none, []⟩, ⟨none, .store 1 (.v 56) (.v 55), none, [55, 56]⟩] [1, 4, 6]) (.seq (.rg [⟨some 57, .faddr 4 (.v 6), none, []⟩, ⟨some 58, .load1 (.v 57), none, [57]⟩, ⟨some 59, .mv (.v 1), none, [1]⟩, ⟨some 60, .bin .add (.v 58) (.v 59), none, [58, 59]⟩, ⟨some 61, .faddr 4 (.v 6), none, []⟩, ⟨none, .store 1 (.v 61) (.v 60), none, [60, 61]⟩] [4, 6]) (.seq (.seq (.rg [⟨some 62, .loadN 5 (.v 6), none, []⟩, ⟨some 63, .call 33 [.v 62], none, [62]⟩, ⟨some 64, .not (.v 63), none, [63]⟩] [4, 6, 64]) (.cond (.v 64) (.seq (.rg [⟨some 65, .build [.int .i64 0, .int .i64 0, .sl 0 7 [], .int .i64 0, .int .i64 0] [], none, []⟩, ⟨none, .store 5 (.v 4) (.v 65), none, [65]⟩, ⟨some 5, .mv (.c (.bool false)), none, []⟩] [4, 5]) (.gh (.frzB 104 2) .ret)) .skip)) (.seq (.rg [⟨some 66, .loadN 5 (.v 6), none, [6]⟩, ⟨none, .store 5 (.v 4) (.v 66), none, [66]⟩, ⟨some 5, .mv (.c (.bool true)), none, []⟩] [4, 5]) (.gh (.frzB 104 2) .ret))))))))) }
theorem k_spec_FlyShift : okFun Go.Proofs.Try.prog 117 s_spec_FlyShift = true := by kernel_rfl
end Go.Ve

namespace Go.Ve
open Go.Proofs
set_option linter.unusedSimpArgs false
set_option linter.unusedVariables false
set_option maxRecDepth 100000
theorem take_all {α : Type} {f : α → List AV} {l : List α} : List.take l.length (List.map f l) = List.map f l := List.take_of_length_le (by simp)
def Path5.tail (p : Path5) (k : Nat) : Path5 := { p with l := p.l.drop k }
def Path5.after (p : Path5) (now : Int) : Path5 := if 1 < p.l.length then { p with l := p.l.set 1 { p.l.getD 1 default with f := max (p.l.getD 1 default).f (now + 1) } } else { p with f := max p.f (now + 1) }
def Path5.avO (p : Path5) (o v : Nat) : AV := .agg [.int .i64 p.q, .int .i64 p.s, .own o v 0 p.l.length, .int .i64 p.f, .int .i64 p.b]
theorem c_l27Tail (p : Path5) (t : Nat) (k : Int) (hk : 0 ≤ k ∧ k ≤ p.l.length) (hn : p.l.length ≤ 1048576) : Contract P 93 [.agg [.int .i64 p.q, .int .i64 p.s, .sl t 7 (p.l.map Stp7.row), .int .i64 p.f, .int .i64 p.b], .int .i64 k] [] ((p.tail k.toNat).avO 112 1) [(112, .arr 64 1 7 ((p.tail k.toNat).l.map Stp7.row))] := by
  refine fn_sound (Env.nil P) hm k_spec_l27Tail (Nat.le_of_ble_eq_true rfl) rfl ?_
  unfold s_spec_l27Tail
  simp only [w_skip, w_rg, w_rgd, w_seq, w_cond, w_block, w_loop, w_exit, w_ret, w_gh, w_rg0, w_rg1, w_rgT, w_rgF, w_run, w_psd, w_und, w_dr0, w_dr1, w_drT, w_drF, w_drRun, w_drPsd, w_drUnd, w_drKn, w_drKs, w_putK, w_trimK, w_thenN, w_thenE, w_thenR, w_scope, w_label, w_blkN, w_blkE, w_blkR, w_call, w_effK, brU_true, brU_false, brU_u, brU_not, brU_and, brU_or, brU_dec, brU_eq, brU_ne, br_true, br_false, br_not, br_and, br_or, br_dec, br_eq, br_ne, w_getE0, w_getE1, w_setE0, w_setE1, w_dropE0, w_dropE1, w_drop0, w_drop1, w_getM0, w_getM1, w_setM0, w_setM1, ev_v, ev_c, w_putS, w_putN, w_lit, w_apU0, w_apU1, w_apU2, w_trim, enumE0, enumE1, w_callWp, w_callA0, w_callA1, w_R0, w_R1, w_R2, w_T2, w_callL, w_callT, w_T1, w_T0, o_mv, o_newnil, o_pick, o_bin, o_binN, o_neg, o_not, o_eqB, o_eqS, o_conv, o_alloc, o_box, o_load1, o_loadN, o_store, o_nilck, o_faddr, o_field1, o_fieldN, o_iaddr, o_istr, o_slStr, o_slSl, o_lenS, o_lenL, o_mx, o_mn, o_ext, o_build, o_lit, o_litOwn, o_app, o_mk, o_mvfrz, l_int, l_bool, l_str, l_agg, l_sl, l_own, l_ptr, l_pp, i_int, i_bool, i_str, i_sl, i_own, i_ptr, i_pp, all0, all1, e_ok1, eff, effBin, effBinN, ld_ptr, ld_pp, ld_elt, ia_own, ia_arr, el_1, el_N, load1K, faddrE, r_iaddr, sg_S, sg_c, sg_n, purL, pur, List.map, List.drop, List.take, List.length, List.foldl, List.append_eq, List.nil_append, List.cons_append, List.getD_cons_zero, List.getD_cons_succ, reduceIte, Nat.reduceEqDiff, Nat.reduceAdd, Nat.reduceLeDiff, true_and, and_true, Bool.not_true, Bool.not_false, Bool.and_true, Bool.true_and, Bool.and_self, reduceCtorEq, true_implies, false_implies, implies_true, decide_eq_true_eq, Option.map_some, fpOf, fpX, SOp.xs, oX, refs, refsL, dom, disj, List.all_nil, List.all_cons, List.contains_cons, List.contains_nil, Nat.reduceBEq, Bool.or_false, Bool.false_or, List.append_nil, Bool.not_false, Bool.not_true, List.forall_mem_cons, fm0, List.set, Nat.reduceLT, ne_eq, not_false_eq_true, not_true_eq_false
, ret1, ret1N, keep0, keep1, rf_int, rf_bool, rf_str, rf_sl, rf_agg, rf_tup, rfL0, rfL1, re_t, re_cN, re_L0, re_L1, ret_tup, ret_one, decide_true, AV.bool.injEq, AV.int.injEq, Nat.reduceLeDiff, Bool.true_eq, Bool.false_eq, decide_eq_true_eq, decide_eq_false_iff_not, List.length_map, rowsOf, appE, ghost, retQ_eq, retOk, wkM, refsInO, keepB, Path5.avO, Path5.tail, optI, take_rr, take_all, List.length_drop]
  rw [Int.toNat_natCast, take_all, List.length_map, Nat.zero_add, ← List.map_drop]
  exact ⟨by omega, by omega, rfl, rfl, rfl, rfl⟩
theorem c_l27After (p : Path5) (v : Nat) (now : Int) (hw : -4611686018427387904 ≤ now ∧ now ≤ 4611686018427387904) (hn : p.l.length ≤ 1048576) : Contract P 96 [p.avO 3 v, .int .i64 now] [(3, .arr 64 v 7 (p.l.map Stp7.row))] ((p.after now).avO 3 v) [(3, .arr 64 v 7 ((p.after now).l.map Stp7.row))] := by
  refine fn_sound ((Env.nil P).add 84 t_l21Max h_l21Max) hm k_spec_l27After (Nat.le_of_ble_eq_true rfl) rfl ?_
  unfold s_spec_l27After
  simp only [w_skip, w_rg, w_rgd, w_seq, w_cond, w_block, w_loop, w_exit, w_ret, w_gh, w_rg0, w_rg1, w_rgT, w_rgF, w_run, w_psd, w_und, w_dr0, w_dr1, w_drT, w_drF, w_drRun, w_drPsd, w_drUnd, w_drKn, w_drKs, w_putK, w_trimK, w_thenN, w_thenE, w_thenR, w_scope, w_label, w_blkN, w_blkE, w_blkR, w_call, w_effK, brU_true, brU_false, brU_u, brU_not, brU_and, brU_or, brU_dec, brU_eq, brU_ne, br_true, br_false, br_not, br_and, br_or, br_dec, br_eq, br_ne, w_getE0, w_getE1, w_setE0, w_setE1, w_dropE0, w_dropE1, w_drop0, w_drop1, w_getM0, w_getM1, w_setM0, w_setM1, ev_v, ev_c, w_putS, w_putN, w_lit, w_apU0, w_apU1, w_apU2, w_trim, enumE0, enumE1, w_callWp, w_callA0, w_callA1, w_R0, w_R1, w_R2, w_T2, w_callL, w_callT, w_T1, w_T0, o_mv, o_newnil, o_pick, o_bin, o_binN, o_neg, o_not, o_eqB, o_eqS, o_conv, o_alloc, o_box, o_load1, o_loadN, o_store, o_nilck, o_faddr, o_field1, o_fieldN, o_iaddr, o_istr, o_slStr, o_slSl, o_lenS, o_lenL, o_mx, o_mn, o_ext, o_build, o_lit, o_litOwn, o_app, o_mk, o_mvfrz, l_int, l_bool, l_str, l_agg, l_sl, l_own, l_ptr, l_pp, i_int, i_bool, i_str, i_sl, i_own, i_ptr, i_pp, all0, all1, e_ok1, eff, effBin, effBinN, ld_ptr, ld_pp, ld_elt, ia_own, ia_arr, el_1, el_N, load1K, faddrE, r_iaddr, sg_S, sg_c, sg_n, purL, pur, List.map, List.drop, List.take, List.length, List.foldl, List.append_eq, List.nil_append, List.cons_append, List.getD_cons_zero, List.getD_cons_succ, reduceIte, Nat.reduceEqDiff, Nat.reduceAdd, Nat.reduceLeDiff, true_and, and_true, Bool.not_true, Bool.not_false, Bool.and_true, Bool.true_and, Bool.and_self, reduceCtorEq, true_implies, false_implies, implies_true, decide_eq_true_eq, Option.map_some, fpOf, fpX, SOp.xs, oX, refs, refsL, dom, disj, List.all_nil, List.all_cons, List.contains_cons, List.contains_nil, Nat.reduceBEq, Bool.or_false, Bool.false_or, List.append_nil, Bool.not_false, Bool.not_true, List.forall_mem_cons, fm0, List.set, Nat.reduceLT, ne_eq, not_false_eq_true, not_true_eq_false
, ret1, ret1N, keep0, keep1, rf_int, rf_bool, rf_str, rf_sl, rf_agg, rf_tup, rfL0, rfL1, re_t, re_cN, re_L0, re_L1, ret_tup, ret_one, decide_true, AV.bool.injEq, AV.int.injEq, Nat.reduceLeDiff, Bool.true_eq, Bool.false_eq, decide_eq_true_eq, decide_eq_false_iff_not, t_l21Max, List.length_map, Stp7.row, irow, stp_eta, Int.toNat_natCast, flatOk, noref, ghost, List.length_range, Nat.zero_add, Nat.sub_zero, set_f, set_b, List.length_set, Path5.avO, retQ_eq, retOk, wkM, refsInO, keepB]
  have two : ((2 : Nat) : Int) = 2 := rfl
  unfold Path5.after
  refine ⟨fun h => ?_, fun h => ?_⟩
  · rw [if_pos (by omega)]
    refine ⟨⟨by omega, by omega⟩, by omega, by omega, ⟨by omega, by omega⟩, ?_, rfl, rfl, rfl⟩
    simp only [List.length_set]
  · rw [if_neg (by omega)]
    exact ⟨by omega, rfl, rfl, rfl, rfl⟩
theorem c_l27Can1 (p : Path5) (v : Nat) (hc : p.calm) (hcan : p.can) : Contract P 95 [p.avO 3 v] [(3, .arr 64 v 7 (p.l.map Stp7.row))] (.tup [p.avO 3 v, .bool true]) [(3, .arr 64 v 7 (p.l.map Stp7.row))] := by
  refine fn_sound ((Env.nil P).add 54 t_l24Spans h_l24Spans) hm k_spec_l27Can (Nat.le_of_ble_eq_true rfl) rfl ?_
  unfold s_spec_l27Can
  simp only [w_skip, w_rg, w_rgd, w_seq, w_cond, w_block, w_loop, w_exit, w_ret, w_gh, w_rg0, w_rg1, w_rgT, w_rgF, w_run, w_psd, w_und, w_dr0, w_dr1, w_drT, w_drF, w_drRun, w_drPsd, w_drUnd, w_drKn, w_drKs, w_putK, w_trimK, w_thenN, w_thenE, w_thenR, w_scope, w_label, w_blkN, w_blkE, w_blkR, w_call, w_effK, brU_true, brU_false, brU_u, brU_not, brU_and, brU_or, brU_dec, brU_eq, brU_ne, br_true, br_false, br_not, br_and, br_or, br_dec, br_eq, br_ne, w_getE0, w_getE1, w_setE0, w_setE1, w_dropE0, w_dropE1, w_drop0, w_drop1, w_getM0, w_getM1, w_setM0, w_setM1, ev_v, ev_c, w_putS, w_putN, w_lit, w_apU0, w_apU1, w_apU2, w_trim, enumE0, enumE1, w_callWp, w_callA0, w_callA1, w_R0, w_R1, w_R2, w_T2, w_callL, w_callT, w_T1, w_T0, o_mv, o_newnil, o_pick, o_bin, o_binN, o_neg, o_not, o_eqB, o_eqS, o_conv, o_alloc, o_box, o_load1, o_loadN, o_store, o_nilck, o_faddr, o_field1, o_fieldN, o_iaddr, o_istr, o_slStr, o_slSl, o_lenS, o_lenL, o_mx, o_mn, o_ext, o_build, o_lit, o_litOwn, o_app, o_mk, o_mvfrz, l_int, l_bool, l_str, l_agg, l_sl, l_own, l_ptr, l_pp, i_int, i_bool, i_str, i_sl, i_own, i_ptr, i_pp, all0, all1, e_ok1, eff, effBin, effBinN, ld_ptr, ld_pp, ld_elt, ia_own, ia_arr, el_1, el_N, load1K, faddrE, r_iaddr, sg_S, sg_c, sg_n, purL, pur, List.map, List.drop, List.take, List.length, List.foldl, List.append_eq, List.nil_append, List.cons_append, List.getD_cons_zero, List.getD_cons_succ, reduceIte, Nat.reduceEqDiff, Nat.reduceAdd, Nat.reduceLeDiff, true_and, and_true, Bool.not_true, Bool.not_false, Bool.and_true, Bool.true_and, Bool.and_self, reduceCtorEq, true_implies, false_implies, implies_true, decide_eq_true_eq, Option.map_some, fpOf, fpX, SOp.xs, oX, refs, refsL, dom, disj, List.all_nil, List.all_cons, List.contains_cons, List.contains_nil, Nat.reduceBEq, Bool.or_false, Bool.false_or, List.append_nil, Bool.not_false, Bool.not_true, List.forall_mem_cons, fm0, List.set, Nat.reduceLT, ne_eq, not_false_eq_true, not_true_eq_false
, ret1, ret1N, keep0, keep1, rf_int, rf_bool, rf_str, rf_sl, rf_agg, rf_tup, rfL0, rfL1, re_t, re_cN, re_L0, re_L1, ret_tup, ret_one, decide_true, AV.bool.injEq, AV.int.injEq, Nat.reduceLeDiff, Bool.true_eq, Bool.false_eq, decide_eq_true_eq, decide_eq_false_iff_not, t_l24Spans, List.length_map, irow, un_stp, path_eta, take_rr, take_all, Int.toNat_natCast, flatOk, noref, ghost, List.length_range, Nat.zero_add, Nat.sub_zero, Path5.avO, retQ_eq, retOk, wkM, refsInO, keepB]
  exact ⟨hc, fun _ => ⟨⟨_, by simp only [resLP]; exact ⟨_, _, rfl, ⟨Nat.le_refl _, rfl⟩, _, _, rfl, rfl, rfl⟩, rfl⟩, rfl, rfl⟩, fun h => absurd hcan h⟩
theorem c_l27Can0 (p : Path5) (v : Nat) (hc : p.calm) (hcan : ¬ p.can) : Contract P 95 [p.avO 3 v] [(3, .arr 64 v 7 (p.l.map Stp7.row))] (.tup [.agg [.int .i64 0, .int .i64 0, .sl 0 7 [], .int .i64 0, .int .i64 0], .bool false]) [(3, .arr 64 v 7 (p.l.map Stp7.row))] := by
  refine fn_sound ((Env.nil P).add 54 t_l24Spans h_l24Spans) hm k_spec_l27Can (Nat.le_of_ble_eq_true rfl) rfl ?_
  unfold s_spec_l27Can
  simp only [w_skip, w_rg, w_rgd, w_seq, w_cond, w_block, w_loop, w_exit, w_ret, w_gh, w_rg0, w_rg1, w_rgT, w_rgF, w_run, w_psd, w_und, w_dr0, w_dr1, w_drT, w_drF, w_drRun, w_drPsd, w_drUnd, w_drKn, w_drKs, w_putK, w_trimK, w_thenN, w_thenE, w_thenR, w_scope, w_label, w_blkN, w_blkE, w_blkR, w_call, w_effK, brU_true, brU_false, brU_u, brU_not, brU_and, brU_or, brU_dec, brU_eq, brU_ne, br_true, br_false, br_not, br_and, br_or, br_dec, br_eq, br_ne, w_getE0, w_getE1, w_setE0, w_setE1, w_dropE0, w_dropE1, w_drop0, w_drop1, w_getM0, w_getM1, w_setM0, w_setM1, ev_v, ev_c, w_putS, w_putN, w_lit, w_apU0, w_apU1, w_apU2, w_trim, enumE0, enumE1, w_callWp, w_callA0, w_callA1, w_R0, w_R1, w_R2, w_T2, w_callL, w_callT, w_T1, w_T0, o_mv, o_newnil, o_pick, o_bin, o_binN, o_neg, o_not, o_eqB, o_eqS, o_conv, o_alloc, o_box, o_load1, o_loadN, o_store, o_nilck, o_faddr, o_field1, o_fieldN, o_iaddr, o_istr, o_slStr, o_slSl, o_lenS, o_lenL, o_mx, o_mn, o_ext, o_build, o_lit, o_litOwn, o_app, o_mk, o_mvfrz, l_int, l_bool, l_str, l_agg, l_sl, l_own, l_ptr, l_pp, i_int, i_bool, i_str, i_sl, i_own, i_ptr, i_pp, all0, all1, e_ok1, eff, effBin, effBinN, ld_ptr, ld_pp, ld_elt, ia_own, ia_arr, el_1, el_N, load1K, faddrE, r_iaddr, sg_S, sg_c, sg_n, purL, pur, List.map, List.drop, List.take, List.length, List.foldl, List.append_eq, List.nil_append, List.cons_append, List.getD_cons_zero, List.getD_cons_succ, reduceIte, Nat.reduceEqDiff, Nat.reduceAdd, Nat.reduceLeDiff, true_and, and_true, Bool.not_true, Bool.not_false, Bool.and_true, Bool.true_and, Bool.and_self, reduceCtorEq, true_implies, false_implies, implies_true, decide_eq_true_eq, Option.map_some, fpOf, fpX, SOp.xs, oX, refs, refsL, dom, disj, List.all_nil, List.all_cons, List.contains_cons, List.contains_nil, Nat.reduceBEq, Bool.or_false, Bool.false_or, List.append_nil, Bool.not_false, Bool.not_true, List.forall_mem_cons, fm0, List.set, Nat.reduceLT, ne_eq, not_false_eq_true, not_true_eq_false
, ret1, ret1N, keep0, keep1, rf_int, rf_bool, rf_str, rf_sl, rf_agg, rf_tup, rfL0, rfL1, re_t, re_cN, re_L0, re_L1, ret_tup, ret_one, decide_true, AV.bool.injEq, AV.int.injEq, Nat.reduceLeDiff, Bool.true_eq, Bool.false_eq, decide_eq_true_eq, decide_eq_false_iff_not, t_l24Spans, List.length_map, irow, un_stp, path_eta, take_rr, take_all, Int.toNat_natCast, flatOk, noref, ghost, List.length_range, Nat.zero_add, Nat.sub_zero, Path5.avO, retQ_eq, retOk, wkM, refsInO, keepB]
  exact ⟨hc, fun h => absurd h hcan, fun _ => ⟨⟨_, by simp only [resLP]; exact ⟨_, _, rfl, ⟨Nat.le_refl _, rfl⟩, _, _, rfl, rfl, rfl⟩, rfl⟩, rfl⟩⟩
end Go.Ve

namespace Go.Ve
open Go.Proofs
set_option linter.unusedSimpArgs false
set_option linter.unusedVariables false
set_option maxRecDepth 100000
set_option maxHeartbeats 4000000
/-- A path copied: into the object 190. -/
def r_copy : RTab
  | [.agg [.int .i64 q, .int .i64 s, .sl _ 7 xs, .int .i64 f, .int .i64 b]], M => some ⟨M 190 = none ∧ (xs.map unStp).map Stp7.row = xs ∧ (xs.map unStp).length ≤ 1048576, fun _ : Unit => True, fun _ => .agg [.int .i64 q, .int .i64 s, .own 190 1 0 (xs.map unStp).length, .int .i64 f, .int .i64 b], fun _ => [(190, .arr 64 1 7 xs)]⟩
  | _, _ => none
theorem h_copy : okTab P 112 r_copy := by
  intro args M o h hp
  unfold r_copy at h
  split at h
  · rename_i q s t xs f b
    cases h
    obtain ⟨h1, h2, h3⟩ := hp
    have hC := (c_l22Copy ⟨q, s, xs.map unStp, f, b⟩ t h3).ren (swp 106 190) (swp_swp 106 190)
    simp only [renL, ren, renM, renO, swp, reduceIte, h2] at hC
    refine ⟨(), trivial, .inl ⟨[], hC, by simp, fun p hp => .inr ?_, rfl, rfl, rfl, rfl, ?_⟩⟩
    · simp only [List.mem_singleton] at hp
      rw [hp]; exact h1
    · rfl
  · cases h
/-- A callee that only looks, of many outcomes. -/
theorem callR_look {f : FuncId} {args args' : List AV} {r : AV} {M : Nat → Option AObj} (hp : purL M args = some args') (hC : Contract P f args' [] r []) (hn : noref r = true) (h9 : No99 r) : callR P f args M r [] := .inr (.inl ⟨rfl, args', hp, hC, hn, h9⟩)
structure ShS where
  k : Int
  l : List Stp7
def F_shift (q s f b d : Int) (m : Nat) (a : ShS) : St := ⟨[(1, .int .i64 d), (4, .ptr 104 0), (6, .ptr 106 0), (7, .int .i64 a.k)],
  [(104, .box [.int .i64 0, .int .i64 0, .sl 0 7 [], .int .i64 0, .int .i64 0]), (106, .box [.int .i64 q, .int .i64 s, .own 190 1 0 m, .int .i64 f, .int .i64 b]), (190, .arr 64 1 7 (a.l.map Stp7.row))]⟩
theorem c_shift (p : Path5) (t : Nat) (d : Int) (hn : p.l.length ≤ 1048576) : ∃ a : Path5 × Bool, a.1.l.length ≤ p.l.length ∧ Contract P 117 [.agg [.int .i64 p.q, .int .i64 p.s, .sl t 7 (p.l.map Stp7.row), .int .i64 p.f, .int .i64 p.b], .int .i64 d] [] (.tup [a.1.av, .bool (decide (a.2 = true))]) [] := by
  refine fn_choose ((((Env.nil P).addR 112 r_copy h_copy).add 33 t_sPathOk h_sPathOk).add 57 t_l21In h_l21In) Go.Ve.hm k_spec_FlyShift (Nat.le_of_ble_eq_true rfl) rfl (fun a : Path5 × Bool => a.1.l.length ≤ p.l.length) (fun a => .tup [a.1.av, .bool (decide (a.2 = true))]) (fun _ => []) ?_
  unfold s_spec_FlyShift
  simp only [w_skip, w_rg, w_rgd, w_seq, w_cond, w_block, w_loop, w_exit, w_ret, w_gh, w_rg0, w_rg1, w_rgT, w_rgF, w_run, w_psd, w_und, w_dr0, w_dr1, w_drT, w_drF, w_drRun, w_drPsd, w_drUnd, w_drKn, w_drKs, w_putK, w_trimK, w_thenN, w_thenE, w_thenR, w_scope, w_label, w_blkN, w_blkE, w_blkR, w_call, w_effK, brU_true, brU_false, brU_u, brU_not, brU_and, brU_or, brU_dec, brU_eq, brU_ne, br_true, br_false, br_not, br_and, br_or, br_dec, br_eq, br_ne, w_getE0, w_getE1, w_setE0, w_setE1, w_dropE0, w_dropE1, w_drop0, w_drop1, w_getM0, w_getM1, w_setM0, w_setM1, ev_v, ev_c, w_putS, w_putN, w_lit, w_apU0, w_apU1, w_apU2, w_trim, enumE0, enumE1, w_callWp, w_callA0, w_callA1, w_R0, w_R1, w_R2, w_T2, w_callL, w_callT, w_T1, w_T0, o_mv, o_newnil, o_pick, o_bin, o_binN, o_neg, o_not, o_eqB, o_eqS, o_conv, o_alloc, o_box, o_load1, o_loadN, o_store, o_nilck, o_faddr, o_field1, o_fieldN, o_iaddr, o_istr, o_slStr, o_slSl, o_lenS, o_lenL, o_mx, o_mn, o_ext, o_build, o_lit, o_litOwn, o_app, o_mk, o_mvfrz, l_int, l_bool, l_str, l_agg, l_sl, l_own, l_ptr, l_pp, i_int, i_bool, i_str, i_sl, i_own, i_ptr, i_pp, all0, all1, e_ok1, eff, effBin, effBinN, ld_ptr, ld_pp, ld_elt, ia_own, ia_arr, el_1, el_N, load1K, faddrE, r_iaddr, sg_S, sg_c, sg_n, purL, pur, List.map, List.drop, List.take, List.length, List.foldl, List.append_eq, List.nil_append, List.cons_append, List.getD_cons_zero, List.getD_cons_succ, reduceIte, Nat.reduceEqDiff, Nat.reduceAdd, Nat.reduceLeDiff, true_and, and_true, Bool.not_true, Bool.not_false, Bool.and_true, Bool.true_and, Bool.and_self, reduceCtorEq, true_implies, false_implies, implies_true, decide_eq_true_eq, Option.map_some, fpOf, fpX, SOp.xs, oX, refs, refsL, dom, disj, List.all_nil, List.all_cons, List.contains_cons, List.contains_nil, Nat.reduceBEq, Bool.or_false, Bool.false_or, List.append_nil, Bool.not_false, Bool.not_true, List.forall_mem_cons, fm0, List.set, Nat.reduceLT, ne_eq, not_false_eq_true, not_true_eq_false
, ret1, ret1N, keep0, keep1, rf_int, rf_bool, rf_str, rf_sl, rf_agg, rf_tup, rfL0, rfL1, re_t, re_cN, re_L0, re_L1, ret_tup, ret_one, decide_true, AV.bool.injEq, AV.int.injEq, Nat.reduceLeDiff, Bool.true_eq, Bool.false_eq, decide_eq_true_eq, decide_eq_false_iff_not, t_sPathOk, t_l21In, r_copy, retG_ret, ghost, retQ_eq, retOk, wkM, refsInO, keepB, re_tup, or_t, Int.toNat_natCast, noref, flatOk, List.length_map, Stp7.row, un_stp, set_f, set_b, List.length_set, take_all, path_eta, true_and]
  have no : ∃ a : Path5 × Bool, a.1.l.length ≤ p.l.length ∧ (a.1.av = AV.agg [AV.int IntKind.i64 0, AV.int IntKind.i64 0, AV.sl 0 7 [], AV.int IntKind.i64 0, AV.int IntKind.i64 0] ∧ ¬ a.2 = true) ∧ refsIn [] a.1.av = true := ⟨(⟨0, 0, [], 0, 0⟩, false), Nat.zero_le _, ⟨rfl, by simp⟩, rfl⟩
  refine ⟨fun h1 => ⟨fun h2 => ⟨by omega, fun _ => ?_⟩, fun _ => no⟩, fun _ => no⟩
  refine loop_of (F_shift p.q p.s p.f p.b d p.l.length) (fun a => (0 ≤ a.k ∧ a.k ≤ p.l.length) ∧ a.l.length = p.l.length) (fun a => (p.l.length - a.k).toNat) ⟨0, p.l⟩ ⟨⟨.inr rfl, .inr rfl, .inr rfl, .inr rfl, trivial⟩, ⟨rfl, rfl, rfl, trivial⟩, rfl, rfl⟩ ⟨⟨Int.le_refl _, by simp only; omega⟩, rfl⟩ ?_
  rintro ⟨k, l⟩ ⟨hk, hl⟩
  simp only at hk hl
  have hw1 : IntKind.i64.wrap (k + 1) = k + 1 := wrap_succ (by omega)
  have htk : List.take p.l.length (l.map Stp7.row) = l.map Stp7.row := List.take_of_length_le (by rw [List.length_map]; omega)
  unfold l_spec_FlyShift_0 F_shift
  simp only [w_skip, w_rg, w_rgd, w_seq, w_cond, w_block, w_loop, w_exit, w_ret, w_gh, w_rg0, w_rg1, w_rgT, w_rgF, w_run, w_psd, w_und, w_dr0, w_dr1, w_drT, w_drF, w_drRun, w_drPsd, w_drUnd, w_drKn, w_drKs, w_putK, w_trimK, w_thenN, w_thenE, w_thenR, w_scope, w_label, w_blkN, w_blkE, w_blkR, w_call, w_effK, brU_true, brU_false, brU_u, brU_not, brU_and, brU_or, brU_dec, brU_eq, brU_ne, br_true, br_false, br_not, br_and, br_or, br_dec, br_eq, br_ne, w_getE0, w_getE1, w_setE0, w_setE1, w_dropE0, w_dropE1, w_drop0, w_drop1, w_getM0, w_getM1, w_setM0, w_setM1, ev_v, ev_c, w_putS, w_putN, w_lit, w_apU0, w_apU1, w_apU2, w_trim, enumE0, enumE1, w_callWp, w_callA0, w_callA1, w_R0, w_R1, w_R2, w_T2, w_callL, w_callT, w_T1, w_T0, o_mv, o_newnil, o_pick, o_bin, o_binN, o_neg, o_not, o_eqB, o_eqS, o_conv, o_alloc, o_box, o_load1, o_loadN, o_store, o_nilck, o_faddr, o_field1, o_fieldN, o_iaddr, o_istr, o_slStr, o_slSl, o_lenS, o_lenL, o_mx, o_mn, o_ext, o_build, o_lit, o_litOwn, o_app, o_mk, o_mvfrz, l_int, l_bool, l_str, l_agg, l_sl, l_own, l_ptr, l_pp, i_int, i_bool, i_str, i_sl, i_own, i_ptr, i_pp, all0, all1, e_ok1, eff, effBin, effBinN, ld_ptr, ld_pp, ld_elt, ia_own, ia_arr, el_1, el_N, load1K, faddrE, r_iaddr, sg_S, sg_c, sg_n, purL, pur, List.map, List.drop, List.take, List.length, List.foldl, List.append_eq, List.nil_append, List.cons_append, List.getD_cons_zero, List.getD_cons_succ, reduceIte, Nat.reduceEqDiff, Nat.reduceAdd, Nat.reduceLeDiff, true_and, and_true, Bool.not_true, Bool.not_false, Bool.and_true, Bool.true_and, Bool.and_self, reduceCtorEq, true_implies, false_implies, implies_true, decide_eq_true_eq, Option.map_some, fpOf, fpX, SOp.xs, oX, refs, refsL, dom, disj, List.all_nil, List.all_cons, List.contains_cons, List.contains_nil, Nat.reduceBEq, Bool.or_false, Bool.false_or, List.append_nil, Bool.not_false, Bool.not_true, List.forall_mem_cons, fm0, List.set, Nat.reduceLT, ne_eq, not_false_eq_true, not_true_eq_false
, ret1, ret1N, keep0, keep1, rf_int, rf_bool, rf_str, rf_sl, rf_agg, rf_tup, rfL0, rfL1, re_t, re_cN, re_L0, re_L1, ret_tup, ret_one, decide_true, AV.bool.injEq, AV.int.injEq, Nat.reduceLeDiff, Bool.true_eq, Bool.false_eq, decide_eq_true_eq, decide_eq_false_iff_not, t_sPathOk, t_l21In, r_copy, retG_ret, ghost, retQ_eq, retOk, wkM, refsInO, keepB, re_tup, or_t, Int.toNat_natCast, noref, flatOk, List.length_map, Stp7.row, un_stp, set_f, set_b, List.length_set, take_all, path_eta, true_and]
  simp only [hw1, htk, hl, un_stp, List.length_map]
  refine ⟨fun h3 => ?_, fun h3 => ?_⟩
  · repeat' (first | intro _ | apply And.intro | (exact loopK_of (⟨k + 1, _⟩ : ShS) ⟨⟨.inr rfl, .inr rfl, .inr rfl, .inr rfl, trivial⟩, ⟨rfl, rfl, rfl, trivial⟩, rfl, rfl⟩ ⟨by simp only; omega, by simp only [List.length_set]; omega⟩ (by simp only; omega)) | omega)
  · refine ⟨trivial, fun h4 => ⟨(⟨p.q, p.s, l, _, _⟩, true), Nat.le_of_eq hl, ⟨rfl, rfl⟩, rfl⟩, fun h4 => no⟩
end Go.Ve

namespace Go.Ve
open Go.Proofs
set_option linter.unusedSimpArgs false
set_option linter.unusedVariables false
set_option maxRecDepth 100000
set_option maxHeartbeats 4000000
def r_shift : RTab
  | [.agg [.int .i64 q, .int .i64 s, .sl _ 7 xs, .int .i64 f, .int .i64 b], .int .i64 d], M => some ⟨(xs.map unStp).map Stp7.row = xs ∧ (xs.map unStp).length ≤ 1048576, fun a : Path5 × Bool => a.1.l.length ≤ (Path5.mk q s (xs.map unStp) f b).l.length, fun a => .tup [a.1.av, .bool (decide (a.2 = true))], fun _ => []⟩
  | _, _ => none
theorem h_shift : okTab P 117 r_shift := by
  intro args M o h hp
  unfold r_shift at h
  split at h
  · rename_i q s t xs f b d
    cases h
    obtain ⟨h1, h2⟩ := hp
    obtain ⟨a, ha, hC⟩ := c_shift ⟨q, s, xs.map unStp, f, b⟩ t d h2
    simp only [h1] at hC
    exact ⟨a, ha, callR_look (by simp only [purL, pur, Option.map_some]) hC rfl ⟨no99_av _, trivial, trivial⟩⟩
  · cases h
def F_late (p : Path5) (mk : Int × Int) : St := ⟨[(1, .ptr 101 0), (2, .ptr 102 0), (3, .int .i64 mk.1), (4, .int .i64 mk.2)],
  [(101, .box [.int .i64 p.q, .int .i64 p.s, .sl 0 7 (p.l.map Stp7.row), .int .i64 p.f, .int .i64 p.b]), (102, .box [.int .i64 0, .int .i64 0, .sl 0 7 [], .int .i64 0, .int .i64 0])]⟩
theorem c_late (p : Path5) (hn : p.l.length ≤ 1048576) : ∃ a : Path5, a.l.length ≤ p.l.length ∧ Contract P 103 [p.av] [] a.av [] := by
  refine fn_choose (((Env.nil P).addR 117 r_shift h_shift).add 84 t_l21Max h_l21Max) Go.Ve.hm k_spec_l30Late (Nat.le_of_ble_eq_true rfl) rfl (fun a : Path5 => a.l.length ≤ p.l.length) (fun a => a.av) (fun _ => []) ?_
  unfold s_spec_l30Late
  have hav : p.av = .agg [.int .i64 p.q, .int .i64 p.s, .sl 0 7 (p.l.map Stp7.row), .int .i64 p.f, .int .i64 p.b] := rfl
  rw [hav]
  simp only [w_skip, w_rg, w_rgd, w_seq, w_cond, w_block, w_loop, w_exit, w_ret, w_gh, w_rg0, w_rg1, w_rgT, w_rgF, w_run, w_psd, w_und, w_dr0, w_dr1, w_drT, w_drF, w_drRun, w_drPsd, w_drUnd, w_drKn, w_drKs, w_putK, w_trimK, w_thenN, w_thenE, w_thenR, w_scope, w_label, w_blkN, w_blkE, w_blkR, w_call, w_effK, brU_true, brU_false, brU_u, brU_not, brU_and, brU_or, brU_dec, brU_eq, brU_ne, br_true, br_false, br_not, br_and, br_or, br_dec, br_eq, br_ne, w_getE0, w_getE1, w_setE0, w_setE1, w_dropE0, w_dropE1, w_drop0, w_drop1, w_getM0, w_getM1, w_setM0, w_setM1, ev_v, ev_c, w_putS, w_putN, w_lit, w_apU0, w_apU1, w_apU2, w_trim, enumE0, enumE1, w_callWp, w_callA0, w_callA1, w_R0, w_R1, w_R2, w_T2, w_callL, w_callT, w_T1, w_T0, o_mv, o_newnil, o_pick, o_bin, o_binN, o_neg, o_not, o_eqB, o_eqS, o_conv, o_alloc, o_box, o_load1, o_loadN, o_store, o_nilck, o_faddr, o_field1, o_fieldN, o_iaddr, o_istr, o_slStr, o_slSl, o_lenS, o_lenL, o_mx, o_mn, o_ext, o_build, o_lit, o_litOwn, o_app, o_mk, o_mvfrz, l_int, l_bool, l_str, l_agg, l_sl, l_own, l_ptr, l_pp, i_int, i_bool, i_str, i_sl, i_own, i_ptr, i_pp, all0, all1, e_ok1, eff, effBin, effBinN, ld_ptr, ld_pp, ld_elt, ia_own, ia_arr, el_1, el_N, load1K, faddrE, r_iaddr, sg_S, sg_c, sg_n, purL, pur, List.map, List.drop, List.take, List.length, List.foldl, List.append_eq, List.nil_append, List.cons_append, List.getD_cons_zero, List.getD_cons_succ, reduceIte, Nat.reduceEqDiff, Nat.reduceAdd, Nat.reduceLeDiff, true_and, and_true, Bool.not_true, Bool.not_false, Bool.and_true, Bool.true_and, Bool.and_self, reduceCtorEq, true_implies, false_implies, implies_true, decide_eq_true_eq, Option.map_some, fpOf, fpX, SOp.xs, oX, refs, refsL, dom, disj, List.all_nil, List.all_cons, List.contains_cons, List.contains_nil, Nat.reduceBEq, Bool.or_false, Bool.false_or, List.append_nil, Bool.not_false, Bool.not_true, List.forall_mem_cons, fm0, List.set, Nat.reduceLT, ne_eq, not_false_eq_true, not_true_eq_false
, ret1, ret1N, keep0, keep1, rf_int, rf_bool, rf_str, rf_sl, rf_agg, rf_tup, rfL0, rfL1, re_t, re_cN, re_L0, re_L1, ret_tup, ret_one, decide_true, AV.bool.injEq, AV.int.injEq, Nat.reduceLeDiff, Bool.true_eq, Bool.false_eq, decide_eq_true_eq, decide_eq_false_iff_not, t_l21Max, r_shift, Path5.av, retG_ret, ghost, retQ_eq, retOk, wkM, refsInO, keepB, re_tup, or_t, Int.toNat_natCast, noref, flatOk, List.length_map, Stp7.row, irow, un_stp, un_i, set_f, set_b, List.length_set, take_all, path_eta, true_and, rowsOf, appE]
  refine loop_of (F_late p) (fun a => 0 ≤ a.2 ∧ a.2 ≤ p.l.length) (fun a => (p.l.length - a.2).toNat) (p.b, 0) ⟨⟨.inr rfl, .inr rfl, .inr rfl, .inr rfl, trivial⟩, ⟨rfl, rfl, trivial⟩, rfl, rfl⟩ ⟨Int.le_refl _, by simp only; omega⟩ ?_
  rintro ⟨m, k⟩ hk
  simp only at hk
  have hw1 : IntKind.i64.wrap (k + 1) = k + 1 := wrap_succ (by omega)
  unfold l_spec_l30Late_0 F_late
  simp only [w_skip, w_rg, w_rgd, w_seq, w_cond, w_block, w_loop, w_exit, w_ret, w_gh, w_rg0, w_rg1, w_rgT, w_rgF, w_run, w_psd, w_und, w_dr0, w_dr1, w_drT, w_drF, w_drRun, w_drPsd, w_drUnd, w_drKn, w_drKs, w_putK, w_trimK, w_thenN, w_thenE, w_thenR, w_scope, w_label, w_blkN, w_blkE, w_blkR, w_call, w_effK, brU_true, brU_false, brU_u, brU_not, brU_and, brU_or, brU_dec, brU_eq, brU_ne, br_true, br_false, br_not, br_and, br_or, br_dec, br_eq, br_ne, w_getE0, w_getE1, w_setE0, w_setE1, w_dropE0, w_dropE1, w_drop0, w_drop1, w_getM0, w_getM1, w_setM0, w_setM1, ev_v, ev_c, w_putS, w_putN, w_lit, w_apU0, w_apU1, w_apU2, w_trim, enumE0, enumE1, w_callWp, w_callA0, w_callA1, w_R0, w_R1, w_R2, w_T2, w_callL, w_callT, w_T1, w_T0, o_mv, o_newnil, o_pick, o_bin, o_binN, o_neg, o_not, o_eqB, o_eqS, o_conv, o_alloc, o_box, o_load1, o_loadN, o_store, o_nilck, o_faddr, o_field1, o_fieldN, o_iaddr, o_istr, o_slStr, o_slSl, o_lenS, o_lenL, o_mx, o_mn, o_ext, o_build, o_lit, o_litOwn, o_app, o_mk, o_mvfrz, l_int, l_bool, l_str, l_agg, l_sl, l_own, l_ptr, l_pp, i_int, i_bool, i_str, i_sl, i_own, i_ptr, i_pp, all0, all1, e_ok1, eff, effBin, effBinN, ld_ptr, ld_pp, ld_elt, ia_own, ia_arr, el_1, el_N, load1K, faddrE, r_iaddr, sg_S, sg_c, sg_n, purL, pur, List.map, List.drop, List.take, List.length, List.foldl, List.append_eq, List.nil_append, List.cons_append, List.getD_cons_zero, List.getD_cons_succ, reduceIte, Nat.reduceEqDiff, Nat.reduceAdd, Nat.reduceLeDiff, true_and, and_true, Bool.not_true, Bool.not_false, Bool.and_true, Bool.true_and, Bool.and_self, reduceCtorEq, true_implies, false_implies, implies_true, decide_eq_true_eq, Option.map_some, fpOf, fpX, SOp.xs, oX, refs, refsL, dom, disj, List.all_nil, List.all_cons, List.contains_cons, List.contains_nil, Nat.reduceBEq, Bool.or_false, Bool.false_or, List.append_nil, Bool.not_false, Bool.not_true, List.forall_mem_cons, fm0, List.set, Nat.reduceLT, ne_eq, not_false_eq_true, not_true_eq_false
, ret1, ret1N, keep0, keep1, rf_int, rf_bool, rf_str, rf_sl, rf_agg, rf_tup, rfL0, rfL1, re_t, re_cN, re_L0, re_L1, ret_tup, ret_one, decide_true, AV.bool.injEq, AV.int.injEq, Nat.reduceLeDiff, Bool.true_eq, Bool.false_eq, decide_eq_true_eq, decide_eq_false_iff_not, t_l21Max, r_shift, Path5.av, retG_ret, ghost, retQ_eq, retOk, wkM, refsInO, keepB, re_tup, or_t, Int.toNat_natCast, noref, flatOk, List.length_map, Stp7.row, irow, un_stp, un_i, set_f, set_b, List.length_set, take_all, path_eta, true_and, rowsOf, appE]
  simp only [hw1]
  refine ⟨fun h3 => ⟨by omega, by omega, loopK_of ((_, k + 1) : Int × Int) ⟨⟨.inr rfl, .inr rfl, .inr rfl, .inr rfl, trivial⟩, ⟨rfl, rfl, trivial⟩, rfl, rfl⟩ (by simp only; omega) (by simp only; omega)⟩, fun h3 => ?_⟩
  exact ⟨hn, fun a ha => ⟨fun _ => ⟨a.1, ha, rfl⟩, fun _ => ⟨p, Nat.le_refl _, rfl⟩⟩⟩
end Go.Ve

namespace Go.Ve
set_option linter.unusedSimpArgs false
set_option linter.unusedVariables false
/-! The spans are those of flights. -/
def Path5.flight (p : Path5) (t : Nat → Int) : Prop := (∀ k, k ≤ p.l.length → p.low k ≤ t k ∧ t k ≤ p.high k) ∧ ∀ k, k < p.l.length → p.q ≤ t (k + 1) - t k ∧ t (k + 1) - t k ≤ p.most k
section
variable {p : Path5}
theorem flight_fwd {t : Nat → Int} (h : p.flight t) : ∀ k, k ≤ p.l.length → (p.fwd k).lo ≤ t k ∧ t k ≤ (p.fwd k).hi
  | 0, hk => h.1 0 hk
  | k + 1, hk => by
    have ih := flight_fwd h k (by omega)
    have h1 := h.1 (k + 1) hk
    have h2 := h.2 k (by omega)
    simp only [Path5.fwd]; omega
theorem flight_bwd {t : Nat → Int} (h : p.flight t) : ∀ d, d ≤ p.l.length → (p.bwd d).lo ≤ t (p.l.length - d) ∧ t (p.l.length - d) ≤ (p.bwd d).hi
  | 0, hk => by simpa [Path5.bwd] using flight_fwd h p.l.length (by omega)
  | d + 1, hd => by
    have ih := flight_bwd h d (by omega)
    have h1 := flight_fwd h (p.l.length - (d + 1)) (by omega)
    have h2 := h.2 (p.l.length - (d + 1)) (by omega)
    rw [show p.l.length - (d + 1) + 1 = p.l.length - d by omega] at h2
    simp only [Path5.bwd]; omega
/-- Every flight lies within the spans. -/
theorem flight_span {t : Nat → Int} (h : p.flight t) {k : Nat} (hk : k ≤ p.l.length) : (p.span k).lo ≤ t k ∧ t k ≤ (p.span k).hi := by
  have := flight_bwd h (p.l.length - k) (by omega)
  rwa [show p.l.length - (p.l.length - k) = k by omega] at this
theorem flight_can {t : Nat → Int} (h : p.flight t) : p.can := fun k hk => by
  have := flight_span h (k := k) (by omega)
  omega
theorem span_succ {k : Nat} (hk : k < p.l.length) : p.span k = ⟨max (p.fwd k).lo ((p.span (k + 1)).lo - p.most k), min (p.fwd k).hi ((p.span (k + 1)).hi - p.q)⟩ := by
  unfold Path5.span
  rw [show p.l.length - k = (p.l.length - (k + 1)) + 1 by omega]
  simp only [Path5.bwd]
  rw [show p.l.length - (p.l.length - (k + 1) + 1) = k by omega]
theorem fwd_low (k : Nat) : p.low k ≤ (p.fwd k).lo := by
  cases k <;> simp only [Path5.fwd] <;> omega
theorem fwd_high (k : Nat) : (p.fwd k).hi ≤ p.high k := by
  cases k <;> simp only [Path5.fwd] <;> omega
theorem span_lo {k : Nat} (hk : k ≤ p.l.length) : (p.fwd k).lo ≤ (p.span k).lo := by
  have := p.bwd_lo (p.l.length - k) (by omega)
  rwa [show p.l.length - (p.l.length - k) = k by omega] at this
theorem span_hi {k : Nat} (hk : k ≤ p.l.length) : (p.span k).hi ≤ (p.fwd k).hi := by
  have := p.bwd_hi (p.l.length - k) (by omega)
  rwa [show p.l.length - (p.l.length - k) = k by omega] at this
theorem can_low (h : p.can) {k : Nat} (hk : k ≤ p.l.length) : p.low k ≤ p.high k := by
  have h1 := p.can_fwd h hk
  have h2 := fwd_low (p := p) k
  have h3 := fwd_high (p := p) k
  omega
theorem span_in (h : p.can) {k : Nat} (hk : k ≤ p.l.length) : p.low k ≤ (p.span k).lo ∧ (p.span k).lo ≤ (p.span k).hi ∧ (p.span k).hi ≤ p.high k := by
  have h1 := fwd_low (p := p) k
  have h2 := fwd_high (p := p) k
  have h3 := span_lo (p := p) hk
  have h4 := span_hi (p := p) hk
  have h5 := h k (by omega)
  omega
/-- The earliest ticks are a flight; the latest are one. -/
theorem first_flight (hq : p.q ≤ p.s ∧ p.q ≤ 10000) (h : p.can) : p.flight fun k => (p.span k).lo := by
  refine ⟨fun k hk => by have := span_in h hk; simp only; omega, fun k hk => ?_⟩
  have hm : p.q ≤ p.most k := by unfold Path5.most; split <;> omega
  have h1 := span_succ (p := p) hk
  have h2 := span_lo (p := p) (k := k + 1) (by omega)
  simp only [Path5.fwd] at h2
  simp only [h1]
  omega
end

/-! A path begun later, or at a later step. -/
def Path5.like (q p : Path5) (k : Nat) : Prop := q.q = p.q ∧ q.s = p.s ∧ q.l.length + k = p.l.length ∧ ∀ j, j < q.l.length →
  (q.l.getD j default).x = (p.l.getD (k + j) default).x ∧ (q.l.getD j default).y = (p.l.getD (k + j) default).y ∧ (q.l.getD j default).l = (p.l.getD (k + j) default).l ∧ (q.l.getD j default).h = (p.l.getD (k + j) default).h
theorem fit_of_can {p q : Path5} {k : Nat} (hp : pathOk p.q p.s p.l p.f p.b) (hk : k < p.l.length) (hl : q.like p k) (hc : q.calm) : q.fit ↔ q.can := by
  refine ⟨fun h => h.2, fun h => ⟨?_, h⟩⟩
  obtain ⟨h1, h2, h3, h4⟩ := hl
  have hlow : ∀ j, j ≤ q.l.length → 0 ≤ q.low j ∧ q.low j ≤ q.high j ∧ q.high j ≤ 10000 := fun j hj => ⟨hc.lo j hj, can_low h hj, hc.hi j hj⟩
  have hn := hlow q.l.length (Nat.le_refl _)
  unfold Path5.low Path5.high at hn
  simp only [Nat.lt_irrefl, if_false] at hn
  obtain ⟨p1, p2, p3, p4⟩ := hp
  refine ⟨by rw [h1, h2]; exact p1, by omega, by omega, fun i hi => ?_⟩
  have hj := hlow i (by omega)
  unfold Path5.low Path5.high at hj
  simp only [hi, if_true] at hj
  obtain ⟨g1, g2, g3, g4⟩ := h4 i hi
  have p5 := p4 (k + i) (by omega)
  have p6 := p5.1
  refine ⟨?_, fun h0 => ?_⟩
  · unfold Stp7.ok at p6 ⊢
    rw [g1, g2, g3, g4]
    omega
  · obtain ⟨e1, e2, e3, e4⟩ := h4 (i - 1) (by omega)
    have p7 := p5.2 (by omega)
    rw [show k + i - 1 = k + (i - 1) by omega] at p7
    unfold Stp7.nb at p7 ⊢
    rw [g1, g2, g3, g4, e1, e2, e3, e4]
    exact p7
/-- The first step's ticks set anew. -/
def Path5.first (p : Path5) (f b : Int) : Path5 := { p with l := p.l.set 0 { p.l.getD 0 default with f := f, b := b } }
def Path5.rest (p : Path5) (k : Nat) (f b now : Int) : Path5 := ((p.tail k).first f b).after now
theorem getD_set {l : List Stp7} {i j : Nat} {x : Stp7} : (l.set i x).getD j default = if i = j ∧ j < l.length then x else l.getD j default := by
  simp only [List.getD_eq_getElem?_getD, List.getElem?_set]
  by_cases e : i = j
  · subst e
    by_cases h : i < l.length
    · simp [h]
    · simp [h]
  · simp [e]
theorem getD_drop {l : List Stp7} {k j : Nat} : (l.drop k).getD j default = l.getD (k + j) default := by
  simp [List.getD_eq_getElem?_getD]
section
variable {p : Path5} {k : Nat} {f b now : Int}
theorem rest_len : (p.rest k f b now).l.length = p.l.length - k := by
  unfold Path5.rest Path5.after
  split <;> simp [Path5.first, Path5.tail]
theorem rest_getD {j : Nat} (hj : k + j < p.l.length) : (p.rest k f b now).l.getD j default =
    { p.l.getD (k + j) default with f := if j = 0 then f else if j = 1 then max (p.l.getD (k + j) default).f (now + 1) else (p.l.getD (k + j) default).f, b := if j = 0 then b else (p.l.getD (k + j) default).b } := by
  unfold Path5.rest Path5.after
  have hl : ((p.tail k).first f b).l.length = p.l.length - k := by simp [Path5.first, Path5.tail]
  have h0 : ∀ j, k + j < p.l.length → ((p.tail k).first f b).l.getD j default = if j = 0 then { p.l.getD k default with f := f, b := b } else p.l.getD (k + j) default := by
    intro j hj
    simp only [Path5.first, Path5.tail, getD_set, getD_drop, List.length_drop, Nat.add_zero]
    by_cases e : j = 0
    · subst e; rw [if_pos ⟨rfl, by omega⟩, if_pos rfl]
    · rw [if_neg (by omega), if_neg e]
  split
  · rename_i h1
    rw [hl] at h1
    simp only [getD_set, hl, h0 1 (by omega), Nat.one_ne_zero, if_false]
    by_cases e : j = 1
    · subst e; rw [if_pos ⟨rfl, by omega⟩]; simp
    · rw [if_neg (by omega), h0 j hj]
      by_cases e0 : j = 0
      · subst e0; simp
      · rw [if_neg e0]; simp [e, e0]
  · rename_i h1
    rw [hl] at h1
    simp only [h0 j hj]
    have : j = 0 := by omega
    subst this; simp
theorem rest_ff (hk : k < p.l.length) : (p.rest k f b now).f = (if 1 < p.l.length - k then p.f else max p.f (now + 1)) ∧ (p.rest k f b now).b = p.b ∧ (p.rest k f b now).q = p.q ∧ (p.rest k f b now).s = p.s := by
  unfold Path5.rest Path5.after
  have hl : ((p.tail k).first f b).l.length = p.l.length - k := by simp [Path5.first, Path5.tail]
  rw [hl]
  split <;> simp [Path5.first, Path5.tail, *]
theorem rest_like (hk : k < p.l.length) : (p.rest k f b now).like p k := by
  obtain ⟨_, _, h3, h4⟩ := rest_ff (f := f) (b := b) (now := now) hk
  refine ⟨h3, h4, by rw [rest_len]; omega, fun j hj => ?_⟩
  rw [rest_len] at hj
  rw [rest_getD (by omega)]
  exact ⟨rfl, rfl, rfl, rfl⟩
theorem rest_calm (hp : pathOk p.q p.s p.l p.f p.b) (hk : k < p.l.length) (hf : 0 ≤ f) (hb : b ≤ 10000) : (p.rest k f b now).calm := by
  obtain ⟨h1, h2, h3, h4⟩ := rest_ff (f := f) (b := b) (now := now) hk
  obtain ⟨p1, p2, p3, p4⟩ := hp
  have hl := rest_len (p := p) (k := k) (f := f) (b := b) (now := now)
  refine ⟨by rw [h3]; omega, by rw [h4]; omega, by rw [hl]; omega, fun j hj => ?_, fun j hj => ?_⟩
  · unfold Path5.low
    rw [hl] at hj ⊢
    split
    · rename_i hlt
      rw [rest_getD (by omega)]
      have := (p4 (k + j) (by omega)).1
      unfold Stp7.ok at this
      simp only
      split
      · exact hf
      · split <;> omega
    · rw [h1]; split <;> omega
  · unfold Path5.high
    rw [hl] at hj ⊢
    split
    · rename_i hlt
      rw [rest_getD (by omega)]
      have := (p4 (k + j) (by omega)).1
      unfold Stp7.ok at this
      simp only
      split <;> omega
    · rw [h2]; omega
theorem rest_fit (hp : pathOk p.q p.s p.l p.f p.b) (hk : k < p.l.length) (hf : 0 ≤ f) (hb : b ≤ 10000) : (p.rest k f b now).fit ↔ (p.rest k f b now).can :=
  fit_of_can hp hk (rest_like hk) (rest_calm hp hk hf hb)
end
/-! Waiting ahead of the first step. -/
def Path5.wait (p : Path5) (now : Int) : Path5 := { p with l := p.l.set 0 { p.l.getD 0 default with f := max (p.l.getD 0 default).f (now + 1) } }
theorem ok_calm {p : Path5} (h : pathOk p.q p.s p.l p.f p.b) : p.calm := by
  have := held_calm (bg := []) h
  rwa [held_nil] at this
end Go.Ve

namespace Go.Ve
open Go.Proofs
set_option linter.unusedSimpArgs false
set_option linter.unusedVariables false
set_option maxRecDepth 100000
def Path5.restAt (p : Path5) (k e now : Int) : Path5 := p.rest k.toNat (max (p.l.getD k.toNat default).f e) (min (p.l.getD k.toNat default).b e) now
def Path5.goes (p : Path5) (k e now : Int) : Prop := pathOk p.q p.s p.l p.f p.b ∧ (0 ≤ k ∧ k < p.l.length) ∧ (0 ≤ e ∧ e ≤ now ∧ now ≤ 10000) ∧ (p.restAt k e now).can
instance (p : Path5) (k e now : Int) : Decidable (p.goes k e now) := by unfold Path5.goes; infer_instance
def Path5.restR (p : Path5) (k e now : Int) : Path5 := if p.goes k e now then p.restAt k e now else ⟨0, 0, [], 0, 0⟩
theorem getD_set_same {l : List Stp7} {x : Stp7} (h : 0 < l.length) : (l.set 0 x).getD 0 default = x := by rw [getD_set, if_pos ⟨rfl, h⟩]
theorem first_len {p : Path5} {f b : Int} : (p.first f b).l.length = p.l.length := by simp [Path5.first]
theorem c_sFlyRest (p : Path5) (t : Nat) (k e now : Int) : Contract P 40 [.agg [.int .i64 p.q, .int .i64 p.s, .sl t 7 (p.l.map Stp7.row), .int .i64 p.f, .int .i64 p.b], .int .i64 k, .int .i64 e, .int .i64 now] [] (.tup [(p.restR k e now).av, .bool (decide (p.goes k e now))]) [] := by
  refine fn_sound ((((((Env.nil P).add 33 t_sPathOk h_sPathOk).add 57 t_l21In h_l21In).add 94 t_l26Held h_l26Held).add 83 t_l21Min h_l21Min).add 84 t_l21Max h_l21Max) hm k_spec_FlyRest (Nat.le_of_ble_eq_true rfl) rfl ?_
  unfold s_spec_FlyRest
  have hav : p.av = .agg [.int .i64 p.q, .int .i64 p.s, .sl 0 7 (p.l.map Stp7.row), .int .i64 p.f, .int .i64 p.b] := rfl
  simp only [w_skip, w_rg, w_rgd, w_seq, w_cond, w_block, w_loop, w_exit, w_ret, w_gh, w_rg0, w_rg1, w_rgT, w_rgF, w_run, w_psd, w_und, w_dr0, w_dr1, w_drT, w_drF, w_drRun, w_drPsd, w_drUnd, w_drKn, w_drKs, w_putK, w_trimK, w_thenN, w_thenE, w_thenR, w_scope, w_label, w_blkN, w_blkE, w_blkR, w_call, w_effK, brU_true, brU_false, brU_u, brU_not, brU_and, brU_or, brU_dec, brU_eq, brU_ne, br_true, br_false, br_not, br_and, br_or, br_dec, br_eq, br_ne, w_getE0, w_getE1, w_setE0, w_setE1, w_dropE0, w_dropE1, w_drop0, w_drop1, w_getM0, w_getM1, w_setM0, w_setM1, ev_v, ev_c, w_putS, w_putN, w_lit, w_apU0, w_apU1, w_apU2, w_trim, enumE0, enumE1, w_callWp, w_callA0, w_callA1, w_R0, w_R1, w_R2, w_T2, w_callL, w_callT, w_T1, w_T0, o_mv, o_newnil, o_pick, o_bin, o_binN, o_neg, o_not, o_eqB, o_eqS, o_conv, o_alloc, o_box, o_load1, o_loadN, o_store, o_nilck, o_faddr, o_field1, o_fieldN, o_iaddr, o_istr, o_slStr, o_slSl, o_lenS, o_lenL, o_mx, o_mn, o_ext, o_build, o_lit, o_litOwn, o_app, o_mk, o_mvfrz, l_int, l_bool, l_str, l_agg, l_sl, l_own, l_ptr, l_pp, i_int, i_bool, i_str, i_sl, i_own, i_ptr, i_pp, all0, all1, e_ok1, eff, effBin, effBinN, ld_ptr, ld_pp, ld_elt, ia_own, ia_arr, el_1, el_N, load1K, faddrE, r_iaddr, sg_S, sg_c, sg_n, purL, pur, List.map, List.drop, List.take, List.length, List.foldl, List.append_eq, List.nil_append, List.cons_append, List.getD_cons_zero, List.getD_cons_succ, reduceIte, Nat.reduceEqDiff, Nat.reduceAdd, Nat.reduceLeDiff, true_and, and_true, Bool.not_true, Bool.not_false, Bool.and_true, Bool.true_and, Bool.and_self, reduceCtorEq, true_implies, false_implies, implies_true, decide_eq_true_eq, Option.map_some, fpOf, fpX, SOp.xs, oX, refs, refsL, dom, disj, List.all_nil, List.all_cons, List.contains_cons, List.contains_nil, Nat.reduceBEq, Bool.or_false, Bool.false_or, List.append_nil, Bool.not_false, Bool.not_true, List.forall_mem_cons, fm0, List.set, Nat.reduceLT, ne_eq, not_false_eq_true, not_true_eq_false
, ret1, ret1N, keep0, keep1, rf_int, rf_bool, rf_str, rf_sl, rf_agg, rf_tup, rfL0, rfL1, re_t, re_cN, re_L0, re_L1, ret_tup, ret_one, decide_true, AV.bool.injEq, AV.int.injEq, Nat.reduceLeDiff, Bool.true_eq, Bool.false_eq, decide_eq_true_eq, decide_eq_false_iff_not, t_sPathOk, t_l21In, t_l26Held, t_l21Min, t_l21Max, List.length_map, Stp7.row, irow, un_stp, un_i, path_eta, stp_eta, take_all, held_nil, set_f, set_b, List.length_set, hav, Path5.avO, flatOk, noref, ghost, Nat.zero_add, Nat.sub_zero, Int.toNat_natCast]
  have no : ¬ p.goes k e now → ((p.restR k e now).av = AV.agg [AV.int IntKind.i64 0, AV.int IntKind.i64 0, AV.sl 0 7 [], AV.int IntKind.i64 0, AV.int IntKind.i64 0] ∧ ¬ p.goes k e now) ∧ refsIn [] (p.restR k e now).av = true := fun h => ⟨⟨by rw [Path5.restR, if_neg h]; rfl, h⟩, rfl⟩
  refine ⟨fun h1 => ⟨by have := h1.2.1; omega, fun h2 => ⟨fun h3 => ⟨fun h4 => no fun h => absurd h.2.2.1 (by omega), fun h4 => ⟨⟨by have := h1.2.1; omega, Nat.zero_le _⟩, ?_⟩⟩, fun h3 => no fun h => h3 (by have := h.2.2.1; omega)⟩, fun h2 => no fun h => h2 (by have := h.2.1; omega)⟩, fun h1 => no fun h => h1 h.1⟩
  refine ⟨_, _, .inl ⟨[], c_l27Tail p 0 k ⟨h2.1, by omega⟩ (by have := h1.2.1; omega), by simp, by simp [getM], rfl, rfl, rfl, rfl, rfl⟩, ?_⟩
  simp only [w_skip, w_rg, w_rgd, w_seq, w_cond, w_block, w_loop, w_exit, w_ret, w_gh, w_rg0, w_rg1, w_rgT, w_rgF, w_run, w_psd, w_und, w_dr0, w_dr1, w_drT, w_drF, w_drRun, w_drPsd, w_drUnd, w_drKn, w_drKs, w_putK, w_trimK, w_thenN, w_thenE, w_thenR, w_scope, w_label, w_blkN, w_blkE, w_blkR, w_call, w_effK, brU_true, brU_false, brU_u, brU_not, brU_and, brU_or, brU_dec, brU_eq, brU_ne, br_true, br_false, br_not, br_and, br_or, br_dec, br_eq, br_ne, w_getE0, w_getE1, w_setE0, w_setE1, w_dropE0, w_dropE1, w_drop0, w_drop1, w_getM0, w_getM1, w_setM0, w_setM1, ev_v, ev_c, w_putS, w_putN, w_lit, w_apU0, w_apU1, w_apU2, w_trim, enumE0, enumE1, w_callWp, w_callA0, w_callA1, w_R0, w_R1, w_R2, w_T2, w_callL, w_callT, w_T1, w_T0, o_mv, o_newnil, o_pick, o_bin, o_binN, o_neg, o_not, o_eqB, o_eqS, o_conv, o_alloc, o_box, o_load1, o_loadN, o_store, o_nilck, o_faddr, o_field1, o_fieldN, o_iaddr, o_istr, o_slStr, o_slSl, o_lenS, o_lenL, o_mx, o_mn, o_ext, o_build, o_lit, o_litOwn, o_app, o_mk, o_mvfrz, l_int, l_bool, l_str, l_agg, l_sl, l_own, l_ptr, l_pp, i_int, i_bool, i_str, i_sl, i_own, i_ptr, i_pp, all0, all1, e_ok1, eff, effBin, effBinN, ld_ptr, ld_pp, ld_elt, ia_own, ia_arr, el_1, el_N, load1K, faddrE, r_iaddr, sg_S, sg_c, sg_n, purL, pur, List.map, List.drop, List.take, List.length, List.foldl, List.append_eq, List.nil_append, List.cons_append, List.getD_cons_zero, List.getD_cons_succ, reduceIte, Nat.reduceEqDiff, Nat.reduceAdd, Nat.reduceLeDiff, true_and, and_true, Bool.not_true, Bool.not_false, Bool.and_true, Bool.true_and, Bool.and_self, reduceCtorEq, true_implies, false_implies, implies_true, decide_eq_true_eq, Option.map_some, fpOf, fpX, SOp.xs, oX, refs, refsL, dom, disj, List.all_nil, List.all_cons, List.contains_cons, List.contains_nil, Nat.reduceBEq, Bool.or_false, Bool.false_or, List.append_nil, Bool.not_false, Bool.not_true, List.forall_mem_cons, fm0, List.set, Nat.reduceLT, ne_eq, not_false_eq_true, not_true_eq_false
, ret1, ret1N, keep0, keep1, rf_int, rf_bool, rf_str, rf_sl, rf_agg, rf_tup, rfL0, rfL1, re_t, re_cN, re_L0, re_L1, ret_tup, ret_one, decide_true, AV.bool.injEq, AV.int.injEq, Nat.reduceLeDiff, Bool.true_eq, Bool.false_eq, decide_eq_true_eq, decide_eq_false_iff_not, t_sPathOk, t_l21In, t_l26Held, t_l21Min, t_l21Max, List.length_map, Stp7.row, irow, un_stp, un_i, path_eta, stp_eta, take_all, held_nil, set_f, set_b, List.length_set, hav, Path5.avO, flatOk, noref, ghost, Nat.zero_add, Nat.sub_zero, Int.toNat_natCast]
  have hl : 0 < (p.tail k.toNat).l.length := by simp [Path5.tail]; omega
  have hg : (p.tail k.toNat).l.getD 0 default = p.l.getD k.toNat default := by simp only [Path5.tail, getD_drop, Nat.add_zero]
  simp only [Int.toNat_zero, getD_set_same hl, List.set_set, hg]
  refine ⟨⟨by omega, by omega⟩, hl, ⟨by omega, by omega⟩, ⟨by omega, by omega⟩, hl, ⟨by omega, by omega⟩, ?_⟩
  have h96 := (c_l27After ((p.tail k.toNat).first (max (p.l.getD k.toNat default).f e) (min (p.l.getD k.toNat default).b e)) 1 now (by omega) (by have := h1.2.1; rw [first_len]; simp [Path5.tail]; omega)).ren (swp 3 112) (swp_swp 3 112)
  simp only [renL, ren, renM, renO, swp, Path5.avO, reduceIte, first_len] at h96
  refine ⟨_, _, .inl ⟨_, h96, by simp only [List.mem_singleton, forall_eq]; simp only [w_getM0, w_getM1, Nat.reduceEqDiff, reduceIte, Path5.first, hg], by simp [getM, dom], rfl, rfl, rfl, rfl, rfl⟩, ?_⟩
  simp only [w_skip, w_rg, w_rgd, w_seq, w_cond, w_block, w_loop, w_exit, w_ret, w_gh, w_rg0, w_rg1, w_rgT, w_rgF, w_run, w_psd, w_und, w_dr0, w_dr1, w_drT, w_drF, w_drRun, w_drPsd, w_drUnd, w_drKn, w_drKs, w_putK, w_trimK, w_thenN, w_thenE, w_thenR, w_scope, w_label, w_blkN, w_blkE, w_blkR, w_call, w_effK, brU_true, brU_false, brU_u, brU_not, brU_and, brU_or, brU_dec, brU_eq, brU_ne, br_true, br_false, br_not, br_and, br_or, br_dec, br_eq, br_ne, w_getE0, w_getE1, w_setE0, w_setE1, w_dropE0, w_dropE1, w_drop0, w_drop1, w_getM0, w_getM1, w_setM0, w_setM1, ev_v, ev_c, w_putS, w_putN, w_lit, w_apU0, w_apU1, w_apU2, w_trim, enumE0, enumE1, w_callWp, w_callA0, w_callA1, w_R0, w_R1, w_R2, w_T2, w_callL, w_callT, w_T1, w_T0, o_mv, o_newnil, o_pick, o_bin, o_binN, o_neg, o_not, o_eqB, o_eqS, o_conv, o_alloc, o_box, o_load1, o_loadN, o_store, o_nilck, o_faddr, o_field1, o_fieldN, o_iaddr, o_istr, o_slStr, o_slSl, o_lenS, o_lenL, o_mx, o_mn, o_ext, o_build, o_lit, o_litOwn, o_app, o_mk, o_mvfrz, l_int, l_bool, l_str, l_agg, l_sl, l_own, l_ptr, l_pp, i_int, i_bool, i_str, i_sl, i_own, i_ptr, i_pp, all0, all1, e_ok1, eff, effBin, effBinN, ld_ptr, ld_pp, ld_elt, ia_own, ia_arr, el_1, el_N, load1K, faddrE, r_iaddr, sg_S, sg_c, sg_n, purL, pur, List.map, List.drop, List.take, List.length, List.foldl, List.append_eq, List.nil_append, List.cons_append, List.getD_cons_zero, List.getD_cons_succ, reduceIte, Nat.reduceEqDiff, Nat.reduceAdd, Nat.reduceLeDiff, true_and, and_true, Bool.not_true, Bool.not_false, Bool.and_true, Bool.true_and, Bool.and_self, reduceCtorEq, true_implies, false_implies, implies_true, decide_eq_true_eq, Option.map_some, fpOf, fpX, SOp.xs, oX, refs, refsL, dom, disj, List.all_nil, List.all_cons, List.contains_cons, List.contains_nil, Nat.reduceBEq, Bool.or_false, Bool.false_or, List.append_nil, Bool.not_false, Bool.not_true, List.forall_mem_cons, fm0, List.set, Nat.reduceLT, ne_eq, not_false_eq_true, not_true_eq_false
, ret1, ret1N, keep0, keep1, rf_int, rf_bool, rf_str, rf_sl, rf_agg, rf_tup, rfL0, rfL1, re_t, re_cN, re_L0, re_L1, ret_tup, ret_one, decide_true, AV.bool.injEq, AV.int.injEq, Nat.reduceLeDiff, Bool.true_eq, Bool.false_eq, decide_eq_true_eq, decide_eq_false_iff_not, t_sPathOk, t_l21In, t_l26Held, t_l21Min, t_l21Max, List.length_map, Stp7.row, irow, un_stp, un_i, path_eta, stp_eta, take_all, held_nil, set_f, set_b, List.length_set, hav, Path5.avO, flatOk, noref, ghost, Nat.zero_add, Nat.sub_zero, Int.toNat_natCast]
  have hR : ((p.tail k.toNat).first (max (p.l.getD k.toNat default).f e) (min (p.l.getD k.toNat default).b e)).after now = p.restAt k e now := rfl
  have hb := (h1.2.2.2 k.toNat (by omega)).1
  unfold Stp7.ok at hb
  have hc : (p.restAt k e now).calm := rest_calm h1 (by omega) (by omega) (by omega)
  simp only [hR]
  by_cases hcan : (p.restAt k e now).can
  · have hgo : p.goes k e now := ⟨h1, ⟨h2.1, by omega⟩, ⟨by omega, h3⟩, hcan⟩
    have h95 := (c_l27Can1 (p.restAt k e now) 1 hc hcan).ren (swp 3 112) (swp_swp 3 112)
    simp only [renL, ren, renM, renO, swp, Path5.avO, reduceIte] at h95
    refine ⟨_, _, .inl ⟨_, h95, by simp only [List.mem_singleton, forall_eq]; rfl, by simp [getM, dom], rfl, rfl, rfl, rfl, rfl⟩, ?_⟩
    simp only [w_skip, w_rg, w_rgd, w_seq, w_cond, w_block, w_loop, w_exit, w_ret, w_gh, w_rg0, w_rg1, w_rgT, w_rgF, w_run, w_psd, w_und, w_dr0, w_dr1, w_drT, w_drF, w_drRun, w_drPsd, w_drUnd, w_drKn, w_drKs, w_putK, w_trimK, w_thenN, w_thenE, w_thenR, w_scope, w_label, w_blkN, w_blkE, w_blkR, w_call, w_effK, brU_true, brU_false, brU_u, brU_not, brU_and, brU_or, brU_dec, brU_eq, brU_ne, br_true, br_false, br_not, br_and, br_or, br_dec, br_eq, br_ne, w_getE0, w_getE1, w_setE0, w_setE1, w_dropE0, w_dropE1, w_drop0, w_drop1, w_getM0, w_getM1, w_setM0, w_setM1, ev_v, ev_c, w_putS, w_putN, w_lit, w_apU0, w_apU1, w_apU2, w_trim, enumE0, enumE1, w_callWp, w_callA0, w_callA1, w_R0, w_R1, w_R2, w_T2, w_callL, w_callT, w_T1, w_T0, o_mv, o_newnil, o_pick, o_bin, o_binN, o_neg, o_not, o_eqB, o_eqS, o_conv, o_alloc, o_box, o_load1, o_loadN, o_store, o_nilck, o_faddr, o_field1, o_fieldN, o_iaddr, o_istr, o_slStr, o_slSl, o_lenS, o_lenL, o_mx, o_mn, o_ext, o_build, o_lit, o_litOwn, o_app, o_mk, o_mvfrz, l_int, l_bool, l_str, l_agg, l_sl, l_own, l_ptr, l_pp, i_int, i_bool, i_str, i_sl, i_own, i_ptr, i_pp, all0, all1, e_ok1, eff, effBin, effBinN, ld_ptr, ld_pp, ld_elt, ia_own, ia_arr, el_1, el_N, load1K, faddrE, r_iaddr, sg_S, sg_c, sg_n, purL, pur, List.map, List.drop, List.take, List.length, List.foldl, List.append_eq, List.nil_append, List.cons_append, List.getD_cons_zero, List.getD_cons_succ, reduceIte, Nat.reduceEqDiff, Nat.reduceAdd, Nat.reduceLeDiff, true_and, and_true, Bool.not_true, Bool.not_false, Bool.and_true, Bool.true_and, Bool.and_self, reduceCtorEq, true_implies, false_implies, implies_true, decide_eq_true_eq, Option.map_some, fpOf, fpX, SOp.xs, oX, refs, refsL, dom, disj, List.all_nil, List.all_cons, List.contains_cons, List.contains_nil, Nat.reduceBEq, Bool.or_false, Bool.false_or, List.append_nil, Bool.not_false, Bool.not_true, List.forall_mem_cons, fm0, List.set, Nat.reduceLT, ne_eq, not_false_eq_true, not_true_eq_false
, ret1, ret1N, keep0, keep1, rf_int, rf_bool, rf_str, rf_sl, rf_agg, rf_tup, rfL0, rfL1, re_t, re_cN, re_L0, re_L1, ret_tup, ret_one, decide_true, AV.bool.injEq, AV.int.injEq, Nat.reduceLeDiff, Bool.true_eq, Bool.false_eq, decide_eq_true_eq, decide_eq_false_iff_not, t_sPathOk, t_l21In, t_l26Held, t_l21Min, t_l21Max, List.length_map, Stp7.row, irow, un_stp, un_i, path_eta, stp_eta, take_all, held_nil, set_f, set_b, List.length_set, hav, Path5.avO, flatOk, noref, ghost, Nat.zero_add, Nat.sub_zero, Int.toNat_natCast]
    exact ⟨⟨by rw [Path5.restR, if_pos hgo]; rfl, hgo⟩, by rw [Path5.restR, if_pos hgo]; rfl⟩
  · have hgo : ¬ p.goes k e now := fun h => hcan h.2.2.2
    have h95 := (c_l27Can0 (p.restAt k e now) 1 hc hcan).ren (swp 3 112) (swp_swp 3 112)
    simp only [renL, ren, renM, renO, swp, Path5.avO, reduceIte] at h95
    refine ⟨_, _, .inl ⟨_, h95, by simp only [List.mem_singleton, forall_eq]; rfl, by simp [getM, dom], rfl, rfl, rfl, rfl, rfl⟩, ?_⟩
    simp only [w_skip, w_rg, w_rgd, w_seq, w_cond, w_block, w_loop, w_exit, w_ret, w_gh, w_rg0, w_rg1, w_rgT, w_rgF, w_run, w_psd, w_und, w_dr0, w_dr1, w_drT, w_drF, w_drRun, w_drPsd, w_drUnd, w_drKn, w_drKs, w_putK, w_trimK, w_thenN, w_thenE, w_thenR, w_scope, w_label, w_blkN, w_blkE, w_blkR, w_call, w_effK, brU_true, brU_false, brU_u, brU_not, brU_and, brU_or, brU_dec, brU_eq, brU_ne, br_true, br_false, br_not, br_and, br_or, br_dec, br_eq, br_ne, w_getE0, w_getE1, w_setE0, w_setE1, w_dropE0, w_dropE1, w_drop0, w_drop1, w_getM0, w_getM1, w_setM0, w_setM1, ev_v, ev_c, w_putS, w_putN, w_lit, w_apU0, w_apU1, w_apU2, w_trim, enumE0, enumE1, w_callWp, w_callA0, w_callA1, w_R0, w_R1, w_R2, w_T2, w_callL, w_callT, w_T1, w_T0, o_mv, o_newnil, o_pick, o_bin, o_binN, o_neg, o_not, o_eqB, o_eqS, o_conv, o_alloc, o_box, o_load1, o_loadN, o_store, o_nilck, o_faddr, o_field1, o_fieldN, o_iaddr, o_istr, o_slStr, o_slSl, o_lenS, o_lenL, o_mx, o_mn, o_ext, o_build, o_lit, o_litOwn, o_app, o_mk, o_mvfrz, l_int, l_bool, l_str, l_agg, l_sl, l_own, l_ptr, l_pp, i_int, i_bool, i_str, i_sl, i_own, i_ptr, i_pp, all0, all1, e_ok1, eff, effBin, effBinN, ld_ptr, ld_pp, ld_elt, ia_own, ia_arr, el_1, el_N, load1K, faddrE, r_iaddr, sg_S, sg_c, sg_n, purL, pur, List.map, List.drop, List.take, List.length, List.foldl, List.append_eq, List.nil_append, List.cons_append, List.getD_cons_zero, List.getD_cons_succ, reduceIte, Nat.reduceEqDiff, Nat.reduceAdd, Nat.reduceLeDiff, true_and, and_true, Bool.not_true, Bool.not_false, Bool.and_true, Bool.true_and, Bool.and_self, reduceCtorEq, true_implies, false_implies, implies_true, decide_eq_true_eq, Option.map_some, fpOf, fpX, SOp.xs, oX, refs, refsL, dom, disj, List.all_nil, List.all_cons, List.contains_cons, List.contains_nil, Nat.reduceBEq, Bool.or_false, Bool.false_or, List.append_nil, Bool.not_false, Bool.not_true, List.forall_mem_cons, fm0, List.set, Nat.reduceLT, ne_eq, not_false_eq_true, not_true_eq_false
, ret1, ret1N, keep0, keep1, rf_int, rf_bool, rf_str, rf_sl, rf_agg, rf_tup, rfL0, rfL1, re_t, re_cN, re_L0, re_L1, ret_tup, ret_one, decide_true, AV.bool.injEq, AV.int.injEq, Nat.reduceLeDiff, Bool.true_eq, Bool.false_eq, decide_eq_true_eq, decide_eq_false_iff_not, t_sPathOk, t_l21In, t_l26Held, t_l21Min, t_l21Max, List.length_map, Stp7.row, irow, un_stp, un_i, path_eta, stp_eta, take_all, held_nil, set_f, set_b, List.length_set, hav, Path5.avO, flatOk, noref, ghost, Nat.zero_add, Nat.sub_zero, Int.toNat_natCast]
    exact no hgo
end Go.Ve

namespace Go.Ve
open Go.Proofs
set_option linter.unusedSimpArgs false
set_option linter.unusedVariables false
set_option maxRecDepth 100000
def t_fit : List AV → Option (Prop × AV)
  | [.agg [.int .i64 q, .int .i64 s, .sl _ 7 xs, .int .i64 f, .int .i64 b]] => some ((xs.map unStp).map Stp7.row = xs, .tup [.sl 0 2 ((Path5.fitS ⟨q, s, xs.map unStp, f, b⟩).map Span2.row), .bool (decide (Path5.fit ⟨q, s, xs.map unStp, f, b⟩))])
  | _ => none
abbrev t_iFit := t_fit
theorem h_iFit : ∀ args p v, t_fit args = some (p, v) → p → Contract P 10 args [] v [] ∧ noref v = true ∧ No99 v := by
  intro args p v h1 h2
  unfold t_fit at h1
  split at h1
  · rename_i q s t xs f b
    cases h1
    have := c_iFlySpans ⟨q, s, xs.map unStp, f, b⟩ t
    simp only [h2] at this
    exact ⟨this, rfl, ⟨by omega, no99_span _⟩, trivial, trivial⟩
  · cases h1
abbrev t_sFit := t_fit
theorem h_sFit : ∀ args p v, t_fit args = some (p, v) → p → Contract P 11 args [] v [] ∧ noref v = true ∧ No99 v := by
  intro args p v h1 h2
  unfold t_fit at h1
  split at h1
  · rename_i q s t xs f b
    cases h1
    have := c_sFlySpans ⟨q, s, xs.map unStp, f, b⟩ t
    simp only [h2] at this
    exact ⟨this, rfl, ⟨by omega, no99_span _⟩, trivial, trivial⟩
  · cases h1
theorem drop_rows {α : Type} {f : α → List AV} {l : List α} {k : Nat} : List.drop k (List.map f l) = List.map f (List.drop k l) := (List.map_drop).symm
theorem take_s1 {α : Type} {f : α → List AV} {l : List α} {i : Nat} {x : α} : List.take l.length (List.map f (l.set i x)) = List.map f (l.set i x) := List.take_of_length_le (by simp)
theorem take_s2 {α : Type} {f : α → List AV} {l : List α} {i j : Nat} {x y : α} : List.take l.length (List.map f ((l.set i x).set j y)) = List.map f ((l.set i x).set j y) := List.take_of_length_le (by simp)
theorem ite_max {a b : Int} : (if b > a then b else a) = max a b := by omega
theorem ite_min {a b : Int} : (if b < a then b else a) = min a b := by omega
theorem c_rest (p : Path5) (t : Nat) (k f b now : Int) (hk : 0 ≤ k ∧ k < p.l.length) (hn : p.l.length ≤ 1048576) (hw : -4611686018427387904 ≤ now ∧ now ≤ 4611686018427387904) : Contract P 91 [.agg [.int .i64 p.q, .int .i64 p.s, .sl t 7 (p.l.map Stp7.row), .int .i64 p.f, .int .i64 p.b], .int .i64 k, .int .i64 f, .int .i64 b, .int .i64 now] [] (.tup [(if (p.rest k.toNat f b now).fit then p.rest k.toNat f b now else ⟨0, 0, [], 0, 0⟩ : Path5).av, .bool (decide (p.rest k.toNat f b now).fit)]) [] := by
  refine fn_sound ((Env.nil P).add 10 t_iFit h_iFit) hm k_impl_FlyPath_rest (Nat.le_of_ble_eq_true rfl) rfl ?_
  unfold s_impl_FlyPath_rest
  have htl : List.drop k.toNat p.l = (p.tail k.toNat).l := rfl
  have hl : 0 < (p.tail k.toNat).l.length := by simp [Path5.tail]; omega
  have hgs : ∀ x : Stp7, ((p.tail k.toNat).l.set 0 x).getD 0 default = x := fun x => getD_set_same hl
  simp only [w_skip, w_rg, w_rgd, w_seq, w_cond, w_block, w_loop, w_exit, w_ret, w_gh, w_rg0, w_rg1, w_rgT, w_rgF, w_run, w_psd, w_und, w_dr0, w_dr1, w_drT, w_drF, w_drRun, w_drPsd, w_drUnd, w_drKn, w_drKs, w_putK, w_trimK, w_thenN, w_thenE, w_thenR, w_scope, w_label, w_blkN, w_blkE, w_blkR, w_call, w_effK, brU_true, brU_false, brU_u, brU_not, brU_and, brU_or, brU_dec, brU_eq, brU_ne, br_true, br_false, br_not, br_and, br_or, br_dec, br_eq, br_ne, w_getE0, w_getE1, w_setE0, w_setE1, w_dropE0, w_dropE1, w_drop0, w_drop1, w_getM0, w_getM1, w_setM0, w_setM1, ev_v, ev_c, w_putS, w_putN, w_lit, w_apU0, w_apU1, w_apU2, w_trim, enumE0, enumE1, w_callWp, w_callA0, w_callA1, w_R0, w_R1, w_R2, w_T2, w_callL, w_callT, w_T1, w_T0, o_mv, o_newnil, o_pick, o_bin, o_binN, o_neg, o_not, o_eqB, o_eqS, o_conv, o_alloc, o_box, o_load1, o_loadN, o_store, o_nilck, o_faddr, o_field1, o_fieldN, o_iaddr, o_istr, o_slStr, o_slSl, o_lenS, o_lenL, o_mx, o_mn, o_ext, o_build, o_lit, o_litOwn, o_app, o_mk, o_mvfrz, l_int, l_bool, l_str, l_agg, l_sl, l_own, l_ptr, l_pp, i_int, i_bool, i_str, i_sl, i_own, i_ptr, i_pp, all0, all1, e_ok1, eff, effBin, effBinN, ld_ptr, ld_pp, ld_elt, ia_own, ia_arr, el_1, el_N, load1K, faddrE, r_iaddr, sg_S, sg_c, sg_n, purL, pur, List.map, List.drop, List.take, List.length, List.foldl, List.append_eq, List.nil_append, List.cons_append, List.getD_cons_zero, List.getD_cons_succ, reduceIte, Nat.reduceEqDiff, Nat.reduceAdd, Nat.reduceLeDiff, true_and, and_true, Bool.not_true, Bool.not_false, Bool.and_true, Bool.true_and, Bool.and_self, reduceCtorEq, true_implies, false_implies, implies_true, decide_eq_true_eq, Option.map_some, fpOf, fpX, SOp.xs, oX, refs, refsL, dom, disj, List.all_nil, List.all_cons, List.contains_cons, List.contains_nil, Nat.reduceBEq, Bool.or_false, Bool.false_or, List.append_nil, Bool.not_false, Bool.not_true, List.forall_mem_cons, fm0, List.set, Nat.reduceLT, ne_eq, not_false_eq_true, not_true_eq_false
, ret1, ret1N, keep0, keep1, rf_int, rf_bool, rf_str, rf_sl, rf_agg, rf_tup, rfL0, rfL1, re_t, re_cN, re_L0, re_L1, ret_tup, ret_one, decide_true, AV.bool.injEq, AV.int.injEq, Nat.reduceLeDiff, Bool.true_eq, Bool.false_eq, decide_eq_true_eq, decide_eq_false_iff_not, t_iFit, t_fit, drop_rows, htl, ite_max, ite_min, Int.toNat_zero, take_s1, take_s2, hgs, List.set_set, List.length_map, Stp7.row, irow, un_stp, un_i, path_eta, stp_eta, take_all, set_f, set_b, List.length_set, Path5.avO, flatOk, noref, ghost, Nat.zero_add, Nat.sub_zero, Int.toNat_natCast, rowsOf, appE, optI]
  have fin : ∀ R : Path5, R = p.rest k.toNat f b now → (R.fit → ((if (p.rest k.toNat f b now).fit then p.rest k.toNat f b now else ⟨0, 0, [], 0, 0⟩ : Path5).av = R.av ∧ (p.rest k.toNat f b now).fit) ∧ refsIn [] (if (p.rest k.toNat f b now).fit then p.rest k.toNat f b now else ⟨0, 0, [], 0, 0⟩ : Path5).av = true) ∧
      (¬ R.fit → ((if (p.rest k.toNat f b now).fit then p.rest k.toNat f b now else ⟨0, 0, [], 0, 0⟩ : Path5).av = .agg [.int .i64 0, .int .i64 0, .sl 0 7 [], .int .i64 0, .int .i64 0] ∧ ¬ (p.rest k.toNat f b now).fit) ∧ refsIn [] (if (p.rest k.toNat f b now).fit then p.rest k.toNat f b now else ⟨0, 0, [], 0, 0⟩ : Path5).av = true) := by
    rintro R rfl
    exact ⟨fun h => by rw [if_pos h]; exact ⟨⟨rfl, h⟩, rfl⟩, fun h => by rw [if_neg h]; exact ⟨⟨rfl, h⟩, rfl⟩⟩
  have hlen : (p.tail k.toNat).l.length ≤ p.l.length := by simp [Path5.tail]
  refine ⟨by omega, by omega, ⟨by omega, by omega⟩, ⟨by omega, by omega⟩, fun h => ⟨⟨by omega, by omega⟩, by omega, by omega, ⟨by omega, by omega⟩, ?_⟩, fun h => ⟨by omega, ?_⟩⟩
  · refine fin _ ?_
    unfold Path5.rest Path5.after
    rw [if_pos (by rw [first_len]; omega)]
    rfl
  · refine fin _ ?_
    unfold Path5.rest Path5.after
    rw [if_neg (by rw [first_len]; omega)]
    rfl
end Go.Ve

namespace Go.Ve
open Go.Proofs
set_option linter.unusedSimpArgs false
set_option linter.unusedVariables false
set_option maxRecDepth 100000
set_option maxHeartbeats 8000000
/-! An index into a written-out row of integers. -/
section
variable {K : AV → List (Nat × AObj) → Prop} {M : Nat → Option AObj} {t : Nat} {n a b c d e : Int}
def at3 (n a b c : Int) : Int := if n = 0 then a else if n = 1 then b else c
def at4 (n a b c d : Int) : Int := if n = 0 then a else if n = 1 then b else if n = 2 then c else d
theorem ia_l3 : effK (iaddrE M 1 n (.sl t 1 [[.int .i64 a], [.int .i64 b], [.int .i64 c]])) K = (0 ≤ n ∧ n < 3 ∧ K (.pp t [.int .i64 (at3 n a b c)]) []) := by
  have := r_iaddr (α := Int) (f := irow) (l := [a, b, c]) (K := K) (M := M) (t := t) (sz := 1) (sz' := 1) (n := n)
  simp only [List.map, irow, List.length_cons, List.length_nil, true_and] at this
  rw [this]
  refine propext ⟨?_, ?_⟩
  · rintro ⟨h1, h2, h3⟩
    refine ⟨h1, by simpa using h2, ?_⟩
    have : at3 n a b c = [a, b, c].getD n.toNat default := by
      obtain rfl | rfl | rfl : n = 0 ∨ n = 1 ∨ n = 2 := by omega
      all_goals rfl
    rw [this]; exact h3
  · rintro ⟨h1, h2, h3⟩
    refine ⟨h1, by simpa using h2, ?_⟩
    have : at3 n a b c = [a, b, c].getD n.toNat default := by
      obtain rfl | rfl | rfl : n = 0 ∨ n = 1 ∨ n = 2 := by omega
      all_goals rfl
    rw [← this]; exact h3
theorem ia_l4 : effK (iaddrE M 1 n (.sl t 1 [[.int .i64 a], [.int .i64 b], [.int .i64 c], [.int .i64 d]])) K = (0 ≤ n ∧ n < 4 ∧ K (.pp t [.int .i64 (at4 n a b c d)]) []) := by
  have := r_iaddr (α := Int) (f := irow) (l := [a, b, c, d]) (K := K) (M := M) (t := t) (sz := 1) (sz' := 1) (n := n)
  simp only [List.map, irow, List.length_cons, List.length_nil, true_and] at this
  rw [this]
  refine propext ⟨?_, ?_⟩
  · rintro ⟨h1, h2, h3⟩
    refine ⟨h1, by simpa using h2, ?_⟩
    have : at4 n a b c d = [a, b, c, d].getD n.toNat default := by
      obtain rfl | rfl | rfl | rfl : n = 0 ∨ n = 1 ∨ n = 2 ∨ n = 3 := by omega
      all_goals rfl
    rw [this]; exact h3
  · rintro ⟨h1, h2, h3⟩
    refine ⟨h1, by simpa using h2, ?_⟩
    have : at4 n a b c d = [a, b, c, d].getD n.toNat default := by
      obtain rfl | rfl | rfl | rfl : n = 0 ∨ n = 1 ∨ n = 2 ∨ n = 3 := by omega
      all_goals rfl
    rw [← this]; exact h3
end
theorem set_x {l : List Stp7} {i : Nat} {v : Int} : (l.map Stp7.row).set i (setSeg ((l.map Stp7.row).getD i []) 0 [.int .i64 v]) = (l.set i { l.getD i default with x := v }).map Stp7.row :=
  set_rows (α := Stp7) (f := Stp7.row) (fun s => { s with x := v }) fun x => by simp [Stp7.row, setSeg]
theorem set_l {l : List Stp7} {i : Nat} {v : Int} : (l.map Stp7.row).set i (setSeg ((l.map Stp7.row).getD i []) 2 [.int .i64 v]) = (l.set i { l.getD i default with l := v }).map Stp7.row :=
  set_rows (α := Stp7) (f := Stp7.row) (fun s => { s with l := v }) fun x => by simp [Stp7.row, setSeg]
theorem set_h {l : List Stp7} {i : Nat} {v : Int} : (l.map Stp7.row).set i (setSeg ((l.map Stp7.row).getD i []) 3 [.int .i64 v]) = (l.set i { l.getD i default with h := v }).map Stp7.row :=
  set_rows (α := Stp7) (f := Stp7.row) (fun s => { s with h := v }) fun x => by simp [Stp7.row, setSeg]
theorem set_hold {l : List Stp7} {i : Nat} {v : Bool} : (l.map Stp7.row).set i (setSeg ((l.map Stp7.row).getD i []) 6 [.bool v]) = (l.set i { l.getD i default with hold := v }).map Stp7.row :=
  set_rows (α := Stp7) (f := Stp7.row) (fun s => { s with hold := v }) fun x => by simp [Stp7.row, setSeg]
theorem snoc_get {l : List Stp7} {i : Nat} : l.map Stp7.row ++ [Stp7.row (l.getD i default)] = (l ++ [l.getD i default]).map Stp7.row := by simp
structure SpS where
  m : Nat
  n : Nat
  l : List Stp7
  p : Int
def F_spoil (cs : List Nat) (p0 : Path5) (a : SpS) : St := ⟨[(0, .ptr 3 0), (4, .ptr 104 0), (5, .ptr 105 0)],
  [(3, rd cs a.p), (104, .box [.int .i64 0, .int .i64 0, .sl 0 7 [], .int .i64 0, .int .i64 0]), (105, .box [.int .i64 p0.q, .int .i64 p0.s, .own 190 (1 + a.m) 0 a.n, .int .i64 p0.f, .int .i64 p0.b]), (190, .arr 64 (1 + a.m) 7 (a.l.map Stp7.row))]⟩
theorem c_spoil (cs : List Nat) (p : Int) (p0 : Path5) (hB : okB (cs.map brow)) (hp : 0 ≤ p ∧ p ≤ 1099511600000) (hc : 1 ≤ p0.l.length ∧ p0.l.length ≤ 40) : ∃ a : Path5 × Int, (a.1.l.length ≤ 100 ∧ p ≤ a.2 ∧ a.2 ≤ p + 300) ∧ Contract P 98 [.ptr 3 0, p0.av] [(3, rd cs p)] (a.1.av) [(3, rd cs (a.2))] := by
  refine fn_choose (((Env.nil P).addR 52 r_pick h_pick).addR 112 r_copy h_copy) Go.Ve.hm k_spec_l30Spoil (Nat.le_of_ble_eq_true rfl) rfl (fun a : Path5 × Int => a.1.l.length ≤ 100 ∧ p ≤ a.2 ∧ a.2 ≤ p + 300) (fun a => a.1.av) (fun a => [(3, rd cs (a.2))]) ?_
  unfold s_spec_l30Spoil
  have hR : ∀ {p lim : Int}, rdOk 0 1 1 (cs.map brow) p lim = (0 ≤ p ∧ p ≤ lim) := rdOk_of hB
  have hav : p0.av = .agg [.int .i64 p0.q, .int .i64 p0.s, .sl 0 7 (p0.l.map Stp7.row), .int .i64 p0.f, .int .i64 p0.b] := rfl
  rw [hav]
  simp only [w_skip, w_rg, w_rgd, w_seq, w_cond, w_block, w_loop, w_exit, w_ret, w_gh, w_rg0, w_rg1, w_rgT, w_rgF, w_run, w_psd, w_und, w_dr0, w_dr1, w_drT, w_drF, w_drRun, w_drPsd, w_drUnd, w_drKn, w_drKs, w_putK, w_trimK, w_thenN, w_thenE, w_thenR, w_scope, w_label, w_blkN, w_blkE, w_blkR, w_call, w_effK, brU_true, brU_false, brU_u, brU_not, brU_and, brU_or, brU_dec, brU_eq, brU_ne, br_true, br_false, br_not, br_and, br_or, br_dec, br_eq, br_ne, w_getE0, w_getE1, w_setE0, w_setE1, w_dropE0, w_dropE1, w_drop0, w_drop1, w_getM0, w_getM1, w_setM0, w_setM1, ev_v, ev_c, w_putS, w_putN, w_lit, w_apU0, w_apU1, w_apU2, w_trim, enumE0, enumE1, w_callWp, w_callA0, w_callA1, w_R0, w_R1, w_R2, w_T2, w_callL, w_callT, w_T1, w_T0, o_mv, o_newnil, o_pick, o_bin, o_binN, o_neg, o_not, o_eqB, o_eqS, o_conv, o_alloc, o_box, o_load1, o_loadN, o_store, o_nilck, o_faddr, o_field1, o_fieldN, o_iaddr, o_istr, o_slStr, o_slSl, o_lenS, o_lenL, o_mx, o_mn, o_ext, o_build, o_lit, o_litOwn, o_app, o_mk, o_mvfrz, l_int, l_bool, l_str, l_agg, l_sl, l_own, l_ptr, l_pp, i_int, i_bool, i_str, i_sl, i_own, i_ptr, i_pp, all0, all1, e_ok1, eff, effBin, effBinN, ld_ptr, ld_pp, ld_elt, ia_own, ia_arr, el_1, el_N, load1K, faddrE, r_iaddr, sg_S, sg_c, sg_n, purL, pur, List.map, List.drop, List.take, List.length, List.foldl, List.append_eq, List.nil_append, List.cons_append, List.getD_cons_zero, List.getD_cons_succ, reduceIte, Nat.reduceEqDiff, Nat.reduceAdd, Nat.reduceLeDiff, true_and, and_true, Bool.not_true, Bool.not_false, Bool.and_true, Bool.true_and, Bool.and_self, reduceCtorEq, true_implies, false_implies, implies_true, decide_eq_true_eq, Option.map_some, fpOf, fpX, SOp.xs, oX, refs, refsL, dom, disj, List.all_nil, List.all_cons, List.contains_cons, List.contains_nil, Nat.reduceBEq, Bool.or_false, Bool.false_or, List.append_nil, Bool.not_false, Bool.not_true, List.forall_mem_cons, fm0, List.set, Nat.reduceLT, ne_eq, not_false_eq_true, not_true_eq_false
, ret1, ret1N, keep0, keep1, rf_int, rf_bool, rf_str, rf_sl, rf_agg, rf_tup, rfL0, rfL1, re_t, re_cN, re_L0, re_L1, ret_tup, ret_one, decide_true, AV.bool.injEq, AV.int.injEq, Nat.reduceLeDiff, Bool.true_eq, Bool.false_eq, decide_eq_true_eq, decide_eq_false_iff_not, hR, re_tup, or_t, List.length_map, rd, brow, retG_ret, ghost, retQ_eq, retOk, wkM, refsInO, keepB, Int.toNat_natCast, noref, flatOk, Path5.av, retG_ret, ghost, retQ_eq, retOk, wkM, refsInO, keepB, re_tup, or_t, Int.toNat_natCast, noref, flatOk, List.length_map, Stp7.row, irow, un_stp, un_i, set_f, set_b, List.length_set, take_all, path_eta, true_and, rowsOf, appE, r_pick, r_copy, ia_l3, ia_l4, optI, drop_rows, take_s1, List.drop_zero, Int.toNat_zero, set_x, set_l, set_h, set_hold, Nat.sub_zero, Nat.zero_add, snoc_row, snoc_get, stp_eta]
  have fin : ∀ (q s f b : Int) (l : List Stp7) (p' : Int), l.length ≤ 100 → (p ≤ p' ∧ p' ≤ p + 300) → ∃ a : Path5 × Int, (a.1.l.length ≤ 100 ∧ p ≤ a.2 ∧ a.2 ≤ p + 300) ∧ AV.agg [.int .i64 a.1.q, .int .i64 a.1.s, .sl 0 7 (a.1.l.map Stp7.row), .int .i64 a.1.f, .int .i64 a.1.b] = AV.agg [.int .i64 q, .int .i64 s, .sl 0 7 (l.map Stp7.row), .int .i64 f, .int .i64 b] ∧ some (AObj.box [.sl 1 1 (cs.map brow), .int .i64 p']) = some (.box [.sl 1 1 (cs.map brow), .int .i64 a.2]) :=
    fun q s f b l p' h1 h2 => ⟨(⟨q, s, l, f, b⟩, p'), ⟨h1, h2.1, h2.2⟩, rfl, rfl⟩
  have hw2 : ∀ n : Nat, n ≤ 1000 → IntKind.i64.wrap ((n : Int) - 1) = (n : Int) - 1 := fun n h => IntWalk.i64_in _ (by omega)
  have hw3 : ∀ n : Int, 0 ≤ n ∧ n ≤ 1000 → IntKind.i64.wrap (40 + n) = 40 + n := fun n h => IntWalk.i64_in _ (by omega)
  simp only [hw2 _ (show p0.l.length ≤ 1000 by omega)]
  repeat' (first | intro _ | apply And.intro | omega | (exact fin _ _ _ _ _ _ (by simp only [List.length_set, List.length_append, List.length_take, List.length_cons, List.length_nil]; omega) (by omega)) | exact fin _ _ _ _ _ _ (by omega) (by omega))
  · rw [← List.map_take]
    exact fin _ _ _ _ _ _ (by simp only [List.length_take]; omega) (by omega)
  · refine loop_of (F_spoil cs p0) (fun a => (a.l.length = a.n ∧ 1 ≤ a.n ∧ a.n ≤ 41) ∧ p ≤ a.p ∧ a.p ≤ p + 2 + a.n) (fun a => 41 - a.n) ⟨0, p0.l.length, p0.l, p + 1 + 1⟩ ⟨⟨.inr rfl, .inr rfl, .inr rfl, trivial⟩, ⟨rfl, rfl, rfl, rfl, trivial⟩, rfl, rfl⟩ ⟨⟨rfl, hc.1, by simp only; omega⟩, by simp only; omega, by simp only; omega⟩ ?_
    rintro ⟨m, n, l, q⟩ ⟨hl, hq⟩
    simp only at hl hq
    have htk : List.take n (l.map Stp7.row) = l.map Stp7.row := List.take_of_length_le (by rw [List.length_map]; omega)
    unfold l_spec_l30Spoil_0 F_spoil
    simp only [w_skip, w_rg, w_rgd, w_seq, w_cond, w_block, w_loop, w_exit, w_ret, w_gh, w_rg0, w_rg1, w_rgT, w_rgF, w_run, w_psd, w_und, w_dr0, w_dr1, w_drT, w_drF, w_drRun, w_drPsd, w_drUnd, w_drKn, w_drKs, w_putK, w_trimK, w_thenN, w_thenE, w_thenR, w_scope, w_label, w_blkN, w_blkE, w_blkR, w_call, w_effK, brU_true, brU_false, brU_u, brU_not, brU_and, brU_or, brU_dec, brU_eq, brU_ne, br_true, br_false, br_not, br_and, br_or, br_dec, br_eq, br_ne, w_getE0, w_getE1, w_setE0, w_setE1, w_dropE0, w_dropE1, w_drop0, w_drop1, w_getM0, w_getM1, w_setM0, w_setM1, ev_v, ev_c, w_putS, w_putN, w_lit, w_apU0, w_apU1, w_apU2, w_trim, enumE0, enumE1, w_callWp, w_callA0, w_callA1, w_R0, w_R1, w_R2, w_T2, w_callL, w_callT, w_T1, w_T0, o_mv, o_newnil, o_pick, o_bin, o_binN, o_neg, o_not, o_eqB, o_eqS, o_conv, o_alloc, o_box, o_load1, o_loadN, o_store, o_nilck, o_faddr, o_field1, o_fieldN, o_iaddr, o_istr, o_slStr, o_slSl, o_lenS, o_lenL, o_mx, o_mn, o_ext, o_build, o_lit, o_litOwn, o_app, o_mk, o_mvfrz, l_int, l_bool, l_str, l_agg, l_sl, l_own, l_ptr, l_pp, i_int, i_bool, i_str, i_sl, i_own, i_ptr, i_pp, all0, all1, e_ok1, eff, effBin, effBinN, ld_ptr, ld_pp, ld_elt, ia_own, ia_arr, el_1, el_N, load1K, faddrE, r_iaddr, sg_S, sg_c, sg_n, purL, pur, List.map, List.drop, List.take, List.length, List.foldl, List.append_eq, List.nil_append, List.cons_append, List.getD_cons_zero, List.getD_cons_succ, reduceIte, Nat.reduceEqDiff, Nat.reduceAdd, Nat.reduceLeDiff, true_and, and_true, Bool.not_true, Bool.not_false, Bool.and_true, Bool.true_and, Bool.and_self, reduceCtorEq, true_implies, false_implies, implies_true, decide_eq_true_eq, Option.map_some, fpOf, fpX, SOp.xs, oX, refs, refsL, dom, disj, List.all_nil, List.all_cons, List.contains_cons, List.contains_nil, Nat.reduceBEq, Bool.or_false, Bool.false_or, List.append_nil, Bool.not_false, Bool.not_true, List.forall_mem_cons, fm0, List.set, Nat.reduceLT, ne_eq, not_false_eq_true, not_true_eq_false
, ret1, ret1N, keep0, keep1, rf_int, rf_bool, rf_str, rf_sl, rf_agg, rf_tup, rfL0, rfL1, re_t, re_cN, re_L0, re_L1, ret_tup, ret_one, decide_true, AV.bool.injEq, AV.int.injEq, Nat.reduceLeDiff, Bool.true_eq, Bool.false_eq, decide_eq_true_eq, decide_eq_false_iff_not, hR, re_tup, or_t, List.length_map, rd, brow, retG_ret, ghost, retQ_eq, retOk, wkM, refsInO, keepB, Int.toNat_natCast, noref, flatOk, Path5.av, retG_ret, ghost, retQ_eq, retOk, wkM, refsInO, keepB, re_tup, or_t, Int.toNat_natCast, noref, flatOk, List.length_map, Stp7.row, irow, un_stp, un_i, set_f, set_b, List.length_set, take_all, path_eta, true_and, rowsOf, appE, r_pick, r_copy, ia_l3, ia_l4, optI, drop_rows, take_s1, List.drop_zero, Int.toNat_zero, set_x, set_l, set_h, set_hold, Nat.sub_zero, Nat.zero_add, snoc_row, snoc_get, stp_eta]
    simp only [hw2 _ (show n ≤ 1000 by omega), htk, snoc_row]
    refine ⟨by omega, fun a ha => ?_⟩
    rw [hw3 a (by omega)]
    refine ⟨fun h9 => ?_, fun h9 => fin _ _ _ _ _ _ (by omega) (by omega)⟩
    repeat' (first | intro _ | apply And.intro | (exact loopK_of (⟨m + 1, n + 1, l ++ [_], _⟩ : SpS) ⟨⟨.inr rfl, .inr rfl, .inr rfl, trivial⟩, ⟨rfl, rfl, rfl, rfl, trivial⟩, rfl, rfl⟩ ⟨by simp only [List.length_append, List.length_cons, List.length_nil]; omega, by simp only; omega⟩ (by simp only; omega)) | omega)
  · rw [← List.map_take]
    exact fin _ _ _ _ _ _ (by simp only [List.length_take, List.length_append, List.length_cons, List.length_nil]; omega) (by omega)
def r_spoil : RTab
  | [.ptr o off, .agg [.int .i64 q, .int .i64 s, .sl 0 7 xs, .int .i64 f, .int .i64 b]], M => match M o with
    | some (.box [.sl t sz B, .int .i64 p]) => some ⟨rdOk off t sz B p 1099511600000 ∧ (xs.map unStp).map Stp7.row = xs ∧ (1 ≤ (xs.map unStp).length ∧ (xs.map unStp).length ≤ 40), fun a : Path5 × Int => a.1.l.length ≤ 100 ∧ p ≤ a.2 ∧ a.2 ≤ p + 300, fun a => a.1.av, fun a => [(o, .box [.sl t sz B, .int .i64 (a.2)])]⟩
    | _ => none
  | _, _ => none
theorem h_spoil : okTab P 98 r_spoil := by
  intro args M o h hp
  unfold r_spoil at h
  split at h
  · rename_i o' off q s xs f b
    split at h
    · rename_i hM
      cases h
      obtain ⟨⟨rfl, rfl, rfl, ⟨cs, rfl, h1, h2⟩, h3, h4⟩, h5, hc⟩ := hp
      obtain ⟨x, hx, hC⟩ := c_spoil cs _ ⟨q, s, xs.map unStp, f, b⟩ ⟨cs, rfl, h1, h2⟩ ⟨h3, h4⟩ hc
      simp only [Path5.av, h5] at hC
      exact ⟨x, hx, callR_rd _ hC rfl rfl hM⟩
    · cases h
  · cases h
end Go.Ve

namespace Go.Ve
open Go.Proofs
set_option linter.unusedSimpArgs false
set_option linter.unusedVariables false
set_option maxRecDepth 100000
set_option maxHeartbeats 4000000
def Path5.step (p : Path5) (f : List Int) (j : Nat) : Prop := (p.low j ≤ f.getD j default ∧ f.getD j default ≤ p.high j) ∧ (0 < j → p.q ≤ f.getD j default - f.getD (j - 1) default ∧ f.getD j default - f.getD (j - 1) default ≤ p.most (j - 1))
def Path5.lawful (p : Path5) (f : List Int) : Prop := pathOk p.q p.s p.l p.f p.b ∧ f.length = p.l.length + 1 ∧ ∀ j, j < f.length → p.step f j
instance (p : Path5) (f : List Int) (j : Nat) : Decidable (p.step f j) := by unfold Path5.step; infer_instance
instance (p : Path5) (f : List Int) : Decidable (p.lawful f) := by unfold Path5.lawful; infer_instance
def F_sLaw (p : Path5) (t t' : Nat) (f : List Int) (k : Nat) : St := ⟨[(1, .sl t' 1 (f.map irow)), (2, .ptr 102 0), (5, .int .i64 k)], [(102, .box [.int .i64 p.q, .int .i64 p.s, .sl t 7 (p.l.map Stp7.row), .int .i64 p.f, .int .i64 p.b])]⟩
theorem c_sLawful (p : Path5) (t t' : Nat) (f : List Int) : Contract P 14 [.agg [.int .i64 p.q, .int .i64 p.s, .sl t 7 (p.l.map Stp7.row), .int .i64 p.f, .int .i64 p.b], .sl t' 1 (f.map irow)] [] (.bool (decide (p.lawful f))) [] := by
  refine fn_sound ((((((Env.nil P).add 33 t_sPathOk h_sPathOk).add 57 t_l21In h_l21In).add 58 t_l23Low h_l23Low).add 59 t_l23High h_l23High).add 60 t_l23Most h_l23Most) hm k_spec_FlyLawful (Nat.le_of_ble_eq_true rfl) rfl ?_
  unfold s_spec_FlyLawful
  simp only [w_skip, w_rg, w_rgd, w_seq, w_cond, w_block, w_loop, w_exit, w_ret, w_gh, w_rg0, w_rg1, w_rgT, w_rgF, w_run, w_psd, w_und, w_dr0, w_dr1, w_drT, w_drF, w_drRun, w_drPsd, w_drUnd, w_drKn, w_drKs, w_putK, w_trimK, w_thenN, w_thenE, w_thenR, w_scope, w_label, w_blkN, w_blkE, w_blkR, w_call, w_effK, brU_true, brU_false, brU_u, brU_not, brU_and, brU_or, brU_dec, brU_eq, brU_ne, br_true, br_false, br_not, br_and, br_or, br_dec, br_eq, br_ne, w_getE0, w_getE1, w_setE0, w_setE1, w_dropE0, w_dropE1, w_drop0, w_drop1, w_getM0, w_getM1, w_setM0, w_setM1, ev_v, ev_c, w_putS, w_putN, w_lit, w_apU0, w_apU1, w_apU2, w_trim, enumE0, enumE1, w_callWp, w_callA0, w_callA1, w_R0, w_R1, w_R2, w_T2, w_callL, w_callT, w_T1, w_T0, o_mv, o_newnil, o_pick, o_bin, o_binN, o_neg, o_not, o_eqB, o_eqS, o_conv, o_alloc, o_box, o_load1, o_loadN, o_store, o_nilck, o_faddr, o_field1, o_fieldN, o_iaddr, o_istr, o_slStr, o_slSl, o_lenS, o_lenL, o_mx, o_mn, o_ext, o_build, o_lit, o_litOwn, o_app, o_mk, o_mvfrz, l_int, l_bool, l_str, l_agg, l_sl, l_own, l_ptr, l_pp, i_int, i_bool, i_str, i_sl, i_own, i_ptr, i_pp, all0, all1, e_ok1, eff, effBin, effBinN, ld_ptr, ld_pp, ld_elt, ia_own, ia_arr, el_1, el_N, load1K, faddrE, r_iaddr, sg_S, sg_c, sg_n, purL, pur, List.map, List.drop, List.take, List.length, List.foldl, List.append_eq, List.nil_append, List.cons_append, List.getD_cons_zero, List.getD_cons_succ, reduceIte, Nat.reduceEqDiff, Nat.reduceAdd, Nat.reduceLeDiff, true_and, and_true, Bool.not_true, Bool.not_false, Bool.and_true, Bool.true_and, Bool.and_self, reduceCtorEq, true_implies, false_implies, implies_true, decide_eq_true_eq, Option.map_some, fpOf, fpX, SOp.xs, oX, refs, refsL, dom, disj, List.all_nil, List.all_cons, List.contains_cons, List.contains_nil, Nat.reduceBEq, Bool.or_false, Bool.false_or, List.append_nil, Bool.not_false, Bool.not_true, List.forall_mem_cons, fm0, List.set, Nat.reduceLT, ne_eq, not_false_eq_true, not_true_eq_false
, ret1, ret1N, keep0, keep1, rf_int, rf_bool, rf_str, rf_sl, rf_agg, rf_tup, rfL0, rfL1, re_t, re_cN, re_L0, re_L1, ret_tup, ret_one, decide_true, AV.bool.injEq, AV.int.injEq, Nat.reduceLeDiff, Bool.true_eq, Bool.false_eq, decide_eq_true_eq, decide_eq_false_iff_not, t_sPathOk, t_l21In, t_l23Low, t_l23High, t_l23Most, toNat_pred, irow, List.length_map, un_stp, path_eta, flatOk, noref, ghost, Int.toNat_natCast, Nat.zero_add, Nat.sub_zero]
  refine ⟨fun h1 => ⟨by have := h1.2.1; omega, fun h2 h => h2 (by have := h.2.1; omega), fun h2 => ?_⟩, fun h1 h => h1 h.1⟩
  have hc := ok_calm h1
  have hl : f.length = p.l.length + 1 := by omega
  refine loop_of (F_sLaw p t t' f) (fun k => k ≤ f.length ∧ ∀ j, j < k → p.step f j) (fun k => f.length - k) 0 ⟨⟨.inr rfl, .inr rfl, .inr rfl, trivial⟩, ⟨rfl, trivial⟩, rfl, rfl⟩ ⟨Nat.zero_le _, fun j hj => by omega⟩ ?_
  rintro k ⟨hk, hs⟩
  unfold l_spec_FlyLawful_0 F_sLaw
  simp only [w_skip, w_rg, w_rgd, w_seq, w_cond, w_block, w_loop, w_exit, w_ret, w_gh, w_rg0, w_rg1, w_rgT, w_rgF, w_run, w_psd, w_und, w_dr0, w_dr1, w_drT, w_drF, w_drRun, w_drPsd, w_drUnd, w_drKn, w_drKs, w_putK, w_trimK, w_thenN, w_thenE, w_thenR, w_scope, w_label, w_blkN, w_blkE, w_blkR, w_call, w_effK, brU_true, brU_false, brU_u, brU_not, brU_and, brU_or, brU_dec, brU_eq, brU_ne, br_true, br_false, br_not, br_and, br_or, br_dec, br_eq, br_ne, w_getE0, w_getE1, w_setE0, w_setE1, w_dropE0, w_dropE1, w_drop0, w_drop1, w_getM0, w_getM1, w_setM0, w_setM1, ev_v, ev_c, w_putS, w_putN, w_lit, w_apU0, w_apU1, w_apU2, w_trim, enumE0, enumE1, w_callWp, w_callA0, w_callA1, w_R0, w_R1, w_R2, w_T2, w_callL, w_callT, w_T1, w_T0, o_mv, o_newnil, o_pick, o_bin, o_binN, o_neg, o_not, o_eqB, o_eqS, o_conv, o_alloc, o_box, o_load1, o_loadN, o_store, o_nilck, o_faddr, o_field1, o_fieldN, o_iaddr, o_istr, o_slStr, o_slSl, o_lenS, o_lenL, o_mx, o_mn, o_ext, o_build, o_lit, o_litOwn, o_app, o_mk, o_mvfrz, l_int, l_bool, l_str, l_agg, l_sl, l_own, l_ptr, l_pp, i_int, i_bool, i_str, i_sl, i_own, i_ptr, i_pp, all0, all1, e_ok1, eff, effBin, effBinN, ld_ptr, ld_pp, ld_elt, ia_own, ia_arr, el_1, el_N, load1K, faddrE, r_iaddr, sg_S, sg_c, sg_n, purL, pur, List.map, List.drop, List.take, List.length, List.foldl, List.append_eq, List.nil_append, List.cons_append, List.getD_cons_zero, List.getD_cons_succ, reduceIte, Nat.reduceEqDiff, Nat.reduceAdd, Nat.reduceLeDiff, true_and, and_true, Bool.not_true, Bool.not_false, Bool.and_true, Bool.true_and, Bool.and_self, reduceCtorEq, true_implies, false_implies, implies_true, decide_eq_true_eq, Option.map_some, fpOf, fpX, SOp.xs, oX, refs, refsL, dom, disj, List.all_nil, List.all_cons, List.contains_cons, List.contains_nil, Nat.reduceBEq, Bool.or_false, Bool.false_or, List.append_nil, Bool.not_false, Bool.not_true, List.forall_mem_cons, fm0, List.set, Nat.reduceLT, ne_eq, not_false_eq_true, not_true_eq_false
, ret1, ret1N, keep0, keep1, rf_int, rf_bool, rf_str, rf_sl, rf_agg, rf_tup, rfL0, rfL1, re_t, re_cN, re_L0, re_L1, ret_tup, ret_one, decide_true, AV.bool.injEq, AV.int.injEq, Nat.reduceLeDiff, Bool.true_eq, Bool.false_eq, decide_eq_true_eq, decide_eq_false_iff_not, t_sPathOk, t_l21In, t_l23Low, t_l23High, t_l23Most, toNat_pred, irow, List.length_map, un_stp, path_eta, flatOk, noref, ghost, Int.toNat_natCast, Nat.zero_add, Nat.sub_zero]
  have hn := h1.2.1
  have lo := fun j (h : j ≤ p.l.length) => hc.lo j h
  have hi := fun j (h : j ≤ p.l.length) => hc.hi j h
  have nx : ∀ (h : p.step f k), ∀ j, j < k + 1 → p.step f j := fun h j hj => by
    by_cases e : j = k
    · rw [e]; exact h
    · exact hs j (by omega)
  refine ⟨fun h3 => ⟨by omega, by omega, by omega, by omega, fun h4 => ⟨fun h5 => ?_, fun h5 => ⟨by omega, loopK_of (k + 1) ⟨⟨.inr rfl, .inr rfl, .inr rfl, trivial⟩, ⟨rfl, trivial⟩, rfl, rfl⟩ ⟨by omega, nx ⟨h4, fun h => by omega⟩⟩ (by omega)⟩⟩, fun h4 h => h4 (h.2.2 k (by omega)).1⟩, fun h3 => ⟨h1, hl, fun j hj => hs j (by omega)⟩⟩
  have b1 := (hs (k - 1) (by omega)).1
  have b2 := lo (k - 1) (by omega)
  have b3 := hi (k - 1) (by omega)
  have b4 := lo k (by omega)
  have b5 := hi k (by omega)
  exact ⟨by omega, by omega, by omega, by omega, by omega, by omega, by omega, by omega, fun h6 => ⟨by omega, loopK_of (k + 1) ⟨⟨.inr rfl, .inr rfl, .inr rfl, trivial⟩, ⟨rfl, trivial⟩, rfl, rfl⟩ ⟨by omega, nx ⟨h4, fun _ => h6⟩⟩ (by omega)⟩, fun h6 h => h6 ((h.2.2 k (by omega)).2 (by omega))⟩
end Go.Ve

namespace Go.Ve
open Go.Proofs
set_option linter.unusedSimpArgs false
set_option linter.unusedVariables false
set_option maxRecDepth 100000
set_option maxHeartbeats 4000000
def r_late : RTab
  | [.agg [.int .i64 q, .int .i64 s, .sl 0 7 xs, .int .i64 f, .int .i64 b]], M => some ⟨(xs.map unStp).map Stp7.row = xs ∧ (xs.map unStp).length ≤ 1048576, fun a : Path5 => a.l.length ≤ (xs.map unStp).length, fun a => a.av, fun _ => []⟩
  | _, _ => none
theorem h_late : okTab P 103 r_late := by
  intro args M o h hp
  unfold r_late at h
  split at h
  · rename_i q s xs f b
    cases h
    obtain ⟨h1, h2⟩ := hp
    obtain ⟨a, ha, hC⟩ := c_late ⟨q, s, xs.map unStp, f, b⟩ h2
    simp only [Path5.av, h1] at hC
    exact ⟨a, ha, callR_look (by simp only [purL, pur, Option.map_some]) hC rfl (no99_av _)⟩
  · cases h
def t_lawful : List AV → Option (Prop × AV)
  | [.agg [.int .i64 q, .int .i64 s, .sl _ 7 xs, .int .i64 f, .int .i64 b], .sl _ 1 ys] => some ((xs.map unStp).map Stp7.row = xs ∧ (ys.map unI).map irow = ys, .bool (decide (Path5.lawful ⟨q, s, xs.map unStp, f, b⟩ (ys.map unI))))
  | _ => none
abbrev t_sLawful := t_lawful
theorem h_sLawful : ∀ args p v, t_lawful args = some (p, v) → p → Contract P 14 args [] v [] ∧ noref v = true ∧ No99 v := by
  intro args p v h1 h2
  unfold t_lawful at h1
  split at h1
  · rename_i q s t xs f b t' ys
    cases h1
    have := c_sLawful ⟨q, s, xs.map unStp, f, b⟩ t t' (ys.map unI)
    simp only [h2.1, h2.2] at this
    exact ⟨this, rfl, trivial⟩
  · cases h1
theorem c_any (cs : List Nat) (p : Int)  (hB : okB (cs.map brow)) (hp : 0 ≤ p ∧ p ≤ 1099511500000) (hc : True) : ∃ a : Path5 × Int, (a.1.l.length ≤ 100 ∧ p ≤ a.2 ∧ a.2 ≤ p + 4000) ∧ Contract P 50 [.ptr 3 0] [(3, rd cs p)] (a.1.av) [(3, rd cs (a.2))] := by
  refine fn_choose (((((Env.nil P).addR 52 r_pick h_pick).addR 99 r_lPath h_lPath).addR 98 r_spoil h_spoil).addR 103 r_late h_late) Go.Ve.hm k_spec_l30Any (Nat.le_of_ble_eq_true rfl) rfl (fun a : Path5 × Int => a.1.l.length ≤ 100 ∧ p ≤ a.2 ∧ a.2 ≤ p + 4000) (fun a => a.1.av) (fun a => [(3, rd cs (a.2))]) ?_
  unfold s_spec_l30Any
  have hR : ∀ {p lim : Int}, rdOk 0 1 1 (cs.map brow) p lim = (0 ≤ p ∧ p ≤ lim) := rdOk_of hB
  simp only [w_skip, w_rg, w_rgd, w_seq, w_cond, w_block, w_loop, w_exit, w_ret, w_gh, w_rg0, w_rg1, w_rgT, w_rgF, w_run, w_psd, w_und, w_dr0, w_dr1, w_drT, w_drF, w_drRun, w_drPsd, w_drUnd, w_drKn, w_drKs, w_putK, w_trimK, w_thenN, w_thenE, w_thenR, w_scope, w_label, w_blkN, w_blkE, w_blkR, w_call, w_effK, brU_true, brU_false, brU_u, brU_not, brU_and, brU_or, brU_dec, brU_eq, brU_ne, br_true, br_false, br_not, br_and, br_or, br_dec, br_eq, br_ne, w_getE0, w_getE1, w_setE0, w_setE1, w_dropE0, w_dropE1, w_drop0, w_drop1, w_getM0, w_getM1, w_setM0, w_setM1, ev_v, ev_c, w_putS, w_putN, w_lit, w_apU0, w_apU1, w_apU2, w_trim, enumE0, enumE1, w_callWp, w_callA0, w_callA1, w_R0, w_R1, w_R2, w_T2, w_callL, w_callT, w_T1, w_T0, o_mv, o_newnil, o_pick, o_bin, o_binN, o_neg, o_not, o_eqB, o_eqS, o_conv, o_alloc, o_box, o_load1, o_loadN, o_store, o_nilck, o_faddr, o_field1, o_fieldN, o_iaddr, o_istr, o_slStr, o_slSl, o_lenS, o_lenL, o_mx, o_mn, o_ext, o_build, o_lit, o_litOwn, o_app, o_mk, o_mvfrz, l_int, l_bool, l_str, l_agg, l_sl, l_own, l_ptr, l_pp, i_int, i_bool, i_str, i_sl, i_own, i_ptr, i_pp, all0, all1, e_ok1, eff, effBin, effBinN, ld_ptr, ld_pp, ld_elt, ia_own, ia_arr, el_1, el_N, load1K, faddrE, r_iaddr, sg_S, sg_c, sg_n, purL, pur, List.map, List.drop, List.take, List.length, List.foldl, List.append_eq, List.nil_append, List.cons_append, List.getD_cons_zero, List.getD_cons_succ, reduceIte, Nat.reduceEqDiff, Nat.reduceAdd, Nat.reduceLeDiff, true_and, and_true, Bool.not_true, Bool.not_false, Bool.and_true, Bool.true_and, Bool.and_self, reduceCtorEq, true_implies, false_implies, implies_true, decide_eq_true_eq, Option.map_some, fpOf, fpX, SOp.xs, oX, refs, refsL, dom, disj, List.all_nil, List.all_cons, List.contains_cons, List.contains_nil, Nat.reduceBEq, Bool.or_false, Bool.false_or, List.append_nil, Bool.not_false, Bool.not_true, List.forall_mem_cons, fm0, List.set, Nat.reduceLT, ne_eq, not_false_eq_true, not_true_eq_false
, ret1, ret1N, keep0, keep1, rf_int, rf_bool, rf_str, rf_sl, rf_agg, rf_tup, rfL0, rfL1, re_t, re_cN, re_L0, re_L1, ret_tup, ret_one, decide_true, AV.bool.injEq, AV.int.injEq, Nat.reduceLeDiff, Bool.true_eq, Bool.false_eq, decide_eq_true_eq, decide_eq_false_iff_not, hR, re_tup, or_t, List.length_map, rd, brow, retG_ret, ghost, retQ_eq, retOk, wkM, refsInO, keepB, Int.toNat_natCast, noref, flatOk, r_pick, r_lPath, r_spoil, r_late, Path5.av, retG_ret, ghost, retQ_eq, retOk, wkM, refsInO, keepB, re_tup, or_t, Int.toNat_natCast, noref, flatOk, List.length_map, Stp7.row, irow, un_stp, un_i, set_f, set_b, List.length_set, take_all, path_eta, true_and, rowsOf, appE]
  have fin : ∀ (b : Path5) (p' : Int), b.l.length ≤ 100 → (p ≤ p' ∧ p' ≤ p + 4000) → ∃ a : Path5 × Int, (a.1.l.length ≤ 100 ∧ p ≤ a.2 ∧ a.2 ≤ p + 4000) ∧ AV.agg [.int .i64 a.1.q, .int .i64 a.1.s, .sl 0 7 (a.1.l.map Stp7.row), .int .i64 a.1.f, .int .i64 a.1.b] = AV.agg [.int .i64 b.q, .int .i64 b.s, .sl 0 7 (b.l.map Stp7.row), .int .i64 b.f, .int .i64 b.b] ∧ some (AObj.box [.sl 1 1 (cs.map brow), .int .i64 p']) = some (.box [.sl 1 1 (cs.map brow), .int .i64 a.2]) :=
    fun b p' h1 h2 => ⟨(b, p'), ⟨h1, h2.1, h2.2⟩, rfl, rfl⟩
  repeat' (first | intro _ | apply And.intro | omega | (exact fin _ _ (by omega) (by omega)))
def r_any : RTab
  | [.ptr o off], M => match M o with
    | some (.box [.sl t sz B, .int .i64 p]) => some ⟨rdOk off t sz B p 1099511500000 ∧ True, fun a : Path5 × Int => a.1.l.length ≤ 100 ∧ p ≤ a.2 ∧ a.2 ≤ p + 4000, fun a => a.1.av, fun a => [(o, .box [.sl t sz B, .int .i64 (a.2)])]⟩
    | _ => none
  | _, _ => none
theorem h_any : okTab P 50 r_any := by
  intro args M o h hp
  unfold r_any at h
  split at h
  · split at h
    · rename_i hM
      cases h
      obtain ⟨⟨rfl, rfl, rfl, ⟨cs, rfl, h1, h2⟩, h3, h4⟩, hc⟩ := hp
      obtain ⟨x, hx, hC⟩ := c_any cs _  ⟨cs, rfl, h1, h2⟩ ⟨h3, h4⟩ hc
      exact ⟨x, hx, callR_rd _ hC rfl rfl hM⟩
    · cases h
  · cases h
theorem c_open (cs : List Nat) (hl : cs.length ≤ 9223372036854775807) : Contract P 49 [.sl 1 1 (cs.map brow)] [] (.ptr 110 0) [(110, rd (cs.take 2000) 0)] := by
  refine fn_sound (Env.nil P) Go.Ve.hm k_spec_l21Open (Nat.le_of_ble_eq_true rfl) rfl ?_
  unfold s_spec_l21Open
  simp only [w_skip, w_rg, w_rgd, w_seq, w_cond, w_block, w_loop, w_exit, w_ret, w_gh, w_rg0, w_rg1, w_rgT, w_rgF, w_run, w_psd, w_und, w_dr0, w_dr1, w_drT, w_drF, w_drRun, w_drPsd, w_drUnd, w_drKn, w_drKs, w_putK, w_trimK, w_thenN, w_thenE, w_thenR, w_scope, w_label, w_blkN, w_blkE, w_blkR, w_call, w_effK, brU_true, brU_false, brU_u, brU_not, brU_and, brU_or, brU_dec, brU_eq, brU_ne, br_true, br_false, br_not, br_and, br_or, br_dec, br_eq, br_ne, w_getE0, w_getE1, w_setE0, w_setE1, w_dropE0, w_dropE1, w_drop0, w_drop1, w_getM0, w_getM1, w_setM0, w_setM1, ev_v, ev_c, w_putS, w_putN, w_lit, w_apU0, w_apU1, w_apU2, w_trim, enumE0, enumE1, w_callWp, w_callA0, w_callA1, w_R0, w_R1, w_R2, w_T2, w_callL, w_callT, w_T1, w_T0, o_mv, o_newnil, o_pick, o_bin, o_binN, o_neg, o_not, o_eqB, o_eqS, o_conv, o_alloc, o_box, o_load1, o_loadN, o_store, o_nilck, o_faddr, o_field1, o_fieldN, o_iaddr, o_istr, o_slStr, o_slSl, o_lenS, o_lenL, o_mx, o_mn, o_ext, o_build, o_lit, o_litOwn, o_app, o_mk, o_mvfrz, l_int, l_bool, l_str, l_agg, l_sl, l_own, l_ptr, l_pp, i_int, i_bool, i_str, i_sl, i_own, i_ptr, i_pp, all0, all1, e_ok1, eff, effBin, effBinN, ld_ptr, ld_pp, ld_elt, ia_own, ia_arr, el_1, el_N, load1K, faddrE, r_iaddr, sg_S, sg_c, sg_n, purL, pur, List.map, List.drop, List.take, List.length, List.foldl, List.append_eq, List.nil_append, List.cons_append, List.getD_cons_zero, List.getD_cons_succ, reduceIte, Nat.reduceEqDiff, Nat.reduceAdd, Nat.reduceLeDiff, true_and, and_true, Bool.not_true, Bool.not_false, Bool.and_true, Bool.true_and, Bool.and_self, reduceCtorEq, true_implies, false_implies, implies_true, decide_eq_true_eq, Option.map_some, fpOf, fpX, SOp.xs, oX, refs, refsL, dom, disj, List.all_nil, List.all_cons, List.contains_cons, List.contains_nil, Nat.reduceBEq, Bool.or_false, Bool.false_or, List.append_nil, Bool.not_false, Bool.not_true, List.forall_mem_cons, fm0, List.set, Nat.reduceLT, ne_eq, not_false_eq_true, not_true_eq_false
, ret1, ret1N, keep0, keep1, rf_int, rf_bool, rf_str, rf_sl, rf_agg, rf_tup, rfL0, rfL1, re_t, re_cN, re_L0, re_L1, ret_tup, ret_one, decide_true, AV.bool.injEq, AV.int.injEq, Nat.reduceLeDiff, Bool.true_eq, Bool.false_eq, decide_eq_true_eq, decide_eq_false_iff_not, List.length_map, rd, brow, ghost, optI, take_all, Int.toNat_natCast, rowsOf, retQ_eq, retOk, wkM, refsInO, keepB]
  exact ⟨fun h => ⟨by omega, by rw [Int.toNat_zero, List.drop_zero, List.map_take]; rfl, rfl, rfl⟩, fun h => ⟨by rw [List.take_of_length_le (by omega)], rfl, rfl⟩⟩
def r_open : RTab
  | [.sl 1 1 B], M => some ⟨M 191 = none ∧ ∃ cs : List Nat, B = cs.map brow ∧ cs.length ≤ 9223372036854775807, fun _ : Unit => True, fun _ => .ptr 191 0, fun _ => [(191, .box [.sl 1 1 (B.take 2000), .int .i64 0])]⟩
  | _, _ => none
theorem h_open : okTab P 49 r_open := by
  intro args M o h hp
  unfold r_open at h
  split at h
  · cases h
    obtain ⟨h1, cs, rfl, h2⟩ := hp
    have hC := (c_open cs h2).ren (swp 110 191) (swp_swp 110 191)
    simp only [renL, ren, renM, renO, swp, reduceIte, rd, List.map_take] at hC
    refine ⟨(), trivial, .inl ⟨[], hC, by simp, fun p hp => .inr ?_, rfl, rfl, rfl, rfl, rfl⟩⟩
    simp only [List.mem_singleton] at hp
    rw [hp]; exact h1
  · cases h
structure AskS where
  i : Int
  m : Nat
  l : List Int
  p : Int
theorem snoc_i {l : List Int} {x : Int} : l.map irow ++ [[.int .i64 x]] = (l ++ [x]).map irow := by simp [irow]
def F_asked (cs : List Nat) (p0 : Path5) (b : Bool) (a : AskS) : St := ⟨[(0, .ptr 3 0), (5, .own 146 a.m 0 a.m), (6, .sl 0 2 (p0.fitS.map Span2.row)), (7, .bool b), (8, .int .i64 a.i)], [(3, rd cs a.p), (146, .arr 3 a.m 1 (a.l.map irow))]⟩
theorem fitS_len (p : Path5) : p.fitS.length ≤ p.l.length + 1 := by
  unfold Path5.fitS Path5.spans
  split
  · split <;> simp
  · simp
theorem c_asked (cs : List Nat) (p : Int) (p0 : Path5) (hB : okB (cs.map brow)) (hp : 0 ≤ p ∧ p ≤ 1099511500000) (hc : p0.l.length ≤ 100) : ∃ a : List Int × Int, (a.1.length ≤ 101 ∧ p ≤ a.2 ∧ a.2 ≤ p + 200) ∧ Contract P 51 [.ptr 3 0, p0.av] [(3, rd cs p)] (.sl 0 1 (a.1.map irow)) [(3, rd cs (a.2))] := by
  refine fn_choose (((Env.nil P).addR 52 r_pick h_pick).add 11 t_sFit h_sFit) Go.Ve.hm k_spec_l30Asked (Nat.le_of_ble_eq_true rfl) rfl (fun a : List Int × Int => a.1.length ≤ 101 ∧ p ≤ a.2 ∧ a.2 ≤ p + 200) (fun a => .sl 0 1 (a.1.map irow)) (fun a => [(3, rd cs (a.2))]) ?_
  unfold s_spec_l30Asked
  have hR : ∀ {p lim : Int}, rdOk 0 1 1 (cs.map brow) p lim = (0 ≤ p ∧ p ≤ lim) := rdOk_of hB
  have hav : p0.av = .agg [.int .i64 p0.q, .int .i64 p0.s, .sl 0 7 (p0.l.map Stp7.row), .int .i64 p0.f, .int .i64 p0.b] := rfl
  rw [hav]
  simp only [w_skip, w_rg, w_rgd, w_seq, w_cond, w_block, w_loop, w_exit, w_ret, w_gh, w_rg0, w_rg1, w_rgT, w_rgF, w_run, w_psd, w_und, w_dr0, w_dr1, w_drT, w_drF, w_drRun, w_drPsd, w_drUnd, w_drKn, w_drKs, w_putK, w_trimK, w_thenN, w_thenE, w_thenR, w_scope, w_label, w_blkN, w_blkE, w_blkR, w_call, w_effK, brU_true, brU_false, brU_u, brU_not, brU_and, brU_or, brU_dec, brU_eq, brU_ne, br_true, br_false, br_not, br_and, br_or, br_dec, br_eq, br_ne, w_getE0, w_getE1, w_setE0, w_setE1, w_dropE0, w_dropE1, w_drop0, w_drop1, w_getM0, w_getM1, w_setM0, w_setM1, ev_v, ev_c, w_putS, w_putN, w_lit, w_apU0, w_apU1, w_apU2, w_trim, enumE0, enumE1, w_callWp, w_callA0, w_callA1, w_R0, w_R1, w_R2, w_T2, w_callL, w_callT, w_T1, w_T0, o_mv, o_newnil, o_pick, o_bin, o_binN, o_neg, o_not, o_eqB, o_eqS, o_conv, o_alloc, o_box, o_load1, o_loadN, o_store, o_nilck, o_faddr, o_field1, o_fieldN, o_iaddr, o_istr, o_slStr, o_slSl, o_lenS, o_lenL, o_mx, o_mn, o_ext, o_build, o_lit, o_litOwn, o_app, o_mk, o_mvfrz, l_int, l_bool, l_str, l_agg, l_sl, l_own, l_ptr, l_pp, i_int, i_bool, i_str, i_sl, i_own, i_ptr, i_pp, all0, all1, e_ok1, eff, effBin, effBinN, ld_ptr, ld_pp, ld_elt, ia_own, ia_arr, el_1, el_N, load1K, faddrE, r_iaddr, sg_S, sg_c, sg_n, purL, pur, List.map, List.drop, List.take, List.length, List.foldl, List.append_eq, List.nil_append, List.cons_append, List.getD_cons_zero, List.getD_cons_succ, reduceIte, Nat.reduceEqDiff, Nat.reduceAdd, Nat.reduceLeDiff, true_and, and_true, Bool.not_true, Bool.not_false, Bool.and_true, Bool.true_and, Bool.and_self, reduceCtorEq, true_implies, false_implies, implies_true, decide_eq_true_eq, Option.map_some, fpOf, fpX, SOp.xs, oX, refs, refsL, dom, disj, List.all_nil, List.all_cons, List.contains_cons, List.contains_nil, Nat.reduceBEq, Bool.or_false, Bool.false_or, List.append_nil, Bool.not_false, Bool.not_true, List.forall_mem_cons, fm0, List.set, Nat.reduceLT, ne_eq, not_false_eq_true, not_true_eq_false
, ret1, ret1N, keep0, keep1, rf_int, rf_bool, rf_str, rf_sl, rf_agg, rf_tup, rfL0, rfL1, re_t, re_cN, re_L0, re_L1, ret_tup, ret_one, decide_true, AV.bool.injEq, AV.int.injEq, Nat.reduceLeDiff, Bool.true_eq, Bool.false_eq, decide_eq_true_eq, decide_eq_false_iff_not, t_sFit, hR, re_tup, or_t, List.length_map, rd, brow, retG_ret, ghost, retQ_eq, retOk, wkM, refsInO, keepB, Int.toNat_natCast, noref, flatOk, Path5.av, retG_ret, ghost, retQ_eq, retOk, wkM, refsInO, keepB, re_tup, or_t, Int.toNat_natCast, noref, flatOk, List.length_map, Stp7.row, irow, un_stp, un_i, set_f, set_b, List.length_set, take_all, path_eta, true_and, rowsOf, appE, r_pick, t_fit, Span2.row, snoc_i]
  have hfl := fitS_len p0
  refine loop_of (F_asked cs p0 (decide p0.fit)) (fun a => (0 ≤ a.i ∧ a.i ≤ p0.fitS.length) ∧ ((a.m : Int) = a.i ∧ a.l.length = a.m) ∧ p ≤ a.p ∧ a.p ≤ p + a.i) (fun a => (p0.fitS.length - a.i).toNat) ⟨0, 0, [], p⟩ ⟨⟨.inr rfl, .inr rfl, .inr rfl, .inr rfl, .inr rfl, trivial⟩, ⟨rfl, rfl, trivial⟩, rfl, rfl⟩ ⟨⟨Int.le_refl _, by simp only; omega⟩, ⟨rfl, rfl⟩, Int.le_refl _, by simp only; omega⟩ ?_
  rintro ⟨i, m, l, q⟩ ⟨hi, ⟨hm, hl⟩, hq⟩
  simp only at hi hm hl hq
  have hw1 : IntKind.i64.wrap (i + 1) = i + 1 := wrap_succ (by omega)
  have htk : List.take m (l.map irow) = l.map irow := List.take_of_length_le (by rw [List.length_map]; omega)
  unfold l_spec_l30Asked_0 F_asked
  simp only [w_skip, w_rg, w_rgd, w_seq, w_cond, w_block, w_loop, w_exit, w_ret, w_gh, w_rg0, w_rg1, w_rgT, w_rgF, w_run, w_psd, w_und, w_dr0, w_dr1, w_drT, w_drF, w_drRun, w_drPsd, w_drUnd, w_drKn, w_drKs, w_putK, w_trimK, w_thenN, w_thenE, w_thenR, w_scope, w_label, w_blkN, w_blkE, w_blkR, w_call, w_effK, brU_true, brU_false, brU_u, brU_not, brU_and, brU_or, brU_dec, brU_eq, brU_ne, br_true, br_false, br_not, br_and, br_or, br_dec, br_eq, br_ne, w_getE0, w_getE1, w_setE0, w_setE1, w_dropE0, w_dropE1, w_drop0, w_drop1, w_getM0, w_getM1, w_setM0, w_setM1, ev_v, ev_c, w_putS, w_putN, w_lit, w_apU0, w_apU1, w_apU2, w_trim, enumE0, enumE1, w_callWp, w_callA0, w_callA1, w_R0, w_R1, w_R2, w_T2, w_callL, w_callT, w_T1, w_T0, o_mv, o_newnil, o_pick, o_bin, o_binN, o_neg, o_not, o_eqB, o_eqS, o_conv, o_alloc, o_box, o_load1, o_loadN, o_store, o_nilck, o_faddr, o_field1, o_fieldN, o_iaddr, o_istr, o_slStr, o_slSl, o_lenS, o_lenL, o_mx, o_mn, o_ext, o_build, o_lit, o_litOwn, o_app, o_mk, o_mvfrz, l_int, l_bool, l_str, l_agg, l_sl, l_own, l_ptr, l_pp, i_int, i_bool, i_str, i_sl, i_own, i_ptr, i_pp, all0, all1, e_ok1, eff, effBin, effBinN, ld_ptr, ld_pp, ld_elt, ia_own, ia_arr, el_1, el_N, load1K, faddrE, r_iaddr, sg_S, sg_c, sg_n, purL, pur, List.map, List.drop, List.take, List.length, List.foldl, List.append_eq, List.nil_append, List.cons_append, List.getD_cons_zero, List.getD_cons_succ, reduceIte, Nat.reduceEqDiff, Nat.reduceAdd, Nat.reduceLeDiff, true_and, and_true, Bool.not_true, Bool.not_false, Bool.and_true, Bool.true_and, Bool.and_self, reduceCtorEq, true_implies, false_implies, implies_true, decide_eq_true_eq, Option.map_some, fpOf, fpX, SOp.xs, oX, refs, refsL, dom, disj, List.all_nil, List.all_cons, List.contains_cons, List.contains_nil, Nat.reduceBEq, Bool.or_false, Bool.false_or, List.append_nil, Bool.not_false, Bool.not_true, List.forall_mem_cons, fm0, List.set, Nat.reduceLT, ne_eq, not_false_eq_true, not_true_eq_false
, ret1, ret1N, keep0, keep1, rf_int, rf_bool, rf_str, rf_sl, rf_agg, rf_tup, rfL0, rfL1, re_t, re_cN, re_L0, re_L1, ret_tup, ret_one, decide_true, AV.bool.injEq, AV.int.injEq, Nat.reduceLeDiff, Bool.true_eq, Bool.false_eq, decide_eq_true_eq, decide_eq_false_iff_not, t_sFit, hR, re_tup, or_t, List.length_map, rd, brow, retG_ret, ghost, retQ_eq, retOk, wkM, refsInO, keepB, Int.toNat_natCast, noref, flatOk, Path5.av, retG_ret, ghost, retQ_eq, retOk, wkM, refsInO, keepB, re_tup, or_t, Int.toNat_natCast, noref, flatOk, List.length_map, Stp7.row, irow, un_stp, un_i, set_f, set_b, List.length_set, take_all, path_eta, true_and, rowsOf, appE, r_pick, t_fit, Span2.row, snoc_i]
  simp only [hw1, htk, snoc_i]
  have fin : ∃ a : List Int × Int, (a.1.length ≤ 101 ∧ p ≤ a.2 ∧ a.2 ≤ p + 200) ∧ AV.sl 0 1 (l.map irow) = AV.sl 0 1 (a.1.map irow) ∧ some (AObj.box [.sl 1 1 (cs.map brow), .int .i64 q]) = some (.box [.sl 1 1 (cs.map brow), .int .i64 a.2]) :=
    ⟨(l, q), ⟨by simp only; omega, by simp only; omega, by simp only; omega⟩, rfl, rfl⟩
  refine ⟨fun h1 => ⟨fun h2 => ⟨by omega, by omega, by omega, by omega, by omega, by omega, by omega, fun a ha => ⟨by omega, ?_⟩⟩, fun _ => fin⟩, fun _ => fin⟩
  exact loopK_of (⟨i + 1, m + 1, l ++ [_], _⟩ : AskS) ⟨⟨.inr rfl, .inr rfl, .inr rfl, .inr rfl, .inr rfl, trivial⟩, ⟨rfl, rfl, trivial⟩, rfl, rfl⟩ ⟨⟨by simp only; omega, by simp only; omega⟩, ⟨by simp only; omega, by simp only [List.length_append, List.length_cons, List.length_nil]; omega⟩, by simp only; omega, by simp only; omega⟩ (by simp only; omega)
def r_asked : RTab
  | [.ptr o off, .agg [.int .i64 q, .int .i64 s, .sl 0 7 xs, .int .i64 f, .int .i64 b]], M => match M o with
    | some (.box [.sl t sz B, .int .i64 p]) => some ⟨rdOk off t sz B p 1099511500000 ∧ (xs.map unStp).map Stp7.row = xs ∧ ((xs.map unStp).length ≤ 100), fun a : List Int × Int => a.1.length ≤ 101 ∧ p ≤ a.2 ∧ a.2 ≤ p + 200, fun a => .sl 0 1 (a.1.map irow), fun a => [(o, .box [.sl t sz B, .int .i64 (a.2)])]⟩
    | _ => none
  | _, _ => none
theorem h_asked : okTab P 51 r_asked := by
  intro args M o h hp
  unfold r_asked at h
  split at h
  · rename_i o' off q s xs f b
    split at h
    · rename_i hM
      cases h
      obtain ⟨⟨rfl, rfl, rfl, ⟨cs, rfl, h1, h2⟩, h3, h4⟩, h5, hc⟩ := hp
      obtain ⟨x, hx, hC⟩ := c_asked cs _ ⟨q, s, xs.map unStp, f, b⟩ ⟨cs, rfl, h1, h2⟩ ⟨h3, h4⟩ hc
      simp only [Path5.av, h5] at hC
      exact ⟨x, hx, callR_rd _ hC rfl rfl hM⟩
    · cases h
  · cases h
end Go.Ve

namespace Go.Ve
open Go.Proofs
set_option linter.unusedSimpArgs false
set_option linter.unusedVariables false
set_option maxRecDepth 100000
set_option maxHeartbeats 4000000
/-- The flight that keeps nearest to what is asked for. -/
def Path5.tick (p : Path5) (asked l : List Int) : Int := if l.length < asked.length then min (max (p.next l).lo (asked.getD l.length default)) (p.next l).hi else (p.next l).lo
def Path5.goL (p : Path5) (asked : List Int) : Nat → Option (List Int)
  | 0 => some []
  | n + 1 => (p.goL asked n).bind fun l => if p.begun l then some (l ++ [p.tick asked l]) else none
def Path5.go (p : Path5) (asked : List Int) : Option (List Int) := (p.goL asked (p.l.length + 1)).bind fun l => if p.lawful l then some l else none
theorem goL_len {p : Path5} {asked : List Int} : ∀ {n : Nat} {l : List Int}, p.goL asked n = some l → l.length = n
  | 0, l, h => by simp only [Path5.goL, Option.some.injEq] at h; subst h; rfl
  | n + 1, l, h => by
    simp only [Path5.goL, Option.bind_eq_some_iff] at h
    obtain ⟨l', h1, h2⟩ := h
    split at h2
    · cases h2; simp [goL_len h1]
    · cases h2
theorem goL_none {p : Path5} {asked : List Int} {n : Nat} (h : p.goL asked n = none) : ∀ m, n ≤ m → p.goL asked m = none := by
  intro m hm
  induction m with
  | zero => have : n = 0 := by omega
            rw [this] at h; exact h
  | succ m ih =>
    by_cases e : n = m + 1
    · rw [← e]; exact h
    · simp only [Path5.goL, ih (by omega), Option.bind_none]
theorem go_none {p : Path5} {asked : List Int} {n : Nat} (h : p.goL asked n = none) (hn : n ≤ p.l.length + 1) : p.go asked = none := by
  unfold Path5.go; rw [goL_none h _ hn]; rfl
theorem goL_step {p : Path5} {asked l : List Int} {n : Nat} (h : p.goL asked n = some l) : p.goL asked (n + 1) = if p.begun l then some (l ++ [p.tick asked l]) else none := by simp only [Path5.goL, h, Option.bind_some]
theorem go_end {p : Path5} {asked l : List Int} (h : p.goL asked (p.l.length + 1) = some l) : p.go asked = if p.lawful l then some l else none := by unfold Path5.go; rw [h]; rfl
theorem go_some {p : Path5} {asked l : List Int} (h : p.go asked = some l) : p.lawful l := by
  unfold Path5.go at h
  simp only [Option.bind_eq_some_iff] at h
  obtain ⟨l', _, h2⟩ := h
  split at h2
  · rename_i h3; cases h2; exact h3
  · cases h2
theorem go_bad {p : Path5} {asked : List Int} (h : ¬ pathOk p.q p.s p.l p.f p.b) : p.go asked = none := by
  cases hg : p.go asked with
  | none => rfl
  | some l => exact absurd (go_some hg).1 h
theorem no99_i (l : List Int) : No99LL (l.map irow) := by
  induction l with
  | nil => trivial
  | cons x l ih => exact ⟨⟨trivial, trivial⟩, ih⟩
structure GoR where
  o : Nat
  v : Nat
  l : List Int
  ok : Bool
structure GoS where
  i : Int
  m : Nat
  l : List Int
def F_go (p : Path5) (t t' : Nat) (asked : List Int) (a : GoS) : St := ⟨[(2, .sl t' 1 (asked.map irow)), (3, .ptr 103 0), (8, .own 165 (1 + a.m) 0 a.m), (9, .int .i64 a.i)], [(103, .box [.int .i64 p.q, .int .i64 p.s, .sl t 7 (p.l.map Stp7.row), .int .i64 p.f, .int .i64 p.b]), (165, .arr 3 (1 + a.m) 1 (a.l.map irow))]⟩
theorem c_sGo (p : Path5) (t t' t2 : Nat) (asked : List Int) (hn : p.l.length ≤ 100) (ha : asked.length ≤ 4294967296) : ∃ a : GoR, (a.l = (p.go asked).getD [] ∧ (a.ok = true ↔ (p.go asked).isSome = true) ∧ 100 ≤ a.o) ∧ Contract P 29 [.agg [.int .i64 p.q, .int .i64 p.s, .sl t 7 (p.l.map Stp7.row), .int .i64 p.f, .int .i64 p.b], .sl t2 1 [], .sl t' 1 (asked.map irow)] [] (.tup [.own a.o a.v 0 a.l.length, .bool (decide (a.ok = true))]) [(a.o, .arr 3 a.v 1 (a.l.map irow))] := by
  refine fn_choose ((((((Env.nil P).add 33 t_sPathOk h_sPathOk).add 82 t_sNext h_sNext).add 14 t_sLawful h_sLawful).add 84 t_l21Max h_l21Max).add 83 t_l21Min h_l21Min) Go.Ve.hm k_spec_FlyGo (Nat.le_of_ble_eq_true rfl) rfl (fun a : GoR => a.l = (p.go asked).getD [] ∧ (a.ok = true ↔ (p.go asked).isSome = true) ∧ 100 ≤ a.o) (fun a => .tup [.own a.o a.v 0 a.l.length, .bool (decide (a.ok = true))]) (fun a => [(a.o, .arr 3 a.v 1 (a.l.map irow))]) ?_
  unfold s_spec_FlyGo
  simp only [w_skip, w_rg, w_rgd, w_seq, w_cond, w_block, w_loop, w_exit, w_ret, w_gh, w_rg0, w_rg1, w_rgT, w_rgF, w_run, w_psd, w_und, w_dr0, w_dr1, w_drT, w_drF, w_drRun, w_drPsd, w_drUnd, w_drKn, w_drKs, w_putK, w_trimK, w_thenN, w_thenE, w_thenR, w_scope, w_label, w_blkN, w_blkE, w_blkR, w_call, w_effK, brU_true, brU_false, brU_u, brU_not, brU_and, brU_or, brU_dec, brU_eq, brU_ne, br_true, br_false, br_not, br_and, br_or, br_dec, br_eq, br_ne, w_getE0, w_getE1, w_setE0, w_setE1, w_dropE0, w_dropE1, w_drop0, w_drop1, w_getM0, w_getM1, w_setM0, w_setM1, ev_v, ev_c, w_putS, w_putN, w_lit, w_apU0, w_apU1, w_apU2, w_trim, enumE0, enumE1, w_callWp, w_callA0, w_callA1, w_R0, w_R1, w_R2, w_T2, w_callL, w_callT, w_T1, w_T0, o_mv, o_newnil, o_pick, o_bin, o_binN, o_neg, o_not, o_eqB, o_eqS, o_conv, o_alloc, o_box, o_load1, o_loadN, o_store, o_nilck, o_faddr, o_field1, o_fieldN, o_iaddr, o_istr, o_slStr, o_slSl, o_lenS, o_lenL, o_mx, o_mn, o_ext, o_build, o_lit, o_litOwn, o_app, o_mk, o_mvfrz, l_int, l_bool, l_str, l_agg, l_sl, l_own, l_ptr, l_pp, i_int, i_bool, i_str, i_sl, i_own, i_ptr, i_pp, all0, all1, e_ok1, eff, effBin, effBinN, ld_ptr, ld_pp, ld_elt, ia_own, ia_arr, el_1, el_N, load1K, faddrE, r_iaddr, sg_S, sg_c, sg_n, purL, pur, List.map, List.drop, List.take, List.length, List.foldl, List.append_eq, List.nil_append, List.cons_append, List.getD_cons_zero, List.getD_cons_succ, reduceIte, Nat.reduceEqDiff, Nat.reduceAdd, Nat.reduceLeDiff, true_and, and_true, Bool.not_true, Bool.not_false, Bool.and_true, Bool.true_and, Bool.and_self, reduceCtorEq, true_implies, false_implies, implies_true, decide_eq_true_eq, Option.map_some, fpOf, fpX, SOp.xs, oX, refs, refsL, dom, disj, List.all_nil, List.all_cons, List.contains_cons, List.contains_nil, Nat.reduceBEq, Bool.or_false, Bool.false_or, List.append_nil, Bool.not_false, Bool.not_true, List.forall_mem_cons, fm0, List.set, Nat.reduceLT, ne_eq, not_false_eq_true, not_true_eq_false
, ret1, ret1N, keep0, keep1, rf_int, rf_bool, rf_str, rf_sl, rf_agg, rf_tup, rfL0, rfL1, re_t, re_cN, re_L0, re_L1, ret_tup, ret_one, decide_true, AV.bool.injEq, AV.int.injEq, Nat.reduceLeDiff, Bool.true_eq, Bool.false_eq, decide_eq_true_eq, decide_eq_false_iff_not, t_sPathOk, t_sNext, t_sLawful, t_l21Max, t_l21Min, t_next, t_lawful, Span2.row, snoc_i, Path5.av, retG_ret, ghost, retQ_eq, retOk, wkM, refsInO, keepB, re_tup, or_t, Int.toNat_natCast, noref, flatOk, List.length_map, Stp7.row, irow, un_stp, un_i, set_f, set_b, List.length_set, take_all, path_eta, true_and, rowsOf, appE]
  refine ⟨fun h1 => ⟨by omega, fun h2 => absurd h2 (by omega), fun h2 => ?_⟩, fun h1 => ⟨⟨228, 0, [], false⟩, ⟨by rw [go_bad h1]; rfl, by rw [go_bad h1]; simp, by simp only; omega⟩, ⟨rfl, by simp⟩, rfl, rfl, rfl⟩⟩
  refine loop_of (F_go p t t' asked) (fun a => (a.i = a.m ∧ a.m ≤ p.l.length + 1) ∧ p.goL asked a.m = some a.l) (fun a => p.l.length + 1 - a.m) ⟨0, 0, []⟩ ⟨⟨.inr rfl, .inr rfl, .inr rfl, .inr rfl, trivial⟩, ⟨rfl, rfl, trivial⟩, rfl, rfl⟩ ⟨⟨rfl, Nat.zero_le _⟩, rfl⟩ ?_
  rintro ⟨i, m, l⟩ ⟨⟨hi, hm⟩, hg⟩
  simp only at hi hm hg
  subst hi
  have hl := goL_len hg
  have htk : List.take m (l.map irow) = l.map irow := List.take_of_length_le (by rw [List.length_map]; omega)
  unfold l_spec_FlyGo_0 F_go
  simp only [w_skip, w_rg, w_rgd, w_seq, w_cond, w_block, w_loop, w_exit, w_ret, w_gh, w_rg0, w_rg1, w_rgT, w_rgF, w_run, w_psd, w_und, w_dr0, w_dr1, w_drT, w_drF, w_drRun, w_drPsd, w_drUnd, w_drKn, w_drKs, w_putK, w_trimK, w_thenN, w_thenE, w_thenR, w_scope, w_label, w_blkN, w_blkE, w_blkR, w_call, w_effK, brU_true, brU_false, brU_u, brU_not, brU_and, brU_or, brU_dec, brU_eq, brU_ne, br_true, br_false, br_not, br_and, br_or, br_dec, br_eq, br_ne, w_getE0, w_getE1, w_setE0, w_setE1, w_dropE0, w_dropE1, w_drop0, w_drop1, w_getM0, w_getM1, w_setM0, w_setM1, ev_v, ev_c, w_putS, w_putN, w_lit, w_apU0, w_apU1, w_apU2, w_trim, enumE0, enumE1, w_callWp, w_callA0, w_callA1, w_R0, w_R1, w_R2, w_T2, w_callL, w_callT, w_T1, w_T0, o_mv, o_newnil, o_pick, o_bin, o_binN, o_neg, o_not, o_eqB, o_eqS, o_conv, o_alloc, o_box, o_load1, o_loadN, o_store, o_nilck, o_faddr, o_field1, o_fieldN, o_iaddr, o_istr, o_slStr, o_slSl, o_lenS, o_lenL, o_mx, o_mn, o_ext, o_build, o_lit, o_litOwn, o_app, o_mk, o_mvfrz, l_int, l_bool, l_str, l_agg, l_sl, l_own, l_ptr, l_pp, i_int, i_bool, i_str, i_sl, i_own, i_ptr, i_pp, all0, all1, e_ok1, eff, effBin, effBinN, ld_ptr, ld_pp, ld_elt, ia_own, ia_arr, el_1, el_N, load1K, faddrE, r_iaddr, sg_S, sg_c, sg_n, purL, pur, List.map, List.drop, List.take, List.length, List.foldl, List.append_eq, List.nil_append, List.cons_append, List.getD_cons_zero, List.getD_cons_succ, reduceIte, Nat.reduceEqDiff, Nat.reduceAdd, Nat.reduceLeDiff, true_and, and_true, Bool.not_true, Bool.not_false, Bool.and_true, Bool.true_and, Bool.and_self, reduceCtorEq, true_implies, false_implies, implies_true, decide_eq_true_eq, Option.map_some, fpOf, fpX, SOp.xs, oX, refs, refsL, dom, disj, List.all_nil, List.all_cons, List.contains_cons, List.contains_nil, Nat.reduceBEq, Bool.or_false, Bool.false_or, List.append_nil, Bool.not_false, Bool.not_true, List.forall_mem_cons, fm0, List.set, Nat.reduceLT, ne_eq, not_false_eq_true, not_true_eq_false
, ret1, ret1N, keep0, keep1, rf_int, rf_bool, rf_str, rf_sl, rf_agg, rf_tup, rfL0, rfL1, re_t, re_cN, re_L0, re_L1, ret_tup, ret_one, decide_true, AV.bool.injEq, AV.int.injEq, Nat.reduceLeDiff, Bool.true_eq, Bool.false_eq, decide_eq_true_eq, decide_eq_false_iff_not, t_sPathOk, t_sNext, t_sLawful, t_l21Max, t_l21Min, t_next, t_lawful, Span2.row, snoc_i, Path5.av, retG_ret, ghost, retQ_eq, retOk, wkM, refsInO, keepB, re_tup, or_t, Int.toNat_natCast, noref, flatOk, List.length_map, Stp7.row, irow, un_stp, un_i, set_f, set_b, List.length_set, take_all, path_eta, true_and, rowsOf, appE]
  simp only [htk, snoc_i, un_i, Nat.sub_zero]
  refine ⟨fun h1 => ⟨trivial, fun h2 => ⟨fun h3 => ⟨by omega, by omega, by omega, by omega, ?_⟩, fun h3 => ⟨by omega, by omega, ?_⟩⟩, fun h2 => ?_⟩, fun h1 => ?_⟩
  · refine loopK_of (⟨(m : Int) + 1, m + 1, l ++ [_]⟩ : GoS) ⟨⟨.inr rfl, .inr rfl, .inr rfl, .inr rfl, trivial⟩, ⟨rfl, rfl, trivial⟩, rfl, rfl⟩ ⟨⟨by simp only; omega, by simp only; omega⟩, ?_⟩ (by simp only; omega)
    simp only
    rw [goL_step hg, if_pos h2, Path5.tick, if_pos (by omega), hl]
  · refine loopK_of (⟨(m : Int) + 1, m + 1, l ++ [_]⟩ : GoS) ⟨⟨.inr rfl, .inr rfl, .inr rfl, .inr rfl, trivial⟩, ⟨rfl, rfl, trivial⟩, rfl, rfl⟩ ⟨⟨by simp only; omega, by simp only; omega⟩, ?_⟩ (by simp only; omega)
    simp only
    rw [goL_step hg, if_pos h2, Path5.tick, if_neg (by omega)]
  · have hgo : p.go asked = none := go_none (n := m + 1) (by rw [goL_step hg, if_neg h2]) (by omega)
    exact ⟨⟨245, 0, [], false⟩, ⟨by rw [hgo]; rfl, by rw [hgo]; simp, by simp only; omega⟩, ⟨rfl, by simp⟩, rfl, rfl, rfl⟩
  · have e : m = p.l.length + 1 := by omega
    have hgo : p.go asked = if p.lawful l then some l else none := go_end (by rw [← e]; exact hg)
    refine ⟨trivial, fun h2 => ?_, fun h2 => ?_⟩
    · rw [if_pos h2] at hgo
      refine ⟨⟨165, 1 + m, l, true⟩, ⟨by rw [hgo]; rfl, by rw [hgo]; simp, by simp only; omega⟩, ⟨by simp only [hl], rfl⟩, rfl, by simp [refsIn], rfl⟩
    · rw [if_neg h2] at hgo
      exact ⟨⟨270, 0, [], false⟩, ⟨by rw [hgo]; rfl, by rw [hgo]; simp, by simp only; omega⟩, ⟨rfl, by simp⟩, rfl, rfl, rfl⟩
def r_go : RTab
  | [.agg [.int .i64 q, .int .i64 s, .sl _ 7 xs, .int .i64 f, .int .i64 b], .sl _ 1 [], .sl _ 1 ys], M => some ⟨M 190 = none ∧ ((xs.map unStp).map Stp7.row = xs ∧ (ys.map unI).map irow = ys) ∧ (xs.map unStp).length ≤ 100 ∧ (ys.map unI).length ≤ 4294967296, fun _ : Nat => True,
      fun v => .tup [.own 190 v 0 (((Path5.mk q s (xs.map unStp) f b).go (ys.map unI)).getD []).length, .bool (decide (((Path5.mk q s (xs.map unStp) f b).go (ys.map unI)).isSome = true))], fun v => [(190, .arr 3 v 1 ((((Path5.mk q s (xs.map unStp) f b).go (ys.map unI)).getD []).map irow))]⟩
  | _, _ => none
theorem h_go : okTab P 29 r_go := by
  intro args M o h hp
  unfold r_go at h
  split at h
  · rename_i q s t xs f b t2 t' ys
    cases h
    obtain ⟨h1, ⟨h2, h3⟩, h4, h5⟩ := hp
    obtain ⟨a, ⟨ha1, ha2, ha3⟩, hC⟩ := c_sGo ⟨q, s, xs.map unStp, f, b⟩ t t' t2 (ys.map unI) h4 h5
    have hC := hC.ren (swp a.o 190) (swp_swp a.o 190)
    have e : swp a.o 190 a.o = 190 := by simp [swp]
    have e2 : decide (a.ok = true) = decide (((Path5.mk q s (xs.map unStp) f b).go (ys.map unI)).isSome = true) := decide_eq_decide.2 ha2
    simp only [renL, ren, renM, renO, h2, h3, e, e2, ha1] at hC
    refine ⟨a.v, trivial, .inr (.inr ⟨_, by simp only [purL, pur, Option.map_some], hC, fun p hp => ?_, ?_, rfl, ?_, ?_⟩)⟩
    · simp only [List.mem_singleton] at hp
      rw [hp]; exact h1
    · simp [refsIn, refsInL, dom]
    · exact ⟨trivial, trivial, trivial⟩
    · intro p hp
      simp only [List.mem_singleton] at hp
      rw [hp]; exact no99_i _
  · cases h
end Go.Ve

namespace Go.Ve
open Go.Proofs
set_option linter.unusedSimpArgs false
set_option linter.unusedVariables false
set_option maxRecDepth 100000
set_option maxHeartbeats 8000000
theorem take_brow {cs : List Nat} {n : Nat} : List.take n (cs.map brow) = (cs.take n).map brow := List.map_take.symm
end Go.Ve

namespace Go.Ve
open Go.Proofs
set_option linter.unusedSimpArgs false
set_option linter.unusedVariables false
set_option maxRecDepth 100000
def Path5.restF (p : Path5) (k : Nat) (f b now : Int) : Path5 := if (p.rest k f b now).fit then p.rest k f b now else ⟨0, 0, [], 0, 0⟩
def t_rest : List AV → Option (Prop × AV)
  | [.agg [.int .i64 q, .int .i64 s, .sl _ 7 xs, .int .i64 f, .int .i64 b], .int .i64 k, .int .i64 fr, .int .i64 by_, .int .i64 now] => some ((xs.map unStp).map Stp7.row = xs ∧ (0 ≤ k ∧ k < (xs.map unStp).length) ∧ (xs.map unStp).length ≤ 1048576 ∧ (-4611686018427387904 ≤ now ∧ now ≤ 4611686018427387904), .tup [(Path5.restF ⟨q, s, xs.map unStp, f, b⟩ k.toNat fr by_ now).av, .bool (decide (Path5.rest ⟨q, s, xs.map unStp, f, b⟩ k.toNat fr by_ now).fit)])
  | _ => none
theorem h_rest : ∀ args p v, t_rest args = some (p, v) → p → Contract P 91 args [] v [] ∧ noref v = true ∧ No99 v := by
  intro args p v h1 h2
  unfold t_rest at h1
  split at h1
  · rename_i q s t xs f b k fr by_ now
    cases h1
    have := c_rest ⟨q, s, xs.map unStp, f, b⟩ t k fr by_ now h2.2.1 h2.2.2.1 h2.2.2.2
    simp only [h2.1] at this
    exact ⟨this, rfl, no99_av _, trivial, trivial⟩
  · cases h1
theorem c_iFlyRest (p : Path5) (t : Nat) (k e now : Int) : Contract P 36 [.agg [.int .i64 p.q, .int .i64 p.s, .sl t 7 (p.l.map Stp7.row), .int .i64 p.f, .int .i64 p.b], .int .i64 k, .int .i64 e, .int .i64 now] [] (.tup [(p.restR k e now).av, .bool (decide (p.goes k e now))]) [] := by
  refine fn_sound (((Env.nil P).add 32 t_iPathOk h_iPathOk).add 91 t_rest h_rest) hm k_impl_FlyRest (Nat.le_of_ble_eq_true rfl) rfl ?_
  unfold s_impl_FlyRest
  simp only [w_skip, w_rg, w_rgd, w_seq, w_cond, w_block, w_loop, w_exit, w_ret, w_gh, w_rg0, w_rg1, w_rgT, w_rgF, w_run, w_psd, w_und, w_dr0, w_dr1, w_drT, w_drF, w_drRun, w_drPsd, w_drUnd, w_drKn, w_drKs, w_putK, w_trimK, w_thenN, w_thenE, w_thenR, w_scope, w_label, w_blkN, w_blkE, w_blkR, w_call, w_effK, brU_true, brU_false, brU_u, brU_not, brU_and, brU_or, brU_dec, brU_eq, brU_ne, br_true, br_false, br_not, br_and, br_or, br_dec, br_eq, br_ne, w_getE0, w_getE1, w_setE0, w_setE1, w_dropE0, w_dropE1, w_drop0, w_drop1, w_getM0, w_getM1, w_setM0, w_setM1, ev_v, ev_c, w_putS, w_putN, w_lit, w_apU0, w_apU1, w_apU2, w_trim, enumE0, enumE1, w_callWp, w_callA0, w_callA1, w_R0, w_R1, w_R2, w_T2, w_callL, w_callT, w_T1, w_T0, o_mv, o_newnil, o_pick, o_bin, o_binN, o_neg, o_not, o_eqB, o_eqS, o_conv, o_alloc, o_box, o_load1, o_loadN, o_store, o_nilck, o_faddr, o_field1, o_fieldN, o_iaddr, o_istr, o_slStr, o_slSl, o_lenS, o_lenL, o_mx, o_mn, o_ext, o_build, o_lit, o_litOwn, o_app, o_mk, o_mvfrz, l_int, l_bool, l_str, l_agg, l_sl, l_own, l_ptr, l_pp, i_int, i_bool, i_str, i_sl, i_own, i_ptr, i_pp, all0, all1, e_ok1, eff, effBin, effBinN, ld_ptr, ld_pp, ld_elt, ia_own, ia_arr, el_1, el_N, load1K, faddrE, r_iaddr, sg_S, sg_c, sg_n, purL, pur, List.map, List.drop, List.take, List.length, List.foldl, List.append_eq, List.nil_append, List.cons_append, List.getD_cons_zero, List.getD_cons_succ, reduceIte, Nat.reduceEqDiff, Nat.reduceAdd, Nat.reduceLeDiff, true_and, and_true, Bool.not_true, Bool.not_false, Bool.and_true, Bool.true_and, Bool.and_self, reduceCtorEq, true_implies, false_implies, implies_true, decide_eq_true_eq, Option.map_some, fpOf, fpX, SOp.xs, oX, refs, refsL, dom, disj, List.all_nil, List.all_cons, List.contains_cons, List.contains_nil, Nat.reduceBEq, Bool.or_false, Bool.false_or, List.append_nil, Bool.not_false, Bool.not_true, List.forall_mem_cons, fm0, List.set, Nat.reduceLT, ne_eq, not_false_eq_true, not_true_eq_false
, ret1, ret1N, keep0, keep1, rf_int, rf_bool, rf_str, rf_sl, rf_agg, rf_tup, rfL0, rfL1, re_t, re_cN, re_L0, re_L1, ret_tup, ret_one, decide_true, AV.bool.injEq, AV.int.injEq, Nat.reduceLeDiff, Bool.true_eq, Bool.false_eq, decide_eq_true_eq, decide_eq_false_iff_not, t_iPathOk, t_rest, drop_rows, ite_max, ite_min, t_sPathOk, Path5.av, Int.toNat_zero, List.length_map, Stp7.row, irow, un_stp, un_i, path_eta, stp_eta, take_all, flatOk, noref, ghost, Nat.zero_add, Nat.sub_zero, Int.toNat_natCast]
  have no : ¬ p.goes k e now → AV.agg [AV.int IntKind.i64 (p.restR k e now).q, AV.int IntKind.i64 (p.restR k e now).s, AV.sl 0 7 (List.map Stp7.row (p.restR k e now).l), AV.int IntKind.i64 (p.restR k e now).f, AV.int IntKind.i64 (p.restR k e now).b] =
      AV.agg [AV.int IntKind.i64 0, AV.int IntKind.i64 0, AV.sl 0 7 [], AV.int IntKind.i64 0, AV.int IntKind.i64 0] ∧ ¬ p.goes k e now := fun h => ⟨by rw [Path5.restR, if_neg h]; rfl, h⟩
  refine ⟨fun h1 => ⟨fun h2 => no fun h => absurd h.2.1.1 (by omega), fun h2 => ⟨fun h3 => no fun h => absurd h.2.1.2 (by omega), fun h3 => ⟨fun h4 => no fun h => absurd h.2.2.1 (by omega), fun h4 => ⟨fun h5 => no fun h => absurd h.2.2.1 (by omega), fun h5 => ⟨fun h6 => no fun h => absurd h.2.2.1 (by omega), fun h6 => ?_⟩⟩⟩⟩⟩, fun h1 => no fun h => h1 h.1⟩
  have hb := (h1.2.2.2 k.toNat (by omega)).1
  unfold Stp7.ok at hb
  have hfit := rest_fit (p := p) (k := k.toNat) (f := max (p.l.getD k.toNat default).f e) (b := min (p.l.getD k.toNat default).b e) (now := now) h1 (by omega) (by omega) (by omega)
  have hgo : (p.rest k.toNat (max (p.l.getD k.toNat default).f e) (min (p.l.getD k.toNat default).b e) now).fit ↔ p.goes k e now :=
    ⟨fun h => ⟨h1, ⟨by omega, by omega⟩, ⟨by omega, by omega, by omega⟩, hfit.1 h⟩, fun h => hfit.2 h.2.2.2⟩
  have hR : p.restR k e now = p.restF k.toNat (max (p.l.getD k.toNat default).f e) (min (p.l.getD k.toNat default).b e) now := by
    unfold Path5.restR Path5.restF
    by_cases h : p.goes k e now
    · rw [if_pos h, if_pos (hgo.2 h)]; rfl
    · rw [if_neg h, if_neg (fun h' => h (hgo.1 h'))]
  exact ⟨by omega, by omega, ⟨⟨by omega, by omega⟩, by have := h1.2.1; omega, by omega, by omega⟩, by rw [hR], decide_eq_decide.2 hgo⟩
def t_frest : List AV → Option (Prop × AV)
  | [.agg [.int .i64 q, .int .i64 s, .sl _ 7 xs, .int .i64 f, .int .i64 b], .int .i64 k, .int .i64 e, .int .i64 now] => some ((xs.map unStp).map Stp7.row = xs, .tup [(Path5.restR ⟨q, s, xs.map unStp, f, b⟩ k e now).av, .bool (decide (Path5.goes ⟨q, s, xs.map unStp, f, b⟩ k e now))])
  | _ => none
abbrev t_iRest := t_frest
theorem h_iRest : ∀ args p v, t_frest args = some (p, v) → p → Contract P 36 args [] v [] ∧ noref v = true ∧ No99 v := by
  intro args p v h1 h2
  unfold t_frest at h1
  split at h1
  · rename_i q s t xs f b k e now
    cases h1
    have := c_iFlyRest ⟨q, s, xs.map unStp, f, b⟩ t k e now
    simp only [h2] at this
    exact ⟨this, rfl, no99_av _, trivial, trivial⟩
  · cases h1
abbrev t_sRest := t_frest
theorem h_sRest : ∀ args p v, t_frest args = some (p, v) → p → Contract P 40 args [] v [] ∧ noref v = true ∧ No99 v := by
  intro args p v h1 h2
  unfold t_frest at h1
  split at h1
  · rename_i q s t xs f b k e now
    cases h1
    have := c_sFlyRest ⟨q, s, xs.map unStp, f, b⟩ t k e now
    simp only [h2] at this
    exact ⟨this, rfl, no99_av _, trivial, trivial⟩
  · cases h1
/-- The aircraft can stay where it is behind now. -/
def Path5.stays (p : Path5) (bg : List Int) (now : Int) : Prop := if bg.length = 0 then pathOk p.q p.s p.l p.f p.b ∧ (p.wait now).can else p.goes ((bg.length : Int) - 1) (bg.getD (bg.length - 1) default) now
instance (p : Path5) (bg : List Int) (now : Int) : Decidable (p.stays bg now) := by unfold Path5.stays; infer_instance
end Go.Ve

namespace Go.Ve
open Go.Proofs
set_option linter.unusedSimpArgs false
set_option linter.unusedVariables false
set_option maxRecDepth 100000
set_option maxHeartbeats 4000000
theorem no99_bx (l : List Box6) : No99LL (l.map Box6.row) := by
  induction l with
  | nil => trivial
  | cons x l ih => exact ⟨⟨trivial, trivial, trivial, trivial, trivial, trivial, trivial⟩, ih⟩
def Path5.cell (p : Path5) (k : Nat) : Box6 := ⟨(p.l.getD k default).x, (p.l.getD k default).y, (p.l.getD k default).l, (p.l.getD k default).h, (p.fitS.getD k default).lo, (p.fitS.getD (k + 1) default).hi - 1⟩
def Path5.tube (p : Path5) : List Box6 := if p.fit then (List.range p.l.length).map p.cell else []
theorem tube_len (p : Path5) : p.tube.length = if p.fit then p.l.length else 0 := by unfold Path5.tube; split <;> simp
theorem fitS_fit {p : Path5} (h : p.fit) : p.fitS.length = p.l.length + 1 ∧ ∀ k, k < p.l.length + 1 → p.fitS.getD k default = p.span k := by
  have e : p.fitS = (List.range (p.l.length + 1)).map p.span := by rw [Path5.fitS, if_pos h.1]; exact if_pos h.2
  exact ⟨by rw [e]; simp, fun k hk => by rw [e]; exact getD_range hk⟩
theorem fitS_val {p : Path5} (h : p.fit) {k : Nat} (hk : k ≤ p.l.length) : 0 ≤ (p.span k).lo ∧ (p.span k).lo ≤ (p.span k).hi ∧ (p.span k).hi ≤ 10000 := by
  have h1 := span_in h.2 hk
  have h2 := (ok_calm h.1).lo k hk
  have h3 := (ok_calm h.1).hi k hk
  omega
theorem snoc_b (l : List Box6) (a b c d e f : Int) : l.map Box6.row ++ [[.int .i64 a, .int .i64 b, .int .i64 c, .int .i64 d, .int .i64 e, .int .i64 f]] = (l ++ [(⟨a, b, c, d, e, f⟩ : Box6)]).map Box6.row := by simp [Box6.row]
def F_tube (p : Path5) (t k : Nat) : St := ⟨[(3, .sl 0 2 (p.fitS.map Span2.row)), (5, .own 146 k 0 k), (16, .sl t 7 (p.l.map Stp7.row)), (17, .int .i64 p.l.length), (18, .int .i64 k)], [(146, .arr 106 k 6 (((List.range k).map p.cell).map Box6.row))]⟩
theorem c_tube (p : Path5) (t : Nat) (hn : p.l.length ≤ 1048576) : Contract P 31 [.agg [.int .i64 p.q, .int .i64 p.s, .sl t 7 (p.l.map Stp7.row), .int .i64 p.f, .int .i64 p.b]] [] (.sl 0 6 (p.tube.map Box6.row)) [] := by
  refine fn_sound ((Env.nil P).add 10 t_iFit h_iFit) hm kO_impl_FlyTube (Nat.le_of_ble_eq_true rfl) rfl ?_
  unfold sO_impl_FlyTube
  simp only [w_skip, w_rg, w_rgd, w_seq, w_cond, w_block, w_loop, w_exit, w_ret, w_gh, w_rg0, w_rg1, w_rgT, w_rgF, w_run, w_psd, w_und, w_dr0, w_dr1, w_drT, w_drF, w_drRun, w_drPsd, w_drUnd, w_drKn, w_drKs, w_putK, w_trimK, w_thenN, w_thenE, w_thenR, w_scope, w_label, w_blkN, w_blkE, w_blkR, w_call, w_effK, brU_true, brU_false, brU_u, brU_not, brU_and, brU_or, brU_dec, brU_eq, brU_ne, br_true, br_false, br_not, br_and, br_or, br_dec, br_eq, br_ne, w_getE0, w_getE1, w_setE0, w_setE1, w_dropE0, w_dropE1, w_drop0, w_drop1, w_getM0, w_getM1, w_setM0, w_setM1, ev_v, ev_c, w_putS, w_putN, w_lit, w_apU0, w_apU1, w_apU2, w_trim, enumE0, enumE1, w_callWp, w_callA0, w_callA1, w_R0, w_R1, w_R2, w_T2, w_callL, w_callT, w_T1, w_T0, o_mv, o_newnil, o_pick, o_bin, o_binN, o_neg, o_not, o_eqB, o_eqS, o_conv, o_alloc, o_box, o_load1, o_loadN, o_store, o_nilck, o_faddr, o_field1, o_fieldN, o_iaddr, o_istr, o_slStr, o_slSl, o_lenS, o_lenL, o_mx, o_mn, o_ext, o_build, o_lit, o_litOwn, o_app, o_mk, o_mvfrz, l_int, l_bool, l_str, l_agg, l_sl, l_own, l_ptr, l_pp, i_int, i_bool, i_str, i_sl, i_own, i_ptr, i_pp, all0, all1, e_ok1, eff, effBin, effBinN, ld_ptr, ld_pp, ld_elt, ia_own, ia_arr, el_1, el_N, load1K, faddrE, r_iaddr, sg_S, sg_c, sg_n, purL, pur, List.map, List.drop, List.take, List.length, List.foldl, List.append_eq, List.nil_append, List.cons_append, List.getD_cons_zero, List.getD_cons_succ, reduceIte, Nat.reduceEqDiff, Nat.reduceAdd, Nat.reduceLeDiff, true_and, and_true, Bool.not_true, Bool.not_false, Bool.and_true, Bool.true_and, Bool.and_self, reduceCtorEq, true_implies, false_implies, implies_true, decide_eq_true_eq, Option.map_some, fpOf, fpX, SOp.xs, oX, refs, refsL, dom, disj, List.all_nil, List.all_cons, List.contains_cons, List.contains_nil, Nat.reduceBEq, Bool.or_false, Bool.false_or, List.append_nil, Bool.not_false, Bool.not_true, List.forall_mem_cons, fm0, List.set, Nat.reduceLT, ne_eq, not_false_eq_true, not_true_eq_false
, ret1, ret1N, keep0, keep1, rf_int, rf_bool, rf_str, rf_sl, rf_agg, rf_tup, rfL0, rfL1, re_t, re_cN, re_L0, re_L1, ret_tup, ret_one, decide_true, AV.bool.injEq, AV.int.injEq, Nat.reduceLeDiff, Bool.true_eq, Bool.false_eq, decide_eq_true_eq, decide_eq_false_iff_not, t_iFit, t_fit, Span2.row, Stp7.row, take_all, snoc_b, List.length_map, irow, un_stp, path_eta, rowsOf, appE, ghost, flatOk, noref, Int.toNat_natCast, Nat.zero_add, Nat.sub_zero]
  refine ⟨fun h1 => ?_, fun h1 => by rw [Path5.tube, if_neg h1]; rfl⟩
  refine loop_of (F_tube p t) (fun k => k ≤ p.l.length) (fun k => p.l.length - k) 0 ⟨⟨.inr rfl, .inr rfl, .inr rfl, .inr rfl, .inr rfl, trivial⟩, ⟨rfl, trivial⟩, rfl, rfl⟩ (Nat.zero_le _) ?_
  intro k hk
  have htk : List.take k (((List.range k).map p.cell).map Box6.row) = ((List.range k).map p.cell).map Box6.row := List.take_of_length_le (by simp)
  obtain ⟨e1, e2⟩ := fitS_fit h1
  unfold lO_impl_FlyTube_0 F_tube
  simp only [w_skip, w_rg, w_rgd, w_seq, w_cond, w_block, w_loop, w_exit, w_ret, w_gh, w_rg0, w_rg1, w_rgT, w_rgF, w_run, w_psd, w_und, w_dr0, w_dr1, w_drT, w_drF, w_drRun, w_drPsd, w_drUnd, w_drKn, w_drKs, w_putK, w_trimK, w_thenN, w_thenE, w_thenR, w_scope, w_label, w_blkN, w_blkE, w_blkR, w_call, w_effK, brU_true, brU_false, brU_u, brU_not, brU_and, brU_or, brU_dec, brU_eq, brU_ne, br_true, br_false, br_not, br_and, br_or, br_dec, br_eq, br_ne, w_getE0, w_getE1, w_setE0, w_setE1, w_dropE0, w_dropE1, w_drop0, w_drop1, w_getM0, w_getM1, w_setM0, w_setM1, ev_v, ev_c, w_putS, w_putN, w_lit, w_apU0, w_apU1, w_apU2, w_trim, enumE0, enumE1, w_callWp, w_callA0, w_callA1, w_R0, w_R1, w_R2, w_T2, w_callL, w_callT, w_T1, w_T0, o_mv, o_newnil, o_pick, o_bin, o_binN, o_neg, o_not, o_eqB, o_eqS, o_conv, o_alloc, o_box, o_load1, o_loadN, o_store, o_nilck, o_faddr, o_field1, o_fieldN, o_iaddr, o_istr, o_slStr, o_slSl, o_lenS, o_lenL, o_mx, o_mn, o_ext, o_build, o_lit, o_litOwn, o_app, o_mk, o_mvfrz, l_int, l_bool, l_str, l_agg, l_sl, l_own, l_ptr, l_pp, i_int, i_bool, i_str, i_sl, i_own, i_ptr, i_pp, all0, all1, e_ok1, eff, effBin, effBinN, ld_ptr, ld_pp, ld_elt, ia_own, ia_arr, el_1, el_N, load1K, faddrE, r_iaddr, sg_S, sg_c, sg_n, purL, pur, List.map, List.drop, List.take, List.length, List.foldl, List.append_eq, List.nil_append, List.cons_append, List.getD_cons_zero, List.getD_cons_succ, reduceIte, Nat.reduceEqDiff, Nat.reduceAdd, Nat.reduceLeDiff, true_and, and_true, Bool.not_true, Bool.not_false, Bool.and_true, Bool.true_and, Bool.and_self, reduceCtorEq, true_implies, false_implies, implies_true, decide_eq_true_eq, Option.map_some, fpOf, fpX, SOp.xs, oX, refs, refsL, dom, disj, List.all_nil, List.all_cons, List.contains_cons, List.contains_nil, Nat.reduceBEq, Bool.or_false, Bool.false_or, List.append_nil, Bool.not_false, Bool.not_true, List.forall_mem_cons, fm0, List.set, Nat.reduceLT, ne_eq, not_false_eq_true, not_true_eq_false
, ret1, ret1N, keep0, keep1, rf_int, rf_bool, rf_str, rf_sl, rf_agg, rf_tup, rfL0, rfL1, re_t, re_cN, re_L0, re_L1, ret_tup, ret_one, decide_true, AV.bool.injEq, AV.int.injEq, Nat.reduceLeDiff, Bool.true_eq, Bool.false_eq, decide_eq_true_eq, decide_eq_false_iff_not, t_iFit, t_fit, Span2.row, Stp7.row, take_all, snoc_b, List.length_map, irow, un_stp, path_eta, rowsOf, appE, ghost, flatOk, noref, Int.toNat_natCast, Nat.zero_add, Nat.sub_zero]
  simp only [htk, snoc_b]
  refine ⟨fun h => ?_, fun h => ?_⟩
  · have hc : ((k : Int) + 1).toNat = k + 1 := by omega
    have hv := fitS_val h1 (k := k + 1) (by omega)
    have g2 := e2 (k + 1) (by omega)
    have ex : (List.range k).map p.cell ++ [(⟨(p.l.getD k default).x, (p.l.getD k default).y, (p.l.getD k default).l, (p.l.getD k default).h, (p.fitS.getD k default).lo, (p.fitS.getD (k + 1) default).hi - 1⟩ : Box6)] = (List.range (k + 1)).map p.cell := by
      rw [List.range_succ, List.map_append]; rfl
    rw [← g2] at hv
    simp only [hc, ex]
    exact ⟨by omega, by omega, by omega, by omega, by omega, by omega, by omega, by omega, by omega, by omega, loopK_of (k + 1) ⟨⟨.inr rfl, .inr rfl, .inr rfl, .inr rfl, .inr rfl, trivial⟩, ⟨rfl, trivial⟩, rfl, rfl⟩ (by omega) (by omega)⟩
  · have e : k = p.l.length := by omega
    subst e
    rw [Path5.tube, if_pos h1]
def Box6.has (b : Box6) (x y l t : Int) : Prop := (b.x = x ∧ b.y = y ∧ b.l ≤ l ∧ l ≤ b.h) ∧ b.i ≤ t ∧ t ≤ b.o
instance (b : Box6) (x y l t : Int) : Decidable (b.has x y l t) := by unfold Box6.has; infer_instance
def someHas (tb : List Box6) (x y l t : Int) : Prop := ∃ k, k < tb.length ∧ (tb.getD k default).has x y l t
instance (tb : List Box6) (x y l t : Int) : Decidable (someHas tb x y l t) := decidable_of_iff (∃ k : Fin tb.length, (tb.getD k default).has x y l t) ⟨fun ⟨k, h⟩ => ⟨k.1, k.2, h⟩, fun ⟨k, h, h'⟩ => ⟨⟨k, h⟩, h'⟩⟩
/-- What is left, as one sees it who doesn't know when the step was entered. -/
def Path5.seenAt (p : Path5) (k now : Int) : Path5 := p.rest k.toNat (p.span k.toNat).lo (min (p.span k.toNat).hi now) now
def Path5.sees (p : Path5) (k now : Int) : Prop := (p.fit ∧ (0 ≤ k ∧ k < p.l.length) ∧ 0 ≤ now ∧ now ≤ 10000) ∧ (p.seenAt k now).fit
instance (p : Path5) (k now : Int) : Decidable (p.sees k now) := by unfold Path5.sees; infer_instance
def Path5.seenR (p : Path5) (k now : Int) : Path5 := if p.sees k now then p.seenAt k now else ⟨0, 0, [], 0, 0⟩
theorem c_iSeen (p : Path5) (t : Nat) (k now : Int) : Contract P 37 [.agg [.int .i64 p.q, .int .i64 p.s, .sl t 7 (p.l.map Stp7.row), .int .i64 p.f, .int .i64 p.b], .int .i64 k, .int .i64 now] [] (.tup [(p.seenR k now).av, .bool (decide (p.sees k now))]) [] := by
  refine fn_sound (((Env.nil P).add 10 t_iFit h_iFit).add 91 t_rest h_rest) Go.Ve.hm k_impl_FlySeen (Nat.le_of_ble_eq_true rfl) rfl ?_
  unfold s_impl_FlySeen
  simp only [w_skip, w_rg, w_rgd, w_seq, w_cond, w_block, w_loop, w_exit, w_ret, w_gh, w_rg0, w_rg1, w_rgT, w_rgF, w_run, w_psd, w_und, w_dr0, w_dr1, w_drT, w_drF, w_drRun, w_drPsd, w_drUnd, w_drKn, w_drKs, w_putK, w_trimK, w_thenN, w_thenE, w_thenR, w_scope, w_label, w_blkN, w_blkE, w_blkR, w_call, w_effK, brU_true, brU_false, brU_u, brU_not, brU_and, brU_or, brU_dec, brU_eq, brU_ne, br_true, br_false, br_not, br_and, br_or, br_dec, br_eq, br_ne, w_getE0, w_getE1, w_setE0, w_setE1, w_dropE0, w_dropE1, w_drop0, w_drop1, w_getM0, w_getM1, w_setM0, w_setM1, ev_v, ev_c, w_putS, w_putN, w_lit, w_apU0, w_apU1, w_apU2, w_trim, enumE0, enumE1, w_callWp, w_callA0, w_callA1, w_R0, w_R1, w_R2, w_T2, w_callL, w_callT, w_T1, w_T0, o_mv, o_newnil, o_pick, o_bin, o_binN, o_neg, o_not, o_eqB, o_eqS, o_conv, o_alloc, o_box, o_load1, o_loadN, o_store, o_nilck, o_faddr, o_field1, o_fieldN, o_iaddr, o_istr, o_slStr, o_slSl, o_lenS, o_lenL, o_mx, o_mn, o_ext, o_build, o_lit, o_litOwn, o_app, o_mk, o_mvfrz, l_int, l_bool, l_str, l_agg, l_sl, l_own, l_ptr, l_pp, i_int, i_bool, i_str, i_sl, i_own, i_ptr, i_pp, all0, all1, e_ok1, eff, effBin, effBinN, ld_ptr, ld_pp, ld_elt, ia_own, ia_arr, el_1, el_N, load1K, faddrE, r_iaddr, sg_S, sg_c, sg_n, purL, pur, List.map, List.drop, List.take, List.length, List.foldl, List.append_eq, List.nil_append, List.cons_append, List.getD_cons_zero, List.getD_cons_succ, reduceIte, Nat.reduceEqDiff, Nat.reduceAdd, Nat.reduceLeDiff, true_and, and_true, Bool.not_true, Bool.not_false, Bool.and_true, Bool.true_and, Bool.and_self, reduceCtorEq, true_implies, false_implies, implies_true, decide_eq_true_eq, Option.map_some, fpOf, fpX, SOp.xs, oX, refs, refsL, dom, disj, List.all_nil, List.all_cons, List.contains_cons, List.contains_nil, Nat.reduceBEq, Bool.or_false, Bool.false_or, List.append_nil, Bool.not_false, Bool.not_true, List.forall_mem_cons, fm0, List.set, Nat.reduceLT, ne_eq, not_false_eq_true, not_true_eq_false
, ret1, ret1N, keep0, keep1, rf_int, rf_bool, rf_str, rf_sl, rf_agg, rf_tup, rfL0, rfL1, re_t, re_cN, re_L0, re_L1, ret_tup, ret_one, decide_true, AV.bool.injEq, AV.int.injEq, Nat.reduceLeDiff, Bool.true_eq, Bool.false_eq, decide_eq_true_eq, decide_eq_false_iff_not, t_iFit, t_rest, t_fit, Span2.row, Stp7.row, take_all, List.length_map, irow, un_stp, path_eta, rowsOf, flatOk, noref, Int.toNat_natCast, Path5.av, ite_min, ite_max]
  have no : ¬ p.sees k now → AV.agg [AV.int IntKind.i64 (p.seenR k now).q, AV.int IntKind.i64 (p.seenR k now).s, AV.sl 0 7 (List.map Stp7.row (p.seenR k now).l), AV.int IntKind.i64 (p.seenR k now).f, AV.int IntKind.i64 (p.seenR k now).b] =
      AV.agg [AV.int IntKind.i64 0, AV.int IntKind.i64 0, AV.sl 0 7 [], AV.int IntKind.i64 0, AV.int IntKind.i64 0] ∧ ¬ p.sees k now := fun h => ⟨by rw [Path5.seenR, if_neg h]; rfl, h⟩
  refine ⟨fun h1 => ⟨fun h2 => no fun h => absurd h.1.2.1 (by omega), fun h2 => ⟨fun h3 => no fun h => absurd h.1.2.1 (by omega), fun h3 => ⟨fun h4 => no fun h => absurd h.1.2.2 (by omega), fun h4 => ⟨fun h5 => no fun h => absurd h.1.2.2 (by omega), fun h5 => ?_⟩⟩⟩⟩, fun h1 => no fun h => h1 h.1.1⟩
  obtain ⟨e1, e2⟩ := fitS_fit h1
  have hn := h1.1.2.1
  rw [e2 k.toNat (by omega)]
  have hs : (p.seenAt k now).fit ↔ p.sees k now := ⟨fun h => ⟨⟨h1, by omega, by omega⟩, h⟩, fun h => h.2⟩
  have hR : p.seenR k now = p.restF k.toNat (p.span k.toNat).lo (min (p.span k.toNat).hi now) now := by
    unfold Path5.seenR Path5.restF
    by_cases h : p.sees k now
    · rw [if_pos h, if_pos (show (p.rest k.toNat (p.span k.toNat).lo (min (p.span k.toNat).hi now) now).fit from h.2)]; rfl
    · rw [if_neg h, if_neg (show ¬ (p.rest k.toNat (p.span k.toNat).lo (min (p.span k.toNat).hi now) now).fit from fun h' => h (hs.1 h'))]
  exact ⟨by omega, by omega, by omega, by omega, ⟨⟨by omega, by omega⟩, by omega, by omega, by omega⟩, by rw [hR], decide_eq_decide.2 hs⟩
def Box6.inside (a b : Box6) : Prop := a.x = b.x ∧ a.y = b.y ∧ b.l ≤ a.l ∧ a.h ≤ b.h ∧ b.i ≤ a.i ∧ a.o ≤ b.o
instance (a b : Box6) : Decidable (a.inside b) := by unfold Box6.inside; infer_instance
def covered (b : List Box6) (x : Box6) : Prop := (x.l > x.h ∨ x.i > x.o) ∨ ∃ j, j < b.length ∧ x.inside (b.getD j default)
instance (b : List Box6) (x : Box6) : Decidable (covered b x) := by
  unfold covered
  have : Decidable (∃ j, j < b.length ∧ x.inside (b.getD j default)) := decidable_of_iff (∃ j : Fin b.length, x.inside (b.getD j default)) ⟨fun ⟨k, h⟩ => ⟨k.1, k.2, h⟩, fun ⟨k, h, h'⟩ => ⟨⟨k, h⟩, h'⟩⟩
  infer_instance
def smaller (a b : List Box6) : Prop := ∀ i, i < a.length → covered b (a.getD i default)
instance (a b : List Box6) : Decidable (smaller a b) := decidable_of_iff (∀ i : Fin a.length, covered b (a.getD i default)) ⟨fun h i hi => h ⟨i, hi⟩, fun h i => h i.1 i.2⟩
def t_tube : List AV → Option (Prop × AV)
  | [.agg [.int .i64 pq, .int .i64 ps, .sl pt 7 px, .int .i64 pf, .int .i64 pb]] => some ((((px.map unStp).map Stp7.row = px)) ∧ ((Path5.mk pq ps (px.map unStp) pf pb).l.length ≤ 1048576), .sl 0 6 ((Path5.mk pq ps (px.map unStp) pf pb).tube.map Box6.row))
  | _ => none
theorem h_tube : ∀ args p v, t_tube args = some (p, v) → p → Contract P 31 args [] v [] ∧ noref v = true ∧ No99 v := by
  intro args p v h1 h2
  unfold t_tube at h1
  split at h1
  · rename_i pq ps pt px pf pb
    cases h1
    obtain ⟨e0, HP⟩ := h2
    have := c_tube (Path5.mk pq ps (px.map unStp) pf pb) pt HP
    simp only [e0] at this
    exact ⟨this, rfl, ⟨by omega, no99_bx _⟩⟩
  · cases h1
def t_iSeen : List AV → Option (Prop × AV)
  | [.agg [.int .i64 pq, .int .i64 ps, .sl pt 7 px, .int .i64 pf, .int .i64 pb], .int .i64 k, .int .i64 n] => some ((((px.map unStp).map Stp7.row = px)) ∧ (True), .tup [((Path5.mk pq ps (px.map unStp) pf pb).seenR k n).av, .bool (decide ((Path5.mk pq ps (px.map unStp) pf pb).sees k n))])
  | _ => none
theorem h_iSeen : ∀ args p v, t_iSeen args = some (p, v) → p → Contract P 37 args [] v [] ∧ noref v = true ∧ No99 v := by
  intro args p v h1 h2
  unfold t_iSeen at h1
  split at h1
  · rename_i pq ps pt px pf pb k n
    cases h1
    obtain ⟨e0, HP⟩ := h2
    have := c_iSeen (Path5.mk pq ps (px.map unStp) pf pb) pt k n
    simp only [e0] at this
    exact ⟨this, rfl, ⟨no99_av _, trivial, trivial⟩⟩
  · cases h1
end Go.Ve

namespace Go.Ve
open Go.Proofs
set_option linter.unusedSimpArgs false
set_option linter.unusedVariables false
set_option maxRecDepth 100000
set_option maxHeartbeats 4000000
instance : DecidableEq Span2 := fun a b => decidable_of_iff (a.lo = b.lo ∧ a.hi = b.hi) ⟨fun h => by cases a; cases b; simp_all, fun h => by subst h; exact ⟨rfl, rfl⟩⟩
end Go.Ve

namespace Go.Ve
open Go.Proofs
set_option linter.unusedSimpArgs false
set_option linter.unusedVariables false
set_option maxRecDepth 100000
set_option maxHeartbeats 4000000
end Go.Ve

namespace Go.Ve
open Go.Proofs
set_option linter.unusedSimpArgs false
set_option linter.unusedVariables false
set_option maxRecDepth 100000
set_option maxHeartbeats 8000000
theorem lawful_flight {p : Path5} {f : List Int} (h : p.lawful f) : p.flight fun k => f.getD k default := by
  obtain ⟨_, hl, hs⟩ := h
  refine ⟨fun k hk => (hs k (by omega)).1, fun k hk => ?_⟩
  have := (hs (k + 1) (by omega)).2 (by omega)
  rwa [show k + 1 - 1 = k by omega] at this
theorem fitS_nil {p : Path5} (h : ¬ p.fit) : p.fitS = [] := by
  unfold Path5.fitS
  split
  · rename_i h1
    unfold Path5.spans
    rw [if_neg fun h2 => h ⟨h1, h2⟩]
  · rfl
end Go.Ve

namespace Go.Ve
set_option linter.unusedSimpArgs false
set_option linter.unusedVariables false
/-! Flights in between two, of held paths, of what is left. -/
section
variable {p : Path5} {bg : List Int}
end
theorem ok_q {p : Path5} (h : pathOk p.q p.s p.l p.f p.b) : p.q ≤ p.s ∧ p.q ≤ 10000 := by have := h.1; omega
section
variable {p : Path5} {k : Nat} {f b now : Int}
theorem rest_low (hk : k < p.l.length) {j : Nat} (hj : k + j ≤ p.l.length) : (p.rest k f b now).low j = if j = 0 then f else if j = 1 then max (p.low (k + j)) (now + 1) else p.low (k + j) := by
  have hl := rest_len (p := p) (k := k) (f := f) (b := b) (now := now)
  unfold Path5.low
  rw [hl]
  by_cases h : k + j < p.l.length
  · rw [if_pos (by omega), rest_getD h, if_pos h]
  · rw [if_neg (by omega), (rest_ff hk).1, if_neg h, if_neg (show ¬ j = 0 by omega)]
    by_cases e : j = 1
    · rw [if_pos e, if_neg (by omega)]
    · rw [if_neg e, if_pos (by omega)]
theorem rest_high (hk : k < p.l.length) {j : Nat} (hj : k + j ≤ p.l.length) : (p.rest k f b now).high j = if j = 0 then b else p.high (k + j) := by
  have hl := rest_len (p := p) (k := k) (f := f) (b := b) (now := now)
  unfold Path5.high
  rw [hl]
  by_cases h : k + j < p.l.length
  · rw [if_pos (by omega), rest_getD h, if_pos h]
  · rw [if_neg (by omega), (rest_ff hk).2.1, if_neg h, if_neg (show ¬ j = 0 by omega)]
theorem rest_most {j : Nat} (hj : k + j < p.l.length) : (p.rest k f b now).most j = p.most (k + j) := by
  unfold Path5.most
  rw [rest_getD hj, (rest_ff (by omega)).2.2.2]
theorem rest_flight (hk : k < p.l.length) {x : Nat → Int} : (p.rest k f b now).flight x ↔ (f ≤ x 0 ∧ x 0 ≤ b) ∧ now + 1 ≤ x 1 ∧ (∀ j, 0 < j → k + j ≤ p.l.length → p.low (k + j) ≤ x j ∧ x j ≤ p.high (k + j)) ∧ ∀ j, k + j < p.l.length → p.q ≤ x (j + 1) - x j ∧ x (j + 1) - x j ≤ p.most (k + j) := by
  have hl := rest_len (p := p) (k := k) (f := f) (b := b) (now := now)
  have hqq := (rest_ff (f := f) (b := b) (now := now) hk).2.2.1
  unfold Path5.flight
  rw [hl, hqq]
  constructor
  · rintro ⟨h1, h2⟩
    have a0 := h1 0 (by omega)
    have a1 := h1 1 (by omega)
    rw [rest_low hk (by omega), rest_high hk (by omega)] at a0 a1
    simp only [if_true, if_false, Nat.one_ne_zero] at a0 a1
    refine ⟨a0, by omega, fun j h0 hj => ?_, fun j hj => ?_⟩
    · have := h1 j (by omega)
      rw [rest_low hk hj, rest_high hk hj, if_neg (show ¬ j = 0 by omega), if_neg (show ¬ j = 0 by omega)] at this
      split at this <;> omega
    · have := h2 j (by omega)
      rwa [rest_most hj] at this
  · rintro ⟨h1, h2, h3, h4⟩
    refine ⟨fun j hj => ?_, fun j hj => ?_⟩
    · rw [rest_low hk (by omega), rest_high hk (by omega)]
      by_cases e : j = 0
      · subst e; simp only [if_true]; exact h1
      · have := h3 j (by omega) (by omega)
        rw [if_neg e, if_neg e]
        split
        · rename_i e1; subst e1; omega
        · exact this
    · rw [rest_most (by omega)]; exact h4 j (by omega)
end
end Go.Ve

namespace Go.Ve
set_option linter.unusedSimpArgs false
set_option linter.unusedVariables false
theorem step_f {p : Path5} (h : pathOk p.q p.s p.l p.f p.b) {k : Nat} (hk : k < p.l.length) : (p.l.getD k default).f = p.low k ∧ (p.l.getD k default).b = p.high k ∧ 0 ≤ p.low k ∧ p.high k ≤ 10000 := by
  have h1 := (ok_calm h).lo k (by omega)
  have h2 := (ok_calm h).hi k (by omega)
  refine ⟨?_, ?_, h1, h2⟩
  · unfold Path5.low; rw [if_pos hk]
  · unfold Path5.high; rw [if_pos hk]
theorem lawful_val {p : Path5} {l : List Int} (hl : p.lawful l) {k : Nat} (hk : k ≤ p.l.length) : 0 ≤ l.getD k default ∧ l.getD k default ≤ 10000 := by
  have h1 := (lawful_flight hl).1 k hk
  have h2 := (ok_calm hl.1).lo k hk
  have h3 := (ok_calm hl.1).hi k hk
  simp only at h1
  omega
end Go.Ve

namespace Go.Ve
open Go.Proofs
set_option linter.unusedSimpArgs false
set_option linter.unusedVariables false
set_option maxRecDepth 100000
set_option maxHeartbeats 8000000
theorem tube_le (p : Path5) : p.tube.length ≤ p.l.length := by rw [tube_len]; split <;> omega
theorem tube_nil {p : Path5} (h : ¬ p.fit) : p.tube = [] := by rw [Path5.tube, if_neg h]
end Go.Ve

