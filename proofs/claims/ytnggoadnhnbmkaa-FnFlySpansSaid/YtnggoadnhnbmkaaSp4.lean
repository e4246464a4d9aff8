/- Part 4 of the proof: laws and contracts of functions, each proved; they are joined in the last part. No conditions beyond those that the theorems state. -/
import Derived.Test.YtnggoadnhnbmkaaSp3
set_option linter.all false
namespace Go.Ve
open Go.Proofs
set_option linter.unusedSimpArgs false
set_option linter.unusedVariables false
set_option maxRecDepth 100000
set_option maxHeartbeats 4000000
/-- The flight that keeps nearest to what is asked for. -/
def Path5.tick (p : Path5) (asked l : List Int) : Int := if l.length < asked.length then min (max (p.next l).lo (asked.getD l.length default)) (p.next l).hi else (p.next l).lo
def Path5.goL (p : Path5) (asked : List Int) : Nat → Option (List Int)
  | 0 => some []
  | n + 1 => (p.goL asked n).bind fun l => if p.begun l then some (l ++ [p.tick asked l]) else none
def Path5.go (p : Path5) (asked : List Int) : Option (List Int) := (p.goL asked (p.l.length + 1)).bind fun l => if p.lawful l then some l else none
theorem goL_len {p : Path5} {asked : List Int} : ∀ {n : Nat} {l : List Int}, p.goL asked n = some l → l.length = n
  | 0, l, h => by simp only [Path5.goL, Option.some.injEq] at h; subst h; rfl
  | n + 1, l, h => by
    simp only [Path5.goL, Option.bind_eq_some_iff] at h
    obtain ⟨l', h1, h2⟩ := h
    split at h2
    · cases h2; simp [goL_len h1]
    · cases h2
theorem goL_none {p : Path5} {asked : List Int} {n : Nat} (h : p.goL asked n = none) : ∀ m, n ≤ m → p.goL asked m = none := by
  intro m hm
  induction m with
  | zero => have : n = 0 := by omega
            rw [this] at h; exact h
  | succ m ih =>
    by_cases e : n = m + 1
    · rw [← e]; exact h
    · simp only [Path5.goL, ih (by omega), Option.bind_none]
theorem go_none {p : Path5} {asked : List Int} {n : Nat} (h : p.goL asked n = none) (hn : n ≤ p.l.length + 1) : p.go asked = none := by
  unfold Path5.go; rw [goL_none h _ hn]; rfl
theorem goL_step {p : Path5} {asked l : List Int} {n : Nat} (h : p.goL asked n = some l) : p.goL asked (n + 1) = if p.begun l then some (l ++ [p.tick asked l]) else none := by simp only [Path5.goL, h, Option.bind_some]
theorem go_end {p : Path5} {asked l : List Int} (h : p.goL asked (p.l.length + 1) = some l) : p.go asked = if p.lawful l then some l else none := by unfold Path5.go; rw [h]; rfl
theorem go_some {p : Path5} {asked l : List Int} (h : p.go asked = some l) : p.lawful l := by
  unfold Path5.go at h
  simp only [Option.bind_eq_some_iff] at h
  obtain ⟨l', _, h2⟩ := h
  split at h2
  · rename_i h3; cases h2; exact h3
  · cases h2
theorem go_len {p : Path5} {asked : List Int} : ((p.go asked).getD []).length ≤ p.l.length + 1 := by
  cases h : p.go asked with
  | none => simp
  | some l => have := (go_some h).2.1; simp only [Option.getD_some]; omega
theorem go_bad {p : Path5} {asked : List Int} (h : ¬ pathOk p.q p.s p.l p.f p.b) : p.go asked = none := by
  cases hg : p.go asked with
  | none => rfl
  | some l => exact absurd (go_some hg).1 h
theorem no99_i (l : List Int) : No99LL (l.map irow) := by
  induction l with
  | nil => trivial
  | cons x l ih => exact ⟨⟨trivial, trivial⟩, ih⟩
structure GoR where
  o : Nat
  v : Nat
  l : List Int
  ok : Bool
structure GoS where
  i : Int
  m : Nat
  l : List Int
def F_go (p : Path5) (t t' : Nat) (asked : List Int) (a : GoS) : St := ⟨[(2, .sl t' 1 (asked.map irow)), (3, .ptr 103 0), (8, .own 165 (1 + a.m) 0 a.m), (9, .int .i64 a.i)], [(103, .box [.int .i64 p.q, .int .i64 p.s, .sl t 7 (p.l.map Stp7.row), .int .i64 p.f, .int .i64 p.b]), (165, .arr 3 (1 + a.m) 1 (a.l.map irow))]⟩
theorem c_sGo (p : Path5) (t t' t2 : Nat) (asked : List Int) (hn : p.l.length ≤ 100) (ha : asked.length ≤ 4294967296) : ∃ a : GoR, (a.l = (p.go asked).getD [] ∧ (a.ok = true ↔ (p.go asked).isSome = true) ∧ 100 ≤ a.o) ∧ Contract P 29 [.agg [.int .i64 p.q, .int .i64 p.s, .sl t 7 (p.l.map Stp7.row), .int .i64 p.f, .int .i64 p.b], .sl t2 1 [], .sl t' 1 (asked.map irow)] [] (.tup [.own a.o a.v 0 a.l.length, .bool (decide (a.ok = true))]) [(a.o, .arr 3 a.v 1 (a.l.map irow))] := by
  refine fn_choose ((((((Env.nil P).add 33 t_sPathOk h_sPathOk).add 82 t_sNext h_sNext).add 14 t_sLawful h_sLawful).add 84 t_l21Max h_l21Max).add 83 t_l21Min h_l21Min) Go.Ve.hm k_spec_FlyGo (Nat.le_of_ble_eq_true rfl) rfl (fun a : GoR => a.l = (p.go asked).getD [] ∧ (a.ok = true ↔ (p.go asked).isSome = true) ∧ 100 ≤ a.o) (fun a => .tup [.own a.o a.v 0 a.l.length, .bool (decide (a.ok = true))]) (fun a => [(a.o, .arr 3 a.v 1 (a.l.map irow))]) ?_
  unfold s_spec_FlyGo
  simp only [w_skip, w_rg, w_rgd, w_seq, w_cond, w_block, w_loop, w_exit, w_ret, w_gh, w_rg0, w_rg1, w_rgT, w_rgF, w_run, w_psd, w_und, w_dr0, w_dr1, w_drT, w_drF, w_drRun, w_drPsd, w_drUnd, w_drKn, w_drKs, w_putK, w_trimK, w_thenN, w_thenE, w_thenR, w_scope, w_label, w_blkN, w_blkE, w_blkR, w_call, w_effK, brU_true, brU_false, brU_u, brU_not, brU_and, brU_or, brU_dec, brU_eq, brU_ne, br_true, br_false, br_not, br_and, br_or, br_dec, br_eq, br_ne, w_getE0, w_getE1, w_setE0, w_setE1, w_dropE0, w_dropE1, w_drop0, w_drop1, w_getM0, w_getM1, w_setM0, w_setM1, ev_v, ev_c, w_putS, w_putN, w_lit, w_apU0, w_apU1, w_apU2, w_trim, enumE0, enumE1, w_callWp, w_callA0, w_callA1, w_R0, w_R1, w_R2, w_T2, w_callL, w_callT, w_T1, w_T0, o_mv, o_newnil, o_pick, o_bin, o_binN, o_neg, o_not, o_eqB, o_eqS, o_conv, o_alloc, o_box, o_load1, o_loadN, o_store, o_nilck, o_faddr, o_field1, o_fieldN, o_iaddr, o_istr, o_slStr, o_slSl, o_lenS, o_lenL, o_mx, o_mn, o_ext, o_build, o_lit, o_litOwn, o_app, o_mk, o_mvfrz, l_int, l_bool, l_str, l_agg, l_sl, l_own, l_ptr, l_pp, i_int, i_bool, i_str, i_sl, i_own, i_ptr, i_pp, all0, all1, e_ok1, eff, effBin, effBinN, ld_ptr, ld_pp, ld_elt, ia_own, ia_arr, el_1, el_N, load1K, faddrE, r_iaddr, sg_S, sg_c, sg_n, purL, pur, List.map, List.drop, List.take, List.length, List.foldl, List.append_eq, List.nil_append, List.cons_append, List.getD_cons_zero, List.getD_cons_succ, reduceIte, Nat.reduceEqDiff, Nat.reduceAdd, Nat.reduceLeDiff, true_and, and_true, Bool.not_true, Bool.not_false, Bool.and_true, Bool.true_and, Bool.and_self, reduceCtorEq, true_implies, false_implies, implies_true, decide_eq_true_eq, Option.map_some, fpOf, fpX, SOp.xs, oX, refs, refsL, dom, disj, List.all_nil, List.all_cons, List.contains_cons, List.contains_nil, Nat.reduceBEq, Bool.or_false, Bool.false_or, List.append_nil, Bool.not_false, Bool.not_true, List.forall_mem_cons, fm0, List.set, Nat.reduceLT, ne_eq, not_false_eq_true, not_true_eq_false
, ret1, ret1N, keep0, keep1, rf_int, rf_bool, rf_str, rf_sl, rf_agg, rf_tup, rfL0, rfL1, re_t, re_cN, re_L0, re_L1, ret_tup, ret_one, decide_true, AV.bool.injEq, AV.int.injEq, Nat.reduceLeDiff, Bool.true_eq, Bool.false_eq, decide_eq_true_eq, decide_eq_false_iff_not, t_sPathOk, t_sNext, t_sLawful, t_l21Max, t_l21Min, t_next, t_lawful, Span2.row, snoc_i, Path5.av, retG_ret, ghost, retQ_eq, retOk, wkM, refsInO, keepB, re_tup, or_t, Int.toNat_natCast, noref, flatOk, List.length_map, Stp7.row, irow, un_stp, un_i, set_f, set_b, List.length_set, take_all, path_eta, true_and, rowsOf, appE]
  refine ⟨fun h1 => ⟨by omega, fun h2 => absurd h2 (by omega), fun h2 => ?_⟩, fun h1 => ⟨⟨228, 0, [], false⟩, ⟨by rw [go_bad h1]; rfl, by rw [go_bad h1]; simp, by simp only; omega⟩, ⟨rfl, by simp⟩, rfl, rfl, rfl⟩⟩
  refine loop_of (F_go p t t' asked) (fun a => (a.i = a.m ∧ a.m ≤ p.l.length + 1) ∧ p.goL asked a.m = some a.l) (fun a => p.l.length + 1 - a.m) ⟨0, 0, []⟩ ⟨⟨.inr rfl, .inr rfl, .inr rfl, .inr rfl, trivial⟩, ⟨rfl, rfl, trivial⟩, rfl, rfl⟩ ⟨⟨rfl, Nat.zero_le _⟩, rfl⟩ ?_
  rintro ⟨i, m, l⟩ ⟨⟨hi, hm⟩, hg⟩
  simp only at hi hm hg
  subst hi
  have hl := goL_len hg
  have htk : List.take m (l.map irow) = l.map irow := List.take_of_length_le (by rw [List.length_map]; omega)
  unfold l_spec_FlyGo_0 F_go
  simp only [w_skip, w_rg, w_rgd, w_seq, w_cond, w_block, w_loop, w_exit, w_ret, w_gh, w_rg0, w_rg1, w_rgT, w_rgF, w_run, w_psd, w_und, w_dr0, w_dr1, w_drT, w_drF, w_drRun, w_drPsd, w_drUnd, w_drKn, w_drKs, w_putK, w_trimK, w_thenN, w_thenE, w_thenR, w_scope, w_label, w_blkN, w_blkE, w_blkR, w_call, w_effK, brU_true, brU_false, brU_u, brU_not, brU_and, brU_or, brU_dec, brU_eq, brU_ne, br_true, br_false, br_not, br_and, br_or, br_dec, br_eq, br_ne, w_getE0, w_getE1, w_setE0, w_setE1, w_dropE0, w_dropE1, w_drop0, w_drop1, w_getM0, w_getM1, w_setM0, w_setM1, ev_v, ev_c, w_putS, w_putN, w_lit, w_apU0, w_apU1, w_apU2, w_trim, enumE0, enumE1, w_callWp, w_callA0, w_callA1, w_R0, w_R1, w_R2, w_T2, w_callL, w_callT, w_T1, w_T0, o_mv, o_newnil, o_pick, o_bin, o_binN, o_neg, o_not, o_eqB, o_eqS, o_conv, o_alloc, o_box, o_load1, o_loadN, o_store, o_nilck, o_faddr, o_field1, o_fieldN, o_iaddr, o_istr, o_slStr, o_slSl, o_lenS, o_lenL, o_mx, o_mn, o_ext, o_build, o_lit, o_litOwn, o_app, o_mk, o_mvfrz, l_int, l_bool, l_str, l_agg, l_sl, l_own, l_ptr, l_pp, i_int, i_bool, i_str, i_sl, i_own, i_ptr, i_pp, all0, all1, e_ok1, eff, effBin, effBinN, ld_ptr, ld_pp, ld_elt, ia_own, ia_arr, el_1, el_N, load1K, faddrE, r_iaddr, sg_S, sg_c, sg_n, purL, pur, List.map, List.drop, List.take, List.length, List.foldl, List.append_eq, List.nil_append, List.cons_append, List.getD_cons_zero, List.getD_cons_succ, reduceIte, Nat.reduceEqDiff, Nat.reduceAdd, Nat.reduceLeDiff, true_and, and_true, Bool.not_true, Bool.not_false, Bool.and_true, Bool.true_and, Bool.and_self, reduceCtorEq, true_implies, false_implies, implies_true, decide_eq_true_eq, Option.map_some, fpOf, fpX, SOp.xs, oX, refs, refsL, dom, disj, List.all_nil, List.all_cons, List.contains_cons, List.contains_nil, Nat.reduceBEq, Bool.or_false, Bool.false_or, List.append_nil, Bool.not_false, Bool.not_true, List.forall_mem_cons, fm0, List.set, Nat.reduceLT, ne_eq, not_false_eq_true, not_true_eq_false
, ret1, ret1N, keep0, keep1, rf_int, rf_bool, rf_str, rf_sl, rf_agg, rf_tup, rfL0, rfL1, re_t, re_cN, re_L0, re_L1, ret_tup, ret_one, decide_true, AV.bool.injEq, AV.int.injEq, Nat.reduceLeDiff, Bool.true_eq, Bool.false_eq, decide_eq_true_eq, decide_eq_false_iff_not, t_sPathOk, t_sNext, t_sLawful, t_l21Max, t_l21Min, t_next, t_lawful, Span2.row, snoc_i, Path5.av, retG_ret, ghost, retQ_eq, retOk, wkM, refsInO, keepB, re_tup, or_t, Int.toNat_natCast, noref, flatOk, List.length_map, Stp7.row, irow, un_stp, un_i, set_f, set_b, List.length_set, take_all, path_eta, true_and, rowsOf, appE]
  simp only [htk, snoc_i, un_i, Nat.sub_zero]
  refine ⟨fun h1 => ⟨trivial, fun h2 => ⟨fun h3 => ⟨by omega, by omega, by omega, by omega, ?_⟩, fun h3 => ⟨by omega, by omega, ?_⟩⟩, fun h2 => ?_⟩, fun h1 => ?_⟩
  · refine loopK_of (⟨(m : Int) + 1, m + 1, l ++ [_]⟩ : GoS) ⟨⟨.inr rfl, .inr rfl, .inr rfl, .inr rfl, trivial⟩, ⟨rfl, rfl, trivial⟩, rfl, rfl⟩ ⟨⟨by simp only; omega, by simp only; omega⟩, ?_⟩ (by simp only; omega)
    simp only
    rw [goL_step hg, if_pos h2, Path5.tick, if_pos (by omega), hl]
  · refine loopK_of (⟨(m : Int) + 1, m + 1, l ++ [_]⟩ : GoS) ⟨⟨.inr rfl, .inr rfl, .inr rfl, .inr rfl, trivial⟩, ⟨rfl, rfl, trivial⟩, rfl, rfl⟩ ⟨⟨by simp only; omega, by simp only; omega⟩, ?_⟩ (by simp only; omega)
    simp only
    rw [goL_step hg, if_pos h2, Path5.tick, if_neg (by omega)]
  · have hgo : p.go asked = none := go_none (n := m + 1) (by rw [goL_step hg, if_neg h2]) (by omega)
    exact ⟨⟨245, 0, [], false⟩, ⟨by rw [hgo]; rfl, by rw [hgo]; simp, by simp only; omega⟩, ⟨rfl, by simp⟩, rfl, rfl, rfl⟩
  · have e : m = p.l.length + 1 := by omega
    have hgo : p.go asked = if p.lawful l then some l else none := go_end (by rw [← e]; exact hg)
    refine ⟨trivial, fun h2 => ?_, fun h2 => ?_⟩
    · rw [if_pos h2] at hgo
      refine ⟨⟨165, 1 + m, l, true⟩, ⟨by rw [hgo]; rfl, by rw [hgo]; simp, by simp only; omega⟩, ⟨by simp only [hl], rfl⟩, rfl, by simp [refsIn], rfl⟩
    · rw [if_neg h2] at hgo
      exact ⟨⟨270, 0, [], false⟩, ⟨by rw [hgo]; rfl, by rw [hgo]; simp, by simp only; omega⟩, ⟨rfl, by simp⟩, rfl, rfl, rfl⟩
def r_go : RTab
  | [.agg [.int .i64 q, .int .i64 s, .sl _ 7 xs, .int .i64 f, .int .i64 b], .sl _ 1 [], .sl _ 1 ys], M => some ⟨M 190 = none ∧ ((xs.map unStp).map Stp7.row = xs ∧ (ys.map unI).map irow = ys) ∧ (xs.map unStp).length ≤ 100 ∧ (ys.map unI).length ≤ 4294967296, fun _ : Nat => True,
      fun v => .tup [.own 190 v 0 (((Path5.mk q s (xs.map unStp) f b).go (ys.map unI)).getD []).length, .bool (decide (((Path5.mk q s (xs.map unStp) f b).go (ys.map unI)).isSome = true))], fun v => [(190, .arr 3 v 1 ((((Path5.mk q s (xs.map unStp) f b).go (ys.map unI)).getD []).map irow))]⟩
  | _, _ => none
theorem h_go : okTab P 29 r_go := by
  intro args M o h hp
  unfold r_go at h
  split at h
  · rename_i q s t xs f b t2 t' ys
    cases h
    obtain ⟨h1, ⟨h2, h3⟩, h4, h5⟩ := hp
    obtain ⟨a, ⟨ha1, ha2, ha3⟩, hC⟩ := c_sGo ⟨q, s, xs.map unStp, f, b⟩ t t' t2 (ys.map unI) h4 h5
    have hC := hC.ren (swp a.o 190) (swp_swp a.o 190)
    have e : swp a.o 190 a.o = 190 := by simp [swp]
    have e2 : decide (a.ok = true) = decide (((Path5.mk q s (xs.map unStp) f b).go (ys.map unI)).isSome = true) := decide_eq_decide.2 ha2
    simp only [renL, ren, renM, renO, h2, h3, e, e2, ha1] at hC
    refine ⟨a.v, trivial, .inr (.inr ⟨_, by simp only [purL, pur, Option.map_some], hC, fun p hp => ?_, ?_, rfl, ?_, ?_⟩)⟩
    · simp only [List.mem_singleton] at hp
      rw [hp]; exact h1
    · simp [refsIn, refsInL, dom]
    · exact ⟨trivial, trivial, trivial⟩
    · intro p hp
      simp only [List.mem_singleton] at hp
      rw [hp]; exact no99_i _
  · cases h
end Go.Ve
namespace Go.Ve
open Go.Proofs
set_option linter.unusedSimpArgs false
set_option linter.unusedVariables false
set_option maxRecDepth 100000
set_option maxHeartbeats 8000000
theorem take_brow {cs : List Nat} {n : Nat} : List.take n (cs.map brow) = (cs.take n).map brow := List.map_take.symm
def isI (n : Nat) (xs : List (List AV)) : Prop := ∃ f : List Int, xs = f.map irow ∧ f.length ≤ n
theorem isI_map {n : Nat} {f : List Int} (h : f.length ≤ n) : isI n (f.map irow) := ⟨f, rfl, h⟩
theorem isI_take {n k : Nat} {xs : List (List AV)} (h : isI n xs) : isI n (xs.take k) := by
  obtain ⟨f, rfl, h⟩ := h
  exact ⟨f.take k, List.map_take.symm, by rw [List.length_take]; omega⟩
theorem isI_app {xs ys : List (List AV)} (h : isI 105 xs) (h' : isI 5 ys) : isI 110 (xs ++ ys) := by
  obtain ⟨f, rfl, h⟩ := h
  obtain ⟨g, rfl, h'⟩ := h'
  exact ⟨f ++ g, by simp, by rw [List.length_append]; omega⟩
theorem isI_1 {a : Int} : isI 5 [[.int .i64 a]] := ⟨[a], rfl, by simp⟩
theorem isI_2 {a b : Int} : isI 5 [[.int .i64 a], [.int .i64 b]] := ⟨[a, b], rfl, by simp⟩
theorem isI_0 {n : Nat} : isI n [] := ⟨[], rfl, by simp⟩
theorem c_drawLawful (cs : List Nat) (hcs : ∀ b ∈ cs, b ≤ 255) (hl : cs.length ≤ 1048576) : ∃ a : Path5 × List Int, (a.1.l.length ≤ 100 ∧ a.2.length ≤ 110) ∧ Contract P 9 [.sl 1 1 (cs.map brow)] [] (.tup [a.1.av, .sl 0 1 (a.2.map irow)]) [] := by
  refine fn_choose ((((((Env.nil P).addR 52 r_pick h_pick).addR 50 r_any h_any).addR 51 r_asked h_asked).addR 49 r_open h_open).addR 29 r_go h_go) Go.Ve.hm k_spec_DrawFlyLawful (Nat.le_of_ble_eq_true rfl) rfl (fun a : Path5 × List Int => a.1.l.length ≤ 100 ∧ a.2.length ≤ 110) (fun a => .tup [a.1.av, .sl 0 1 (a.2.map irow)]) (fun _ => []) ?_
  unfold s_spec_DrawFlyLawful
  have hB : okB ((cs.take 2000).map brow) := ⟨cs.take 2000, rfl, fun b hb => hcs b (List.mem_of_mem_take hb), by rw [List.length_take]; omega⟩
  have hR : ∀ {p lim : Int}, rdOk 0 1 1 ((cs.take 2000).map brow) p lim = (0 ≤ p ∧ p ≤ lim) := rdOk_of hB
  have hO : (∃ c : List Nat, cs.map brow = c.map brow ∧ c.length ≤ 9223372036854775807) = True := eq_true ⟨cs, rfl, by omega⟩
  simp only [w_skip, w_rg, w_rgd, w_seq, w_cond, w_block, w_loop, w_exit, w_ret, w_gh, w_rg0, w_rg1, w_rgT, w_rgF, w_run, w_psd, w_und, w_dr0, w_dr1, w_drT, w_drF, w_drRun, w_drPsd, w_drUnd, w_drKn, w_drKs, w_putK, w_trimK, w_thenN, w_thenE, w_thenR, w_scope, w_label, w_blkN, w_blkE, w_blkR, w_call, w_effK, brU_true, brU_false, brU_u, brU_not, brU_and, brU_or, brU_dec, brU_eq, brU_ne, br_true, br_false, br_not, br_and, br_or, br_dec, br_eq, br_ne, w_getE0, w_getE1, w_setE0, w_setE1, w_dropE0, w_dropE1, w_drop0, w_drop1, w_getM0, w_getM1, w_setM0, w_setM1, ev_v, ev_c, w_putS, w_putN, w_lit, w_apU0, w_apU1, w_apU2, w_trim, enumE0, enumE1, w_callWp, w_callA0, w_callA1, w_R0, w_R1, w_R2, w_T2, w_callL, w_callT, w_T1, w_T0, o_mv, o_newnil, o_pick, o_bin, o_binN, o_neg, o_not, o_eqB, o_eqS, o_conv, o_alloc, o_box, o_load1, o_loadN, o_store, o_nilck, o_faddr, o_field1, o_fieldN, o_iaddr, o_istr, o_slStr, o_slSl, o_lenS, o_lenL, o_mx, o_mn, o_ext, o_build, o_lit, o_litOwn, o_app, o_mk, o_mvfrz, l_int, l_bool, l_str, l_agg, l_sl, l_own, l_ptr, l_pp, i_int, i_bool, i_str, i_sl, i_own, i_ptr, i_pp, all0, all1, e_ok1, eff, effBin, effBinN, ld_ptr, ld_pp, ld_elt, ia_own, ia_arr, el_1, el_N, load1K, faddrE, r_iaddr, sg_S, sg_c, sg_n, purL, pur, List.map, List.drop, List.take, List.length, List.foldl, List.append_eq, List.nil_append, List.cons_append, List.getD_cons_zero, List.getD_cons_succ, reduceIte, Nat.reduceEqDiff, Nat.reduceAdd, Nat.reduceLeDiff, true_and, and_true, Bool.not_true, Bool.not_false, Bool.and_true, Bool.true_and, Bool.and_self, reduceCtorEq, true_implies, false_implies, implies_true, decide_eq_true_eq, Option.map_some, fpOf, fpX, SOp.xs, oX, refs, refsL, dom, disj, List.all_nil, List.all_cons, List.contains_cons, List.contains_nil, Nat.reduceBEq, Bool.or_false, Bool.false_or, List.append_nil, Bool.not_false, Bool.not_true, List.forall_mem_cons, fm0, List.set, Nat.reduceLT, ne_eq, not_false_eq_true, not_true_eq_false
, ret1, ret1N, keep0, keep1, rf_int, rf_bool, rf_str, rf_sl, rf_agg, rf_tup, rfL0, rfL1, re_t, re_cN, re_L0, re_L1, ret_tup, ret_one, decide_true, AV.bool.injEq, AV.int.injEq, Nat.reduceLeDiff, Bool.true_eq, Bool.false_eq, decide_eq_true_eq, decide_eq_false_iff_not, r_pick, r_any, r_asked, r_open, r_go, take_brow, hO, hR, brow, set_i, snoc_i, Sum.forall, Path5.av, retG_ret, ghost, retQ_eq, retOk, wkM, refsInO, keepB, re_tup, or_t, Int.toNat_natCast, noref, flatOk, List.length_map, Stp7.row, irow, un_stp, un_i, set_f, set_b, List.length_set, take_all, path_eta, true_and, rowsOf, appE]
  intro _
  refine ⟨by omega, fun a ha => ⟨by omega, fun b hb => ⟨by omega, fun v => ?_⟩⟩⟩
  have hgl := go_len (p := a.1) (asked := b.1)
  generalize (a.1.go b.1).getD [] = g at *
  have fin : ∀ (xs : List (List AV)), isI 110 xs → ∃ c : Path5 × List Int, (c.1.l.length ≤ 100 ∧ c.2.length ≤ 110) ∧ AV.agg [.int .i64 c.1.q, .int .i64 c.1.s, .sl 0 7 (c.1.l.map Stp7.row), .int .i64 c.1.f, .int .i64 c.1.b] = AV.agg [.int .i64 a.1.q, .int .i64 a.1.s, .sl 0 7 (a.1.l.map Stp7.row), .int .i64 a.1.f, .int .i64 a.1.b] ∧ AV.sl 0 1 xs = AV.sl 0 1 (c.2.map irow) := by
    rintro xs ⟨f, rfl, hf⟩
    exact ⟨(a.1, f), ⟨by simp only; omega, hf⟩, rfl, rfl⟩
  repeat' (first | intro _ | apply And.intro | omega | (refine fin _ ?_; repeat' (first | exact isI_map (by simp only [List.length_set, List.length_append, List.length_cons, List.length_nil]; omega) | exact isI_map (by omega) | apply isI_take | apply isI_app | exact isI_1 | exact isI_2 | exact isI_0)))
end Go.Ve
namespace Go.Ve
open Go.Proofs
set_option linter.unusedSimpArgs false
set_option linter.unusedVariables false
set_option maxRecDepth 100000
set_option maxHeartbeats 4000000
def F_first (p : Path5) (k : Nat) : St := ⟨[(5, .own 123 k 0 k), (13, .sl 0 2 (p.fitS.map Span2.row)), (14, .int .i64 p.fitS.length), (15, .int .i64 k)], [(123, .arr 3 k 1 (((p.fitS.take k).map fun s => s.lo).map irow))]⟩
theorem c_first (p : Path5) (t : Nat) (hn : p.l.length ≤ 1048576) : Contract P 15 [.agg [.int .i64 p.q, .int .i64 p.s, .sl t 7 (p.l.map Stp7.row), .int .i64 p.f, .int .i64 p.b]] [] (.sl 0 1 ((p.fitS.map fun s => s.lo).map irow)) [] := by
  refine fn_sound ((Env.nil P).add 10 t_iFit h_iFit) hm k_impl_FlyFirst (Nat.le_of_ble_eq_true rfl) rfl ?_
  unfold s_impl_FlyFirst
  simp only [w_skip, w_rg, w_rgd, w_seq, w_cond, w_block, w_loop, w_exit, w_ret, w_gh, w_rg0, w_rg1, w_rgT, w_rgF, w_run, w_psd, w_und, w_dr0, w_dr1, w_drT, w_drF, w_drRun, w_drPsd, w_drUnd, w_drKn, w_drKs, w_putK, w_trimK, w_thenN, w_thenE, w_thenR, w_scope, w_label, w_blkN, w_blkE, w_blkR, w_call, w_effK, brU_true, brU_false, brU_u, brU_not, brU_and, brU_or, brU_dec, brU_eq, brU_ne, br_true, br_false, br_not, br_and, br_or, br_dec, br_eq, br_ne, w_getE0, w_getE1, w_setE0, w_setE1, w_dropE0, w_dropE1, w_drop0, w_drop1, w_getM0, w_getM1, w_setM0, w_setM1, ev_v, ev_c, w_putS, w_putN, w_lit, w_apU0, w_apU1, w_apU2, w_trim, enumE0, enumE1, w_callWp, w_callA0, w_callA1, w_R0, w_R1, w_R2, w_T2, w_callL, w_callT, w_T1, w_T0, o_mv, o_newnil, o_pick, o_bin, o_binN, o_neg, o_not, o_eqB, o_eqS, o_conv, o_alloc, o_box, o_load1, o_loadN, o_store, o_nilck, o_faddr, o_field1, o_fieldN, o_iaddr, o_istr, o_slStr, o_slSl, o_lenS, o_lenL, o_mx, o_mn, o_ext, o_build, o_lit, o_litOwn, o_app, o_mk, o_mvfrz, l_int, l_bool, l_str, l_agg, l_sl, l_own, l_ptr, l_pp, i_int, i_bool, i_str, i_sl, i_own, i_ptr, i_pp, all0, all1, e_ok1, eff, effBin, effBinN, ld_ptr, ld_pp, ld_elt, ia_own, ia_arr, el_1, el_N, load1K, faddrE, r_iaddr, sg_S, sg_c, sg_n, purL, pur, List.map, List.drop, List.take, List.length, List.foldl, List.append_eq, List.nil_append, List.cons_append, List.getD_cons_zero, List.getD_cons_succ, reduceIte, Nat.reduceEqDiff, Nat.reduceAdd, Nat.reduceLeDiff, true_and, and_true, Bool.not_true, Bool.not_false, Bool.and_true, Bool.true_and, Bool.and_self, reduceCtorEq, true_implies, false_implies, implies_true, decide_eq_true_eq, Option.map_some, fpOf, fpX, SOp.xs, oX, refs, refsL, dom, disj, List.all_nil, List.all_cons, List.contains_cons, List.contains_nil, Nat.reduceBEq, Bool.or_false, Bool.false_or, List.append_nil, Bool.not_false, Bool.not_true, List.forall_mem_cons, fm0, List.set, Nat.reduceLT, ne_eq, not_false_eq_true, not_true_eq_false
, ret1, ret1N, keep0, keep1, rf_int, rf_bool, rf_str, rf_sl, rf_agg, rf_tup, rfL0, rfL1, re_t, re_cN, re_L0, re_L1, ret_tup, ret_one, decide_true, AV.bool.injEq, AV.int.injEq, Nat.reduceLeDiff, Bool.true_eq, Bool.false_eq, decide_eq_true_eq, decide_eq_false_iff_not, t_iFit, t_fit, Span2.row, snoc_i, take_all, List.length_map, irow, un_stp, path_eta, rowsOf, appE, ghost, flatOk, noref, Int.toNat_natCast, Nat.zero_add, Nat.sub_zero]
  have hfl := fitS_len p
  refine loop_of (F_first p) (fun k => k ≤ p.fitS.length) (fun k => p.fitS.length - k) 0 ⟨⟨.inr rfl, .inr rfl, .inr rfl, .inr rfl, trivial⟩, ⟨rfl, trivial⟩, rfl, rfl⟩ (Nat.zero_le _) ?_
  intro k hk
  have htk : List.take k (((p.fitS.take k).map fun s => s.lo).map irow) = ((p.fitS.take k).map fun s => s.lo).map irow := List.take_of_length_le (by simp; omega)
  unfold l_impl_FlyFirst_0 F_first
  simp only [w_skip, w_rg, w_rgd, w_seq, w_cond, w_block, w_loop, w_exit, w_ret, w_gh, w_rg0, w_rg1, w_rgT, w_rgF, w_run, w_psd, w_und, w_dr0, w_dr1, w_drT, w_drF, w_drRun, w_drPsd, w_drUnd, w_drKn, w_drKs, w_putK, w_trimK, w_thenN, w_thenE, w_thenR, w_scope, w_label, w_blkN, w_blkE, w_blkR, w_call, w_effK, brU_true, brU_false, brU_u, brU_not, brU_and, brU_or, brU_dec, brU_eq, brU_ne, br_true, br_false, br_not, br_and, br_or, br_dec, br_eq, br_ne, w_getE0, w_getE1, w_setE0, w_setE1, w_dropE0, w_dropE1, w_drop0, w_drop1, w_getM0, w_getM1, w_setM0, w_setM1, ev_v, ev_c, w_putS, w_putN, w_lit, w_apU0, w_apU1, w_apU2, w_trim, enumE0, enumE1, w_callWp, w_callA0, w_callA1, w_R0, w_R1, w_R2, w_T2, w_callL, w_callT, w_T1, w_T0, o_mv, o_newnil, o_pick, o_bin, o_binN, o_neg, o_not, o_eqB, o_eqS, o_conv, o_alloc, o_box, o_load1, o_loadN, o_store, o_nilck, o_faddr, o_field1, o_fieldN, o_iaddr, o_istr, o_slStr, o_slSl, o_lenS, o_lenL, o_mx, o_mn, o_ext, o_build, o_lit, o_litOwn, o_app, o_mk, o_mvfrz, l_int, l_bool, l_str, l_agg, l_sl, l_own, l_ptr, l_pp, i_int, i_bool, i_str, i_sl, i_own, i_ptr, i_pp, all0, all1, e_ok1, eff, effBin, effBinN, ld_ptr, ld_pp, ld_elt, ia_own, ia_arr, el_1, el_N, load1K, faddrE, r_iaddr, sg_S, sg_c, sg_n, purL, pur, List.map, List.drop, List.take, List.length, List.foldl, List.append_eq, List.nil_append, List.cons_append, List.getD_cons_zero, List.getD_cons_succ, reduceIte, Nat.reduceEqDiff, Nat.reduceAdd, Nat.reduceLeDiff, true_and, and_true, Bool.not_true, Bool.not_false, Bool.and_true, Bool.true_and, Bool.and_self, reduceCtorEq, true_implies, false_implies, implies_true, decide_eq_true_eq, Option.map_some, fpOf, fpX, SOp.xs, oX, refs, refsL, dom, disj, List.all_nil, List.all_cons, List.contains_cons, List.contains_nil, Nat.reduceBEq, Bool.or_false, Bool.false_or, List.append_nil, Bool.not_false, Bool.not_true, List.forall_mem_cons, fm0, List.set, Nat.reduceLT, ne_eq, not_false_eq_true, not_true_eq_false
, ret1, ret1N, keep0, keep1, rf_int, rf_bool, rf_str, rf_sl, rf_agg, rf_tup, rfL0, rfL1, re_t, re_cN, re_L0, re_L1, ret_tup, ret_one, decide_true, AV.bool.injEq, AV.int.injEq, Nat.reduceLeDiff, Bool.true_eq, Bool.false_eq, decide_eq_true_eq, decide_eq_false_iff_not, t_iFit, t_fit, Span2.row, snoc_i, take_all, List.length_map, irow, un_stp, path_eta, rowsOf, appE, ghost, flatOk, noref, Int.toNat_natCast, Nat.zero_add, Nat.sub_zero]
  simp only [htk, snoc_i]
  have ex : k < p.fitS.length → (p.fitS.take k).map (fun s => s.lo) ++ [(p.fitS.getD k default).lo] = (p.fitS.take (k + 1)).map (fun s => s.lo) := fun h => by
    rw [List.take_succ_eq_append_getElem h, List.map_append]; congr 1; simp [h]
  refine ⟨fun h => ⟨by omega, by omega, by omega, by omega, loopK_of (k + 1) ⟨⟨.inr rfl, .inr rfl, .inr rfl, .inr rfl, trivial⟩, ⟨by rw [ex (by omega)]; rfl, trivial⟩, rfl, rfl⟩ (by omega) (by omega)⟩, fun h => ?_⟩
  rw [List.take_of_length_le (show p.fitS.length ≤ k by omega)]
def F_last (p : Path5) (k : Nat) : St := ⟨[(5, .own 123 k 0 k), (13, .sl 0 2 (p.fitS.map Span2.row)), (14, .int .i64 p.fitS.length), (15, .int .i64 k)], [(123, .arr 3 k 1 (((p.fitS.take k).map fun s => s.hi).map irow))]⟩
theorem c_last (p : Path5) (t : Nat) (hn : p.l.length ≤ 1048576) : Contract P 16 [.agg [.int .i64 p.q, .int .i64 p.s, .sl t 7 (p.l.map Stp7.row), .int .i64 p.f, .int .i64 p.b]] [] (.sl 0 1 ((p.fitS.map fun s => s.hi).map irow)) [] := by
  refine fn_sound ((Env.nil P).add 10 t_iFit h_iFit) hm k_impl_FlyLast (Nat.le_of_ble_eq_true rfl) rfl ?_
  unfold s_impl_FlyLast
  simp only [w_skip, w_rg, w_rgd, w_seq, w_cond, w_block, w_loop, w_exit, w_ret, w_gh, w_rg0, w_rg1, w_rgT, w_rgF, w_run, w_psd, w_und, w_dr0, w_dr1, w_drT, w_drF, w_drRun, w_drPsd, w_drUnd, w_drKn, w_drKs, w_putK, w_trimK, w_thenN, w_thenE, w_thenR, w_scope, w_label, w_blkN, w_blkE, w_blkR, w_call, w_effK, brU_true, brU_false, brU_u, brU_not, brU_and, brU_or, brU_dec, brU_eq, brU_ne, br_true, br_false, br_not, br_and, br_or, br_dec, br_eq, br_ne, w_getE0, w_getE1, w_setE0, w_setE1, w_dropE0, w_dropE1, w_drop0, w_drop1, w_getM0, w_getM1, w_setM0, w_setM1, ev_v, ev_c, w_putS, w_putN, w_lit, w_apU0, w_apU1, w_apU2, w_trim, enumE0, enumE1, w_callWp, w_callA0, w_callA1, w_R0, w_R1, w_R2, w_T2, w_callL, w_callT, w_T1, w_T0, o_mv, o_newnil, o_pick, o_bin, o_binN, o_neg, o_not, o_eqB, o_eqS, o_conv, o_alloc, o_box, o_load1, o_loadN, o_store, o_nilck, o_faddr, o_field1, o_fieldN, o_iaddr, o_istr, o_slStr, o_slSl, o_lenS, o_lenL, o_mx, o_mn, o_ext, o_build, o_lit, o_litOwn, o_app, o_mk, o_mvfrz, l_int, l_bool, l_str, l_agg, l_sl, l_own, l_ptr, l_pp, i_int, i_bool, i_str, i_sl, i_own, i_ptr, i_pp, all0, all1, e_ok1, eff, effBin, effBinN, ld_ptr, ld_pp, ld_elt, ia_own, ia_arr, el_1, el_N, load1K, faddrE, r_iaddr, sg_S, sg_c, sg_n, purL, pur, List.map, List.drop, List.take, List.length, List.foldl, List.append_eq, List.nil_append, List.cons_append, List.getD_cons_zero, List.getD_cons_succ, reduceIte, Nat.reduceEqDiff, Nat.reduceAdd, Nat.reduceLeDiff, true_and, and_true, Bool.not_true, Bool.not_false, Bool.and_true, Bool.true_and, Bool.and_self, reduceCtorEq, true_implies, false_implies, implies_true, decide_eq_true_eq, Option.map_some, fpOf, fpX, SOp.xs, oX, refs, refsL, dom, disj, List.all_nil, List.all_cons, List.contains_cons, List.contains_nil, Nat.reduceBEq, Bool.or_false, Bool.false_or, List.append_nil, Bool.not_false, Bool.not_true, List.forall_mem_cons, fm0, List.set, Nat.reduceLT, ne_eq, not_false_eq_true, not_true_eq_false
, ret1, ret1N, keep0, keep1, rf_int, rf_bool, rf_str, rf_sl, rf_agg, rf_tup, rfL0, rfL1, re_t, re_cN, re_L0, re_L1, ret_tup, ret_one, decide_true, AV.bool.injEq, AV.int.injEq, Nat.reduceLeDiff, Bool.true_eq, Bool.false_eq, decide_eq_true_eq, decide_eq_false_iff_not, t_iFit, t_fit, Span2.row, snoc_i, take_all, List.length_map, irow, un_stp, path_eta, rowsOf, appE, ghost, flatOk, noref, Int.toNat_natCast, Nat.zero_add, Nat.sub_zero]
  have hfl := fitS_len p
  refine loop_of (F_last p) (fun k => k ≤ p.fitS.length) (fun k => p.fitS.length - k) 0 ⟨⟨.inr rfl, .inr rfl, .inr rfl, .inr rfl, trivial⟩, ⟨rfl, trivial⟩, rfl, rfl⟩ (Nat.zero_le _) ?_
  intro k hk
  have htk : List.take k (((p.fitS.take k).map fun s => s.hi).map irow) = ((p.fitS.take k).map fun s => s.hi).map irow := List.take_of_length_le (by simp; omega)
  unfold l_impl_FlyLast_0 F_last
  simp only [w_skip, w_rg, w_rgd, w_seq, w_cond, w_block, w_loop, w_exit, w_ret, w_gh, w_rg0, w_rg1, w_rgT, w_rgF, w_run, w_psd, w_und, w_dr0, w_dr1, w_drT, w_drF, w_drRun, w_drPsd, w_drUnd, w_drKn, w_drKs, w_putK, w_trimK, w_thenN, w_thenE, w_thenR, w_scope, w_label, w_blkN, w_blkE, w_blkR, w_call, w_effK, brU_true, brU_false, brU_u, brU_not, brU_and, brU_or, brU_dec, brU_eq, brU_ne, br_true, br_false, br_not, br_and, br_or, br_dec, br_eq, br_ne, w_getE0, w_getE1, w_setE0, w_setE1, w_dropE0, w_dropE1, w_drop0, w_drop1, w_getM0, w_getM1, w_setM0, w_setM1, ev_v, ev_c, w_putS, w_putN, w_lit, w_apU0, w_apU1, w_apU2, w_trim, enumE0, enumE1, w_callWp, w_callA0, w_callA1, w_R0, w_R1, w_R2, w_T2, w_callL, w_callT, w_T1, w_T0, o_mv, o_newnil, o_pick, o_bin, o_binN, o_neg, o_not, o_eqB, o_eqS, o_conv, o_alloc, o_box, o_load1, o_loadN, o_store, o_nilck, o_faddr, o_field1, o_fieldN, o_iaddr, o_istr, o_slStr, o_slSl, o_lenS, o_lenL, o_mx, o_mn, o_ext, o_build, o_lit, o_litOwn, o_app, o_mk, o_mvfrz, l_int, l_bool, l_str, l_agg, l_sl, l_own, l_ptr, l_pp, i_int, i_bool, i_str, i_sl, i_own, i_ptr, i_pp, all0, all1, e_ok1, eff, effBin, effBinN, ld_ptr, ld_pp, ld_elt, ia_own, ia_arr, el_1, el_N, load1K, faddrE, r_iaddr, sg_S, sg_c, sg_n, purL, pur, List.map, List.drop, List.take, List.length, List.foldl, List.append_eq, List.nil_append, List.cons_append, List.getD_cons_zero, List.getD_cons_succ, reduceIte, Nat.reduceEqDiff, Nat.reduceAdd, Nat.reduceLeDiff, true_and, and_true, Bool.not_true, Bool.not_false, Bool.and_true, Bool.true_and, Bool.and_self, reduceCtorEq, true_implies, false_implies, implies_true, decide_eq_true_eq, Option.map_some, fpOf, fpX, SOp.xs, oX, refs, refsL, dom, disj, List.all_nil, List.all_cons, List.contains_cons, List.contains_nil, Nat.reduceBEq, Bool.or_false, Bool.false_or, List.append_nil, Bool.not_false, Bool.not_true, List.forall_mem_cons, fm0, List.set, Nat.reduceLT, ne_eq, not_false_eq_true, not_true_eq_false
, ret1, ret1N, keep0, keep1, rf_int, rf_bool, rf_str, rf_sl, rf_agg, rf_tup, rfL0, rfL1, re_t, re_cN, re_L0, re_L1, ret_tup, ret_one, decide_true, AV.bool.injEq, AV.int.injEq, Nat.reduceLeDiff, Bool.true_eq, Bool.false_eq, decide_eq_true_eq, decide_eq_false_iff_not, t_iFit, t_fit, Span2.row, snoc_i, take_all, List.length_map, irow, un_stp, path_eta, rowsOf, appE, ghost, flatOk, noref, Int.toNat_natCast, Nat.zero_add, Nat.sub_zero]
  simp only [htk, snoc_i]
  have ex : k < p.fitS.length → (p.fitS.take k).map (fun s => s.hi) ++ [(p.fitS.getD k default).hi] = (p.fitS.take (k + 1)).map (fun s => s.hi) := fun h => by
    rw [List.take_succ_eq_append_getElem h, List.map_append]; congr 1; simp [h]
  refine ⟨fun h => ⟨by omega, by omega, by omega, by omega, loopK_of (k + 1) ⟨⟨.inr rfl, .inr rfl, .inr rfl, .inr rfl, trivial⟩, ⟨by rw [ex (by omega)]; rfl, trivial⟩, rfl, rfl⟩ (by omega) (by omega)⟩, fun h => ?_⟩
  rw [List.take_of_length_le (show p.fitS.length ≤ k by omega)]
instance : DecidableEq Span2 := fun a b => decidable_of_iff (a.lo = b.lo ∧ a.hi = b.hi) ⟨fun h => by cases a; cases b; simp_all, fun h => by subst h; exact ⟨rfl, rfl⟩⟩
def F_wfs (t t' : Nat) (a : List Span2) (i : Nat) : St := ⟨[(0, .sl t 2 (a.map Span2.row)), (1, .sl t' 2 (a.map Span2.row)), (5, .int .i64 i)], []⟩
theorem c_wfSpans (t t' : Nat) (a : List Span2) (ha : a.length ≤ 4611686018427387904) : Contract P 12 [.sl t 2 (a.map Span2.row), .sl t' 2 (a.map Span2.row)] [] (.bool true) [] := by
  refine fn_sound (Env.nil P) Go.Ve.hm k_laws_wfSpans (Nat.le_of_ble_eq_true rfl) rfl ?_
  unfold s_laws_wfSpans
  simp only [w_skip, w_rg, w_rgd, w_seq, w_cond, w_block, w_loop, w_exit, w_ret, w_gh, w_rg0, w_rg1, w_rgT, w_rgF, w_run, w_psd, w_und, w_dr0, w_dr1, w_drT, w_drF, w_drRun, w_drPsd, w_drUnd, w_drKn, w_drKs, w_putK, w_trimK, w_thenN, w_thenE, w_thenR, w_scope, w_label, w_blkN, w_blkE, w_blkR, w_call, w_effK, brU_true, brU_false, brU_u, brU_not, brU_and, brU_or, brU_dec, brU_eq, brU_ne, br_true, br_false, br_not, br_and, br_or, br_dec, br_eq, br_ne, w_getE0, w_getE1, w_setE0, w_setE1, w_dropE0, w_dropE1, w_drop0, w_drop1, w_getM0, w_getM1, w_setM0, w_setM1, ev_v, ev_c, w_putS, w_putN, w_lit, w_apU0, w_apU1, w_apU2, w_trim, enumE0, enumE1, w_callWp, w_callA0, w_callA1, w_R0, w_R1, w_R2, w_T2, w_callL, w_callT, w_T1, w_T0, o_mv, o_newnil, o_pick, o_bin, o_binN, o_neg, o_not, o_eqB, o_eqS, o_conv, o_alloc, o_box, o_load1, o_loadN, o_store, o_nilck, o_faddr, o_field1, o_fieldN, o_iaddr, o_istr, o_slStr, o_slSl, o_lenS, o_lenL, o_mx, o_mn, o_ext, o_build, o_lit, o_litOwn, o_app, o_mk, o_mvfrz, l_int, l_bool, l_str, l_agg, l_sl, l_own, l_ptr, l_pp, i_int, i_bool, i_str, i_sl, i_own, i_ptr, i_pp, all0, all1, e_ok1, eff, effBin, effBinN, ld_ptr, ld_pp, ld_elt, ia_own, ia_arr, el_1, el_N, load1K, faddrE, r_iaddr, sg_S, sg_c, sg_n, purL, pur, List.map, List.drop, List.take, List.length, List.foldl, List.append_eq, List.nil_append, List.cons_append, List.getD_cons_zero, List.getD_cons_succ, reduceIte, Nat.reduceEqDiff, Nat.reduceAdd, Nat.reduceLeDiff, true_and, and_true, Bool.not_true, Bool.not_false, Bool.and_true, Bool.true_and, Bool.and_self, reduceCtorEq, true_implies, false_implies, implies_true, decide_eq_true_eq, Option.map_some, fpOf, fpX, SOp.xs, oX, refs, refsL, dom, disj, List.all_nil, List.all_cons, List.contains_cons, List.contains_nil, Nat.reduceBEq, Bool.or_false, Bool.false_or, List.append_nil, Bool.not_false, Bool.not_true, List.forall_mem_cons, fm0, List.set, Nat.reduceLT, ne_eq, not_false_eq_true, not_true_eq_false
, ret1, ret1N, keep0, keep1, rf_int, rf_bool, rf_str, rf_sl, rf_agg, rf_tup, rfL0, rfL1, re_t, re_cN, re_L0, re_L1, ret_tup, ret_one, decide_true, AV.bool.injEq, AV.int.injEq, Nat.reduceLeDiff, Bool.true_eq, Bool.false_eq, decide_eq_true_eq, decide_eq_false_iff_not, eq_self, bne_self_eq_false, Span2.row, List.length_map, Int.toNat_natCast, eqLs, eqLeaf, beq_self_eq_true, Bool.and_self, Bool.not_true, Option.map_some]
  refine loop_of (F_wfs t t' a) (fun k => k ≤ a.length) (fun k => a.length - k) 0 ⟨⟨.inr rfl, .inr rfl, .inr rfl, trivial⟩, trivial, rfl, rfl⟩ (Nat.zero_le _) ?_
  intro k hk
  unfold l_laws_wfSpans_0 F_wfs
  simp only [w_skip, w_rg, w_rgd, w_seq, w_cond, w_block, w_loop, w_exit, w_ret, w_gh, w_rg0, w_rg1, w_rgT, w_rgF, w_run, w_psd, w_und, w_dr0, w_dr1, w_drT, w_drF, w_drRun, w_drPsd, w_drUnd, w_drKn, w_drKs, w_putK, w_trimK, w_thenN, w_thenE, w_thenR, w_scope, w_label, w_blkN, w_blkE, w_blkR, w_call, w_effK, brU_true, brU_false, brU_u, brU_not, brU_and, brU_or, brU_dec, brU_eq, brU_ne, br_true, br_false, br_not, br_and, br_or, br_dec, br_eq, br_ne, w_getE0, w_getE1, w_setE0, w_setE1, w_dropE0, w_dropE1, w_drop0, w_drop1, w_getM0, w_getM1, w_setM0, w_setM1, ev_v, ev_c, w_putS, w_putN, w_lit, w_apU0, w_apU1, w_apU2, w_trim, enumE0, enumE1, w_callWp, w_callA0, w_callA1, w_R0, w_R1, w_R2, w_T2, w_callL, w_callT, w_T1, w_T0, o_mv, o_newnil, o_pick, o_bin, o_binN, o_neg, o_not, o_eqB, o_eqS, o_conv, o_alloc, o_box, o_load1, o_loadN, o_store, o_nilck, o_faddr, o_field1, o_fieldN, o_iaddr, o_istr, o_slStr, o_slSl, o_lenS, o_lenL, o_mx, o_mn, o_ext, o_build, o_lit, o_litOwn, o_app, o_mk, o_mvfrz, l_int, l_bool, l_str, l_agg, l_sl, l_own, l_ptr, l_pp, i_int, i_bool, i_str, i_sl, i_own, i_ptr, i_pp, all0, all1, e_ok1, eff, effBin, effBinN, ld_ptr, ld_pp, ld_elt, ia_own, ia_arr, el_1, el_N, load1K, faddrE, r_iaddr, sg_S, sg_c, sg_n, purL, pur, List.map, List.drop, List.take, List.length, List.foldl, List.append_eq, List.nil_append, List.cons_append, List.getD_cons_zero, List.getD_cons_succ, reduceIte, Nat.reduceEqDiff, Nat.reduceAdd, Nat.reduceLeDiff, true_and, and_true, Bool.not_true, Bool.not_false, Bool.and_true, Bool.true_and, Bool.and_self, reduceCtorEq, true_implies, false_implies, implies_true, decide_eq_true_eq, Option.map_some, fpOf, fpX, SOp.xs, oX, refs, refsL, dom, disj, List.all_nil, List.all_cons, List.contains_cons, List.contains_nil, Nat.reduceBEq, Bool.or_false, Bool.false_or, List.append_nil, Bool.not_false, Bool.not_true, List.forall_mem_cons, fm0, List.set, Nat.reduceLT, ne_eq, not_false_eq_true, not_true_eq_false
, ret1, ret1N, keep0, keep1, rf_int, rf_bool, rf_str, rf_sl, rf_agg, rf_tup, rfL0, rfL1, re_t, re_cN, re_L0, re_L1, ret_tup, ret_one, decide_true, AV.bool.injEq, AV.int.injEq, Nat.reduceLeDiff, Bool.true_eq, Bool.false_eq, decide_eq_true_eq, decide_eq_false_iff_not, eq_self, bne_self_eq_false, Span2.row, List.length_map, Int.toNat_natCast, eqLs, eqLeaf, beq_self_eq_true, Bool.and_self, Bool.not_true, Option.map_some]
  exact fun h => ⟨by omega, by omega, by omega, by omega, by omega, loopK_of (k + 1) ⟨⟨.inr rfl, .inr rfl, .inr rfl, trivial⟩, trivial, rfl, rfl⟩ (by omega) (by omega)⟩
end Go.Ve
namespace Go.Ve
open Go.Proofs
set_option linter.unusedSimpArgs false
set_option linter.unusedVariables false
set_option maxRecDepth 100000
set_option maxHeartbeats 4000000
def F_alw (p : Path5) (t t' : Nat) (f : List Int) (k : Nat) : St := ⟨[(1, .sl t' 1 (f.map irow)), (2, .ptr 102 0), (5, .int .i64 p.l.length), (6, .int .i64 k)], [(102, .box [.int .i64 p.q, .int .i64 p.s, .sl t 7 (p.l.map Stp7.row), .int .i64 p.f, .int .i64 p.b])]⟩
/-- One step that is allowed, by numbers that may wrap. -/
def Path5.alw (p : Path5) (f : List Int) (j : Nat) : Prop := (p.low j ≤ f.getD j default ∧ f.getD j default ≤ p.high j) ∧ p.q ≤ IntKind.i64.wrap (f.getD (j + 1) default - f.getD j default) ∧ IntKind.i64.wrap (f.getD (j + 1) default - f.getD j default) ≤ (if (p.l.getD j default).hold then 9223372036854775807 else p.s)
theorem wrap_le (a : Int) : IntKind.i64.wrap a ≤ 9223372036854775807 := by
  rw [IntWalk.i64_left]; unfold RowKit.wrap64; omega
theorem law_alw {p : Path5} {f : List Int} (h1 : pathOk p.q p.s p.l p.f p.b) (h : p.lawful f) {k : Nat} (hk : k < p.l.length) : p.alw f k := by
  have hc := ok_calm h1
  obtain ⟨_, hl, hs⟩ := h
  have a1 := (hs k (by omega)).1
  have a2 := (hs (k + 1) (by omega)).1
  have a3 := (hs (k + 1) (by omega)).2 (by omega)
  rw [show k + 1 - 1 = k by omega] at a3
  have b1 := hc.lo k (by omega)
  have b2 := hc.hi k (by omega)
  have b3 := hc.lo (k + 1) (by omega)
  have b4 := hc.hi (k + 1) (by omega)
  refine ⟨a1, ?_⟩
  rw [IntWalk.i64_in _ (by omega)]
  refine ⟨a3.1, ?_⟩
  have := a3.2
  unfold Path5.most at this
  split <;> split at this <;> simp_all <;> omega
theorem alw_law {p : Path5} {f : List Int} (h1 : pathOk p.q p.s p.l p.f p.b) (hl : f.length = p.l.length + 1) (hs : ∀ j, j < p.l.length → p.alw f j) (he : p.f ≤ f.getD p.l.length default ∧ f.getD p.l.length default ≤ p.b) : p.lawful f := by
  have hc := ok_calm h1
  have hr : ∀ j, j < f.length → p.low j ≤ f.getD j default ∧ f.getD j default ≤ p.high j := fun j hj => by
    by_cases e : j = p.l.length
    · rw [e]; unfold Path5.low Path5.high; simp only [Nat.lt_irrefl, if_false]; exact he
    · exact (hs j (by omega)).1
  refine ⟨h1, hl, fun j hj => ⟨hr j hj, fun h0 => ?_⟩⟩
  have a1 := hr j hj
  have a2 := hr (j - 1) (by omega)
  have b1 := hc.lo j (by omega)
  have b2 := hc.hi j (by omega)
  have b3 := hc.lo (j - 1) (by omega)
  have b4 := hc.hi (j - 1) (by omega)
  have a3 := (hs (j - 1) (by omega)).2
  rw [show j - 1 + 1 = j by omega, IntWalk.i64_in _ (by omega)] at a3
  refine ⟨a3.1, ?_⟩
  have := a3.2
  unfold Path5.most
  cases hd : (p.l.getD (j - 1) default).hold <;> rw [hd] at this <;> simp only [Bool.false_eq_true, if_false, if_true] at this ⊢ <;> omega
theorem c_wfAllowed (p : Path5) (t t' : Nat) (f : List Int) (h1 : pathOk p.q p.s p.l p.f p.b) : Contract P 17 [.agg [.int .i64 p.q, .int .i64 p.s, .sl t 7 (p.l.map Stp7.row), .int .i64 p.f, .int .i64 p.b], .sl t' 1 (f.map irow)] [] (.bool (decide (p.lawful f))) [] := by
  refine fn_sound (Env.nil P) Go.Ve.hm k_laws_wfAllowed (Nat.le_of_ble_eq_true rfl) rfl ?_
  unfold s_laws_wfAllowed
  have hn := h1.2.1
  have hw0 : IntKind.i64.wrap ((p.l.length : Int) + 1) = p.l.length + 1 := wrap_succ (by omega)
  simp only [w_skip, w_rg, w_rgd, w_seq, w_cond, w_block, w_loop, w_exit, w_ret, w_gh, w_rg0, w_rg1, w_rgT, w_rgF, w_run, w_psd, w_und, w_dr0, w_dr1, w_drT, w_drF, w_drRun, w_drPsd, w_drUnd, w_drKn, w_drKs, w_putK, w_trimK, w_thenN, w_thenE, w_thenR, w_scope, w_label, w_blkN, w_blkE, w_blkR, w_call, w_effK, brU_true, brU_false, brU_u, brU_not, brU_and, brU_or, brU_dec, brU_eq, brU_ne, br_true, br_false, br_not, br_and, br_or, br_dec, br_eq, br_ne, w_getE0, w_getE1, w_setE0, w_setE1, w_dropE0, w_dropE1, w_drop0, w_drop1, w_getM0, w_getM1, w_setM0, w_setM1, ev_v, ev_c, w_putS, w_putN, w_lit, w_apU0, w_apU1, w_apU2, w_trim, enumE0, enumE1, w_callWp, w_callA0, w_callA1, w_R0, w_R1, w_R2, w_T2, w_callL, w_callT, w_T1, w_T0, o_mv, o_newnil, o_pick, o_bin, o_binN, o_neg, o_not, o_eqB, o_eqS, o_conv, o_alloc, o_box, o_load1, o_loadN, o_store, o_nilck, o_faddr, o_field1, o_fieldN, o_iaddr, o_istr, o_slStr, o_slSl, o_lenS, o_lenL, o_mx, o_mn, o_ext, o_build, o_lit, o_litOwn, o_app, o_mk, o_mvfrz, l_int, l_bool, l_str, l_agg, l_sl, l_own, l_ptr, l_pp, i_int, i_bool, i_str, i_sl, i_own, i_ptr, i_pp, all0, all1, e_ok1, eff, effBin, effBinN, ld_ptr, ld_pp, ld_elt, ia_own, ia_arr, el_1, el_N, load1K, faddrE, r_iaddr, sg_S, sg_c, sg_n, purL, pur, List.map, List.drop, List.take, List.length, List.foldl, List.append_eq, List.nil_append, List.cons_append, List.getD_cons_zero, List.getD_cons_succ, reduceIte, Nat.reduceEqDiff, Nat.reduceAdd, Nat.reduceLeDiff, true_and, and_true, Bool.not_true, Bool.not_false, Bool.and_true, Bool.true_and, Bool.and_self, reduceCtorEq, true_implies, false_implies, implies_true, decide_eq_true_eq, Option.map_some, fpOf, fpX, SOp.xs, oX, refs, refsL, dom, disj, List.all_nil, List.all_cons, List.contains_cons, List.contains_nil, Nat.reduceBEq, Bool.or_false, Bool.false_or, List.append_nil, Bool.not_false, Bool.not_true, List.forall_mem_cons, fm0, List.set, Nat.reduceLT, ne_eq, not_false_eq_true, not_true_eq_false
, ret1, ret1N, keep0, keep1, rf_int, rf_bool, rf_str, rf_sl, rf_agg, rf_tup, rfL0, rfL1, re_t, re_cN, re_L0, re_L1, ret_tup, ret_one, decide_true, AV.bool.injEq, AV.int.injEq, Nat.reduceLeDiff, Bool.true_eq, Bool.false_eq, decide_eq_true_eq, decide_eq_false_iff_not, hw0, Stp7.row, irow, List.length_map, un_stp, path_eta, flatOk, noref, ghost, Int.toNat_natCast, Nat.zero_add, Nat.sub_zero]
  refine ⟨fun h2 h => h2 (by have := h.2.1; omega), fun h2 => ?_⟩
  have hc := ok_calm h1
  have hl : f.length = p.l.length + 1 := by omega
  refine loop_of (F_alw p t t' f) (fun k => k ≤ p.l.length ∧ ∀ j, j < k → p.alw f j) (fun k => p.l.length - k) 0 ⟨⟨.inr rfl, .inr rfl, .inr rfl, .inr rfl, trivial⟩, ⟨rfl, trivial⟩, rfl, rfl⟩ ⟨Nat.zero_le _, fun j hj => by omega⟩ ?_
  rintro k ⟨hk, hs⟩
  have hw1 : IntKind.i64.wrap ((k : Int) + 1) = k + 1 := wrap_succ (by omega)
  cases hh : (p.l.getD k default).hold with
  | false =>
    unfold l_laws_wfAllowed_0 F_alw
    simp only [w_skip, w_rg, w_rgd, w_seq, w_cond, w_block, w_loop, w_exit, w_ret, w_gh, w_rg0, w_rg1, w_rgT, w_rgF, w_run, w_psd, w_und, w_dr0, w_dr1, w_drT, w_drF, w_drRun, w_drPsd, w_drUnd, w_drKn, w_drKs, w_putK, w_trimK, w_thenN, w_thenE, w_thenR, w_scope, w_label, w_blkN, w_blkE, w_blkR, w_call, w_effK, brU_true, brU_false, brU_u, brU_not, brU_and, brU_or, brU_dec, brU_eq, brU_ne, br_true, br_false, br_not, br_and, br_or, br_dec, br_eq, br_ne, w_getE0, w_getE1, w_setE0, w_setE1, w_dropE0, w_dropE1, w_drop0, w_drop1, w_getM0, w_getM1, w_setM0, w_setM1, ev_v, ev_c, w_putS, w_putN, w_lit, w_apU0, w_apU1, w_apU2, w_trim, enumE0, enumE1, w_callWp, w_callA0, w_callA1, w_R0, w_R1, w_R2, w_T2, w_callL, w_callT, w_T1, w_T0, o_mv, o_newnil, o_pick, o_bin, o_binN, o_neg, o_not, o_eqB, o_eqS, o_conv, o_alloc, o_box, o_load1, o_loadN, o_store, o_nilck, o_faddr, o_field1, o_fieldN, o_iaddr, o_istr, o_slStr, o_slSl, o_lenS, o_lenL, o_mx, o_mn, o_ext, o_build, o_lit, o_litOwn, o_app, o_mk, o_mvfrz, l_int, l_bool, l_str, l_agg, l_sl, l_own, l_ptr, l_pp, i_int, i_bool, i_str, i_sl, i_own, i_ptr, i_pp, all0, all1, e_ok1, eff, effBin, effBinN, ld_ptr, ld_pp, ld_elt, ia_own, ia_arr, el_1, el_N, load1K, faddrE, r_iaddr, sg_S, sg_c, sg_n, purL, pur, List.map, List.drop, List.take, List.length, List.foldl, List.append_eq, List.nil_append, List.cons_append, List.getD_cons_zero, List.getD_cons_succ, reduceIte, Nat.reduceEqDiff, Nat.reduceAdd, Nat.reduceLeDiff, true_and, and_true, Bool.not_true, Bool.not_false, Bool.and_true, Bool.true_and, Bool.and_self, reduceCtorEq, true_implies, false_implies, implies_true, decide_eq_true_eq, Option.map_some, fpOf, fpX, SOp.xs, oX, refs, refsL, dom, disj, List.all_nil, List.all_cons, List.contains_cons, List.contains_nil, Nat.reduceBEq, Bool.or_false, Bool.false_or, List.append_nil, Bool.not_false, Bool.not_true, List.forall_mem_cons, fm0, List.set, Nat.reduceLT, ne_eq, not_false_eq_true, not_true_eq_false
, ret1, ret1N, keep0, keep1, rf_int, rf_bool, rf_str, rf_sl, rf_agg, rf_tup, rfL0, rfL1, re_t, re_cN, re_L0, re_L1, ret_tup, ret_one, decide_true, AV.bool.injEq, AV.int.injEq, Nat.reduceLeDiff, Bool.true_eq, Bool.false_eq, decide_eq_true_eq, decide_eq_false_iff_not, toNat_succ, hw1, Stp7.row, irow, List.length_map, un_stp, path_eta, flatOk, noref, ghost, Int.toNat_natCast, Nat.zero_add, Nat.sub_zero, hh]
    have hlow : p.low k = (p.l.getD k default).f ∨ ¬ k < p.l.length := by by_cases h : k < p.l.length <;> simp [Path5.low, h]
    have hhigh : p.high k = (p.l.getD k default).b ∨ ¬ k < p.l.length := by by_cases h : k < p.l.length <;> simp [Path5.high, h]
    have nx : ∀ (h : p.alw f k), ∀ j, j < k + 1 → p.alw f j := fun h j hj => by
      by_cases e : j = k
      · rw [e]; exact h
      · exact hs j (by omega)
    refine ⟨fun h3 => ⟨by omega, by omega, by omega, by omega, fun h4 h => by have := (law_alw h1 h (k := k) (by omega)).1; omega, fun h4 => ⟨by omega, by omega, fun h5 h => by have := (law_alw h1 h (k := k) (by omega)).1; omega, fun h5 => ⟨by omega, by omega, by omega, by omega, fun h6 h => by have := (law_alw h1 h (k := k) (by omega)).2.1; omega, fun h6 => ⟨by omega, by omega, by omega, by omega, fun h7 h => by have := (law_alw h1 h (k := k) (by omega)).2.2; rw [hh] at this; simp only [Bool.false_eq_true, if_false] at this; omega, fun h7 => loopK_of (k + 1) ⟨⟨.inr rfl, .inr rfl, .inr rfl, .inr rfl, trivial⟩, ⟨rfl, trivial⟩, rfl, rfl⟩ ⟨by omega, nx ⟨⟨by omega, by omega⟩, by omega, by rw [hh]; simp only [Bool.false_eq_true, if_false]; omega⟩⟩ (by omega)⟩⟩⟩⟩, fun h3 => ?_⟩
    have e : k = p.l.length := by omega
    refine ⟨by omega, by omega, fun h4 => ⟨by omega, by omega, decide_eq_decide.2 ⟨fun h5 => alw_law h1 hl (fun j hj => hs j (by omega)) ⟨h4, h5⟩, fun h => ?_⟩⟩, fun h4 h => h4 ?_⟩
    · have := (h.2.2 p.l.length (by omega)).1.2
      unfold Path5.high at this; simpa using this
    · have := (h.2.2 p.l.length (by omega)).1.1
      unfold Path5.low at this; simpa using this
  | true =>
    unfold l_laws_wfAllowed_0 F_alw
    simp only [w_skip, w_rg, w_rgd, w_seq, w_cond, w_block, w_loop, w_exit, w_ret, w_gh, w_rg0, w_rg1, w_rgT, w_rgF, w_run, w_psd, w_und, w_dr0, w_dr1, w_drT, w_drF, w_drRun, w_drPsd, w_drUnd, w_drKn, w_drKs, w_putK, w_trimK, w_thenN, w_thenE, w_thenR, w_scope, w_label, w_blkN, w_blkE, w_blkR, w_call, w_effK, brU_true, brU_false, brU_u, brU_not, brU_and, brU_or, brU_dec, brU_eq, brU_ne, br_true, br_false, br_not, br_and, br_or, br_dec, br_eq, br_ne, w_getE0, w_getE1, w_setE0, w_setE1, w_dropE0, w_dropE1, w_drop0, w_drop1, w_getM0, w_getM1, w_setM0, w_setM1, ev_v, ev_c, w_putS, w_putN, w_lit, w_apU0, w_apU1, w_apU2, w_trim, enumE0, enumE1, w_callWp, w_callA0, w_callA1, w_R0, w_R1, w_R2, w_T2, w_callL, w_callT, w_T1, w_T0, o_mv, o_newnil, o_pick, o_bin, o_binN, o_neg, o_not, o_eqB, o_eqS, o_conv, o_alloc, o_box, o_load1, o_loadN, o_store, o_nilck, o_faddr, o_field1, o_fieldN, o_iaddr, o_istr, o_slStr, o_slSl, o_lenS, o_lenL, o_mx, o_mn, o_ext, o_build, o_lit, o_litOwn, o_app, o_mk, o_mvfrz, l_int, l_bool, l_str, l_agg, l_sl, l_own, l_ptr, l_pp, i_int, i_bool, i_str, i_sl, i_own, i_ptr, i_pp, all0, all1, e_ok1, eff, effBin, effBinN, ld_ptr, ld_pp, ld_elt, ia_own, ia_arr, el_1, el_N, load1K, faddrE, r_iaddr, sg_S, sg_c, sg_n, purL, pur, List.map, List.drop, List.take, List.length, List.foldl, List.append_eq, List.nil_append, List.cons_append, List.getD_cons_zero, List.getD_cons_succ, reduceIte, Nat.reduceEqDiff, Nat.reduceAdd, Nat.reduceLeDiff, true_and, and_true, Bool.not_true, Bool.not_false, Bool.and_true, Bool.true_and, Bool.and_self, reduceCtorEq, true_implies, false_implies, implies_true, decide_eq_true_eq, Option.map_some, fpOf, fpX, SOp.xs, oX, refs, refsL, dom, disj, List.all_nil, List.all_cons, List.contains_cons, List.contains_nil, Nat.reduceBEq, Bool.or_false, Bool.false_or, List.append_nil, Bool.not_false, Bool.not_true, List.forall_mem_cons, fm0, List.set, Nat.reduceLT, ne_eq, not_false_eq_true, not_true_eq_false
, ret1, ret1N, keep0, keep1, rf_int, rf_bool, rf_str, rf_sl, rf_agg, rf_tup, rfL0, rfL1, re_t, re_cN, re_L0, re_L1, ret_tup, ret_one, decide_true, AV.bool.injEq, AV.int.injEq, Nat.reduceLeDiff, Bool.true_eq, Bool.false_eq, decide_eq_true_eq, decide_eq_false_iff_not, toNat_succ, hw1, Stp7.row, irow, List.length_map, un_stp, path_eta, flatOk, noref, ghost, Int.toNat_natCast, Nat.zero_add, Nat.sub_zero, hh]
    have hlow : p.low k = (p.l.getD k default).f ∨ ¬ k < p.l.length := by by_cases h : k < p.l.length <;> simp [Path5.low, h]
    have hhigh : p.high k = (p.l.getD k default).b ∨ ¬ k < p.l.length := by by_cases h : k < p.l.length <;> simp [Path5.high, h]
    have nx : ∀ (h : p.alw f k), ∀ j, j < k + 1 → p.alw f j := fun h j hj => by
      by_cases e : j = k
      · rw [e]; exact h
      · exact hs j (by omega)
    refine ⟨fun h3 => ⟨by omega, by omega, by omega, by omega, fun h4 h => by have := (law_alw h1 h (k := k) (by omega)).1; omega, fun h4 => ⟨by omega, by omega, fun h5 h => by have := (law_alw h1 h (k := k) (by omega)).1; omega, fun h5 => ⟨by omega, by omega, by omega, by omega, fun h6 h => by have := (law_alw h1 h (k := k) (by omega)).2.1; omega, fun h6 => loopK_of (k + 1) ⟨⟨.inr rfl, .inr rfl, .inr rfl, .inr rfl, trivial⟩, ⟨rfl, trivial⟩, rfl, rfl⟩ ⟨by omega, nx ⟨⟨by omega, by omega⟩, by omega, by rw [hh]; simp only [if_true]; exact (wrap_le _)⟩⟩ (by omega)⟩⟩⟩, fun h3 => ?_⟩
    have e : k = p.l.length := by omega
    refine ⟨by omega, by omega, fun h4 => ⟨by omega, by omega, decide_eq_decide.2 ⟨fun h5 => alw_law h1 hl (fun j hj => hs j (by omega)) ⟨h4, h5⟩, fun h => ?_⟩⟩, fun h4 h => h4 ?_⟩
    · have := (h.2.2 p.l.length (by omega)).1.2
      unfold Path5.high at this; simpa using this
    · have := (h.2.2 p.l.length (by omega)).1.1
      unfold Path5.low at this; simpa using this
end Go.Ve
namespace Go.Ve
open Go.Proofs
set_option linter.unusedSimpArgs false
set_option linter.unusedVariables false
set_option maxRecDepth 100000
set_option maxHeartbeats 8000000
def t_first : List AV → Option (Prop × AV)
  | [.agg [.int .i64 q, .int .i64 s, .sl _ 7 xs, .int .i64 f, .int .i64 b]] => some ((xs.map unStp).map Stp7.row = xs ∧ (xs.map unStp).length ≤ 1048576, .sl 0 1 (((Path5.mk q s (xs.map unStp) f b).fitS.map fun s => s.lo).map irow))
  | _ => none
theorem h_first : ∀ args p v, t_first args = some (p, v) → p → Contract P 15 args [] v [] ∧ noref v = true ∧ No99 v := by
  intro args p v h1 h2
  unfold t_first at h1
  split at h1
  · rename_i q s t xs f b
    cases h1
    have := c_first ⟨q, s, xs.map unStp, f, b⟩ t h2.2
    simp only [h2.1] at this
    exact ⟨this, rfl, by omega, no99_i _⟩
  · cases h1
def t_last : List AV → Option (Prop × AV)
  | [.agg [.int .i64 q, .int .i64 s, .sl _ 7 xs, .int .i64 f, .int .i64 b]] => some ((xs.map unStp).map Stp7.row = xs ∧ (xs.map unStp).length ≤ 1048576, .sl 0 1 (((Path5.mk q s (xs.map unStp) f b).fitS.map fun s => s.hi).map irow))
  | _ => none
theorem h_last : ∀ args p v, t_last args = some (p, v) → p → Contract P 16 args [] v [] ∧ noref v = true ∧ No99 v := by
  intro args p v h1 h2
  unfold t_last at h1
  split at h1
  · rename_i q s t xs f b
    cases h1
    have := c_last ⟨q, s, xs.map unStp, f, b⟩ t h2.2
    simp only [h2.1] at this
    exact ⟨this, rfl, by omega, no99_i _⟩
  · cases h1
def unSpan : List AV → Span2
  | [.int _ a, .int _ b] => ⟨a, b⟩
  | _ => default
theorem un_span (l : List Span2) : (l.map Span2.row).map unSpan = l := by
  rw [List.map_map]; exact List.map_id'' (fun s => rfl) l
def t_wfs : List AV → Option (Prop × AV)
  | [.sl _ 2 xs, .sl _ 2 ys] => some (((xs.map unSpan).map Span2.row = xs ∧ ys = xs) ∧ (xs.map unSpan).length ≤ 4611686018427387904, .bool true)
  | _ => none
theorem h_wfs : ∀ args p v, t_wfs args = some (p, v) → p → Contract P 12 args [] v [] ∧ noref v = true ∧ No99 v := by
  intro args p v h1 h2
  unfold t_wfs at h1
  split at h1
  · rename_i t xs t' ys
    cases h1
    obtain ⟨⟨h3, rfl⟩, h4⟩ := h2
    have := c_wfSpans t t' (ys.map unSpan) h4
    simp only [h3] at this
    exact ⟨this, rfl, trivial⟩
  · cases h1
def t_alw : List AV → Option (Prop × AV)
  | [.agg [.int .i64 q, .int .i64 s, .sl _ 7 xs, .int .i64 f, .int .i64 b], .sl _ 1 ys] => some (((xs.map unStp).map Stp7.row = xs ∧ (ys.map unI).map irow = ys) ∧ pathOk q s (xs.map unStp) f b, .bool (decide (Path5.lawful ⟨q, s, xs.map unStp, f, b⟩ (ys.map unI))))
  | _ => none
theorem h_alw : ∀ args p v, t_alw args = some (p, v) → p → Contract P 17 args [] v [] ∧ noref v = true ∧ No99 v := by
  intro args p v h1 h2
  unfold t_alw at h1
  split at h1
  · rename_i q s t xs f b t' ys
    cases h1
    have := c_wfAllowed ⟨q, s, xs.map unStp, f, b⟩ t t' (ys.map unI) h2.2
    simp only [h2.1.1, h2.1.2] at this
    exact ⟨this, rfl, trivial⟩
  · cases h1
/-- The plain law. -/
theorem spans_law {p : Path5} (h : p.fit) : p.fitS.length = p.l.length + 1 ∧ (∀ k, k < p.l.length + 1 → p.fitS.getD k default = p.span k) ∧ p.lawful (p.fitS.map fun s => s.lo) ∧ p.lawful (p.fitS.map fun s => s.hi) := by
  have hq : p.q ≤ p.s ∧ p.q ≤ 10000 := by have := h.1.1; omega
  have e : p.fitS = (List.range (p.l.length + 1)).map p.span := by rw [Path5.fitS, if_pos h.1]; exact if_pos h.2
  have hl : p.fitS.length = p.l.length + 1 := by rw [e]; simp
  have hg : ∀ k, k < p.l.length + 1 → p.fitS.getD k default = p.span k := fun k hk => by rw [e]; exact getD_range hk
  have hm : ∀ (g : Span2 → Int) k, k < p.l.length + 1 → (p.fitS.map g).getD k default = g (p.span k) := fun g k hk => by
    rw [← hg k hk]; simp [hl, hk]
  have key : ∀ (g : Span2 → Int), p.flight (fun k => g (p.span k)) → p.lawful (p.fitS.map g) := fun g hfl => by
    refine ⟨h.1, by rw [List.length_map, hl], fun j hj => ?_⟩
    rw [List.length_map, hl] at hj
    refine ⟨by rw [hm g j hj]; exact hfl.1 j (by omega), fun h0 => ?_⟩
    rw [hm g j hj, hm g (j - 1) (by omega)]
    have := hfl.2 (j - 1) (by omega)
    rwa [show j - 1 + 1 = j by omega] at this
  exact ⟨hl, hg, key _ (first_flight hq h.2), key _ (last_flight hq h.2)⟩
theorem lawful_flight {p : Path5} {f : List Int} (h : p.lawful f) : p.flight fun k => f.getD k default := by
  obtain ⟨_, hl, hs⟩ := h
  refine ⟨fun k hk => (hs k (by omega)).1, fun k hk => ?_⟩
  have := (hs (k + 1) (by omega)).2 (by omega)
  rwa [show k + 1 - 1 = k by omega] at this
theorem lawful_fit {p : Path5} {f : List Int} (h : p.lawful f) : p.fit := ⟨h.1, flight_can (lawful_flight h)⟩
theorem fitS_nil {p : Path5} (h : ¬ p.fit) : p.fitS = [] := by
  unfold Path5.fitS
  split
  · rename_i h1
    unfold Path5.spans
    rw [if_neg fun h2 => h ⟨h1, h2⟩]
  · rfl
def F_spl (p : Path5) (f : List Int) (b : Bool) (k : Nat) : St := ⟨[(3, .ptr 103 0), (4, .sl 0 1 (f.map irow)), (5, .sl 0 2 (p.fitS.map Span2.row)), (9, .sl 0 1 ((p.fitS.map fun s => s.lo).map irow)), (10, .sl 0 1 ((p.fitS.map fun s => s.hi).map irow)), (11, .bool b), (12, .int .i64 k)], [(103, .box [.int .i64 p.q, .int .i64 p.s, .sl 0 7 (p.l.map Stp7.row), .int .i64 p.f, .int .i64 p.b])]⟩
theorem getD_map {α : Type} [Inhabited α] {l : List α} {g : α → Int} {k : Nat} (h : k < l.length) : (l.map g).getD k default = g (l.getD k default) := by simp [h]
theorem c_FnFlySpans (cs : List Nat) (hcs : ∀ b ∈ cs, b ≤ 255) (hl : cs.length ≤ 9223372036854775807) : Contract P 3 [.sl 1 1 (cs.map brow)] [] (.bool true) [] := by
  refine fn_sound (((((((((Env.nil P).add 10 t_iFit h_iFit).add 11 t_sFit h_sFit).add 12 t_wfs h_wfs).add 13 t_iLawful h_iLawful).add 14 t_sLawful h_sLawful).add 15 t_first h_first).add 16 t_last h_last).add 17 t_alw h_alw) Go.Ve.hm k_laws_FnFlySpans (Nat.le_of_ble_eq_true rfl) rfl ?_
  unfold s_laws_FnFlySpans
  have hz : ((0 : Nat) : Int) = 0 := rfl
  by_cases hle : (1048576 : Int) < cs.length
  · simp only [w_skip, w_rg, w_rgd, w_seq, w_cond, w_block, w_loop, w_exit, w_ret, w_gh, w_rg0, w_rg1, w_rgT, w_rgF, w_run, w_psd, w_und, w_dr0, w_dr1, w_drT, w_drF, w_drRun, w_drPsd, w_drUnd, w_drKn, w_drKs, w_putK, w_trimK, w_thenN, w_thenE, w_thenR, w_scope, w_label, w_blkN, w_blkE, w_blkR, w_call, w_effK, brU_true, brU_false, brU_u, brU_not, brU_and, brU_or, brU_dec, brU_eq, brU_ne, br_true, br_false, br_not, br_and, br_or, br_dec, br_eq, br_ne, w_getE0, w_getE1, w_setE0, w_setE1, w_dropE0, w_dropE1, w_drop0, w_drop1, w_getM0, w_getM1, w_setM0, w_setM1, ev_v, ev_c, w_putS, w_putN, w_lit, w_apU0, w_apU1, w_apU2, w_trim, enumE0, enumE1, w_callWp, w_callA0, w_callA1, w_R0, w_R1, w_R2, w_T2, w_callL, w_callT, w_T1, w_T0, o_mv, o_newnil, o_pick, o_bin, o_binN, o_neg, o_not, o_eqB, o_eqS, o_conv, o_alloc, o_box, o_load1, o_loadN, o_store, o_nilck, o_faddr, o_field1, o_fieldN, o_iaddr, o_istr, o_slStr, o_slSl, o_lenS, o_lenL, o_mx, o_mn, o_ext, o_build, o_lit, o_litOwn, o_app, o_mk, o_mvfrz, l_int, l_bool, l_str, l_agg, l_sl, l_own, l_ptr, l_pp, i_int, i_bool, i_str, i_sl, i_own, i_ptr, i_pp, all0, all1, e_ok1, eff, effBin, effBinN, ld_ptr, ld_pp, ld_elt, ia_own, ia_arr, el_1, el_N, load1K, faddrE, r_iaddr, sg_S, sg_c, sg_n, purL, pur, List.map, List.drop, List.take, List.length, List.foldl, List.append_eq, List.nil_append, List.cons_append, List.getD_cons_zero, List.getD_cons_succ, reduceIte, Nat.reduceEqDiff, Nat.reduceAdd, Nat.reduceLeDiff, true_and, and_true, Bool.not_true, Bool.not_false, Bool.and_true, Bool.true_and, Bool.and_self, reduceCtorEq, true_implies, false_implies, implies_true, decide_eq_true_eq, Option.map_some, fpOf, fpX, SOp.xs, oX, refs, refsL, dom, disj, List.all_nil, List.all_cons, List.contains_cons, List.contains_nil, Nat.reduceBEq, Bool.or_false, Bool.false_or, List.append_nil, Bool.not_false, Bool.not_true, List.forall_mem_cons, fm0, List.set, Nat.reduceLT, ne_eq, not_false_eq_true, not_true_eq_false
, ret1, ret1N, keep0, keep1, rf_int, rf_bool, rf_str, rf_sl, rf_agg, rf_tup, rfL0, rfL1, re_t, re_cN, re_L0, re_L1, ret_tup, ret_one, decide_true, AV.bool.injEq, AV.int.injEq, Nat.reduceLeDiff, Bool.true_eq, Bool.false_eq, decide_eq_true_eq, decide_eq_false_iff_not, t_iFit, t_sFit, t_wfs, t_iLawful, t_sLawful, t_first, t_last, t_alw, hle, t_fit, t_lawful, brow, un_span, Span2.row, eq_self, beq_self_eq_true, bne_self_eq_false, decide_false, hz, List.length_nil, Path5.av, retG_ret, ghost, retQ_eq, retOk, wkM, refsInO, keepB, re_tup, or_t, Int.toNat_natCast, noref, flatOk, List.length_map, Stp7.row, irow, un_stp, un_i, set_f, set_b, List.length_set, take_all, path_eta, true_and, rowsOf, appE]
  simp only [w_skip, w_rg, w_rgd, w_seq, w_cond, w_block, w_loop, w_exit, w_ret, w_gh, w_rg0, w_rg1, w_rgT, w_rgF, w_run, w_psd, w_und, w_dr0, w_dr1, w_drT, w_drF, w_drRun, w_drPsd, w_drUnd, w_drKn, w_drKs, w_putK, w_trimK, w_thenN, w_thenE, w_thenR, w_scope, w_label, w_blkN, w_blkE, w_blkR, w_call, w_effK, brU_true, brU_false, brU_u, brU_not, brU_and, brU_or, brU_dec, brU_eq, brU_ne, br_true, br_false, br_not, br_and, br_or, br_dec, br_eq, br_ne, w_getE0, w_getE1, w_setE0, w_setE1, w_dropE0, w_dropE1, w_drop0, w_drop1, w_getM0, w_getM1, w_setM0, w_setM1, ev_v, ev_c, w_putS, w_putN, w_lit, w_apU0, w_apU1, w_apU2, w_trim, enumE0, enumE1, w_callWp, w_callA0, w_callA1, w_R0, w_R1, w_R2, w_T2, w_callL, w_callT, w_T1, w_T0, o_mv, o_newnil, o_pick, o_bin, o_binN, o_neg, o_not, o_eqB, o_eqS, o_conv, o_alloc, o_box, o_load1, o_loadN, o_store, o_nilck, o_faddr, o_field1, o_fieldN, o_iaddr, o_istr, o_slStr, o_slSl, o_lenS, o_lenL, o_mx, o_mn, o_ext, o_build, o_lit, o_litOwn, o_app, o_mk, o_mvfrz, l_int, l_bool, l_str, l_agg, l_sl, l_own, l_ptr, l_pp, i_int, i_bool, i_str, i_sl, i_own, i_ptr, i_pp, all0, all1, e_ok1, eff, effBin, effBinN, ld_ptr, ld_pp, ld_elt, ia_own, ia_arr, el_1, el_N, load1K, faddrE, r_iaddr, sg_S, sg_c, sg_n, purL, pur, List.map, List.drop, List.take, List.length, List.foldl, List.append_eq, List.nil_append, List.cons_append, List.getD_cons_zero, List.getD_cons_succ, reduceIte, Nat.reduceEqDiff, Nat.reduceAdd, Nat.reduceLeDiff, true_and, and_true, Bool.not_true, Bool.not_false, Bool.and_true, Bool.true_and, Bool.and_self, reduceCtorEq, true_implies, false_implies, implies_true, decide_eq_true_eq, Option.map_some, fpOf, fpX, SOp.xs, oX, refs, refsL, dom, disj, List.all_nil, List.all_cons, List.contains_cons, List.contains_nil, Nat.reduceBEq, Bool.or_false, Bool.false_or, List.append_nil, Bool.not_false, Bool.not_true, List.forall_mem_cons, fm0, List.set, Nat.reduceLT, ne_eq, not_false_eq_true, not_true_eq_false
, ret1, ret1N, keep0, keep1, rf_int, rf_bool, rf_str, rf_sl, rf_agg, rf_tup, rfL0, rfL1, re_t, re_cN, re_L0, re_L1, ret_tup, ret_one, decide_true, AV.bool.injEq, AV.int.injEq, Nat.reduceLeDiff, Bool.true_eq, Bool.false_eq, decide_eq_true_eq, decide_eq_false_iff_not, t_iFit, t_sFit, t_wfs, t_iLawful, t_sLawful, t_first, t_last, t_alw, hle, t_fit, t_lawful, brow, un_span, Span2.row, eq_self, beq_self_eq_true, bne_self_eq_false, decide_false, hz, List.length_nil, Path5.av, retG_ret, ghost, retQ_eq, retOk, wkM, refsInO, keepB, re_tup, or_t, Int.toNat_natCast, noref, flatOk, List.length_map, Stp7.row, irow, un_stp, un_i, set_f, set_b, List.length_set, take_all, path_eta, true_and, rowsOf, appE]
  obtain ⟨⟨p, f⟩, ⟨hp, hf⟩, hC⟩ := c_drawLawful cs hcs (by omega)
  simp only at hp hf
  refine ⟨_, _, .inr (.inl ⟨rfl, _, rfl, hC, rfl, ⟨no99_av _, ⟨by omega, no99_i _⟩, trivial⟩⟩), ?_⟩
  by_cases hfit : p.fit
  · obtain ⟨h1, h2, h3, h4⟩ := spans_law hfit
    have hcast : ((p.l.length + 1 : Nat) : Int) = (p.l.length : Int) + 1 := by omega
    by_cases hlaw : p.lawful f
    · simp only [w_skip, w_rg, w_rgd, w_seq, w_cond, w_block, w_loop, w_exit, w_ret, w_gh, w_rg0, w_rg1, w_rgT, w_rgF, w_run, w_psd, w_und, w_dr0, w_dr1, w_drT, w_drF, w_drRun, w_drPsd, w_drUnd, w_drKn, w_drKs, w_putK, w_trimK, w_thenN, w_thenE, w_thenR, w_scope, w_label, w_blkN, w_blkE, w_blkR, w_call, w_effK, brU_true, brU_false, brU_u, brU_not, brU_and, brU_or, brU_dec, brU_eq, brU_ne, br_true, br_false, br_not, br_and, br_or, br_dec, br_eq, br_ne, w_getE0, w_getE1, w_setE0, w_setE1, w_dropE0, w_dropE1, w_drop0, w_drop1, w_getM0, w_getM1, w_setM0, w_setM1, ev_v, ev_c, w_putS, w_putN, w_lit, w_apU0, w_apU1, w_apU2, w_trim, enumE0, enumE1, w_callWp, w_callA0, w_callA1, w_R0, w_R1, w_R2, w_T2, w_callL, w_callT, w_T1, w_T0, o_mv, o_newnil, o_pick, o_bin, o_binN, o_neg, o_not, o_eqB, o_eqS, o_conv, o_alloc, o_box, o_load1, o_loadN, o_store, o_nilck, o_faddr, o_field1, o_fieldN, o_iaddr, o_istr, o_slStr, o_slSl, o_lenS, o_lenL, o_mx, o_mn, o_ext, o_build, o_lit, o_litOwn, o_app, o_mk, o_mvfrz, l_int, l_bool, l_str, l_agg, l_sl, l_own, l_ptr, l_pp, i_int, i_bool, i_str, i_sl, i_own, i_ptr, i_pp, all0, all1, e_ok1, eff, effBin, effBinN, ld_ptr, ld_pp, ld_elt, ia_own, ia_arr, el_1, el_N, load1K, faddrE, r_iaddr, sg_S, sg_c, sg_n, purL, pur, List.map, List.drop, List.take, List.length, List.foldl, List.append_eq, List.nil_append, List.cons_append, List.getD_cons_zero, List.getD_cons_succ, reduceIte, Nat.reduceEqDiff, Nat.reduceAdd, Nat.reduceLeDiff, true_and, and_true, Bool.not_true, Bool.not_false, Bool.and_true, Bool.true_and, Bool.and_self, reduceCtorEq, true_implies, false_implies, implies_true, decide_eq_true_eq, Option.map_some, fpOf, fpX, SOp.xs, oX, refs, refsL, dom, disj, List.all_nil, List.all_cons, List.contains_cons, List.contains_nil, Nat.reduceBEq, Bool.or_false, Bool.false_or, List.append_nil, Bool.not_false, Bool.not_true, List.forall_mem_cons, fm0, List.set, Nat.reduceLT, ne_eq, not_false_eq_true, not_true_eq_false
, ret1, ret1N, keep0, keep1, rf_int, rf_bool, rf_str, rf_sl, rf_agg, rf_tup, rfL0, rfL1, re_t, re_cN, re_L0, re_L1, ret_tup, ret_one, decide_true, AV.bool.injEq, AV.int.injEq, Nat.reduceLeDiff, Bool.true_eq, Bool.false_eq, decide_eq_true_eq, decide_eq_false_iff_not, t_iFit, t_sFit, t_wfs, t_iLawful, t_sLawful, t_first, t_last, t_alw, hle, t_fit, t_lawful, brow, un_span, Span2.row, eq_self, beq_self_eq_true, bne_self_eq_false, decide_false, hz, List.length_nil, Path5.av, retG_ret, ghost, retQ_eq, retOk, wkM, refsInO, keepB, re_tup, or_t, Int.toNat_natCast, noref, flatOk, List.length_map, Stp7.row, irow, un_stp, un_i, set_f, set_b, List.length_set, take_all, path_eta, true_and, rowsOf, appE, hfit, h1, hcast, h3, h4, hlaw]
      refine ⟨by omega, by omega, by omega, hfit.1, hfit.1, by omega, hfit.1, ?_⟩
      refine loop_of (F_spl p f true) (fun k => k ≤ p.fitS.length) (fun k => p.fitS.length - k) 0 ⟨⟨.inr rfl, .inr rfl, .inr rfl, .inr rfl, .inr rfl, .inr rfl, .inr rfl, trivial⟩, ⟨rfl, trivial⟩, rfl, rfl⟩ (Nat.zero_le _) ?_
      intro k hk
      by_cases hkl : k < p.fitS.length
      · have g1 := getD_map (g := fun s => s.lo) hkl
        have g2 := getD_map (g := fun s => s.hi) hkl
        have hsp := flight_span (lawful_flight hlaw) (k := k) (by omega)
        rw [← h2 k (by omega)] at hsp
        have hlf : (f.getD k default < (p.fitS.getD k default).lo) = False ∧ ((p.fitS.getD k default).hi < f.getD k default) = False := ⟨eq_false (by omega), eq_false (by omega)⟩
        have hk2 : (k : Int) < (p.l.length : Int) + 1 := by omega
        unfold l_laws_FnFlySpans_0 F_spl
        simp only [w_skip, w_rg, w_rgd, w_seq, w_cond, w_block, w_loop, w_exit, w_ret, w_gh, w_rg0, w_rg1, w_rgT, w_rgF, w_run, w_psd, w_und, w_dr0, w_dr1, w_drT, w_drF, w_drRun, w_drPsd, w_drUnd, w_drKn, w_drKs, w_putK, w_trimK, w_thenN, w_thenE, w_thenR, w_scope, w_label, w_blkN, w_blkE, w_blkR, w_call, w_effK, brU_true, brU_false, brU_u, brU_not, brU_and, brU_or, brU_dec, brU_eq, brU_ne, br_true, br_false, br_not, br_and, br_or, br_dec, br_eq, br_ne, w_getE0, w_getE1, w_setE0, w_setE1, w_dropE0, w_dropE1, w_drop0, w_drop1, w_getM0, w_getM1, w_setM0, w_setM1, ev_v, ev_c, w_putS, w_putN, w_lit, w_apU0, w_apU1, w_apU2, w_trim, enumE0, enumE1, w_callWp, w_callA0, w_callA1, w_R0, w_R1, w_R2, w_T2, w_callL, w_callT, w_T1, w_T0, o_mv, o_newnil, o_pick, o_bin, o_binN, o_neg, o_not, o_eqB, o_eqS, o_conv, o_alloc, o_box, o_load1, o_loadN, o_store, o_nilck, o_faddr, o_field1, o_fieldN, o_iaddr, o_istr, o_slStr, o_slSl, o_lenS, o_lenL, o_mx, o_mn, o_ext, o_build, o_lit, o_litOwn, o_app, o_mk, o_mvfrz, l_int, l_bool, l_str, l_agg, l_sl, l_own, l_ptr, l_pp, i_int, i_bool, i_str, i_sl, i_own, i_ptr, i_pp, all0, all1, e_ok1, eff, effBin, effBinN, ld_ptr, ld_pp, ld_elt, ia_own, ia_arr, el_1, el_N, load1K, faddrE, r_iaddr, sg_S, sg_c, sg_n, purL, pur, List.map, List.drop, List.take, List.length, List.foldl, List.append_eq, List.nil_append, List.cons_append, List.getD_cons_zero, List.getD_cons_succ, reduceIte, Nat.reduceEqDiff, Nat.reduceAdd, Nat.reduceLeDiff, true_and, and_true, Bool.not_true, Bool.not_false, Bool.and_true, Bool.true_and, Bool.and_self, reduceCtorEq, true_implies, false_implies, implies_true, decide_eq_true_eq, Option.map_some, fpOf, fpX, SOp.xs, oX, refs, refsL, dom, disj, List.all_nil, List.all_cons, List.contains_cons, List.contains_nil, Nat.reduceBEq, Bool.or_false, Bool.false_or, List.append_nil, Bool.not_false, Bool.not_true, List.forall_mem_cons, fm0, List.set, Nat.reduceLT, ne_eq, not_false_eq_true, not_true_eq_false
, ret1, ret1N, keep0, keep1, rf_int, rf_bool, rf_str, rf_sl, rf_agg, rf_tup, rfL0, rfL1, re_t, re_cN, re_L0, re_L1, ret_tup, ret_one, decide_true, AV.bool.injEq, AV.int.injEq, Nat.reduceLeDiff, Bool.true_eq, Bool.false_eq, decide_eq_true_eq, decide_eq_false_iff_not, t_iFit, t_sFit, t_wfs, t_iLawful, t_sLawful, t_first, t_last, t_alw, hle, t_fit, t_lawful, brow, un_span, Span2.row, eq_self, beq_self_eq_true, bne_self_eq_false, decide_false, hz, List.length_nil, Path5.av, retG_ret, ghost, retQ_eq, retOk, wkM, refsInO, keepB, re_tup, or_t, Int.toNat_natCast, noref, flatOk, List.length_map, Stp7.row, irow, un_stp, un_i, set_f, set_b, List.length_set, take_all, path_eta, true_and, rowsOf, appE, hlf, hfit, h1, hcast, hlaw, g1, g2, hk2]
        have hfl := hlaw.2.1
        exact ⟨by omega, by omega, by omega, by omega, by omega, by omega, by omega, by omega, by omega, by omega, by omega, loopK_of (k + 1) ⟨⟨.inr rfl, .inr rfl, .inr rfl, .inr rfl, .inr rfl, .inr rfl, .inr rfl, trivial⟩, ⟨rfl, trivial⟩, rfl, rfl⟩ (by omega) (by omega)⟩
      · have hk3 : ¬ (k : Int) < (p.l.length : Int) + 1 := by omega
        unfold l_laws_FnFlySpans_0 F_spl
        simp only [w_skip, w_rg, w_rgd, w_seq, w_cond, w_block, w_loop, w_exit, w_ret, w_gh, w_rg0, w_rg1, w_rgT, w_rgF, w_run, w_psd, w_und, w_dr0, w_dr1, w_drT, w_drF, w_drRun, w_drPsd, w_drUnd, w_drKn, w_drKs, w_putK, w_trimK, w_thenN, w_thenE, w_thenR, w_scope, w_label, w_blkN, w_blkE, w_blkR, w_call, w_effK, brU_true, brU_false, brU_u, brU_not, brU_and, brU_or, brU_dec, brU_eq, brU_ne, br_true, br_false, br_not, br_and, br_or, br_dec, br_eq, br_ne, w_getE0, w_getE1, w_setE0, w_setE1, w_dropE0, w_dropE1, w_drop0, w_drop1, w_getM0, w_getM1, w_setM0, w_setM1, ev_v, ev_c, w_putS, w_putN, w_lit, w_apU0, w_apU1, w_apU2, w_trim, enumE0, enumE1, w_callWp, w_callA0, w_callA1, w_R0, w_R1, w_R2, w_T2, w_callL, w_callT, w_T1, w_T0, o_mv, o_newnil, o_pick, o_bin, o_binN, o_neg, o_not, o_eqB, o_eqS, o_conv, o_alloc, o_box, o_load1, o_loadN, o_store, o_nilck, o_faddr, o_field1, o_fieldN, o_iaddr, o_istr, o_slStr, o_slSl, o_lenS, o_lenL, o_mx, o_mn, o_ext, o_build, o_lit, o_litOwn, o_app, o_mk, o_mvfrz, l_int, l_bool, l_str, l_agg, l_sl, l_own, l_ptr, l_pp, i_int, i_bool, i_str, i_sl, i_own, i_ptr, i_pp, all0, all1, e_ok1, eff, effBin, effBinN, ld_ptr, ld_pp, ld_elt, ia_own, ia_arr, el_1, el_N, load1K, faddrE, r_iaddr, sg_S, sg_c, sg_n, purL, pur, List.map, List.drop, List.take, List.length, List.foldl, List.append_eq, List.nil_append, List.cons_append, List.getD_cons_zero, List.getD_cons_succ, reduceIte, Nat.reduceEqDiff, Nat.reduceAdd, Nat.reduceLeDiff, true_and, and_true, Bool.not_true, Bool.not_false, Bool.and_true, Bool.true_and, Bool.and_self, reduceCtorEq, true_implies, false_implies, implies_true, decide_eq_true_eq, Option.map_some, fpOf, fpX, SOp.xs, oX, refs, refsL, dom, disj, List.all_nil, List.all_cons, List.contains_cons, List.contains_nil, Nat.reduceBEq, Bool.or_false, Bool.false_or, List.append_nil, Bool.not_false, Bool.not_true, List.forall_mem_cons, fm0, List.set, Nat.reduceLT, ne_eq, not_false_eq_true, not_true_eq_false
, ret1, ret1N, keep0, keep1, rf_int, rf_bool, rf_str, rf_sl, rf_agg, rf_tup, rfL0, rfL1, re_t, re_cN, re_L0, re_L1, ret_tup, ret_one, decide_true, AV.bool.injEq, AV.int.injEq, Nat.reduceLeDiff, decide_eq_true_eq, decide_eq_false_iff_not, t_iFit, t_sFit, t_wfs, t_iLawful, t_sLawful, t_first, t_last, t_alw, hle, t_fit, t_lawful, brow, un_span, Span2.row, eq_self, beq_self_eq_true, bne_self_eq_false, decide_false, hz, List.length_nil, Path5.av, retG_ret, ghost, retQ_eq, retOk, wkM, refsInO, keepB, re_tup, or_t, Int.toNat_natCast, noref, flatOk, List.length_map, Stp7.row, irow, un_stp, un_i, set_f, set_b, List.length_set, take_all, path_eta, true_and, rowsOf, appE, hfit, h1, hcast, hlaw, hk3]
    · simp only [w_skip, w_rg, w_rgd, w_seq, w_cond, w_block, w_loop, w_exit, w_ret, w_gh, w_rg0, w_rg1, w_rgT, w_rgF, w_run, w_psd, w_und, w_dr0, w_dr1, w_drT, w_drF, w_drRun, w_drPsd, w_drUnd, w_drKn, w_drKs, w_putK, w_trimK, w_thenN, w_thenE, w_thenR, w_scope, w_label, w_blkN, w_blkE, w_blkR, w_call, w_effK, brU_true, brU_false, brU_u, brU_not, brU_and, brU_or, brU_dec, brU_eq, brU_ne, br_true, br_false, br_not, br_and, br_or, br_dec, br_eq, br_ne, w_getE0, w_getE1, w_setE0, w_setE1, w_dropE0, w_dropE1, w_drop0, w_drop1, w_getM0, w_getM1, w_setM0, w_setM1, ev_v, ev_c, w_putS, w_putN, w_lit, w_apU0, w_apU1, w_apU2, w_trim, enumE0, enumE1, w_callWp, w_callA0, w_callA1, w_R0, w_R1, w_R2, w_T2, w_callL, w_callT, w_T1, w_T0, o_mv, o_newnil, o_pick, o_bin, o_binN, o_neg, o_not, o_eqB, o_eqS, o_conv, o_alloc, o_box, o_load1, o_loadN, o_store, o_nilck, o_faddr, o_field1, o_fieldN, o_iaddr, o_istr, o_slStr, o_slSl, o_lenS, o_lenL, o_mx, o_mn, o_ext, o_build, o_lit, o_litOwn, o_app, o_mk, o_mvfrz, l_int, l_bool, l_str, l_agg, l_sl, l_own, l_ptr, l_pp, i_int, i_bool, i_str, i_sl, i_own, i_ptr, i_pp, all0, all1, e_ok1, eff, effBin, effBinN, ld_ptr, ld_pp, ld_elt, ia_own, ia_arr, el_1, el_N, load1K, faddrE, r_iaddr, sg_S, sg_c, sg_n, purL, pur, List.map, List.drop, List.take, List.length, List.foldl, List.append_eq, List.nil_append, List.cons_append, List.getD_cons_zero, List.getD_cons_succ, reduceIte, Nat.reduceEqDiff, Nat.reduceAdd, Nat.reduceLeDiff, true_and, and_true, Bool.not_true, Bool.not_false, Bool.and_true, Bool.true_and, Bool.and_self, reduceCtorEq, true_implies, false_implies, implies_true, decide_eq_true_eq, Option.map_some, fpOf, fpX, SOp.xs, oX, refs, refsL, dom, disj, List.all_nil, List.all_cons, List.contains_cons, List.contains_nil, Nat.reduceBEq, Bool.or_false, Bool.false_or, List.append_nil, Bool.not_false, Bool.not_true, List.forall_mem_cons, fm0, List.set, Nat.reduceLT, ne_eq, not_false_eq_true, not_true_eq_false
, ret1, ret1N, keep0, keep1, rf_int, rf_bool, rf_str, rf_sl, rf_agg, rf_tup, rfL0, rfL1, re_t, re_cN, re_L0, re_L1, ret_tup, ret_one, decide_true, AV.bool.injEq, AV.int.injEq, Nat.reduceLeDiff, Bool.true_eq, Bool.false_eq, decide_eq_true_eq, decide_eq_false_iff_not, t_iFit, t_sFit, t_wfs, t_iLawful, t_sLawful, t_first, t_last, t_alw, hle, t_fit, t_lawful, brow, un_span, Span2.row, eq_self, beq_self_eq_true, bne_self_eq_false, decide_false, hz, List.length_nil, Path5.av, retG_ret, ghost, retQ_eq, retOk, wkM, refsInO, keepB, re_tup, or_t, Int.toNat_natCast, noref, flatOk, List.length_map, Stp7.row, irow, un_stp, un_i, set_f, set_b, List.length_set, take_all, path_eta, true_and, rowsOf, appE, hfit, h1, hcast, h3, h4, hlaw]
      refine ⟨by omega, by omega, by omega, hfit.1, hfit.1, by omega, hfit.1, ?_⟩
      refine loop_of (F_spl p f false) (fun k => k ≤ p.fitS.length) (fun k => p.fitS.length - k) 0 ⟨⟨.inr rfl, .inr rfl, .inr rfl, .inr rfl, .inr rfl, .inr rfl, .inr rfl, trivial⟩, ⟨rfl, trivial⟩, rfl, rfl⟩ (Nat.zero_le _) ?_
      intro k hk
      by_cases hkl : k < p.fitS.length
      · have g1 := getD_map (g := fun s => s.lo) hkl
        have g2 := getD_map (g := fun s => s.hi) hkl
        have hk2 : (k : Int) < (p.l.length : Int) + 1 := by omega
        unfold l_laws_FnFlySpans_0 F_spl
        simp only [w_skip, w_rg, w_rgd, w_seq, w_cond, w_block, w_loop, w_exit, w_ret, w_gh, w_rg0, w_rg1, w_rgT, w_rgF, w_run, w_psd, w_und, w_dr0, w_dr1, w_drT, w_drF, w_drRun, w_drPsd, w_drUnd, w_drKn, w_drKs, w_putK, w_trimK, w_thenN, w_thenE, w_thenR, w_scope, w_label, w_blkN, w_blkE, w_blkR, w_call, w_effK, brU_true, brU_false, brU_u, brU_not, brU_and, brU_or, brU_dec, brU_eq, brU_ne, br_true, br_false, br_not, br_and, br_or, br_dec, br_eq, br_ne, w_getE0, w_getE1, w_setE0, w_setE1, w_dropE0, w_dropE1, w_drop0, w_drop1, w_getM0, w_getM1, w_setM0, w_setM1, ev_v, ev_c, w_putS, w_putN, w_lit, w_apU0, w_apU1, w_apU2, w_trim, enumE0, enumE1, w_callWp, w_callA0, w_callA1, w_R0, w_R1, w_R2, w_T2, w_callL, w_callT, w_T1, w_T0, o_mv, o_newnil, o_pick, o_bin, o_binN, o_neg, o_not, o_eqB, o_eqS, o_conv, o_alloc, o_box, o_load1, o_loadN, o_store, o_nilck, o_faddr, o_field1, o_fieldN, o_iaddr, o_istr, o_slStr, o_slSl, o_lenS, o_lenL, o_mx, o_mn, o_ext, o_build, o_lit, o_litOwn, o_app, o_mk, o_mvfrz, l_int, l_bool, l_str, l_agg, l_sl, l_own, l_ptr, l_pp, i_int, i_bool, i_str, i_sl, i_own, i_ptr, i_pp, all0, all1, e_ok1, eff, effBin, effBinN, ld_ptr, ld_pp, ld_elt, ia_own, ia_arr, el_1, el_N, load1K, faddrE, r_iaddr, sg_S, sg_c, sg_n, purL, pur, List.map, List.drop, List.take, List.length, List.foldl, List.append_eq, List.nil_append, List.cons_append, List.getD_cons_zero, List.getD_cons_succ, reduceIte, Nat.reduceEqDiff, Nat.reduceAdd, Nat.reduceLeDiff, true_and, and_true, Bool.not_true, Bool.not_false, Bool.and_true, Bool.true_and, Bool.and_self, reduceCtorEq, true_implies, false_implies, implies_true, decide_eq_true_eq, Option.map_some, fpOf, fpX, SOp.xs, oX, refs, refsL, dom, disj, List.all_nil, List.all_cons, List.contains_cons, List.contains_nil, Nat.reduceBEq, Bool.or_false, Bool.false_or, List.append_nil, Bool.not_false, Bool.not_true, List.forall_mem_cons, fm0, List.set, Nat.reduceLT, ne_eq, not_false_eq_true, not_true_eq_false
, ret1, ret1N, keep0, keep1, rf_int, rf_bool, rf_str, rf_sl, rf_agg, rf_tup, rfL0, rfL1, re_t, re_cN, re_L0, re_L1, ret_tup, ret_one, decide_true, AV.bool.injEq, AV.int.injEq, Nat.reduceLeDiff, Bool.true_eq, Bool.false_eq, decide_eq_true_eq, decide_eq_false_iff_not, t_iFit, t_sFit, t_wfs, t_iLawful, t_sLawful, t_first, t_last, t_alw, hle, t_fit, t_lawful, brow, un_span, Span2.row, eq_self, beq_self_eq_true, bne_self_eq_false, decide_false, hz, List.length_nil, Path5.av, retG_ret, ghost, retQ_eq, retOk, wkM, refsInO, keepB, re_tup, or_t, Int.toNat_natCast, noref, flatOk, List.length_map, Stp7.row, irow, un_stp, un_i, set_f, set_b, List.length_set, take_all, path_eta, true_and, rowsOf, appE, hfit, h1, hcast, hlaw, g1, g2, hk2]
        exact ⟨by omega, by omega, by omega, by omega, by omega, loopK_of (k + 1) ⟨⟨.inr rfl, .inr rfl, .inr rfl, .inr rfl, .inr rfl, .inr rfl, .inr rfl, trivial⟩, ⟨rfl, trivial⟩, rfl, rfl⟩ (by omega) (by omega)⟩
      · have hk3 : ¬ (k : Int) < (p.l.length : Int) + 1 := by omega
        unfold l_laws_FnFlySpans_0 F_spl
        simp only [w_skip, w_rg, w_rgd, w_seq, w_cond, w_block, w_loop, w_exit, w_ret, w_gh, w_rg0, w_rg1, w_rgT, w_rgF, w_run, w_psd, w_und, w_dr0, w_dr1, w_drT, w_drF, w_drRun, w_drPsd, w_drUnd, w_drKn, w_drKs, w_putK, w_trimK, w_thenN, w_thenE, w_thenR, w_scope, w_label, w_blkN, w_blkE, w_blkR, w_call, w_effK, brU_true, brU_false, brU_u, brU_not, brU_and, brU_or, brU_dec, brU_eq, brU_ne, br_true, br_false, br_not, br_and, br_or, br_dec, br_eq, br_ne, w_getE0, w_getE1, w_setE0, w_setE1, w_dropE0, w_dropE1, w_drop0, w_drop1, w_getM0, w_getM1, w_setM0, w_setM1, ev_v, ev_c, w_putS, w_putN, w_lit, w_apU0, w_apU1, w_apU2, w_trim, enumE0, enumE1, w_callWp, w_callA0, w_callA1, w_R0, w_R1, w_R2, w_T2, w_callL, w_callT, w_T1, w_T0, o_mv, o_newnil, o_pick, o_bin, o_binN, o_neg, o_not, o_eqB, o_eqS, o_conv, o_alloc, o_box, o_load1, o_loadN, o_store, o_nilck, o_faddr, o_field1, o_fieldN, o_iaddr, o_istr, o_slStr, o_slSl, o_lenS, o_lenL, o_mx, o_mn, o_ext, o_build, o_lit, o_litOwn, o_app, o_mk, o_mvfrz, l_int, l_bool, l_str, l_agg, l_sl, l_own, l_ptr, l_pp, i_int, i_bool, i_str, i_sl, i_own, i_ptr, i_pp, all0, all1, e_ok1, eff, effBin, effBinN, ld_ptr, ld_pp, ld_elt, ia_own, ia_arr, el_1, el_N, load1K, faddrE, r_iaddr, sg_S, sg_c, sg_n, purL, pur, List.map, List.drop, List.take, List.length, List.foldl, List.append_eq, List.nil_append, List.cons_append, List.getD_cons_zero, List.getD_cons_succ, reduceIte, Nat.reduceEqDiff, Nat.reduceAdd, Nat.reduceLeDiff, true_and, and_true, Bool.not_true, Bool.not_false, Bool.and_true, Bool.true_and, Bool.and_self, reduceCtorEq, true_implies, false_implies, implies_true, decide_eq_true_eq, Option.map_some, fpOf, fpX, SOp.xs, oX, refs, refsL, dom, disj, List.all_nil, List.all_cons, List.contains_cons, List.contains_nil, Nat.reduceBEq, Bool.or_false, Bool.false_or, List.append_nil, Bool.not_false, Bool.not_true, List.forall_mem_cons, fm0, List.set, Nat.reduceLT, ne_eq, not_false_eq_true, not_true_eq_false
, ret1, ret1N, keep0, keep1, rf_int, rf_bool, rf_str, rf_sl, rf_agg, rf_tup, rfL0, rfL1, re_t, re_cN, re_L0, re_L1, ret_tup, ret_one, decide_true, AV.bool.injEq, AV.int.injEq, Nat.reduceLeDiff, decide_eq_true_eq, decide_eq_false_iff_not, t_iFit, t_sFit, t_wfs, t_iLawful, t_sLawful, t_first, t_last, t_alw, hle, t_fit, t_lawful, brow, un_span, Span2.row, eq_self, beq_self_eq_true, bne_self_eq_false, decide_false, hz, List.length_nil, Path5.av, retG_ret, ghost, retQ_eq, retOk, wkM, refsInO, keepB, re_tup, or_t, Int.toNat_natCast, noref, flatOk, List.length_map, Stp7.row, irow, un_stp, un_i, set_f, set_b, List.length_set, take_all, path_eta, true_and, rowsOf, appE, hfit, h1, hcast, hlaw, hk3]
  · have h0 := fitS_nil hfit
    have hlaw : ¬ p.lawful f := fun h => hfit (lawful_fit h)
    simp only [w_skip, w_rg, w_rgd, w_seq, w_cond, w_block, w_loop, w_exit, w_ret, w_gh, w_rg0, w_rg1, w_rgT, w_rgF, w_run, w_psd, w_und, w_dr0, w_dr1, w_drT, w_drF, w_drRun, w_drPsd, w_drUnd, w_drKn, w_drKs, w_putK, w_trimK, w_thenN, w_thenE, w_thenR, w_scope, w_label, w_blkN, w_blkE, w_blkR, w_call, w_effK, brU_true, brU_false, brU_u, brU_not, brU_and, brU_or, brU_dec, brU_eq, brU_ne, br_true, br_false, br_not, br_and, br_or, br_dec, br_eq, br_ne, w_getE0, w_getE1, w_setE0, w_setE1, w_dropE0, w_dropE1, w_drop0, w_drop1, w_getM0, w_getM1, w_setM0, w_setM1, ev_v, ev_c, w_putS, w_putN, w_lit, w_apU0, w_apU1, w_apU2, w_trim, enumE0, enumE1, w_callWp, w_callA0, w_callA1, w_R0, w_R1, w_R2, w_T2, w_callL, w_callT, w_T1, w_T0, o_mv, o_newnil, o_pick, o_bin, o_binN, o_neg, o_not, o_eqB, o_eqS, o_conv, o_alloc, o_box, o_load1, o_loadN, o_store, o_nilck, o_faddr, o_field1, o_fieldN, o_iaddr, o_istr, o_slStr, o_slSl, o_lenS, o_lenL, o_mx, o_mn, o_ext, o_build, o_lit, o_litOwn, o_app, o_mk, o_mvfrz, l_int, l_bool, l_str, l_agg, l_sl, l_own, l_ptr, l_pp, i_int, i_bool, i_str, i_sl, i_own, i_ptr, i_pp, all0, all1, e_ok1, eff, effBin, effBinN, ld_ptr, ld_pp, ld_elt, ia_own, ia_arr, el_1, el_N, load1K, faddrE, r_iaddr, sg_S, sg_c, sg_n, purL, pur, List.map, List.drop, List.take, List.length, List.foldl, List.append_eq, List.nil_append, List.cons_append, List.getD_cons_zero, List.getD_cons_succ, reduceIte, Nat.reduceEqDiff, Nat.reduceAdd, Nat.reduceLeDiff, true_and, and_true, Bool.not_true, Bool.not_false, Bool.and_true, Bool.true_and, Bool.and_self, reduceCtorEq, true_implies, false_implies, implies_true, decide_eq_true_eq, Option.map_some, fpOf, fpX, SOp.xs, oX, refs, refsL, dom, disj, List.all_nil, List.all_cons, List.contains_cons, List.contains_nil, Nat.reduceBEq, Bool.or_false, Bool.false_or, List.append_nil, Bool.not_false, Bool.not_true, List.forall_mem_cons, fm0, List.set, Nat.reduceLT, ne_eq, not_false_eq_true, not_true_eq_false
, ret1, ret1N, keep0, keep1, rf_int, rf_bool, rf_str, rf_sl, rf_agg, rf_tup, rfL0, rfL1, re_t, re_cN, re_L0, re_L1, ret_tup, ret_one, decide_true, AV.bool.injEq, AV.int.injEq, Nat.reduceLeDiff, Bool.true_eq, Bool.false_eq, decide_eq_true_eq, decide_eq_false_iff_not, t_iFit, t_sFit, t_wfs, t_iLawful, t_sLawful, t_first, t_last, t_alw, hle, t_fit, t_lawful, brow, un_span, Span2.row, eq_self, beq_self_eq_true, bne_self_eq_false, decide_false, hz, List.length_nil, Path5.av, retG_ret, ghost, retQ_eq, retOk, wkM, refsInO, keepB, re_tup, or_t, Int.toNat_natCast, noref, flatOk, List.length_map, Stp7.row, irow, un_stp, un_i, set_f, set_b, List.length_set, take_all, path_eta, true_and, rowsOf, appE, hfit, h0, hlaw]
    exact ⟨by omega, by omega⟩
end Go.Ve
