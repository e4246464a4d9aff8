/- Part 4 of the proof: laws and contracts of functions, each proved; they are joined in the last part. No conditions beyond those that the theorems state. -/
import Derived.Test.YtgpmpajihobhhaaDoorProg
import Derived.Test.YtgpmpajihobhhaaDoorSb3
set_option linter.all false
namespace Go.Ve
noncomputable section
open Go.Proofs
set_option linter.unusedSimpArgs false
set_option linter.unusedVariables false
set_option maxRecDepth 100000
def t_l2PointsOk : List AV → Option (Prop × AV)
  | [.agg [.int .i64 s_w, .int .i64 s_h, .int .i64 s_lv, .sl 0 3 s_pts, .sl 0 2 s_aws, .sl 0 2 s_secs, .sl 0 4 s_rws]] => some ((((s_pts.map unPt).map Pt.row = s_pts) ∧ ((s_aws.map unAw).map (Aw.row 0) = s_aws) ∧ ((s_secs.map unSec).map (Sec.row 0) = s_secs) ∧ ((s_rws.map unRw).map Rw.row = s_rws)) ∧ (dims (Sky.mk s_w s_h s_lv (s_pts.map unPt) (s_aws.map unAw) (s_secs.map unSec) (s_rws.map unRw)).w (Sky.mk s_w s_h s_lv (s_pts.map unPt) (s_aws.map unAw) (s_secs.map unSec) (s_rws.map unRw)).h (Sky.mk s_w s_h s_lv (s_pts.map unPt) (s_aws.map unAw) (s_secs.map unSec) (s_rws.map unRw)).lv ∧ (Sky.mk s_w s_h s_lv (s_pts.map unPt) (s_aws.map unAw) (s_secs.map unSec) (s_rws.map unRw)).small), .bool (decide (ptsOk (Sky.mk s_w s_h s_lv (s_pts.map unPt) (s_aws.map unAw) (s_secs.map unSec) (s_rws.map unRw)).w (Sky.mk s_w s_h s_lv (s_pts.map unPt) (s_aws.map unAw) (s_secs.map unSec) (s_rws.map unRw)).h (Sky.mk s_w s_h s_lv (s_pts.map unPt) (s_aws.map unAw) (s_secs.map unSec) (s_rws.map unRw)).pts)))
  | _ => none
theorem h_l2PointsOk : ∀ args p v, t_l2PointsOk args = some (p, v) → p → Contract P 65 args [] v [] ∧ noref v = true ∧ No99 v := by
  intro args p v h1 h2
  unfold t_l2PointsOk at h1
  split at h1
  · rename_i s_w s_h s_lv s_pts s_aws s_secs s_rws
    cases h1
    obtain ⟨⟨e0, e1, e2, e3⟩, HP⟩ := h2
    have := c_l2PointsOk (Sky.mk s_w s_h s_lv (s_pts.map unPt) (s_aws.map unAw) (s_secs.map unSec) (s_rws.map unRw)) HP.1 HP.2
    exact ⟨by simpa only [e0, e1, e2, e3, Sky.row] using this, rfl, trivial⟩
  · cases h1
set_option maxHeartbeats 400000 in
theorem pc_spec_l2AirwaysOk_0 (s : Sky) (i : Nat) {Q : XT → St → Prop} (hi : i < s.aws.length) (hl : s.aws.length ≤ 1048576) (hQ : ∀ bv : Bool, (bv = true ↔ ¬ (nameOk (s.aws.getD i default).nm ∧ (0 < i → slt (s.aws.getD (i - 1) default).nm (s.aws.getD i default).nm) ∧ 2 ≤ (s.aws.getD i default).pts.length ∧ (s.aws.getD i default).pts.length ≤ 8)) → Q .normal ⟨[(1, .ptr 101 0), (3, .int .i64 i), (4, .ptr 104 0), (49, .bool bv)], [(101, .box [.int .i64 s.w, .int .i64 s.h, .int .i64 s.lv, .sl 0 3 (s.pts.map Pt.row), .sl 0 2 (s.aws.map (Aw.row 0)), .sl 0 2 (s.secs.map (Sec.row 0)), .sl 0 4 (s.rws.map Rw.row)]), (104, .box [.str (s.aws.getD i default).nm, .sl 0 1 ((s.aws.getD i default).pts.map srow)])]⟩) : SCode.wp ((((Env.nil P).add 64 t_l1In h_l1In).add 122 t_l2Name h_l2Name).add 103 t_l2Point h_l2Point) p_spec_l2AirwaysOk_0 Q ⟨[(1, .ptr 101 0), (3, .int .i64 i), (4, .ptr 104 0)], [(101, .box [.int .i64 s.w, .int .i64 s.h, .int .i64 s.lv, .sl 0 3 (s.pts.map Pt.row), .sl 0 2 (s.aws.map (Aw.row 0)), .sl 0 2 (s.secs.map (Sec.row 0)), .sl 0 4 (s.rws.map Rw.row)]), (104, .box [.str (s.aws.getD i default).nm, .sl 0 1 ((s.aws.getD i default).pts.map srow)])]⟩ := by
  all_goals (unfold p_spec_l2AirwaysOk_0; simp (config := { maxSteps := 2000000 }) only [bitvec_to_nat, reduceIte, Nat.reduceEqDiff, Nat.reduceAdd, Nat.reduceLeDiff, reduceCtorEq, Nat.reduceBEq, Nat.reduceLT, Nat.reduceMod, List.forall_mem_cons, t_l1In, t_l2Name, t_l2Point, tk_map, dp_map, toNat_pred, appE, rowsOf, List.take_length, List.length_cons, List.length_nil, Nat.zero_add, srow, irow, un_s, un_i, Zone.row, Zone_eta, un_Zone, Pt.row, Pt_eta, un_Pt, Aw.row, Aw_eta, un_Aw, Blk.row, Blk_eta, un_Blk, Sec.row, Sec_eta, un_Sec, Rw.row, Rw_eta, un_Rw, Sky_eta])
  repeat' (first | with_reducible apply And.intro | with_reducible intro _)
  all_goals first
    | omega
    | (refine hQ _ ?_
       first
         | grind []
         | (simp; grind []))
    | grind []
theorem c_l2AirwaysOk (s : Sky) (hs : s.small) : Contract P 66 [.agg (s.row 0)] [] (.bool (decide (awsOk s.pts s.aws))) [] := by
  have hl : s.aws.length ≤ 1048576 := hs.2.1.1
  have hp : s.pts.length ≤ 1048576 := hs.1
  simp only [Sky.row]
  refine fn_sound ((((Env.nil P).add 64 t_l1In h_l1In).add 122 t_l2Name h_l2Name).add 103 t_l2Point h_l2Point) hm k_spec_l2AirwaysOk (Nat.le_of_ble_eq_true rfl) rfl ?_; unfold s_spec_l2AirwaysOk; simp (config := { maxSteps := 2000000 }) only [bitvec_to_nat, reduceIte, Nat.reduceEqDiff, Nat.reduceAdd, Nat.reduceLeDiff, reduceCtorEq, Nat.reduceBEq, Nat.reduceLT, Nat.reduceMod, List.forall_mem_cons, t_l1In, t_l2Name, t_l2Point, tk_map, dp_map, toNat_pred, appE, rowsOf, List.take_length, List.length_cons, List.length_nil, Nat.zero_add, srow, irow, un_s, un_i, Zone.row, Zone_eta, un_Zone, Pt.row, Pt_eta, un_Pt, Aw.row, Aw_eta, un_Aw, Blk.row, Blk_eta, un_Blk, Sec.row, Sec_eta, un_Sec, Rw.row, Rw_eta, un_Rw, Sky_eta]
  refine ⟨fun h1 => by intro h; have := h.1; omega, fun h1 => ?_⟩
  refine loop_st (fun i : Nat => [(3, .int .i64 i)]) (fun _ => []) (fun i => i ≤ s.aws.length ∧ ∀ j, j < i → awAt s.pts s.aws j) (fun i => s.aws.length - i) (0) (by simp only [u_E0, u_E1, u_M0, u_M1, w_setE0, w_setE1, w_setM0, w_setM1, reduceIte, Nat.reduceEqDiff]; exact ⟨by repeat' (first | exact trivial | refine ⟨.inr rfl, ?_⟩), by repeat' (first | exact trivial | refine ⟨rfl, ?_⟩), by first | rfl | simp [closedB, refsIn, refsInL, refsInO, dom, refsInL_nr, *], by first | rfl | simp [keepB, dom]⟩) ?_ ?_
  · exact ⟨Nat.zero_le _, by intro j hj; omega⟩
  intro i hi NX hN
  unfold l_spec_l2AirwaysOk_2; simp (config := { maxSteps := 2000000 }) only [bitvec_to_nat, reduceIte, Nat.reduceEqDiff, Nat.reduceAdd, Nat.reduceLeDiff, reduceCtorEq, Nat.reduceBEq, Nat.reduceLT, Nat.reduceMod, List.forall_mem_cons, t_l1In, t_l2Name, t_l2Point, tk_map, dp_map, toNat_pred, appE, rowsOf, List.take_length, List.length_cons, List.length_nil, Nat.zero_add, srow, irow, un_s, un_i, Zone.row, Zone_eta, un_Zone, Pt.row, Pt_eta, un_Pt, Aw.row, Aw_eta, un_Aw, Blk.row, Blk_eta, un_Blk, Sec.row, Sec_eta, un_Sec, Rw.row, Rw_eta, un_Rw, Sky_eta]
  refine ⟨fun g1 => ⟨by omega, by omega, ?_⟩, fun g1 => ?_⟩
  · have hq4 := Sky.small_aw hs (i := i) (by omega)
    have A : awsOk s.pts s.aws → awAt s.pts s.aws i := fun h => h.2 i (by omega)
    unfold awAt at A
    refine pc_spec_l2AirwaysOk_0 s i (by omega) hl fun bv hbv => ?_
    cases bv
    case true =>
      simp (config := { maxSteps := 2000000 }) only [bitvec_to_nat, reduceIte, Nat.reduceEqDiff, Nat.reduceAdd, Nat.reduceLeDiff, reduceCtorEq, Nat.reduceBEq, Nat.reduceLT, Nat.reduceMod, List.forall_mem_cons, t_l1In, t_l2Name, t_l2Point, tk_map, dp_map, toNat_pred, appE, rowsOf, List.take_length, List.length_cons, List.length_nil, Nat.zero_add, srow, irow, un_s, un_i, Zone.row, Zone_eta, un_Zone, Pt.row, Pt_eta, un_Pt, Aw.row, Aw_eta, un_Aw, Blk.row, Blk_eta, un_Blk, Sec.row, Sec_eta, un_Sec, Rw.row, Rw_eta, un_Rw, Sky_eta]
      exact fun hq => (hbv.1 rfl) ⟨(A hq).1, (A hq).2.1, (A hq).2.2.1⟩
    have o1 := Classical.not_not.1 fun h => Bool.noConfusion (hbv.2 h)
    simp (config := { maxSteps := 2000000 }) only [bitvec_to_nat, reduceIte, Nat.reduceEqDiff, Nat.reduceAdd, Nat.reduceLeDiff, reduceCtorEq, Nat.reduceBEq, Nat.reduceLT, Nat.reduceMod, List.forall_mem_cons, t_l1In, t_l2Name, t_l2Point, tk_map, dp_map, toNat_pred, appE, rowsOf, List.take_length, List.length_cons, List.length_nil, Nat.zero_add, srow, irow, un_s, un_i, Zone.row, Zone_eta, un_Zone, Pt.row, Pt_eta, un_Pt, Aw.row, Aw_eta, un_Aw, Blk.row, Blk_eta, un_Blk, Sec.row, Sec_eta, un_Sec, Rw.row, Rw_eta, un_Rw, Sky_eta]
    refine loop_st (fun k : Nat => [(5, .int .i64 k)]) (fun _ => []) (fun k => k ≤ (s.aws.getD i default).pts.length ∧ ∀ j, j < k → awPt s.pts (s.aws.getD i default).pts j) (fun k => (s.aws.getD i default).pts.length - k) (0) (by simp only [u_E0, u_E1, u_M0, u_M1, w_setE0, w_setE1, w_setM0, w_setM1, reduceIte, Nat.reduceEqDiff]; exact ⟨by repeat' (first | exact trivial | refine ⟨.inr rfl, ?_⟩), by repeat' (first | exact trivial | refine ⟨rfl, ?_⟩), by first | rfl | simp [closedB, refsIn, refsInL, refsInO, dom, refsInL_nr, *], by first | rfl | simp [keepB, dom]⟩) ?_ ?_
    · exact ⟨Nat.zero_le _, by intro j hj; omega⟩
    intro k hk NX2 hN2
    unfold l_spec_l2AirwaysOk_1; simp (config := { maxSteps := 2000000 }) only [bitvec_to_nat, reduceIte, Nat.reduceEqDiff, Nat.reduceAdd, Nat.reduceLeDiff, reduceCtorEq, Nat.reduceBEq, Nat.reduceLT, Nat.reduceMod, List.forall_mem_cons, t_l1In, t_l2Name, t_l2Point, tk_map, dp_map, toNat_pred, appE, rowsOf, List.take_length, List.length_cons, List.length_nil, Nat.zero_add, srow, irow, un_s, un_i, Zone.row, Zone_eta, un_Zone, Pt.row, Pt_eta, un_Pt, Aw.row, Aw_eta, un_Aw, Blk.row, Blk_eta, un_Blk, Sec.row, Sec_eta, un_Sec, Rw.row, Rw_eta, un_Rw, Sky_eta]
    refine ⟨fun g2 => ⟨by omega, by omega, by omega, fun g3 => ?_, fun g3 => ?_⟩, fun g2 => ?_⟩
    · intro hq; have := ((A hq).2.2.2 k (by omega)).1; omega
    · refine loop_st (fun j : Nat => [(6, .int .i64 j)]) (fun _ => []) (fun j => j ≤ k ∧ ∀ q, q < j → (s.aws.getD i default).pts.getD q default ≠ (s.aws.getD i default).pts.getD k default) (fun j => k - j) (0) (by simp only [u_E0, u_E1, u_M0, u_M1, w_setE0, w_setE1, w_setM0, w_setM1, reduceIte, Nat.reduceEqDiff]; exact ⟨by repeat' (first | exact trivial | refine ⟨.inr rfl, ?_⟩), by repeat' (first | exact trivial | refine ⟨rfl, ?_⟩), by first | rfl | simp [closedB, refsIn, refsInL, refsInO, dom, refsInL_nr, *], by first | rfl | simp [keepB, dom]⟩) ?_ ?_
      · exact ⟨Nat.zero_le _, by intro j hj; omega⟩
      intro j hj NX3 hN3
      unfold l_spec_l2AirwaysOk_0; simp (config := { maxSteps := 2000000 }) only [bitvec_to_nat, reduceIte, Nat.reduceEqDiff, Nat.reduceAdd, Nat.reduceLeDiff, reduceCtorEq, Nat.reduceBEq, Nat.reduceLT, Nat.reduceMod, List.forall_mem_cons, t_l1In, t_l2Name, t_l2Point, tk_map, dp_map, toNat_pred, appE, rowsOf, List.take_length, List.length_cons, List.length_nil, Nat.zero_add, srow, irow, un_s, un_i, Zone.row, Zone_eta, un_Zone, Pt.row, Pt_eta, un_Pt, Aw.row, Aw_eta, un_Aw, Blk.row, Blk_eta, un_Blk, Sec.row, Sec_eta, un_Sec, Rw.row, Rw_eta, un_Rw, Sky_eta]
      refine ⟨fun g4 => ⟨by omega, by omega, by omega, by omega, fun g5 => ?_, fun g5 => ⟨by omega, ?_⟩⟩, fun g4 => ⟨by omega, ?_⟩⟩
      · exact fun hq => ((A hq).2.2.2 k (by omega)).2 j (by omega) g5
      · refine hN3 (j + 1) _ (by simp only [u_E0, u_E1, u_M0, u_M1, w_setE0, w_setE1, w_setM0, w_setM1, reduceIte, Nat.reduceEqDiff]; exact ⟨by repeat' (first | exact trivial | refine ⟨.inr rfl, ?_⟩), by repeat' (first | exact trivial | refine ⟨rfl, ?_⟩), by first | rfl | simp [closedB, refsIn, refsInL, refsInO, dom, refsInL_nr, *], by first | rfl | simp [keepB, dom]⟩) ?_ ?_
        · exact ⟨by omega, all_snoc hj.2 g5⟩
        · omega
      · refine hN2 (k + 1) _ (by simp only [u_E0, u_E1, u_M0, u_M1, w_setE0, w_setE1, w_setM0, w_setM1, reduceIte, Nat.reduceEqDiff]; exact ⟨by repeat' (first | exact trivial | refine ⟨.inr rfl, ?_⟩), by repeat' (first | exact trivial | refine ⟨rfl, ?_⟩), by first | rfl | simp [closedB, refsIn, refsInL, refsInO, dom, refsInL_nr, *], by first | rfl | simp [keepB, dom]⟩) ?_ ?_
        · exact ⟨by omega, all_snoc hk.2 ⟨by omega, fun q hq => hj.2 q (by omega)⟩⟩
        · omega
    · refine ⟨by omega, ?_⟩
      refine hN (i + 1) _ (by simp only [u_E0, u_E1, u_M0, u_M1, w_setE0, w_setE1, w_setM0, w_setM1, reduceIte, Nat.reduceEqDiff]; exact ⟨by repeat' (first | exact trivial | refine ⟨.inr rfl, ?_⟩), by repeat' (first | exact trivial | refine ⟨rfl, ?_⟩), by first | rfl | simp [closedB, refsIn, refsInL, refsInO, dom, refsInL_nr, *], by first | rfl | simp [keepB, dom]⟩) ?_ ?_
      · exact ⟨by omega, all_snoc hi.2 ⟨o1.1, o1.2.1, o1.2.2, fun k hk2 => hk.2 k (by omega)⟩⟩
      · omega
  · exact ⟨by omega, fun j hj => hi.2 j (by omega)⟩
def t_l2AirwaysOk : List AV → Option (Prop × AV)
  | [.agg [.int .i64 s_w, .int .i64 s_h, .int .i64 s_lv, .sl 0 3 s_pts, .sl 0 2 s_aws, .sl 0 2 s_secs, .sl 0 4 s_rws]] => some ((((s_pts.map unPt).map Pt.row = s_pts) ∧ ((s_aws.map unAw).map (Aw.row 0) = s_aws) ∧ ((s_secs.map unSec).map (Sec.row 0) = s_secs) ∧ ((s_rws.map unRw).map Rw.row = s_rws)) ∧ ((Sky.mk s_w s_h s_lv (s_pts.map unPt) (s_aws.map unAw) (s_secs.map unSec) (s_rws.map unRw)).small), .bool (decide (awsOk (Sky.mk s_w s_h s_lv (s_pts.map unPt) (s_aws.map unAw) (s_secs.map unSec) (s_rws.map unRw)).pts (Sky.mk s_w s_h s_lv (s_pts.map unPt) (s_aws.map unAw) (s_secs.map unSec) (s_rws.map unRw)).aws)))
  | _ => none
theorem h_l2AirwaysOk : ∀ args p v, t_l2AirwaysOk args = some (p, v) → p → Contract P 66 args [] v [] ∧ noref v = true ∧ No99 v := by
  intro args p v h1 h2
  unfold t_l2AirwaysOk at h1
  split at h1
  · rename_i s_w s_h s_lv s_pts s_aws s_secs s_rws
    cases h1
    obtain ⟨⟨e0, e1, e2, e3⟩, HP⟩ := h2
    have := c_l2AirwaysOk (Sky.mk s_w s_h s_lv (s_pts.map unPt) (s_aws.map unAw) (s_secs.map unSec) (s_rws.map unRw)) HP
    exact ⟨by simpa only [e0, e1, e2, e3, Sky.row] using this, rfl, trivial⟩
  · cases h1
theorem c_l2BlockOk (s : Sky) (b : Blk) : Contract P 123 [.agg (s.row 0), .agg b.row] [] (.bool (decide (b.ok s.w s.h s.lv))) [] := by
  simp only [Sky.row, Blk.row]
  refine fn_sound ((Env.nil P).add 64 t_l1In h_l1In) hm k_spec_l2BlockOk (Nat.le_of_ble_eq_true rfl) rfl ?_; unfold s_spec_l2BlockOk; simp (config := { maxSteps := 2000000 }) only [bitvec_to_nat, reduceIte, Nat.reduceEqDiff, Nat.reduceAdd, Nat.reduceLeDiff, reduceCtorEq, Nat.reduceBEq, Nat.reduceLT, Nat.reduceMod, List.forall_mem_cons, t_l1In, tk_map, dp_map, toNat_pred, appE, rowsOf, List.take_length, List.length_cons, List.length_nil, Nat.zero_add, srow, irow, un_s, un_i, Zone.row, Zone_eta, un_Zone, Pt.row, Pt_eta, un_Pt, Aw.row, Aw_eta, un_Aw, Blk.row, Blk_eta, un_Blk, Sec.row, Sec_eta, un_Sec, Rw.row, Rw_eta, un_Rw, Sky_eta]
  repeat' (first | with_reducible apply And.intro | with_reducible intro _)
  all_goals first | omega | grind [Blk.ok]
def t_l2BlockOk : List AV → Option (Prop × AV)
  | [.agg [.int .i64 s_w, .int .i64 s_h, .int .i64 s_lv, .sl 0 3 s_pts, .sl 0 2 s_aws, .sl 0 2 s_secs, .sl 0 4 s_rws], .agg [.int .i64 b_x0, .int .i64 b_y0, .int .i64 b_x1, .int .i64 b_y1, .int .i64 b_lo, .int .i64 b_hi]] => some ((((s_pts.map unPt).map Pt.row = s_pts) ∧ ((s_aws.map unAw).map (Aw.row 0) = s_aws) ∧ ((s_secs.map unSec).map (Sec.row 0) = s_secs) ∧ ((s_rws.map unRw).map Rw.row = s_rws)) ∧ (True), .bool (decide ((Blk.mk b_x0 b_y0 b_x1 b_y1 b_lo b_hi).ok (Sky.mk s_w s_h s_lv (s_pts.map unPt) (s_aws.map unAw) (s_secs.map unSec) (s_rws.map unRw)).w (Sky.mk s_w s_h s_lv (s_pts.map unPt) (s_aws.map unAw) (s_secs.map unSec) (s_rws.map unRw)).h (Sky.mk s_w s_h s_lv (s_pts.map unPt) (s_aws.map unAw) (s_secs.map unSec) (s_rws.map unRw)).lv)))
  | _ => none
theorem h_l2BlockOk : ∀ args p v, t_l2BlockOk args = some (p, v) → p → Contract P 123 args [] v [] ∧ noref v = true ∧ No99 v := by
  intro args p v h1 h2
  unfold t_l2BlockOk at h1
  split at h1
  · rename_i s_w s_h s_lv s_pts s_aws s_secs s_rws b_x0 b_y0 b_x1 b_y1 b_lo b_hi
    cases h1
    obtain ⟨⟨e0, e1, e2, e3⟩, HP⟩ := h2
    have := c_l2BlockOk (Sky.mk s_w s_h s_lv (s_pts.map unPt) (s_aws.map unAw) (s_secs.map unSec) (s_rws.map unRw)) (Blk.mk b_x0 b_y0 b_x1 b_y1 b_lo b_hi)
    exact ⟨by simpa only [e0, e1, e2, e3, Sky.row, Blk.row] using this, rfl, trivial⟩
  · cases h1
theorem c_l2Less (a b : Blk) : Contract P 124 [.agg a.row, .agg b.row] [] (.bool (decide (a.less b))) [] := by
  simp only [Blk.row]
  refine fn_sound (Env.nil P) hm k_spec_l2Less (Nat.le_of_ble_eq_true rfl) rfl ?_; unfold s_spec_l2Less; simp (config := { maxSteps := 2000000 }) only [bitvec_to_nat, reduceIte, Nat.reduceEqDiff, Nat.reduceAdd, Nat.reduceLeDiff, reduceCtorEq, Nat.reduceBEq, Nat.reduceLT, Nat.reduceMod, List.forall_mem_cons, tk_map, dp_map, toNat_pred, appE, rowsOf, List.take_length, List.length_cons, List.length_nil, Nat.zero_add, srow, irow, un_s, un_i, Zone.row, Zone_eta, un_Zone, Pt.row, Pt_eta, un_Pt, Aw.row, Aw_eta, un_Aw, Blk.row, Blk_eta, un_Blk, Sec.row, Sec_eta, un_Sec, Rw.row, Rw_eta, un_Rw, Sky_eta]
  repeat' (first | with_reducible apply And.intro | with_reducible intro _)
  all_goals first | omega | grind [Blk.less]
def t_l2Less : List AV → Option (Prop × AV)
  | [.agg [.int .i64 a_x0, .int .i64 a_y0, .int .i64 a_x1, .int .i64 a_y1, .int .i64 a_lo, .int .i64 a_hi], .agg [.int .i64 b_x0, .int .i64 b_y0, .int .i64 b_x1, .int .i64 b_y1, .int .i64 b_lo, .int .i64 b_hi]] => some ((True) ∧ (True), .bool (decide ((Blk.mk a_x0 a_y0 a_x1 a_y1 a_lo a_hi).less (Blk.mk b_x0 b_y0 b_x1 b_y1 b_lo b_hi))))
  | _ => none
theorem h_l2Less : ∀ args p v, t_l2Less args = some (p, v) → p → Contract P 124 args [] v [] ∧ noref v = true ∧ No99 v := by
  intro args p v h1 h2
  unfold t_l2Less at h1
  split at h1
  · rename_i a_x0 a_y0 a_x1 a_y1 a_lo a_hi b_x0 b_y0 b_x1 b_y1 b_lo b_hi
    cases h1
    obtain ⟨_, HP⟩ := h2
    have := c_l2Less (Blk.mk a_x0 a_y0 a_x1 a_y1 a_lo a_hi) (Blk.mk b_x0 b_y0 b_x1 b_y1 b_lo b_hi)
    exact ⟨by simpa only [Blk.row, Blk.row] using this, rfl, trivial⟩
  · cases h1
theorem c_l2Shares (a b : Blk) : Contract P 126 [.agg a.row, .agg b.row] [] (.bool (decide (a.meet b))) [] := by
  simp only [Blk.row]
  refine fn_sound (Env.nil P) hm k_spec_l2Shares (Nat.le_of_ble_eq_true rfl) rfl ?_; unfold s_spec_l2Shares; simp (config := { maxSteps := 2000000 }) only [bitvec_to_nat, reduceIte, Nat.reduceEqDiff, Nat.reduceAdd, Nat.reduceLeDiff, reduceCtorEq, Nat.reduceBEq, Nat.reduceLT, Nat.reduceMod, List.forall_mem_cons, tk_map, dp_map, toNat_pred, appE, rowsOf, List.take_length, List.length_cons, List.length_nil, Nat.zero_add, srow, irow, un_s, un_i, Zone.row, Zone_eta, un_Zone, Pt.row, Pt_eta, un_Pt, Aw.row, Aw_eta, un_Aw, Blk.row, Blk_eta, un_Blk, Sec.row, Sec_eta, un_Sec, Rw.row, Rw_eta, un_Rw, Sky_eta]
  repeat' (first | with_reducible apply And.intro | with_reducible intro _)
  all_goals first | omega | grind [Blk.meet]
def t_l2Shares : List AV → Option (Prop × AV)
  | [.agg [.int .i64 a_x0, .int .i64 a_y0, .int .i64 a_x1, .int .i64 a_y1, .int .i64 a_lo, .int .i64 a_hi], .agg [.int .i64 b_x0, .int .i64 b_y0, .int .i64 b_x1, .int .i64 b_y1, .int .i64 b_lo, .int .i64 b_hi]] => some ((True) ∧ (True), .bool (decide ((Blk.mk a_x0 a_y0 a_x1 a_y1 a_lo a_hi).meet (Blk.mk b_x0 b_y0 b_x1 b_y1 b_lo b_hi))))
  | _ => none
theorem h_l2Shares : ∀ args p v, t_l2Shares args = some (p, v) → p → Contract P 126 args [] v [] ∧ noref v = true ∧ No99 v := by
  intro args p v h1 h2
  unfold t_l2Shares at h1
  split at h1
  · rename_i a_x0 a_y0 a_x1 a_y1 a_lo a_hi b_x0 b_y0 b_x1 b_y1 b_lo b_hi
    cases h1
    obtain ⟨_, HP⟩ := h2
    have := c_l2Shares (Blk.mk a_x0 a_y0 a_x1 a_y1 a_lo a_hi) (Blk.mk b_x0 b_y0 b_x1 b_y1 b_lo b_hi)
    exact ⟨by simpa only [Blk.row, Blk.row] using this, rfl, trivial⟩
  · cases h1
set_option maxHeartbeats 400000 in
theorem pc_spec_l2SectorsOk_0 (s : Sky) (i : Nat) {Q : XT → St → Prop} (hi : i < s.secs.length) (hl : s.secs.length ≤ 1048576) (hQ : ∀ bv : Bool, (bv = true ↔ ¬ (nameOk (s.secs.getD i default).nm ∧ (0 < i → slt (s.secs.getD (i - 1) default).nm (s.secs.getD i default).nm) ∧ 1 ≤ (s.secs.getD i default).bl.length ∧ (s.secs.getD i default).bl.length ≤ 4)) → Q .normal ⟨[(1, .ptr 101 0), (3, .int .i64 i), (4, .ptr 104 0), (48, .bool bv)], [(101, .box [.int .i64 s.w, .int .i64 s.h, .int .i64 s.lv, .sl 0 3 (s.pts.map Pt.row), .sl 0 2 (s.aws.map (Aw.row 0)), .sl 0 2 (s.secs.map (Sec.row 0)), .sl 0 4 (s.rws.map Rw.row)]), (104, .box [.str (s.secs.getD i default).nm, .sl 0 6 ((s.secs.getD i default).bl.map Blk.row)])]⟩) : SCode.wp (((((Env.nil P).add 64 t_l1In h_l1In).add 122 t_l2Name h_l2Name).add 123 t_l2BlockOk h_l2BlockOk).add 124 t_l2Less h_l2Less) p_spec_l2SectorsOk_0 Q ⟨[(1, .ptr 101 0), (3, .int .i64 i), (4, .ptr 104 0)], [(101, .box [.int .i64 s.w, .int .i64 s.h, .int .i64 s.lv, .sl 0 3 (s.pts.map Pt.row), .sl 0 2 (s.aws.map (Aw.row 0)), .sl 0 2 (s.secs.map (Sec.row 0)), .sl 0 4 (s.rws.map Rw.row)]), (104, .box [.str (s.secs.getD i default).nm, .sl 0 6 ((s.secs.getD i default).bl.map Blk.row)])]⟩ := by
  all_goals (unfold p_spec_l2SectorsOk_0; simp (config := { maxSteps := 2000000 }) only [bitvec_to_nat, reduceIte, Nat.reduceEqDiff, Nat.reduceAdd, Nat.reduceLeDiff, reduceCtorEq, Nat.reduceBEq, Nat.reduceLT, Nat.reduceMod, List.forall_mem_cons, t_l1In, t_l2Name, t_l2BlockOk, t_l2Less, tk_map, dp_map, toNat_pred, appE, rowsOf, List.take_length, List.length_cons, List.length_nil, Nat.zero_add, srow, irow, un_s, un_i, Zone.row, Zone_eta, un_Zone, Pt.row, Pt_eta, un_Pt, Aw.row, Aw_eta, un_Aw, Blk.row, Blk_eta, un_Blk, Sec.row, Sec_eta, un_Sec, Rw.row, Rw_eta, un_Rw, Sky_eta])
  repeat' (first | with_reducible apply And.intro | with_reducible intro _)
  all_goals first
    | omega
    | (refine hQ _ ?_
       first
         | grind []
         | (simp; grind []))
    | grind []
set_option maxHeartbeats 400000 in
theorem pc_spec_l2SectorsOk_1 (s : Sky) (i k : Nat) {w53 : AV} {Q : XT → St → Prop} (hk : k < (s.secs.getD i default).bl.length) (hl : (s.secs.getD i default).bl.length ≤ 1048576) (hQ : ∀ bv : Bool, (bv = true ↔ ¬ blkAt s.w s.h s.lv (s.secs.getD i default).bl k) → Q .normal ⟨[(1, .ptr 101 0), (3, .int .i64 i), (4, .ptr 104 0), (5, .int .i64 k), (82, .bool bv)], [(101, .box [.int .i64 s.w, .int .i64 s.h, .int .i64 s.lv, .sl 0 3 (s.pts.map Pt.row), .sl 0 2 (s.aws.map (Aw.row 0)), .sl 0 2 (s.secs.map (Sec.row 0)), .sl 0 4 (s.rws.map Rw.row)]), (104, .box [.str (s.secs.getD i default).nm, .sl 0 6 ((s.secs.getD i default).bl.map Blk.row)])]⟩) : SCode.wp (((((Env.nil P).add 64 t_l1In h_l1In).add 122 t_l2Name h_l2Name).add 123 t_l2BlockOk h_l2BlockOk).add 124 t_l2Less h_l2Less) p_spec_l2SectorsOk_1 Q ⟨[(1, .ptr 101 0), (3, .int .i64 i), (4, .ptr 104 0), (5, .int .i64 k), (53, w53)], [(101, .box [.int .i64 s.w, .int .i64 s.h, .int .i64 s.lv, .sl 0 3 (s.pts.map Pt.row), .sl 0 2 (s.aws.map (Aw.row 0)), .sl 0 2 (s.secs.map (Sec.row 0)), .sl 0 4 (s.rws.map Rw.row)]), (104, .box [.str (s.secs.getD i default).nm, .sl 0 6 ((s.secs.getD i default).bl.map Blk.row)])]⟩ := by
  all_goals (unfold p_spec_l2SectorsOk_1; simp (config := { maxSteps := 2000000 }) only [bitvec_to_nat, reduceIte, Nat.reduceEqDiff, Nat.reduceAdd, Nat.reduceLeDiff, reduceCtorEq, Nat.reduceBEq, Nat.reduceLT, Nat.reduceMod, List.forall_mem_cons, t_l1In, t_l2Name, t_l2BlockOk, t_l2Less, tk_map, dp_map, toNat_pred, appE, rowsOf, List.take_length, List.length_cons, List.length_nil, Nat.zero_add, srow, irow, un_s, un_i, Zone.row, Zone_eta, un_Zone, Pt.row, Pt_eta, un_Pt, Aw.row, Aw_eta, un_Aw, Blk.row, Blk_eta, un_Blk, Sec.row, Sec_eta, un_Sec, Rw.row, Rw_eta, un_Rw, Sky_eta])
  repeat' (first | with_reducible apply And.intro | with_reducible intro _)
  all_goals first
    | omega
    | (refine hQ _ ?_
       first
         | grind [blkAt]
         | (simp; grind [blkAt]))
    | grind [blkAt]
theorem c_l2SectorsOk (s : Sky) (hs : s.small) : Contract P 67 [.agg (s.row 0)] [] (.bool (decide (secsOk s.w s.h s.lv s.secs))) [] := by
  have hl : s.secs.length ≤ 1048576 := hs.2.2.1.1
  simp only [Sky.row]
  refine fn_sound (((((Env.nil P).add 64 t_l1In h_l1In).add 122 t_l2Name h_l2Name).add 123 t_l2BlockOk h_l2BlockOk).add 124 t_l2Less h_l2Less) hm k_spec_l2SectorsOk (Nat.le_of_ble_eq_true rfl) rfl ?_; unfold s_spec_l2SectorsOk; simp (config := { maxSteps := 2000000 }) only [bitvec_to_nat, reduceIte, Nat.reduceEqDiff, Nat.reduceAdd, Nat.reduceLeDiff, reduceCtorEq, Nat.reduceBEq, Nat.reduceLT, Nat.reduceMod, List.forall_mem_cons, t_l1In, t_l2Name, t_l2BlockOk, t_l2Less, tk_map, dp_map, toNat_pred, appE, rowsOf, List.take_length, List.length_cons, List.length_nil, Nat.zero_add, srow, irow, un_s, un_i, Zone.row, Zone_eta, un_Zone, Pt.row, Pt_eta, un_Pt, Aw.row, Aw_eta, un_Aw, Blk.row, Blk_eta, un_Blk, Sec.row, Sec_eta, un_Sec, Rw.row, Rw_eta, un_Rw, Sky_eta]
  refine ⟨fun h1 => by intro h; have := h.1; omega, fun h1 => ?_⟩
  refine loop_st (fun i : Nat => [(3, .int .i64 i)]) (fun _ => []) (fun i => i ≤ s.secs.length ∧ ∀ j, j < i → secAt s.w s.h s.lv s.secs j) (fun i => s.secs.length - i) (0) (by simp only [u_E0, u_E1, u_M0, u_M1, w_setE0, w_setE1, w_setM0, w_setM1, reduceIte, Nat.reduceEqDiff]; exact ⟨by repeat' (first | exact trivial | refine ⟨.inr rfl, ?_⟩), by repeat' (first | exact trivial | refine ⟨rfl, ?_⟩), by first | rfl | simp [closedB, refsIn, refsInL, refsInO, dom, refsInL_nr, *], by first | rfl | simp [keepB, dom]⟩) ?_ ?_
  · exact ⟨Nat.zero_le _, by intro j hj; omega⟩
  intro i hi NX hN
  unfold l_spec_l2SectorsOk_1; simp (config := { maxSteps := 2000000 }) only [bitvec_to_nat, reduceIte, Nat.reduceEqDiff, Nat.reduceAdd, Nat.reduceLeDiff, reduceCtorEq, Nat.reduceBEq, Nat.reduceLT, Nat.reduceMod, List.forall_mem_cons, t_l1In, t_l2Name, t_l2BlockOk, t_l2Less, tk_map, dp_map, toNat_pred, appE, rowsOf, List.take_length, List.length_cons, List.length_nil, Nat.zero_add, srow, irow, un_s, un_i, Zone.row, Zone_eta, un_Zone, Pt.row, Pt_eta, un_Pt, Aw.row, Aw_eta, un_Aw, Blk.row, Blk_eta, un_Blk, Sec.row, Sec_eta, un_Sec, Rw.row, Rw_eta, un_Rw, Sky_eta]
  refine ⟨fun g1 => ⟨by omega, by omega, ?_⟩, fun g1 => ?_⟩
  · have hq4 := Sky.small_sec hs (i := i) (by omega)
    have A : secsOk s.w s.h s.lv s.secs → secAt s.w s.h s.lv s.secs i := fun h => h.2 i (by omega)
    unfold secAt at A
    refine pc_spec_l2SectorsOk_0 s i (by omega) hl fun bv hbv => ?_
    cases bv
    case true =>
      simp (config := { maxSteps := 2000000 }) only [bitvec_to_nat, reduceIte, Nat.reduceEqDiff, Nat.reduceAdd, Nat.reduceLeDiff, reduceCtorEq, Nat.reduceBEq, Nat.reduceLT, Nat.reduceMod, List.forall_mem_cons, t_l1In, t_l2Name, t_l2BlockOk, t_l2Less, tk_map, dp_map, toNat_pred, appE, rowsOf, List.take_length, List.length_cons, List.length_nil, Nat.zero_add, srow, irow, un_s, un_i, Zone.row, Zone_eta, un_Zone, Pt.row, Pt_eta, un_Pt, Aw.row, Aw_eta, un_Aw, Blk.row, Blk_eta, un_Blk, Sec.row, Sec_eta, un_Sec, Rw.row, Rw_eta, un_Rw, Sky_eta]
      exact fun hq => (hbv.1 rfl) ⟨(A hq).1, (A hq).2.1, (A hq).2.2.1⟩
    have o1 := Classical.not_not.1 fun h => Bool.noConfusion (hbv.2 h)
    simp (config := { maxSteps := 2000000 }) only [bitvec_to_nat, reduceIte, Nat.reduceEqDiff, Nat.reduceAdd, Nat.reduceLeDiff, reduceCtorEq, Nat.reduceBEq, Nat.reduceLT, Nat.reduceMod, List.forall_mem_cons, t_l1In, t_l2Name, t_l2BlockOk, t_l2Less, tk_map, dp_map, toNat_pred, appE, rowsOf, List.take_length, List.length_cons, List.length_nil, Nat.zero_add, srow, irow, un_s, un_i, Zone.row, Zone_eta, un_Zone, Pt.row, Pt_eta, un_Pt, Aw.row, Aw_eta, un_Aw, Blk.row, Blk_eta, un_Blk, Sec.row, Sec_eta, un_Sec, Rw.row, Rw_eta, un_Rw, Sky_eta]
    refine loop_st (fun k : Nat => [(5, .int .i64 k)]) (fun _ => []) (fun k => k ≤ (s.secs.getD i default).bl.length ∧ ∀ j, j < k → blkAt s.w s.h s.lv (s.secs.getD i default).bl j) (fun k => (s.secs.getD i default).bl.length - k) (0) (by simp only [u_E0, u_E1, u_M0, u_M1, w_setE0, w_setE1, w_setM0, w_setM1, reduceIte, Nat.reduceEqDiff]; exact ⟨by repeat' (first | exact trivial | refine ⟨.inr rfl, ?_⟩), by repeat' (first | exact trivial | refine ⟨rfl, ?_⟩), by first | rfl | simp [closedB, refsIn, refsInL, refsInO, dom, refsInL_nr, *], by first | rfl | simp [keepB, dom]⟩) ?_ ?_
    · exact ⟨Nat.zero_le _, by intro j hj; omega⟩
    intro k hk NX2 hN2
    unfold l_spec_l2SectorsOk_0; simp (config := { maxSteps := 2000000 }) only [bitvec_to_nat, reduceIte, Nat.reduceEqDiff, Nat.reduceAdd, Nat.reduceLeDiff, reduceCtorEq, Nat.reduceBEq, Nat.reduceLT, Nat.reduceMod, List.forall_mem_cons, t_l1In, t_l2Name, t_l2BlockOk, t_l2Less, tk_map, dp_map, toNat_pred, appE, rowsOf, List.take_length, List.length_cons, List.length_nil, Nat.zero_add, srow, irow, un_s, un_i, Zone.row, Zone_eta, un_Zone, Pt.row, Pt_eta, un_Pt, Aw.row, Aw_eta, un_Aw, Blk.row, Blk_eta, un_Blk, Sec.row, Sec_eta, un_Sec, Rw.row, Rw_eta, un_Rw, Sky_eta]
    refine ⟨fun g2 => ?_, fun g2 => ?_⟩
    · refine pc_spec_l2SectorsOk_1 s i k (by omega) hq4 fun bv hbv => ?_
      cases bv
      case true =>
        simp (config := { maxSteps := 2000000 }) only [bitvec_to_nat, reduceIte, Nat.reduceEqDiff, Nat.reduceAdd, Nat.reduceLeDiff, reduceCtorEq, Nat.reduceBEq, Nat.reduceLT, Nat.reduceMod, List.forall_mem_cons, t_l1In, t_l2Name, t_l2BlockOk, t_l2Less, tk_map, dp_map, toNat_pred, appE, rowsOf, List.take_length, List.length_cons, List.length_nil, Nat.zero_add, srow, irow, un_s, un_i, Zone.row, Zone_eta, un_Zone, Pt.row, Pt_eta, un_Pt, Aw.row, Aw_eta, un_Aw, Blk.row, Blk_eta, un_Blk, Sec.row, Sec_eta, un_Sec, Rw.row, Rw_eta, un_Rw, Sky_eta]
        exact fun hq => (hbv.1 rfl) ((A hq).2.2.2 k (by omega))
      have o2 := Classical.not_not.1 fun h => Bool.noConfusion (hbv.2 h)
      simp (config := { maxSteps := 2000000 }) only [bitvec_to_nat, reduceIte, Nat.reduceEqDiff, Nat.reduceAdd, Nat.reduceLeDiff, reduceCtorEq, Nat.reduceBEq, Nat.reduceLT, Nat.reduceMod, List.forall_mem_cons, t_l1In, t_l2Name, t_l2BlockOk, t_l2Less, tk_map, dp_map, toNat_pred, appE, rowsOf, List.take_length, List.length_cons, List.length_nil, Nat.zero_add, srow, irow, un_s, un_i, Zone.row, Zone_eta, un_Zone, Pt.row, Pt_eta, un_Pt, Aw.row, Aw_eta, un_Aw, Blk.row, Blk_eta, un_Blk, Sec.row, Sec_eta, un_Sec, Rw.row, Rw_eta, un_Rw, Sky_eta]
      refine ⟨by omega, ?_⟩
      refine hN2 (k + 1) _ (by simp only [u_E0, u_E1, u_M0, u_M1, w_setE0, w_setE1, w_setM0, w_setM1, reduceIte, Nat.reduceEqDiff]; exact ⟨by repeat' (first | exact trivial | refine ⟨.inr rfl, ?_⟩), by repeat' (first | exact trivial | refine ⟨rfl, ?_⟩), by first | rfl | simp [closedB, refsIn, refsInL, refsInO, dom, refsInL_nr, *], by first | rfl | simp [keepB, dom]⟩) ?_ ?_
      · exact ⟨by omega, all_snoc hk.2 o2⟩
      · omega
    · refine ⟨by omega, ?_⟩
      refine hN (i + 1) _ (by simp only [u_E0, u_E1, u_M0, u_M1, w_setE0, w_setE1, w_setM0, w_setM1, reduceIte, Nat.reduceEqDiff]; exact ⟨by repeat' (first | exact trivial | refine ⟨.inr rfl, ?_⟩), by repeat' (first | exact trivial | refine ⟨rfl, ?_⟩), by first | rfl | simp [closedB, refsIn, refsInL, refsInO, dom, refsInL_nr, *], by first | rfl | simp [keepB, dom]⟩) ?_ ?_
      · exact ⟨by omega, all_snoc hi.2 ⟨o1.1, o1.2.1, o1.2.2, fun k hk2 => hk.2 k (by omega)⟩⟩
      · omega
  · exact ⟨by omega, fun j hj => hi.2 j (by omega)⟩
def t_l2SectorsOk : List AV → Option (Prop × AV)
  | [.agg [.int .i64 s_w, .int .i64 s_h, .int .i64 s_lv, .sl 0 3 s_pts, .sl 0 2 s_aws, .sl 0 2 s_secs, .sl 0 4 s_rws]] => some ((((s_pts.map unPt).map Pt.row = s_pts) ∧ ((s_aws.map unAw).map (Aw.row 0) = s_aws) ∧ ((s_secs.map unSec).map (Sec.row 0) = s_secs) ∧ ((s_rws.map unRw).map Rw.row = s_rws)) ∧ ((Sky.mk s_w s_h s_lv (s_pts.map unPt) (s_aws.map unAw) (s_secs.map unSec) (s_rws.map unRw)).small), .bool (decide (secsOk (Sky.mk s_w s_h s_lv (s_pts.map unPt) (s_aws.map unAw) (s_secs.map unSec) (s_rws.map unRw)).w (Sky.mk s_w s_h s_lv (s_pts.map unPt) (s_aws.map unAw) (s_secs.map unSec) (s_rws.map unRw)).h (Sky.mk s_w s_h s_lv (s_pts.map unPt) (s_aws.map unAw) (s_secs.map unSec) (s_rws.map unRw)).lv (Sky.mk s_w s_h s_lv (s_pts.map unPt) (s_aws.map unAw) (s_secs.map unSec) (s_rws.map unRw)).secs)))
  | _ => none
theorem h_l2SectorsOk : ∀ args p v, t_l2SectorsOk args = some (p, v) → p → Contract P 67 args [] v [] ∧ noref v = true ∧ No99 v := by
  intro args p v h1 h2
  unfold t_l2SectorsOk at h1
  split at h1
  · rename_i s_w s_h s_lv s_pts s_aws s_secs s_rws
    cases h1
    obtain ⟨⟨e0, e1, e2, e3⟩, HP⟩ := h2
    have := c_l2SectorsOk (Sky.mk s_w s_h s_lv (s_pts.map unPt) (s_aws.map unAw) (s_secs.map unSec) (s_rws.map unRw)) HP
    exact ⟨by simpa only [e0, e1, e2, e3, Sky.row] using this, rfl, trivial⟩
  · cases h1
theorem c_dX (t : Int) : Contract P 127 [.int .i64 t] [] (.int .i64 (dX t)) [] := by
  refine fn_sound (Env.nil P) hm k_spec_l2Dx (Nat.le_of_ble_eq_true rfl) rfl ?_; unfold s_spec_l2Dx; simp (config := { maxSteps := 2000000 }) only [bitvec_to_nat, reduceIte, Nat.reduceEqDiff, Nat.reduceAdd, Nat.reduceLeDiff, reduceCtorEq, Nat.reduceBEq, Nat.reduceLT, Nat.reduceMod, List.forall_mem_cons, tk_map, dp_map, toNat_pred, appE, rowsOf, List.take_length, List.length_cons, List.length_nil, Nat.zero_add, srow, irow, un_s, un_i, Zone.row, Zone_eta, un_Zone, Pt.row, Pt_eta, un_Pt, Aw.row, Aw_eta, un_Aw, Blk.row, Blk_eta, un_Blk, Sec.row, Sec_eta, un_Sec, Rw.row, Rw_eta, un_Rw, Sky_eta]
  repeat' (first | with_reducible apply And.intro | with_reducible intro _)
  all_goals first | omega | (unfold dX; grind)
def t_dX : List AV → Option (Prop × AV)
  | [.int .i64 t] => some ((True) ∧ (True), .int .i64 (dX t))
  | _ => none
theorem h_dX : ∀ args p v, t_dX args = some (p, v) → p → Contract P 127 args [] v [] ∧ noref v = true ∧ No99 v := by
  intro args p v h1 h2
  unfold t_dX at h1
  split at h1
  · rename_i t
    cases h1
    obtain ⟨_, HP⟩ := h2
    have := c_dX t
    exact ⟨this, rfl, trivial⟩
  · cases h1
theorem c_dY (t : Int) : Contract P 128 [.int .i64 t] [] (.int .i64 (dY t)) [] := by
  refine fn_sound (Env.nil P) hm k_spec_l2Dy (Nat.le_of_ble_eq_true rfl) rfl ?_; unfold s_spec_l2Dy; simp (config := { maxSteps := 2000000 }) only [bitvec_to_nat, reduceIte, Nat.reduceEqDiff, Nat.reduceAdd, Nat.reduceLeDiff, reduceCtorEq, Nat.reduceBEq, Nat.reduceLT, Nat.reduceMod, List.forall_mem_cons, tk_map, dp_map, toNat_pred, appE, rowsOf, List.take_length, List.length_cons, List.length_nil, Nat.zero_add, srow, irow, un_s, un_i, Zone.row, Zone_eta, un_Zone, Pt.row, Pt_eta, un_Pt, Aw.row, Aw_eta, un_Aw, Blk.row, Blk_eta, un_Blk, Sec.row, Sec_eta, un_Sec, Rw.row, Rw_eta, un_Rw, Sky_eta]
  repeat' (first | with_reducible apply And.intro | with_reducible intro _)
  all_goals first | omega | (unfold dY; grind)
def t_dY : List AV → Option (Prop × AV)
  | [.int .i64 t] => some ((True) ∧ (True), .int .i64 (dY t))
  | _ => none
theorem h_dY : ∀ args p v, t_dY args = some (p, v) → p → Contract P 128 args [] v [] ∧ noref v = true ∧ No99 v := by
  intro args p v h1 h2
  unfold t_dY at h1
  split at h1
  · rename_i t
    cases h1
    obtain ⟨_, HP⟩ := h2
    have := c_dY t
    exact ⟨this, rfl, trivial⟩
  · cases h1
set_option maxHeartbeats 400000 in
theorem pc_spec_l2RunwaysOk_0 (s : Sky) (i : Nat) {Q : XT → St → Prop} (hi : i < s.rws.length) (hl : s.rws.length ≤ 1048576) (hd : dims s.w s.h s.lv) (hQ : ∀ bv : Bool, (bv = true ↔ ¬ (nameOk (s.rws.getD i default).nm ∧ (0 < i → slt (s.rws.getD (i - 1) default).nm (s.rws.getD i default).nm) ∧ inSky s.w s.h (s.rws.getD i default).x (s.rws.getD i default).y ∧ 1 ≤ (s.rws.getD i default).tn ∧ (s.rws.getD i default).tn ≤ 8)) → Q .normal ⟨[(1, .ptr 101 0), (3, .int .i64 i), (4, .ptr 104 0), (65, .bool bv)], [(101, .box [.int .i64 s.w, .int .i64 s.h, .int .i64 s.lv, .sl 0 3 (s.pts.map Pt.row), .sl 0 2 (s.aws.map (Aw.row 0)), .sl 0 2 (s.secs.map (Sec.row 0)), .sl 0 4 (s.rws.map Rw.row)]), (104, .box [.str (s.rws.getD i default).nm, .int .i64 (s.rws.getD i default).x, .int .i64 (s.rws.getD i default).y, .int .i64 (s.rws.getD i default).tn])]⟩) : SCode.wp (((((Env.nil P).add 64 t_l1In h_l1In).add 122 t_l2Name h_l2Name).add 127 t_dX h_dX).add 128 t_dY h_dY) p_spec_l2RunwaysOk_0 Q ⟨[(1, .ptr 101 0), (3, .int .i64 i), (4, .ptr 104 0)], [(101, .box [.int .i64 s.w, .int .i64 s.h, .int .i64 s.lv, .sl 0 3 (s.pts.map Pt.row), .sl 0 2 (s.aws.map (Aw.row 0)), .sl 0 2 (s.secs.map (Sec.row 0)), .sl 0 4 (s.rws.map Rw.row)]), (104, .box [.str (s.rws.getD i default).nm, .int .i64 (s.rws.getD i default).x, .int .i64 (s.rws.getD i default).y, .int .i64 (s.rws.getD i default).tn])]⟩ := by
  all_goals (unfold p_spec_l2RunwaysOk_0; simp (config := { maxSteps := 2000000 }) only [bitvec_to_nat, reduceIte, Nat.reduceEqDiff, Nat.reduceAdd, Nat.reduceLeDiff, reduceCtorEq, Nat.reduceBEq, Nat.reduceLT, Nat.reduceMod, List.forall_mem_cons, t_l1In, t_l2Name, t_dX, t_dY, tk_map, dp_map, toNat_pred, appE, rowsOf, List.take_length, List.length_cons, List.length_nil, Nat.zero_add, srow, irow, un_s, un_i, Zone.row, Zone_eta, un_Zone, Pt.row, Pt_eta, un_Pt, Aw.row, Aw_eta, un_Aw, Blk.row, Blk_eta, un_Blk, Sec.row, Sec_eta, un_Sec, Rw.row, Rw_eta, un_Rw, Sky_eta])
  repeat' (first | with_reducible apply And.intro | with_reducible intro _)
  all_goals first
    | omega
    | (refine hQ _ ?_
       first
         | grind [inSky, dims]
         | (simp; grind [inSky, dims]))
    | grind [inSky, dims]
set_option maxHeartbeats 400000 in
theorem pc_spec_l2RunwaysOk_1 (s : Sky) (i : Nat) {w65 : AV} {Q : XT → St → Prop} (hd : dims s.w s.h s.lv) (hc : inSky s.w s.h (s.rws.getD i default).x (s.rws.getD i default).y) (d1 : -1 ≤ dX (s.rws.getD i default).tn ∧ dX (s.rws.getD i default).tn ≤ 1) (d2 : -1 ≤ dY (s.rws.getD i default).tn ∧ dY (s.rws.getD i default).tn ≤ 1) (hQ : ∀ bv : Bool, (bv = true ↔ ¬ inSky s.w s.h ((s.rws.getD i default).x - dX (s.rws.getD i default).tn) ((s.rws.getD i default).y - dY (s.rws.getD i default).tn)) → Q .normal ⟨[(1, .ptr 101 0), (3, .int .i64 i), (4, .ptr 104 0), (89, .bool bv)], [(101, .box [.int .i64 s.w, .int .i64 s.h, .int .i64 s.lv, .sl 0 3 (s.pts.map Pt.row), .sl 0 2 (s.aws.map (Aw.row 0)), .sl 0 2 (s.secs.map (Sec.row 0)), .sl 0 4 (s.rws.map Rw.row)]), (104, .box [.str (s.rws.getD i default).nm, .int .i64 (s.rws.getD i default).x, .int .i64 (s.rws.getD i default).y, .int .i64 (s.rws.getD i default).tn])]⟩) : SCode.wp (((((Env.nil P).add 64 t_l1In h_l1In).add 122 t_l2Name h_l2Name).add 127 t_dX h_dX).add 128 t_dY h_dY) p_spec_l2RunwaysOk_1 Q ⟨[(1, .ptr 101 0), (3, .int .i64 i), (4, .ptr 104 0), (65, w65)], [(101, .box [.int .i64 s.w, .int .i64 s.h, .int .i64 s.lv, .sl 0 3 (s.pts.map Pt.row), .sl 0 2 (s.aws.map (Aw.row 0)), .sl 0 2 (s.secs.map (Sec.row 0)), .sl 0 4 (s.rws.map Rw.row)]), (104, .box [.str (s.rws.getD i default).nm, .int .i64 (s.rws.getD i default).x, .int .i64 (s.rws.getD i default).y, .int .i64 (s.rws.getD i default).tn])]⟩ := by
  all_goals (unfold p_spec_l2RunwaysOk_1; simp (config := { maxSteps := 2000000 }) only [bitvec_to_nat, reduceIte, Nat.reduceEqDiff, Nat.reduceAdd, Nat.reduceLeDiff, reduceCtorEq, Nat.reduceBEq, Nat.reduceLT, Nat.reduceMod, List.forall_mem_cons, t_l1In, t_l2Name, t_dX, t_dY, tk_map, dp_map, toNat_pred, appE, rowsOf, List.take_length, List.length_cons, List.length_nil, Nat.zero_add, srow, irow, un_s, un_i, Zone.row, Zone_eta, un_Zone, Pt.row, Pt_eta, un_Pt, Aw.row, Aw_eta, un_Aw, Blk.row, Blk_eta, un_Blk, Sec.row, Sec_eta, un_Sec, Rw.row, Rw_eta, un_Rw, Sky_eta])
  repeat' (first | with_reducible apply And.intro | with_reducible intro _)
  all_goals first
    | omega
    | (refine hQ _ ?_
       first
         | grind [inSky, dims]
         | (simp; grind [inSky, dims]))
    | grind [inSky, dims]
set_option maxHeartbeats 400000 in
theorem pc_spec_l2RunwaysOk_2 (s : Sky) (i k : Nat) {w92 : AV} {Q : XT → St → Prop} (hi : i < s.rws.length) (hk : k < i) (hl : s.rws.length ≤ 1048576) (hQ : ∀ bv : Bool, (bv = true ↔ ((s.rws.getD k default).x = (s.rws.getD i default).x ∧ (s.rws.getD k default).y = (s.rws.getD i default).y)) → Q .normal ⟨[(1, .ptr 101 0), (3, .int .i64 i), (4, .ptr 104 0), (5, .int .i64 k), (114, .bool bv)], [(101, .box [.int .i64 s.w, .int .i64 s.h, .int .i64 s.lv, .sl 0 3 (s.pts.map Pt.row), .sl 0 2 (s.aws.map (Aw.row 0)), .sl 0 2 (s.secs.map (Sec.row 0)), .sl 0 4 (s.rws.map Rw.row)]), (104, .box [.str (s.rws.getD i default).nm, .int .i64 (s.rws.getD i default).x, .int .i64 (s.rws.getD i default).y, .int .i64 (s.rws.getD i default).tn])]⟩) : SCode.wp (((((Env.nil P).add 64 t_l1In h_l1In).add 122 t_l2Name h_l2Name).add 127 t_dX h_dX).add 128 t_dY h_dY) p_spec_l2RunwaysOk_2 Q ⟨[(1, .ptr 101 0), (3, .int .i64 i), (4, .ptr 104 0), (5, .int .i64 k), (92, w92)], [(101, .box [.int .i64 s.w, .int .i64 s.h, .int .i64 s.lv, .sl 0 3 (s.pts.map Pt.row), .sl 0 2 (s.aws.map (Aw.row 0)), .sl 0 2 (s.secs.map (Sec.row 0)), .sl 0 4 (s.rws.map Rw.row)]), (104, .box [.str (s.rws.getD i default).nm, .int .i64 (s.rws.getD i default).x, .int .i64 (s.rws.getD i default).y, .int .i64 (s.rws.getD i default).tn])]⟩ := by
  all_goals (unfold p_spec_l2RunwaysOk_2; simp (config := { maxSteps := 2000000 }) only [bitvec_to_nat, reduceIte, Nat.reduceEqDiff, Nat.reduceAdd, Nat.reduceLeDiff, reduceCtorEq, Nat.reduceBEq, Nat.reduceLT, Nat.reduceMod, List.forall_mem_cons, t_l1In, t_l2Name, t_dX, t_dY, tk_map, dp_map, toNat_pred, appE, rowsOf, List.take_length, List.length_cons, List.length_nil, Nat.zero_add, srow, irow, un_s, un_i, Zone.row, Zone_eta, un_Zone, Pt.row, Pt_eta, un_Pt, Aw.row, Aw_eta, un_Aw, Blk.row, Blk_eta, un_Blk, Sec.row, Sec_eta, un_Sec, Rw.row, Rw_eta, un_Rw, Sky_eta])
  repeat' (first | with_reducible apply And.intro | with_reducible intro _)
  all_goals first
    | omega
    | (refine hQ _ ?_
       first
         | grind []
         | (simp; grind []))
    | grind []
theorem c_l2RunwaysOk (s : Sky) (hd : dims s.w s.h s.lv) (hs : s.small) : Contract P 69 [.agg (s.row 0)] [] (.bool (decide (rwsOk s.w s.h s.rws))) [] := by
  have hl : s.rws.length ≤ 1048576 := hs.2.2.2
  simp only [Sky.row]
  refine fn_sound (((((Env.nil P).add 64 t_l1In h_l1In).add 122 t_l2Name h_l2Name).add 127 t_dX h_dX).add 128 t_dY h_dY) hm k_spec_l2RunwaysOk (Nat.le_of_ble_eq_true rfl) rfl ?_; unfold s_spec_l2RunwaysOk; simp (config := { maxSteps := 2000000 }) only [bitvec_to_nat, reduceIte, Nat.reduceEqDiff, Nat.reduceAdd, Nat.reduceLeDiff, reduceCtorEq, Nat.reduceBEq, Nat.reduceLT, Nat.reduceMod, List.forall_mem_cons, t_l1In, t_l2Name, t_dX, t_dY, tk_map, dp_map, toNat_pred, appE, rowsOf, List.take_length, List.length_cons, List.length_nil, Nat.zero_add, srow, irow, un_s, un_i, Zone.row, Zone_eta, un_Zone, Pt.row, Pt_eta, un_Pt, Aw.row, Aw_eta, un_Aw, Blk.row, Blk_eta, un_Blk, Sec.row, Sec_eta, un_Sec, Rw.row, Rw_eta, un_Rw, Sky_eta]
  refine ⟨fun h1 => by intro h; have := h.1; omega, fun h1 => ?_⟩
  refine loop_st (fun i : Nat => [(3, .int .i64 i)]) (fun _ => []) (fun i => i ≤ s.rws.length ∧ ∀ j, j < i → rwAt s.w s.h s.rws j) (fun i => s.rws.length - i) (0) (by simp only [u_E0, u_E1, u_M0, u_M1, w_setE0, w_setE1, w_setM0, w_setM1, reduceIte, Nat.reduceEqDiff]; exact ⟨by repeat' (first | exact trivial | refine ⟨.inr rfl, ?_⟩), by repeat' (first | exact trivial | refine ⟨rfl, ?_⟩), by first | rfl | simp [closedB, refsIn, refsInL, refsInO, dom, refsInL_nr, *], by first | rfl | simp [keepB, dom]⟩) ?_ ?_
  · exact ⟨Nat.zero_le _, by intro j hj; omega⟩
  intro i hi NX hN
  unfold l_spec_l2RunwaysOk_1; simp (config := { maxSteps := 2000000 }) only [bitvec_to_nat, reduceIte, Nat.reduceEqDiff, Nat.reduceAdd, Nat.reduceLeDiff, reduceCtorEq, Nat.reduceBEq, Nat.reduceLT, Nat.reduceMod, List.forall_mem_cons, t_l1In, t_l2Name, t_dX, t_dY, tk_map, dp_map, toNat_pred, appE, rowsOf, List.take_length, List.length_cons, List.length_nil, Nat.zero_add, srow, irow, un_s, un_i, Zone.row, Zone_eta, un_Zone, Pt.row, Pt_eta, un_Pt, Aw.row, Aw_eta, un_Aw, Blk.row, Blk_eta, un_Blk, Sec.row, Sec_eta, un_Sec, Rw.row, Rw_eta, un_Rw, Sky_eta]
  refine ⟨fun g1 => ⟨by omega, by omega, ?_⟩, fun g1 => ?_⟩
  · have A : rwsOk s.w s.h s.rws → rwAt s.w s.h s.rws i := fun h => h.2 i (by omega)
    unfold rwAt Rw.ok at A
    refine pc_spec_l2RunwaysOk_0 s i (by omega) hl hd fun bv hbv => ?_
    cases bv
    case true =>
      simp (config := { maxSteps := 2000000 }) only [bitvec_to_nat, reduceIte, Nat.reduceEqDiff, Nat.reduceAdd, Nat.reduceLeDiff, reduceCtorEq, Nat.reduceBEq, Nat.reduceLT, Nat.reduceMod, List.forall_mem_cons, t_l1In, t_l2Name, t_dX, t_dY, tk_map, dp_map, toNat_pred, appE, rowsOf, List.take_length, List.length_cons, List.length_nil, Nat.zero_add, srow, irow, un_s, un_i, Zone.row, Zone_eta, un_Zone, Pt.row, Pt_eta, un_Pt, Aw.row, Aw_eta, un_Aw, Blk.row, Blk_eta, un_Blk, Sec.row, Sec_eta, un_Sec, Rw.row, Rw_eta, un_Rw, Sky_eta]
      exact fun hq => (hbv.1 rfl) ⟨(A hq).1, (A hq).2.1, (A hq).2.2.1.2.1, (A hq).2.2.1.1⟩
    have o1 := Classical.not_not.1 fun h => Bool.noConfusion (hbv.2 h)
    simp (config := { maxSteps := 2000000 }) only [bitvec_to_nat, reduceIte, Nat.reduceEqDiff, Nat.reduceAdd, Nat.reduceLeDiff, reduceCtorEq, Nat.reduceBEq, Nat.reduceLT, Nat.reduceMod, List.forall_mem_cons, t_l1In, t_l2Name, t_dX, t_dY, tk_map, dp_map, toNat_pred, appE, rowsOf, List.take_length, List.length_cons, List.length_nil, Nat.zero_add, srow, irow, un_s, un_i, Zone.row, Zone_eta, un_Zone, Pt.row, Pt_eta, un_Pt, Aw.row, Aw_eta, un_Aw, Blk.row, Blk_eta, un_Blk, Sec.row, Sec_eta, un_Sec, Rw.row, Rw_eta, un_Rw, Sky_eta]
    refine pc_spec_l2RunwaysOk_1 s i hd o1.2.2.1 (dX_bd _) (dY_bd _) fun bv hbv => ?_
    cases bv
    case true =>
      simp (config := { maxSteps := 2000000 }) only [bitvec_to_nat, reduceIte, Nat.reduceEqDiff, Nat.reduceAdd, Nat.reduceLeDiff, reduceCtorEq, Nat.reduceBEq, Nat.reduceLT, Nat.reduceMod, List.forall_mem_cons, t_l1In, t_l2Name, t_dX, t_dY, tk_map, dp_map, toNat_pred, appE, rowsOf, List.take_length, List.length_cons, List.length_nil, Nat.zero_add, srow, irow, un_s, un_i, Zone.row, Zone_eta, un_Zone, Pt.row, Pt_eta, un_Pt, Aw.row, Aw_eta, un_Aw, Blk.row, Blk_eta, un_Blk, Sec.row, Sec_eta, un_Sec, Rw.row, Rw_eta, un_Rw, Sky_eta]
      exact fun hq => (hbv.1 rfl) (A hq).2.2.1.2.2
    have o2 := Classical.not_not.1 fun h => Bool.noConfusion (hbv.2 h)
    simp (config := { maxSteps := 2000000 }) only [bitvec_to_nat, reduceIte, Nat.reduceEqDiff, Nat.reduceAdd, Nat.reduceLeDiff, reduceCtorEq, Nat.reduceBEq, Nat.reduceLT, Nat.reduceMod, List.forall_mem_cons, t_l1In, t_l2Name, t_dX, t_dY, tk_map, dp_map, toNat_pred, appE, rowsOf, List.take_length, List.length_cons, List.length_nil, Nat.zero_add, srow, irow, un_s, un_i, Zone.row, Zone_eta, un_Zone, Pt.row, Pt_eta, un_Pt, Aw.row, Aw_eta, un_Aw, Blk.row, Blk_eta, un_Blk, Sec.row, Sec_eta, un_Sec, Rw.row, Rw_eta, un_Rw, Sky_eta]
    refine loop_st (fun k : Nat => [(5, .int .i64 k)]) (fun _ => []) (fun k => k ≤ i ∧ ∀ j, j < k → ¬ ((s.rws.getD j default).x = (s.rws.getD i default).x ∧ (s.rws.getD j default).y = (s.rws.getD i default).y)) (fun k => i - k) (0) (by simp only [u_E0, u_E1, u_M0, u_M1, w_setE0, w_setE1, w_setM0, w_setM1, reduceIte, Nat.reduceEqDiff]; exact ⟨by repeat' (first | exact trivial | refine ⟨.inr rfl, ?_⟩), by repeat' (first | exact trivial | refine ⟨rfl, ?_⟩), by first | rfl | simp [closedB, refsIn, refsInL, refsInO, dom, refsInL_nr, *], by first | rfl | simp [keepB, dom]⟩) ?_ ?_
    · exact ⟨Nat.zero_le _, by intro j hj; omega⟩
    intro k hk NX2 hN2
    unfold l_spec_l2RunwaysOk_0; simp (config := { maxSteps := 2000000 }) only [bitvec_to_nat, reduceIte, Nat.reduceEqDiff, Nat.reduceAdd, Nat.reduceLeDiff, reduceCtorEq, Nat.reduceBEq, Nat.reduceLT, Nat.reduceMod, List.forall_mem_cons, t_l1In, t_l2Name, t_dX, t_dY, tk_map, dp_map, toNat_pred, appE, rowsOf, List.take_length, List.length_cons, List.length_nil, Nat.zero_add, srow, irow, un_s, un_i, Zone.row, Zone_eta, un_Zone, Pt.row, Pt_eta, un_Pt, Aw.row, Aw_eta, un_Aw, Blk.row, Blk_eta, un_Blk, Sec.row, Sec_eta, un_Sec, Rw.row, Rw_eta, un_Rw, Sky_eta]
    refine ⟨fun g2 => ?_, fun g2 => ?_⟩
    · refine pc_spec_l2RunwaysOk_2 s i k (by omega) (by omega) hl fun bv hbv => ?_
      cases bv
      case true =>
        simp (config := { maxSteps := 2000000 }) only [bitvec_to_nat, reduceIte, Nat.reduceEqDiff, Nat.reduceAdd, Nat.reduceLeDiff, reduceCtorEq, Nat.reduceBEq, Nat.reduceLT, Nat.reduceMod, List.forall_mem_cons, t_l1In, t_l2Name, t_dX, t_dY, tk_map, dp_map, toNat_pred, appE, rowsOf, List.take_length, List.length_cons, List.length_nil, Nat.zero_add, srow, irow, un_s, un_i, Zone.row, Zone_eta, un_Zone, Pt.row, Pt_eta, un_Pt, Aw.row, Aw_eta, un_Aw, Blk.row, Blk_eta, un_Blk, Sec.row, Sec_eta, un_Sec, Rw.row, Rw_eta, un_Rw, Sky_eta]
        exact fun hq => (A hq).2.2.2 k (by omega) (hbv.1 rfl)
      have o3 : ¬ _ := fun h => Bool.noConfusion (hbv.2 h)
      simp (config := { maxSteps := 2000000 }) only [bitvec_to_nat, reduceIte, Nat.reduceEqDiff, Nat.reduceAdd, Nat.reduceLeDiff, reduceCtorEq, Nat.reduceBEq, Nat.reduceLT, Nat.reduceMod, List.forall_mem_cons, t_l1In, t_l2Name, t_dX, t_dY, tk_map, dp_map, toNat_pred, appE, rowsOf, List.take_length, List.length_cons, List.length_nil, Nat.zero_add, srow, irow, un_s, un_i, Zone.row, Zone_eta, un_Zone, Pt.row, Pt_eta, un_Pt, Aw.row, Aw_eta, un_Aw, Blk.row, Blk_eta, un_Blk, Sec.row, Sec_eta, un_Sec, Rw.row, Rw_eta, un_Rw, Sky_eta]
      refine ⟨by omega, ?_⟩
      refine hN2 (k + 1) _ (by simp only [u_E0, u_E1, u_M0, u_M1, w_setE0, w_setE1, w_setM0, w_setM1, reduceIte, Nat.reduceEqDiff]; exact ⟨by repeat' (first | exact trivial | refine ⟨.inr rfl, ?_⟩), by repeat' (first | exact trivial | refine ⟨rfl, ?_⟩), by first | rfl | simp [closedB, refsIn, refsInL, refsInO, dom, refsInL_nr, *], by first | rfl | simp [keepB, dom]⟩) ?_ ?_
      · exact ⟨by omega, all_snoc hk.2 o3⟩
      · omega
    · refine ⟨by omega, ?_⟩
      refine hN (i + 1) _ (by simp only [u_E0, u_E1, u_M0, u_M1, w_setE0, w_setE1, w_setM0, w_setM1, reduceIte, Nat.reduceEqDiff]; exact ⟨by repeat' (first | exact trivial | refine ⟨.inr rfl, ?_⟩), by repeat' (first | exact trivial | refine ⟨rfl, ?_⟩), by first | rfl | simp [closedB, refsIn, refsInL, refsInO, dom, refsInL_nr, *], by first | rfl | simp [keepB, dom]⟩) ?_ ?_
      · exact ⟨by omega, all_snoc hi.2 ⟨o1.1, o1.2.1, ⟨o1.2.2.2, o1.2.2.1, o2⟩, fun k hk2 => hk.2 k (by omega)⟩⟩
      · omega
  · exact ⟨by omega, fun j hj => hi.2 j (by omega)⟩
def t_l2RunwaysOk : List AV → Option (Prop × AV)
  | [.agg [.int .i64 s_w, .int .i64 s_h, .int .i64 s_lv, .sl 0 3 s_pts, .sl 0 2 s_aws, .sl 0 2 s_secs, .sl 0 4 s_rws]] => some ((((s_pts.map unPt).map Pt.row = s_pts) ∧ ((s_aws.map unAw).map (Aw.row 0) = s_aws) ∧ ((s_secs.map unSec).map (Sec.row 0) = s_secs) ∧ ((s_rws.map unRw).map Rw.row = s_rws)) ∧ (dims (Sky.mk s_w s_h s_lv (s_pts.map unPt) (s_aws.map unAw) (s_secs.map unSec) (s_rws.map unRw)).w (Sky.mk s_w s_h s_lv (s_pts.map unPt) (s_aws.map unAw) (s_secs.map unSec) (s_rws.map unRw)).h (Sky.mk s_w s_h s_lv (s_pts.map unPt) (s_aws.map unAw) (s_secs.map unSec) (s_rws.map unRw)).lv ∧ (Sky.mk s_w s_h s_lv (s_pts.map unPt) (s_aws.map unAw) (s_secs.map unSec) (s_rws.map unRw)).small), .bool (decide (rwsOk (Sky.mk s_w s_h s_lv (s_pts.map unPt) (s_aws.map unAw) (s_secs.map unSec) (s_rws.map unRw)).w (Sky.mk s_w s_h s_lv (s_pts.map unPt) (s_aws.map unAw) (s_secs.map unSec) (s_rws.map unRw)).h (Sky.mk s_w s_h s_lv (s_pts.map unPt) (s_aws.map unAw) (s_secs.map unSec) (s_rws.map unRw)).rws)))
  | _ => none
theorem h_l2RunwaysOk : ∀ args p v, t_l2RunwaysOk args = some (p, v) → p → Contract P 69 args [] v [] ∧ noref v = true ∧ No99 v := by
  intro args p v h1 h2
  unfold t_l2RunwaysOk at h1
  split at h1
  · rename_i s_w s_h s_lv s_pts s_aws s_secs s_rws
    cases h1
    obtain ⟨⟨e0, e1, e2, e3⟩, HP⟩ := h2
    have := c_l2RunwaysOk (Sky.mk s_w s_h s_lv (s_pts.map unPt) (s_aws.map unAw) (s_secs.map unSec) (s_rws.map unRw)) HP.1 HP.2
    exact ⟨by simpa only [e0, e1, e2, e3, Sky.row] using this, rfl, trivial⟩
  · cases h1
end
end Go.Ve

namespace Go.Ve
noncomputable section
open Go.Proofs
set_option linter.unusedSimpArgs false
set_option linter.unusedVariables false
set_option maxRecDepth 100000
theorem getD_in {α : Type} [Inhabited α] {l : List α} {i : Nat} (h : i < l.length) : l.getD i default ∈ l := by simp [h]
theorem blocks_snoc {l : List Sec} {i : Nat} (hi : i < l.length) : blocks (l.take (i + 1)) = blocks (l.take i) ++ (l.getD i default).bl := by
  have e : l.getD i default = l[i] := by simp [hi]
  rw [e, List.take_succ_eq_append_getElem hi]; simp only [blocks, List.flatMap_append, List.flatMap_cons, List.flatMap_nil, List.append_nil]
theorem blocks_len {l : List Sec} (h : ∀ j, j < l.length → (l.getD j default).bl.length ≤ 4) : ∀ i, i ≤ l.length → (blocks (l.take i)).length ≤ 4 * i
  | 0, _ => by simp [blocks]
  | i + 1, hi => by
    rw [blocks_snoc (by omega), List.length_append]
    have := blocks_len h i (by omega); have := h i (by omega); omega
theorem blocks_ok {w h lv : Int} {l : List Sec} (hq : secsOk w h lv l) : (blocks l).length ≤ 24 ∧ ∀ b ∈ blocks l, b.ok w h lv := by
  constructor
  · have := blocks_len (fun j hj => (hq.2 j hj).2.2.1.2) l.length (Nat.le_refl _)
    rw [List.take_length] at this; have := hq.1; omega
  · intro b hb
    simp only [blocks, List.mem_flatMap] at hb
    obtain ⟨x, hx, hb⟩ := hb
    obtain ⟨i, hi, rfl⟩ := List.mem_iff_getElem.1 hx
    obtain ⟨k, hk, rfl⟩ := List.mem_iff_getElem.1 hb
    have := ((hq.2 i hi).2.2.2 k (by simpa [hi] using hk)).1
    simpa [hi, hk] using this
theorem vol_bd {w h lv : Int} {b : Blk} (hd : dims w h lv) (hb : b.ok w h lv) : (1 ≤ b.x1 - b.x0 + 1 ∧ b.x1 - b.x0 + 1 ≤ 16) ∧ (1 ≤ b.y1 - b.y0 + 1 ∧ b.y1 - b.y0 + 1 ≤ 16) ∧ (1 ≤ b.hi - b.lo + 1 ∧ b.hi - b.lo + 1 ≤ 6) ∧
    (1 ≤ (b.x1 - b.x0 + 1) * (b.y1 - b.y0 + 1) ∧ (b.x1 - b.x0 + 1) * (b.y1 - b.y0 + 1) ≤ 256) ∧ 1 ≤ b.vol ∧ b.vol ≤ 1536 := by
  unfold dims at hd; unfold Blk.ok at hb; unfold Blk.vol
  have h1 : 1 ≤ b.x1 - b.x0 + 1 ∧ b.x1 - b.x0 + 1 ≤ 16 := by omega
  have h2 : 1 ≤ b.y1 - b.y0 + 1 ∧ b.y1 - b.y0 + 1 ≤ 16 := by omega
  have h3 : 1 ≤ b.hi - b.lo + 1 ∧ b.hi - b.lo + 1 ≤ 6 := by omega
  generalize b.x1 - b.x0 + 1 = x at *
  generalize b.y1 - b.y0 + 1 = y at *
  generalize b.hi - b.lo + 1 = z at *
  have h4 : 1 ≤ x * y ∧ x * y ≤ 256 := by
    have a : 0 ≤ (x - 1) * (y - 1) := Int.mul_nonneg (by omega) (by omega)
    have c : 0 ≤ (16 - x) * (y - 1) := Int.mul_nonneg (by omega) (by omega)
    rw [Int.sub_mul, Int.mul_sub, Int.mul_sub] at a c
    omega
  refine ⟨h1, h2, h3, h4, ?_⟩
  generalize x * y = q at *
  have a : 0 ≤ (q - 1) * (z - 1) := Int.mul_nonneg (by omega) (by omega)
  have c : 0 ≤ (256 - q) * (z - 1) := Int.mul_nonneg (by omega) (by omega)
  rw [Int.sub_mul, Int.mul_sub, Int.mul_sub] at a c
  omega
theorem vols_snoc {l : List Blk} {i : Nat} (hi : i < l.length) : vols (l.take (i + 1)) = vols (l.take i) + (l.getD i default).vol := by
  have e : l.getD i default = l[i] := by simp [hi]
  rw [e, List.take_succ_eq_append_getElem hi]; simp only [vols, List.map_append, List.map_cons, List.map_nil, List.sum_append, List.sum_cons, List.sum_nil, Int.add_zero]
theorem vols_bd {w h lv : Int} (hd : dims w h lv) : ∀ {l : List Blk} (_ : ∀ b ∈ l, b.ok w h lv), 0 ≤ vols l ∧ vols l ≤ 1536 * l.length
  | [], _ => by simp [vols]
  | b :: l, hb => by
    have ih := vols_bd hd (l := l) fun x hx => hb x (by simp [hx])
    have := (vol_bd hd (hb b (by simp))).2.2.2.2
    simp only [vols, List.map_cons, List.sum_cons, List.length_cons] at *
    omega
theorem dims_mul {w h lv : Int} (hd : dims w h lv) : (1 ≤ w * h ∧ w * h ≤ 256) ∧ 1 ≤ w * h * lv ∧ w * h * lv ≤ 1536 := by
  have hb : (Blk.mk 0 0 (w - 1) (h - 1) 1 lv).ok w h lv := by unfold dims at hd; unfold Blk.ok; simp only; omega
  have := (vol_bd hd hb).2.2.2
  unfold Blk.vol at this
  simp only [show w - 1 - 0 + 1 = w by omega, show h - 1 - 0 + 1 = h by omega, show lv - 1 + 1 = lv by omega] at this
  exact this
theorem c_l2Blocks (s : Sky) (hq : secsOk s.w s.h s.lv s.secs) : Contract P 125 [.agg (s.row 0)] [] (.sl 0 6 ((blocks s.secs).map Blk.row)) [] := by
  have hl : s.secs.length ≤ 6 := hq.1
  have hb := blocks_len fun j hj => (hq.2 j hj).2.2.1.2
  simp only [Sky.row]
  refine fn_sound (Env.nil P) hm k_spec_l2Blocks (Nat.le_of_ble_eq_true rfl) rfl ?_; unfold s_spec_l2Blocks; simp (config := { maxSteps := 2000000 }) only [bitvec_to_nat, reduceIte, Nat.reduceEqDiff, Nat.reduceAdd, Nat.reduceLeDiff, reduceCtorEq, Nat.reduceBEq, Nat.reduceLT, Nat.reduceMod, List.forall_mem_cons, tk_map, dp_map, toNat_pred, appE, rowsOf, List.take_length, List.length_cons, List.length_nil, Nat.zero_add, srow, irow, un_s, un_i, Zone.row, Zone_eta, un_Zone, Pt.row, Pt_eta, un_Pt, Aw.row, Aw_eta, un_Aw, Blk.row, Blk_eta, un_Blk, Sec.row, Sec_eta, un_Sec, Rw.row, Rw_eta, un_Rw, Sky_eta]
  refine loop_st (fun i : Nat => [(3, .own 105 i 0 (blocks (s.secs.take i)).length), (4, .int .i64 i)]) (fun i => [(105, .arr 113 i 6 ((blocks (s.secs.take i)).map Blk.row))]) (fun i => i ≤ s.secs.length) (fun i => s.secs.length - i) (0) (by simp only [u_E0, u_E1, u_M0, u_M1, w_setE0, w_setE1, w_setM0, w_setM1, reduceIte, Nat.reduceEqDiff]; exact ⟨by repeat' (first | exact trivial | refine ⟨.inr rfl, ?_⟩), by repeat' (first | exact trivial | refine ⟨rfl, ?_⟩), by first | rfl | simp [closedB, refsIn, refsInL, refsInO, dom, refsInL_nr, *], by first | rfl | simp [keepB, dom]⟩) ?_ ?_
  · exact Nat.zero_le _
  intro i hi NX hN
  unfold l_spec_l2Blocks_0; simp (config := { maxSteps := 2000000 }) only [bitvec_to_nat, reduceIte, Nat.reduceEqDiff, Nat.reduceAdd, Nat.reduceLeDiff, reduceCtorEq, Nat.reduceBEq, Nat.reduceLT, Nat.reduceMod, List.forall_mem_cons, tk_map, dp_map, toNat_pred, appE, rowsOf, List.take_length, List.length_cons, List.length_nil, Nat.zero_add, srow, irow, un_s, un_i, Zone.row, Zone_eta, un_Zone, Pt.row, Pt_eta, un_Pt, Aw.row, Aw_eta, un_Aw, Blk.row, Blk_eta, un_Blk, Sec.row, Sec_eta, un_Sec, Rw.row, Rw_eta, un_Rw, Sky_eta]
  have hb1 := hb i hi
  refine ⟨fun g1 => ⟨by omega, by omega, ?_⟩, fun g1 => ?_⟩
  · have hb2 := (hq.2 i (by omega)).2.2.1.2
    refine ⟨by omega, by omega, ?_⟩
    have e := blocks_snoc (l := s.secs) (i := i) (by omega)
    refine hN (i + 1) _ (by simp only [e, List.length_append, List.length_cons, List.length_nil, Nat.zero_add, List.map_append, List.map_cons, List.map_nil, u_E0, u_E1, u_M0, u_M1, w_setE0, w_setE1, w_setM0, w_setM1, reduceIte, Nat.reduceEqDiff]; exact ⟨by repeat' (first | exact trivial | refine ⟨.inr rfl, ?_⟩), by repeat' (first | exact trivial | refine ⟨rfl, ?_⟩), by first | rfl | simp [closedB, refsIn, refsInL, refsInO, dom, refsInL_nr, *], by first | rfl | simp [keepB, dom]⟩) ?_ ?_
    · omega
    · omega
  · have e : i = s.secs.length := by omega
    subst e
    simp [List.take_length]
def t_l2Blocks : List AV → Option (Prop × AV)
  | [.agg [.int .i64 s_w, .int .i64 s_h, .int .i64 s_lv, .sl 0 3 s_pts, .sl 0 2 s_aws, .sl 0 2 s_secs, .sl 0 4 s_rws]] => some ((((s_pts.map unPt).map Pt.row = s_pts) ∧ ((s_aws.map unAw).map (Aw.row 0) = s_aws) ∧ ((s_secs.map unSec).map (Sec.row 0) = s_secs) ∧ ((s_rws.map unRw).map Rw.row = s_rws)) ∧ (secsOk (Sky.mk s_w s_h s_lv (s_pts.map unPt) (s_aws.map unAw) (s_secs.map unSec) (s_rws.map unRw)).w (Sky.mk s_w s_h s_lv (s_pts.map unPt) (s_aws.map unAw) (s_secs.map unSec) (s_rws.map unRw)).h (Sky.mk s_w s_h s_lv (s_pts.map unPt) (s_aws.map unAw) (s_secs.map unSec) (s_rws.map unRw)).lv (Sky.mk s_w s_h s_lv (s_pts.map unPt) (s_aws.map unAw) (s_secs.map unSec) (s_rws.map unRw)).secs), .sl 0 6 ((blocks (Sky.mk s_w s_h s_lv (s_pts.map unPt) (s_aws.map unAw) (s_secs.map unSec) (s_rws.map unRw)).secs).map Blk.row))
  | _ => none
theorem h_l2Blocks : ∀ args p v, t_l2Blocks args = some (p, v) → p → Contract P 125 args [] v [] ∧ noref v = true ∧ No99 v := by
  intro args p v h1 h2
  unfold t_l2Blocks at h1
  split at h1
  · rename_i s_w s_h s_lv s_pts s_aws s_secs s_rws
    cases h1
    obtain ⟨⟨e0, e1, e2, e3⟩, HP⟩ := h2
    have := c_l2Blocks (Sky.mk s_w s_h s_lv (s_pts.map unPt) (s_aws.map unAw) (s_secs.map unSec) (s_rws.map unRw)) HP
    exact ⟨by simpa only [e0, e1, e2, e3, Sky.row] using this, rfl, by simp only [No99]; exact ⟨by omega, no99_Blk _⟩⟩
  · cases h1
theorem c_l2Covers (s : Sky) (hd : dims s.w s.h s.lv) (hq : secsOk s.w s.h s.lv s.secs) : Contract P 68 [.agg (s.row 0)] [] (.bool (decide (covers s.w s.h s.lv s.secs))) [] := by
  have hb := blocks_ok hq
  have hmul := dims_mul hd
  simp only [Sky.row]
  refine fn_sound (((Env.nil P).add 125 t_l2Blocks h_l2Blocks).add 126 t_l2Shares h_l2Shares) hm k_spec_l2Covers (Nat.le_of_ble_eq_true rfl) rfl ?_; unfold s_spec_l2Covers; simp (config := { maxSteps := 2000000 }) only [bitvec_to_nat, reduceIte, Nat.reduceEqDiff, Nat.reduceAdd, Nat.reduceLeDiff, reduceCtorEq, Nat.reduceBEq, Nat.reduceLT, Nat.reduceMod, List.forall_mem_cons, t_l2Blocks, t_l2Shares, tk_map, dp_map, toNat_pred, appE, rowsOf, List.take_length, List.length_cons, List.length_nil, Nat.zero_add, srow, irow, un_s, un_i, Zone.row, Zone_eta, un_Zone, Pt.row, Pt_eta, un_Pt, Aw.row, Aw_eta, un_Aw, Blk.row, Blk_eta, un_Blk, Sec.row, Sec_eta, un_Sec, Rw.row, Rw_eta, un_Rw, Sky_eta]
  refine ⟨hq, ?_⟩
  refine loop_st (fun i : Nat => [(4, .int .i64 (vols ((blocks s.secs).take i))), (5, .int .i64 i)]) (fun _ => []) (fun i => i ≤ (blocks s.secs).length ∧ ∀ j, j < i → apartAt (blocks s.secs) j) (fun i => (blocks s.secs).length - i) (0) (by simp only [u_E0, u_E1, u_M0, u_M1, w_setE0, w_setE1, w_setM0, w_setM1, reduceIte, Nat.reduceEqDiff]; exact ⟨by repeat' (first | exact trivial | refine ⟨.inr rfl, ?_⟩), by repeat' (first | exact trivial | refine ⟨rfl, ?_⟩), by first | rfl | simp [closedB, refsIn, refsInL, refsInO, dom, refsInL_nr, *], by first | rfl | simp [keepB, dom]⟩) ?_ ?_
  · exact ⟨Nat.zero_le _, by intro j hj; omega⟩
  intro i hi NX hN
  have hv := vols_bd hd (l := (blocks s.secs).take i) fun b h => hb.2 b (List.mem_of_mem_take h)
  have hv2 : ((blocks s.secs).take i).length ≤ 24 := by rw [List.length_take]; omega
  unfold l_spec_l2Covers_1; simp (config := { maxSteps := 2000000 }) only [bitvec_to_nat, reduceIte, Nat.reduceEqDiff, Nat.reduceAdd, Nat.reduceLeDiff, reduceCtorEq, Nat.reduceBEq, Nat.reduceLT, Nat.reduceMod, List.forall_mem_cons, t_l2Blocks, t_l2Shares, tk_map, dp_map, toNat_pred, appE, rowsOf, List.take_length, List.length_cons, List.length_nil, Nat.zero_add, srow, irow, un_s, un_i, Zone.row, Zone_eta, un_Zone, Pt.row, Pt_eta, un_Pt, Aw.row, Aw_eta, un_Aw, Blk.row, Blk_eta, un_Blk, Sec.row, Sec_eta, un_Sec, Rw.row, Rw_eta, un_Rw, Sky_eta]
  refine ⟨fun g1 => ⟨by omega, by omega, ?_⟩, fun g1 => ?_⟩
  · have ho := vol_bd hd (hb.2 ((blocks s.secs).getD i default) (getD_in (by omega)))
    have e := vols_snoc (l := (blocks s.secs)) (i := i) (by omega)
    unfold Blk.vol at ho e
    refine ⟨by omega, by omega, by omega, by omega, by omega, by omega, by omega, by omega, by omega, ?_⟩
    refine loop_st (fun k : Nat => [(7, .int .i64 k)]) (fun _ => []) (fun k => k ≤ i ∧ ∀ j, j < k → ¬ ((blocks s.secs).getD j default).meet ((blocks s.secs).getD i default)) (fun k => i - k) (0) (by simp only [u_E0, u_E1, u_M0, u_M1, w_setE0, w_setE1, w_setM0, w_setM1, reduceIte, Nat.reduceEqDiff]; exact ⟨by repeat' (first | exact trivial | refine ⟨.inr rfl, ?_⟩), by repeat' (first | exact trivial | refine ⟨rfl, ?_⟩), by first | rfl | simp [closedB, refsIn, refsInL, refsInO, dom, refsInL_nr, *], by first | rfl | simp [keepB, dom]⟩) ?_ ?_
    · exact ⟨Nat.zero_le _, by intro j hj; omega⟩
    intro k hk NX2 hN2
    unfold l_spec_l2Covers_0; simp (config := { maxSteps := 2000000 }) only [bitvec_to_nat, reduceIte, Nat.reduceEqDiff, Nat.reduceAdd, Nat.reduceLeDiff, reduceCtorEq, Nat.reduceBEq, Nat.reduceLT, Nat.reduceMod, List.forall_mem_cons, t_l2Blocks, t_l2Shares, tk_map, dp_map, toNat_pred, appE, rowsOf, List.take_length, List.length_cons, List.length_nil, Nat.zero_add, srow, irow, un_s, un_i, Zone.row, Zone_eta, un_Zone, Pt.row, Pt_eta, un_Pt, Aw.row, Aw_eta, un_Aw, Blk.row, Blk_eta, un_Blk, Sec.row, Sec_eta, un_Sec, Rw.row, Rw_eta, un_Rw, Sky_eta]
    refine ⟨fun g2 => ⟨by omega, by omega, fun g3 => ?_, fun g3 => ⟨by omega, ?_⟩⟩, fun g2 => ⟨by omega, ?_⟩⟩
    · exact fun h => h.1 i (by omega) k (by omega) g3
    · refine hN2 (k + 1) _ (by simp only [u_E0, u_E1, u_M0, u_M1, w_setE0, w_setE1, w_setM0, w_setM1, reduceIte, Nat.reduceEqDiff]; exact ⟨by repeat' (first | exact trivial | refine ⟨.inr rfl, ?_⟩), by repeat' (first | exact trivial | refine ⟨rfl, ?_⟩), by first | rfl | simp [closedB, refsIn, refsInL, refsInO, dom, refsInL_nr, *], by first | rfl | simp [keepB, dom]⟩) ?_ ?_
      · exact ⟨by omega, all_snoc hk.2 g3⟩
      · omega
    · refine hN (i + 1) _ (by simp only [e, List.length_append, List.length_cons, List.length_nil, Nat.zero_add, List.map_append, List.map_cons, List.map_nil, u_E0, u_E1, u_M0, u_M1, w_setE0, w_setE1, w_setM0, w_setM1, reduceIte, Nat.reduceEqDiff]; exact ⟨by repeat' (first | exact trivial | refine ⟨.inr rfl, ?_⟩), by repeat' (first | exact trivial | refine ⟨rfl, ?_⟩), by first | rfl | simp [closedB, refsIn, refsInL, refsInO, dom, refsInL_nr, *], by first | rfl | simp [keepB, dom]⟩) ?_ ?_
      · exact ⟨by omega, all_snoc hi.2 fun k hk2 => hk.2 k (by omega)⟩
      · omega
  · have e : i = (blocks s.secs).length := by omega
    rw [e, List.take_length] at *
    refine ⟨by omega, by omega, ?_⟩
    rw [decide_eq_decide]
    exact ⟨fun h => ⟨fun j hj => hi.2 j (by omega), h⟩, fun h => h.2⟩
def t_l2Covers : List AV → Option (Prop × AV)
  | [.agg [.int .i64 s_w, .int .i64 s_h, .int .i64 s_lv, .sl 0 3 s_pts, .sl 0 2 s_aws, .sl 0 2 s_secs, .sl 0 4 s_rws]] => some ((((s_pts.map unPt).map Pt.row = s_pts) ∧ ((s_aws.map unAw).map (Aw.row 0) = s_aws) ∧ ((s_secs.map unSec).map (Sec.row 0) = s_secs) ∧ ((s_rws.map unRw).map Rw.row = s_rws)) ∧ (dims (Sky.mk s_w s_h s_lv (s_pts.map unPt) (s_aws.map unAw) (s_secs.map unSec) (s_rws.map unRw)).w (Sky.mk s_w s_h s_lv (s_pts.map unPt) (s_aws.map unAw) (s_secs.map unSec) (s_rws.map unRw)).h (Sky.mk s_w s_h s_lv (s_pts.map unPt) (s_aws.map unAw) (s_secs.map unSec) (s_rws.map unRw)).lv ∧ secsOk (Sky.mk s_w s_h s_lv (s_pts.map unPt) (s_aws.map unAw) (s_secs.map unSec) (s_rws.map unRw)).w (Sky.mk s_w s_h s_lv (s_pts.map unPt) (s_aws.map unAw) (s_secs.map unSec) (s_rws.map unRw)).h (Sky.mk s_w s_h s_lv (s_pts.map unPt) (s_aws.map unAw) (s_secs.map unSec) (s_rws.map unRw)).lv (Sky.mk s_w s_h s_lv (s_pts.map unPt) (s_aws.map unAw) (s_secs.map unSec) (s_rws.map unRw)).secs), .bool (decide (covers (Sky.mk s_w s_h s_lv (s_pts.map unPt) (s_aws.map unAw) (s_secs.map unSec) (s_rws.map unRw)).w (Sky.mk s_w s_h s_lv (s_pts.map unPt) (s_aws.map unAw) (s_secs.map unSec) (s_rws.map unRw)).h (Sky.mk s_w s_h s_lv (s_pts.map unPt) (s_aws.map unAw) (s_secs.map unSec) (s_rws.map unRw)).lv (Sky.mk s_w s_h s_lv (s_pts.map unPt) (s_aws.map unAw) (s_secs.map unSec) (s_rws.map unRw)).secs)))
  | _ => none
theorem h_l2Covers : ∀ args p v, t_l2Covers args = some (p, v) → p → Contract P 68 args [] v [] ∧ noref v = true ∧ No99 v := by
  intro args p v h1 h2
  unfold t_l2Covers at h1
  split at h1
  · rename_i s_w s_h s_lv s_pts s_aws s_secs s_rws
    cases h1
    obtain ⟨⟨e0, e1, e2, e3⟩, HP⟩ := h2
    have := c_l2Covers (Sky.mk s_w s_h s_lv (s_pts.map unPt) (s_aws.map unAw) (s_secs.map unSec) (s_rws.map unRw)) HP.1 HP.2
    exact ⟨by simpa only [e0, e1, e2, e3, Sky.row] using this, rfl, trivial⟩
  · cases h1
theorem c_sSkyValid (s : Sky) (hs : s.small) : Contract P 13 [.agg (s.row 0)] [] (.bool (decide s.valid)) [] := by
  simp only [Sky.row]
  refine fn_sound (((((((Env.nil P).add 64 t_l1In h_l1In).add 65 t_l2PointsOk h_l2PointsOk).add 66 t_l2AirwaysOk h_l2AirwaysOk).add 67 t_l2SectorsOk h_l2SectorsOk).add 68 t_l2Covers h_l2Covers).add 69 t_l2RunwaysOk h_l2RunwaysOk) hm k_spec_SkyValid (Nat.le_of_ble_eq_true rfl) rfl ?_; unfold s_spec_SkyValid; simp (config := { maxSteps := 2000000 }) only [bitvec_to_nat, reduceIte, Nat.reduceEqDiff, Nat.reduceAdd, Nat.reduceLeDiff, reduceCtorEq, Nat.reduceBEq, Nat.reduceLT, Nat.reduceMod, List.forall_mem_cons, t_l1In, t_l2PointsOk, t_l2AirwaysOk, t_l2SectorsOk, t_l2Covers, t_l2RunwaysOk, tk_map, dp_map, toNat_pred, appE, rowsOf, List.take_length, List.length_cons, List.length_nil, Nat.zero_add, srow, irow, un_s, un_i, Zone.row, Zone_eta, un_Zone, Pt.row, Pt_eta, un_Pt, Aw.row, Aw_eta, un_Aw, Blk.row, Blk_eta, un_Blk, Sec.row, Sec_eta, un_Sec, Rw.row, Rw_eta, un_Rw, Sky_eta]
  repeat' (first | with_reducible apply And.intro | with_reducible intro _)
  all_goals first
    | with_reducible assumption
    | omega
    | grind [Sky.valid, dims]
def t_sSkyValid : List AV → Option (Prop × AV)
  | [.agg [.int .i64 s_w, .int .i64 s_h, .int .i64 s_lv, .sl 0 3 s_pts, .sl 0 2 s_aws, .sl 0 2 s_secs, .sl 0 4 s_rws]] => some ((((s_pts.map unPt).map Pt.row = s_pts) ∧ ((s_aws.map unAw).map (Aw.row 0) = s_aws) ∧ ((s_secs.map unSec).map (Sec.row 0) = s_secs) ∧ ((s_rws.map unRw).map Rw.row = s_rws)) ∧ ((Sky.mk s_w s_h s_lv (s_pts.map unPt) (s_aws.map unAw) (s_secs.map unSec) (s_rws.map unRw)).small), .bool (decide (Sky.mk s_w s_h s_lv (s_pts.map unPt) (s_aws.map unAw) (s_secs.map unSec) (s_rws.map unRw)).valid))
  | _ => none
theorem h_sSkyValid : ∀ args p v, t_sSkyValid args = some (p, v) → p → Contract P 13 args [] v [] ∧ noref v = true ∧ No99 v := by
  intro args p v h1 h2
  unfold t_sSkyValid at h1
  split at h1
  · rename_i s_w s_h s_lv s_pts s_aws s_secs s_rws
    cases h1
    obtain ⟨⟨e0, e1, e2, e3⟩, HP⟩ := h2
    have := c_sSkyValid (Sky.mk s_w s_h s_lv (s_pts.map unPt) (s_aws.map unAw) (s_secs.map unSec) (s_rws.map unRw)) HP
    exact ⟨by simpa only [e0, e1, e2, e3, Sky.row] using this, rfl, trivial⟩
  · cases h1
end
end Go.Ve

namespace Go.Ve
noncomputable section
open Go.Proofs
set_option linter.unusedSimpArgs false
set_option linter.unusedVariables false
set_option maxRecDepth 100000
open Go.ChangeShapes Go.WideShapes
/-- What is left when a list is counted, and each of its parts. -/
def szS {α : Type} (f : α → Int → Int) (l : List α) (a : Int) : Int := l.foldl (fun a x => f x a) (szOf a l.length)
def szStr (s : ByteArray) (a : Int) : Int := szOf a s.toList.length
def Meas {α : Type} (f : α → Int → Int) : Prop := ∀ x a, a ≤ 1048576 → (f x a = -1 ∨ 0 ≤ f x a) ∧ (a < 0 → f x a = -1) ∧ f x a ≤ max a (-1)
def chk (x : Int) (k : Int → Int) : Int := if x < 0 then -1 else k x
def Meas1 (g : Int → Int) : Prop := ∀ a, a ≤ 1048576 → (g a = -1 ∨ 0 ≤ g a) ∧ (a < 0 → g a = -1) ∧ g a ≤ max a (-1)
def MeasP (g : Int → Int) : Prop := ∀ a, 0 ≤ a → a ≤ 1048576 → (g a = -1 ∨ 0 ≤ g a) ∧ g a ≤ a
theorem Meas1.p {g : Int → Int} (h : Meas1 g) : MeasP g := fun a h0 h1 => ⟨(h a h1).1, by have := (h a h1).2.2; omega⟩
theorem measP_id : MeasP fun z => z := fun a h0 h1 => ⟨.inr h0, Int.le_refl a⟩
theorem chk_sub {k : Int → Int} (n : Nat) (h : MeasP k) : Meas1 fun a => chk (a - n) k := fun a ha => by
  simp only [chk]
  split
  · exact ⟨.inl rfl, fun _ => rfl, by omega⟩
  · rename_i h1
    have := h (a - n) (by omega) (by omega)
    exact ⟨this.1, fun _ => by omega, by omega⟩
theorem chk_g {g k : Int → Int} (hg : Meas1 g) (h : MeasP k) : Meas1 fun a => chk (g a) k := fun a ha => by
  have m := hg a ha
  simp only [chk]
  split
  · exact ⟨.inl rfl, fun _ => rfl, by omega⟩
  · rename_i h1
    have := h (g a) (by omega) (by omega)
    exact ⟨this.1, fun h2 => by have := m.2.1 h2; omega, by omega⟩
theorem chk_ok {x : Int} {k : Int → Int} (h : 0 ≤ chk x k) : 0 ≤ x ∧ 0 ≤ k x := by
  unfold chk at h; split at h
  · omega
  · exact ⟨by omega, h⟩
theorem meas_str : Meas szStr := fun x a _ => by unfold szStr szOf; split <;> omega
theorem meas_len {α : Type} : Meas (fun (l : List α) a => szOf a l.length) := fun x a _ => by simp only; unfold szOf; split <;> omega
theorem fold_meas {α : Type} {f : α → Int → Int} (h : Meas f) : ∀ (l : List α) (a : Int), a ≤ 1048576 → (a = -1 ∨ 0 ≤ a) → (l.foldl (fun a x => f x a) a = -1 ∨ 0 ≤ l.foldl (fun a x => f x a) a) ∧ (a < 0 → l.foldl (fun a x => f x a) a = -1) ∧ l.foldl (fun a x => f x a) a ≤ max a (-1)
  | [], a, h1, h2 => ⟨h2, fun h3 => by simp only [List.foldl_nil]; omega, by simp only [List.foldl_nil]; omega⟩
  | x :: l, a, h1, h2 => by
    obtain ⟨k1, k2, k3⟩ := h x a h1
    obtain ⟨i1, i2, i3⟩ := fold_meas h l (f x a) (by omega) k1
    simp only [List.foldl_cons]
    exact ⟨i1, fun h3 => i2 (by have := k2 h3; omega), by omega⟩
theorem meas_szS {α : Type} {f : α → Int → Int} (h : Meas f) : Meas (szS f) := fun l a ha => by
  unfold szS
  have h0 : (szOf a l.length = -1 ∨ 0 ≤ szOf a l.length) ∧ (a < 0 → szOf a l.length = -1) ∧ szOf a l.length ≤ max a (-1) := by unfold szOf; split <;> omega
  obtain ⟨i1, i2, i3⟩ := fold_meas h l (szOf a l.length) (by omega) h0.1
  exact ⟨i1, fun h3 => i2 (by have := h0.2.1 h3; omega), by omega⟩
/-- A list that was counted is small, and so are its parts. -/
theorem fold_ok {α : Type} {f : α → Int → Int} {p : α → Prop} (h : Meas f) (hp : ∀ x a, a ≤ 1048576 → 0 ≤ f x a → p x) : ∀ (l : List α) (a : Int), a ≤ 1048576 → (a = -1 ∨ 0 ≤ a) → 0 ≤ l.foldl (fun a x => f x a) a → ∀ x ∈ l, p x
  | [], _, _, _, _, x, hx => by simp at hx
  | y :: l, a, h1, h2, h3, x, hx => by
    simp only [List.foldl_cons] at h3
    obtain ⟨k1, k2, k3⟩ := h y a h1
    have hy : 0 ≤ f y a := by
      rcases k1 with k1 | k1
      · have := (fold_meas h l (f y a) (by omega) (.inl k1)).2.1 (by omega); omega
      · exact k1
    rcases List.mem_cons.1 hx with rfl | hx
    · exact hp _ a h1 hy
    · exact fold_ok h hp l (f y a) (by omega) (.inr hy) h3 x hx
theorem szS_ok {α : Type} {f : α → Int → Int} {p : α → Prop} (h : Meas f) (hp : ∀ x a, a ≤ 1048576 → 0 ≤ f x a → p x) {l : List α} {a : Int} (ha : a ≤ 1048576) (h0 : 0 ≤ szS f l a) : l.length ≤ 1048576 ∧ ∀ x ∈ l, p x := by
  unfold szS at h0
  have hs : (szOf a l.length = -1 ∨ 0 ≤ szOf a l.length) ∧ szOf a l.length ≤ 1048576 := by unfold szOf; split <;> omega
  refine ⟨?_, fold_ok h hp l _ hs.2 hs.1 h0⟩
  rcases hs.1 with e | e
  · have := (fold_meas h l _ hs.2 (.inl e)).2.1 (by omega); omega
  · unfold szOf at e; split at e <;> omega
theorem szOf_ok {a : Int} {n : Nat} (ha : a ≤ 1048576) (h0 : 0 ≤ szOf a n) : n ≤ 1048576 := by unfold szOf at h0; split at h0 <;> omega
/-- One more part of a list. -/
theorem fold_take {α : Type} [Inhabited α] {f : α → Int → Int} {l : List α} {i : Nat} {a : Int} (hi : i < l.length) : (l.take (i + 1)).foldl (fun a x => f x a) a = f (l.getD i default) ((l.take i).foldl (fun a x => f x a) a) := by
  have e : l.getD i default = l[i] := by simp [hi]
  rw [e, List.take_succ_eq_append_getElem hi, List.foldl_append]; rfl
theorem fold_stop {α : Type} [Inhabited α] {f : α → Int → Int} (h : Meas f) {l : List α} {i : Nat} {a : Int} (hi : i < l.length) (ha : a ≤ 1048576) (h0 : a = -1 ∨ 0 ≤ a) (hn : f (l.getD i default) ((l.take i).foldl (fun a x => f x a) a) < 0) : l.foldl (fun a x => f x a) a = -1 := by
  rw [← fold_take (f := f) hi] at hn
  have e : l.foldl (fun a x => f x a) a = (l.drop (i + 1)).foldl (fun a x => f x a) ((l.take (i + 1)).foldl (fun a x => f x a) a) := by
    rw [← List.foldl_append, List.take_append_drop]
  rw [e]
  have k := fold_meas h (l.take (i + 1)) a ha h0
  exact (fold_meas h _ _ (by omega) k.1).2.1 hn
theorem fit_rows2 {α : Type} {f : α → List AV} {p : α → Prop} {rs : List LSh} (h : ∀ r, fitsL rs r → ∃ x : α, r = f x ∧ p x) : ∀ {rows : List (List AV)}, (∀ r ∈ rows, fitsL rs r) → ∃ l : List α, rows = l.map f ∧ ∀ x ∈ l, p x
  | [], _ => ⟨[], rfl, by simp⟩
  | r :: rows, k => by
    obtain ⟨x, rfl, hx⟩ := h r (k r (by simp))
    obtain ⟨l, rfl, hl⟩ := fit_rows2 h (rows := rows) fun r' h' => k r' (by simp [h'])
    exact ⟨x :: l, rfl, by simpa using ⟨hx, hl⟩⟩
theorem getD_mem' {α : Type} [Inhabited α] {l : List α} {i : Nat} (h : i < l.length) : l.getD i default ∈ l := by simp [h]
def Pt.fitp (s : Pt) : Prop := s.nm.toList.length ≤ 9223372036854775807
def Pt.sz (s : Pt) (z0 : Int) : Int := chk (z0 - (s.nm.toList.length : Nat)) (fun z1 => z1)
theorem meas_Pt : Meas Pt.sz := fun s => chk_sub _ (measP_id)
def Rw.fitp (s : Rw) : Prop := s.nm.toList.length ≤ 9223372036854775807
def Rw.sz (s : Rw) (z0 : Int) : Int := chk (z0 - (s.nm.toList.length : Nat)) (fun z1 => z1)
theorem meas_Rw : Meas Rw.sz := fun s => chk_sub _ (measP_id)
def Aw.fitp (s : Aw) : Prop := s.nm.toList.length ≤ 9223372036854775807 ∧ (s.pts.length ≤ 9223372036854775807 ∧ ∀ y ∈ s.pts, y.toList.length ≤ 9223372036854775807)
def Aw.sz (s : Aw) (z0 : Int) : Int := chk (z0 - (s.nm.toList.length : Nat)) (fun z1 => chk (szS szStr s.pts z1) (fun z2 => z2))
theorem meas_Aw : Meas Aw.sz := fun s => chk_sub _ (Meas1.p (chk_g (fun a => meas_szS meas_str s.pts a) (measP_id)))
theorem Aw.sz_ok {s : Aw} {a : Int} (ha : a ≤ 1048576) (h : 0 ≤ s.sz a) : s.small := by
  unfold Aw.sz at h
  have b0 : a ≤ 1048576 := ha
  obtain ⟨p0, h⟩ := chk_ok h
  have b1 : (a) - (s.nm.toList.length : Nat) ≤ 1048576 := by omega
  obtain ⟨p1, h⟩ := chk_ok h
  have b2 : szS szStr s.pts ((a) - (s.nm.toList.length : Nat)) ≤ 1048576 := by have := (meas_szS meas_str s.pts ((a) - (s.nm.toList.length : Nat)) b1).2.2; omega
  have k1 := szS_ok (p := fun _ => True) meas_str (fun _ _ _ _ => trivial) b1 p1
  exact k1.1
def Sec.fitp (s : Sec) : Prop := s.nm.toList.length ≤ 9223372036854775807 ∧ s.bl.length ≤ 9223372036854775807
def Sec.sz (s : Sec) (z0 : Int) : Int := chk (z0 - (s.nm.toList.length : Nat)) (fun z1 => chk (szOf z1 s.bl.length) (fun z2 => z2))
theorem meas_Sec : Meas Sec.sz := fun s => chk_sub _ (Meas1.p (chk_g (fun a => meas_len s.bl a) (measP_id)))
theorem Sec.sz_ok {s : Sec} {a : Int} (ha : a ≤ 1048576) (h : 0 ≤ s.sz a) : s.small := by
  unfold Sec.sz at h
  have b0 : a ≤ 1048576 := ha
  obtain ⟨p0, h⟩ := chk_ok h
  have b1 : (a) - (s.nm.toList.length : Nat) ≤ 1048576 := by omega
  obtain ⟨p1, h⟩ := chk_ok h
  have b2 : szOf ((a) - (s.nm.toList.length : Nat)) s.bl.length ≤ 1048576 := by have := (meas_len s.bl ((a) - (s.nm.toList.length : Nat)) b1).2.2; simp only at this; omega
  have k1 := szOf_ok b1 p1
  exact k1
def Sky.fitp (s : Sky) : Prop := (s.pts.length ≤ 9223372036854775807 ∧ ∀ y ∈ s.pts, y.fitp) ∧ (s.aws.length ≤ 9223372036854775807 ∧ ∀ y ∈ s.aws, y.fitp) ∧ (s.secs.length ≤ 9223372036854775807 ∧ ∀ y ∈ s.secs, y.fitp) ∧ (s.rws.length ≤ 9223372036854775807 ∧ ∀ y ∈ s.rws, y.fitp)
def Sky.sz (s : Sky) (z0 : Int) : Int := chk (szS Pt.sz s.pts z0) (fun z1 => chk (szS Aw.sz s.aws z1) (fun z2 => chk (szS Sec.sz s.secs z2) (fun z3 => chk (szS Rw.sz s.rws z3) (fun z4 => z4))))
theorem meas_Sky : Meas Sky.sz := fun s => chk_g (fun a => meas_szS meas_Pt s.pts a) (Meas1.p (chk_g (fun a => meas_szS meas_Aw s.aws a) (Meas1.p (chk_g (fun a => meas_szS meas_Sec s.secs a) (Meas1.p (chk_g (fun a => meas_szS meas_Rw s.rws a) (measP_id)))))))
theorem Sky.sz_ok {s : Sky} {a : Int} (ha : a ≤ 1048576) (h : 0 ≤ s.sz a) : s.small := by
  unfold Sky.sz at h
  have b0 : a ≤ 1048576 := ha
  obtain ⟨p0, h⟩ := chk_ok h
  have b1 : szS Pt.sz s.pts (a) ≤ 1048576 := by have := (meas_szS meas_Pt s.pts (a) b0).2.2; omega
  have k0 := szS_ok (p := fun _ => True) meas_Pt (fun _ _ _ _ => trivial) b0 p0
  obtain ⟨p1, h⟩ := chk_ok h
  have b2 : szS Aw.sz s.aws (szS Pt.sz s.pts (a)) ≤ 1048576 := by have := (meas_szS meas_Aw s.aws (szS Pt.sz s.pts (a)) b1).2.2; omega
  have k1 := szS_ok (p := fun y => Aw.small y) meas_Aw (fun x a h1 h2 => Aw.sz_ok h1 h2) b1 p1
  obtain ⟨p2, h⟩ := chk_ok h
  have b3 : szS Sec.sz s.secs (szS Aw.sz s.aws (szS Pt.sz s.pts (a))) ≤ 1048576 := by have := (meas_szS meas_Sec s.secs (szS Aw.sz s.aws (szS Pt.sz s.pts (a))) b2).2.2; omega
  have k2 := szS_ok (p := fun y => Sec.small y) meas_Sec (fun x a h1 h2 => Sec.sz_ok h1 h2) b2 p2
  obtain ⟨p3, h⟩ := chk_ok h
  have b4 : szS Rw.sz s.rws (szS Sec.sz s.secs (szS Aw.sz s.aws (szS Pt.sz s.pts (a)))) ≤ 1048576 := by have := (meas_szS meas_Rw s.rws (szS Sec.sz s.secs (szS Aw.sz s.aws (szS Pt.sz s.pts (a)))) b3).2.2; omega
  have k3 := szS_ok (p := fun _ => True) meas_Rw (fun _ _ _ _ => trivial) b3 p3
  exact ⟨k0.1, k1, k2, k3.1⟩
theorem gv0 : gval 0 = .pp 97 turnCells := by simp only [gval, gtab, if_true]
theorem keyEq_str {a b : ByteArray} : keyEq (.str a) (.str b) = decide (a = b) := str_eq
def cellKey (c : Int × Int) : AV := .agg [.int .i64 c.1, .int .i64 c.2]
theorem keyEq_cell {a b : Int × Int} : keyEq (cellKey a) (cellKey b) = decide (a = b) := by
  obtain ⟨a1, a2⟩ := a
  obtain ⟨b1, b2⟩ := b
  by_cases h : a1 = b1 <;> by_cases k : a2 = b2 <;> simp [keyEq, cellKey, intsEq, h, k]
theorem keyP_str {s : ByteArray} : keyP 0 (.str s) = (s.toList.length ≤ 9223372036854775807) := by
  rw [← toList_size]
  exact propext ⟨fun ⟨_, h, h2⟩ => by cases h; exact h2, fun h => ⟨s, rfl, h⟩⟩
theorem wf64 {m : Int} : (Lit.int .i64 m).wf = decide (-9223372036854775808 ≤ m ∧ m ≤ 9223372036854775807) := by
  have h1 : IntKind.i64.min = -9223372036854775808 := by decide
  have h2 : IntKind.i64.max = 9223372036854775807 := by decide
  simp [Lit.wf, h1, h2, Bool.decide_and]
theorem keyP_cell {a b : Int} : keyP 2 (.agg [.int .i64 a, .int .i64 b]) = ((-9223372036854775808 ≤ a ∧ a ≤ 9223372036854775807) ∧ -9223372036854775808 ≤ b ∧ b ≤ 9223372036854775807) := by
  refine propext ⟨fun ⟨ls, h, _, h2⟩ => ?_, fun ⟨h1, h2⟩ => ⟨_, rfl, rfl, fun y hy => ?_⟩⟩
  · cases h
    obtain ⟨m, h3, h4⟩ := h2 (.int .i64 a) (by simp)
    obtain ⟨m', h5, h6⟩ := h2 (.int .i64 b) (by simp)
    cases h3; cases h5
    rw [wf64] at h4 h6
    exact ⟨of_decide_eq_true h4, of_decide_eq_true h6⟩
  · rcases List.mem_cons.1 hy with rfl | hy
    · exact ⟨a, rfl, by rw [wf64]; exact decide_eq_true h1⟩
    · rcases List.mem_cons.1 hy with rfl | hy
      · exact ⟨b, rfl, by rw [wf64]; exact decide_eq_true h2⟩
      · cases hy
/-- A map that is a set. -/
def setOf {κ : Type} (f : κ → AV) (l : List κ) : List (AV × AV) := l.foldl (fun es a => putV es (f a) (.bool true)) []
def isIn {κ : Type} (q : κ) (l : List κ) : Prop := q ∈ l
noncomputable instance {κ : Type} (q : κ) (l : List κ) : Decidable (isIn q l) := Classical.propDecidable _
section
variable {κ : Type} {f : κ → AV} (inj : ∀ {a b}, keyEq (f a) (f b) = true ↔ a = b)
include inj
theorem put_map (a : κ) : ∀ ks : List κ, ∃ ks' : List κ, putV (ks.map fun k => (f k, .bool true)) (f a) (.bool true) = (ks'.map fun k => (f k, AV.bool true)) ∧ ∀ q, q ∈ ks' ↔ q ∈ ks ∨ q = a
  | [] => ⟨[a], rfl, by simp⟩
  | k :: ks => by
    by_cases h : k = a
    · subst h
      refine ⟨k :: ks, by simp only [List.map_cons, putV, inj.2 rfl, if_true], fun q => ?_⟩
      simp only [List.mem_cons]
      constructor
      · exact fun h => .inl h
      · rintro (h | rfl)
        · exact h
        · exact .inl rfl
    · obtain ⟨ks', h1, h2⟩ := put_map a ks
      have hn : ¬ keyEq (f k) (f a) = true := fun e => h (inj.1 e)
      refine ⟨k :: ks', by simp only [List.map_cons, putV, h1, hn]; rfl, fun q => ?_⟩
      simp only [List.mem_cons, h2, or_assoc]
theorem find_map (q : κ) : ∀ ks : List κ, findV (ks.map fun k => (f k, AV.bool true)) (f q) (.bool false) = .bool (decide (isIn q ks))
  | [] => by simp [findV, isIn]
  | k :: ks => by
    simp only [List.map_cons, findV, find_map q ks]
    by_cases h : k = q
    · subst h; simp [inj.2 rfl, isIn]
    · have hn : ¬ keyEq (f k) (f q) = true := fun e => h (inj.1 e)
      simp only [hn, Bool.false_eq_true, if_false, AV.bool.injEq, decide_eq_decide]
      simp only [isIn, List.mem_cons, Ne.symm h, false_or]
theorem setOf_keys (l : List κ) : ∃ ks : List κ, setOf f l = (ks.map fun k => (f k, AV.bool true)) ∧ ∀ q, q ∈ ks ↔ q ∈ l := by
  have key : ∀ (l ks : List κ), ∃ ks' : List κ, l.foldl (fun es a => putV es (f a) (.bool true)) (ks.map fun k => (f k, AV.bool true)) = (ks'.map fun k => (f k, AV.bool true)) ∧ ∀ q, q ∈ ks' ↔ q ∈ ks ∨ q ∈ l := by
    intro l
    induction l with
    | nil => intro ks; exact ⟨ks, rfl, by simp⟩
    | cons a l ih =>
      intro ks
      simp only [List.foldl_cons]
      obtain ⟨k1, h1, h2⟩ := put_map inj a ks
      rw [h1]
      obtain ⟨ks', h3, h4⟩ := ih k1
      exact ⟨ks', h3, fun q => by rw [h4, h2, List.mem_cons, or_assoc]⟩
  obtain ⟨ks, h1, h2⟩ := key l []
  exact ⟨ks, h1, by simpa using h2⟩
theorem setOf_find (l : List κ) (q : κ) : findV (setOf f l) (f q) (.bool false) = .bool (decide (isIn q l)) := by
  obtain ⟨ks, h1, h2⟩ := setOf_keys inj l
  rw [h1, find_map inj]
  simp only [AV.bool.injEq, decide_eq_decide]
  exact h2 q
end
theorem find_str {l : List ByteArray} {q : ByteArray} : findV (setOf AV.str l) (.str q) (.bool false) = .bool (decide (isIn q l)) := setOf_find (f := AV.str) (by intro a b; rw [keyEq_str]; simp) l q
theorem find_cell {l : List (Int × Int)} {a b : Int} : findV (setOf cellKey l) (.agg [.int .i64 a, .int .i64 b]) (.bool false) = .bool (decide (isIn (a, b) l)) := setOf_find (f := cellKey) (by intro a b; rw [keyEq_cell]; simp) l (a, b)
theorem put_str {l : List ByteArray} {q : ByteArray} : putV (setOf AV.str l) (.str q) (.bool true) = setOf AV.str (l ++ [q]) := by simp [setOf]
theorem put_cell {l : List (Int × Int)} {a b : Int} : putV (setOf cellKey l) (.agg [.int .i64 a, .int .i64 b]) (.bool true) = setOf cellKey (l ++ [(a, b)]) := by simp [setOf, cellKey]
theorem take_map_snoc {α β : Type} [Inhabited α] {f : α → β} {l : List α} {i : Nat} (hi : i < l.length) : (l.take (i + 1)).map f = (l.take i).map f ++ [f (l.getD i default)] := by
  have e : l.getD i default = l[i] := by simp [hi]
  rw [e, List.take_succ_eq_append_getElem hi, List.map_append]; rfl
theorem mem_take_map {α β : Type} [Inhabited α] {f : α → β} {l : List α} {i : Nat} (hi : i ≤ l.length) {q : β} : q ∈ (l.take i).map f ↔ ∃ k, k < i ∧ f (l.getD k default) = q := by
  simp only [List.mem_map]
  constructor
  · rintro ⟨x, hx, rfl⟩
    obtain ⟨k, hk, rfl⟩ := List.mem_iff_getElem.1 hx
    rw [List.length_take] at hk
    exact ⟨k, by omega, by rw [List.getElem_take]; simp [show k < l.length by omega]⟩
  · rintro ⟨k, hk, rfl⟩
    exact ⟨_, List.mem_iff_getElem.2 ⟨k, by rw [List.length_take]; omega, rfl⟩, by rw [List.getElem_take]; simp [show k < l.length by omega]⟩
theorem c_iCell (s : Sky) (x y : Int) (hd : dims s.w s.h s.lv) : Contract P 76 [.agg (s.row 0), .int .i64 x, .int .i64 y] [] (.bool (decide (inSky s.w s.h x y))) [] := by
  unfold dims at hd
  simp only [Sky.row]
  refine fn_sound ((Env.nil P).add 74 t_within h_within) hm k_impl_Sky_cell (Nat.le_of_ble_eq_true rfl) rfl ?_; unfold s_impl_Sky_cell; simp (config := { maxSteps := 2000000 }) only [bitvec_to_nat, reduceIte, Nat.reduceEqDiff, Nat.reduceAdd, Nat.reduceLeDiff, reduceCtorEq, Nat.reduceBEq, Nat.reduceLT, Nat.reduceMod, List.forall_mem_cons, t_within, tk_map, dp_map, toNat_pred, appE, rowsOf, List.take_length, List.length_cons, List.length_nil, Nat.zero_add, srow, irow, un_s, un_i, Zone.row, Zone_eta, un_Zone, Pt.row, Pt_eta, un_Pt, Aw.row, Aw_eta, un_Aw, Blk.row, Blk_eta, un_Blk, Sec.row, Sec_eta, un_Sec, Rw.row, Rw_eta, un_Rw, Sky_eta]
  repeat' (first | with_reducible apply And.intro | with_reducible intro _)
  all_goals first | omega | grind [inSky]
def t_iCell : List AV → Option (Prop × AV)
  | [.agg [.int .i64 s_w, .int .i64 s_h, .int .i64 s_lv, .sl 0 3 s_pts, .sl 0 2 s_aws, .sl 0 2 s_secs, .sl 0 4 s_rws], .int .i64 x, .int .i64 y] => some ((((s_pts.map unPt).map Pt.row = s_pts) ∧ ((s_aws.map unAw).map (Aw.row 0) = s_aws) ∧ ((s_secs.map unSec).map (Sec.row 0) = s_secs) ∧ ((s_rws.map unRw).map Rw.row = s_rws)) ∧ (dims (Sky.mk s_w s_h s_lv (s_pts.map unPt) (s_aws.map unAw) (s_secs.map unSec) (s_rws.map unRw)).w (Sky.mk s_w s_h s_lv (s_pts.map unPt) (s_aws.map unAw) (s_secs.map unSec) (s_rws.map unRw)).h (Sky.mk s_w s_h s_lv (s_pts.map unPt) (s_aws.map unAw) (s_secs.map unSec) (s_rws.map unRw)).lv), .bool (decide (inSky (Sky.mk s_w s_h s_lv (s_pts.map unPt) (s_aws.map unAw) (s_secs.map unSec) (s_rws.map unRw)).w (Sky.mk s_w s_h s_lv (s_pts.map unPt) (s_aws.map unAw) (s_secs.map unSec) (s_rws.map unRw)).h x y)))
  | _ => none
theorem h_iCell : ∀ args p v, t_iCell args = some (p, v) → p → Contract P 76 args [] v [] ∧ noref v = true ∧ No99 v := by
  intro args p v h1 h2
  unfold t_iCell at h1
  split at h1
  · rename_i s_w s_h s_lv s_pts s_aws s_secs s_rws x y
    cases h1
    obtain ⟨⟨e0, e1, e2, e3⟩, HP⟩ := h2
    have := c_iCell (Sky.mk s_w s_h s_lv (s_pts.map unPt) (s_aws.map unAw) (s_secs.map unSec) (s_rws.map unRw)) x y HP
    exact ⟨by simpa only [e0, e1, e2, e3, Sky.row] using this, rfl, trivial⟩
  · cases h1
theorem c_iBlock (s : Sky) (b : Blk) : Contract P 77 [.agg (s.row 0), .agg b.row] [] (.bool (decide (b.ok s.w s.h s.lv))) [] := by
  simp only [Sky.row, Blk.row]
  refine fn_sound (Env.nil P) hm k_impl_Sky_block (Nat.le_of_ble_eq_true rfl) rfl ?_; unfold s_impl_Sky_block; simp (config := { maxSteps := 2000000 }) only [bitvec_to_nat, reduceIte, Nat.reduceEqDiff, Nat.reduceAdd, Nat.reduceLeDiff, reduceCtorEq, Nat.reduceBEq, Nat.reduceLT, Nat.reduceMod, List.forall_mem_cons, tk_map, dp_map, toNat_pred, appE, rowsOf, List.take_length, List.length_cons, List.length_nil, Nat.zero_add, srow, irow, un_s, un_i, Zone.row, Zone_eta, un_Zone, Pt.row, Pt_eta, un_Pt, Aw.row, Aw_eta, un_Aw, Blk.row, Blk_eta, un_Blk, Sec.row, Sec_eta, un_Sec, Rw.row, Rw_eta, un_Rw, Sky_eta]
  repeat' (first | with_reducible apply And.intro | with_reducible intro _)
  all_goals first | omega | grind [Blk.ok]
def t_iBlock : List AV → Option (Prop × AV)
  | [.agg [.int .i64 s_w, .int .i64 s_h, .int .i64 s_lv, .sl 0 3 s_pts, .sl 0 2 s_aws, .sl 0 2 s_secs, .sl 0 4 s_rws], .agg [.int .i64 b_x0, .int .i64 b_y0, .int .i64 b_x1, .int .i64 b_y1, .int .i64 b_lo, .int .i64 b_hi]] => some ((((s_pts.map unPt).map Pt.row = s_pts) ∧ ((s_aws.map unAw).map (Aw.row 0) = s_aws) ∧ ((s_secs.map unSec).map (Sec.row 0) = s_secs) ∧ ((s_rws.map unRw).map Rw.row = s_rws)) ∧ (True), .bool (decide ((Blk.mk b_x0 b_y0 b_x1 b_y1 b_lo b_hi).ok (Sky.mk s_w s_h s_lv (s_pts.map unPt) (s_aws.map unAw) (s_secs.map unSec) (s_rws.map unRw)).w (Sky.mk s_w s_h s_lv (s_pts.map unPt) (s_aws.map unAw) (s_secs.map unSec) (s_rws.map unRw)).h (Sky.mk s_w s_h s_lv (s_pts.map unPt) (s_aws.map unAw) (s_secs.map unSec) (s_rws.map unRw)).lv)))
  | _ => none
theorem h_iBlock : ∀ args p v, t_iBlock args = some (p, v) → p → Contract P 77 args [] v [] ∧ noref v = true ∧ No99 v := by
  intro args p v h1 h2
  unfold t_iBlock at h1
  split at h1
  · rename_i s_w s_h s_lv s_pts s_aws s_secs s_rws b_x0 b_y0 b_x1 b_y1 b_lo b_hi
    cases h1
    obtain ⟨⟨e0, e1, e2, e3⟩, HP⟩ := h2
    have := c_iBlock (Sky.mk s_w s_h s_lv (s_pts.map unPt) (s_aws.map unAw) (s_secs.map unSec) (s_rws.map unRw)) (Blk.mk b_x0 b_y0 b_x1 b_y1 b_lo b_hi)
    exact ⟨by simpa only [e0, e1, e2, e3, Sky.row, Blk.row] using this, rfl, trivial⟩
  · cases h1
theorem c_iLess (a b : Blk) : Contract P 78 [.agg a.row, .agg b.row] [] (.bool (decide (a.less b))) [] := by
  simp only [Blk.row]
  refine fn_sound (Env.nil P) hm k_impl_blockLess (Nat.le_of_ble_eq_true rfl) rfl ?_; unfold s_impl_blockLess; simp (config := { maxSteps := 2000000 }) only [bitvec_to_nat, reduceIte, Nat.reduceEqDiff, Nat.reduceAdd, Nat.reduceLeDiff, reduceCtorEq, Nat.reduceBEq, Nat.reduceLT, Nat.reduceMod, List.forall_mem_cons, tk_map, dp_map, toNat_pred, appE, rowsOf, List.take_length, List.length_cons, List.length_nil, Nat.zero_add, srow, irow, un_s, un_i, Zone.row, Zone_eta, un_Zone, Pt.row, Pt_eta, un_Pt, Aw.row, Aw_eta, un_Aw, Blk.row, Blk_eta, un_Blk, Sec.row, Sec_eta, un_Sec, Rw.row, Rw_eta, un_Rw, Sky_eta]
  repeat' (first | with_reducible apply And.intro | with_reducible intro _)
  all_goals first | omega | grind [Blk.less]
def t_iLess : List AV → Option (Prop × AV)
  | [.agg [.int .i64 a_x0, .int .i64 a_y0, .int .i64 a_x1, .int .i64 a_y1, .int .i64 a_lo, .int .i64 a_hi], .agg [.int .i64 b_x0, .int .i64 b_y0, .int .i64 b_x1, .int .i64 b_y1, .int .i64 b_lo, .int .i64 b_hi]] => some ((True) ∧ (True), .bool (decide ((Blk.mk a_x0 a_y0 a_x1 a_y1 a_lo a_hi).less (Blk.mk b_x0 b_y0 b_x1 b_y1 b_lo b_hi))))
  | _ => none
theorem h_iLess : ∀ args p v, t_iLess args = some (p, v) → p → Contract P 78 args [] v [] ∧ noref v = true ∧ No99 v := by
  intro args p v h1 h2
  unfold t_iLess at h1
  split at h1
  · rename_i a_x0 a_y0 a_x1 a_y1 a_lo a_hi b_x0 b_y0 b_x1 b_y1 b_lo b_hi
    cases h1
    obtain ⟨_, HP⟩ := h2
    have := c_iLess (Blk.mk a_x0 a_y0 a_x1 a_y1 a_lo a_hi) (Blk.mk b_x0 b_y0 b_x1 b_y1 b_lo b_hi)
    exact ⟨by simpa only [Blk.row, Blk.row] using this, rfl, trivial⟩
  · cases h1
theorem c_iMeets (a b : Blk) : Contract P 79 [.agg a.row, .agg b.row] [] (.bool (decide (a.meet b))) [] := by
  simp only [Blk.row]
  refine fn_sound (Env.nil P) hm k_impl_meets (Nat.le_of_ble_eq_true rfl) rfl ?_; unfold s_impl_meets; simp (config := { maxSteps := 2000000 }) only [bitvec_to_nat, reduceIte, Nat.reduceEqDiff, Nat.reduceAdd, Nat.reduceLeDiff, reduceCtorEq, Nat.reduceBEq, Nat.reduceLT, Nat.reduceMod, List.forall_mem_cons, tk_map, dp_map, toNat_pred, appE, rowsOf, List.take_length, List.length_cons, List.length_nil, Nat.zero_add, srow, irow, un_s, un_i, Zone.row, Zone_eta, un_Zone, Pt.row, Pt_eta, un_Pt, Aw.row, Aw_eta, un_Aw, Blk.row, Blk_eta, un_Blk, Sec.row, Sec_eta, un_Sec, Rw.row, Rw_eta, un_Rw, Sky_eta]
  repeat' (first | with_reducible apply And.intro | with_reducible intro _)
  all_goals first | omega | grind [Blk.meet]
def t_iMeets : List AV → Option (Prop × AV)
  | [.agg [.int .i64 a_x0, .int .i64 a_y0, .int .i64 a_x1, .int .i64 a_y1, .int .i64 a_lo, .int .i64 a_hi], .agg [.int .i64 b_x0, .int .i64 b_y0, .int .i64 b_x1, .int .i64 b_y1, .int .i64 b_lo, .int .i64 b_hi]] => some ((True) ∧ (True), .bool (decide ((Blk.mk a_x0 a_y0 a_x1 a_y1 a_lo a_hi).meet (Blk.mk b_x0 b_y0 b_x1 b_y1 b_lo b_hi))))
  | _ => none
theorem h_iMeets : ∀ args p v, t_iMeets args = some (p, v) → p → Contract P 79 args [] v [] ∧ noref v = true ∧ No99 v := by
  intro args p v h1 h2
  unfold t_iMeets at h1
  split at h1
  · rename_i a_x0 a_y0 a_x1 a_y1 a_lo a_hi b_x0 b_y0 b_x1 b_y1 b_lo b_hi
    cases h1
    obtain ⟨_, HP⟩ := h2
    have := c_iMeets (Blk.mk a_x0 a_y0 a_x1 a_y1 a_lo a_hi) (Blk.mk b_x0 b_y0 b_x1 b_y1 b_lo b_hi)
    exact ⟨by simpa only [Blk.row, Blk.row] using this, rfl, trivial⟩
  · cases h1
theorem c_places (b : Blk) (w h lv : Int) (hd : dims w h lv) (hb : b.ok w h lv) : Contract P 80 [.agg b.row] [] (.int .i64 b.vol) [] := by
  have ho := vol_bd hd hb
  unfold Blk.vol at ho ⊢
  simp only [Blk.row]
  refine fn_sound (Env.nil P) hm k_impl_SkyBlock_places (Nat.le_of_ble_eq_true rfl) rfl ?_; unfold s_impl_SkyBlock_places; simp (config := { maxSteps := 2000000 }) only [bitvec_to_nat, reduceIte, Nat.reduceEqDiff, Nat.reduceAdd, Nat.reduceLeDiff, reduceCtorEq, Nat.reduceBEq, Nat.reduceLT, Nat.reduceMod, List.forall_mem_cons, tk_map, dp_map, toNat_pred, appE, rowsOf, List.take_length, List.length_cons, List.length_nil, Nat.zero_add, srow, irow, un_s, un_i, Zone.row, Zone_eta, un_Zone, Pt.row, Pt_eta, un_Pt, Aw.row, Aw_eta, un_Aw, Blk.row, Blk_eta, un_Blk, Sec.row, Sec_eta, un_Sec, Rw.row, Rw_eta, un_Rw, Sky_eta]
  exact ⟨by omega, by omega, by omega, by omega, by omega, by omega, by omega, by omega⟩
def t_places : List AV → Option (Prop × AV)
  | [.agg [.int .i64 b_x0, .int .i64 b_y0, .int .i64 b_x1, .int .i64 b_y1, .int .i64 b_lo, .int .i64 b_hi]] => some ((True) ∧ (∃ w h lv, dims w h lv ∧ Blk.ok w h lv (Blk.mk b_x0 b_y0 b_x1 b_y1 b_lo b_hi)), .int .i64 (Blk.vol (Blk.mk b_x0 b_y0 b_x1 b_y1 b_lo b_hi)))
  | _ => none
theorem h_places : ∀ args p v, t_places args = some (p, v) → p → Contract P 80 args [] v [] ∧ noref v = true ∧ No99 v := by
  intro args p v h1 h2
  unfold t_places at h1
  split at h1
  · rename_i b_x0 b_y0 b_x1 b_y1 b_lo b_hi
    cases h1
    obtain ⟨_, HP⟩ := h2
    have := c_places (Blk.mk b_x0 b_y0 b_x1 b_y1 b_lo b_hi) _ _ _ HP.choose_spec.choose_spec.choose_spec.1 HP.choose_spec.choose_spec.choose_spec.2
    exact ⟨by simpa only [Blk.row] using this, rfl, trivial⟩
  · cases h1
theorem turn_drop {t : Int} (h : 1 ≤ t ∧ t ≤ 8) : ∃ rest, List.drop (t.toNat * 2) turnCells = .int .i64 (dX t) :: .int .i64 (dY t) :: rest := by
  have hc : t = 1 ∨ t = 2 ∨ t = 3 ∨ t = 4 ∨ t = 5 ∨ t = 6 ∨ t = 7 ∨ t = 8 := by omega
  rcases hc with rfl | rfl | rfl | rfl | rfl | rfl | rfl | rfl <;> exact ⟨_, rfl⟩
theorem c_runway (s : Sky) (r : Rw) (hd : dims s.w s.h s.lv) : Contract P 81 [.agg (s.row 0), .agg r.row] [] (.bool (decide (r.ok s.w s.h))) [] := by
  obtain ⟨nm, x, y, tn⟩ := r
  have hx := dX_bd tn
  have hy := dY_bd tn
  by_cases ht : 1 ≤ tn ∧ tn ≤ 8
  · obtain ⟨rest, e⟩ := turn_drop ht
    simp only [Sky.row, Rw.row]
    refine fn_sound (((Env.nil P).add 74 t_within h_within).add 76 t_iCell h_iCell) hm k_impl_Sky_runway (Nat.le_of_ble_eq_true rfl) rfl ?_; unfold s_impl_Sky_runway; simp (config := { maxSteps := 2000000 }) only [bitvec_to_nat, reduceIte, Nat.reduceEqDiff, Nat.reduceAdd, Nat.reduceLeDiff, reduceCtorEq, Nat.reduceBEq, Nat.reduceLT, Nat.reduceMod, List.forall_mem_cons, t_within, t_iCell, tk_map, dp_map, toNat_pred, appE, rowsOf, List.take_length, List.length_cons, List.length_nil, Nat.zero_add, srow, irow, un_s, un_i, Zone.row, Zone_eta, un_Zone, Pt.row, Pt_eta, un_Pt, Aw.row, Aw_eta, un_Aw, Blk.row, Blk_eta, un_Blk, Sec.row, Sec_eta, un_Sec, Rw.row, Rw_eta, un_Rw, Sky_eta, gv0, e, ht, Int.toNat_one, Nat.mul_one, Nat.zero_mul, not_true_eq_false, not_false_eq_true]
    repeat' (first | with_reducible apply And.intro | with_reducible intro _)
    all_goals first | omega | exact hd | (simp only [List.length_cons]; omega) | grind [Rw.ok, inSky, dims]
  · have e : True := trivial
    simp only [Sky.row, Rw.row]
    refine fn_sound (((Env.nil P).add 74 t_within h_within).add 76 t_iCell h_iCell) hm k_impl_Sky_runway (Nat.le_of_ble_eq_true rfl) rfl ?_; unfold s_impl_Sky_runway; simp (config := { maxSteps := 2000000 }) only [bitvec_to_nat, reduceIte, Nat.reduceEqDiff, Nat.reduceAdd, Nat.reduceLeDiff, reduceCtorEq, Nat.reduceBEq, Nat.reduceLT, Nat.reduceMod, List.forall_mem_cons, t_within, t_iCell, tk_map, dp_map, toNat_pred, appE, rowsOf, List.take_length, List.length_cons, List.length_nil, Nat.zero_add, srow, irow, un_s, un_i, Zone.row, Zone_eta, un_Zone, Pt.row, Pt_eta, un_Pt, Aw.row, Aw_eta, un_Aw, Blk.row, Blk_eta, un_Blk, Sec.row, Sec_eta, un_Sec, Rw.row, Rw_eta, un_Rw, Sky_eta, gv0, e, ht, Int.toNat_one, Nat.mul_one, Nat.zero_mul, not_true_eq_false, not_false_eq_true]
    repeat' (first | with_reducible apply And.intro | with_reducible intro _)
    all_goals first | omega | grind [Rw.ok]
def t_runway : List AV → Option (Prop × AV)
  | [.agg [.int .i64 s_w, .int .i64 s_h, .int .i64 s_lv, .sl 0 3 s_pts, .sl 0 2 s_aws, .sl 0 2 s_secs, .sl 0 4 s_rws], .agg [.str r_nm, .int .i64 r_x, .int .i64 r_y, .int .i64 r_tn]] => some ((((s_pts.map unPt).map Pt.row = s_pts) ∧ ((s_aws.map unAw).map (Aw.row 0) = s_aws) ∧ ((s_secs.map unSec).map (Sec.row 0) = s_secs) ∧ ((s_rws.map unRw).map Rw.row = s_rws)) ∧ (dims (Sky.mk s_w s_h s_lv (s_pts.map unPt) (s_aws.map unAw) (s_secs.map unSec) (s_rws.map unRw)).w (Sky.mk s_w s_h s_lv (s_pts.map unPt) (s_aws.map unAw) (s_secs.map unSec) (s_rws.map unRw)).h (Sky.mk s_w s_h s_lv (s_pts.map unPt) (s_aws.map unAw) (s_secs.map unSec) (s_rws.map unRw)).lv), .bool (decide ((Rw.mk r_nm r_x r_y r_tn).ok (Sky.mk s_w s_h s_lv (s_pts.map unPt) (s_aws.map unAw) (s_secs.map unSec) (s_rws.map unRw)).w (Sky.mk s_w s_h s_lv (s_pts.map unPt) (s_aws.map unAw) (s_secs.map unSec) (s_rws.map unRw)).h)))
  | _ => none
theorem h_runway : ∀ args p v, t_runway args = some (p, v) → p → Contract P 81 args [] v [] ∧ noref v = true ∧ No99 v := by
  intro args p v h1 h2
  unfold t_runway at h1
  split at h1
  · rename_i s_w s_h s_lv s_pts s_aws s_secs s_rws r_nm r_x r_y r_tn
    cases h1
    obtain ⟨⟨e0, e1, e2, e3⟩, HP⟩ := h2
    have := c_runway (Sky.mk s_w s_h s_lv (s_pts.map unPt) (s_aws.map unAw) (s_secs.map unSec) (s_rws.map unRw)) (Rw.mk r_nm r_x r_y r_tn) HP
    exact ⟨by simpa only [e0, e1, e2, e3, Sky.row, Rw.row] using this, rfl, trivial⟩
  · cases h1
end
end Go.Ve

namespace Go.Ve
noncomputable section
open Go.Proofs
set_option linter.unusedSimpArgs false
set_option linter.unusedVariables false
set_option maxRecDepth 100000
theorem set_ByteArray {lst : List ByteArray} {idx : Nat} {v : ByteArray} : (lst.map srow).set idx (setSeg ((lst.map srow).getD idx []) 0 [.str v]) = (lst.set idx v).map srow :=
  set_rows (α := ByteArray) (f := srow) (fun s => v) fun x => by simp [srow, setSeg]
def to_ByteArray (a : List ByteArray) (i : Nat) : List ByteArray := a.take i ++ List.replicate (a.length - i) ⟨#[]⟩
theorem to_ByteArray_st {a : List ByteArray} {i : Nat} (h : i < a.length) : (to_ByteArray a i).set i (a.getD i default) = to_ByteArray a (i + 1) := by
  refine List.ext_getElem (by simp [to_ByteArray]; omega) fun j h1 h2 => ?_
  by_cases e : j = i
  · subst e
    simp [to_ByteArray, List.getElem_append, h]
    intro h9; omega
  · simp only [List.getElem_set_ne (Ne.symm e)]
    simp only [to_ByteArray, List.getElem_append, List.length_take, List.getElem_take, List.getElem_replicate]
    split <;> split <;> first | rfl | omega
theorem c_toByteArrayS (t : Nat) (a : List ByteArray) (ha : a.length ≤ 1048576) : Contract P 41 [.sl t 1 (a.map srow)] [] (.sl 0 1 (a.map srow)) [] := by
  refine fn_sound (Env.nil P) hm k_laws_toStringS (Nat.le_of_ble_eq_true rfl) rfl ?_; unfold s_laws_toStringS; simp (config := { maxSteps := 2000000 }) only [bitvec_to_nat, reduceIte, Nat.reduceEqDiff, Nat.reduceAdd, Nat.reduceLeDiff, reduceCtorEq, Nat.reduceBEq, Nat.reduceLT, Nat.reduceMod, List.forall_mem_cons, tk_map, dp_map, toNat_pred, appE, rowsOf, List.take_length, List.length_cons, List.length_nil, Nat.zero_add, srow, irow, un_s, un_i, Pt.row, Pt_eta, Aw.row, Aw_eta, Blk.row, Blk_eta, Sec.row, Sec_eta, Rw.row, Rw_eta, Sky.row, Sky_eta, un_Pt, un_Aw, un_Blk, un_Sec, un_Rw, un_Sky, set_ByteArray, Nat.sub_zero]
  have m0 : List.replicate a.length [.str ⟨#[]⟩] = (to_ByteArray a 0).map srow := by simp [to_ByteArray, srow]
  refine ⟨by omega, ?_⟩
  refine loop_st (fun i : Nat => [(4, .int .i64 i)]) (fun i => [(107, .arr 9 0 1 ((to_ByteArray a i).map srow))]) (fun i => i ≤ a.length) (fun i => a.length - i) 0 (by simp only [u_E0, u_E1, u_M0, u_M1, w_setE0, w_setE1, w_setM0, w_setM1, reduceIte, Nat.reduceEqDiff]; exact ⟨by repeat' (first | exact trivial | refine ⟨.inr rfl, ?_⟩), ⟨congrArg (fun g => some (AObj.arr 9 0 1 g)) m0, trivial⟩, rfl, rfl⟩) (Nat.zero_le _) ?_
  intro i hi NX hN
  skip
  unfold l_laws_toStringS_0; simp (config := { maxSteps := 2000000 }) only [bitvec_to_nat, reduceIte, Nat.reduceEqDiff, Nat.reduceAdd, Nat.reduceLeDiff, reduceCtorEq, Nat.reduceBEq, Nat.reduceLT, Nat.reduceMod, List.forall_mem_cons, tk_map, dp_map, toNat_pred, appE, rowsOf, List.take_length, List.length_cons, List.length_nil, Nat.zero_add, srow, irow, un_s, un_i, Pt.row, Pt_eta, Aw.row, Aw_eta, Blk.row, Blk_eta, Sec.row, Sec_eta, Rw.row, Rw_eta, Sky.row, Sky_eta, un_Pt, un_Aw, un_Blk, un_Sec, un_Rw, un_Sky, set_ByteArray, Nat.sub_zero]
  refine ⟨fun h => ?_, fun h => ?_⟩
  · repeat' (first | with_reducible apply And.intro | with_reducible intro _)
    all_goals first
      | omega
      | rfl
      | exact hs2 (by omega)
      | (have e := to_ByteArray_st (a := a) (i := i) (by omega)
         try simp only [srow] at *
         refine hN (i + 1) _ ⟨by repeat' (first | exact trivial | refine ⟨.inr rfl, ?_⟩), ⟨congrArg (fun g => some (AObj.arr 9 0 1 (List.map srow g))) e, trivial⟩, rfl, rfl⟩ ?_ ?_ <;> omega)
  · have e : i = a.length := by omega
    subst e
    simp only [to_ByteArray, List.take_length, Nat.sub_self, List.replicate_zero, List.append_nil]
    try rw [List.take_of_length_le (by simp)]
def t_toStringS : List AV → Option (Prop × AV)
  | [.sl st 1 sx] => some ((((sx.map unS).map srow = sx)) ∧ ((sx.map unS).length ≤ 1048576), .sl 0 1 ((sx.map unS).map srow))
  | _ => none
theorem h_toStringS : ∀ args p v, t_toStringS args = some (p, v) → p → Contract P 41 args [] v [] ∧ noref v = true ∧ No99 v := by
  intro args p v h1 h2
  unfold t_toStringS at h1
  split at h1
  · rename_i st sx
    cases h1
    obtain ⟨e0, HP⟩ := h2
    have := c_toByteArrayS st (sx.map unS) HP
    exact ⟨by simpa only [e0] using this, rfl, by simp [No99, No99L, no99_box, no99_i, no99_str, no99_Pt, no99_Aw, no99_Blk, no99_Sec, no99_Rw, no99_Sky, -List.map_map]⟩
  · cases h1
theorem c_eqByteArrayS (t t' : Nat) (p q : List ByteArray) (hp : p.length ≤ 4611686018427387904) : Contract P 44 [.sl t 1 (p.map srow), .sl t' 1 (q.map srow)] [] (.bool (decide (p = q))) [] := by
  refine fn_sound (Env.nil P) hm k_laws_eqStringS (Nat.le_of_ble_eq_true rfl) rfl ?_; unfold s_laws_eqStringS; simp (config := { maxSteps := 2000000 }) only [bitvec_to_nat, reduceIte, Nat.reduceEqDiff, Nat.reduceAdd, Nat.reduceLeDiff, reduceCtorEq, Nat.reduceBEq, Nat.reduceLT, Nat.reduceMod, List.forall_mem_cons, tk_map, dp_map, toNat_pred, appE, rowsOf, List.take_length, List.length_cons, List.length_nil, Nat.zero_add, srow, irow, un_s, un_i, Pt.row, Pt_eta, Aw.row, Aw_eta, Blk.row, Blk_eta, Sec.row, Sec_eta, Rw.row, Rw_eta, Sky.row, Sky_eta, un_Pt, un_Aw, un_Blk, un_Sec, un_Rw, un_Sky]
  refine ⟨fun h1 h => h1 (by rw [h]), fun h1 => ?_⟩
  refine loop_st (fun i : Nat => [(5, .int .i64 i)]) (fun _ => []) (fun i => i ≤ p.length ∧ ∀ j, j < i → p.getD j default = q.getD j default) (fun i => p.length - i) (0) (by simp only [u_E0, u_E1, u_M0, u_M1, w_setE0, w_setE1, w_setM0, w_setM1, reduceIte, Nat.reduceEqDiff]; exact ⟨by repeat' (first | exact trivial | refine ⟨.inr rfl, ?_⟩), by repeat' (first | exact trivial | refine ⟨rfl, ?_⟩), by first | rfl | simp [closedB, refsIn, refsInL, refsInO, dom, refsInL_nr, *], by first | rfl | simp [keepB, dom]⟩) ?_ ?_
  · exact ⟨Nat.zero_le _, by intro j hj; omega⟩
  intro i hi NX hN
  unfold l_laws_eqStringS_0; simp (config := { maxSteps := 2000000 }) only [bitvec_to_nat, reduceIte, Nat.reduceEqDiff, Nat.reduceAdd, Nat.reduceLeDiff, reduceCtorEq, Nat.reduceBEq, Nat.reduceLT, Nat.reduceMod, List.forall_mem_cons, tk_map, dp_map, toNat_pred, appE, rowsOf, List.take_length, List.length_cons, List.length_nil, Nat.zero_add, srow, irow, un_s, un_i, Pt.row, Pt_eta, Aw.row, Aw_eta, Blk.row, Blk_eta, Sec.row, Sec_eta, Rw.row, Rw_eta, Sky.row, Sky_eta, un_Pt, un_Aw, un_Blk, un_Sec, un_Rw, un_Sky]
  skip
  repeat' (first | with_reducible apply And.intro | with_reducible intro _)
  all_goals first
    | omega
    | (refine hN (i + 1) _ (by simp only [u_E0, u_E1, u_M0, u_M1, w_setE0, w_setE1, w_setM0, w_setM1, reduceIte, Nat.reduceEqDiff]; exact ⟨by repeat' (first | exact trivial | refine ⟨.inr rfl, ?_⟩), by repeat' (first | exact trivial | refine ⟨rfl, ?_⟩), by first | rfl | simp [closedB, refsIn, refsInL, refsInO, dom, refsInL_nr, *], by first | rfl | simp [keepB, dom]⟩) ?_ ?_
       · exact ⟨by omega, all_snoc hi.2 (by with_reducible assumption)⟩
       · omega)
    | (intro h; subst h; exact absurd rfl (by with_reducible assumption))
    | (exact ext_of (by omega) fun j hj => hi.2 j (by omega))
    | grind
def t_eqStringS : List AV → Option (Prop × AV)
  | [.sl ct 1 cx, .sl dt 1 dx] => some ((((cx.map unS).map srow = cx) ∧ ((dx.map unS).map srow = dx)) ∧ ((cx.map unS).length ≤ 4611686018427387904), .bool (decide ((cx.map unS) = (dx.map unS))))
  | _ => none
theorem h_eqStringS : ∀ args p v, t_eqStringS args = some (p, v) → p → Contract P 44 args [] v [] ∧ noref v = true ∧ No99 v := by
  intro args p v h1 h2
  unfold t_eqStringS at h1
  split at h1
  · rename_i ct cx dt dx
    cases h1
    obtain ⟨⟨e0, e1⟩, HP⟩ := h2
    have := c_eqByteArrayS ct dt (cx.map unS) (dx.map unS) HP
    exact ⟨by simpa only [e0, e1] using this, rfl, trivial⟩
  · cases h1
theorem c_toPt (s : Pt) : Contract P 129 [.agg (s.row)] [] (.agg (s.row)) [] := by
  simp only [Pt.row]
  refine fn_sound (Env.nil P) hm k_laws_toSkyPoint (Nat.le_of_ble_eq_true rfl) rfl ?_; unfold s_laws_toSkyPoint; simp (config := { maxSteps := 2000000 }) only [bitvec_to_nat, reduceIte, Nat.reduceEqDiff, Nat.reduceAdd, Nat.reduceLeDiff, reduceCtorEq, Nat.reduceBEq, Nat.reduceLT, Nat.reduceMod, List.forall_mem_cons, tk_map, dp_map, toNat_pred, appE, rowsOf, List.take_length, List.length_cons, List.length_nil, Nat.zero_add, srow, irow, un_s, un_i, Pt.row, Pt_eta, Aw.row, Aw_eta, Blk.row, Blk_eta, Sec.row, Sec_eta, Rw.row, Rw_eta, Sky.row, Sky_eta, un_Pt, un_Aw, un_Blk, un_Sec, un_Rw, un_Sky]
  all_goals trivial
def t_toPt : List AV → Option (Prop × AV)
  | [.agg [.str s_nm, .int .i64 s_x, .int .i64 s_y]] => some ((True) ∧ (True), .agg (Pt.row (Pt.mk s_nm s_x s_y)))
  | _ => none
theorem h_toPt : ∀ args p v, t_toPt args = some (p, v) → p → Contract P 129 args [] v [] ∧ noref v = true ∧ No99 v := by
  intro args p v h1 h2
  unfold t_toPt at h1
  split at h1
  · rename_i s_nm s_x s_y
    cases h1
    obtain ⟨_, HP⟩ := h2
    have := c_toPt (Pt.mk s_nm s_x s_y)
    exact ⟨by simpa only [Pt.row] using this, rfl, by simp [Pt.row, No99, No99L, no99_box, no99_i, no99_str, no99_Pt, no99_Aw, no99_Blk, no99_Sec, no99_Rw, no99_Sky, -List.map_map]⟩
  · cases h1
theorem set_Pt {lst : List Pt} {idx : Nat} {vnm : ByteArray} {vx : Int} {vy : Int} : (lst.map Pt.row).set idx (setSeg ((lst.map Pt.row).getD idx []) 0 [.str vnm, .int .i64 vx, .int .i64 vy]) = (lst.set idx (Pt.mk vnm vx vy)).map Pt.row :=
  set_rows (α := Pt) (f := Pt.row) (fun s => (Pt.mk vnm vx vy)) fun x => by simp [Pt.row, setSeg]
def to_Pt (a : List Pt) (i : Nat) : List Pt := a.take i ++ List.replicate (a.length - i) ⟨⟨#[]⟩, 0, 0⟩
theorem to_Pt_st {a : List Pt} {i : Nat} (h : i < a.length) : (to_Pt a i).set i (a.getD i default) = to_Pt a (i + 1) := by
  refine List.ext_getElem (by simp [to_Pt]; omega) fun j h1 h2 => ?_
  by_cases e : j = i
  · subst e
    simp [to_Pt, List.getElem_append, h]
    intro h9; omega
  · simp only [List.getElem_set_ne (Ne.symm e)]
    simp only [to_Pt, List.getElem_append, List.length_take, List.getElem_take, List.getElem_replicate]
    split <;> split <;> first | rfl | omega
theorem c_toPtS (t : Nat) (a : List Pt) (ha : a.length ≤ 1048576) : Contract P 70 [.sl t 3 (a.map Pt.row)] [] (.sl 0 3 (a.map Pt.row)) [] := by
  refine fn_sound ((Env.nil P).add 129 t_toPt h_toPt) hm k_laws_toSkyPointS (Nat.le_of_ble_eq_true rfl) rfl ?_; unfold s_laws_toSkyPointS; simp (config := { maxSteps := 2000000 }) only [bitvec_to_nat, reduceIte, Nat.reduceEqDiff, Nat.reduceAdd, Nat.reduceLeDiff, reduceCtorEq, Nat.reduceBEq, Nat.reduceLT, Nat.reduceMod, List.forall_mem_cons, t_toPt, tk_map, dp_map, toNat_pred, appE, rowsOf, List.take_length, List.length_cons, List.length_nil, Nat.zero_add, srow, irow, un_s, un_i, Pt.row, Pt_eta, Aw.row, Aw_eta, Blk.row, Blk_eta, Sec.row, Sec_eta, Rw.row, Rw_eta, Sky.row, Sky_eta, un_Pt, un_Aw, un_Blk, un_Sec, un_Rw, un_Sky, set_Pt, Nat.sub_zero]
  have m0 : List.replicate a.length [.str ⟨#[]⟩, .int .i64 0, .int .i64 0] = (to_Pt a 0).map Pt.row := by simp [to_Pt, Pt.row]
  refine ⟨by omega, ?_⟩
  refine loop_st (fun i : Nat => [(4, .int .i64 i)]) (fun i => [(107, .arr 103 0 3 ((to_Pt a i).map Pt.row))]) (fun i => i ≤ a.length) (fun i => a.length - i) 0 (by simp only [u_E0, u_E1, u_M0, u_M1, w_setE0, w_setE1, w_setM0, w_setM1, reduceIte, Nat.reduceEqDiff]; exact ⟨by repeat' (first | exact trivial | refine ⟨.inr rfl, ?_⟩), ⟨congrArg (fun g => some (AObj.arr 103 0 3 g)) m0, trivial⟩, rfl, rfl⟩) (Nat.zero_le _) ?_
  intro i hi NX hN
  skip
  unfold l_laws_toSkyPointS_0; simp (config := { maxSteps := 2000000 }) only [bitvec_to_nat, reduceIte, Nat.reduceEqDiff, Nat.reduceAdd, Nat.reduceLeDiff, reduceCtorEq, Nat.reduceBEq, Nat.reduceLT, Nat.reduceMod, List.forall_mem_cons, t_toPt, tk_map, dp_map, toNat_pred, appE, rowsOf, List.take_length, List.length_cons, List.length_nil, Nat.zero_add, srow, irow, un_s, un_i, Pt.row, Pt_eta, Aw.row, Aw_eta, Blk.row, Blk_eta, Sec.row, Sec_eta, Rw.row, Rw_eta, Sky.row, Sky_eta, un_Pt, un_Aw, un_Blk, un_Sec, un_Rw, un_Sky, set_Pt, Nat.sub_zero]
  refine ⟨fun h => ?_, fun h => ?_⟩
  · repeat' (first | with_reducible apply And.intro | with_reducible intro _)
    all_goals first
      | omega
      | rfl
      | exact hs2 (by omega)
      | (have e := to_Pt_st (a := a) (i := i) (by omega)
         try simp only [Pt.row] at *
         refine hN (i + 1) _ ⟨by repeat' (first | exact trivial | refine ⟨.inr rfl, ?_⟩), ⟨congrArg (fun g => some (AObj.arr 103 0 3 (List.map Pt.row g))) e, trivial⟩, rfl, rfl⟩ ?_ ?_ <;> omega)
  · have e : i = a.length := by omega
    subst e
    simp only [to_Pt, List.take_length, Nat.sub_self, List.replicate_zero, List.append_nil]
    try rw [List.take_of_length_le (by simp)]
def t_toPtS : List AV → Option (Prop × AV)
  | [.sl st 3 sx] => some ((((sx.map unPt).map Pt.row = sx)) ∧ ((sx.map unPt).length ≤ 1048576), .sl 0 3 ((sx.map unPt).map Pt.row))
  | _ => none
theorem h_toPtS : ∀ args p v, t_toPtS args = some (p, v) → p → Contract P 70 args [] v [] ∧ noref v = true ∧ No99 v := by
  intro args p v h1 h2
  unfold t_toPtS at h1
  split at h1
  · rename_i st sx
    cases h1
    obtain ⟨e0, HP⟩ := h2
    have := c_toPtS st (sx.map unPt) HP
    exact ⟨by simpa only [e0] using this, rfl, by simp [No99, No99L, no99_box, no99_i, no99_str, no99_Pt, no99_Aw, no99_Blk, no99_Sec, no99_Rw, no99_Sky, -List.map_map]⟩
  · cases h1
theorem c_eqPt (c d : Pt)  : Contract P 133 [.agg (c.row), .agg (d.row)] [] (.bool (decide (c = d))) [] := by
  obtain ⟨c_nm, c_x, c_y⟩ := c
  obtain ⟨d_nm, d_x, d_y⟩ := d
  simp only [Pt.row]
  refine fn_sound (Env.nil P) hm k_laws_eqSkyPoint (Nat.le_of_ble_eq_true rfl) rfl ?_; unfold s_laws_eqSkyPoint; simp (config := { maxSteps := 2000000 }) only [bitvec_to_nat, reduceIte, Nat.reduceEqDiff, Nat.reduceAdd, Nat.reduceLeDiff, reduceCtorEq, Nat.reduceBEq, Nat.reduceLT, Nat.reduceMod, List.forall_mem_cons, tk_map, dp_map, toNat_pred, appE, rowsOf, List.take_length, List.length_cons, List.length_nil, Nat.zero_add, srow, irow, un_s, un_i, Pt.row, Pt_eta, Aw.row, Aw_eta, Blk.row, Blk_eta, Sec.row, Sec_eta, Rw.row, Rw_eta, Sky.row, Sky_eta, un_Pt, un_Aw, un_Blk, un_Sec, un_Rw, un_Sky]
  simp only [Pt.mk.injEq]
  repeat' (first | with_reducible apply And.intro | with_reducible intro _)
  all_goals first | omega | (simp_all; done) | grind
def t_eqPt : List AV → Option (Prop × AV)
  | [.agg [.str c_nm, .int .i64 c_x, .int .i64 c_y], .agg [.str d_nm, .int .i64 d_x, .int .i64 d_y]] => some ((True) ∧ (True), .bool (decide ((Pt.mk c_nm c_x c_y) = (Pt.mk d_nm d_x d_y))))
  | _ => none
theorem h_eqPt : ∀ args p v, t_eqPt args = some (p, v) → p → Contract P 133 args [] v [] ∧ noref v = true ∧ No99 v := by
  intro args p v h1 h2
  unfold t_eqPt at h1
  split at h1
  · rename_i c_nm c_x c_y d_nm d_x d_y
    cases h1
    obtain ⟨_, HP⟩ := h2
    have := c_eqPt (Pt.mk c_nm c_x c_y) (Pt.mk d_nm d_x d_y)
    exact ⟨by simpa only [Pt.row, Pt.row] using this, rfl, trivial⟩
  · cases h1
theorem c_eqPtS (t t' : Nat) (p q : List Pt) (hp : p.length ≤ 4611686018427387904) : Contract P 82 [.sl t 3 (p.map Pt.row), .sl t' 3 (q.map Pt.row)] [] (.bool (decide (p = q))) [] := by
  refine fn_sound ((Env.nil P).add 133 t_eqPt h_eqPt) hm k_laws_eqSkyPointS (Nat.le_of_ble_eq_true rfl) rfl ?_; unfold s_laws_eqSkyPointS; simp (config := { maxSteps := 2000000 }) only [bitvec_to_nat, reduceIte, Nat.reduceEqDiff, Nat.reduceAdd, Nat.reduceLeDiff, reduceCtorEq, Nat.reduceBEq, Nat.reduceLT, Nat.reduceMod, List.forall_mem_cons, t_eqPt, tk_map, dp_map, toNat_pred, appE, rowsOf, List.take_length, List.length_cons, List.length_nil, Nat.zero_add, srow, irow, un_s, un_i, Pt.row, Pt_eta, Aw.row, Aw_eta, Blk.row, Blk_eta, Sec.row, Sec_eta, Rw.row, Rw_eta, Sky.row, Sky_eta, un_Pt, un_Aw, un_Blk, un_Sec, un_Rw, un_Sky]
  refine ⟨fun h1 h => h1 (by rw [h]), fun h1 => ?_⟩
  refine loop_st (fun i : Nat => [(5, .int .i64 i)]) (fun _ => []) (fun i => i ≤ p.length ∧ ∀ j, j < i → p.getD j default = q.getD j default) (fun i => p.length - i) (0) (by simp only [u_E0, u_E1, u_M0, u_M1, w_setE0, w_setE1, w_setM0, w_setM1, reduceIte, Nat.reduceEqDiff]; exact ⟨by repeat' (first | exact trivial | refine ⟨.inr rfl, ?_⟩), by repeat' (first | exact trivial | refine ⟨rfl, ?_⟩), by first | rfl | simp [closedB, refsIn, refsInL, refsInO, dom, refsInL_nr, *], by first | rfl | simp [keepB, dom]⟩) ?_ ?_
  · exact ⟨Nat.zero_le _, by intro j hj; omega⟩
  intro i hi NX hN
  unfold l_laws_eqSkyPointS_0; simp (config := { maxSteps := 2000000 }) only [bitvec_to_nat, reduceIte, Nat.reduceEqDiff, Nat.reduceAdd, Nat.reduceLeDiff, reduceCtorEq, Nat.reduceBEq, Nat.reduceLT, Nat.reduceMod, List.forall_mem_cons, t_eqPt, tk_map, dp_map, toNat_pred, appE, rowsOf, List.take_length, List.length_cons, List.length_nil, Nat.zero_add, srow, irow, un_s, un_i, Pt.row, Pt_eta, Aw.row, Aw_eta, Blk.row, Blk_eta, Sec.row, Sec_eta, Rw.row, Rw_eta, Sky.row, Sky_eta, un_Pt, un_Aw, un_Blk, un_Sec, un_Rw, un_Sky]
  skip
  repeat' (first | with_reducible apply And.intro | with_reducible intro _)
  all_goals first
    | omega
    | (refine hN (i + 1) _ (by simp only [u_E0, u_E1, u_M0, u_M1, w_setE0, w_setE1, w_setM0, w_setM1, reduceIte, Nat.reduceEqDiff]; exact ⟨by repeat' (first | exact trivial | refine ⟨.inr rfl, ?_⟩), by repeat' (first | exact trivial | refine ⟨rfl, ?_⟩), by first | rfl | simp [closedB, refsIn, refsInL, refsInO, dom, refsInL_nr, *], by first | rfl | simp [keepB, dom]⟩) ?_ ?_
       · exact ⟨by omega, all_snoc hi.2 (by with_reducible assumption)⟩
       · omega)
    | (intro h; subst h; exact absurd rfl (by with_reducible assumption))
    | (exact ext_of (by omega) fun j hj => hi.2 j (by omega))
    | grind
def t_eqPtS : List AV → Option (Prop × AV)
  | [.sl ct 3 cx, .sl dt 3 dx] => some ((((cx.map unPt).map Pt.row = cx) ∧ ((dx.map unPt).map Pt.row = dx)) ∧ ((cx.map unPt).length ≤ 4611686018427387904), .bool (decide ((cx.map unPt) = (dx.map unPt))))
  | _ => none
theorem h_eqPtS : ∀ args p v, t_eqPtS args = some (p, v) → p → Contract P 82 args [] v [] ∧ noref v = true ∧ No99 v := by
  intro args p v h1 h2
  unfold t_eqPtS at h1
  split at h1
  · rename_i ct cx dt dx
    cases h1
    obtain ⟨⟨e0, e1⟩, HP⟩ := h2
    have := c_eqPtS ct dt (cx.map unPt) (dx.map unPt) HP
    exact ⟨by simpa only [e0, e1] using this, rfl, trivial⟩
  · cases h1
theorem c_toBlk (s : Blk) : Contract P 169 [.agg (s.row)] [] (.agg (s.row)) [] := by
  simp only [Blk.row]
  refine fn_sound (Env.nil P) hm k_laws_toSkyBlock (Nat.le_of_ble_eq_true rfl) rfl ?_; unfold s_laws_toSkyBlock; simp (config := { maxSteps := 2000000 }) only [bitvec_to_nat, reduceIte, Nat.reduceEqDiff, Nat.reduceAdd, Nat.reduceLeDiff, reduceCtorEq, Nat.reduceBEq, Nat.reduceLT, Nat.reduceMod, List.forall_mem_cons, tk_map, dp_map, toNat_pred, appE, rowsOf, List.take_length, List.length_cons, List.length_nil, Nat.zero_add, srow, irow, un_s, un_i, Pt.row, Pt_eta, Aw.row, Aw_eta, Blk.row, Blk_eta, Sec.row, Sec_eta, Rw.row, Rw_eta, Sky.row, Sky_eta, un_Pt, un_Aw, un_Blk, un_Sec, un_Rw, un_Sky]
  all_goals trivial
def t_toBlk : List AV → Option (Prop × AV)
  | [.agg [.int .i64 s_x0, .int .i64 s_y0, .int .i64 s_x1, .int .i64 s_y1, .int .i64 s_lo, .int .i64 s_hi]] => some ((True) ∧ (True), .agg (Blk.row (Blk.mk s_x0 s_y0 s_x1 s_y1 s_lo s_hi)))
  | _ => none
theorem h_toBlk : ∀ args p v, t_toBlk args = some (p, v) → p → Contract P 169 args [] v [] ∧ noref v = true ∧ No99 v := by
  intro args p v h1 h2
  unfold t_toBlk at h1
  split at h1
  · rename_i s_x0 s_y0 s_x1 s_y1 s_lo s_hi
    cases h1
    obtain ⟨_, HP⟩ := h2
    have := c_toBlk (Blk.mk s_x0 s_y0 s_x1 s_y1 s_lo s_hi)
    exact ⟨by simpa only [Blk.row] using this, rfl, by simp [Blk.row, No99, No99L, no99_box, no99_i, no99_str, no99_Pt, no99_Aw, no99_Blk, no99_Sec, no99_Rw, no99_Sky, -List.map_map]⟩
  · cases h1
theorem set_Blk {lst : List Blk} {idx : Nat} {vx0 : Int} {vy0 : Int} {vx1 : Int} {vy1 : Int} {vlo : Int} {vhi : Int} : (lst.map Blk.row).set idx (setSeg ((lst.map Blk.row).getD idx []) 0 [.int .i64 vx0, .int .i64 vy0, .int .i64 vx1, .int .i64 vy1, .int .i64 vlo, .int .i64 vhi]) = (lst.set idx (Blk.mk vx0 vy0 vx1 vy1 vlo vhi)).map Blk.row :=
  set_rows (α := Blk) (f := Blk.row) (fun s => (Blk.mk vx0 vy0 vx1 vy1 vlo vhi)) fun x => by simp [Blk.row, setSeg]
def to_Blk (a : List Blk) (i : Nat) : List Blk := a.take i ++ List.replicate (a.length - i) ⟨0, 0, 0, 0, 0, 0⟩
theorem to_Blk_st {a : List Blk} {i : Nat} (h : i < a.length) : (to_Blk a i).set i (a.getD i default) = to_Blk a (i + 1) := by
  refine List.ext_getElem (by simp [to_Blk]; omega) fun j h1 h2 => ?_
  by_cases e : j = i
  · subst e
    simp [to_Blk, List.getElem_append, h]
    intro h9; omega
  · simp only [List.getElem_set_ne (Ne.symm e)]
    simp only [to_Blk, List.getElem_append, List.length_take, List.getElem_take, List.getElem_replicate]
    split <;> split <;> first | rfl | omega
theorem c_toBlkS (t : Nat) (a : List Blk) (ha : a.length ≤ 1048576) : Contract P 158 [.sl t 6 (a.map Blk.row)] [] (.sl 0 6 (a.map Blk.row)) [] := by
  refine fn_sound ((Env.nil P).add 169 t_toBlk h_toBlk) hm k_laws_toSkyBlockS (Nat.le_of_ble_eq_true rfl) rfl ?_; unfold s_laws_toSkyBlockS; simp (config := { maxSteps := 2000000 }) only [bitvec_to_nat, reduceIte, Nat.reduceEqDiff, Nat.reduceAdd, Nat.reduceLeDiff, reduceCtorEq, Nat.reduceBEq, Nat.reduceLT, Nat.reduceMod, List.forall_mem_cons, t_toBlk, tk_map, dp_map, toNat_pred, appE, rowsOf, List.take_length, List.length_cons, List.length_nil, Nat.zero_add, srow, irow, un_s, un_i, Pt.row, Pt_eta, Aw.row, Aw_eta, Blk.row, Blk_eta, Sec.row, Sec_eta, Rw.row, Rw_eta, Sky.row, Sky_eta, un_Pt, un_Aw, un_Blk, un_Sec, un_Rw, un_Sky, set_Blk, Nat.sub_zero]
  have m0 : List.replicate a.length [.int .i64 0, .int .i64 0, .int .i64 0, .int .i64 0, .int .i64 0, .int .i64 0] = (to_Blk a 0).map Blk.row := by simp [to_Blk, Blk.row]
  refine ⟨by omega, ?_⟩
  refine loop_st (fun i : Nat => [(4, .int .i64 i)]) (fun i => [(107, .arr 113 0 6 ((to_Blk a i).map Blk.row))]) (fun i => i ≤ a.length) (fun i => a.length - i) 0 (by simp only [u_E0, u_E1, u_M0, u_M1, w_setE0, w_setE1, w_setM0, w_setM1, reduceIte, Nat.reduceEqDiff]; exact ⟨by repeat' (first | exact trivial | refine ⟨.inr rfl, ?_⟩), ⟨congrArg (fun g => some (AObj.arr 113 0 6 g)) m0, trivial⟩, rfl, rfl⟩) (Nat.zero_le _) ?_
  intro i hi NX hN
  skip
  unfold l_laws_toSkyBlockS_0; simp (config := { maxSteps := 2000000 }) only [bitvec_to_nat, reduceIte, Nat.reduceEqDiff, Nat.reduceAdd, Nat.reduceLeDiff, reduceCtorEq, Nat.reduceBEq, Nat.reduceLT, Nat.reduceMod, List.forall_mem_cons, t_toBlk, tk_map, dp_map, toNat_pred, appE, rowsOf, List.take_length, List.length_cons, List.length_nil, Nat.zero_add, srow, irow, un_s, un_i, Pt.row, Pt_eta, Aw.row, Aw_eta, Blk.row, Blk_eta, Sec.row, Sec_eta, Rw.row, Rw_eta, Sky.row, Sky_eta, un_Pt, un_Aw, un_Blk, un_Sec, un_Rw, un_Sky, set_Blk, Nat.sub_zero]
  refine ⟨fun h => ?_, fun h => ?_⟩
  · repeat' (first | with_reducible apply And.intro | with_reducible intro _)
    all_goals first
      | omega
      | rfl
      | exact hs2 (by omega)
      | (have e := to_Blk_st (a := a) (i := i) (by omega)
         try simp only [Blk.row] at *
         refine hN (i + 1) _ ⟨by repeat' (first | exact trivial | refine ⟨.inr rfl, ?_⟩), ⟨congrArg (fun g => some (AObj.arr 113 0 6 (List.map Blk.row g))) e, trivial⟩, rfl, rfl⟩ ?_ ?_ <;> omega)
  · have e : i = a.length := by omega
    subst e
    simp only [to_Blk, List.take_length, Nat.sub_self, List.replicate_zero, List.append_nil]
    try rw [List.take_of_length_le (by simp)]
def t_toBlkS : List AV → Option (Prop × AV)
  | [.sl st 6 sx] => some ((((sx.map unBlk).map Blk.row = sx)) ∧ ((sx.map unBlk).length ≤ 1048576), .sl 0 6 ((sx.map unBlk).map Blk.row))
  | _ => none
theorem h_toBlkS : ∀ args p v, t_toBlkS args = some (p, v) → p → Contract P 158 args [] v [] ∧ noref v = true ∧ No99 v := by
  intro args p v h1 h2
  unfold t_toBlkS at h1
  split at h1
  · rename_i st sx
    cases h1
    obtain ⟨e0, HP⟩ := h2
    have := c_toBlkS st (sx.map unBlk) HP
    exact ⟨by simpa only [e0] using this, rfl, by simp [No99, No99L, no99_box, no99_i, no99_str, no99_Pt, no99_Aw, no99_Blk, no99_Sec, no99_Rw, no99_Sky, -List.map_map]⟩
  · cases h1
theorem c_eqBlk (c d : Blk)  : Contract P 170 [.agg (c.row), .agg (d.row)] [] (.bool (decide (c = d))) [] := by
  obtain ⟨c_x0, c_y0, c_x1, c_y1, c_lo, c_hi⟩ := c
  obtain ⟨d_x0, d_y0, d_x1, d_y1, d_lo, d_hi⟩ := d
  simp only [Blk.row]
  refine fn_sound (Env.nil P) hm k_laws_eqSkyBlock (Nat.le_of_ble_eq_true rfl) rfl ?_; unfold s_laws_eqSkyBlock; simp (config := { maxSteps := 2000000 }) only [bitvec_to_nat, reduceIte, Nat.reduceEqDiff, Nat.reduceAdd, Nat.reduceLeDiff, reduceCtorEq, Nat.reduceBEq, Nat.reduceLT, Nat.reduceMod, List.forall_mem_cons, tk_map, dp_map, toNat_pred, appE, rowsOf, List.take_length, List.length_cons, List.length_nil, Nat.zero_add, srow, irow, un_s, un_i, Pt.row, Pt_eta, Aw.row, Aw_eta, Blk.row, Blk_eta, Sec.row, Sec_eta, Rw.row, Rw_eta, Sky.row, Sky_eta, un_Pt, un_Aw, un_Blk, un_Sec, un_Rw, un_Sky]
  simp only [Blk.mk.injEq]
  repeat' (first | with_reducible apply And.intro | with_reducible intro _)
  all_goals first | omega | (simp_all; done) | grind
def t_eqBlk : List AV → Option (Prop × AV)
  | [.agg [.int .i64 c_x0, .int .i64 c_y0, .int .i64 c_x1, .int .i64 c_y1, .int .i64 c_lo, .int .i64 c_hi], .agg [.int .i64 d_x0, .int .i64 d_y0, .int .i64 d_x1, .int .i64 d_y1, .int .i64 d_lo, .int .i64 d_hi]] => some ((True) ∧ (True), .bool (decide ((Blk.mk c_x0 c_y0 c_x1 c_y1 c_lo c_hi) = (Blk.mk d_x0 d_y0 d_x1 d_y1 d_lo d_hi))))
  | _ => none
theorem h_eqBlk : ∀ args p v, t_eqBlk args = some (p, v) → p → Contract P 170 args [] v [] ∧ noref v = true ∧ No99 v := by
  intro args p v h1 h2
  unfold t_eqBlk at h1
  split at h1
  · rename_i c_x0 c_y0 c_x1 c_y1 c_lo c_hi d_x0 d_y0 d_x1 d_y1 d_lo d_hi
    cases h1
    obtain ⟨_, HP⟩ := h2
    have := c_eqBlk (Blk.mk c_x0 c_y0 c_x1 c_y1 c_lo c_hi) (Blk.mk d_x0 d_y0 d_x1 d_y1 d_lo d_hi)
    exact ⟨by simpa only [Blk.row, Blk.row] using this, rfl, trivial⟩
  · cases h1
theorem c_eqBlkS (t t' : Nat) (p q : List Blk) (hp : p.length ≤ 4611686018427387904) : Contract P 159 [.sl t 6 (p.map Blk.row), .sl t' 6 (q.map Blk.row)] [] (.bool (decide (p = q))) [] := by
  refine fn_sound ((Env.nil P).add 170 t_eqBlk h_eqBlk) hm k_laws_eqSkyBlockS (Nat.le_of_ble_eq_true rfl) rfl ?_; unfold s_laws_eqSkyBlockS; simp (config := { maxSteps := 2000000 }) only [bitvec_to_nat, reduceIte, Nat.reduceEqDiff, Nat.reduceAdd, Nat.reduceLeDiff, reduceCtorEq, Nat.reduceBEq, Nat.reduceLT, Nat.reduceMod, List.forall_mem_cons, t_eqBlk, tk_map, dp_map, toNat_pred, appE, rowsOf, List.take_length, List.length_cons, List.length_nil, Nat.zero_add, srow, irow, un_s, un_i, Pt.row, Pt_eta, Aw.row, Aw_eta, Blk.row, Blk_eta, Sec.row, Sec_eta, Rw.row, Rw_eta, Sky.row, Sky_eta, un_Pt, un_Aw, un_Blk, un_Sec, un_Rw, un_Sky]
  refine ⟨fun h1 h => h1 (by rw [h]), fun h1 => ?_⟩
  refine loop_st (fun i : Nat => [(5, .int .i64 i)]) (fun _ => []) (fun i => i ≤ p.length ∧ ∀ j, j < i → p.getD j default = q.getD j default) (fun i => p.length - i) (0) (by simp only [u_E0, u_E1, u_M0, u_M1, w_setE0, w_setE1, w_setM0, w_setM1, reduceIte, Nat.reduceEqDiff]; exact ⟨by repeat' (first | exact trivial | refine ⟨.inr rfl, ?_⟩), by repeat' (first | exact trivial | refine ⟨rfl, ?_⟩), by first | rfl | simp [closedB, refsIn, refsInL, refsInO, dom, refsInL_nr, *], by first | rfl | simp [keepB, dom]⟩) ?_ ?_
  · exact ⟨Nat.zero_le _, by intro j hj; omega⟩
  intro i hi NX hN
  unfold l_laws_eqSkyBlockS_0; simp (config := { maxSteps := 2000000 }) only [bitvec_to_nat, reduceIte, Nat.reduceEqDiff, Nat.reduceAdd, Nat.reduceLeDiff, reduceCtorEq, Nat.reduceBEq, Nat.reduceLT, Nat.reduceMod, List.forall_mem_cons, t_eqBlk, tk_map, dp_map, toNat_pred, appE, rowsOf, List.take_length, List.length_cons, List.length_nil, Nat.zero_add, srow, irow, un_s, un_i, Pt.row, Pt_eta, Aw.row, Aw_eta, Blk.row, Blk_eta, Sec.row, Sec_eta, Rw.row, Rw_eta, Sky.row, Sky_eta, un_Pt, un_Aw, un_Blk, un_Sec, un_Rw, un_Sky]
  skip
  repeat' (first | with_reducible apply And.intro | with_reducible intro _)
  all_goals first
    | omega
    | (refine hN (i + 1) _ (by simp only [u_E0, u_E1, u_M0, u_M1, w_setE0, w_setE1, w_setM0, w_setM1, reduceIte, Nat.reduceEqDiff]; exact ⟨by repeat' (first | exact trivial | refine ⟨.inr rfl, ?_⟩), by repeat' (first | exact trivial | refine ⟨rfl, ?_⟩), by first | rfl | simp [closedB, refsIn, refsInL, refsInO, dom, refsInL_nr, *], by first | rfl | simp [keepB, dom]⟩) ?_ ?_
       · exact ⟨by omega, all_snoc hi.2 (by with_reducible assumption)⟩
       · omega)
    | (intro h; subst h; exact absurd rfl (by with_reducible assumption))
    | (exact ext_of (by omega) fun j hj => hi.2 j (by omega))
    | grind
def t_eqBlkS : List AV → Option (Prop × AV)
  | [.sl ct 6 cx, .sl dt 6 dx] => some ((((cx.map unBlk).map Blk.row = cx) ∧ ((dx.map unBlk).map Blk.row = dx)) ∧ ((cx.map unBlk).length ≤ 4611686018427387904), .bool (decide ((cx.map unBlk) = (dx.map unBlk))))
  | _ => none
theorem h_eqBlkS : ∀ args p v, t_eqBlkS args = some (p, v) → p → Contract P 159 args [] v [] ∧ noref v = true ∧ No99 v := by
  intro args p v h1 h2
  unfold t_eqBlkS at h1
  split at h1
  · rename_i ct cx dt dx
    cases h1
    obtain ⟨⟨e0, e1⟩, HP⟩ := h2
    have := c_eqBlkS ct dt (cx.map unBlk) (dx.map unBlk) HP
    exact ⟨by simpa only [e0, e1] using this, rfl, trivial⟩
  · cases h1
theorem c_toRw (s : Rw) : Contract P 132 [.agg (s.row)] [] (.agg (s.row)) [] := by
  simp only [Rw.row]
  refine fn_sound (Env.nil P) hm k_laws_toSkyRunway (Nat.le_of_ble_eq_true rfl) rfl ?_; unfold s_laws_toSkyRunway; simp (config := { maxSteps := 2000000 }) only [bitvec_to_nat, reduceIte, Nat.reduceEqDiff, Nat.reduceAdd, Nat.reduceLeDiff, reduceCtorEq, Nat.reduceBEq, Nat.reduceLT, Nat.reduceMod, List.forall_mem_cons, tk_map, dp_map, toNat_pred, appE, rowsOf, List.take_length, List.length_cons, List.length_nil, Nat.zero_add, srow, irow, un_s, un_i, Pt.row, Pt_eta, Aw.row, Aw_eta, Blk.row, Blk_eta, Sec.row, Sec_eta, Rw.row, Rw_eta, Sky.row, Sky_eta, un_Pt, un_Aw, un_Blk, un_Sec, un_Rw, un_Sky]
  all_goals trivial
def t_toRw : List AV → Option (Prop × AV)
  | [.agg [.str s_nm, .int .i64 s_x, .int .i64 s_y, .int .i64 s_tn]] => some ((True) ∧ (True), .agg (Rw.row (Rw.mk s_nm s_x s_y s_tn)))
  | _ => none
theorem h_toRw : ∀ args p v, t_toRw args = some (p, v) → p → Contract P 132 args [] v [] ∧ noref v = true ∧ No99 v := by
  intro args p v h1 h2
  unfold t_toRw at h1
  split at h1
  · rename_i s_nm s_x s_y s_tn
    cases h1
    obtain ⟨_, HP⟩ := h2
    have := c_toRw (Rw.mk s_nm s_x s_y s_tn)
    exact ⟨by simpa only [Rw.row] using this, rfl, by simp [Rw.row, No99, No99L, no99_box, no99_i, no99_str, no99_Pt, no99_Aw, no99_Blk, no99_Sec, no99_Rw, no99_Sky, -List.map_map]⟩
  · cases h1
theorem set_Rw {lst : List Rw} {idx : Nat} {vnm : ByteArray} {vx : Int} {vy : Int} {vtn : Int} : (lst.map Rw.row).set idx (setSeg ((lst.map Rw.row).getD idx []) 0 [.str vnm, .int .i64 vx, .int .i64 vy, .int .i64 vtn]) = (lst.set idx (Rw.mk vnm vx vy vtn)).map Rw.row :=
  set_rows (α := Rw) (f := Rw.row) (fun s => (Rw.mk vnm vx vy vtn)) fun x => by simp [Rw.row, setSeg]
def to_Rw (a : List Rw) (i : Nat) : List Rw := a.take i ++ List.replicate (a.length - i) ⟨⟨#[]⟩, 0, 0, 0⟩
theorem to_Rw_st {a : List Rw} {i : Nat} (h : i < a.length) : (to_Rw a i).set i (a.getD i default) = to_Rw a (i + 1) := by
  refine List.ext_getElem (by simp [to_Rw]; omega) fun j h1 h2 => ?_
  by_cases e : j = i
  · subst e
    simp [to_Rw, List.getElem_append, h]
    intro h9; omega
  · simp only [List.getElem_set_ne (Ne.symm e)]
    simp only [to_Rw, List.getElem_append, List.length_take, List.getElem_take, List.getElem_replicate]
    split <;> split <;> first | rfl | omega
theorem c_toRwS (t : Nat) (a : List Rw) (ha : a.length ≤ 1048576) : Contract P 73 [.sl t 4 (a.map Rw.row)] [] (.sl 0 4 (a.map Rw.row)) [] := by
  refine fn_sound ((Env.nil P).add 132 t_toRw h_toRw) hm k_laws_toSkyRunwayS (Nat.le_of_ble_eq_true rfl) rfl ?_; unfold s_laws_toSkyRunwayS; simp (config := { maxSteps := 2000000 }) only [bitvec_to_nat, reduceIte, Nat.reduceEqDiff, Nat.reduceAdd, Nat.reduceLeDiff, reduceCtorEq, Nat.reduceBEq, Nat.reduceLT, Nat.reduceMod, List.forall_mem_cons, t_toRw, tk_map, dp_map, toNat_pred, appE, rowsOf, List.take_length, List.length_cons, List.length_nil, Nat.zero_add, srow, irow, un_s, un_i, Pt.row, Pt_eta, Aw.row, Aw_eta, Blk.row, Blk_eta, Sec.row, Sec_eta, Rw.row, Rw_eta, Sky.row, Sky_eta, un_Pt, un_Aw, un_Blk, un_Sec, un_Rw, un_Sky, set_Rw, Nat.sub_zero]
  have m0 : List.replicate a.length [.str ⟨#[]⟩, .int .i64 0, .int .i64 0, .int .i64 0] = (to_Rw a 0).map Rw.row := by simp [to_Rw, Rw.row]
  refine ⟨by omega, ?_⟩
  refine loop_st (fun i : Nat => [(4, .int .i64 i)]) (fun i => [(107, .arr 118 0 4 ((to_Rw a i).map Rw.row))]) (fun i => i ≤ a.length) (fun i => a.length - i) 0 (by simp only [u_E0, u_E1, u_M0, u_M1, w_setE0, w_setE1, w_setM0, w_setM1, reduceIte, Nat.reduceEqDiff]; exact ⟨by repeat' (first | exact trivial | refine ⟨.inr rfl, ?_⟩), ⟨congrArg (fun g => some (AObj.arr 118 0 4 g)) m0, trivial⟩, rfl, rfl⟩) (Nat.zero_le _) ?_
  intro i hi NX hN
  skip
  unfold l_laws_toSkyRunwayS_0; simp (config := { maxSteps := 2000000 }) only [bitvec_to_nat, reduceIte, Nat.reduceEqDiff, Nat.reduceAdd, Nat.reduceLeDiff, reduceCtorEq, Nat.reduceBEq, Nat.reduceLT, Nat.reduceMod, List.forall_mem_cons, t_toRw, tk_map, dp_map, toNat_pred, appE, rowsOf, List.take_length, List.length_cons, List.length_nil, Nat.zero_add, srow, irow, un_s, un_i, Pt.row, Pt_eta, Aw.row, Aw_eta, Blk.row, Blk_eta, Sec.row, Sec_eta, Rw.row, Rw_eta, Sky.row, Sky_eta, un_Pt, un_Aw, un_Blk, un_Sec, un_Rw, un_Sky, set_Rw, Nat.sub_zero]
  refine ⟨fun h => ?_, fun h => ?_⟩
  · repeat' (first | with_reducible apply And.intro | with_reducible intro _)
    all_goals first
      | omega
      | rfl
      | exact hs2 (by omega)
      | (have e := to_Rw_st (a := a) (i := i) (by omega)
         try simp only [Rw.row] at *
         refine hN (i + 1) _ ⟨by repeat' (first | exact trivial | refine ⟨.inr rfl, ?_⟩), ⟨congrArg (fun g => some (AObj.arr 118 0 4 (List.map Rw.row g))) e, trivial⟩, rfl, rfl⟩ ?_ ?_ <;> omega)
  · have e : i = a.length := by omega
    subst e
    simp only [to_Rw, List.take_length, Nat.sub_self, List.replicate_zero, List.append_nil]
    try rw [List.take_of_length_le (by simp)]
def t_toRwS : List AV → Option (Prop × AV)
  | [.sl st 4 sx] => some ((((sx.map unRw).map Rw.row = sx)) ∧ ((sx.map unRw).length ≤ 1048576), .sl 0 4 ((sx.map unRw).map Rw.row))
  | _ => none
theorem h_toRwS : ∀ args p v, t_toRwS args = some (p, v) → p → Contract P 73 args [] v [] ∧ noref v = true ∧ No99 v := by
  intro args p v h1 h2
  unfold t_toRwS at h1
  split at h1
  · rename_i st sx
    cases h1
    obtain ⟨e0, HP⟩ := h2
    have := c_toRwS st (sx.map unRw) HP
    exact ⟨by simpa only [e0] using this, rfl, by simp [No99, No99L, no99_box, no99_i, no99_str, no99_Pt, no99_Aw, no99_Blk, no99_Sec, no99_Rw, no99_Sky, -List.map_map]⟩
  · cases h1
theorem c_eqRw (c d : Rw)  : Contract P 136 [.agg (c.row), .agg (d.row)] [] (.bool (decide (c = d))) [] := by
  obtain ⟨c_nm, c_x, c_y, c_tn⟩ := c
  obtain ⟨d_nm, d_x, d_y, d_tn⟩ := d
  simp only [Rw.row]
  refine fn_sound (Env.nil P) hm k_laws_eqSkyRunway (Nat.le_of_ble_eq_true rfl) rfl ?_; unfold s_laws_eqSkyRunway; simp (config := { maxSteps := 2000000 }) only [bitvec_to_nat, reduceIte, Nat.reduceEqDiff, Nat.reduceAdd, Nat.reduceLeDiff, reduceCtorEq, Nat.reduceBEq, Nat.reduceLT, Nat.reduceMod, List.forall_mem_cons, tk_map, dp_map, toNat_pred, appE, rowsOf, List.take_length, List.length_cons, List.length_nil, Nat.zero_add, srow, irow, un_s, un_i, Pt.row, Pt_eta, Aw.row, Aw_eta, Blk.row, Blk_eta, Sec.row, Sec_eta, Rw.row, Rw_eta, Sky.row, Sky_eta, un_Pt, un_Aw, un_Blk, un_Sec, un_Rw, un_Sky]
  simp only [Rw.mk.injEq]
  repeat' (first | with_reducible apply And.intro | with_reducible intro _)
  all_goals first | omega | (simp_all; done) | grind
def t_eqRw : List AV → Option (Prop × AV)
  | [.agg [.str c_nm, .int .i64 c_x, .int .i64 c_y, .int .i64 c_tn], .agg [.str d_nm, .int .i64 d_x, .int .i64 d_y, .int .i64 d_tn]] => some ((True) ∧ (True), .bool (decide ((Rw.mk c_nm c_x c_y c_tn) = (Rw.mk d_nm d_x d_y d_tn))))
  | _ => none
theorem h_eqRw : ∀ args p v, t_eqRw args = some (p, v) → p → Contract P 136 args [] v [] ∧ noref v = true ∧ No99 v := by
  intro args p v h1 h2
  unfold t_eqRw at h1
  split at h1
  · rename_i c_nm c_x c_y c_tn d_nm d_x d_y d_tn
    cases h1
    obtain ⟨_, HP⟩ := h2
    have := c_eqRw (Rw.mk c_nm c_x c_y c_tn) (Rw.mk d_nm d_x d_y d_tn)
    exact ⟨by simpa only [Rw.row, Rw.row] using this, rfl, trivial⟩
  · cases h1
theorem c_eqRwS (t t' : Nat) (p q : List Rw) (hp : p.length ≤ 4611686018427387904) : Contract P 85 [.sl t 4 (p.map Rw.row), .sl t' 4 (q.map Rw.row)] [] (.bool (decide (p = q))) [] := by
  refine fn_sound ((Env.nil P).add 136 t_eqRw h_eqRw) hm k_laws_eqSkyRunwayS (Nat.le_of_ble_eq_true rfl) rfl ?_; unfold s_laws_eqSkyRunwayS; simp (config := { maxSteps := 2000000 }) only [bitvec_to_nat, reduceIte, Nat.reduceEqDiff, Nat.reduceAdd, Nat.reduceLeDiff, reduceCtorEq, Nat.reduceBEq, Nat.reduceLT, Nat.reduceMod, List.forall_mem_cons, t_eqRw, tk_map, dp_map, toNat_pred, appE, rowsOf, List.take_length, List.length_cons, List.length_nil, Nat.zero_add, srow, irow, un_s, un_i, Pt.row, Pt_eta, Aw.row, Aw_eta, Blk.row, Blk_eta, Sec.row, Sec_eta, Rw.row, Rw_eta, Sky.row, Sky_eta, un_Pt, un_Aw, un_Blk, un_Sec, un_Rw, un_Sky]
  refine ⟨fun h1 h => h1 (by rw [h]), fun h1 => ?_⟩
  refine loop_st (fun i : Nat => [(5, .int .i64 i)]) (fun _ => []) (fun i => i ≤ p.length ∧ ∀ j, j < i → p.getD j default = q.getD j default) (fun i => p.length - i) (0) (by simp only [u_E0, u_E1, u_M0, u_M1, w_setE0, w_setE1, w_setM0, w_setM1, reduceIte, Nat.reduceEqDiff]; exact ⟨by repeat' (first | exact trivial | refine ⟨.inr rfl, ?_⟩), by repeat' (first | exact trivial | refine ⟨rfl, ?_⟩), by first | rfl | simp [closedB, refsIn, refsInL, refsInO, dom, refsInL_nr, *], by first | rfl | simp [keepB, dom]⟩) ?_ ?_
  · exact ⟨Nat.zero_le _, by intro j hj; omega⟩
  intro i hi NX hN
  unfold l_laws_eqSkyRunwayS_0; simp (config := { maxSteps := 2000000 }) only [bitvec_to_nat, reduceIte, Nat.reduceEqDiff, Nat.reduceAdd, Nat.reduceLeDiff, reduceCtorEq, Nat.reduceBEq, Nat.reduceLT, Nat.reduceMod, List.forall_mem_cons, t_eqRw, tk_map, dp_map, toNat_pred, appE, rowsOf, List.take_length, List.length_cons, List.length_nil, Nat.zero_add, srow, irow, un_s, un_i, Pt.row, Pt_eta, Aw.row, Aw_eta, Blk.row, Blk_eta, Sec.row, Sec_eta, Rw.row, Rw_eta, Sky.row, Sky_eta, un_Pt, un_Aw, un_Blk, un_Sec, un_Rw, un_Sky]
  skip
  repeat' (first | with_reducible apply And.intro | with_reducible intro _)
  all_goals first
    | omega
    | (refine hN (i + 1) _ (by simp only [u_E0, u_E1, u_M0, u_M1, w_setE0, w_setE1, w_setM0, w_setM1, reduceIte, Nat.reduceEqDiff]; exact ⟨by repeat' (first | exact trivial | refine ⟨.inr rfl, ?_⟩), by repeat' (first | exact trivial | refine ⟨rfl, ?_⟩), by first | rfl | simp [closedB, refsIn, refsInL, refsInO, dom, refsInL_nr, *], by first | rfl | simp [keepB, dom]⟩) ?_ ?_
       · exact ⟨by omega, all_snoc hi.2 (by with_reducible assumption)⟩
       · omega)
    | (intro h; subst h; exact absurd rfl (by with_reducible assumption))
    | (exact ext_of (by omega) fun j hj => hi.2 j (by omega))
    | grind
def t_eqRwS : List AV → Option (Prop × AV)
  | [.sl ct 4 cx, .sl dt 4 dx] => some ((((cx.map unRw).map Rw.row = cx) ∧ ((dx.map unRw).map Rw.row = dx)) ∧ ((cx.map unRw).length ≤ 4611686018427387904), .bool (decide ((cx.map unRw) = (dx.map unRw))))
  | _ => none
theorem h_eqRwS : ∀ args p v, t_eqRwS args = some (p, v) → p → Contract P 85 args [] v [] ∧ noref v = true ∧ No99 v := by
  intro args p v h1 h2
  unfold t_eqRwS at h1
  split at h1
  · rename_i ct cx dt dx
    cases h1
    obtain ⟨⟨e0, e1⟩, HP⟩ := h2
    have := c_eqRwS ct dt (cx.map unRw) (dx.map unRw) HP
    exact ⟨by simpa only [e0, e1] using this, rfl, trivial⟩
  · cases h1
theorem c_toAw (s : Aw) (hs : s.small) : Contract P 130 [.agg (s.row 1)] [] (.agg (s.row 0)) [] := by
  unfold Aw.small at hs
  simp only [Aw.row]
  refine fn_sound ((Env.nil P).add 41 t_toStringS h_toStringS) hm k_laws_toSkyAirway (Nat.le_of_ble_eq_true rfl) rfl ?_; unfold s_laws_toSkyAirway; simp (config := { maxSteps := 2000000 }) only [bitvec_to_nat, reduceIte, Nat.reduceEqDiff, Nat.reduceAdd, Nat.reduceLeDiff, reduceCtorEq, Nat.reduceBEq, Nat.reduceLT, Nat.reduceMod, List.forall_mem_cons, t_toStringS, tk_map, dp_map, toNat_pred, appE, rowsOf, List.take_length, List.length_cons, List.length_nil, Nat.zero_add, srow, irow, un_s, un_i, Pt.row, Pt_eta, Aw.row, Aw_eta, Blk.row, Blk_eta, Sec.row, Sec_eta, Rw.row, Rw_eta, Sky.row, Sky_eta, un_Pt, un_Aw, un_Blk, un_Sec, un_Rw, un_Sky]
  repeat' (first | with_reducible apply And.intro | with_reducible intro _)
  all_goals first | omega | grind | grind [Aw.small, Sec.small, Sky.small]
def t_toAw : List AV → Option (Prop × AV)
  | [.agg [.str s_nm, .sl 1 1 s_pts]] => some ((((s_pts.map unS).map srow = s_pts)) ∧ (Aw.small (Aw.mk s_nm (s_pts.map unS))), .agg (Aw.row 0 (Aw.mk s_nm (s_pts.map unS))))
  | _ => none
theorem h_toAw : ∀ args p v, t_toAw args = some (p, v) → p → Contract P 130 args [] v [] ∧ noref v = true ∧ No99 v := by
  intro args p v h1 h2
  unfold t_toAw at h1
  split at h1
  · rename_i s_nm s_pts
    cases h1
    obtain ⟨e0, HP⟩ := h2
    have := c_toAw (Aw.mk s_nm (s_pts.map unS)) HP
    exact ⟨by simpa only [e0, Aw.row] using this, rfl, by simp [Aw.row, No99, No99L, no99_box, no99_i, no99_str, no99_Pt, no99_Aw, no99_Blk, no99_Sec, no99_Rw, no99_Sky, -List.map_map]⟩
  · cases h1
theorem set_Aw {lst : List Aw} {idx : Nat} {vnm : ByteArray} {vpts : List ByteArray} : (lst.map (Aw.row 0)).set idx (setSeg ((lst.map (Aw.row 0)).getD idx []) 0 [.str vnm, .sl 0 1 (vpts.map srow)]) = (lst.set idx (Aw.mk vnm vpts)).map (Aw.row 0) :=
  set_rows (α := Aw) (f := (Aw.row 0)) (fun s => (Aw.mk vnm vpts)) fun x => by simp [Aw.row, setSeg]
def to_Aw (a : List Aw) (i : Nat) : List Aw := a.take i ++ List.replicate (a.length - i) ⟨⟨#[]⟩, []⟩
theorem to_Aw_st {a : List Aw} {i : Nat} (h : i < a.length) : (to_Aw a i).set i (a.getD i default) = to_Aw a (i + 1) := by
  refine List.ext_getElem (by simp [to_Aw]; omega) fun j h1 h2 => ?_
  by_cases e : j = i
  · subst e
    simp [to_Aw, List.getElem_append, h]
    intro h9; omega
  · simp only [List.getElem_set_ne (Ne.symm e)]
    simp only [to_Aw, List.getElem_append, List.length_take, List.getElem_take, List.getElem_replicate]
    split <;> split <;> first | rfl | omega
theorem c_toAwS (t : Nat) (a : List Aw) (ha : a.length ≤ 1048576) (hs : ∀ x ∈ a, x.small) : Contract P 71 [.sl t 2 (a.map (Aw.row 1))] [] (.sl 0 2 (a.map (Aw.row 0))) [] := by
  refine fn_sound ((Env.nil P).add 130 t_toAw h_toAw) hm k_laws_toSkyAirwayS (Nat.le_of_ble_eq_true rfl) rfl ?_; unfold s_laws_toSkyAirwayS; simp (config := { maxSteps := 2000000 }) only [bitvec_to_nat, reduceIte, Nat.reduceEqDiff, Nat.reduceAdd, Nat.reduceLeDiff, reduceCtorEq, Nat.reduceBEq, Nat.reduceLT, Nat.reduceMod, List.forall_mem_cons, t_toAw, tk_map, dp_map, toNat_pred, appE, rowsOf, List.take_length, List.length_cons, List.length_nil, Nat.zero_add, srow, irow, un_s, un_i, Pt.row, Pt_eta, Aw.row, Aw_eta, Blk.row, Blk_eta, Sec.row, Sec_eta, Rw.row, Rw_eta, Sky.row, Sky_eta, un_Pt, un_Aw, un_Blk, un_Sec, un_Rw, un_Sky, set_Aw, Nat.sub_zero]
  have m0 : List.replicate a.length [.str ⟨#[]⟩, .sl 0 1 []] = (to_Aw a 0).map (Aw.row 0) := by simp [to_Aw, Aw.row]
  refine ⟨by omega, ?_⟩
  refine loop_st (fun i : Nat => [(4, .int .i64 i)]) (fun i => [(107, .arr 108 0 2 ((to_Aw a i).map (Aw.row 0)))]) (fun i => i ≤ a.length) (fun i => a.length - i) 0 (by simp only [u_E0, u_E1, u_M0, u_M1, w_setE0, w_setE1, w_setM0, w_setM1, reduceIte, Nat.reduceEqDiff]; exact ⟨by repeat' (first | exact trivial | refine ⟨.inr rfl, ?_⟩), ⟨congrArg (fun g => some (AObj.arr 108 0 2 g)) m0, trivial⟩, rfl, rfl⟩) (Nat.zero_le _) ?_
  intro i hi NX hN
  have hs2 : i < a.length → (a.getD i default).small := fun h => hs _ (getD_mem' h)
  unfold l_laws_toSkyAirwayS_0; simp (config := { maxSteps := 2000000 }) only [bitvec_to_nat, reduceIte, Nat.reduceEqDiff, Nat.reduceAdd, Nat.reduceLeDiff, reduceCtorEq, Nat.reduceBEq, Nat.reduceLT, Nat.reduceMod, List.forall_mem_cons, t_toAw, tk_map, dp_map, toNat_pred, appE, rowsOf, List.take_length, List.length_cons, List.length_nil, Nat.zero_add, srow, irow, un_s, un_i, Pt.row, Pt_eta, Aw.row, Aw_eta, Blk.row, Blk_eta, Sec.row, Sec_eta, Rw.row, Rw_eta, Sky.row, Sky_eta, un_Pt, un_Aw, un_Blk, un_Sec, un_Rw, un_Sky, set_Aw, Nat.sub_zero]
  refine ⟨fun h => ?_, fun h => ?_⟩
  · repeat' (first | with_reducible apply And.intro | with_reducible intro _)
    all_goals first
      | omega
      | rfl
      | exact hs2 (by omega)
      | (have e := to_Aw_st (a := a) (i := i) (by omega)
         try simp only [Aw.row] at *
         refine hN (i + 1) _ ⟨by repeat' (first | exact trivial | refine ⟨.inr rfl, ?_⟩), ⟨congrArg (fun g => some (AObj.arr 108 0 2 (List.map (Aw.row 0) g))) e, trivial⟩, rfl, rfl⟩ ?_ ?_ <;> omega)
  · have e : i = a.length := by omega
    subst e
    simp only [to_Aw, List.take_length, Nat.sub_self, List.replicate_zero, List.append_nil]
    try rw [List.take_of_length_le (by simp)]
def t_toAwS : List AV → Option (Prop × AV)
  | [.sl st 2 sx] => some ((((sx.map unAw).map (Aw.row 1) = sx)) ∧ ((sx.map unAw).length ≤ 1048576 ∧ ∀ x ∈ (sx.map unAw), x.small), .sl 0 2 ((sx.map unAw).map (Aw.row 0)))
  | _ => none
theorem h_toAwS : ∀ args p v, t_toAwS args = some (p, v) → p → Contract P 71 args [] v [] ∧ noref v = true ∧ No99 v := by
  intro args p v h1 h2
  unfold t_toAwS at h1
  split at h1
  · rename_i st sx
    cases h1
    obtain ⟨e0, HP⟩ := h2
    have := c_toAwS st (sx.map unAw) HP.1 HP.2
    exact ⟨by simpa only [e0] using this, rfl, by simp [No99, No99L, no99_box, no99_i, no99_str, no99_Pt, no99_Aw, no99_Blk, no99_Sec, no99_Rw, no99_Sky, -List.map_map]⟩
  · cases h1
theorem c_eqAw (c d : Aw) (hl : c.pts.length ≤ 4611686018427387904) : Contract P 134 [.agg (c.row 0), .agg (d.row 0)] [] (.bool (decide (c = d))) [] := by
  obtain ⟨c_nm, c_pts⟩ := c
  obtain ⟨d_nm, d_pts⟩ := d
  simp only [Aw.row]
  refine fn_sound ((Env.nil P).add 44 t_eqStringS h_eqStringS) hm k_laws_eqSkyAirway (Nat.le_of_ble_eq_true rfl) rfl ?_; unfold s_laws_eqSkyAirway; simp (config := { maxSteps := 2000000 }) only [bitvec_to_nat, reduceIte, Nat.reduceEqDiff, Nat.reduceAdd, Nat.reduceLeDiff, reduceCtorEq, Nat.reduceBEq, Nat.reduceLT, Nat.reduceMod, List.forall_mem_cons, t_eqStringS, tk_map, dp_map, toNat_pred, appE, rowsOf, List.take_length, List.length_cons, List.length_nil, Nat.zero_add, srow, irow, un_s, un_i, Pt.row, Pt_eta, Aw.row, Aw_eta, Blk.row, Blk_eta, Sec.row, Sec_eta, Rw.row, Rw_eta, Sky.row, Sky_eta, un_Pt, un_Aw, un_Blk, un_Sec, un_Rw, un_Sky]
  simp only [Aw.mk.injEq]
  repeat' (first | with_reducible apply And.intro | with_reducible intro _)
  all_goals first | omega | (simp_all; done) | grind | grind [Aw.small, Sec.small, Sky.small]
def t_eqAw : List AV → Option (Prop × AV)
  | [.agg [.str c_nm, .sl 0 1 c_pts], .agg [.str d_nm, .sl 0 1 d_pts]] => some ((((c_pts.map unS).map srow = c_pts) ∧ ((d_pts.map unS).map srow = d_pts)) ∧ ((Aw.mk c_nm (c_pts.map unS)).pts.length ≤ 4611686018427387904), .bool (decide ((Aw.mk c_nm (c_pts.map unS)) = (Aw.mk d_nm (d_pts.map unS)))))
  | _ => none
theorem h_eqAw : ∀ args p v, t_eqAw args = some (p, v) → p → Contract P 134 args [] v [] ∧ noref v = true ∧ No99 v := by
  intro args p v h1 h2
  unfold t_eqAw at h1
  split at h1
  · rename_i c_nm c_pts d_nm d_pts
    cases h1
    obtain ⟨⟨e0, e1⟩, HP⟩ := h2
    have := c_eqAw (Aw.mk c_nm (c_pts.map unS)) (Aw.mk d_nm (d_pts.map unS)) HP
    exact ⟨by simpa only [e0, e1, Aw.row, Aw.row] using this, rfl, trivial⟩
  · cases h1
theorem c_eqAwS (t t' : Nat) (p q : List Aw) (hp : p.length ≤ 4611686018427387904) (hx : ∀ x ∈ p, x.pts.length ≤ 4611686018427387904) : Contract P 83 [.sl t 2 (p.map (Aw.row 0)), .sl t' 2 (q.map (Aw.row 0))] [] (.bool (decide (p = q))) [] := by
  refine fn_sound ((Env.nil P).add 134 t_eqAw h_eqAw) hm k_laws_eqSkyAirwayS (Nat.le_of_ble_eq_true rfl) rfl ?_; unfold s_laws_eqSkyAirwayS; simp (config := { maxSteps := 2000000 }) only [bitvec_to_nat, reduceIte, Nat.reduceEqDiff, Nat.reduceAdd, Nat.reduceLeDiff, reduceCtorEq, Nat.reduceBEq, Nat.reduceLT, Nat.reduceMod, List.forall_mem_cons, t_eqAw, tk_map, dp_map, toNat_pred, appE, rowsOf, List.take_length, List.length_cons, List.length_nil, Nat.zero_add, srow, irow, un_s, un_i, Pt.row, Pt_eta, Aw.row, Aw_eta, Blk.row, Blk_eta, Sec.row, Sec_eta, Rw.row, Rw_eta, Sky.row, Sky_eta, un_Pt, un_Aw, un_Blk, un_Sec, un_Rw, un_Sky]
  refine ⟨fun h1 h => h1 (by rw [h]), fun h1 => ?_⟩
  refine loop_st (fun i : Nat => [(5, .int .i64 i)]) (fun _ => []) (fun i => i ≤ p.length ∧ ∀ j, j < i → p.getD j default = q.getD j default) (fun i => p.length - i) (0) (by simp only [u_E0, u_E1, u_M0, u_M1, w_setE0, w_setE1, w_setM0, w_setM1, reduceIte, Nat.reduceEqDiff]; exact ⟨by repeat' (first | exact trivial | refine ⟨.inr rfl, ?_⟩), by repeat' (first | exact trivial | refine ⟨rfl, ?_⟩), by first | rfl | simp [closedB, refsIn, refsInL, refsInO, dom, refsInL_nr, *], by first | rfl | simp [keepB, dom]⟩) ?_ ?_
  · exact ⟨Nat.zero_le _, by intro j hj; omega⟩
  intro i hi NX hN
  unfold l_laws_eqSkyAirwayS_0; simp (config := { maxSteps := 2000000 }) only [bitvec_to_nat, reduceIte, Nat.reduceEqDiff, Nat.reduceAdd, Nat.reduceLeDiff, reduceCtorEq, Nat.reduceBEq, Nat.reduceLT, Nat.reduceMod, List.forall_mem_cons, t_eqAw, tk_map, dp_map, toNat_pred, appE, rowsOf, List.take_length, List.length_cons, List.length_nil, Nat.zero_add, srow, irow, un_s, un_i, Pt.row, Pt_eta, Aw.row, Aw_eta, Blk.row, Blk_eta, Sec.row, Sec_eta, Rw.row, Rw_eta, Sky.row, Sky_eta, un_Pt, un_Aw, un_Blk, un_Sec, un_Rw, un_Sky]
  have hx2 : i < p.length → _ := fun h => hx _ (getD_mem' h)
  repeat' (first | with_reducible apply And.intro | with_reducible intro _)
  all_goals first
    | omega
    | (refine hN (i + 1) _ (by simp only [u_E0, u_E1, u_M0, u_M1, w_setE0, w_setE1, w_setM0, w_setM1, reduceIte, Nat.reduceEqDiff]; exact ⟨by repeat' (first | exact trivial | refine ⟨.inr rfl, ?_⟩), by repeat' (first | exact trivial | refine ⟨rfl, ?_⟩), by first | rfl | simp [closedB, refsIn, refsInL, refsInO, dom, refsInL_nr, *], by first | rfl | simp [keepB, dom]⟩) ?_ ?_
       · exact ⟨by omega, all_snoc hi.2 (by with_reducible assumption)⟩
       · omega)
    | (intro h; subst h; exact absurd rfl (by with_reducible assumption))
    | (exact ext_of (by omega) fun j hj => hi.2 j (by omega))
    | grind
def t_eqAwS : List AV → Option (Prop × AV)
  | [.sl ct 2 cx, .sl dt 2 dx] => some ((((cx.map unAw).map (Aw.row 0) = cx) ∧ ((dx.map unAw).map (Aw.row 0) = dx)) ∧ ((cx.map unAw).length ≤ 4611686018427387904 ∧ ∀ x ∈ (cx.map unAw), x.pts.length ≤ 4611686018427387904), .bool (decide ((cx.map unAw) = (dx.map unAw))))
  | _ => none
theorem h_eqAwS : ∀ args p v, t_eqAwS args = some (p, v) → p → Contract P 83 args [] v [] ∧ noref v = true ∧ No99 v := by
  intro args p v h1 h2
  unfold t_eqAwS at h1
  split at h1
  · rename_i ct cx dt dx
    cases h1
    obtain ⟨⟨e0, e1⟩, HP⟩ := h2
    have := c_eqAwS ct dt (cx.map unAw) (dx.map unAw) HP.1 HP.2
    exact ⟨by simpa only [e0, e1] using this, rfl, trivial⟩
  · cases h1
theorem c_toSec (s : Sec) (hs : s.small) : Contract P 131 [.agg (s.row 1)] [] (.agg (s.row 0)) [] := by
  unfold Sec.small at hs
  simp only [Sec.row]
  refine fn_sound ((Env.nil P).add 158 t_toBlkS h_toBlkS) hm k_laws_toSkySector (Nat.le_of_ble_eq_true rfl) rfl ?_; unfold s_laws_toSkySector; simp (config := { maxSteps := 2000000 }) only [bitvec_to_nat, reduceIte, Nat.reduceEqDiff, Nat.reduceAdd, Nat.reduceLeDiff, reduceCtorEq, Nat.reduceBEq, Nat.reduceLT, Nat.reduceMod, List.forall_mem_cons, t_toBlkS, tk_map, dp_map, toNat_pred, appE, rowsOf, List.take_length, List.length_cons, List.length_nil, Nat.zero_add, srow, irow, un_s, un_i, Pt.row, Pt_eta, Aw.row, Aw_eta, Blk.row, Blk_eta, Sec.row, Sec_eta, Rw.row, Rw_eta, Sky.row, Sky_eta, un_Pt, un_Aw, un_Blk, un_Sec, un_Rw, un_Sky]
  repeat' (first | with_reducible apply And.intro | with_reducible intro _)
  all_goals first | omega | grind | grind [Aw.small, Sec.small, Sky.small]
def t_toSec : List AV → Option (Prop × AV)
  | [.agg [.str s_nm, .sl 1 6 s_bl]] => some ((((s_bl.map unBlk).map Blk.row = s_bl)) ∧ (Sec.small (Sec.mk s_nm (s_bl.map unBlk))), .agg (Sec.row 0 (Sec.mk s_nm (s_bl.map unBlk))))
  | _ => none
theorem h_toSec : ∀ args p v, t_toSec args = some (p, v) → p → Contract P 131 args [] v [] ∧ noref v = true ∧ No99 v := by
  intro args p v h1 h2
  unfold t_toSec at h1
  split at h1
  · rename_i s_nm s_bl
    cases h1
    obtain ⟨e0, HP⟩ := h2
    have := c_toSec (Sec.mk s_nm (s_bl.map unBlk)) HP
    exact ⟨by simpa only [e0, Sec.row] using this, rfl, by simp [Sec.row, No99, No99L, no99_box, no99_i, no99_str, no99_Pt, no99_Aw, no99_Blk, no99_Sec, no99_Rw, no99_Sky, -List.map_map]⟩
  · cases h1
theorem set_Sec {lst : List Sec} {idx : Nat} {vnm : ByteArray} {vbl : List Blk} : (lst.map (Sec.row 0)).set idx (setSeg ((lst.map (Sec.row 0)).getD idx []) 0 [.str vnm, .sl 0 6 (vbl.map Blk.row)]) = (lst.set idx (Sec.mk vnm vbl)).map (Sec.row 0) :=
  set_rows (α := Sec) (f := (Sec.row 0)) (fun s => (Sec.mk vnm vbl)) fun x => by simp [Sec.row, setSeg]
def to_Sec (a : List Sec) (i : Nat) : List Sec := a.take i ++ List.replicate (a.length - i) ⟨⟨#[]⟩, []⟩
theorem to_Sec_st {a : List Sec} {i : Nat} (h : i < a.length) : (to_Sec a i).set i (a.getD i default) = to_Sec a (i + 1) := by
  refine List.ext_getElem (by simp [to_Sec]; omega) fun j h1 h2 => ?_
  by_cases e : j = i
  · subst e
    simp [to_Sec, List.getElem_append, h]
    intro h9; omega
  · simp only [List.getElem_set_ne (Ne.symm e)]
    simp only [to_Sec, List.getElem_append, List.length_take, List.getElem_take, List.getElem_replicate]
    split <;> split <;> first | rfl | omega
theorem c_toSecS (t : Nat) (a : List Sec) (ha : a.length ≤ 1048576) (hs : ∀ x ∈ a, x.small) : Contract P 72 [.sl t 2 (a.map (Sec.row 1))] [] (.sl 0 2 (a.map (Sec.row 0))) [] := by
  refine fn_sound ((Env.nil P).add 131 t_toSec h_toSec) hm k_laws_toSkySectorS (Nat.le_of_ble_eq_true rfl) rfl ?_; unfold s_laws_toSkySectorS; simp (config := { maxSteps := 2000000 }) only [bitvec_to_nat, reduceIte, Nat.reduceEqDiff, Nat.reduceAdd, Nat.reduceLeDiff, reduceCtorEq, Nat.reduceBEq, Nat.reduceLT, Nat.reduceMod, List.forall_mem_cons, t_toSec, tk_map, dp_map, toNat_pred, appE, rowsOf, List.take_length, List.length_cons, List.length_nil, Nat.zero_add, srow, irow, un_s, un_i, Pt.row, Pt_eta, Aw.row, Aw_eta, Blk.row, Blk_eta, Sec.row, Sec_eta, Rw.row, Rw_eta, Sky.row, Sky_eta, un_Pt, un_Aw, un_Blk, un_Sec, un_Rw, un_Sky, set_Sec, Nat.sub_zero]
  have m0 : List.replicate a.length [.str ⟨#[]⟩, .sl 0 6 []] = (to_Sec a 0).map (Sec.row 0) := by simp [to_Sec, Sec.row]
  refine ⟨by omega, ?_⟩
  refine loop_st (fun i : Nat => [(4, .int .i64 i)]) (fun i => [(107, .arr 111 0 2 ((to_Sec a i).map (Sec.row 0)))]) (fun i => i ≤ a.length) (fun i => a.length - i) 0 (by simp only [u_E0, u_E1, u_M0, u_M1, w_setE0, w_setE1, w_setM0, w_setM1, reduceIte, Nat.reduceEqDiff]; exact ⟨by repeat' (first | exact trivial | refine ⟨.inr rfl, ?_⟩), ⟨congrArg (fun g => some (AObj.arr 111 0 2 g)) m0, trivial⟩, rfl, rfl⟩) (Nat.zero_le _) ?_
  intro i hi NX hN
  have hs2 : i < a.length → (a.getD i default).small := fun h => hs _ (getD_mem' h)
  unfold l_laws_toSkySectorS_0; simp (config := { maxSteps := 2000000 }) only [bitvec_to_nat, reduceIte, Nat.reduceEqDiff, Nat.reduceAdd, Nat.reduceLeDiff, reduceCtorEq, Nat.reduceBEq, Nat.reduceLT, Nat.reduceMod, List.forall_mem_cons, t_toSec, tk_map, dp_map, toNat_pred, appE, rowsOf, List.take_length, List.length_cons, List.length_nil, Nat.zero_add, srow, irow, un_s, un_i, Pt.row, Pt_eta, Aw.row, Aw_eta, Blk.row, Blk_eta, Sec.row, Sec_eta, Rw.row, Rw_eta, Sky.row, Sky_eta, un_Pt, un_Aw, un_Blk, un_Sec, un_Rw, un_Sky, set_Sec, Nat.sub_zero]
  refine ⟨fun h => ?_, fun h => ?_⟩
  · repeat' (first | with_reducible apply And.intro | with_reducible intro _)
    all_goals first
      | omega
      | rfl
      | exact hs2 (by omega)
      | (have e := to_Sec_st (a := a) (i := i) (by omega)
         try simp only [Sec.row] at *
         refine hN (i + 1) _ ⟨by repeat' (first | exact trivial | refine ⟨.inr rfl, ?_⟩), ⟨congrArg (fun g => some (AObj.arr 111 0 2 (List.map (Sec.row 0) g))) e, trivial⟩, rfl, rfl⟩ ?_ ?_ <;> omega)
  · have e : i = a.length := by omega
    subst e
    simp only [to_Sec, List.take_length, Nat.sub_self, List.replicate_zero, List.append_nil]
    try rw [List.take_of_length_le (by simp)]
def t_toSecS : List AV → Option (Prop × AV)
  | [.sl st 2 sx] => some ((((sx.map unSec).map (Sec.row 1) = sx)) ∧ ((sx.map unSec).length ≤ 1048576 ∧ ∀ x ∈ (sx.map unSec), x.small), .sl 0 2 ((sx.map unSec).map (Sec.row 0)))
  | _ => none
theorem h_toSecS : ∀ args p v, t_toSecS args = some (p, v) → p → Contract P 72 args [] v [] ∧ noref v = true ∧ No99 v := by
  intro args p v h1 h2
  unfold t_toSecS at h1
  split at h1
  · rename_i st sx
    cases h1
    obtain ⟨e0, HP⟩ := h2
    have := c_toSecS st (sx.map unSec) HP.1 HP.2
    exact ⟨by simpa only [e0] using this, rfl, by simp [No99, No99L, no99_box, no99_i, no99_str, no99_Pt, no99_Aw, no99_Blk, no99_Sec, no99_Rw, no99_Sky, -List.map_map]⟩
  · cases h1
theorem c_eqSec (c d : Sec) (hl : c.bl.length ≤ 4611686018427387904) : Contract P 135 [.agg (c.row 0), .agg (d.row 0)] [] (.bool (decide (c = d))) [] := by
  obtain ⟨c_nm, c_bl⟩ := c
  obtain ⟨d_nm, d_bl⟩ := d
  simp only [Sec.row]
  refine fn_sound ((Env.nil P).add 159 t_eqBlkS h_eqBlkS) hm k_laws_eqSkySector (Nat.le_of_ble_eq_true rfl) rfl ?_; unfold s_laws_eqSkySector; simp (config := { maxSteps := 2000000 }) only [bitvec_to_nat, reduceIte, Nat.reduceEqDiff, Nat.reduceAdd, Nat.reduceLeDiff, reduceCtorEq, Nat.reduceBEq, Nat.reduceLT, Nat.reduceMod, List.forall_mem_cons, t_eqBlkS, tk_map, dp_map, toNat_pred, appE, rowsOf, List.take_length, List.length_cons, List.length_nil, Nat.zero_add, srow, irow, un_s, un_i, Pt.row, Pt_eta, Aw.row, Aw_eta, Blk.row, Blk_eta, Sec.row, Sec_eta, Rw.row, Rw_eta, Sky.row, Sky_eta, un_Pt, un_Aw, un_Blk, un_Sec, un_Rw, un_Sky]
  simp only [Sec.mk.injEq]
  repeat' (first | with_reducible apply And.intro | with_reducible intro _)
  all_goals first | omega | (simp_all; done) | grind | grind [Aw.small, Sec.small, Sky.small]
def t_eqSec : List AV → Option (Prop × AV)
  | [.agg [.str c_nm, .sl 0 6 c_bl], .agg [.str d_nm, .sl 0 6 d_bl]] => some ((((c_bl.map unBlk).map Blk.row = c_bl) ∧ ((d_bl.map unBlk).map Blk.row = d_bl)) ∧ ((Sec.mk c_nm (c_bl.map unBlk)).bl.length ≤ 4611686018427387904), .bool (decide ((Sec.mk c_nm (c_bl.map unBlk)) = (Sec.mk d_nm (d_bl.map unBlk)))))
  | _ => none
theorem h_eqSec : ∀ args p v, t_eqSec args = some (p, v) → p → Contract P 135 args [] v [] ∧ noref v = true ∧ No99 v := by
  intro args p v h1 h2
  unfold t_eqSec at h1
  split at h1
  · rename_i c_nm c_bl d_nm d_bl
    cases h1
    obtain ⟨⟨e0, e1⟩, HP⟩ := h2
    have := c_eqSec (Sec.mk c_nm (c_bl.map unBlk)) (Sec.mk d_nm (d_bl.map unBlk)) HP
    exact ⟨by simpa only [e0, e1, Sec.row, Sec.row] using this, rfl, trivial⟩
  · cases h1
theorem c_eqSecS (t t' : Nat) (p q : List Sec) (hp : p.length ≤ 4611686018427387904) (hx : ∀ x ∈ p, x.bl.length ≤ 4611686018427387904) : Contract P 84 [.sl t 2 (p.map (Sec.row 0)), .sl t' 2 (q.map (Sec.row 0))] [] (.bool (decide (p = q))) [] := by
  refine fn_sound ((Env.nil P).add 135 t_eqSec h_eqSec) hm k_laws_eqSkySectorS (Nat.le_of_ble_eq_true rfl) rfl ?_; unfold s_laws_eqSkySectorS; simp (config := { maxSteps := 2000000 }) only [bitvec_to_nat, reduceIte, Nat.reduceEqDiff, Nat.reduceAdd, Nat.reduceLeDiff, reduceCtorEq, Nat.reduceBEq, Nat.reduceLT, Nat.reduceMod, List.forall_mem_cons, t_eqSec, tk_map, dp_map, toNat_pred, appE, rowsOf, List.take_length, List.length_cons, List.length_nil, Nat.zero_add, srow, irow, un_s, un_i, Pt.row, Pt_eta, Aw.row, Aw_eta, Blk.row, Blk_eta, Sec.row, Sec_eta, Rw.row, Rw_eta, Sky.row, Sky_eta, un_Pt, un_Aw, un_Blk, un_Sec, un_Rw, un_Sky]
  refine ⟨fun h1 h => h1 (by rw [h]), fun h1 => ?_⟩
  refine loop_st (fun i : Nat => [(5, .int .i64 i)]) (fun _ => []) (fun i => i ≤ p.length ∧ ∀ j, j < i → p.getD j default = q.getD j default) (fun i => p.length - i) (0) (by simp only [u_E0, u_E1, u_M0, u_M1, w_setE0, w_setE1, w_setM0, w_setM1, reduceIte, Nat.reduceEqDiff]; exact ⟨by repeat' (first | exact trivial | refine ⟨.inr rfl, ?_⟩), by repeat' (first | exact trivial | refine ⟨rfl, ?_⟩), by first | rfl | simp [closedB, refsIn, refsInL, refsInO, dom, refsInL_nr, *], by first | rfl | simp [keepB, dom]⟩) ?_ ?_
  · exact ⟨Nat.zero_le _, by intro j hj; omega⟩
  intro i hi NX hN
  unfold l_laws_eqSkySectorS_0; simp (config := { maxSteps := 2000000 }) only [bitvec_to_nat, reduceIte, Nat.reduceEqDiff, Nat.reduceAdd, Nat.reduceLeDiff, reduceCtorEq, Nat.reduceBEq, Nat.reduceLT, Nat.reduceMod, List.forall_mem_cons, t_eqSec, tk_map, dp_map, toNat_pred, appE, rowsOf, List.take_length, List.length_cons, List.length_nil, Nat.zero_add, srow, irow, un_s, un_i, Pt.row, Pt_eta, Aw.row, Aw_eta, Blk.row, Blk_eta, Sec.row, Sec_eta, Rw.row, Rw_eta, Sky.row, Sky_eta, un_Pt, un_Aw, un_Blk, un_Sec, un_Rw, un_Sky]
  have hx2 : i < p.length → _ := fun h => hx _ (getD_mem' h)
  repeat' (first | with_reducible apply And.intro | with_reducible intro _)
  all_goals first
    | omega
    | (refine hN (i + 1) _ (by simp only [u_E0, u_E1, u_M0, u_M1, w_setE0, w_setE1, w_setM0, w_setM1, reduceIte, Nat.reduceEqDiff]; exact ⟨by repeat' (first | exact trivial | refine ⟨.inr rfl, ?_⟩), by repeat' (first | exact trivial | refine ⟨rfl, ?_⟩), by first | rfl | simp [closedB, refsIn, refsInL, refsInO, dom, refsInL_nr, *], by first | rfl | simp [keepB, dom]⟩) ?_ ?_
       · exact ⟨by omega, all_snoc hi.2 (by with_reducible assumption)⟩
       · omega)
    | (intro h; subst h; exact absurd rfl (by with_reducible assumption))
    | (exact ext_of (by omega) fun j hj => hi.2 j (by omega))
    | grind
def t_eqSecS : List AV → Option (Prop × AV)
  | [.sl ct 2 cx, .sl dt 2 dx] => some ((((cx.map unSec).map (Sec.row 0) = cx) ∧ ((dx.map unSec).map (Sec.row 0) = dx)) ∧ ((cx.map unSec).length ≤ 4611686018427387904 ∧ ∀ x ∈ (cx.map unSec), x.bl.length ≤ 4611686018427387904), .bool (decide ((cx.map unSec) = (dx.map unSec))))
  | _ => none
theorem h_eqSecS : ∀ args p v, t_eqSecS args = some (p, v) → p → Contract P 84 args [] v [] ∧ noref v = true ∧ No99 v := by
  intro args p v h1 h2
  unfold t_eqSecS at h1
  split at h1
  · rename_i ct cx dt dx
    cases h1
    obtain ⟨⟨e0, e1⟩, HP⟩ := h2
    have := c_eqSecS ct dt (cx.map unSec) (dx.map unSec) HP.1 HP.2
    exact ⟨by simpa only [e0, e1] using this, rfl, trivial⟩
  · cases h1
theorem c_toSky (s : Sky) (hs : s.small) : Contract P 14 [.agg (s.row 1)] [] (.agg (s.row 0)) [] := by
  unfold Sky.small at hs
  simp only [Sky.row]
  refine fn_sound (((((Env.nil P).add 71 t_toAwS h_toAwS).add 70 t_toPtS h_toPtS).add 73 t_toRwS h_toRwS).add 72 t_toSecS h_toSecS) hm k_laws_toSky (Nat.le_of_ble_eq_true rfl) rfl ?_; unfold s_laws_toSky; simp (config := { maxSteps := 2000000 }) only [bitvec_to_nat, reduceIte, Nat.reduceEqDiff, Nat.reduceAdd, Nat.reduceLeDiff, reduceCtorEq, Nat.reduceBEq, Nat.reduceLT, Nat.reduceMod, List.forall_mem_cons, t_toAwS, t_toPtS, t_toRwS, t_toSecS, tk_map, dp_map, toNat_pred, appE, rowsOf, List.take_length, List.length_cons, List.length_nil, Nat.zero_add, srow, irow, un_s, un_i, Pt.row, Pt_eta, Aw.row, Aw_eta, Blk.row, Blk_eta, Sec.row, Sec_eta, Rw.row, Rw_eta, Sky.row, Sky_eta, un_Pt, un_Aw, un_Blk, un_Sec, un_Rw, un_Sky]
  repeat' (first | with_reducible apply And.intro | with_reducible intro _)
  all_goals first | omega | grind | grind [Aw.small, Sec.small, Sky.small]
theorem c_eqSky (c d : Sky) (hl : c.pts.length ≤ 4611686018427387904 ∧ c.aws.length ≤ 4611686018427387904 ∧ c.secs.length ≤ 4611686018427387904 ∧ c.rws.length ≤ 4611686018427387904 ∧ (∀ x ∈ c.aws, x.small) ∧ (∀ x ∈ c.secs, x.small)) : Contract P 16 [.agg (c.row 0), .agg (d.row 0)] [] (.bool (decide (c = d))) [] := by
  obtain ⟨c_w, c_h, c_lv, c_pts, c_aws, c_secs, c_rws⟩ := c
  obtain ⟨d_w, d_h, d_lv, d_pts, d_aws, d_secs, d_rws⟩ := d
  simp only [Sky.row]
  refine fn_sound (((((Env.nil P).add 83 t_eqAwS h_eqAwS).add 82 t_eqPtS h_eqPtS).add 85 t_eqRwS h_eqRwS).add 84 t_eqSecS h_eqSecS) hm k_laws_eqSky (Nat.le_of_ble_eq_true rfl) rfl ?_; unfold s_laws_eqSky; simp (config := { maxSteps := 2000000 }) only [bitvec_to_nat, reduceIte, Nat.reduceEqDiff, Nat.reduceAdd, Nat.reduceLeDiff, reduceCtorEq, Nat.reduceBEq, Nat.reduceLT, Nat.reduceMod, List.forall_mem_cons, t_eqAwS, t_eqPtS, t_eqRwS, t_eqSecS, tk_map, dp_map, toNat_pred, appE, rowsOf, List.take_length, List.length_cons, List.length_nil, Nat.zero_add, srow, irow, un_s, un_i, Pt.row, Pt_eta, Aw.row, Aw_eta, Blk.row, Blk_eta, Sec.row, Sec_eta, Rw.row, Rw_eta, Sky.row, Sky_eta, un_Pt, un_Aw, un_Blk, un_Sec, un_Rw, un_Sky]
  simp only [Sky.mk.injEq]
  repeat' (first | with_reducible apply And.intro | with_reducible intro _)
  all_goals first | omega | (simp_all; done) | grind | grind [Aw.small, Sec.small, Sky.small]
end
end Go.Ve

namespace Go.Ve
noncomputable section
open Go.Proofs
set_option linter.unusedSimpArgs false
set_option linter.unusedVariables false
set_option maxRecDepth 100000
set_option maxHeartbeats 400000 in
theorem pc_impl_SkyValid_0 (s : Sky) {Q : XT → St → Prop}  (hQ : ∀ bv : Bool, (bv = true ↔ ¬ (dims s.w s.h s.lv ∧ s.pts.length ≤ 16 ∧ s.aws.length ≤ 8 ∧ s.secs.length ≤ 6 ∧ s.rws.length ≤ 4)) → Q .normal ⟨[(1, .ptr 101 0), (63, .bool bv)], [(101, .box [.int .i64 s.w, .int .i64 s.h, .int .i64 s.lv, .sl 0 3 (s.pts.map Pt.row), .sl 0 2 (s.aws.map (Aw.row 0)), .sl 0 2 (s.secs.map (Sec.row 0)), .sl 0 4 (s.rws.map Rw.row)])]⟩) : SCode.wp (((((((((Env.nil P).add 74 t_within h_within).add 75 t_isName h_isName).add 76 t_iCell h_iCell).add 77 t_iBlock h_iBlock).add 78 t_iLess h_iLess).add 79 t_iMeets h_iMeets).add 80 t_places h_places).add 81 t_runway h_runway) p_impl_SkyValid_0 Q ⟨[(1, .ptr 101 0)], [(101, .box [.int .i64 s.w, .int .i64 s.h, .int .i64 s.lv, .sl 0 3 (s.pts.map Pt.row), .sl 0 2 (s.aws.map (Aw.row 0)), .sl 0 2 (s.secs.map (Sec.row 0)), .sl 0 4 (s.rws.map Rw.row)])]⟩ := by
  all_goals (unfold p_impl_SkyValid_0; simp (config := { maxSteps := 2000000 }) only [bitvec_to_nat, reduceIte, Nat.reduceEqDiff, Nat.reduceAdd, Nat.reduceLeDiff, reduceCtorEq, Nat.reduceBEq, Nat.reduceLT, Nat.reduceMod, List.forall_mem_cons, t_within, t_isName, t_iCell, t_iBlock, t_iLess, t_iMeets, t_places, t_runway, tk_map, dp_map, toNat_pred, appE, rowsOf, List.take_length, List.length_cons, List.length_nil, Nat.zero_add, srow, irow, un_s, un_i, Zone.row, Zone_eta, un_Zone, Pt.row, Pt_eta, un_Pt, Aw.row, Aw_eta, un_Aw, Blk.row, Blk_eta, un_Blk, Sec.row, Sec_eta, un_Sec, Rw.row, Rw_eta, un_Rw, Sky_eta, lookE, msetE, find_str, find_cell, keyP_str, keyP_cell, put_str, put_cell])
  repeat' (first | with_reducible apply And.intro | with_reducible intro _)
  all_goals first
    | omega
    | (refine hQ _ ?_
       first
         | grind [dims]
         | (simp; grind [dims]))
    | grind [dims]
set_option maxHeartbeats 400000 in
theorem pc_impl_SkyValid_1 (s : Sky) (i : Nat) (cl : List (Int × Int)) {e1 : List (AV × AV)} {w67 : AV} {w68 : AV} {w69 : AV} {Q : XT → St → Prop} (hi : i < s.pts.length) (hl : s.pts.length ≤ 1048576) (hd : dims s.w s.h s.lv) (hQ : ∀ bv : Bool, (bv = true ↔ ¬ (nameOk (s.pts.getD i default).nm ∧ (0 < i → slt (s.pts.getD (i - 1) default).nm (s.pts.getD i default).nm) ∧ inSky s.w s.h (s.pts.getD i default).x (s.pts.getD i default).y ∧ ¬ isIn ((s.pts.getD i default).x, (s.pts.getD i default).y) cl)) → Q .normal ⟨[(1, .ptr 101 0), (3, .ptr 164 0), (4, .ptr 165 0), (6, .ptr 106 0), (7, .ptr 107 0), (67, w67), (68, w68), (69, w69), (112, .bool bv)], [(101, .box [.int .i64 s.w, .int .i64 s.h, .int .i64 s.lv, .sl 0 3 (s.pts.map Pt.row), .sl 0 2 (s.aws.map (Aw.row 0)), .sl 0 2 (s.secs.map (Sec.row 0)), .sl 0 4 (s.rws.map Rw.row)]), (164, .mp 0 e1), (165, .mp 2 (setOf cellKey cl)), (106, .box [.str (s.pts.getD i default).nm, .int .i64 (s.pts.getD i default).x, .int .i64 (s.pts.getD i default).y]), (107, .box [.int .i64 (s.pts.getD i default).x, .int .i64 (s.pts.getD i default).y])]⟩) : SCode.wp (((((((((Env.nil P).add 74 t_within h_within).add 75 t_isName h_isName).add 76 t_iCell h_iCell).add 77 t_iBlock h_iBlock).add 78 t_iLess h_iLess).add 79 t_iMeets h_iMeets).add 80 t_places h_places).add 81 t_runway h_runway) p_impl_SkyValid_1 Q ⟨[(1, .ptr 101 0), (3, .ptr 164 0), (4, .ptr 165 0), (5, .int .i64 i), (6, .ptr 106 0), (7, .ptr 107 0), (67, w67), (68, w68), (69, w69)], [(101, .box [.int .i64 s.w, .int .i64 s.h, .int .i64 s.lv, .sl 0 3 (s.pts.map Pt.row), .sl 0 2 (s.aws.map (Aw.row 0)), .sl 0 2 (s.secs.map (Sec.row 0)), .sl 0 4 (s.rws.map Rw.row)]), (164, .mp 0 e1), (165, .mp 2 (setOf cellKey cl)), (106, .box [.str (s.pts.getD i default).nm, .int .i64 (s.pts.getD i default).x, .int .i64 (s.pts.getD i default).y]), (107, .box [.int .i64 (s.pts.getD i default).x, .int .i64 (s.pts.getD i default).y])]⟩ := by
  all_goals (unfold p_impl_SkyValid_1; simp (config := { maxSteps := 2000000 }) only [bitvec_to_nat, reduceIte, Nat.reduceEqDiff, Nat.reduceAdd, Nat.reduceLeDiff, reduceCtorEq, Nat.reduceBEq, Nat.reduceLT, Nat.reduceMod, List.forall_mem_cons, t_within, t_isName, t_iCell, t_iBlock, t_iLess, t_iMeets, t_places, t_runway, tk_map, dp_map, toNat_pred, appE, rowsOf, List.take_length, List.length_cons, List.length_nil, Nat.zero_add, srow, irow, un_s, un_i, Zone.row, Zone_eta, un_Zone, Pt.row, Pt_eta, un_Pt, Aw.row, Aw_eta, un_Aw, Blk.row, Blk_eta, un_Blk, Sec.row, Sec_eta, un_Sec, Rw.row, Rw_eta, un_Rw, Sky_eta, lookE, msetE, find_str, find_cell, keyP_str, keyP_cell, put_str, put_cell])
  repeat' (first | with_reducible apply And.intro | with_reducible intro _)
  all_goals first
    | omega
    | (refine hQ _ ?_
       first
         | grind [inSky, dims]
         | (simp; grind [inSky, dims]))
    | grind [inSky, dims]
set_option maxHeartbeats 400000 in
theorem pc_impl_SkyValid_2 (s : Sky) (i : Nat) {e1 e2 : List (AV × AV)} {w120 : AV} {w121 : AV} {w122 : AV} {Q : XT → St → Prop} (hi : i < s.aws.length) (hl : s.aws.length ≤ 1048576) (hQ : ∀ bv : Bool, (bv = true ↔ ¬ (nameOk (s.aws.getD i default).nm ∧ (0 < i → slt (s.aws.getD (i - 1) default).nm (s.aws.getD i default).nm) ∧ 2 ≤ (s.aws.getD i default).pts.length ∧ (s.aws.getD i default).pts.length ≤ 8)) → Q .normal ⟨[(1, .ptr 101 0), (3, .ptr 164 0), (9, .ptr 109 0), (120, w120), (121, w121), (122, w122), (153, .bool bv)], [(101, .box [.int .i64 s.w, .int .i64 s.h, .int .i64 s.lv, .sl 0 3 (s.pts.map Pt.row), .sl 0 2 (s.aws.map (Aw.row 0)), .sl 0 2 (s.secs.map (Sec.row 0)), .sl 0 4 (s.rws.map Rw.row)]), (164, .mp 0 e1), (165, .mp 2 e2), (109, .box [.str (s.aws.getD i default).nm, .sl 0 1 ((s.aws.getD i default).pts.map srow)])]⟩) : SCode.wp (((((((((Env.nil P).add 74 t_within h_within).add 75 t_isName h_isName).add 76 t_iCell h_iCell).add 77 t_iBlock h_iBlock).add 78 t_iLess h_iLess).add 79 t_iMeets h_iMeets).add 80 t_places h_places).add 81 t_runway h_runway) p_impl_SkyValid_2 Q ⟨[(1, .ptr 101 0), (3, .ptr 164 0), (8, .int .i64 i), (9, .ptr 109 0), (120, w120), (121, w121), (122, w122)], [(101, .box [.int .i64 s.w, .int .i64 s.h, .int .i64 s.lv, .sl 0 3 (s.pts.map Pt.row), .sl 0 2 (s.aws.map (Aw.row 0)), .sl 0 2 (s.secs.map (Sec.row 0)), .sl 0 4 (s.rws.map Rw.row)]), (164, .mp 0 e1), (165, .mp 2 e2), (109, .box [.str (s.aws.getD i default).nm, .sl 0 1 ((s.aws.getD i default).pts.map srow)])]⟩ := by
  all_goals (unfold p_impl_SkyValid_2; simp (config := { maxSteps := 2000000 }) only [bitvec_to_nat, reduceIte, Nat.reduceEqDiff, Nat.reduceAdd, Nat.reduceLeDiff, reduceCtorEq, Nat.reduceBEq, Nat.reduceLT, Nat.reduceMod, List.forall_mem_cons, t_within, t_isName, t_iCell, t_iBlock, t_iLess, t_iMeets, t_places, t_runway, tk_map, dp_map, toNat_pred, appE, rowsOf, List.take_length, List.length_cons, List.length_nil, Nat.zero_add, srow, irow, un_s, un_i, Zone.row, Zone_eta, un_Zone, Pt.row, Pt_eta, un_Pt, Aw.row, Aw_eta, un_Aw, Blk.row, Blk_eta, un_Blk, Sec.row, Sec_eta, un_Sec, Rw.row, Rw_eta, un_Rw, Sky_eta, lookE, msetE, find_str, find_cell, keyP_str, keyP_cell, put_str, put_cell])
  repeat' (first | with_reducible apply And.intro | with_reducible intro _)
  all_goals first
    | omega
    | (refine hQ _ ?_
       first
         | grind []
         | (simp; grind []))
    | grind []
set_option maxHeartbeats 400000 in
theorem pc_impl_SkyValid_3 (s : Sky) (i m : Nat) {rows : List (List AV)} {e1 e2 : List (AV × AV)} {w14 : AV} {w176 : AV} {w177 : AV} {w178 : AV} {Q : XT → St → Prop} (hi : i < s.secs.length) (hl : s.secs.length ≤ 1048576) (hQ : ∀ bv : Bool, (bv = true ↔ ¬ (nameOk (s.secs.getD i default).nm ∧ (0 < i → slt (s.secs.getD (i - 1) default).nm (s.secs.getD i default).nm) ∧ 1 ≤ (s.secs.getD i default).bl.length ∧ (s.secs.getD i default).bl.length ≤ 4)) → Q .normal ⟨[(1, .ptr 101 0), (13, .own 113 m 0 m), (14, w14), (16, .ptr 116 0), (176, w176), (177, w177), (178, w178), (209, .bool bv)], [(101, .box [.int .i64 s.w, .int .i64 s.h, .int .i64 s.lv, .sl 0 3 (s.pts.map Pt.row), .sl 0 2 (s.aws.map (Aw.row 0)), .sl 0 2 (s.secs.map (Sec.row 0)), .sl 0 4 (s.rws.map Rw.row)]), (164, .mp 0 e1), (165, .mp 2 e2), (113, .arr 113 m 6 rows), (116, .box [.str (s.secs.getD i default).nm, .sl 0 6 ((s.secs.getD i default).bl.map Blk.row)])]⟩) : SCode.wp (((((((((Env.nil P).add 74 t_within h_within).add 75 t_isName h_isName).add 76 t_iCell h_iCell).add 77 t_iBlock h_iBlock).add 78 t_iLess h_iLess).add 79 t_iMeets h_iMeets).add 80 t_places h_places).add 81 t_runway h_runway) p_impl_SkyValid_3 Q ⟨[(1, .ptr 101 0), (13, .own 113 m 0 m), (14, w14), (15, .int .i64 i), (16, .ptr 116 0), (176, w176), (177, w177), (178, w178)], [(101, .box [.int .i64 s.w, .int .i64 s.h, .int .i64 s.lv, .sl 0 3 (s.pts.map Pt.row), .sl 0 2 (s.aws.map (Aw.row 0)), .sl 0 2 (s.secs.map (Sec.row 0)), .sl 0 4 (s.rws.map Rw.row)]), (164, .mp 0 e1), (165, .mp 2 e2), (113, .arr 113 m 6 rows), (116, .box [.str (s.secs.getD i default).nm, .sl 0 6 ((s.secs.getD i default).bl.map Blk.row)])]⟩ := by
  all_goals (unfold p_impl_SkyValid_3; simp (config := { maxSteps := 2000000 }) only [bitvec_to_nat, reduceIte, Nat.reduceEqDiff, Nat.reduceAdd, Nat.reduceLeDiff, reduceCtorEq, Nat.reduceBEq, Nat.reduceLT, Nat.reduceMod, List.forall_mem_cons, t_within, t_isName, t_iCell, t_iBlock, t_iLess, t_iMeets, t_places, t_runway, tk_map, dp_map, toNat_pred, appE, rowsOf, List.take_length, List.length_cons, List.length_nil, Nat.zero_add, srow, irow, un_s, un_i, Zone.row, Zone_eta, un_Zone, Pt.row, Pt_eta, un_Pt, Aw.row, Aw_eta, un_Aw, Blk.row, Blk_eta, un_Blk, Sec.row, Sec_eta, un_Sec, Rw.row, Rw_eta, un_Rw, Sky_eta, lookE, msetE, find_str, find_cell, keyP_str, keyP_cell, put_str, put_cell])
  repeat' (first | with_reducible apply And.intro | with_reducible intro _)
  all_goals first
    | omega
    | (refine hQ _ ?_
       first
         | grind []
         | (simp; grind []))
    | grind []
set_option maxHeartbeats 400000 in
theorem pc_impl_SkyValid_4 (s : Sky) (i k m : Nat) {rows : List (List AV)} {e1 e2 : List (AV × AV)} {w14 : AV} {w176 : AV} {w177 : AV} {w178 : AV} {w211 : AV} {w212 : AV} {w213 : AV} {Q : XT → St → Prop} (hk : k < (s.secs.getD i default).bl.length) (hl : (s.secs.getD i default).bl.length ≤ 1048576) (hQ : ∀ bv : Bool, (bv = true ↔ ¬ blkAt s.w s.h s.lv (s.secs.getD i default).bl k) → Q .normal ⟨[(1, .ptr 101 0), (13, .own 113 m 0 m), (14, w14), (16, .ptr 116 0), (18, .ptr 118 0), (176, w176), (177, w177), (178, w178), (211, w211), (212, w212), (213, w213), (236, .bool bv)], [(101, .box [.int .i64 s.w, .int .i64 s.h, .int .i64 s.lv, .sl 0 3 (s.pts.map Pt.row), .sl 0 2 (s.aws.map (Aw.row 0)), .sl 0 2 (s.secs.map (Sec.row 0)), .sl 0 4 (s.rws.map Rw.row)]), (164, .mp 0 e1), (165, .mp 2 e2), (113, .arr 113 m 6 rows), (116, .box [.str (s.secs.getD i default).nm, .sl 0 6 ((s.secs.getD i default).bl.map Blk.row)]), (118, .box [.int .i64 ((s.secs.getD i default).bl.getD k default).x0, .int .i64 ((s.secs.getD i default).bl.getD k default).y0, .int .i64 ((s.secs.getD i default).bl.getD k default).x1, .int .i64 ((s.secs.getD i default).bl.getD k default).y1, .int .i64 ((s.secs.getD i default).bl.getD k default).lo, .int .i64 ((s.secs.getD i default).bl.getD k default).hi])]⟩) : SCode.wp (((((((((Env.nil P).add 74 t_within h_within).add 75 t_isName h_isName).add 76 t_iCell h_iCell).add 77 t_iBlock h_iBlock).add 78 t_iLess h_iLess).add 79 t_iMeets h_iMeets).add 80 t_places h_places).add 81 t_runway h_runway) p_impl_SkyValid_4 Q ⟨[(1, .ptr 101 0), (13, .own 113 m 0 m), (14, w14), (16, .ptr 116 0), (17, .int .i64 k), (18, .ptr 118 0), (176, w176), (177, w177), (178, w178), (211, w211), (212, w212), (213, w213)], [(101, .box [.int .i64 s.w, .int .i64 s.h, .int .i64 s.lv, .sl 0 3 (s.pts.map Pt.row), .sl 0 2 (s.aws.map (Aw.row 0)), .sl 0 2 (s.secs.map (Sec.row 0)), .sl 0 4 (s.rws.map Rw.row)]), (164, .mp 0 e1), (165, .mp 2 e2), (113, .arr 113 m 6 rows), (116, .box [.str (s.secs.getD i default).nm, .sl 0 6 ((s.secs.getD i default).bl.map Blk.row)]), (118, .box [.int .i64 ((s.secs.getD i default).bl.getD k default).x0, .int .i64 ((s.secs.getD i default).bl.getD k default).y0, .int .i64 ((s.secs.getD i default).bl.getD k default).x1, .int .i64 ((s.secs.getD i default).bl.getD k default).y1, .int .i64 ((s.secs.getD i default).bl.getD k default).lo, .int .i64 ((s.secs.getD i default).bl.getD k default).hi])]⟩ := by
  all_goals (unfold p_impl_SkyValid_4; simp (config := { maxSteps := 2000000 }) only [bitvec_to_nat, reduceIte, Nat.reduceEqDiff, Nat.reduceAdd, Nat.reduceLeDiff, reduceCtorEq, Nat.reduceBEq, Nat.reduceLT, Nat.reduceMod, List.forall_mem_cons, t_within, t_isName, t_iCell, t_iBlock, t_iLess, t_iMeets, t_places, t_runway, tk_map, dp_map, toNat_pred, appE, rowsOf, List.take_length, List.length_cons, List.length_nil, Nat.zero_add, srow, irow, un_s, un_i, Zone.row, Zone_eta, un_Zone, Pt.row, Pt_eta, un_Pt, Aw.row, Aw_eta, un_Aw, Blk.row, Blk_eta, un_Blk, Sec.row, Sec_eta, un_Sec, Rw.row, Rw_eta, un_Rw, Sky_eta, lookE, msetE, find_str, find_cell, keyP_str, keyP_cell, put_str, put_cell])
  repeat' (first | with_reducible apply And.intro | with_reducible intro _)
  all_goals first
    | omega
    | (refine hQ _ ?_
       first
         | grind [blkAt]
         | (simp; grind [blkAt]))
    | grind [blkAt]
set_option maxHeartbeats 400000 in
theorem pc_impl_SkyValid_5 (s : Sky) (n : Int) (m : Nat) {rows : List (List AV)} {e1 e2 : List (AV × AV)} {w13 : AV} {w176 : AV} {w177 : AV} {w178 : AV} {w179 : AV} {Q : XT → St → Prop} (hm : (1 ≤ s.w * s.h ∧ s.w * s.h ≤ 256) ∧ 1 ≤ s.w * s.h * s.lv ∧ s.w * s.h * s.lv ≤ 1536) (hQ : ∀ bv : Bool, (bv = true ↔ ¬ (n = s.w * s.h * s.lv)) → Q .normal ⟨[(1, .ptr 101 0), (266, .bool bv)], [(101, .box [.int .i64 s.w, .int .i64 s.h, .int .i64 s.lv, .sl 0 3 (s.pts.map Pt.row), .sl 0 2 (s.aws.map (Aw.row 0)), .sl 0 2 (s.secs.map (Sec.row 0)), .sl 0 4 (s.rws.map Rw.row)]), (164, .mp 0 e1), (165, .mp 2 e2), (113, .arr 113 m 6 rows)]⟩) : SCode.wp (((((((((Env.nil P).add 74 t_within h_within).add 75 t_isName h_isName).add 76 t_iCell h_iCell).add 77 t_iBlock h_iBlock).add 78 t_iLess h_iLess).add 79 t_iMeets h_iMeets).add 80 t_places h_places).add 81 t_runway h_runway) p_impl_SkyValid_5 Q ⟨[(1, .ptr 101 0), (13, w13), (14, .int .i64 n), (176, w176), (177, w177), (178, w178), (179, w179)], [(101, .box [.int .i64 s.w, .int .i64 s.h, .int .i64 s.lv, .sl 0 3 (s.pts.map Pt.row), .sl 0 2 (s.aws.map (Aw.row 0)), .sl 0 2 (s.secs.map (Sec.row 0)), .sl 0 4 (s.rws.map Rw.row)]), (164, .mp 0 e1), (165, .mp 2 e2), (113, .arr 113 m 6 rows)]⟩ := by
  all_goals (unfold p_impl_SkyValid_5; simp (config := { maxSteps := 2000000 }) only [bitvec_to_nat, reduceIte, Nat.reduceEqDiff, Nat.reduceAdd, Nat.reduceLeDiff, reduceCtorEq, Nat.reduceBEq, Nat.reduceLT, Nat.reduceMod, List.forall_mem_cons, t_within, t_isName, t_iCell, t_iBlock, t_iLess, t_iMeets, t_places, t_runway, tk_map, dp_map, toNat_pred, appE, rowsOf, List.take_length, List.length_cons, List.length_nil, Nat.zero_add, srow, irow, un_s, un_i, Zone.row, Zone_eta, un_Zone, Pt.row, Pt_eta, un_Pt, Aw.row, Aw_eta, un_Aw, Blk.row, Blk_eta, un_Blk, Sec.row, Sec_eta, un_Sec, Rw.row, Rw_eta, un_Rw, Sky_eta, lookE, msetE, find_str, find_cell, keyP_str, keyP_cell, put_str, put_cell])
  repeat' (first | with_reducible apply And.intro | with_reducible intro _)
  all_goals first
    | omega
    | (refine hQ _ ?_
       first
         | grind []
         | (simp; grind []))
    | grind []
set_option maxHeartbeats 400000 in
theorem pc_impl_SkyValid_6 (s : Sky) (i m : Nat) (cl : List (Int × Int)) {rows : List (List AV)} {e1 e2 : List (AV × AV)} {w269 : AV} {w270 : AV} {w271 : AV} {Q : XT → St → Prop} (hi : i < s.rws.length) (hl : s.rws.length ≤ 1048576) (hd : dims s.w s.h s.lv) (hQ : ∀ bv : Bool, (bv = true ↔ ¬ (nameOk (s.rws.getD i default).nm ∧ (0 < i → slt (s.rws.getD (i - 1) default).nm (s.rws.getD i default).nm) ∧ (s.rws.getD i default).ok s.w s.h ∧ ¬ isIn ((s.rws.getD i default).x, (s.rws.getD i default).y) cl)) → Q .normal ⟨[(1, .ptr 101 0), (4, .ptr 367 0), (23, .ptr 123 0), (269, w269), (270, w270), (271, w271), (311, .bool bv)], [(101, .box [.int .i64 s.w, .int .i64 s.h, .int .i64 s.lv, .sl 0 3 (s.pts.map Pt.row), .sl 0 2 (s.aws.map (Aw.row 0)), .sl 0 2 (s.secs.map (Sec.row 0)), .sl 0 4 (s.rws.map Rw.row)]), (164, .mp 0 e1), (165, .mp 2 e2), (113, .arr 113 m 6 rows), (367, .mp 2 (setOf cellKey cl)), (122, .box [.str (s.rws.getD i default).nm, .int .i64 (s.rws.getD i default).x, .int .i64 (s.rws.getD i default).y, .int .i64 (s.rws.getD i default).tn]), (123, .box [.int .i64 (s.rws.getD i default).x, .int .i64 (s.rws.getD i default).y])]⟩) : SCode.wp (((((((((Env.nil P).add 74 t_within h_within).add 75 t_isName h_isName).add 76 t_iCell h_iCell).add 77 t_iBlock h_iBlock).add 78 t_iLess h_iLess).add 79 t_iMeets h_iMeets).add 80 t_places h_places).add 81 t_runway h_runway) p_impl_SkyValid_6 Q ⟨[(1, .ptr 101 0), (4, .ptr 367 0), (21, .int .i64 i), (22, .ptr 122 0), (23, .ptr 123 0), (269, w269), (270, w270), (271, w271)], [(101, .box [.int .i64 s.w, .int .i64 s.h, .int .i64 s.lv, .sl 0 3 (s.pts.map Pt.row), .sl 0 2 (s.aws.map (Aw.row 0)), .sl 0 2 (s.secs.map (Sec.row 0)), .sl 0 4 (s.rws.map Rw.row)]), (164, .mp 0 e1), (165, .mp 2 e2), (113, .arr 113 m 6 rows), (367, .mp 2 (setOf cellKey cl)), (122, .box [.str (s.rws.getD i default).nm, .int .i64 (s.rws.getD i default).x, .int .i64 (s.rws.getD i default).y, .int .i64 (s.rws.getD i default).tn]), (123, .box [.int .i64 (s.rws.getD i default).x, .int .i64 (s.rws.getD i default).y])]⟩ := by
  all_goals (unfold p_impl_SkyValid_6; simp (config := { maxSteps := 2000000 }) only [bitvec_to_nat, reduceIte, Nat.reduceEqDiff, Nat.reduceAdd, Nat.reduceLeDiff, reduceCtorEq, Nat.reduceBEq, Nat.reduceLT, Nat.reduceMod, List.forall_mem_cons, t_within, t_isName, t_iCell, t_iBlock, t_iLess, t_iMeets, t_places, t_runway, tk_map, dp_map, toNat_pred, appE, rowsOf, List.take_length, List.length_cons, List.length_nil, Nat.zero_add, srow, irow, un_s, un_i, Zone.row, Zone_eta, un_Zone, Pt.row, Pt_eta, un_Pt, Aw.row, Aw_eta, un_Aw, Blk.row, Blk_eta, un_Blk, Sec.row, Sec_eta, un_Sec, Rw.row, Rw_eta, un_Rw, Sky_eta, lookE, msetE, find_str, find_cell, keyP_str, keyP_cell, put_str, put_cell])
  repeat' (first | with_reducible apply And.intro | with_reducible intro _)
  all_goals first
    | omega
    | (refine hQ _ ?_
       first
         | grind [Rw.ok, inSky, dims]
         | (simp; grind [Rw.ok, inSky, dims]))
    | grind [Rw.ok, inSky, dims]
theorem isIn_nm {l : List Pt} {q : ByteArray} : isIn q (l.map (·.nm)) ↔ 0 ≤ pIdx l q := by
  unfold isIn pIdx
  rw [fIdx_ge]
  constructor
  · intro h
    have h : q ∈ (l.take l.length).map (·.nm) := by rw [List.take_length]; exact h
    obtain ⟨k, hk, e⟩ := (mem_take_map (Nat.le_refl _)).1 h
    exact ⟨k, hk, by simpa using e⟩
  · rintro ⟨k, hk, e⟩
    have := (mem_take_map (f := (·.nm)) (l := l) (Nat.le_refl _) (q := q)).2 ⟨k, hk, by simpa using e⟩
    rwa [List.take_length] at this
theorem isIn_take {l : List ByteArray} {i : Nat} (hi : i ≤ l.length) {q : ByteArray} : isIn q (l.take i) ↔ ∃ k, k < i ∧ l.getD k default = q := by
  have := mem_take_map (f := fun x : ByteArray => x) hi (q := q)
  rwa [List.map_id'] at this
theorem isIn_cell {α : Type} [Inhabited α] {f : α → Int × Int} {l : List α} {i : Nat} (hi : i ≤ l.length) {q : Int × Int} : isIn q ((l.take i).map f) ↔ ∃ k, k < i ∧ f (l.getD k default) = q := mem_take_map hi
theorem take_snoc {α : Type} [Inhabited α] {l : List α} {i : Nat} (hi : i < l.length) : l.take (i + 1) = l.take i ++ [l.getD i default] := by
  have e : l.getD i default = l[i] := by simp [hi]
  rw [e, List.take_succ_eq_append_getElem hi]
end
end Go.Ve

namespace Go.Ve
noncomputable section
open Go.Proofs
set_option linter.unusedSimpArgs false
set_option linter.unusedVariables false
set_option maxRecDepth 100000
def pre (l : List Sec) (i k : Nat) : List Blk := blocks (l.take i) ++ (l.getD i default).bl.take k
theorem pre_zero {l : List Sec} {i : Nat} : pre l i 0 = blocks (l.take i) := by simp [pre]
theorem pre_snoc {l : List Sec} {i k : Nat} (hk : k < (l.getD i default).bl.length) : pre l i (k + 1) = pre l i k ++ [(l.getD i default).bl.getD k default] := by
  unfold pre; rw [take_snoc hk, List.append_assoc]
theorem pre_end {l : List Sec} {i : Nat} (hi : i < l.length) : pre l i (l.getD i default).bl.length = blocks (l.take (i + 1)) := by
  unfold pre; rw [List.take_length, blocks_snoc hi]
theorem pre_sub {l : List Sec} {i k : Nat} (hi : i < l.length) : (pre l i k).Sublist (blocks l) := by
  have h1 : (pre l i k).Sublist (blocks (l.take (i + 1))) := by
    rw [blocks_snoc hi]; exact List.Sublist.append (List.Sublist.refl _) (List.take_sublist _ _)
  have h2 : (blocks (l.take (i + 1))).Sublist (blocks l) := by
    have : blocks l = blocks (l.take (i + 1)) ++ blocks (l.drop (i + 1)) := by
      have h := List.take_append_drop (i + 1) l
      conv => lhs; rw [← h]
      simp only [blocks, List.flatMap_append]
    rw [this]; exact List.sublist_append_left _ _
  exact h1.trans h2
theorem blocks_len' {l : List Sec} : ∀ {i : Nat}, i ≤ l.length → (∀ j, j < i → (l.getD j default).bl.length ≤ 4) → (blocks (l.take i)).length ≤ 4 * i
  | 0, _, _ => by simp [blocks]
  | i + 1, hi, h => by
    rw [blocks_snoc (by omega), List.length_append]
    have := blocks_len' (l := l) (i := i) (by omega) fun j hj => h j (by omega)
    have := h i (by omega); omega
theorem vols_app {l : List Blk} {b : Blk} : vols (l ++ [b]) = vols l + b.vol := by simp [vols]
theorem pre_ok {w h lv : Int} {l : List Sec} {i k : Nat} (hi : i < l.length) (h1 : ∀ j, j < i → secAt w h lv l j) (hk : k ≤ (l.getD i default).bl.length) (h2 : ∀ j, j < k → blkAt w h lv (l.getD i default).bl j) : ∀ b ∈ pre l i k, b.ok w h lv := by
  intro b hb
  unfold pre at hb
  rw [List.mem_append] at hb
  rcases hb with hb | hb
  · simp only [blocks, List.mem_flatMap] at hb
    obtain ⟨x, hx, hb⟩ := hb
    obtain ⟨j, hj, rfl⟩ := List.mem_iff_getElem.1 hx
    rw [List.length_take] at hj
    rw [List.getElem_take] at hb
    obtain ⟨q, hq, rfl⟩ := List.mem_iff_getElem.1 hb
    have := ((h1 j (by omega)).2.2.2 q (by simpa [show j < l.length by omega] using hq)).1
    simpa [show j < l.length by omega, hq] using this
  · obtain ⟨q, hq, rfl⟩ := List.mem_iff_getElem.1 hb
    rw [List.length_take] at hq
    rw [List.getElem_take]
    have := (h2 q (by omega)).1
    rwa [List.getD_eq_getElem?_getD, List.getElem?_eq_getElem (by omega)] at this
def apart (l : List Blk) : Prop := l.Pairwise fun a b => ¬ a.meet b
theorem apart_iff {l : List Blk} : (∀ i, i < l.length → apartAt l i) ↔ apart l := by
  unfold apart apartAt
  rw [List.pairwise_iff_getElem]
  constructor
  · intro h i j hi hj hij
    have := h j hj i hij
    simpa [hi, hj] using this
  · intro h i hi k hk
    have := h k i (by omega) hi hk
    simpa [hi, show k < l.length by omega] using this
theorem apart_snoc {l : List Blk} {b : Blk} : apart (l ++ [b]) ↔ apart l ∧ ∀ k, k < l.length → ¬ (l.getD k default).meet b := by
  unfold apart
  rw [List.pairwise_append]
  constructor
  · rintro ⟨h1, _, h3⟩
    exact ⟨h1, fun k hk => h3 _ (getD_in hk) b (by simp)⟩
  · rintro ⟨h1, h2⟩
    refine ⟨h1, List.pairwise_singleton _ _, fun a ha b' hb' => ?_⟩
    obtain ⟨k, hk, rfl⟩ := List.mem_iff_getElem.1 ha
    have := h2 k hk
    simp only [List.mem_singleton] at hb'
    subst hb'
    simpa [hk] using this
set_option maxHeartbeats 2000000 in
theorem c_iSkyValid (s : Sky) (hs : s.small) (hf : s.fitp) : Contract P 15 [.agg (s.row 0)] [] (.bool (decide s.valid)) [] := by
  have hs1 := hs.1; have hs2 := hs.2.1.1; have hs3 := hs.2.2.1.1; have hs4 := hs.2.2.2
  simp only [Sky.row]
  refine fn_sound (((((((((Env.nil P).add 74 t_within h_within).add 75 t_isName h_isName).add 76 t_iCell h_iCell).add 77 t_iBlock h_iBlock).add 78 t_iLess h_iLess).add 79 t_iMeets h_iMeets).add 80 t_places h_places).add 81 t_runway h_runway) hm k_impl_SkyValid (Nat.le_of_ble_eq_true rfl) rfl ?_; unfold s_impl_SkyValid; simp (config := { maxSteps := 2000000 }) only [bitvec_to_nat, reduceIte, Nat.reduceEqDiff, Nat.reduceAdd, Nat.reduceLeDiff, reduceCtorEq, Nat.reduceBEq, Nat.reduceLT, Nat.reduceMod, List.forall_mem_cons, t_within, t_isName, t_iCell, t_iBlock, t_iLess, t_iMeets, t_places, t_runway, tk_map, dp_map, toNat_pred, appE, rowsOf, List.take_length, List.length_cons, List.length_nil, Nat.zero_add, srow, irow, un_s, un_i, Zone.row, Zone_eta, un_Zone, Pt.row, Pt_eta, un_Pt, Aw.row, Aw_eta, un_Aw, Blk.row, Blk_eta, un_Blk, Sec.row, Sec_eta, un_Sec, Rw.row, Rw_eta, un_Rw, Sky_eta, lookE, msetE, find_str, find_cell, keyP_str, keyP_cell, put_str, put_cell]
  refine pc_impl_SkyValid_0 s fun bv hbv => ?_
  cases bv
  case true =>
    simp (config := { maxSteps := 2000000 }) only [bitvec_to_nat, reduceIte, Nat.reduceEqDiff, Nat.reduceAdd, Nat.reduceLeDiff, reduceCtorEq, Nat.reduceBEq, Nat.reduceLT, Nat.reduceMod, List.forall_mem_cons, t_within, t_isName, t_iCell, t_iBlock, t_iLess, t_iMeets, t_places, t_runway, tk_map, dp_map, toNat_pred, appE, rowsOf, List.take_length, List.length_cons, List.length_nil, Nat.zero_add, srow, irow, un_s, un_i, Zone.row, Zone_eta, un_Zone, Pt.row, Pt_eta, un_Pt, Aw.row, Aw_eta, un_Aw, Blk.row, Blk_eta, un_Blk, Sec.row, Sec_eta, un_Sec, Rw.row, Rw_eta, un_Rw, Sky_eta, lookE, msetE, find_str, find_cell, keyP_str, keyP_cell, put_str, put_cell]
    exact fun hv => (hbv.1 rfl) ⟨hv.1, hv.2.1.1, hv.2.2.1.1, hv.2.2.2.1.1, hv.2.2.2.2.2.1⟩
  have o0 := Classical.not_not.1 fun h => Bool.noConfusion (hbv.2 h)
  obtain ⟨hd, l1, l2, l3, l4⟩ := o0
  have hmul := dims_mul hd
  simp (config := { maxSteps := 2000000 }) only [bitvec_to_nat, reduceIte, Nat.reduceEqDiff, Nat.reduceAdd, Nat.reduceLeDiff, reduceCtorEq, Nat.reduceBEq, Nat.reduceLT, Nat.reduceMod, List.forall_mem_cons, t_within, t_isName, t_iCell, t_iBlock, t_iLess, t_iMeets, t_places, t_runway, tk_map, dp_map, toNat_pred, appE, rowsOf, List.take_length, List.length_cons, List.length_nil, Nat.zero_add, srow, irow, un_s, un_i, Zone.row, Zone_eta, un_Zone, Pt.row, Pt_eta, un_Pt, Aw.row, Aw_eta, un_Aw, Blk.row, Blk_eta, un_Blk, Sec.row, Sec_eta, un_Sec, Rw.row, Rw_eta, un_Rw, Sky_eta, lookE, msetE, find_str, find_cell, keyP_str, keyP_cell, put_str, put_cell]
  -- points
  refine loop_st (fun i : Nat => [(69, .int .i64 i)]) (fun i => [(164, .mp 0 (setOf AV.str ((s.pts.take i).map (·.nm)))), (165, .mp 2 (setOf cellKey ((s.pts.take i).map fun p => (p.x, p.y))))]) (fun i => i ≤ s.pts.length ∧ ∀ j, j < i → ptAt s.w s.h s.pts j) (fun i => s.pts.length - i) (0) (by simp only [u_E0, u_E1, u_M0, u_M1, w_setE0, w_setE1, w_setM0, w_setM1, reduceIte, Nat.reduceEqDiff]; exact ⟨by repeat' (first | exact trivial | refine ⟨.inr rfl, ?_⟩), by repeat' (first | exact trivial | refine ⟨rfl, ?_⟩), by first | rfl | simp [closedB, refsIn, refsInL, refsInO, dom, refsInL_nr, *], by first | rfl | simp [keepB, dom]⟩) ?_ ?_
  · exact ⟨Nat.zero_le _, by intro j hj; omega⟩
  intro i hi NX hN
  unfold l_impl_SkyValid_0; simp (config := { maxSteps := 2000000 }) only [bitvec_to_nat, reduceIte, Nat.reduceEqDiff, Nat.reduceAdd, Nat.reduceLeDiff, reduceCtorEq, Nat.reduceBEq, Nat.reduceLT, Nat.reduceMod, List.forall_mem_cons, t_within, t_isName, t_iCell, t_iBlock, t_iLess, t_iMeets, t_places, t_runway, tk_map, dp_map, toNat_pred, appE, rowsOf, List.take_length, List.length_cons, List.length_nil, Nat.zero_add, srow, irow, un_s, un_i, Zone.row, Zone_eta, un_Zone, Pt.row, Pt_eta, un_Pt, Aw.row, Aw_eta, un_Aw, Blk.row, Blk_eta, un_Blk, Sec.row, Sec_eta, un_Sec, Rw.row, Rw_eta, un_Rw, Sky_eta, lookE, msetE, find_str, find_cell, keyP_str, keyP_cell, put_str, put_cell]
  refine ⟨fun g1 => ⟨by omega, by omega, ?_⟩, fun g1 => ?_⟩
  · have A : s.valid → ptAt s.w s.h s.pts i := fun h => h.2.1.2 i (by omega)
    unfold ptAt at A
    have hc := isIn_cell (f := fun p : Pt => (p.x, p.y)) (l := s.pts) (i := i) (by omega) (q := ((s.pts.getD i default).x, (s.pts.getD i default).y))
    refine pc_impl_SkyValid_1 s i _ (by omega) hs1 hd fun bv hbv => ?_
    cases bv
    case true =>
      simp (config := { maxSteps := 2000000 }) only [bitvec_to_nat, reduceIte, Nat.reduceEqDiff, Nat.reduceAdd, Nat.reduceLeDiff, reduceCtorEq, Nat.reduceBEq, Nat.reduceLT, Nat.reduceMod, List.forall_mem_cons, t_within, t_isName, t_iCell, t_iBlock, t_iLess, t_iMeets, t_places, t_runway, tk_map, dp_map, toNat_pred, appE, rowsOf, List.take_length, List.length_cons, List.length_nil, Nat.zero_add, srow, irow, un_s, un_i, Zone.row, Zone_eta, un_Zone, Pt.row, Pt_eta, un_Pt, Aw.row, Aw_eta, un_Aw, Blk.row, Blk_eta, un_Blk, Sec.row, Sec_eta, un_Sec, Rw.row, Rw_eta, un_Rw, Sky_eta, lookE, msetE, find_str, find_cell, keyP_str, keyP_cell, put_str, put_cell]
      refine fun hv => (hbv.1 rfl) ⟨(A hv).1, (A hv).2.1, (A hv).2.2.1, fun h => ?_⟩
      obtain ⟨k, hk, e⟩ := hc.1 h
      simp only [Prod.mk.injEq] at e
      exact (A hv).2.2.2 k hk e
    have o1 := Classical.not_not.1 fun h => Bool.noConfusion (hbv.2 h)
    simp (config := { maxSteps := 2000000 }) only [bitvec_to_nat, reduceIte, Nat.reduceEqDiff, Nat.reduceAdd, Nat.reduceLeDiff, reduceCtorEq, Nat.reduceBEq, Nat.reduceLT, Nat.reduceMod, List.forall_mem_cons, t_within, t_isName, t_iCell, t_iBlock, t_iLess, t_iMeets, t_places, t_runway, tk_map, dp_map, toNat_pred, appE, rowsOf, List.take_length, List.length_cons, List.length_nil, Nat.zero_add, srow, irow, un_s, un_i, Zone.row, Zone_eta, un_Zone, Pt.row, Pt_eta, un_Pt, Aw.row, Aw_eta, un_Aw, Blk.row, Blk_eta, un_Blk, Sec.row, Sec_eta, un_Sec, Rw.row, Rw_eta, un_Rw, Sky_eta, lookE, msetE, find_str, find_cell, keyP_str, keyP_cell, put_str, put_cell]
    have e1 := take_map_snoc (f := fun p : Pt => p.nm) (l := s.pts) (i := i) (by omega)
    have e2 := take_map_snoc (f := fun p : Pt => (p.x, p.y)) (l := s.pts) (i := i) (by omega)
    have hb := o1.2.2.1
    unfold inSky at hb; unfold dims at hd
    have hn := o1.1.1
    refine ⟨by omega, by omega, by omega, ?_⟩
    refine hN (i + 1) _ (by simp only [e1, e2, List.length_append, List.length_cons, List.length_nil, Nat.zero_add, List.map_append, List.map_cons, List.map_nil, u_E0, u_E1, u_M0, u_M1, w_setE0, w_setE1, w_setM0, w_setM1, reduceIte, Nat.reduceEqDiff]; exact ⟨by repeat' (first | exact trivial | refine ⟨.inr rfl, ?_⟩), by repeat' (first | exact trivial | refine ⟨rfl, ?_⟩), by first | rfl | simp [closedB, refsIn, refsInL, refsInO, dom, refsInL_nr, *], by first | rfl | simp [keepB, dom]⟩) ?_ ?_
    · refine ⟨by omega, all_snoc hi.2 ⟨o1.1, o1.2.1, o1.2.2.1, fun k hk e => o1.2.2.2 (hc.2 ⟨k, hk, by rw [e.1, e.2]⟩)⟩⟩
    · omega
  -- airways
  have e : i = s.pts.length := by omega
  subst e
  have hpts := hi.2
  clear hi hN NX
  simp only [List.take_length]
  refine loop_st (fun i : Nat => [(122, .int .i64 i)]) (fun _ => []) (fun i => i ≤ s.aws.length ∧ ∀ j, j < i → awAt s.pts s.aws j) (fun i => s.aws.length - i) (0) (by simp only [u_E0, u_E1, u_M0, u_M1, w_setE0, w_setE1, w_setM0, w_setM1, reduceIte, Nat.reduceEqDiff]; exact ⟨by repeat' (first | exact trivial | refine ⟨.inr rfl, ?_⟩), by repeat' (first | exact trivial | refine ⟨rfl, ?_⟩), by first | rfl | simp [closedB, refsIn, refsInL, refsInO, dom, refsInL_nr, *], by first | rfl | simp [keepB, dom]⟩) ?_ ?_
  · exact ⟨Nat.zero_le _, by intro j hj; omega⟩
  intro i hi NX hN
  unfold l_impl_SkyValid_2; simp (config := { maxSteps := 2000000 }) only [bitvec_to_nat, reduceIte, Nat.reduceEqDiff, Nat.reduceAdd, Nat.reduceLeDiff, reduceCtorEq, Nat.reduceBEq, Nat.reduceLT, Nat.reduceMod, List.forall_mem_cons, t_within, t_isName, t_iCell, t_iBlock, t_iLess, t_iMeets, t_places, t_runway, tk_map, dp_map, toNat_pred, appE, rowsOf, List.take_length, List.length_cons, List.length_nil, Nat.zero_add, srow, irow, un_s, un_i, Zone.row, Zone_eta, un_Zone, Pt.row, Pt_eta, un_Pt, Aw.row, Aw_eta, un_Aw, Blk.row, Blk_eta, un_Blk, Sec.row, Sec_eta, un_Sec, Rw.row, Rw_eta, un_Rw, Sky_eta, lookE, msetE, find_str, find_cell, keyP_str, keyP_cell, put_str, put_cell]
  refine ⟨fun g1 => ⟨by omega, by omega, ?_⟩, fun g1 => ?_⟩
  · have A : s.valid → awAt s.pts s.aws i := fun h => h.2.2.1.2 i (by omega)
    unfold awAt at A
    have hq4 := Sky.small_aw hs (i := i) (by omega)
    have hff : (s.aws.getD i default).fitp := hf.2.1.2 _ (getD_in (by omega))
    refine pc_impl_SkyValid_2 s i (by omega) hs2 fun bv hbv => ?_
    cases bv
    case true =>
      simp (config := { maxSteps := 2000000 }) only [bitvec_to_nat, reduceIte, Nat.reduceEqDiff, Nat.reduceAdd, Nat.reduceLeDiff, reduceCtorEq, Nat.reduceBEq, Nat.reduceLT, Nat.reduceMod, List.forall_mem_cons, t_within, t_isName, t_iCell, t_iBlock, t_iLess, t_iMeets, t_places, t_runway, tk_map, dp_map, toNat_pred, appE, rowsOf, List.take_length, List.length_cons, List.length_nil, Nat.zero_add, srow, irow, un_s, un_i, Zone.row, Zone_eta, un_Zone, Pt.row, Pt_eta, un_Pt, Aw.row, Aw_eta, un_Aw, Blk.row, Blk_eta, un_Blk, Sec.row, Sec_eta, un_Sec, Rw.row, Rw_eta, un_Rw, Sky_eta, lookE, msetE, find_str, find_cell, keyP_str, keyP_cell, put_str, put_cell]
      exact fun hv => (hbv.1 rfl) ⟨(A hv).1, (A hv).2.1, (A hv).2.2.1⟩
    have o1 := Classical.not_not.1 fun h => Bool.noConfusion (hbv.2 h)
    simp (config := { maxSteps := 2000000 }) only [bitvec_to_nat, reduceIte, Nat.reduceEqDiff, Nat.reduceAdd, Nat.reduceLeDiff, reduceCtorEq, Nat.reduceBEq, Nat.reduceLT, Nat.reduceMod, List.forall_mem_cons, t_within, t_isName, t_iCell, t_iBlock, t_iLess, t_iMeets, t_places, t_runway, tk_map, dp_map, toNat_pred, appE, rowsOf, List.take_length, List.length_cons, List.length_nil, Nat.zero_add, srow, irow, un_s, un_i, Zone.row, Zone_eta, un_Zone, Pt.row, Pt_eta, un_Pt, Aw.row, Aw_eta, un_Aw, Blk.row, Blk_eta, un_Blk, Sec.row, Sec_eta, un_Sec, Rw.row, Rw_eta, un_Rw, Sky_eta, lookE, msetE, find_str, find_cell, keyP_str, keyP_cell, put_str, put_cell]
    refine loop_st (fun k : Nat => [(158, .int .i64 k)]) (fun k => [(254, .mp 0 (setOf AV.str ((s.aws.getD i default).pts.take k)))]) (fun k => k ≤ (s.aws.getD i default).pts.length ∧ ∀ j, j < k → awPt s.pts (s.aws.getD i default).pts j) (fun k => (s.aws.getD i default).pts.length - k) (0) (by simp only [u_E0, u_E1, u_M0, u_M1, w_setE0, w_setE1, w_setM0, w_setM1, reduceIte, Nat.reduceEqDiff]; exact ⟨by repeat' (first | exact trivial | refine ⟨.inr rfl, ?_⟩), by repeat' (first | exact trivial | refine ⟨rfl, ?_⟩), by first | rfl | simp [closedB, refsIn, refsInL, refsInO, dom, refsInL_nr, *], by first | rfl | simp [keepB, dom]⟩) ?_ ?_
    · exact ⟨Nat.zero_le _, by intro j hj; omega⟩
    intro k hk NX2 hN2
    unfold l_impl_SkyValid_1; simp (config := { maxSteps := 2000000 }) only [bitvec_to_nat, reduceIte, Nat.reduceEqDiff, Nat.reduceAdd, Nat.reduceLeDiff, reduceCtorEq, Nat.reduceBEq, Nat.reduceLT, Nat.reduceMod, List.forall_mem_cons, t_within, t_isName, t_iCell, t_iBlock, t_iLess, t_iMeets, t_places, t_runway, tk_map, dp_map, toNat_pred, appE, rowsOf, List.take_length, List.length_cons, List.length_nil, Nat.zero_add, srow, irow, un_s, un_i, Zone.row, Zone_eta, un_Zone, Pt.row, Pt_eta, un_Pt, Aw.row, Aw_eta, un_Aw, Blk.row, Blk_eta, un_Blk, Sec.row, Sec_eta, un_Sec, Rw.row, Rw_eta, un_Rw, Sky_eta, lookE, msetE, find_str, find_cell, keyP_str, keyP_cell, put_str, put_cell]
    refine ⟨fun g2 => ?_, fun g2 => ⟨by omega, ?_⟩⟩
    · have hlen := hff.2.2 _ (getD_in (l := (s.aws.getD i default).pts) (i := k) (by omega))
      have hin := isIn_take (l := (s.aws.getD i default).pts) (i := k) (by omega) (q := (s.aws.getD i default).pts.getD k default)
      refine ⟨by omega, by omega, hlen, fun g3 => ⟨hlen, fun g4 hv => ?_, fun g4 => ⟨hlen, by omega, ?_⟩⟩, fun g3 hv => ?_⟩
      · obtain ⟨j, hj, e⟩ := hin.1 g4
        exact ((A hv).2.2.2 k (by omega)).2 j hj e
      · have e1 := take_snoc (l := (s.aws.getD i default).pts) (i := k) (by omega)
        refine hN2 (k + 1) _ (by simp only [e1, List.length_append, List.length_cons, List.length_nil, Nat.zero_add, List.map_append, List.map_cons, List.map_nil, u_E0, u_E1, u_M0, u_M1, w_setE0, w_setE1, w_setM0, w_setM1, reduceIte, Nat.reduceEqDiff]; exact ⟨by repeat' (first | exact trivial | refine ⟨.inr rfl, ?_⟩), by repeat' (first | exact trivial | refine ⟨rfl, ?_⟩), by first | rfl | simp [closedB, refsIn, refsInL, refsInO, dom, refsInL_nr, *], by first | rfl | simp [keepB, dom]⟩) ?_ ?_
        · exact ⟨by omega, all_snoc hk.2 ⟨isIn_nm.1 g3, fun j hj e => g4 (hin.2 ⟨j, hj, e⟩)⟩⟩
        · omega
      · exact g3 (isIn_nm.2 ((A hv).2.2.2 k (by omega)).1)
    · refine hN (i + 1) _ (by simp only [u_E0, u_E1, u_M0, u_M1, w_setE0, w_setE1, w_setM0, w_setM1, reduceIte, Nat.reduceEqDiff]; exact ⟨by repeat' (first | exact trivial | refine ⟨.inr rfl, ?_⟩), by repeat' (first | exact trivial | refine ⟨rfl, ?_⟩), by first | rfl | simp [closedB, refsIn, refsInL, refsInO, dom, refsInL_nr, *], by first | rfl | simp [keepB, dom]⟩) ?_ ?_
      · exact ⟨by omega, all_snoc hi.2 ⟨o1.1, o1.2.1, o1.2.2, fun k' hk' => hk.2 k' (by omega)⟩⟩
      · omega
  -- sectors
  have e : i = s.aws.length := by omega
  subst e
  have haws := hi.2
  clear hi hN NX
  refine loop_st (fun i : Nat => [(13, .own 113 (blocks (s.secs.take i)).length 0 (blocks (s.secs.take i)).length), (14, .int .i64 (vols (blocks (s.secs.take i)))), (178, .int .i64 i)]) (fun i => [(113, .arr 113 (blocks (s.secs.take i)).length 6 ((blocks (s.secs.take i)).map Blk.row))]) (fun i => i ≤ s.secs.length ∧ (∀ j, j < i → secAt s.w s.h s.lv s.secs j) ∧ apart (blocks (s.secs.take i))) (fun i => s.secs.length - i) (0) (by simp only [u_E0, u_E1, u_M0, u_M1, w_setE0, w_setE1, w_setM0, w_setM1, reduceIte, Nat.reduceEqDiff]; exact ⟨by repeat' (first | exact trivial | refine ⟨.inr rfl, ?_⟩), by repeat' (first | exact trivial | refine ⟨rfl, ?_⟩), by first | rfl | simp [closedB, refsIn, refsInL, refsInO, dom, refsInL_nr, *], by first | rfl | simp [keepB, dom]⟩) ?_ ?_
  · exact ⟨Nat.zero_le _, (by intro j hj; omega), List.Pairwise.nil⟩
  intro i hi NX hN
  unfold l_impl_SkyValid_5; simp (config := { maxSteps := 2000000 }) only [bitvec_to_nat, reduceIte, Nat.reduceEqDiff, Nat.reduceAdd, Nat.reduceLeDiff, reduceCtorEq, Nat.reduceBEq, Nat.reduceLT, Nat.reduceMod, List.forall_mem_cons, t_within, t_isName, t_iCell, t_iBlock, t_iLess, t_iMeets, t_places, t_runway, tk_map, dp_map, toNat_pred, appE, rowsOf, List.take_length, List.length_cons, List.length_nil, Nat.zero_add, srow, irow, un_s, un_i, Zone.row, Zone_eta, un_Zone, Pt.row, Pt_eta, un_Pt, Aw.row, Aw_eta, un_Aw, Blk.row, Blk_eta, un_Blk, Sec.row, Sec_eta, un_Sec, Rw.row, Rw_eta, un_Rw, Sky_eta, lookE, msetE, find_str, find_cell, keyP_str, keyP_cell, put_str, put_cell]
  refine ⟨fun g1 => ⟨by omega, by omega, ?_⟩, fun g1 => ?_⟩
  · have A : s.valid → secAt s.w s.h s.lv s.secs i := fun h => h.2.2.2.1.2 i (by omega)
    unfold secAt at A
    have hq4 := Sky.small_sec hs (i := i) (by omega)
    have hbl := blocks_len' (l := s.secs) (i := i) (by omega) fun j hj => (hi.2.1 j hj).2.2.1.2
    refine pc_impl_SkyValid_3 s i _ (by omega) hs3 fun bv hbv => ?_
    cases bv
    case true =>
      simp (config := { maxSteps := 2000000 }) only [bitvec_to_nat, reduceIte, Nat.reduceEqDiff, Nat.reduceAdd, Nat.reduceLeDiff, reduceCtorEq, Nat.reduceBEq, Nat.reduceLT, Nat.reduceMod, List.forall_mem_cons, t_within, t_isName, t_iCell, t_iBlock, t_iLess, t_iMeets, t_places, t_runway, tk_map, dp_map, toNat_pred, appE, rowsOf, List.take_length, List.length_cons, List.length_nil, Nat.zero_add, srow, irow, un_s, un_i, Zone.row, Zone_eta, un_Zone, Pt.row, Pt_eta, un_Pt, Aw.row, Aw_eta, un_Aw, Blk.row, Blk_eta, un_Blk, Sec.row, Sec_eta, un_Sec, Rw.row, Rw_eta, un_Rw, Sky_eta, lookE, msetE, find_str, find_cell, keyP_str, keyP_cell, put_str, put_cell]
      exact fun hv => (hbv.1 rfl) ⟨(A hv).1, (A hv).2.1, (A hv).2.2.1⟩
    have o1 := Classical.not_not.1 fun h => Bool.noConfusion (hbv.2 h)
    simp (config := { maxSteps := 2000000 }) only [bitvec_to_nat, reduceIte, Nat.reduceEqDiff, Nat.reduceAdd, Nat.reduceLeDiff, reduceCtorEq, Nat.reduceBEq, Nat.reduceLT, Nat.reduceMod, List.forall_mem_cons, t_within, t_isName, t_iCell, t_iBlock, t_iLess, t_iMeets, t_places, t_runway, tk_map, dp_map, toNat_pred, appE, rowsOf, List.take_length, List.length_cons, List.length_nil, Nat.zero_add, srow, irow, un_s, un_i, Zone.row, Zone_eta, un_Zone, Pt.row, Pt_eta, un_Pt, Aw.row, Aw_eta, un_Aw, Blk.row, Blk_eta, un_Blk, Sec.row, Sec_eta, un_Sec, Rw.row, Rw_eta, un_Rw, Sky_eta, lookE, msetE, find_str, find_cell, keyP_str, keyP_cell, put_str, put_cell]
    rw [← pre_zero (l := s.secs) (i := i)]
    refine loop_st (fun k : Nat => [(13, .own 113 (pre s.secs i k).length 0 (pre s.secs i k).length), (14, .int .i64 (vols (pre s.secs i k))), (213, .int .i64 k)]) (fun k => [(113, .arr 113 (pre s.secs i k).length 6 ((pre s.secs i k).map Blk.row))]) (fun k => k ≤ (s.secs.getD i default).bl.length ∧ (∀ j, j < k → blkAt s.w s.h s.lv (s.secs.getD i default).bl j) ∧ apart (pre s.secs i k)) (fun k => (s.secs.getD i default).bl.length - k) (0) (by simp only [u_E0, u_E1, u_M0, u_M1, w_setE0, w_setE1, w_setM0, w_setM1, reduceIte, Nat.reduceEqDiff]; exact ⟨by repeat' (first | exact trivial | refine ⟨.inr rfl, ?_⟩), by repeat' (first | exact trivial | refine ⟨rfl, ?_⟩), by first | rfl | simp [closedB, refsIn, refsInL, refsInO, dom, refsInL_nr, *], by first | rfl | simp [keepB, dom]⟩) ?_ ?_
    · exact ⟨Nat.zero_le _, (by intro j hj; omega), by rw [pre_zero]; exact hi.2.2⟩
    intro k hk NX2 hN2
    unfold l_impl_SkyValid_4; simp (config := { maxSteps := 2000000 }) only [bitvec_to_nat, reduceIte, Nat.reduceEqDiff, Nat.reduceAdd, Nat.reduceLeDiff, reduceCtorEq, Nat.reduceBEq, Nat.reduceLT, Nat.reduceMod, List.forall_mem_cons, t_within, t_isName, t_iCell, t_iBlock, t_iLess, t_iMeets, t_places, t_runway, tk_map, dp_map, toNat_pred, appE, rowsOf, List.take_length, List.length_cons, List.length_nil, Nat.zero_add, srow, irow, un_s, un_i, Zone.row, Zone_eta, un_Zone, Pt.row, Pt_eta, un_Pt, Aw.row, Aw_eta, un_Aw, Blk.row, Blk_eta, un_Blk, Sec.row, Sec_eta, un_Sec, Rw.row, Rw_eta, un_Rw, Sky_eta, lookE, msetE, find_str, find_cell, keyP_str, keyP_cell, put_str, put_cell]
    refine ⟨fun g2 => ⟨by omega, by omega, ?_⟩, fun g2 => ?_⟩
    · refine pc_impl_SkyValid_4 s i k _ (by omega) hq4 fun bv hbv => ?_
      cases bv
      case true =>
        simp (config := { maxSteps := 2000000 }) only [bitvec_to_nat, reduceIte, Nat.reduceEqDiff, Nat.reduceAdd, Nat.reduceLeDiff, reduceCtorEq, Nat.reduceBEq, Nat.reduceLT, Nat.reduceMod, List.forall_mem_cons, t_within, t_isName, t_iCell, t_iBlock, t_iLess, t_iMeets, t_places, t_runway, tk_map, dp_map, toNat_pred, appE, rowsOf, List.take_length, List.length_cons, List.length_nil, Nat.zero_add, srow, irow, un_s, un_i, Zone.row, Zone_eta, un_Zone, Pt.row, Pt_eta, un_Pt, Aw.row, Aw_eta, un_Aw, Blk.row, Blk_eta, un_Blk, Sec.row, Sec_eta, un_Sec, Rw.row, Rw_eta, un_Rw, Sky_eta, lookE, msetE, find_str, find_cell, keyP_str, keyP_cell, put_str, put_cell]
        exact fun hv => (hbv.1 rfl) ((A hv).2.2.2 k (by omega))
      have o2 := Classical.not_not.1 fun h => Bool.noConfusion (hbv.2 h)
      have hpl : (pre s.secs i k).length ≤ 28 := by unfold pre; rw [List.length_append, List.length_take]; omega
      simp (config := { maxSteps := 2000000 }) only [bitvec_to_nat, reduceIte, Nat.reduceEqDiff, Nat.reduceAdd, Nat.reduceLeDiff, reduceCtorEq, Nat.reduceBEq, Nat.reduceLT, Nat.reduceMod, List.forall_mem_cons, t_within, t_isName, t_iCell, t_iBlock, t_iLess, t_iMeets, t_places, t_runway, tk_map, dp_map, toNat_pred, appE, rowsOf, List.take_length, List.length_cons, List.length_nil, Nat.zero_add, srow, irow, un_s, un_i, Zone.row, Zone_eta, un_Zone, Pt.row, Pt_eta, un_Pt, Aw.row, Aw_eta, un_Aw, Blk.row, Blk_eta, un_Blk, Sec.row, Sec_eta, un_Sec, Rw.row, Rw_eta, un_Rw, Sky_eta, lookE, msetE, find_str, find_cell, keyP_str, keyP_cell, put_str, put_cell]
      refine loop_st (fun j : Nat => [(239, .int .i64 j)]) (fun _ => []) (fun j => j ≤ (pre s.secs i k).length ∧ ∀ q, q < j → ¬ ((pre s.secs i k).getD q default).meet ((s.secs.getD i default).bl.getD k default)) (fun j => (pre s.secs i k).length - j) (0) (by simp only [u_E0, u_E1, u_M0, u_M1, w_setE0, w_setE1, w_setM0, w_setM1, reduceIte, Nat.reduceEqDiff]; exact ⟨by repeat' (first | exact trivial | refine ⟨.inr rfl, ?_⟩), by repeat' (first | exact trivial | refine ⟨rfl, ?_⟩), by first | rfl | simp [closedB, refsIn, refsInL, refsInO, dom, refsInL_nr, *], by first | rfl | simp [keepB, dom]⟩) ?_ ?_
      · exact ⟨Nat.zero_le _, by intro j hj; omega⟩
      intro j hj NX3 hN3
      unfold l_impl_SkyValid_3; simp (config := { maxSteps := 2000000 }) only [bitvec_to_nat, reduceIte, Nat.reduceEqDiff, Nat.reduceAdd, Nat.reduceLeDiff, reduceCtorEq, Nat.reduceBEq, Nat.reduceLT, Nat.reduceMod, List.forall_mem_cons, t_within, t_isName, t_iCell, t_iBlock, t_iLess, t_iMeets, t_places, t_runway, tk_map, dp_map, toNat_pred, appE, rowsOf, List.take_length, List.length_cons, List.length_nil, Nat.zero_add, srow, irow, un_s, un_i, Zone.row, Zone_eta, un_Zone, Pt.row, Pt_eta, un_Pt, Aw.row, Aw_eta, un_Aw, Blk.row, Blk_eta, un_Blk, Sec.row, Sec_eta, un_Sec, Rw.row, Rw_eta, un_Rw, Sky_eta, lookE, msetE, find_str, find_cell, keyP_str, keyP_cell, put_str, put_cell]
      refine ⟨fun g3 => ⟨⟨by omega, by omega⟩, by omega, fun g4 hv => ?_, fun g4 => ⟨by omega, ?_⟩⟩, fun g3 => ?_⟩
      · have h1 := apart_iff.1 hv.2.2.2.2.1.1
        have h2 : apart (pre s.secs i (k + 1)) := h1.sublist (pre_sub (by omega))
        rw [pre_snoc (by omega)] at h2
        exact (apart_snoc.1 h2).2 j (by omega) g4
      · refine hN3 (j + 1) _ (by simp only [u_E0, u_E1, u_M0, u_M1, w_setE0, w_setE1, w_setM0, w_setM1, reduceIte, Nat.reduceEqDiff]; exact ⟨by repeat' (first | exact trivial | refine ⟨.inr rfl, ?_⟩), by repeat' (first | exact trivial | refine ⟨rfl, ?_⟩), by first | rfl | simp [closedB, refsIn, refsInL, refsInO, dom, refsInL_nr, *], by first | rfl | simp [keepB, dom]⟩) ?_ ?_
        · exact ⟨by omega, all_snoc hj.2 g4⟩
        · omega
      · have hbo := o2.1
        have hvb := vol_bd hd hbo
        have hvs := vols_bd hd (pre_ok (l := s.secs) (i := i) (k := k) (by omega) hi.2.1 (by omega) hk.2.1)
        have e1 := pre_snoc (l := s.secs) (i := i) (k := k) (by omega)
        refine ⟨by omega, ⟨_, _, _, hd, hbo⟩, by omega, by omega, ?_⟩
        refine hN2 (k + 1) _ (by simp only [e1, vols_app, List.length_append, List.length_cons, List.length_nil, Nat.zero_add, List.map_append, List.map_cons, List.map_nil, u_E0, u_E1, u_M0, u_M1, w_setE0, w_setE1, w_setM0, w_setM1, reduceIte, Nat.reduceEqDiff]; exact ⟨by repeat' (first | exact trivial | refine ⟨.inr rfl, ?_⟩), by repeat' (first | exact trivial | refine ⟨rfl, ?_⟩), by first | rfl | simp [closedB, refsIn, refsInL, refsInO, dom, refsInL_nr, *], by first | rfl | simp [keepB, dom]⟩) ?_ ?_
        · exact ⟨by omega, all_snoc hk.2.1 o2, by rw [e1]; exact apart_snoc.2 ⟨hk.2.2, fun q hq => hj.2 q (by omega)⟩⟩
        · omega
    · have e1 : pre s.secs i k = blocks (s.secs.take (i + 1)) := by rw [← pre_end (by omega)]; congr 1; omega
      have hap := hk.2.2
      simp only [e1] at hap ⊢
      refine ⟨by omega, ?_⟩
      refine hN (i + 1) _ (by simp only [u_E0, u_E1, u_M0, u_M1, w_setE0, w_setE1, w_setM0, w_setM1, reduceIte, Nat.reduceEqDiff]; exact ⟨by repeat' (first | exact trivial | refine ⟨.inr rfl, ?_⟩), by repeat' (first | exact trivial | refine ⟨rfl, ?_⟩), by first | rfl | simp [closedB, refsIn, refsInL, refsInO, dom, refsInL_nr, *], by first | rfl | simp [keepB, dom]⟩) ?_ ?_
      · exact ⟨by omega, all_snoc hi.2.1 ⟨o1.1, o1.2.1, o1.2.2, fun k' hk' => hk.2.1 k' (by omega)⟩, hap⟩
      · omega
  -- how many places
  have e : i = s.secs.length := by omega
  subst e
  have hsecs := hi.2.1
  have hap := hi.2.2
  clear hi hN NX
  simp only [List.take_length] at hap ⊢
  refine pc_impl_SkyValid_5 s _ _ hmul fun bv hbv => ?_
  cases bv
  case true =>
    simp (config := { maxSteps := 2000000 }) only [bitvec_to_nat, reduceIte, Nat.reduceEqDiff, Nat.reduceAdd, Nat.reduceLeDiff, reduceCtorEq, Nat.reduceBEq, Nat.reduceLT, Nat.reduceMod, List.forall_mem_cons, t_within, t_isName, t_iCell, t_iBlock, t_iLess, t_iMeets, t_places, t_runway, tk_map, dp_map, toNat_pred, appE, rowsOf, List.take_length, List.length_cons, List.length_nil, Nat.zero_add, srow, irow, un_s, un_i, Zone.row, Zone_eta, un_Zone, Pt.row, Pt_eta, un_Pt, Aw.row, Aw_eta, un_Aw, Blk.row, Blk_eta, un_Blk, Sec.row, Sec_eta, un_Sec, Rw.row, Rw_eta, un_Rw, Sky_eta, lookE, msetE, find_str, find_cell, keyP_str, keyP_cell, put_str, put_cell]
    exact fun hv => (hbv.1 rfl) hv.2.2.2.2.1.2
  have o5 := Classical.not_not.1 fun h => Bool.noConfusion (hbv.2 h)
  simp (config := { maxSteps := 2000000 }) only [bitvec_to_nat, reduceIte, Nat.reduceEqDiff, Nat.reduceAdd, Nat.reduceLeDiff, reduceCtorEq, Nat.reduceBEq, Nat.reduceLT, Nat.reduceMod, List.forall_mem_cons, t_within, t_isName, t_iCell, t_iBlock, t_iLess, t_iMeets, t_places, t_runway, tk_map, dp_map, toNat_pred, appE, rowsOf, List.take_length, List.length_cons, List.length_nil, Nat.zero_add, srow, irow, un_s, un_i, Zone.row, Zone_eta, un_Zone, Pt.row, Pt_eta, un_Pt, Aw.row, Aw_eta, un_Aw, Blk.row, Blk_eta, un_Blk, Sec.row, Sec_eta, un_Sec, Rw.row, Rw_eta, un_Rw, Sky_eta, lookE, msetE, find_str, find_cell, keyP_str, keyP_cell, put_str, put_cell]
  -- runways
  refine loop_st (fun i : Nat => [(271, .int .i64 i)]) (fun i => [(367, .mp 2 (setOf cellKey ((s.rws.take i).map fun r => (r.x, r.y))))]) (fun i => i ≤ s.rws.length ∧ ∀ j, j < i → rwAt s.w s.h s.rws j) (fun i => s.rws.length - i) (0) (by simp only [u_E0, u_E1, u_M0, u_M1, w_setE0, w_setE1, w_setM0, w_setM1, reduceIte, Nat.reduceEqDiff]; exact ⟨by repeat' (first | exact trivial | refine ⟨.inr rfl, ?_⟩), by repeat' (first | exact trivial | refine ⟨rfl, ?_⟩), by first | rfl | simp [closedB, refsIn, refsInL, refsInO, dom, refsInL_nr, *], by first | rfl | simp [keepB, dom]⟩) ?_ ?_
  · exact ⟨Nat.zero_le _, by intro j hj; omega⟩
  intro i hi NX hN
  unfold l_impl_SkyValid_6; simp (config := { maxSteps := 2000000 }) only [bitvec_to_nat, reduceIte, Nat.reduceEqDiff, Nat.reduceAdd, Nat.reduceLeDiff, reduceCtorEq, Nat.reduceBEq, Nat.reduceLT, Nat.reduceMod, List.forall_mem_cons, t_within, t_isName, t_iCell, t_iBlock, t_iLess, t_iMeets, t_places, t_runway, tk_map, dp_map, toNat_pred, appE, rowsOf, List.take_length, List.length_cons, List.length_nil, Nat.zero_add, srow, irow, un_s, un_i, Zone.row, Zone_eta, un_Zone, Pt.row, Pt_eta, un_Pt, Aw.row, Aw_eta, un_Aw, Blk.row, Blk_eta, un_Blk, Sec.row, Sec_eta, un_Sec, Rw.row, Rw_eta, un_Rw, Sky_eta, lookE, msetE, find_str, find_cell, keyP_str, keyP_cell, put_str, put_cell]
  refine ⟨fun g1 => ⟨by omega, by omega, ?_⟩, fun g1 => ?_⟩
  · have A : s.valid → rwAt s.w s.h s.rws i := fun h => h.2.2.2.2.2.2 i (by omega)
    unfold rwAt at A
    have hc := isIn_cell (f := fun p : Rw => (p.x, p.y)) (l := s.rws) (i := i) (by omega) (q := ((s.rws.getD i default).x, (s.rws.getD i default).y))
    refine pc_impl_SkyValid_6 s i _ _ (by omega) hs4 hd fun bv hbv => ?_
    cases bv
    case true =>
      simp (config := { maxSteps := 2000000 }) only [bitvec_to_nat, reduceIte, Nat.reduceEqDiff, Nat.reduceAdd, Nat.reduceLeDiff, reduceCtorEq, Nat.reduceBEq, Nat.reduceLT, Nat.reduceMod, List.forall_mem_cons, t_within, t_isName, t_iCell, t_iBlock, t_iLess, t_iMeets, t_places, t_runway, tk_map, dp_map, toNat_pred, appE, rowsOf, List.take_length, List.length_cons, List.length_nil, Nat.zero_add, srow, irow, un_s, un_i, Zone.row, Zone_eta, un_Zone, Pt.row, Pt_eta, un_Pt, Aw.row, Aw_eta, un_Aw, Blk.row, Blk_eta, un_Blk, Sec.row, Sec_eta, un_Sec, Rw.row, Rw_eta, un_Rw, Sky_eta, lookE, msetE, find_str, find_cell, keyP_str, keyP_cell, put_str, put_cell]
      refine fun hv => (hbv.1 rfl) ⟨(A hv).1, (A hv).2.1, (A hv).2.2.1, fun h => ?_⟩
      obtain ⟨k, hk, e⟩ := hc.1 h
      simp only [Prod.mk.injEq] at e
      exact (A hv).2.2.2 k hk e
    have o1 := Classical.not_not.1 fun h => Bool.noConfusion (hbv.2 h)
    simp (config := { maxSteps := 2000000 }) only [bitvec_to_nat, reduceIte, Nat.reduceEqDiff, Nat.reduceAdd, Nat.reduceLeDiff, reduceCtorEq, Nat.reduceBEq, Nat.reduceLT, Nat.reduceMod, List.forall_mem_cons, t_within, t_isName, t_iCell, t_iBlock, t_iLess, t_iMeets, t_places, t_runway, tk_map, dp_map, toNat_pred, appE, rowsOf, List.take_length, List.length_cons, List.length_nil, Nat.zero_add, srow, irow, un_s, un_i, Zone.row, Zone_eta, un_Zone, Pt.row, Pt_eta, un_Pt, Aw.row, Aw_eta, un_Aw, Blk.row, Blk_eta, un_Blk, Sec.row, Sec_eta, un_Sec, Rw.row, Rw_eta, un_Rw, Sky_eta, lookE, msetE, find_str, find_cell, keyP_str, keyP_cell, put_str, put_cell]
    have e2 := take_map_snoc (f := fun p : Rw => (p.x, p.y)) (l := s.rws) (i := i) (by omega)
    have hb := o1.2.2.1.2.1
    unfold inSky at hb; unfold dims at hd
    refine ⟨by omega, by omega, ?_⟩
    refine hN (i + 1) _ (by simp only [e2, List.length_append, List.length_cons, List.length_nil, Nat.zero_add, List.map_append, List.map_cons, List.map_nil, u_E0, u_E1, u_M0, u_M1, w_setE0, w_setE1, w_setM0, w_setM1, reduceIte, Nat.reduceEqDiff]; exact ⟨by repeat' (first | exact trivial | refine ⟨.inr rfl, ?_⟩), by repeat' (first | exact trivial | refine ⟨rfl, ?_⟩), by first | rfl | simp [closedB, refsIn, refsInL, refsInO, dom, refsInL_nr, *], by first | rfl | simp [keepB, dom]⟩) ?_ ?_
    · refine ⟨by omega, all_snoc hi.2 ⟨o1.1, o1.2.1, o1.2.2.1, fun k hk e => o1.2.2.2 (hc.2 ⟨k, hk, by rw [e.1, e.2]⟩)⟩⟩
    · omega
  · exact ⟨hd, ⟨l1, hpts⟩, ⟨l2, haws⟩, ⟨l3, hsecs⟩, ⟨apart_iff.2 hap, o5⟩, ⟨l4, fun j hj => hi.2 j (by omega)⟩⟩
def t_iSkyValid : List AV → Option (Prop × AV)
  | [.agg [.int .i64 s_w, .int .i64 s_h, .int .i64 s_lv, .sl 0 3 s_pts, .sl 0 2 s_aws, .sl 0 2 s_secs, .sl 0 4 s_rws]] => some ((((s_pts.map unPt).map Pt.row = s_pts) ∧ ((s_aws.map unAw).map (Aw.row 0) = s_aws) ∧ ((s_secs.map unSec).map (Sec.row 0) = s_secs) ∧ ((s_rws.map unRw).map Rw.row = s_rws)) ∧ ((Sky.mk s_w s_h s_lv (s_pts.map unPt) (s_aws.map unAw) (s_secs.map unSec) (s_rws.map unRw)).small ∧ (Sky.mk s_w s_h s_lv (s_pts.map unPt) (s_aws.map unAw) (s_secs.map unSec) (s_rws.map unRw)).fitp), .bool (decide (Sky.mk s_w s_h s_lv (s_pts.map unPt) (s_aws.map unAw) (s_secs.map unSec) (s_rws.map unRw)).valid))
  | _ => none
theorem h_iSkyValid : ∀ args p v, t_iSkyValid args = some (p, v) → p → Contract P 15 args [] v [] ∧ noref v = true ∧ No99 v := by
  intro args p v h1 h2
  unfold t_iSkyValid at h1
  split at h1
  · rename_i s_w s_h s_lv s_pts s_aws s_secs s_rws
    cases h1
    obtain ⟨⟨e0, e1, e2, e3⟩, HP⟩ := h2
    have := c_iSkyValid (Sky.mk s_w s_h s_lv (s_pts.map unPt) (s_aws.map unAw) (s_secs.map unSec) (s_rws.map unRw)) HP.1 HP.2
    exact ⟨by simpa only [e0, e1, e2, e3, Sky.row] using this, rfl, trivial⟩
  · cases h1
end
end Go.Ve

namespace Go.Ve
noncomputable section
open Go.Proofs
set_option linter.unusedSimpArgs false
set_option linter.unusedVariables false
set_option maxRecDepth 100000
structure Place where
  x : Int
  y : Int
  lv : Int
  deriving Inhabited, DecidableEq
def Place.row (s : Place) : List AV := [.int .i64 s.x, .int .i64 s.y, .int .i64 s.lv]
def unPlace : List AV → Place
  | [.int .i64 vx, .int .i64 vy, .int .i64 vlv] => (Place.mk vx vy vlv)
  | _ => default
theorem unPlace_row (s : Place) : unPlace (Place.row s) = s := by
  cases s; simp only [Place.row, unPlace]
theorem un_Place (l : List Place) : (l.map Place.row).map unPlace = l := by
  rw [List.map_map]; exact List.map_id'' (fun s => unPlace_row s) l
theorem Place_eta (s : Place) : (Place.mk s.x s.y s.lv) = s := (rfl)
theorem no99_Place (l : List Place) : No99LL (l.map Place.row) := by
  induction l with
  | nil => simp [No99LL]
  | cons x l ih => simp only [List.map_cons, No99LL]; exact ⟨by simp [Place.row, No99L, No99], ih⟩
def Blk.has (b : Blk) (x y z : Int) : Prop := (b.x0 ≤ x ∧ x ≤ b.x1) ∧ (b.y0 ≤ y ∧ y ≤ b.y1) ∧ (b.lo ≤ z ∧ z ≤ b.hi)
instance (b : Blk) (x y z : Int) : Decidable (b.has x y z) := by unfold Blk.has; infer_instance
def Sec.has (c : Sec) (x y z : Int) : Prop := ∃ k, k < c.bl.length ∧ (c.bl.getD k default).has x y z
noncomputable instance (c : Sec) (x y z : Int) : Decidable (c.has x y z) := Classical.propDecidable _
/-- The sector that a place is in, -1 if there is none. -/
def secI (l : List Sec) (x y z : Int) : Int := fIdx (fun c => decide (c.has x y z)) l
def vOk (s : Sky) (x y z : Int) : Prop := s.valid ∧ 0 ≤ secI s.secs x y z
noncomputable instance (s : Sky) (x y z : Int) : Decidable (vOk s x y z) := Classical.propDecidable _
end
end Go.Ve

namespace Go.Ve
open Go.Proofs
set_option maxRecDepth 100000
def lO_laws_toSkyAirwayS_0 : SCode := (.seq (.seq (.rg [⟨some 8, .mv (.v 4), none, []⟩, ⟨some 9, .mv (.v 0), none, []⟩, ⟨some 10, .lenL (.v 9), none, [9]⟩, ⟨some 11, .bin .lss (.v 8) (.v 10), none, [8, 10]⟩] [0, 3, 4, 11]) (.cond (.v 11) .skip (.exit 0))) (.seq (.block 1 (.rg [⟨some 14, .mv (.v 3), none, []⟩, ⟨some 15, .mv (.v 4), none, []⟩, ⟨some 16, .mv (.v 0), none, []⟩, ⟨some 17, .mv (.v 4), none, []⟩, ⟨some 18, .iaddr 2 (.v 16) (.v 17), none, [16, 17]⟩, ⟨some 19, .loadN 2 (.v 18), none, [18]⟩, ⟨some 20, .call 130 [.v 19], none, [19]⟩, ⟨some 21, .iaddr 2 (.v 14) (.v 15), none, [14, 15]⟩, ⟨none, .store 2 (.v 21) (.v 20), none, [20, 21]⟩] [0, 3, 4])) (.rg [⟨some 12, .mv (.v 4), none, [4]⟩, ⟨some 13, .binN .add (.v 12) (.c (.int .i64 1)), none, [12]⟩, ⟨some 4, .mv (.v 13), none, [13]⟩] [0, 3, 4])))
/-- laws.toSkyAirwayS: function 71 -/
def sO_laws_toSkyAirwayS : SFun := { n := 23, res := [.t 2], body := (.seq (.rg [⟨some 2, .mv (.c (.sl 0 2 [])), none, [2]⟩] [0]) (.seq (.rg [⟨some 5, .mv (.v 0), none, []⟩, ⟨some 6, .lenL (.v 5), none, [5]⟩, ⟨some 7, .mk 107 1000108 2 [.str ⟨#[]⟩, .sl 0 1 []] (.v 6), none, [6]⟩, ⟨some 3, .mv (.v 7), none, [7]⟩] [0, 3]) (.seq (.seq (.rg [⟨some 4, .mv (.c (.int .i64 0)), none, []⟩] [0, 3, 4]) (.block 0 (.loop lO_laws_toSkyAirwayS_0))) (.seq (.rg [⟨some 22, .mv (.v 3), none, [3]⟩, ⟨some 2, .mv (.v 22), none, [22]⟩] [2]) .ret)))) }
theorem kO_laws_toSkyAirwayS : okFun Go.Proofs.Tryd.prog 71 sO_laws_toSkyAirwayS = true := by kernel_rfl
def lO_laws_toSkySectorS_0 : SCode := (.seq (.seq (.rg [⟨some 8, .mv (.v 4), none, []⟩, ⟨some 9, .mv (.v 0), none, []⟩, ⟨some 10, .lenL (.v 9), none, [9]⟩, ⟨some 11, .bin .lss (.v 8) (.v 10), none, [8, 10]⟩] [0, 3, 4, 11]) (.cond (.v 11) .skip (.exit 0))) (.seq (.block 1 (.rg [⟨some 14, .mv (.v 3), none, []⟩, ⟨some 15, .mv (.v 4), none, []⟩, ⟨some 16, .mv (.v 0), none, []⟩, ⟨some 17, .mv (.v 4), none, []⟩, ⟨some 18, .iaddr 2 (.v 16) (.v 17), none, [16, 17]⟩, ⟨some 19, .loadN 2 (.v 18), none, [18]⟩, ⟨some 20, .call 131 [.v 19], none, [19]⟩, ⟨some 21, .iaddr 2 (.v 14) (.v 15), none, [14, 15]⟩, ⟨none, .store 2 (.v 21) (.v 20), none, [20, 21]⟩] [0, 3, 4])) (.rg [⟨some 12, .mv (.v 4), none, [4]⟩, ⟨some 13, .binN .add (.v 12) (.c (.int .i64 1)), none, [12]⟩, ⟨some 4, .mv (.v 13), none, [13]⟩] [0, 3, 4])))
/-- laws.toSkySectorS: function 72 -/
def sO_laws_toSkySectorS : SFun := { n := 23, res := [.t 2], body := (.seq (.rg [⟨some 2, .mv (.c (.sl 0 2 [])), none, [2]⟩] [0]) (.seq (.rg [⟨some 5, .mv (.v 0), none, []⟩, ⟨some 6, .lenL (.v 5), none, [5]⟩, ⟨some 7, .mk 107 1000111 2 [.str ⟨#[]⟩, .sl 0 6 []] (.v 6), none, [6]⟩, ⟨some 3, .mv (.v 7), none, [7]⟩] [0, 3]) (.seq (.seq (.rg [⟨some 4, .mv (.c (.int .i64 0)), none, []⟩] [0, 3, 4]) (.block 0 (.loop lO_laws_toSkySectorS_0))) (.seq (.rg [⟨some 22, .mv (.v 3), none, [3]⟩, ⟨some 2, .mv (.v 22), none, [22]⟩] [2]) .ret)))) }
theorem kO_laws_toSkySectorS : okFun Go.Proofs.Tryd.prog 72 sO_laws_toSkySectorS = true := by kernel_rfl
def lO_laws_toStringS_0 : SCode := (.seq (.seq (.rg [⟨some 8, .mv (.v 4), none, []⟩, ⟨some 9, .mv (.v 0), none, []⟩, ⟨some 10, .lenL (.v 9), none, [9]⟩, ⟨some 11, .bin .lss (.v 8) (.v 10), none, [8, 10]⟩] [0, 3, 4, 11]) (.cond (.v 11) .skip (.exit 0))) (.seq (.block 1 (.rg [⟨some 14, .mv (.v 3), none, []⟩, ⟨some 15, .mv (.v 4), none, []⟩, ⟨some 16, .mv (.v 0), none, []⟩, ⟨some 17, .mv (.v 4), none, []⟩, ⟨some 18, .iaddr 1 (.v 16) (.v 17), none, [16, 17]⟩, ⟨some 19, .load1 (.v 18), none, [18]⟩, ⟨some 20, .iaddr 1 (.v 14) (.v 15), none, [14, 15]⟩, ⟨none, .store 1 (.v 20) (.v 19), none, [19, 20]⟩] [0, 3, 4])) (.rg [⟨some 12, .mv (.v 4), none, [4]⟩, ⟨some 13, .binN .add (.v 12) (.c (.int .i64 1)), none, [12]⟩, ⟨some 4, .mv (.v 13), none, [13]⟩] [0, 3, 4])))
/-- laws.toStringS: function 41 -/
def sO_laws_toStringS : SFun := { n := 22, res := [.t 2], body := (.seq (.rg [⟨some 2, .mv (.c (.sl 0 1 [])), none, [2]⟩] [0]) (.seq (.rg [⟨some 5, .mv (.v 0), none, []⟩, ⟨some 6, .lenL (.v 5), none, [5]⟩, ⟨some 7, .mk 107 9 1 [.str ⟨#[]⟩] (.v 6), none, [6]⟩, ⟨some 3, .mv (.v 7), none, [7]⟩] [0, 3]) (.seq (.seq (.rg [⟨some 4, .mv (.c (.int .i64 0)), none, []⟩] [0, 3, 4]) (.block 0 (.loop lO_laws_toStringS_0))) (.seq (.rg [⟨some 21, .mv (.v 3), none, [3]⟩, ⟨some 2, .mv (.v 21), none, [21]⟩] [2]) .ret)))) }
theorem kO_laws_toStringS : okFun Go.Proofs.Tryd.prog 41 sO_laws_toStringS = true := by kernel_rfl
def lO_laws_toSkyPointS_0 : SCode := (.seq (.seq (.rg [⟨some 8, .mv (.v 4), none, []⟩, ⟨some 9, .mv (.v 0), none, []⟩, ⟨some 10, .lenL (.v 9), none, [9]⟩, ⟨some 11, .bin .lss (.v 8) (.v 10), none, [8, 10]⟩] [0, 3, 4, 11]) (.cond (.v 11) .skip (.exit 0))) (.seq (.block 1 (.rg [⟨some 14, .mv (.v 3), none, []⟩, ⟨some 15, .mv (.v 4), none, []⟩, ⟨some 16, .mv (.v 0), none, []⟩, ⟨some 17, .mv (.v 4), none, []⟩, ⟨some 18, .iaddr 3 (.v 16) (.v 17), none, [16, 17]⟩, ⟨some 19, .loadN 3 (.v 18), none, [18]⟩, ⟨some 20, .call 129 [.v 19], none, [19]⟩, ⟨some 21, .iaddr 3 (.v 14) (.v 15), none, [14, 15]⟩, ⟨none, .store 3 (.v 21) (.v 20), none, [20, 21]⟩] [0, 3, 4])) (.rg [⟨some 12, .mv (.v 4), none, [4]⟩, ⟨some 13, .binN .add (.v 12) (.c (.int .i64 1)), none, [12]⟩, ⟨some 4, .mv (.v 13), none, [13]⟩] [0, 3, 4])))
/-- laws.toSkyPointS: function 70 -/
def sO_laws_toSkyPointS : SFun := { n := 23, res := [.t 2], body := (.seq (.rg [⟨some 2, .mv (.c (.sl 0 3 [])), none, [2]⟩] [0]) (.seq (.rg [⟨some 5, .mv (.v 0), none, []⟩, ⟨some 6, .lenL (.v 5), none, [5]⟩, ⟨some 7, .mk 107 103 3 [.str ⟨#[]⟩, .int .i64 0, .int .i64 0] (.v 6), none, [6]⟩, ⟨some 3, .mv (.v 7), none, [7]⟩] [0, 3]) (.seq (.seq (.rg [⟨some 4, .mv (.c (.int .i64 0)), none, []⟩] [0, 3, 4]) (.block 0 (.loop lO_laws_toSkyPointS_0))) (.seq (.rg [⟨some 22, .mv (.v 3), none, [3]⟩, ⟨some 2, .mv (.v 22), none, [22]⟩] [2]) .ret)))) }
theorem kO_laws_toSkyPointS : okFun Go.Proofs.Tryd.prog 70 sO_laws_toSkyPointS = true := by kernel_rfl
def lO_laws_toSkyBlockS_0 : SCode := (.seq (.seq (.rg [⟨some 8, .mv (.v 4), none, []⟩, ⟨some 9, .mv (.v 0), none, []⟩, ⟨some 10, .lenL (.v 9), none, [9]⟩, ⟨some 11, .bin .lss (.v 8) (.v 10), none, [8, 10]⟩] [0, 3, 4, 11]) (.cond (.v 11) .skip (.exit 0))) (.seq (.block 1 (.rg [⟨some 14, .mv (.v 3), none, []⟩, ⟨some 15, .mv (.v 4), none, []⟩, ⟨some 16, .mv (.v 0), none, []⟩, ⟨some 17, .mv (.v 4), none, []⟩, ⟨some 18, .iaddr 6 (.v 16) (.v 17), none, [16, 17]⟩, ⟨some 19, .loadN 6 (.v 18), none, [18]⟩, ⟨some 20, .call 169 [.v 19], none, [19]⟩, ⟨some 21, .iaddr 6 (.v 14) (.v 15), none, [14, 15]⟩, ⟨none, .store 6 (.v 21) (.v 20), none, [20, 21]⟩] [0, 3, 4])) (.rg [⟨some 12, .mv (.v 4), none, [4]⟩, ⟨some 13, .binN .add (.v 12) (.c (.int .i64 1)), none, [12]⟩, ⟨some 4, .mv (.v 13), none, [13]⟩] [0, 3, 4])))
/-- laws.toSkyBlockS: function 158 -/
def sO_laws_toSkyBlockS : SFun := { n := 23, res := [.t 2], body := (.seq (.rg [⟨some 2, .mv (.c (.sl 0 6 [])), none, [2]⟩] [0]) (.seq (.rg [⟨some 5, .mv (.v 0), none, []⟩, ⟨some 6, .lenL (.v 5), none, [5]⟩, ⟨some 7, .mk 107 113 6 [.int .i64 0, .int .i64 0, .int .i64 0, .int .i64 0, .int .i64 0, .int .i64 0] (.v 6), none, [6]⟩, ⟨some 3, .mv (.v 7), none, [7]⟩] [0, 3]) (.seq (.seq (.rg [⟨some 4, .mv (.c (.int .i64 0)), none, []⟩] [0, 3, 4]) (.block 0 (.loop lO_laws_toSkyBlockS_0))) (.seq (.rg [⟨some 22, .mv (.v 3), none, [3]⟩, ⟨some 2, .mv (.v 22), none, [22]⟩] [2]) .ret)))) }
theorem kO_laws_toSkyBlockS : okFun Go.Proofs.Tryd.prog 158 sO_laws_toSkyBlockS = true := by kernel_rfl
def lO_laws_toSkyRunwayS_0 : SCode := (.seq (.seq (.rg [⟨some 8, .mv (.v 4), none, []⟩, ⟨some 9, .mv (.v 0), none, []⟩, ⟨some 10, .lenL (.v 9), none, [9]⟩, ⟨some 11, .bin .lss (.v 8) (.v 10), none, [8, 10]⟩] [0, 3, 4, 11]) (.cond (.v 11) .skip (.exit 0))) (.seq (.block 1 (.rg [⟨some 14, .mv (.v 3), none, []⟩, ⟨some 15, .mv (.v 4), none, []⟩, ⟨some 16, .mv (.v 0), none, []⟩, ⟨some 17, .mv (.v 4), none, []⟩, ⟨some 18, .iaddr 4 (.v 16) (.v 17), none, [16, 17]⟩, ⟨some 19, .loadN 4 (.v 18), none, [18]⟩, ⟨some 20, .call 132 [.v 19], none, [19]⟩, ⟨some 21, .iaddr 4 (.v 14) (.v 15), none, [14, 15]⟩, ⟨none, .store 4 (.v 21) (.v 20), none, [20, 21]⟩] [0, 3, 4])) (.rg [⟨some 12, .mv (.v 4), none, [4]⟩, ⟨some 13, .binN .add (.v 12) (.c (.int .i64 1)), none, [12]⟩, ⟨some 4, .mv (.v 13), none, [13]⟩] [0, 3, 4])))
/-- laws.toSkyRunwayS: function 73 -/
def sO_laws_toSkyRunwayS : SFun := { n := 23, res := [.t 2], body := (.seq (.rg [⟨some 2, .mv (.c (.sl 0 4 [])), none, [2]⟩] [0]) (.seq (.rg [⟨some 5, .mv (.v 0), none, []⟩, ⟨some 6, .lenL (.v 5), none, [5]⟩, ⟨some 7, .mk 107 118 4 [.str ⟨#[]⟩, .int .i64 0, .int .i64 0, .int .i64 0] (.v 6), none, [6]⟩, ⟨some 3, .mv (.v 7), none, [7]⟩] [0, 3]) (.seq (.seq (.rg [⟨some 4, .mv (.c (.int .i64 0)), none, []⟩] [0, 3, 4]) (.block 0 (.loop lO_laws_toSkyRunwayS_0))) (.seq (.rg [⟨some 22, .mv (.v 3), none, [3]⟩, ⟨some 2, .mv (.v 22), none, [22]⟩] [2]) .ret)))) }
theorem kO_laws_toSkyRunwayS : okFun Go.Proofs.Tryd.prog 73 sO_laws_toSkyRunwayS = true := by kernel_rfl
def lO_laws_toPlanKindS_0 : SCode := (.seq (.seq (.rg [⟨some 8, .mv (.v 4), none, []⟩, ⟨some 9, .mv (.v 0), none, []⟩, ⟨some 10, .lenL (.v 9), none, [9]⟩, ⟨some 11, .bin .lss (.v 8) (.v 10), none, [8, 10]⟩] [0, 3, 4, 11]) (.cond (.v 11) .skip (.exit 0))) (.seq (.block 1 (.rg [⟨some 14, .mv (.v 3), none, []⟩, ⟨some 15, .mv (.v 4), none, []⟩, ⟨some 16, .mv (.v 0), none, []⟩, ⟨some 17, .mv (.v 4), none, []⟩, ⟨some 18, .iaddr 3 (.v 16) (.v 17), none, [16, 17]⟩, ⟨some 19, .loadN 3 (.v 18), none, [18]⟩, ⟨some 20, .call 111 [.v 19], none, [19]⟩, ⟨some 21, .iaddr 3 (.v 14) (.v 15), none, [14, 15]⟩, ⟨none, .store 3 (.v 21) (.v 20), none, [20, 21]⟩] [0, 3, 4])) (.rg [⟨some 12, .mv (.v 4), none, [4]⟩, ⟨some 13, .binN .add (.v 12) (.c (.int .i64 1)), none, [12]⟩, ⟨some 4, .mv (.v 13), none, [13]⟩] [0, 3, 4])))
/-- laws.toPlanKindS: function 53 -/
def sO_laws_toPlanKindS : SFun := { n := 23, res := [.t 2], body := (.seq (.rg [⟨some 2, .mv (.c (.sl 0 3 [])), none, [2]⟩] [0]) (.seq (.rg [⟨some 5, .mv (.v 0), none, []⟩, ⟨some 6, .lenL (.v 5), none, [5]⟩, ⟨some 7, .mk 107 159 3 [.str ⟨#[]⟩, .int .i64 0, .int .i64 0] (.v 6), none, [6]⟩, ⟨some 3, .mv (.v 7), none, [7]⟩] [0, 3]) (.seq (.seq (.rg [⟨some 4, .mv (.c (.int .i64 0)), none, []⟩] [0, 3, 4]) (.block 0 (.loop lO_laws_toPlanKindS_0))) (.seq (.rg [⟨some 22, .mv (.v 3), none, [3]⟩, ⟨some 2, .mv (.v 22), none, [22]⟩] [2]) .ret)))) }
theorem kO_laws_toPlanKindS : okFun Go.Proofs.Tryd.prog 53 sO_laws_toPlanKindS = true := by kernel_rfl
end Go.Ve

namespace Go.Ve
noncomputable section
open Go.Proofs
set_option linter.unusedSimpArgs false
set_option linter.unusedVariables false
set_option maxRecDepth 100000
theorem c_toByteArraySO (t : Nat) (a : List ByteArray) (ha : a.length ≤ 1048576) : Contract P 41 [.sl t 1 (a.map srow)] [] (.own 107 0 0 a.length) [(107, .arr 9 0 1 (a.map srow))] := by
  have tkA : List.take a.length (a.map srow) = a.map srow := List.take_of_length_le (by simp)
  refine fn_sound (Env.nil P) hm kO_laws_toStringS (Nat.le_of_ble_eq_true rfl) rfl ?_; unfold sO_laws_toStringS; simp (config := { maxSteps := 2000000 }) only [bitvec_to_nat, reduceIte, Nat.reduceEqDiff, Nat.reduceAdd, Nat.reduceLeDiff, reduceCtorEq, Nat.reduceBEq, Nat.reduceLT, Nat.reduceMod, List.forall_mem_cons, retG_ret, retQ_eq, retQ_eqN, retOk, keepB, re_tupl, orr_t, tk_map, dp_map, toNat_pred, appE, rowsOf, List.take_length, List.length_cons, List.length_nil, Nat.zero_add, srow, irow, un_s, un_i, Pt.row, Pt_eta, Aw.row, Aw_eta, Blk.row, Blk_eta, Sec.row, Sec_eta, Rw.row, Rw_eta, Sky.row, Sky_eta, Place.row, Place_eta, un_Pt, un_Aw, un_Blk, un_Sec, un_Rw, un_Sky, un_Place, set_ByteArray, Nat.sub_zero]
  have m0 : List.replicate a.length [.str ⟨#[]⟩] = (to_ByteArray a 0).map srow := by simp [to_ByteArray, srow]
  refine ⟨by omega, ?_⟩
  refine loop_st (fun i : Nat => [(4, .int .i64 i)]) (fun i => [(107, .arr 9 0 1 ((to_ByteArray a i).map srow))]) (fun i => i ≤ a.length) (fun i => a.length - i) 0 (by simp only [u_E0, u_E1, u_M0, u_M1, w_setE0, w_setE1, w_setM0, w_setM1, reduceIte, Nat.reduceEqDiff]; exact ⟨by repeat' (first | exact trivial | refine ⟨.inr rfl, ?_⟩), ⟨congrArg (fun g => some (AObj.arr 9 0 1 g)) m0, trivial⟩, rfl, rfl⟩) (Nat.zero_le _) ?_
  intro i hi NX hN
  unfold lO_laws_toStringS_0; simp (config := { maxSteps := 2000000 }) only [bitvec_to_nat, reduceIte, Nat.reduceEqDiff, Nat.reduceAdd, Nat.reduceLeDiff, reduceCtorEq, Nat.reduceBEq, Nat.reduceLT, Nat.reduceMod, List.forall_mem_cons, retG_ret, retQ_eq, retQ_eqN, retOk, keepB, re_tupl, orr_t, tk_map, dp_map, toNat_pred, appE, rowsOf, List.take_length, List.length_cons, List.length_nil, Nat.zero_add, srow, irow, un_s, un_i, Pt.row, Pt_eta, Aw.row, Aw_eta, Blk.row, Blk_eta, Sec.row, Sec_eta, Rw.row, Rw_eta, Sky.row, Sky_eta, Place.row, Place_eta, un_Pt, un_Aw, un_Blk, un_Sec, un_Rw, un_Sky, un_Place, set_ByteArray, Nat.sub_zero]
  refine ⟨fun h => ?_, fun h => ?_⟩
  · repeat' (first | with_reducible apply And.intro | with_reducible intro _)
    all_goals first
      | omega
      | rfl
      | (have e := to_ByteArray_st (a := a) (i := i) (by omega)
         try simp only [srow] at *
         refine hN (i + 1) _ ⟨by repeat' (first | exact trivial | refine ⟨.inr rfl, ?_⟩), ⟨congrArg (fun g => some (AObj.arr 9 0 1 (List.map srow g))) e, trivial⟩, rfl, rfl⟩ ?_ ?_ <;> omega)
  · have e : i = a.length := by omega
    subst e
    simp only [to_ByteArray, List.take_length, Nat.sub_self, List.replicate_zero, List.append_nil]
    exact ⟨trivial, rfl, rfl⟩
theorem c_toPtSO (t : Nat) (a : List Pt) (ha : a.length ≤ 1048576) : Contract P 70 [.sl t 3 (a.map Pt.row)] [] (.own 107 0 0 a.length) [(107, .arr 103 0 3 (a.map Pt.row))] := by
  have tkA : List.take a.length (a.map Pt.row) = a.map Pt.row := List.take_of_length_le (by simp)
  refine fn_sound ((Env.nil P).add 129 t_toPt h_toPt) hm kO_laws_toSkyPointS (Nat.le_of_ble_eq_true rfl) rfl ?_; unfold sO_laws_toSkyPointS; simp (config := { maxSteps := 2000000 }) only [bitvec_to_nat, reduceIte, Nat.reduceEqDiff, Nat.reduceAdd, Nat.reduceLeDiff, reduceCtorEq, Nat.reduceBEq, Nat.reduceLT, Nat.reduceMod, List.forall_mem_cons, retG_ret, retQ_eq, retQ_eqN, retOk, keepB, re_tupl, orr_t, t_toPt, tk_map, dp_map, toNat_pred, appE, rowsOf, List.take_length, List.length_cons, List.length_nil, Nat.zero_add, srow, irow, un_s, un_i, Pt.row, Pt_eta, Aw.row, Aw_eta, Blk.row, Blk_eta, Sec.row, Sec_eta, Rw.row, Rw_eta, Sky.row, Sky_eta, Place.row, Place_eta, un_Pt, un_Aw, un_Blk, un_Sec, un_Rw, un_Sky, un_Place, set_Pt, Nat.sub_zero]
  have m0 : List.replicate a.length [.str ⟨#[]⟩, .int .i64 0, .int .i64 0] = (to_Pt a 0).map Pt.row := by simp [to_Pt, Pt.row]
  refine ⟨by omega, ?_⟩
  refine loop_st (fun i : Nat => [(4, .int .i64 i)]) (fun i => [(107, .arr 103 0 3 ((to_Pt a i).map Pt.row))]) (fun i => i ≤ a.length) (fun i => a.length - i) 0 (by simp only [u_E0, u_E1, u_M0, u_M1, w_setE0, w_setE1, w_setM0, w_setM1, reduceIte, Nat.reduceEqDiff]; exact ⟨by repeat' (first | exact trivial | refine ⟨.inr rfl, ?_⟩), ⟨congrArg (fun g => some (AObj.arr 103 0 3 g)) m0, trivial⟩, rfl, rfl⟩) (Nat.zero_le _) ?_
  intro i hi NX hN
  unfold lO_laws_toSkyPointS_0; simp (config := { maxSteps := 2000000 }) only [bitvec_to_nat, reduceIte, Nat.reduceEqDiff, Nat.reduceAdd, Nat.reduceLeDiff, reduceCtorEq, Nat.reduceBEq, Nat.reduceLT, Nat.reduceMod, List.forall_mem_cons, retG_ret, retQ_eq, retQ_eqN, retOk, keepB, re_tupl, orr_t, t_toPt, tk_map, dp_map, toNat_pred, appE, rowsOf, List.take_length, List.length_cons, List.length_nil, Nat.zero_add, srow, irow, un_s, un_i, Pt.row, Pt_eta, Aw.row, Aw_eta, Blk.row, Blk_eta, Sec.row, Sec_eta, Rw.row, Rw_eta, Sky.row, Sky_eta, Place.row, Place_eta, un_Pt, un_Aw, un_Blk, un_Sec, un_Rw, un_Sky, un_Place, set_Pt, Nat.sub_zero]
  refine ⟨fun h => ?_, fun h => ?_⟩
  · repeat' (first | with_reducible apply And.intro | with_reducible intro _)
    all_goals first
      | omega
      | rfl
      | (have e := to_Pt_st (a := a) (i := i) (by omega)
         try simp only [Pt.row] at *
         refine hN (i + 1) _ ⟨by repeat' (first | exact trivial | refine ⟨.inr rfl, ?_⟩), ⟨congrArg (fun g => some (AObj.arr 103 0 3 (List.map Pt.row g))) e, trivial⟩, rfl, rfl⟩ ?_ ?_ <;> omega)
  · have e : i = a.length := by omega
    subst e
    simp only [to_Pt, List.take_length, Nat.sub_self, List.replicate_zero, List.append_nil]
    exact ⟨trivial, rfl, rfl⟩
theorem c_toBlkSO (t : Nat) (a : List Blk) (ha : a.length ≤ 1048576) : Contract P 158 [.sl t 6 (a.map Blk.row)] [] (.own 107 0 0 a.length) [(107, .arr 113 0 6 (a.map Blk.row))] := by
  have tkA : List.take a.length (a.map Blk.row) = a.map Blk.row := List.take_of_length_le (by simp)
  refine fn_sound ((Env.nil P).add 169 t_toBlk h_toBlk) hm kO_laws_toSkyBlockS (Nat.le_of_ble_eq_true rfl) rfl ?_; unfold sO_laws_toSkyBlockS; simp (config := { maxSteps := 2000000 }) only [bitvec_to_nat, reduceIte, Nat.reduceEqDiff, Nat.reduceAdd, Nat.reduceLeDiff, reduceCtorEq, Nat.reduceBEq, Nat.reduceLT, Nat.reduceMod, List.forall_mem_cons, retG_ret, retQ_eq, retQ_eqN, retOk, keepB, re_tupl, orr_t, t_toBlk, tk_map, dp_map, toNat_pred, appE, rowsOf, List.take_length, List.length_cons, List.length_nil, Nat.zero_add, srow, irow, un_s, un_i, Pt.row, Pt_eta, Aw.row, Aw_eta, Blk.row, Blk_eta, Sec.row, Sec_eta, Rw.row, Rw_eta, Sky.row, Sky_eta, Place.row, Place_eta, un_Pt, un_Aw, un_Blk, un_Sec, un_Rw, un_Sky, un_Place, set_Blk, Nat.sub_zero]
  have m0 : List.replicate a.length [.int .i64 0, .int .i64 0, .int .i64 0, .int .i64 0, .int .i64 0, .int .i64 0] = (to_Blk a 0).map Blk.row := by simp [to_Blk, Blk.row]
  refine ⟨by omega, ?_⟩
  refine loop_st (fun i : Nat => [(4, .int .i64 i)]) (fun i => [(107, .arr 113 0 6 ((to_Blk a i).map Blk.row))]) (fun i => i ≤ a.length) (fun i => a.length - i) 0 (by simp only [u_E0, u_E1, u_M0, u_M1, w_setE0, w_setE1, w_setM0, w_setM1, reduceIte, Nat.reduceEqDiff]; exact ⟨by repeat' (first | exact trivial | refine ⟨.inr rfl, ?_⟩), ⟨congrArg (fun g => some (AObj.arr 113 0 6 g)) m0, trivial⟩, rfl, rfl⟩) (Nat.zero_le _) ?_
  intro i hi NX hN
  unfold lO_laws_toSkyBlockS_0; simp (config := { maxSteps := 2000000 }) only [bitvec_to_nat, reduceIte, Nat.reduceEqDiff, Nat.reduceAdd, Nat.reduceLeDiff, reduceCtorEq, Nat.reduceBEq, Nat.reduceLT, Nat.reduceMod, List.forall_mem_cons, retG_ret, retQ_eq, retQ_eqN, retOk, keepB, re_tupl, orr_t, t_toBlk, tk_map, dp_map, toNat_pred, appE, rowsOf, List.take_length, List.length_cons, List.length_nil, Nat.zero_add, srow, irow, un_s, un_i, Pt.row, Pt_eta, Aw.row, Aw_eta, Blk.row, Blk_eta, Sec.row, Sec_eta, Rw.row, Rw_eta, Sky.row, Sky_eta, Place.row, Place_eta, un_Pt, un_Aw, un_Blk, un_Sec, un_Rw, un_Sky, un_Place, set_Blk, Nat.sub_zero]
  refine ⟨fun h => ?_, fun h => ?_⟩
  · repeat' (first | with_reducible apply And.intro | with_reducible intro _)
    all_goals first
      | omega
      | rfl
      | (have e := to_Blk_st (a := a) (i := i) (by omega)
         try simp only [Blk.row] at *
         refine hN (i + 1) _ ⟨by repeat' (first | exact trivial | refine ⟨.inr rfl, ?_⟩), ⟨congrArg (fun g => some (AObj.arr 113 0 6 (List.map Blk.row g))) e, trivial⟩, rfl, rfl⟩ ?_ ?_ <;> omega)
  · have e : i = a.length := by omega
    subst e
    simp only [to_Blk, List.take_length, Nat.sub_self, List.replicate_zero, List.append_nil]
    exact ⟨trivial, rfl, rfl⟩
theorem c_toRwSO (t : Nat) (a : List Rw) (ha : a.length ≤ 1048576) : Contract P 73 [.sl t 4 (a.map Rw.row)] [] (.own 107 0 0 a.length) [(107, .arr 118 0 4 (a.map Rw.row))] := by
  have tkA : List.take a.length (a.map Rw.row) = a.map Rw.row := List.take_of_length_le (by simp)
  refine fn_sound ((Env.nil P).add 132 t_toRw h_toRw) hm kO_laws_toSkyRunwayS (Nat.le_of_ble_eq_true rfl) rfl ?_; unfold sO_laws_toSkyRunwayS; simp (config := { maxSteps := 2000000 }) only [bitvec_to_nat, reduceIte, Nat.reduceEqDiff, Nat.reduceAdd, Nat.reduceLeDiff, reduceCtorEq, Nat.reduceBEq, Nat.reduceLT, Nat.reduceMod, List.forall_mem_cons, retG_ret, retQ_eq, retQ_eqN, retOk, keepB, re_tupl, orr_t, t_toRw, tk_map, dp_map, toNat_pred, appE, rowsOf, List.take_length, List.length_cons, List.length_nil, Nat.zero_add, srow, irow, un_s, un_i, Pt.row, Pt_eta, Aw.row, Aw_eta, Blk.row, Blk_eta, Sec.row, Sec_eta, Rw.row, Rw_eta, Sky.row, Sky_eta, Place.row, Place_eta, un_Pt, un_Aw, un_Blk, un_Sec, un_Rw, un_Sky, un_Place, set_Rw, Nat.sub_zero]
  have m0 : List.replicate a.length [.str ⟨#[]⟩, .int .i64 0, .int .i64 0, .int .i64 0] = (to_Rw a 0).map Rw.row := by simp [to_Rw, Rw.row]
  refine ⟨by omega, ?_⟩
  refine loop_st (fun i : Nat => [(4, .int .i64 i)]) (fun i => [(107, .arr 118 0 4 ((to_Rw a i).map Rw.row))]) (fun i => i ≤ a.length) (fun i => a.length - i) 0 (by simp only [u_E0, u_E1, u_M0, u_M1, w_setE0, w_setE1, w_setM0, w_setM1, reduceIte, Nat.reduceEqDiff]; exact ⟨by repeat' (first | exact trivial | refine ⟨.inr rfl, ?_⟩), ⟨congrArg (fun g => some (AObj.arr 118 0 4 g)) m0, trivial⟩, rfl, rfl⟩) (Nat.zero_le _) ?_
  intro i hi NX hN
  unfold lO_laws_toSkyRunwayS_0; simp (config := { maxSteps := 2000000 }) only [bitvec_to_nat, reduceIte, Nat.reduceEqDiff, Nat.reduceAdd, Nat.reduceLeDiff, reduceCtorEq, Nat.reduceBEq, Nat.reduceLT, Nat.reduceMod, List.forall_mem_cons, retG_ret, retQ_eq, retQ_eqN, retOk, keepB, re_tupl, orr_t, t_toRw, tk_map, dp_map, toNat_pred, appE, rowsOf, List.take_length, List.length_cons, List.length_nil, Nat.zero_add, srow, irow, un_s, un_i, Pt.row, Pt_eta, Aw.row, Aw_eta, Blk.row, Blk_eta, Sec.row, Sec_eta, Rw.row, Rw_eta, Sky.row, Sky_eta, Place.row, Place_eta, un_Pt, un_Aw, un_Blk, un_Sec, un_Rw, un_Sky, un_Place, set_Rw, Nat.sub_zero]
  refine ⟨fun h => ?_, fun h => ?_⟩
  · repeat' (first | with_reducible apply And.intro | with_reducible intro _)
    all_goals first
      | omega
      | rfl
      | (have e := to_Rw_st (a := a) (i := i) (by omega)
         try simp only [Rw.row] at *
         refine hN (i + 1) _ ⟨by repeat' (first | exact trivial | refine ⟨.inr rfl, ?_⟩), ⟨congrArg (fun g => some (AObj.arr 118 0 4 (List.map Rw.row g))) e, trivial⟩, rfl, rfl⟩ ?_ ?_ <;> omega)
  · have e : i = a.length := by omega
    subst e
    simp only [to_Rw, List.take_length, Nat.sub_self, List.replicate_zero, List.append_nil]
    exact ⟨trivial, rfl, rfl⟩
end
end Go.Ve

namespace Go.Ve
noncomputable section
open Go.Proofs
set_option linter.unusedSimpArgs false
set_option linter.unusedVariables false
set_option maxRecDepth 100000
theorem loop_F {α : Type} (F : α → St) (good : α → Prop) (μ : α → Nat) (a0 : α) {body : (XT → St → Prop) → St → Prop} {Q : XT → St → Prop} {st : St}
    (h0 : Wk st (F a0)) (g0 : good a0)
    (step : ∀ a, good a → ∀ NX : St → Prop, (∀ a' st', Wk st' (F a') → good a' → μ a' < μ a → NX st') → body (thenQ NX Q) (F a)) : loopWp body Q st :=
  loop_of F good μ a0 h0 g0 fun a ga => step a ga _ fun a' st' h1 h2 h3 => ⟨μ a', _, h1, ⟨a', rfl, h2, rfl⟩, h3⟩
def awP (x : Aw) : ByteArray × List (List AV) := (x.nm, x.pts.map srow)
def secP (x : Sec) : ByteArray × List (List AV) := (x.nm, x.bl.map Blk.row)
def zrows (l : List NRow) (n sz : Nat) : List (List AV) := l.map NRow.row ++ List.replicate n [.str ⟨#[]⟩, .sl 0 sz []]
theorem zrows_set {l : List NRow} {n sz : Nat} {r : NRow} {ls : List AV} (hl : ls = r.row) : (zrows l (n + 1) sz).set l.length (setSeg ((zrows l (n + 1) sz).getD l.length []) 0 ls) = zrows (l ++ [r]) n sz := by
  subst hl
  simp [zrows, List.replicate_succ, NRow.row, setSeg]
def r_toStringSO : RTab
  | [.sl bt 1 bx], M => some ⟨(M 601 = none) ∧ (((bx.map unS).map srow = bx)) ∧ ((bx.map unS).length ≤ 1048576), fun _ : Unit => True, fun _ => .own 601 0 0 (bx.map unS).length, fun _ => [(601, .arr 9 0 1 bx)]⟩
  | _, _ => none
theorem h_toStringSO : okTab P 41 r_toStringSO := by
  intro args M o h hp
  unfold r_toStringSO at h
  split at h
  · rename_i bt bx
    cases h
    obtain ⟨hn, e0, HP⟩ := hp
    have hC := (c_toByteArraySO bt (bx.map unS) HP).ren (swp 107 601) (swp_swp 107 601)
    simp only [renL, ren, renM, renO, swp, reduceIte, Nat.reduceEqDiff, Nat.reduceLT, e0] at hC
    refine ⟨(), trivial, .inr (.inr (.inl ⟨_, by simp only [purL, pur, Option.map_some], hC, fun p hp => ?_, ?_, rfl, ?_, ?_⟩))⟩
    · simp only [List.mem_cons, List.not_mem_nil, or_false] at hp
      subst hp; exact hn
    · simp [refsIn, refsInL, dom]
    · exact trivial
    · intro p hp
      simp only [List.mem_cons, List.not_mem_nil, or_false] at hp
      subst hp; rw [← e0]; exact no99_str _
  · cases h
def r_toBlkSO : RTab
  | [.sl bt 6 bx], M => some ⟨(M 601 = none) ∧ (((bx.map unBlk).map Blk.row = bx)) ∧ ((bx.map unBlk).length ≤ 1048576), fun _ : Unit => True, fun _ => .own 601 0 0 (bx.map unBlk).length, fun _ => [(601, .arr 113 0 6 bx)]⟩
  | _, _ => none
theorem h_toBlkSO : okTab P 158 r_toBlkSO := by
  intro args M o h hp
  unfold r_toBlkSO at h
  split at h
  · rename_i bt bx
    cases h
    obtain ⟨hn, e0, HP⟩ := hp
    have hC := (c_toBlkSO bt (bx.map unBlk) HP).ren (swp 107 601) (swp_swp 107 601)
    simp only [renL, ren, renM, renO, swp, reduceIte, Nat.reduceEqDiff, Nat.reduceLT, e0] at hC
    refine ⟨(), trivial, .inr (.inr (.inl ⟨_, by simp only [purL, pur, Option.map_some], hC, fun p hp => ?_, ?_, rfl, ?_, ?_⟩))⟩
    · simp only [List.mem_cons, List.not_mem_nil, or_false] at hp
      subst hp; exact hn
    · simp [refsIn, refsInL, dom]
    · exact trivial
    · intro p hp
      simp only [List.mem_cons, List.not_mem_nil, or_false] at hp
      subst hp; rw [← e0]; exact no99_Blk _
  · cases h
theorem c_toAwO (s : Aw) (hs : s.pts.length ≤ 1048576) : Contract P 130 [.agg (s.row 1)] [] (.agg [.str s.nm, .own 601 0 0 s.pts.length]) [(601, .arr 9 0 1 (s.pts.map srow))] := by
  simp only [Aw.row]
  refine fn_sound ((Env.nil P).addR 41 r_toStringSO h_toStringSO) hm k_laws_toSkyAirway (Nat.le_of_ble_eq_true rfl) rfl ?_; unfold s_laws_toSkyAirway; simp (config := { maxSteps := 2000000 }) only [bitvec_to_nat, reduceIte, Nat.reduceEqDiff, Nat.reduceAdd, Nat.reduceLeDiff, reduceCtorEq, Nat.reduceBEq, Nat.reduceLT, Nat.reduceMod, List.forall_mem_cons, retG_ret, retQ_eq, retQ_eqN, retOk, keepB, re_tupl, orr_t, r_toStringSO, un_Blk, un_s, List.length_map, Int.toNat_natCast, Nat.zero_add, Nat.sub_zero, noref, flatOk, rowsOf, appE, List.nil_append, take_all, ghost, Aw.row, Sec.row]
  repeat' (first | with_reducible apply And.intro | with_reducible intro _)
  all_goals first | omega | rfl | (simp [refsIn]; done)
def r0_Aw (a : List Aw) (i : Nat) : List NRow := nfam 107 9 1 ((a.take i).map awP)
theorem r0_Aw_len {a : List Aw} {i : Nat} (h : i ≤ a.length) : (r0_Aw a i).length = i := by simp [r0_Aw, nfam_len]; omega
theorem r0_Aw_succ {a : List Aw} {i : Nat} (h : i < a.length) : r0_Aw a (i + 1) = r0_Aw a i ++ [⟨(a.getD i default).nm, (a.getD i default).pts.length, fam 107 i, .arr 9 0 1 ((a.getD i default).pts.map srow)⟩] := by
  have e : (a.take (i + 1)).map awP = (a.take i).map awP ++ [awP (a.getD i default)] := by
    rw [List.take_succ_eq_append_getElem h, List.map_append]; simp [h]
  have hl : ((a.take i).map awP).length = i := by simp; omega
  rw [r0_Aw, e, nfam_snoc, hl]
  simp [awP, r0_Aw]
set_option maxHeartbeats 1000000 in
theorem c_toAwSO (t : Nat) (a : List Aw) (ha : a.length ≤ 1048576) (hs : ∀ x ∈ a, x.small) : Contract P 71 [.sl t 2 (a.map (Aw.row 1))] [] (.own 107 0 0 a.length) ((107, .arr (1000000 + 108) 0 2 ((nfam 107 9 1 (a.map awP)).map NRow.row)) :: nobjs (nfam 107 9 1 (a.map awP))) := by
  have hs1 : True := trivial
  have hs2 : True := trivial
  have wm : ∀ (x : AObj) (i : Nat) {l : List NRow}, r0_Aw a i = l → wkM ((107, x) :: nobjs (r0_Aw a i)) (nobjs l) := fun x i l e => by
    subst e
    refine wkM_nobjs (k := 107) nfam_fam fun j hj => ?_
    simp only [getM, fam_ne (show 107 < 1000 from by omega), if_false]
    exact nobjs_fam nfam_fam hj
  have rr : ∀ (d : List Nat) (i : Nat), (∀ r ∈ r0_Aw a i, d.contains r.o = true) → ∀ m, (zrows (r0_Aw a i) m 1).all (refsInL d) = true := fun d i h m => by
    unfold zrows; rw [List.all_append, refs_rows h, Bool.true_and, List.all_eq_true]
    intro x hx; rw [List.eq_of_mem_replicate hx]; rfl
  have dm : ∀ (x : AObj) (i : Nat), ∀ r ∈ r0_Aw a i, (dom ((107, x) :: nobjs (r0_Aw a i))).contains r.o = true := fun x i r hr => by
    simp only [dom, List.map_cons, List.contains_cons, Bool.or_eq_true]
    right
    simp only [List.contains_iff_mem, nobjs, List.map_map, List.mem_map]
    exact ⟨r, hr, rfl⟩
  have cl : ∀ (t' i : Nat), closedB ⟨[(0, .sl t 2 (a.map (Aw.row 1))), (3, .own 107 0 0 a.length), (4, .int .i64 ((i : Nat) : Int))], (107, .arr (1000000 + 108) 0 2 (zrows (r0_Aw a i) (a.length - i) 1)) :: nobjs (r0_Aw a i)⟩ = true := fun _ i => by
    simp only [closedB, List.all_cons, Bool.and_eq_true]
    refine ⟨⟨rfl, by simp [refsIn, dom], rfl, rfl⟩, ?_, refsO_nfam (by omega)⟩
    simp only [refsInO]
    rw [if_neg (by omega)]
    exact rr _ i (dm _ i) _
  have cf : (((107, AObj.arr (1000000 + 108) 0 2 ((nfam 107 9 1 (a.map awP)).map NRow.row)) :: nobjs (nfam 107 9 1 (a.map awP))).all fun p => refsInO (dom ((107, AObj.arr (1000000 + 108) 0 2 ((nfam 107 9 1 (a.map awP)).map NRow.row)) :: nobjs (nfam 107 9 1 (a.map awP)))) p.2) = true := by
    have ez : r0_Aw a a.length = nfam 107 9 1 (a.map awP) := by simp [r0_Aw]
    simp only [List.all_cons, Bool.and_eq_true]
    refine ⟨?_, refsO_nfam (by omega)⟩
    simp only [refsInO]
    rw [if_neg (by omega)]
    have := dm (AObj.arr (1000000 + 108) 0 2 ((nfam 107 9 1 (a.map awP)).map NRow.row)) a.length
    rw [ez] at this
    exact refs_rows this
  have kp : ∀ (x : AObj) (i : Nat) (M' : List (Nat × AObj)), keepB ((107, x) :: nobjs (r0_Aw a i)) M' = true := fun x i M' => by
    unfold keepB
    show ((decide (100 ≤ 107 % 1000) || _) && (dom (nobjs (r0_Aw a i))).all _) = true
    rw [show decide (100 ≤ 107 % 1000) = true from rfl, Bool.true_or, Bool.true_and]
    exact keep_nfam (by omega) (by omega)
  refine fn_sound (Env.nil P) hm kO_laws_toSkyAirwayS (Nat.le_of_ble_eq_true rfl) rfl ?_; unfold sO_laws_toSkyAirwayS; simp (config := { maxSteps := 2000000 }) only [bitvec_to_nat, reduceIte, Nat.reduceEqDiff, Nat.reduceAdd, Nat.reduceLeDiff, reduceCtorEq, Nat.reduceBEq, Nat.reduceLT, Nat.reduceMod, List.forall_mem_cons, retG_ret, retQ_eq, retQ_eqN, retOk, keepB, re_tupl, orr_t, tk_map, dp_map, toNat_pred, appE, rowsOf, List.take_length, List.length_cons, List.length_nil, Nat.zero_add, srow, irow, un_s, un_i, Pt.row, Pt_eta, Aw.row, Aw_eta, Blk.row, Blk_eta, Sec.row, Sec_eta, Rw.row, Rw_eta, Sky.row, Sky_eta, Place.row, Place_eta, un_Pt, un_Aw, un_Blk, un_Sec, un_Rw, un_Sky, un_Place, Nat.sub_zero, fam_ne, fam_ne', hs1, hs2, Aw.row, Sec.row, awP, secP]
  refine ⟨by omega, ?_⟩
  refine loop_F (fun i : Nat => ⟨[(0, .sl t 2 (a.map (Aw.row 1))), (3, .own 107 0 0 a.length), (4, .int .i64 i)], (107, .arr (1000000 + 108) 0 2 (zrows (r0_Aw a i) (a.length - i) 1)) :: nobjs (r0_Aw a i)⟩) (fun i => i ≤ a.length) (fun i => a.length - i) 0 ?_ (Nat.zero_le _) ?_
  · exact ⟨by repeat' (first | exact trivial | refine ⟨.inr rfl, ?_⟩), ⟨by simp [getM, zrows, r0_Aw, nfam], by simp [r0_Aw, nfam, nobjs, wkM]⟩, by simp [closedB, refsIn, refsInL, refsInO, dom, zrows, r0_Aw, nfam, nobjs], by simp [keepB, dom, r0_Aw, nfam, nobjs]⟩
  intro i hi NX hN
  by_cases h : i < a.length
  · have hx := hs _ (getD_mem' h)
    have hC := (c_toAwO (a.getD i default) (by unfold Aw.small at hx; omega)).ren (swp 601 (fam 107 i)) (swp_swp _ _)
    simp only [renL, ren, renM, renO, swp, reduceIte, Nat.reduceLT, Aw.row] at hC
    have hlen := r0_Aw_len (a := a) (i := i) hi
    have hfr : getM (nobjs (r0_Aw a i)) (fam 107 i) = none := nobjs_ge (k := 107) nfam_fam (Nat.le_of_eq hlen)
    have hsu := r0_Aw_succ h
    have hs1 := setM_new (x := AObj.arr 9 0 1 ((a.getD i default).pts.map srow)) hfr
    have hs2 := zrows_set (l := r0_Aw a i) (n := a.length - i - 1) (sz := 1) (r := ⟨(a.getD i default).nm, (a.getD i default).pts.length, fam 107 i, .arr 9 0 1 ((a.getD i default).pts.map srow)⟩) rfl
    rw [hlen, ← hsu, show a.length - i - 1 + 1 = a.length - i from by omega] at hs2
    simp only [NRow.row] at hs2
    unfold lO_laws_toSkyAirwayS_0; simp (config := { maxSteps := 2000000 }) only [bitvec_to_nat, reduceIte, Nat.reduceEqDiff, Nat.reduceAdd, Nat.reduceLeDiff, reduceCtorEq, Nat.reduceBEq, Nat.reduceLT, Nat.reduceMod, List.forall_mem_cons, retG_ret, retQ_eq, retQ_eqN, retOk, keepB, re_tupl, orr_t, tk_map, dp_map, toNat_pred, appE, rowsOf, List.take_length, List.length_cons, List.length_nil, Nat.zero_add, srow, irow, un_s, un_i, Pt.row, Pt_eta, Aw.row, Aw_eta, Blk.row, Blk_eta, Sec.row, Sec_eta, Rw.row, Rw_eta, Sky.row, Sky_eta, Place.row, Place_eta, un_Pt, un_Aw, un_Blk, un_Sec, un_Rw, un_Sky, un_Place, Nat.sub_zero, fam_ne, fam_ne', hs1, hs2, Aw.row, Sec.row, awP, secP]
    refine ⟨fun _ => ⟨by omega, by omega, _, _, .inr (.inr (.inl ⟨_, by simp only [purL, pur, Option.map_some], hC, by simp [getM, fam_ne, hfr], by simp [refsIn, refsInL, dom], by simp [refsInO], by simp [No99, No99L, No99LL], by simp [No99O, no99_str]⟩)), ?_⟩, fun h' => absurd (by omega) h'⟩
    simp (config := { maxSteps := 2000000 }) only [bitvec_to_nat, reduceIte, Nat.reduceEqDiff, Nat.reduceAdd, Nat.reduceLeDiff, reduceCtorEq, Nat.reduceBEq, Nat.reduceLT, Nat.reduceMod, List.forall_mem_cons, retG_ret, retQ_eq, retQ_eqN, retOk, keepB, re_tupl, orr_t, tk_map, dp_map, toNat_pred, appE, rowsOf, List.take_length, List.length_cons, List.length_nil, Nat.zero_add, srow, irow, un_s, un_i, Pt.row, Pt_eta, Aw.row, Aw_eta, Blk.row, Blk_eta, Sec.row, Sec_eta, Rw.row, Rw_eta, Sky.row, Sky_eta, Place.row, Place_eta, un_Pt, un_Aw, un_Blk, un_Sec, un_Rw, un_Sky, un_Place, Nat.sub_zero, fam_ne, fam_ne', hs1, hs2, Aw.row, Sec.row, awP, secP]
    refine ⟨by omega, by omega, hN (i + 1) _ ?_ h (by omega)⟩
    have em : ∀ x, ((107, x) :: (nobjs (r0_Aw a i) ++ [(fam 107 i, AObj.arr 9 0 1 ((a.getD i default).pts.map srow))])) = (107, x) :: nobjs (r0_Aw a (i + 1)) := fun x => by rw [hsu, nobjs_app]; rfl
    rw [em]
    exact ⟨by repeat' (first | exact trivial | refine ⟨.inr rfl, ?_⟩), ⟨rfl, wm _ _ rfl⟩, cl 0 (i + 1), kp _ _ _⟩
  · have e : i = a.length := by omega
    subst e
    have ez : r0_Aw a a.length = nfam 107 9 1 (a.map awP) := by simp [r0_Aw]
    have hs1 : zrows (nfam 107 9 1 (a.map awP)) (a.length - a.length) 1 = (nfam 107 9 1 (a.map awP)).map NRow.row := by simp [zrows]
    have hs2 := ez
    have cl' := cl 0 a.length
    unfold lO_laws_toSkyAirwayS_0; simp (config := { maxSteps := 2000000 }) only [bitvec_to_nat, reduceIte, Nat.reduceEqDiff, Nat.reduceAdd, Nat.reduceLeDiff, reduceCtorEq, Nat.reduceBEq, Nat.reduceLT, Nat.reduceMod, List.forall_mem_cons, retG_ret, retQ_eq, retQ_eqN, retOk, keepB, re_tupl, orr_t, tk_map, dp_map, toNat_pred, appE, rowsOf, List.take_length, List.length_cons, List.length_nil, Nat.zero_add, srow, irow, un_s, un_i, Pt.row, Pt_eta, Aw.row, Aw_eta, Blk.row, Blk_eta, Sec.row, Sec_eta, Rw.row, Rw_eta, Sky.row, Sky_eta, Place.row, Place_eta, un_Pt, un_Aw, un_Blk, un_Sec, un_Rw, un_Sky, un_Place, Nat.sub_zero, fam_ne, fam_ne', hs1, hs2, Aw.row, Sec.row, awP, secP]
    refine ⟨fun h' => absurd h' (by omega), fun _ => ?_⟩
    have wm' := fun x => wm x a.length ez
    have kp' := fun x M' => kp x a.length M'
    rw [ez] at wm' kp'
    refine ⟨?_, cf, rfl, kp' .gone ((107, .arr (1000000 + 108) 0 2 ((nfam 107 9 1 (a.map awP)).map NRow.row)) :: nobjs (nfam 107 9 1 (a.map awP)))⟩
    first | exact wm' _ | exact ⟨rfl, wm' _⟩
theorem c_toSecO (s : Sec) (hs : s.bl.length ≤ 1048576) : Contract P 131 [.agg (s.row 1)] [] (.agg [.str s.nm, .own 601 0 0 s.bl.length]) [(601, .arr 113 0 6 (s.bl.map Blk.row))] := by
  simp only [Sec.row]
  refine fn_sound ((Env.nil P).addR 158 r_toBlkSO h_toBlkSO) hm k_laws_toSkySector (Nat.le_of_ble_eq_true rfl) rfl ?_; unfold s_laws_toSkySector; simp (config := { maxSteps := 2000000 }) only [bitvec_to_nat, reduceIte, Nat.reduceEqDiff, Nat.reduceAdd, Nat.reduceLeDiff, reduceCtorEq, Nat.reduceBEq, Nat.reduceLT, Nat.reduceMod, List.forall_mem_cons, retG_ret, retQ_eq, retQ_eqN, retOk, keepB, re_tupl, orr_t, r_toBlkSO, un_Blk, un_s, List.length_map, Int.toNat_natCast, Nat.zero_add, Nat.sub_zero, noref, flatOk, rowsOf, appE, List.nil_append, take_all, ghost, Aw.row, Sec.row]
  repeat' (first | with_reducible apply And.intro | with_reducible intro _)
  all_goals first | omega | rfl | (simp [refsIn]; done)
def r0_Sec (a : List Sec) (i : Nat) : List NRow := nfam 107 113 6 ((a.take i).map secP)
theorem r0_Sec_len {a : List Sec} {i : Nat} (h : i ≤ a.length) : (r0_Sec a i).length = i := by simp [r0_Sec, nfam_len]; omega
theorem r0_Sec_succ {a : List Sec} {i : Nat} (h : i < a.length) : r0_Sec a (i + 1) = r0_Sec a i ++ [⟨(a.getD i default).nm, (a.getD i default).bl.length, fam 107 i, .arr 113 0 6 ((a.getD i default).bl.map Blk.row)⟩] := by
  have e : (a.take (i + 1)).map secP = (a.take i).map secP ++ [secP (a.getD i default)] := by
    rw [List.take_succ_eq_append_getElem h, List.map_append]; simp [h]
  have hl : ((a.take i).map secP).length = i := by simp; omega
  rw [r0_Sec, e, nfam_snoc, hl]
  simp [secP, r0_Sec]
set_option maxHeartbeats 1000000 in
theorem c_toSecSO (t : Nat) (a : List Sec) (ha : a.length ≤ 1048576) (hs : ∀ x ∈ a, x.small) : Contract P 72 [.sl t 2 (a.map (Sec.row 1))] [] (.own 107 0 0 a.length) ((107, .arr (1000000 + 111) 0 2 ((nfam 107 113 6 (a.map secP)).map NRow.row)) :: nobjs (nfam 107 113 6 (a.map secP))) := by
  have hs1 : True := trivial
  have hs2 : True := trivial
  have wm : ∀ (x : AObj) (i : Nat) {l : List NRow}, r0_Sec a i = l → wkM ((107, x) :: nobjs (r0_Sec a i)) (nobjs l) := fun x i l e => by
    subst e
    refine wkM_nobjs (k := 107) nfam_fam fun j hj => ?_
    simp only [getM, fam_ne (show 107 < 1000 from by omega), if_false]
    exact nobjs_fam nfam_fam hj
  have rr : ∀ (d : List Nat) (i : Nat), (∀ r ∈ r0_Sec a i, d.contains r.o = true) → ∀ m, (zrows (r0_Sec a i) m 6).all (refsInL d) = true := fun d i h m => by
    unfold zrows; rw [List.all_append, refs_rows h, Bool.true_and, List.all_eq_true]
    intro x hx; rw [List.eq_of_mem_replicate hx]; rfl
  have dm : ∀ (x : AObj) (i : Nat), ∀ r ∈ r0_Sec a i, (dom ((107, x) :: nobjs (r0_Sec a i))).contains r.o = true := fun x i r hr => by
    simp only [dom, List.map_cons, List.contains_cons, Bool.or_eq_true]
    right
    simp only [List.contains_iff_mem, nobjs, List.map_map, List.mem_map]
    exact ⟨r, hr, rfl⟩
  have cl : ∀ (t' i : Nat), closedB ⟨[(0, .sl t 2 (a.map (Sec.row 1))), (3, .own 107 0 0 a.length), (4, .int .i64 ((i : Nat) : Int))], (107, .arr (1000000 + 111) 0 2 (zrows (r0_Sec a i) (a.length - i) 6)) :: nobjs (r0_Sec a i)⟩ = true := fun _ i => by
    simp only [closedB, List.all_cons, Bool.and_eq_true]
    refine ⟨⟨rfl, by simp [refsIn, dom], rfl, rfl⟩, ?_, refsO_nfam (by omega)⟩
    simp only [refsInO]
    rw [if_neg (by omega)]
    exact rr _ i (dm _ i) _
  have cf : (((107, AObj.arr (1000000 + 111) 0 2 ((nfam 107 113 6 (a.map secP)).map NRow.row)) :: nobjs (nfam 107 113 6 (a.map secP))).all fun p => refsInO (dom ((107, AObj.arr (1000000 + 111) 0 2 ((nfam 107 113 6 (a.map secP)).map NRow.row)) :: nobjs (nfam 107 113 6 (a.map secP)))) p.2) = true := by
    have ez : r0_Sec a a.length = nfam 107 113 6 (a.map secP) := by simp [r0_Sec]
    simp only [List.all_cons, Bool.and_eq_true]
    refine ⟨?_, refsO_nfam (by omega)⟩
    simp only [refsInO]
    rw [if_neg (by omega)]
    have := dm (AObj.arr (1000000 + 111) 0 2 ((nfam 107 113 6 (a.map secP)).map NRow.row)) a.length
    rw [ez] at this
    exact refs_rows this
  have kp : ∀ (x : AObj) (i : Nat) (M' : List (Nat × AObj)), keepB ((107, x) :: nobjs (r0_Sec a i)) M' = true := fun x i M' => by
    unfold keepB
    show ((decide (100 ≤ 107 % 1000) || _) && (dom (nobjs (r0_Sec a i))).all _) = true
    rw [show decide (100 ≤ 107 % 1000) = true from rfl, Bool.true_or, Bool.true_and]
    exact keep_nfam (by omega) (by omega)
  refine fn_sound (Env.nil P) hm kO_laws_toSkySectorS (Nat.le_of_ble_eq_true rfl) rfl ?_; unfold sO_laws_toSkySectorS; simp (config := { maxSteps := 2000000 }) only [bitvec_to_nat, reduceIte, Nat.reduceEqDiff, Nat.reduceAdd, Nat.reduceLeDiff, reduceCtorEq, Nat.reduceBEq, Nat.reduceLT, Nat.reduceMod, List.forall_mem_cons, retG_ret, retQ_eq, retQ_eqN, retOk, keepB, re_tupl, orr_t, tk_map, dp_map, toNat_pred, appE, rowsOf, List.take_length, List.length_cons, List.length_nil, Nat.zero_add, srow, irow, un_s, un_i, Pt.row, Pt_eta, Aw.row, Aw_eta, Blk.row, Blk_eta, Sec.row, Sec_eta, Rw.row, Rw_eta, Sky.row, Sky_eta, Place.row, Place_eta, un_Pt, un_Aw, un_Blk, un_Sec, un_Rw, un_Sky, un_Place, Nat.sub_zero, fam_ne, fam_ne', hs1, hs2, Aw.row, Sec.row, awP, secP]
  refine ⟨by omega, ?_⟩
  refine loop_F (fun i : Nat => ⟨[(0, .sl t 2 (a.map (Sec.row 1))), (3, .own 107 0 0 a.length), (4, .int .i64 i)], (107, .arr (1000000 + 111) 0 2 (zrows (r0_Sec a i) (a.length - i) 6)) :: nobjs (r0_Sec a i)⟩) (fun i => i ≤ a.length) (fun i => a.length - i) 0 ?_ (Nat.zero_le _) ?_
  · exact ⟨by repeat' (first | exact trivial | refine ⟨.inr rfl, ?_⟩), ⟨by simp [getM, zrows, r0_Sec, nfam], by simp [r0_Sec, nfam, nobjs, wkM]⟩, by simp [closedB, refsIn, refsInL, refsInO, dom, zrows, r0_Sec, nfam, nobjs], by simp [keepB, dom, r0_Sec, nfam, nobjs]⟩
  intro i hi NX hN
  by_cases h : i < a.length
  · have hx := hs _ (getD_mem' h)
    have hC := (c_toSecO (a.getD i default) (by unfold Sec.small at hx; omega)).ren (swp 601 (fam 107 i)) (swp_swp _ _)
    simp only [renL, ren, renM, renO, swp, reduceIte, Nat.reduceLT, Sec.row] at hC
    have hlen := r0_Sec_len (a := a) (i := i) hi
    have hfr : getM (nobjs (r0_Sec a i)) (fam 107 i) = none := nobjs_ge (k := 107) nfam_fam (Nat.le_of_eq hlen)
    have hsu := r0_Sec_succ h
    have hs1 := setM_new (x := AObj.arr 113 0 6 ((a.getD i default).bl.map Blk.row)) hfr
    have hs2 := zrows_set (l := r0_Sec a i) (n := a.length - i - 1) (sz := 6) (r := ⟨(a.getD i default).nm, (a.getD i default).bl.length, fam 107 i, .arr 113 0 6 ((a.getD i default).bl.map Blk.row)⟩) rfl
    rw [hlen, ← hsu, show a.length - i - 1 + 1 = a.length - i from by omega] at hs2
    simp only [NRow.row] at hs2
    unfold lO_laws_toSkySectorS_0; simp (config := { maxSteps := 2000000 }) only [bitvec_to_nat, reduceIte, Nat.reduceEqDiff, Nat.reduceAdd, Nat.reduceLeDiff, reduceCtorEq, Nat.reduceBEq, Nat.reduceLT, Nat.reduceMod, List.forall_mem_cons, retG_ret, retQ_eq, retQ_eqN, retOk, keepB, re_tupl, orr_t, tk_map, dp_map, toNat_pred, appE, rowsOf, List.take_length, List.length_cons, List.length_nil, Nat.zero_add, srow, irow, un_s, un_i, Pt.row, Pt_eta, Aw.row, Aw_eta, Blk.row, Blk_eta, Sec.row, Sec_eta, Rw.row, Rw_eta, Sky.row, Sky_eta, Place.row, Place_eta, un_Pt, un_Aw, un_Blk, un_Sec, un_Rw, un_Sky, un_Place, Nat.sub_zero, fam_ne, fam_ne', hs1, hs2, Aw.row, Sec.row, awP, secP]
    refine ⟨fun _ => ⟨by omega, by omega, _, _, .inr (.inr (.inl ⟨_, by simp only [purL, pur, Option.map_some], hC, by simp [getM, fam_ne, hfr], by simp [refsIn, refsInL, dom], by simp [refsInO], by simp [No99, No99L, No99LL], by simp [No99O, no99_Blk]⟩)), ?_⟩, fun h' => absurd (by omega) h'⟩
    simp (config := { maxSteps := 2000000 }) only [bitvec_to_nat, reduceIte, Nat.reduceEqDiff, Nat.reduceAdd, Nat.reduceLeDiff, reduceCtorEq, Nat.reduceBEq, Nat.reduceLT, Nat.reduceMod, List.forall_mem_cons, retG_ret, retQ_eq, retQ_eqN, retOk, keepB, re_tupl, orr_t, tk_map, dp_map, toNat_pred, appE, rowsOf, List.take_length, List.length_cons, List.length_nil, Nat.zero_add, srow, irow, un_s, un_i, Pt.row, Pt_eta, Aw.row, Aw_eta, Blk.row, Blk_eta, Sec.row, Sec_eta, Rw.row, Rw_eta, Sky.row, Sky_eta, Place.row, Place_eta, un_Pt, un_Aw, un_Blk, un_Sec, un_Rw, un_Sky, un_Place, Nat.sub_zero, fam_ne, fam_ne', hs1, hs2, Aw.row, Sec.row, awP, secP]
    refine ⟨by omega, by omega, hN (i + 1) _ ?_ h (by omega)⟩
    have em : ∀ x, ((107, x) :: (nobjs (r0_Sec a i) ++ [(fam 107 i, AObj.arr 113 0 6 ((a.getD i default).bl.map Blk.row))])) = (107, x) :: nobjs (r0_Sec a (i + 1)) := fun x => by rw [hsu, nobjs_app]; rfl
    rw [em]
    exact ⟨by repeat' (first | exact trivial | refine ⟨.inr rfl, ?_⟩), ⟨rfl, wm _ _ rfl⟩, cl 0 (i + 1), kp _ _ _⟩
  · have e : i = a.length := by omega
    subst e
    have ez : r0_Sec a a.length = nfam 107 113 6 (a.map secP) := by simp [r0_Sec]
    have hs1 : zrows (nfam 107 113 6 (a.map secP)) (a.length - a.length) 6 = (nfam 107 113 6 (a.map secP)).map NRow.row := by simp [zrows]
    have hs2 := ez
    have cl' := cl 0 a.length
    unfold lO_laws_toSkySectorS_0; simp (config := { maxSteps := 2000000 }) only [bitvec_to_nat, reduceIte, Nat.reduceEqDiff, Nat.reduceAdd, Nat.reduceLeDiff, reduceCtorEq, Nat.reduceBEq, Nat.reduceLT, Nat.reduceMod, List.forall_mem_cons, retG_ret, retQ_eq, retQ_eqN, retOk, keepB, re_tupl, orr_t, tk_map, dp_map, toNat_pred, appE, rowsOf, List.take_length, List.length_cons, List.length_nil, Nat.zero_add, srow, irow, un_s, un_i, Pt.row, Pt_eta, Aw.row, Aw_eta, Blk.row, Blk_eta, Sec.row, Sec_eta, Rw.row, Rw_eta, Sky.row, Sky_eta, Place.row, Place_eta, un_Pt, un_Aw, un_Blk, un_Sec, un_Rw, un_Sky, un_Place, Nat.sub_zero, fam_ne, fam_ne', hs1, hs2, Aw.row, Sec.row, awP, secP]
    refine ⟨fun h' => absurd h' (by omega), fun _ => ?_⟩
    have wm' := fun x => wm x a.length ez
    have kp' := fun x M' => kp x a.length M'
    rw [ez] at wm' kp'
    refine ⟨?_, cf, rfl, kp' .gone ((107, .arr (1000000 + 111) 0 2 ((nfam 107 113 6 (a.map secP)).map NRow.row)) :: nobjs (nfam 107 113 6 (a.map secP)))⟩
    first | exact wm' _ | exact ⟨rfl, wm' _⟩
end
end Go.Ve

namespace Go.Ve
noncomputable section
open Go.Proofs
set_option linter.unusedSimpArgs false
set_option linter.unusedVariables false
set_option maxRecDepth 100000
def r_toPtSO : RTab
  | [.sl bt 3 bx], M => some ⟨(M 611 = none) ∧ (((bx.map unPt).map Pt.row = bx)) ∧ ((bx.map unPt).length ≤ 1048576), fun _ : Unit => True, fun _ => .own 611 0 0 (bx.map unPt).length, fun _ => [(611, .arr 103 0 3 bx)]⟩
  | _, _ => none
theorem h_toPtSO : okTab P 70 r_toPtSO := by
  intro args M o h hp
  unfold r_toPtSO at h
  split at h
  · rename_i bt bx
    cases h
    obtain ⟨hn, e0, HP⟩ := hp
    have hC := (c_toPtSO bt (bx.map unPt) HP).ren (swp 107 611) (swp_swp 107 611)
    simp only [renL, ren, renM, renO, swp, reduceIte, Nat.reduceEqDiff, Nat.reduceLT, e0] at hC
    refine ⟨(), trivial, .inr (.inr (.inl ⟨_, by simp only [purL, pur, Option.map_some], hC, fun p hp => ?_, ?_, rfl, ?_, ?_⟩))⟩
    · simp only [List.mem_cons, List.not_mem_nil, or_false] at hp
      subst hp; exact hn
    · simp [refsIn, refsInL, dom]
    · exact trivial
    · intro p hp
      simp only [List.mem_cons, List.not_mem_nil, or_false] at hp
      subst hp; rw [← e0]; exact no99_Pt _
  · cases h
def r_toRwSO : RTab
  | [.sl bt 4 bx], M => some ⟨(M 612 = none) ∧ (((bx.map unRw).map Rw.row = bx)) ∧ ((bx.map unRw).length ≤ 1048576), fun _ : Unit => True, fun _ => .own 612 0 0 (bx.map unRw).length, fun _ => [(612, .arr 118 0 4 bx)]⟩
  | _, _ => none
theorem h_toRwSO : okTab P 73 r_toRwSO := by
  intro args M o h hp
  unfold r_toRwSO at h
  split at h
  · rename_i bt bx
    cases h
    obtain ⟨hn, e0, HP⟩ := hp
    have hC := (c_toRwSO bt (bx.map unRw) HP).ren (swp 107 612) (swp_swp 107 612)
    simp only [renL, ren, renM, renO, swp, reduceIte, Nat.reduceEqDiff, Nat.reduceLT, e0] at hC
    refine ⟨(), trivial, .inr (.inr (.inl ⟨_, by simp only [purL, pur, Option.map_some], hC, fun p hp => ?_, ?_, rfl, ?_, ?_⟩))⟩
    · simp only [List.mem_cons, List.not_mem_nil, or_false] at hp
      subst hp; exact hn
    · simp [refsIn, refsInL, dom]
    · exact trivial
    · intro p hp
      simp only [List.mem_cons, List.not_mem_nil, or_false] at hp
      subst hp; rw [← e0]; exact no99_Rw _
  · cases h
def fA (k : Nat) (s : Sky) : List NRow := nfam k 9 1 (s.aws.map awP)
def fS (k : Nat) (s : Sky) : List NRow := nfam k 113 6 (s.secs.map secP)
def skyV (s : Sky) (a b c d : Nat) : AV := .agg [.int .i64 s.w, .int .i64 s.h, .int .i64 s.lv, .own a 0 0 s.pts.length, .own b 0 0 s.aws.length, .own c 0 0 s.secs.length, .own d 0 0 s.rws.length]
def skyM (s : Sky) (a b c d kA kS : Nat) : List (Nat × AObj) := (a, .arr 103 0 3 (s.pts.map Pt.row)) :: (b, .arr (1000000 + 108) 0 2 ((fA kA s).map NRow.row)) :: (c, .arr (1000000 + 111) 0 2 ((fS kS s).map NRow.row)) :: (d, .arr 118 0 4 (s.rws.map Rw.row)) :: (nobjs (fA kA s) ++ nobjs (fS kS s))
theorem no99_NRow (l : List NRow) : No99LL (l.map NRow.row) := by
  induction l with
  | nil => simp [No99LL]
  | cons x l ih => simp only [List.map_cons, No99LL]; exact ⟨by simp [NRow.row, No99L, No99], ih⟩
theorem awP_99 (s : Sky) (p : Nat × AObj) (k : Nat) (h : p ∈ nobjs (fA k s)) : No99O p.2 := by
  obtain ⟨i, hi, rfl⟩ := nfam_at h
  have hi' : i < s.aws.length := by simpa using hi
  simp only [No99O]
  rw [show (s.aws.map awP).getD i default = awP (s.aws.getD i default) from by simp [hi']]
  exact no99_str _
theorem secP_99 (s : Sky) (p : Nat × AObj) (k : Nat) (h : p ∈ nobjs (fS k s)) : No99O p.2 := by
  obtain ⟨i, hi, rfl⟩ := nfam_at h
  have hi' : i < s.secs.length := by simpa using hi
  simp only [No99O]
  rw [show (s.secs.map secP).getD i default = secP (s.secs.getD i default) from by simp [hi']]
  exact no99_Blk _
theorem fam_refs {k e sz o : Nat} {y : AObj} {x : List (ByteArray × List (List AV))} {T : Nat} (he : e < 1000000) : (((o, AObj.arr (1000000 + T) 0 2 ((nfam k e sz x).map NRow.row)) :: nobjs (nfam k e sz x)).all fun p => refsInO (dom ((o, y) :: nobjs (nfam k e sz x))) p.2) = true := by
  simp only [List.all_cons, Bool.and_eq_true]
  refine ⟨?_, refsO_nfam he⟩
  simp only [refsInO]
  rw [if_neg (by omega)]
  refine refs_rows fun r hr => ?_
  simp only [dom, List.map_cons, List.contains_cons, Bool.or_eq_true]
  right
  simp only [List.contains_iff_mem, nobjs, List.map_map, List.mem_map]
  exact ⟨r, hr, rfl⟩
theorem wkM_sky {s : Sky} {a b c d kA kS : Nat} {M : List (Nat × AObj)} (h1 : getM M a = some (.arr 103 0 3 (s.pts.map Pt.row))) (h2 : getM M b = some (.arr (1000000 + 108) 0 2 ((fA kA s).map NRow.row)))
    (h3 : getM M c = some (.arr (1000000 + 111) 0 2 ((fS kS s).map NRow.row))) (h4 : getM M d = some (.arr 118 0 4 (s.rws.map Rw.row)))
    (h5 : ∀ i, i < s.aws.length → getM M (fam kA i) = some (.arr 9 0 1 ((s.aws.map awP).getD i default).2)) (h6 : ∀ i, i < s.secs.length → getM M (fam kS i) = some (.arr 113 0 6 ((s.secs.map secP).getD i default).2)) : wkM M (skyM s a b c d kA kS) := by
  refine ⟨h1, h2, h3, h4, wkM_app.2 ⟨wkM_nobjs nfam_fam fun i hi => ?_, wkM_nobjs nfam_fam fun i hi => ?_⟩⟩
  · simp only [fA, nfam_len] at hi ⊢
    rw [nfam_get hi]; exact h5 i (by simpa using hi)
  · simp only [fS, nfam_len] at hi ⊢
    rw [nfam_get hi]; exact h6 i (by simpa using hi)
theorem sky_dom {s : Sky} {a b c d kA kS : Nat} : dom (skyM s a b c d kA kS) = a :: b :: c :: d :: ((fA kA s).map (·.o) ++ (fS kS s).map (·.o)) := by
  simp [skyM, dom, nobjs]; rfl
theorem sky_refs {s : Sky} {a b c d kA kS : Nat} : ((skyM s a b c d kA kS).all fun p => refsInO (dom (skyM s a b c d kA kS)) p.2) = true := by
  rw [sky_dom]
  simp only [skyM, List.all_cons, List.all_append, Bool.and_eq_true]
  refine ⟨rfl, ?_, ?_, rfl, refsO_nfam (by omega), refsO_nfam (by omega)⟩
  · simp only [refsInO]
    rw [if_neg (by omega)]
    refine refs_rows fun r hr => ?_
    simp only [List.contains_iff_mem, List.mem_cons, List.mem_append, List.mem_map]
    exact .inr (.inr (.inr (.inr (.inl ⟨r, hr, rfl⟩))))
  · simp only [refsInO]
    rw [if_neg (by omega)]
    refine refs_rows fun r hr => ?_
    simp only [List.contains_iff_mem, List.mem_cons, List.mem_append, List.mem_map]
    exact .inr (.inr (.inr (.inr (.inr ⟨r, hr, rfl⟩))))
theorem sky_refV {s : Sky} {a b c d kA kS : Nat} : refsIn (dom (skyM s a b c d kA kS)) (skyV s a b c d) = true := by
  rw [sky_dom]; simp [skyV, refsIn, refsInL]
theorem toAwS_613 (s : Sky) (hs : s.small) : Contract P 71 [.sl 1 2 (s.aws.map (Aw.row 1))] [] (.own 613 0 0 s.aws.length) ((613, .arr (1000000 + 108) 0 2 ((fA 107 s).map NRow.row)) :: nobjs (fA 107 s)) := by
  unfold Sky.small at hs
  have h := (c_toAwSO 1 s.aws (by omega) hs.2.1.2).ren (swp 107 613) (swp_swp _ _)
  simp only [renL, ren, renM, renO, swp, reduceIte, Nat.reduceLT, Nat.reduceAdd] at h
  rw [renM_nobjs, renRows, nfam_swp (by omega) (by omega) (by omega)] at h
  exact h
theorem toSecS_614 (s : Sky) (hs : s.small) : Contract P 72 [.sl 1 2 (s.secs.map (Sec.row 1))] [] (.own 614 0 0 s.secs.length) ((614, .arr (1000000 + 111) 0 2 ((fS 108 s).map NRow.row)) :: nobjs (fS 108 s)) := by
  unfold Sky.small at hs
  have h := ((c_toSecSO 1 s.secs (by omega) hs.2.2.1.2).ren (swp 107 614) (swp_swp _ _)).ren (swpF 107 108) (swpF_swpF (by omega) (by omega))
  have e : swpF 107 108 (swp 107 614 107) = 614 := by rfl
  simp only [renL, ren, renM, renO, e, Nat.reduceLT, Nat.reduceAdd, reduceIte] at h
  rw [renM_nobjs, renM_nobjs, renRows, renRows, nfam_swp (by omega) (by omega) (by omega), nfam_swpF (by omega) (by omega)] at h
  exact h
set_option maxHeartbeats 2000000 in
theorem c_toSkyO (s : Sky) (hs : s.small) : Contract P 14 [.agg (s.row 1)] [] (skyV s 611 613 614 612) (skyM s 611 613 614 612 107 108) := by
  have hA := toAwS_613 s hs
  have hS := toSecS_614 s hs
  have bA : bigs (nobjs (fA 107 s)).reverse := bigs_rev bigs_nfam
  have bS : bigs (nobjs (fS 108 s)).reverse := bigs_rev bigs_nfam
  unfold Sky.small at hs
  refine fn_sound (((Env.nil P).addR 70 r_toPtSO h_toPtSO).addR 73 r_toRwSO h_toRwSO) hm k_laws_toSky (Nat.le_of_ble_eq_true rfl) rfl ?_; unfold s_laws_toSky; simp (config := { maxSteps := 2000000 }) only [bitvec_to_nat, reduceIte, Nat.reduceEqDiff, Nat.reduceAdd, Nat.reduceLeDiff, reduceCtorEq, Nat.reduceBEq, Nat.reduceLT, Nat.reduceMod, List.forall_mem_cons, retG_ret, retQ_eq, retQ_eqN, retOk, keepB, re_tupl, orr_t, r_toPtSO, r_toRwSO, tk_map, dp_map, toNat_pred, appE, rowsOf, List.take_length, List.length_cons, List.length_nil, Nat.zero_add, srow, irow, un_s, un_i, Pt.row, Pt_eta, Aw.row, Aw_eta, Blk.row, Blk_eta, Sec.row, Sec_eta, Rw.row, Rw_eta, Sky.row, Sky_eta, Place.row, Place_eta, un_Pt, un_Aw, un_Blk, un_Sec, un_Rw, un_Sky, un_Place, Nat.sub_zero, Sky.row, skyV]
  refine ⟨by omega, fun _ => ⟨_, _, .inr (.inr (.inl ⟨_, by simp only [purL, pur, Option.map_some], hA, ?_, rfl, fam_refs (by omega), trivial, ?_⟩)), ?_⟩⟩
  · intro p hp
    rcases List.mem_cons.1 hp with rfl | hp
    · simp [getM]
    · obtain ⟨i, _, rfl⟩ := nfam_at hp
      simp only [getM, fam_ne (show (101 : Nat) < 1000 from by omega), fam_ne (show (102 : Nat) < 1000 from by omega), fam_ne (show (103 : Nat) < 1000 from by omega), fam_ne (show (611 : Nat) < 1000 from by omega), if_false]
  · intro p hp
    rcases List.mem_cons.1 hp with rfl | hp
    · exact no99_NRow _
    · exact awP_99 s p _ hp
  simp (config := { maxSteps := 2000000 }) only [bitvec_to_nat, reduceIte, Nat.reduceEqDiff, Nat.reduceAdd, Nat.reduceLeDiff, reduceCtorEq, Nat.reduceBEq, Nat.reduceLT, Nat.reduceMod, List.forall_mem_cons, retG_ret, retQ_eq, retQ_eqN, retOk, keepB, re_tupl, orr_t, r_toPtSO, r_toRwSO, tk_map, dp_map, toNat_pred, appE, rowsOf, List.take_length, List.length_cons, List.length_nil, Nat.zero_add, srow, irow, un_s, un_i, Pt.row, Pt_eta, Aw.row, Aw_eta, Blk.row, Blk_eta, Sec.row, Sec_eta, Rw.row, Rw_eta, Sky.row, Sky_eta, Place.row, Place_eta, un_Pt, un_Aw, un_Blk, un_Sec, un_Rw, un_Sky, un_Place, Nat.sub_zero, Sky.row, skyV]
  rw [aU (U := nobjs (fA 107 s)) (fun p hp => by
    obtain ⟨i, _, rfl⟩ := nfam_at hp
    simp only [getM, fam_ne, Nat.reduceLT, if_false]) nfam_pw]
  simp (config := { maxSteps := 2000000 }) only [bitvec_to_nat, reduceIte, Nat.reduceEqDiff, Nat.reduceAdd, Nat.reduceLeDiff, reduceCtorEq, Nat.reduceBEq, Nat.reduceLT, Nat.reduceMod, List.forall_mem_cons, retG_ret, retQ_eq, retQ_eqN, retOk, keepB, re_tupl, orr_t, r_toPtSO, r_toRwSO, tk_map, dp_map, toNat_pred, appE, rowsOf, List.take_length, List.length_cons, List.length_nil, Nat.zero_add, srow, irow, un_s, un_i, Pt.row, Pt_eta, Aw.row, Aw_eta, Blk.row, Blk_eta, Sec.row, Sec_eta, Rw.row, Rw_eta, Sky.row, Sky_eta, Place.row, Place_eta, un_Pt, un_Aw, un_Blk, un_Sec, un_Rw, un_Sky, un_Place, Nat.sub_zero, Sky.row, gB, gB0, sB, sB0, bA, bS, List.append_assoc, List.cons_append, List.nil_append, List.append_nil]
  refine ⟨_, _, .inr (.inr (.inl ⟨_, by simp only [purL, pur, Option.map_some], hS, ?_, rfl, fam_refs (by omega), trivial, ?_⟩)), ?_⟩
  · intro p hp
    rcases List.mem_cons.1 hp with rfl | hp
    · simp only [getM, gB bA, Nat.reduceLT, Nat.reduceEqDiff, reduceIte]
    · obtain ⟨i, _, rfl⟩ := nfam_at hp
      simp only [getM, fam_ne, Nat.reduceLT, if_false, getM_append, fA, getM_rfam, nfam_none, ne_eq, Nat.reduceEqDiff, not_false_eq_true, Option.none_or]
  · intro p hp
    rcases List.mem_cons.1 hp with rfl | hp
    · exact no99_NRow _
    · exact secP_99 s p _ hp
  simp (config := { maxSteps := 2000000 }) only [bitvec_to_nat, reduceIte, Nat.reduceEqDiff, Nat.reduceAdd, Nat.reduceLeDiff, reduceCtorEq, Nat.reduceBEq, Nat.reduceLT, Nat.reduceMod, List.forall_mem_cons, retG_ret, retQ_eq, retQ_eqN, retOk, keepB, re_tupl, orr_t, r_toPtSO, r_toRwSO, tk_map, dp_map, toNat_pred, appE, rowsOf, List.take_length, List.length_cons, List.length_nil, Nat.zero_add, srow, irow, un_s, un_i, Pt.row, Pt_eta, Aw.row, Aw_eta, Blk.row, Blk_eta, Sec.row, Sec_eta, Rw.row, Rw_eta, Sky.row, Sky_eta, Place.row, Place_eta, un_Pt, un_Aw, un_Blk, un_Sec, un_Rw, un_Sky, un_Place, Nat.sub_zero, Sky.row, gB, gB0, sB, sB0, bA, bS, List.append_assoc, List.cons_append, List.nil_append, List.append_nil]
  rw [aU (U := nobjs (fS 108 s)) (fun p hp => by
    obtain ⟨i, _, rfl⟩ := nfam_at hp
    simp only [getM, fam_ne, Nat.reduceLT, if_false, getM_append, fA, getM_rfam, nfam_none, ne_eq, Nat.reduceEqDiff, not_false_eq_true, Option.none_or]) nfam_pw]
  simp (config := { maxSteps := 2000000 }) only [bitvec_to_nat, reduceIte, Nat.reduceEqDiff, Nat.reduceAdd, Nat.reduceLeDiff, reduceCtorEq, Nat.reduceBEq, Nat.reduceLT, Nat.reduceMod, List.forall_mem_cons, retG_ret, retQ_eq, retQ_eqN, retOk, keepB, re_tupl, orr_t, r_toPtSO, r_toRwSO, tk_map, dp_map, toNat_pred, appE, rowsOf, List.take_length, List.length_cons, List.length_nil, Nat.zero_add, srow, irow, un_s, un_i, Pt.row, Pt_eta, Aw.row, Aw_eta, Blk.row, Blk_eta, Sec.row, Sec_eta, Rw.row, Rw_eta, Sky.row, Sky_eta, Place.row, Place_eta, un_Pt, un_Aw, un_Blk, un_Sec, un_Rw, un_Sky, un_Place, Nat.sub_zero, Sky.row, gB, gB0, sB, sB0, bA, bS, List.append_assoc, List.cons_append, List.nil_append, List.append_nil]
  refine ⟨by omega, fun _ => ⟨wkM_sky ?_ ?_ ?_ ?_ (fun i hi => ?_) (fun i hi => ?_), sky_refs, by rw [show List.map (fun x => x.1) (skyM s 611 613 614 612 107 108) = dom (skyM s 611 613 614 612 107 108) from rfl, sky_dom]; simp [refsIn], ?_⟩⟩
  · simp only [getM, Nat.reduceEqDiff, reduceIte]
  · simp only [getM, gB bA, Nat.reduceLT, Nat.reduceEqDiff, reduceIte]
  · simp only [getM, gB bA, gB bS, Nat.reduceLT, Nat.reduceEqDiff, reduceIte]
  · simp only [getM, gB bA, gB bS, Nat.reduceLT, Nat.reduceEqDiff, reduceIte]
  · simp only [getM, fam_ne, Nat.reduceLT, if_false, getM_append, fA, getM_rfam, nfam_obj (x := s.aws.map awP) (by simpa using hi), Option.some_or]
  · simp only [getM, fam_ne, Nat.reduceLT, if_false, getM_append, fA, fS, getM_rfam, nfam_none, ne_eq, Nat.reduceEqDiff, not_false_eq_true, Option.none_or, nfam_obj (x := s.secs.map secP) (by simpa using hi), Option.some_or]
  · exact keep_big (M' := skyM s 611 613 614 612 107 108) (M := (101, .gone) :: (102, .gone) :: (103, .gone) :: (611, .gone) :: ((nobjs (fA 107 s)).reverse ++ (613, _) :: ((nobjs (fS 108 s)).reverse ++ [(614, _), (612, _)])))
      (big100_cons (by omega) (big100_cons (by omega) (big100_cons (by omega) (big100_cons (by omega) (big100_app (big100_rev (big100_nfam (by omega) (by omega))) (big100_cons (by omega) (big100_app (big100_rev (big100_nfam (by omega) (by omega))) (big100_cons (by omega) (big100_cons (by omega) big100_nil)))))))))

end
end Go.Ve

