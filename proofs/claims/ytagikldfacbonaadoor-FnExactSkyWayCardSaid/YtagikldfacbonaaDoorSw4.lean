/- Part 4 of the proof: laws and contracts of functions, each proved; they are joined in the last part. No conditions beyond those that the theorems state. -/
import Derived.Test.YtagikldfacbonaaDoorSw3
set_option linter.all false
namespace Go.Ve
noncomputable section
open Go.Proofs
set_option linter.unusedSimpArgs false
set_option linter.unusedVariables false
set_option maxRecDepth 100000
def VQ : List AV → Option (Prop × AV)
  | [.agg [.int .i64 s_w, .int .i64 s_h, .int .i64 s_lv, .sl 0 3 s_pts, .sl 0 2 s_aws, .sl 0 2 s_secs, .sl 0 4 s_rws]] => some ((((s_pts.map Y1).map Pt.row = s_pts) ∧ ((s_aws.map Y4).map (Aw.row 0) = s_aws) ∧ ((s_secs.map KC).map (Sec.row 0) = s_secs) ∧ ((s_rws.map Y2).map Rw.row = s_rws)) ∧ (Uj (Sky.mk s_w s_h s_lv (s_pts.map Y1) (s_aws.map Y4) (s_secs.map KC) (s_rws.map Y2)).w (Sky.mk s_w s_h s_lv (s_pts.map Y1) (s_aws.map Y4) (s_secs.map KC) (s_rws.map Y2)).h (Sky.mk s_w s_h s_lv (s_pts.map Y1) (s_aws.map Y4) (s_secs.map KC) (s_rws.map Y2)).lv ∧ (Sky.mk s_w s_h s_lv (s_pts.map Y1) (s_aws.map Y4) (s_secs.map KC) (s_rws.map Y2)).small), .bool (decide (QlN (Sky.mk s_w s_h s_lv (s_pts.map Y1) (s_aws.map Y4) (s_secs.map KC) (s_rws.map Y2)).w (Sky.mk s_w s_h s_lv (s_pts.map Y1) (s_aws.map Y4) (s_secs.map KC) (s_rws.map Y2)).h (Sky.mk s_w s_h s_lv (s_pts.map Y1) (s_aws.map Y4) (s_secs.map KC) (s_rws.map Y2)).pts)))
  | _ => none
theorem Qh6 : ∀ args p v, VQ args = some (p, v) → p → Contract P 66 args [] v [] ∧ noref v = true ∧ No99 v := by
  intro args p v h1 h2
  unfold VQ at h1
  split at h1
  · rename_i s_w s_h s_lv s_pts s_aws s_secs s_rws
    cases h1
    obtain ⟨⟨e0, e1, e2, e3⟩, HP⟩ := h2
    have := Qh5 (Sky.mk s_w s_h s_lv (s_pts.map Y1) (s_aws.map Y4) (s_secs.map KC) (s_rws.map Y2)) HP.1 HP.2
    exact ⟨by simpa only [e0, e1, e2, e3, Sky.row] using this, rfl, trivial⟩
  · cases h1
set_option maxHeartbeats 400000 in
theorem QaO (s : Sky) (i : Nat) {Q : XT → St → Prop} (hi : i < s.aws.length) (hl : s.aws.length ≤ 1048576) (hQ : ∀ bv : Bool, (bv = true ↔ ¬ (XG (s.aws.getD i default).nm ∧ (0 < i → slt (s.aws.getD (i - 1) default).nm (s.aws.getD i default).nm) ∧ 2 ≤ (s.aws.getD i default).pts.length ∧ (s.aws.getD i default).pts.length ≤ 8)) → Q .normal ⟨[(1, .ptr 101 0), (3, .int .i64 i), (4, .ptr 104 0), (49, .bool bv)], [(101, .box [.int .i64 s.w, .int .i64 s.h, .int .i64 s.lv, .sl 0 3 (s.pts.map Pt.row), .sl 0 2 (s.aws.map (Aw.row 0)), .sl 0 2 (s.secs.map (Sec.row 0)), .sl 0 4 (s.rws.map Rw.row)]), (104, .box [.str (s.aws.getD i default).nm, .sl 0 1 ((s.aws.getD i default).pts.map Ko)])]⟩) : SCode.wp ((((Env.nil P).add 65 Y0 Vd).add 82 KI X9).add 71 Y6 Wy) XY Q ⟨[(1, .ptr 101 0), (3, .int .i64 i), (4, .ptr 104 0)], [(101, .box [.int .i64 s.w, .int .i64 s.h, .int .i64 s.lv, .sl 0 3 (s.pts.map Pt.row), .sl 0 2 (s.aws.map (Aw.row 0)), .sl 0 2 (s.secs.map (Sec.row 0)), .sl 0 4 (s.rws.map Rw.row)]), (104, .box [.str (s.aws.getD i default).nm, .sl 0 1 ((s.aws.getD i default).pts.map Ko)])]⟩ := by
  all_goals (unfold XY; simp (config := { maxSteps := 2000000 }) only [JK, Gr, KO, KP, JL, QW, JM, JN, KQ, Gs, KR, KS, KT, KU, KV, KW, KX, KY, KZ, K1, K2, QX, QY, QZ, JO, JP, JQ, Q0, Q1, Q2, Q3, Q4, Q5, JR, JS, JT, JU, Jq, Jr, Kp, Yv, GU, JV, Qz, Qk, KN, QT, QU, JH, QV, JI, JJ, QS, Qy, JE, JF, KK, JG, KL, KM, Q8, Q9, Qc, Qd, QE, QF, Ja, Jb, QQ, QR, Qe, Qf, GD, GE, JZ, J0, K3, JW, JX, JY, Kb, Kc, Kd, QA, QB, QD, Gt, Gu, Gv, Gw, Q6, Q7, Gy, Gx, Gz, QG, J1, K4, J2, K5, K6, K7, K8, J3, Jc, K9, Jd, Je, Jf, Jg, Jh, QH, QI, Ji, J4, Jj, J5, J6, J7, GA, GB, Ya, Jk, Yb, QJ, KJ, J8, KF, GC, Jl, YF, YE, YD, Gk, List.length_take, Int.toNat_zero, List.drop_zero, YC, Ks, QL, Jt, GX, Yu, Kr, Kq, Js, Yc, J9, Yd, Ye, GF, Yf, Yg, GG, Yh, Ka, Yi, GH, Yj, Yk, GI, GJ, GK, Yl, eff, JB, QO, Ke, Ym, Kf, Kg, Kh, GL, GM, JD, JC, Jm, GN, GO, GP, Y7, pur, List.map, List.drop, List.take, List.length, List.foldl, List.append_eq, List.nil_append, List.cons_append, List.getD_cons_zero, List.getD_cons_succ, reduceIte, Nat.reduceEqDiff, Nat.reduceAdd, Nat.reduceLeDiff, true_and, and_true, Bool.not_true, Bool.not_false, Bool.and_true, Bool.true_and, Bool.and_self, reduceCtorEq, true_implies, false_implies, implies_true, decide_eq_true_eq, Option.map_some, Gm, fpX, SOp.xs, oX, refs, KE, dom, Gl, List.all_nil, List.all_cons, List.contains_cons, List.contains_nil, Nat.reduceBEq, Bool.or_false, Bool.false_or, List.append_nil, Bool.not_false, Bool.not_true, List.forall_mem_cons, fm0, List.set, Nat.reduceLT, Nat.reduceMod, ne_eq, not_false_eq_true, not_true_eq_false, GQ, Yn, Yo, Yp, Ki, Jn, Kj, Yq, Kk, Kl, GR, GS, GT, Yr, Ys, Yt, Jo, Jp, decide_true, AV.bool.injEq, AV.int.injEq, Nat.reduceLeDiff, decide_eq_true_eq, decide_eq_false_iff_not, Int.toNat_natCast, List.length_map, decide_false, KH, noref, flatOk, Qb, wkM, Km, Kw, Kx, Ju, QM, Kv, Jv, Kt, Ku, Qn, QN, Classical.not_not, Y0, KI, Y6, Qr, Qt, Qa, Yw, Ql, List.take_length, List.length_cons, List.length_nil, Nat.zero_add, Ko, Yx, Yy, YG, Zone.row, Qj, QK, Pt.row, Qs, Jw, Aw.row, Qv, Jx, Blk.row, Qg, Qp, Sec.row, Qh, Qu, Rw.row, Qw, Jy, Qi])
  repeat' (first | with_reducible apply And.intro | with_reducible intro _)
  all_goals first
    | omega
    | (refine hQ _ ?_
       first
         | grind []
         | (simp; grind []))
    | grind []
theorem Qgv (s : Sky) (hs : s.small) : Contract P 67 [.agg (s.row 0)] [] (.bool (decide (QlO s.pts s.aws))) [] := by
  have hl : s.aws.length ≤ 1048576 := hs.2.1.1
  have hp : s.pts.length ≤ 1048576 := hs.1
  simp only [Sky.row]
  refine QP ((((Env.nil P).add 65 Y0 Vd).add 82 KI X9).add 71 Y6 Wy) hm QcF (Nat.le_of_ble_eq_true rfl) rfl ?_; unfold VG; simp (config := { maxSteps := 2000000 }) only [JK, Gr, KO, KP, JL, QW, JM, JN, KQ, Gs, KR, KS, KT, KU, KV, KW, KX, KY, KZ, K1, K2, QX, QY, QZ, JO, JP, JQ, Q0, Q1, Q2, Q3, Q4, Q5, JR, JS, JT, JU, Jq, Jr, Kp, Yv, GU, JV, Qz, Qk, KN, QT, QU, JH, QV, JI, JJ, QS, Qy, JE, JF, KK, JG, KL, KM, Q8, Q9, Qc, Qd, QE, QF, Ja, Jb, QQ, QR, Qe, Qf, GD, GE, JZ, J0, K3, JW, JX, JY, Kb, Kc, Kd, QA, QB, QD, Gt, Gu, Gv, Gw, Q6, Q7, Gy, Gx, Gz, QG, J1, K4, J2, K5, K6, K7, K8, J3, Jc, K9, Jd, Je, Jf, Jg, Jh, QH, QI, Ji, J4, Jj, J5, J6, J7, GA, GB, Ya, Jk, Yb, QJ, KJ, J8, KF, GC, Jl, YF, YE, YD, Gk, List.length_take, Int.toNat_zero, List.drop_zero, YC, Ks, QL, Jt, GX, Yu, Kr, Kq, Js, Yc, J9, Yd, Ye, GF, Yf, Yg, GG, Yh, Ka, Yi, GH, Yj, Yk, GI, GJ, GK, Yl, eff, JB, QO, Ke, Ym, Kf, Kg, Kh, GL, GM, JD, JC, Jm, GN, GO, GP, Y7, pur, List.map, List.drop, List.take, List.length, List.foldl, List.append_eq, List.nil_append, List.cons_append, List.getD_cons_zero, List.getD_cons_succ, reduceIte, Nat.reduceEqDiff, Nat.reduceAdd, Nat.reduceLeDiff, true_and, and_true, Bool.not_true, Bool.not_false, Bool.and_true, Bool.true_and, Bool.and_self, reduceCtorEq, true_implies, false_implies, implies_true, decide_eq_true_eq, Option.map_some, Gm, fpX, SOp.xs, oX, refs, KE, dom, Gl, List.all_nil, List.all_cons, List.contains_cons, List.contains_nil, Nat.reduceBEq, Bool.or_false, Bool.false_or, List.append_nil, Bool.not_false, Bool.not_true, List.forall_mem_cons, fm0, List.set, Nat.reduceLT, Nat.reduceMod, ne_eq, not_false_eq_true, not_true_eq_false, GQ, Yn, Yo, Yp, Ki, Jn, Kj, Yq, Kk, Kl, GR, GS, GT, Yr, Ys, Yt, Jo, Jp, decide_true, AV.bool.injEq, AV.int.injEq, Nat.reduceLeDiff, decide_eq_true_eq, decide_eq_false_iff_not, Int.toNat_natCast, List.length_map, decide_false, KH, noref, flatOk, Qb, wkM, Km, Kw, Kx, Ju, QM, Kv, Jv, Kt, Ku, Qn, QN, Classical.not_not, Y0, KI, Y6, Qr, Qt, Qa, Yw, Ql, List.take_length, List.length_cons, List.length_nil, Nat.zero_add, Ko, Yx, Yy, YG, Zone.row, Qj, QK, Pt.row, Qs, Jw, Aw.row, Qv, Jx, Blk.row, Qg, Qp, Sec.row, Qh, Qu, Rw.row, Qw, Jy, Qi]
  refine ⟨fun h1 => by intro h; have := h.1; omega, fun h1 => ?_⟩
  refine Yz (fun i : Nat => [(3, .int .i64 i)]) (fun _ => []) (fun i => i ≤ s.aws.length ∧ ∀ j, j < i → Qo8 s.pts s.aws j) (fun i => s.aws.length - i) (0) (by simp only [YC, YD, YE, YF, Qc, Qd, Qe, Qf, reduceIte, Nat.reduceEqDiff]; exact ⟨by repeat' (first | exact trivial | refine ⟨.inr rfl, ?_⟩), by repeat' (first | exact trivial | refine ⟨rfl, ?_⟩), by first | rfl | simp [closedB, Qx, Qo, Qb, dom, Qm, *], by first | rfl | simp [keepB, dom]⟩) ?_ ?_
  · exact ⟨Nat.zero_le _, by intro j hj; omega⟩
  intro i hi NX hN
  unfold Uy; simp (config := { maxSteps := 2000000 }) only [JK, Gr, KO, KP, JL, QW, JM, JN, KQ, Gs, KR, KS, KT, KU, KV, KW, KX, KY, KZ, K1, K2, QX, QY, QZ, JO, JP, JQ, Q0, Q1, Q2, Q3, Q4, Q5, JR, JS, JT, JU, Jq, Jr, Kp, Yv, GU, JV, Qz, Qk, KN, QT, QU, JH, QV, JI, JJ, QS, Qy, JE, JF, KK, JG, KL, KM, Q8, Q9, Qc, Qd, QE, QF, Ja, Jb, QQ, QR, Qe, Qf, GD, GE, JZ, J0, K3, JW, JX, JY, Kb, Kc, Kd, QA, QB, QD, Gt, Gu, Gv, Gw, Q6, Q7, Gy, Gx, Gz, QG, J1, K4, J2, K5, K6, K7, K8, J3, Jc, K9, Jd, Je, Jf, Jg, Jh, QH, QI, Ji, J4, Jj, J5, J6, J7, GA, GB, Ya, Jk, Yb, QJ, KJ, J8, KF, GC, Jl, YF, YE, YD, Gk, List.length_take, Int.toNat_zero, List.drop_zero, YC, Ks, QL, Jt, GX, Yu, Kr, Kq, Js, Yc, J9, Yd, Ye, GF, Yf, Yg, GG, Yh, Ka, Yi, GH, Yj, Yk, GI, GJ, GK, Yl, eff, JB, QO, Ke, Ym, Kf, Kg, Kh, GL, GM, JD, JC, Jm, GN, GO, GP, Y7, pur, List.map, List.drop, List.take, List.length, List.foldl, List.append_eq, List.nil_append, List.cons_append, List.getD_cons_zero, List.getD_cons_succ, reduceIte, Nat.reduceEqDiff, Nat.reduceAdd, Nat.reduceLeDiff, true_and, and_true, Bool.not_true, Bool.not_false, Bool.and_true, Bool.true_and, Bool.and_self, reduceCtorEq, true_implies, false_implies, implies_true, decide_eq_true_eq, Option.map_some, Gm, fpX, SOp.xs, oX, refs, KE, dom, Gl, List.all_nil, List.all_cons, List.contains_cons, List.contains_nil, Nat.reduceBEq, Bool.or_false, Bool.false_or, List.append_nil, Bool.not_false, Bool.not_true, List.forall_mem_cons, fm0, List.set, Nat.reduceLT, Nat.reduceMod, ne_eq, not_false_eq_true, not_true_eq_false, GQ, Yn, Yo, Yp, Ki, Jn, Kj, Yq, Kk, Kl, GR, GS, GT, Yr, Ys, Yt, Jo, Jp, decide_true, AV.bool.injEq, AV.int.injEq, Nat.reduceLeDiff, decide_eq_true_eq, decide_eq_false_iff_not, Int.toNat_natCast, List.length_map, decide_false, KH, noref, flatOk, Qb, wkM, Km, Kw, Kx, Ju, QM, Kv, Jv, Kt, Ku, Qn, QN, Classical.not_not, Y0, KI, Y6, Qr, Qt, Qa, Yw, Ql, List.take_length, List.length_cons, List.length_nil, Nat.zero_add, Ko, Yx, Yy, YG, Zone.row, Qj, QK, Pt.row, Qs, Jw, Aw.row, Qv, Jx, Blk.row, Qg, Qp, Sec.row, Qh, Qu, Rw.row, Qw, Jy, Qi]
  refine ⟨fun g1 => ⟨by omega, by omega, ?_⟩, fun g1 => ?_⟩
  · have hq4 := Sky.small_aw hs (i := i) (by omega)
    have A : QlO s.pts s.aws → Qo8 s.pts s.aws i := fun h => h.2 i (by omega)
    unfold Qo8 at A
    refine QaO s i (by omega) hl fun bv hbv => ?_
    cases bv
    case true =>
      simp (config := { maxSteps := 2000000 }) only [JK, Gr, KO, KP, JL, QW, JM, JN, KQ, Gs, KR, KS, KT, KU, KV, KW, KX, KY, KZ, K1, K2, QX, QY, QZ, JO, JP, JQ, Q0, Q1, Q2, Q3, Q4, Q5, JR, JS, JT, JU, Jq, Jr, Kp, Yv, GU, JV, Qz, Qk, KN, QT, QU, JH, QV, JI, JJ, QS, Qy, JE, JF, KK, JG, KL, KM, Q8, Q9, Qc, Qd, QE, QF, Ja, Jb, QQ, QR, Qe, Qf, GD, GE, JZ, J0, K3, JW, JX, JY, Kb, Kc, Kd, QA, QB, QD, Gt, Gu, Gv, Gw, Q6, Q7, Gy, Gx, Gz, QG, J1, K4, J2, K5, K6, K7, K8, J3, Jc, K9, Jd, Je, Jf, Jg, Jh, QH, QI, Ji, J4, Jj, J5, J6, J7, GA, GB, Ya, Jk, Yb, QJ, KJ, J8, KF, GC, Jl, YF, YE, YD, Gk, List.length_take, Int.toNat_zero, List.drop_zero, YC, Ks, QL, Jt, GX, Yu, Kr, Kq, Js, Yc, J9, Yd, Ye, GF, Yf, Yg, GG, Yh, Ka, Yi, GH, Yj, Yk, GI, GJ, GK, Yl, eff, JB, QO, Ke, Ym, Kf, Kg, Kh, GL, GM, JD, JC, Jm, GN, GO, GP, Y7, pur, List.map, List.drop, List.take, List.length, List.foldl, List.append_eq, List.nil_append, List.cons_append, List.getD_cons_zero, List.getD_cons_succ, reduceIte, Nat.reduceEqDiff, Nat.reduceAdd, Nat.reduceLeDiff, true_and, and_true, Bool.not_true, Bool.not_false, Bool.and_true, Bool.true_and, Bool.and_self, reduceCtorEq, true_implies, false_implies, implies_true, decide_eq_true_eq, Option.map_some, Gm, fpX, SOp.xs, oX, refs, KE, dom, Gl, List.all_nil, List.all_cons, List.contains_cons, List.contains_nil, Nat.reduceBEq, Bool.or_false, Bool.false_or, List.append_nil, Bool.not_false, Bool.not_true, List.forall_mem_cons, fm0, List.set, Nat.reduceLT, Nat.reduceMod, ne_eq, not_false_eq_true, not_true_eq_false, GQ, Yn, Yo, Yp, Ki, Jn, Kj, Yq, Kk, Kl, GR, GS, GT, Yr, Ys, Yt, Jo, Jp, decide_true, AV.bool.injEq, AV.int.injEq, Nat.reduceLeDiff, decide_eq_true_eq, decide_eq_false_iff_not, Int.toNat_natCast, List.length_map, decide_false, KH, noref, flatOk, Qb, wkM, Km, Kw, Kx, Ju, QM, Kv, Jv, Kt, Ku, Qn, QN, Classical.not_not, Y0, KI, Y6, Qr, Qt, Qa, Yw, Ql, List.take_length, List.length_cons, List.length_nil, Nat.zero_add, Ko, Yx, Yy, YG, Zone.row, Qj, QK, Pt.row, Qs, Jw, Aw.row, Qv, Jx, Blk.row, Qg, Qp, Sec.row, Qh, Qu, Rw.row, Qw, Jy, Qi]
      exact fun hq => (hbv.1 rfl) ⟨(A hq).1, (A hq).2.1, (A hq).2.2.1⟩
    have o1 := Classical.not_not.1 fun h => Bool.noConfusion (hbv.2 h)
    simp (config := { maxSteps := 2000000 }) only [JK, Gr, KO, KP, JL, QW, JM, JN, KQ, Gs, KR, KS, KT, KU, KV, KW, KX, KY, KZ, K1, K2, QX, QY, QZ, JO, JP, JQ, Q0, Q1, Q2, Q3, Q4, Q5, JR, JS, JT, JU, Jq, Jr, Kp, Yv, GU, JV, Qz, Qk, KN, QT, QU, JH, QV, JI, JJ, QS, Qy, JE, JF, KK, JG, KL, KM, Q8, Q9, Qc, Qd, QE, QF, Ja, Jb, QQ, QR, Qe, Qf, GD, GE, JZ, J0, K3, JW, JX, JY, Kb, Kc, Kd, QA, QB, QD, Gt, Gu, Gv, Gw, Q6, Q7, Gy, Gx, Gz, QG, J1, K4, J2, K5, K6, K7, K8, J3, Jc, K9, Jd, Je, Jf, Jg, Jh, QH, QI, Ji, J4, Jj, J5, J6, J7, GA, GB, Ya, Jk, Yb, QJ, KJ, J8, KF, GC, Jl, YF, YE, YD, Gk, List.length_take, Int.toNat_zero, List.drop_zero, YC, Ks, QL, Jt, GX, Yu, Kr, Kq, Js, Yc, J9, Yd, Ye, GF, Yf, Yg, GG, Yh, Ka, Yi, GH, Yj, Yk, GI, GJ, GK, Yl, eff, JB, QO, Ke, Ym, Kf, Kg, Kh, GL, GM, JD, JC, Jm, GN, GO, GP, Y7, pur, List.map, List.drop, List.take, List.length, List.foldl, List.append_eq, List.nil_append, List.cons_append, List.getD_cons_zero, List.getD_cons_succ, reduceIte, Nat.reduceEqDiff, Nat.reduceAdd, Nat.reduceLeDiff, true_and, and_true, Bool.not_true, Bool.not_false, Bool.and_true, Bool.true_and, Bool.and_self, reduceCtorEq, true_implies, false_implies, implies_true, decide_eq_true_eq, Option.map_some, Gm, fpX, SOp.xs, oX, refs, KE, dom, Gl, List.all_nil, List.all_cons, List.contains_cons, List.contains_nil, Nat.reduceBEq, Bool.or_false, Bool.false_or, List.append_nil, Bool.not_false, Bool.not_true, List.forall_mem_cons, fm0, List.set, Nat.reduceLT, Nat.reduceMod, ne_eq, not_false_eq_true, not_true_eq_false, GQ, Yn, Yo, Yp, Ki, Jn, Kj, Yq, Kk, Kl, GR, GS, GT, Yr, Ys, Yt, Jo, Jp, decide_true, AV.bool.injEq, AV.int.injEq, Nat.reduceLeDiff, decide_eq_true_eq, decide_eq_false_iff_not, Int.toNat_natCast, List.length_map, decide_false, KH, noref, flatOk, Qb, wkM, Km, Kw, Kx, Ju, QM, Kv, Jv, Kt, Ku, Qn, QN, Classical.not_not, Y0, KI, Y6, Qr, Qt, Qa, Yw, Ql, List.take_length, List.length_cons, List.length_nil, Nat.zero_add, Ko, Yx, Yy, YG, Zone.row, Qj, QK, Pt.row, Qs, Jw, Aw.row, Qv, Jx, Blk.row, Qg, Qp, Sec.row, Qh, Qu, Rw.row, Qw, Jy, Qi]
    refine Yz (fun k : Nat => [(5, .int .i64 k)]) (fun _ => []) (fun k => k ≤ (s.aws.getD i default).pts.length ∧ ∀ j, j < k → Qrq s.pts (s.aws.getD i default).pts j) (fun k => (s.aws.getD i default).pts.length - k) (0) (by simp only [YC, YD, YE, YF, Qc, Qd, Qe, Qf, reduceIte, Nat.reduceEqDiff]; exact ⟨by repeat' (first | exact trivial | refine ⟨.inr rfl, ?_⟩), by repeat' (first | exact trivial | refine ⟨rfl, ?_⟩), by first | rfl | simp [closedB, Qx, Qo, Qb, dom, Qm, *], by first | rfl | simp [keepB, dom]⟩) ?_ ?_
    · exact ⟨Nat.zero_le _, by intro j hj; omega⟩
    intro k hk NX2 hN2
    unfold Ux; simp (config := { maxSteps := 2000000 }) only [JK, Gr, KO, KP, JL, QW, JM, JN, KQ, Gs, KR, KS, KT, KU, KV, KW, KX, KY, KZ, K1, K2, QX, QY, QZ, JO, JP, JQ, Q0, Q1, Q2, Q3, Q4, Q5, JR, JS, JT, JU, Jq, Jr, Kp, Yv, GU, JV, Qz, Qk, KN, QT, QU, JH, QV, JI, JJ, QS, Qy, JE, JF, KK, JG, KL, KM, Q8, Q9, Qc, Qd, QE, QF, Ja, Jb, QQ, QR, Qe, Qf, GD, GE, JZ, J0, K3, JW, JX, JY, Kb, Kc, Kd, QA, QB, QD, Gt, Gu, Gv, Gw, Q6, Q7, Gy, Gx, Gz, QG, J1, K4, J2, K5, K6, K7, K8, J3, Jc, K9, Jd, Je, Jf, Jg, Jh, QH, QI, Ji, J4, Jj, J5, J6, J7, GA, GB, Ya, Jk, Yb, QJ, KJ, J8, KF, GC, Jl, YF, YE, YD, Gk, List.length_take, Int.toNat_zero, List.drop_zero, YC, Ks, QL, Jt, GX, Yu, Kr, Kq, Js, Yc, J9, Yd, Ye, GF, Yf, Yg, GG, Yh, Ka, Yi, GH, Yj, Yk, GI, GJ, GK, Yl, eff, JB, QO, Ke, Ym, Kf, Kg, Kh, GL, GM, JD, JC, Jm, GN, GO, GP, Y7, pur, List.map, List.drop, List.take, List.length, List.foldl, List.append_eq, List.nil_append, List.cons_append, List.getD_cons_zero, List.getD_cons_succ, reduceIte, Nat.reduceEqDiff, Nat.reduceAdd, Nat.reduceLeDiff, true_and, and_true, Bool.not_true, Bool.not_false, Bool.and_true, Bool.true_and, Bool.and_self, reduceCtorEq, true_implies, false_implies, implies_true, decide_eq_true_eq, Option.map_some, Gm, fpX, SOp.xs, oX, refs, KE, dom, Gl, List.all_nil, List.all_cons, List.contains_cons, List.contains_nil, Nat.reduceBEq, Bool.or_false, Bool.false_or, List.append_nil, Bool.not_false, Bool.not_true, List.forall_mem_cons, fm0, List.set, Nat.reduceLT, Nat.reduceMod, ne_eq, not_false_eq_true, not_true_eq_false, GQ, Yn, Yo, Yp, Ki, Jn, Kj, Yq, Kk, Kl, GR, GS, GT, Yr, Ys, Yt, Jo, Jp, decide_true, AV.bool.injEq, AV.int.injEq, Nat.reduceLeDiff, decide_eq_true_eq, decide_eq_false_iff_not, Int.toNat_natCast, List.length_map, decide_false, KH, noref, flatOk, Qb, wkM, Km, Kw, Kx, Ju, QM, Kv, Jv, Kt, Ku, Qn, QN, Classical.not_not, Y0, KI, Y6, Qr, Qt, Qa, Yw, Ql, List.take_length, List.length_cons, List.length_nil, Nat.zero_add, Ko, Yx, Yy, YG, Zone.row, Qj, QK, Pt.row, Qs, Jw, Aw.row, Qv, Jx, Blk.row, Qg, Qp, Sec.row, Qh, Qu, Rw.row, Qw, Jy, Qi]
    refine ⟨fun g2 => ⟨by omega, by omega, by omega, fun g3 => ?_, fun g3 => ?_⟩, fun g2 => ?_⟩
    · intro hq; have := ((A hq).2.2.2 k (by omega)).1; omega
    · refine Yz (fun j : Nat => [(6, .int .i64 j)]) (fun _ => []) (fun j => j ≤ k ∧ ∀ q, q < j → (s.aws.getD i default).pts.getD q default ≠ (s.aws.getD i default).pts.getD k default) (fun j => k - j) (0) (by simp only [YC, YD, YE, YF, Qc, Qd, Qe, Qf, reduceIte, Nat.reduceEqDiff]; exact ⟨by repeat' (first | exact trivial | refine ⟨.inr rfl, ?_⟩), by repeat' (first | exact trivial | refine ⟨rfl, ?_⟩), by first | rfl | simp [closedB, Qx, Qo, Qb, dom, Qm, *], by first | rfl | simp [keepB, dom]⟩) ?_ ?_
      · exact ⟨Nat.zero_le _, by intro j hj; omega⟩
      intro j hj NX3 hN3
      unfold Uw; simp (config := { maxSteps := 2000000 }) only [JK, Gr, KO, KP, JL, QW, JM, JN, KQ, Gs, KR, KS, KT, KU, KV, KW, KX, KY, KZ, K1, K2, QX, QY, QZ, JO, JP, JQ, Q0, Q1, Q2, Q3, Q4, Q5, JR, JS, JT, JU, Jq, Jr, Kp, Yv, GU, JV, Qz, Qk, KN, QT, QU, JH, QV, JI, JJ, QS, Qy, JE, JF, KK, JG, KL, KM, Q8, Q9, Qc, Qd, QE, QF, Ja, Jb, QQ, QR, Qe, Qf, GD, GE, JZ, J0, K3, JW, JX, JY, Kb, Kc, Kd, QA, QB, QD, Gt, Gu, Gv, Gw, Q6, Q7, Gy, Gx, Gz, QG, J1, K4, J2, K5, K6, K7, K8, J3, Jc, K9, Jd, Je, Jf, Jg, Jh, QH, QI, Ji, J4, Jj, J5, J6, J7, GA, GB, Ya, Jk, Yb, QJ, KJ, J8, KF, GC, Jl, YF, YE, YD, Gk, List.length_take, Int.toNat_zero, List.drop_zero, YC, Ks, QL, Jt, GX, Yu, Kr, Kq, Js, Yc, J9, Yd, Ye, GF, Yf, Yg, GG, Yh, Ka, Yi, GH, Yj, Yk, GI, GJ, GK, Yl, eff, JB, QO, Ke, Ym, Kf, Kg, Kh, GL, GM, JD, JC, Jm, GN, GO, GP, Y7, pur, List.map, List.drop, List.take, List.length, List.foldl, List.append_eq, List.nil_append, List.cons_append, List.getD_cons_zero, List.getD_cons_succ, reduceIte, Nat.reduceEqDiff, Nat.reduceAdd, Nat.reduceLeDiff, true_and, and_true, Bool.not_true, Bool.not_false, Bool.and_true, Bool.true_and, Bool.and_self, reduceCtorEq, true_implies, false_implies, implies_true, decide_eq_true_eq, Option.map_some, Gm, fpX, SOp.xs, oX, refs, KE, dom, Gl, List.all_nil, List.all_cons, List.contains_cons, List.contains_nil, Nat.reduceBEq, Bool.or_false, Bool.false_or, List.append_nil, Bool.not_false, Bool.not_true, List.forall_mem_cons, fm0, List.set, Nat.reduceLT, Nat.reduceMod, ne_eq, not_false_eq_true, not_true_eq_false, GQ, Yn, Yo, Yp, Ki, Jn, Kj, Yq, Kk, Kl, GR, GS, GT, Yr, Ys, Yt, Jo, Jp, decide_true, AV.bool.injEq, AV.int.injEq, Nat.reduceLeDiff, decide_eq_true_eq, decide_eq_false_iff_not, Int.toNat_natCast, List.length_map, decide_false, KH, noref, flatOk, Qb, wkM, Km, Kw, Kx, Ju, QM, Kv, Jv, Kt, Ku, Qn, QN, Classical.not_not, Y0, KI, Y6, Qr, Qt, Qa, Yw, Ql, List.take_length, List.length_cons, List.length_nil, Nat.zero_add, Ko, Yx, Yy, YG, Zone.row, Qj, QK, Pt.row, Qs, Jw, Aw.row, Qv, Jx, Blk.row, Qg, Qp, Sec.row, Qh, Qu, Rw.row, Qw, Jy, Qi]
      refine ⟨fun g4 => ⟨by omega, by omega, by omega, by omega, fun g5 => ?_, fun g5 => ⟨by omega, ?_⟩⟩, fun g4 => ⟨by omega, ?_⟩⟩
      · exact fun hq => ((A hq).2.2.2 k (by omega)).2 j (by omega) g5
      · refine hN3 (j + 1) _ (by simp only [YC, YD, YE, YF, Qc, Qd, Qe, Qf, reduceIte, Nat.reduceEqDiff]; exact ⟨by repeat' (first | exact trivial | refine ⟨.inr rfl, ?_⟩), by repeat' (first | exact trivial | refine ⟨rfl, ?_⟩), by first | rfl | simp [closedB, Qx, Qo, Qb, dom, Qm, *], by first | rfl | simp [keepB, dom]⟩) ?_ ?_
        · exact ⟨by omega, Gf hj.2 g5⟩
        · omega
      · refine hN2 (k + 1) _ (by simp only [YC, YD, YE, YF, Qc, Qd, Qe, Qf, reduceIte, Nat.reduceEqDiff]; exact ⟨by repeat' (first | exact trivial | refine ⟨.inr rfl, ?_⟩), by repeat' (first | exact trivial | refine ⟨rfl, ?_⟩), by first | rfl | simp [closedB, Qx, Qo, Qb, dom, Qm, *], by first | rfl | simp [keepB, dom]⟩) ?_ ?_
        · exact ⟨by omega, Gf hk.2 ⟨by omega, fun q hq => hj.2 q (by omega)⟩⟩
        · omega
    · refine ⟨by omega, ?_⟩
      refine hN (i + 1) _ (by simp only [YC, YD, YE, YF, Qc, Qd, Qe, Qf, reduceIte, Nat.reduceEqDiff]; exact ⟨by repeat' (first | exact trivial | refine ⟨.inr rfl, ?_⟩), by repeat' (first | exact trivial | refine ⟨rfl, ?_⟩), by first | rfl | simp [closedB, Qx, Qo, Qb, dom, Qm, *], by first | rfl | simp [keepB, dom]⟩) ?_ ?_
      · exact ⟨by omega, Gf hi.2 ⟨o1.1, o1.2.1, o1.2.2, fun k hk2 => hk.2 k (by omega)⟩⟩
      · omega
  · exact ⟨by omega, fun j hj => hi.2 j (by omega)⟩
def UM : List AV → Option (Prop × AV)
  | [.agg [.int .i64 s_w, .int .i64 s_h, .int .i64 s_lv, .sl 0 3 s_pts, .sl 0 2 s_aws, .sl 0 2 s_secs, .sl 0 4 s_rws]] => some ((((s_pts.map Y1).map Pt.row = s_pts) ∧ ((s_aws.map Y4).map (Aw.row 0) = s_aws) ∧ ((s_secs.map KC).map (Sec.row 0) = s_secs) ∧ ((s_rws.map Y2).map Rw.row = s_rws)) ∧ ((Sky.mk s_w s_h s_lv (s_pts.map Y1) (s_aws.map Y4) (s_secs.map KC) (s_rws.map Y2)).small), .bool (decide (QlO (Sky.mk s_w s_h s_lv (s_pts.map Y1) (s_aws.map Y4) (s_secs.map KC) (s_rws.map Y2)).pts (Sky.mk s_w s_h s_lv (s_pts.map Y1) (s_aws.map Y4) (s_secs.map KC) (s_rws.map Y2)).aws)))
  | _ => none
theorem Qgw : ∀ args p v, UM args = some (p, v) → p → Contract P 67 args [] v [] ∧ noref v = true ∧ No99 v := by
  intro args p v h1 h2
  unfold UM at h1
  split at h1
  · rename_i s_w s_h s_lv s_pts s_aws s_secs s_rws
    cases h1
    obtain ⟨⟨e0, e1, e2, e3⟩, HP⟩ := h2
    have := Qgv (Sky.mk s_w s_h s_lv (s_pts.map Y1) (s_aws.map Y4) (s_secs.map KC) (s_rws.map Y2)) HP
    exact ⟨by simpa only [e0, e1, e2, e3, Sky.row] using this, rfl, trivial⟩
  · cases h1
theorem Qi3 (s : Sky) (b : Blk) : Contract P 83 [.agg (s.row 0), .agg b.row] [] (.bool (decide (b.ok s.w s.h s.lv))) [] := by
  simp only [Sky.row, Blk.row]
  refine QP ((Env.nil P).add 65 Y0 Vd) hm QdU (Nat.le_of_ble_eq_true rfl) rfl ?_; unfold W8; simp (config := { maxSteps := 2000000 }) only [JK, Gr, KO, KP, JL, QW, JM, JN, KQ, Gs, KR, KS, KT, KU, KV, KW, KX, KY, KZ, K1, K2, QX, QY, QZ, JO, JP, JQ, Q0, Q1, Q2, Q3, Q4, Q5, JR, JS, JT, JU, Jq, Jr, Kp, Yv, GU, JV, Qz, Qk, KN, QT, QU, JH, QV, JI, JJ, QS, Qy, JE, JF, KK, JG, KL, KM, Q8, Q9, Qc, Qd, QE, QF, Ja, Jb, QQ, QR, Qe, Qf, GD, GE, JZ, J0, K3, JW, JX, JY, Kb, Kc, Kd, QA, QB, QD, Gt, Gu, Gv, Gw, Q6, Q7, Gy, Gx, Gz, QG, J1, K4, J2, K5, K6, K7, K8, J3, Jc, K9, Jd, Je, Jf, Jg, Jh, QH, QI, Ji, J4, Jj, J5, J6, J7, GA, GB, Ya, Jk, Yb, QJ, KJ, J8, KF, GC, Jl, YF, YE, YD, Gk, List.length_take, Int.toNat_zero, List.drop_zero, YC, Ks, QL, Jt, GX, Yu, Kr, Kq, Js, Yc, J9, Yd, Ye, GF, Yf, Yg, GG, Yh, Ka, Yi, GH, Yj, Yk, GI, GJ, GK, Yl, eff, JB, QO, Ke, Ym, Kf, Kg, Kh, GL, GM, JD, JC, Jm, GN, GO, GP, Y7, pur, List.map, List.drop, List.take, List.length, List.foldl, List.append_eq, List.nil_append, List.cons_append, List.getD_cons_zero, List.getD_cons_succ, reduceIte, Nat.reduceEqDiff, Nat.reduceAdd, Nat.reduceLeDiff, true_and, and_true, Bool.not_true, Bool.not_false, Bool.and_true, Bool.true_and, Bool.and_self, reduceCtorEq, true_implies, false_implies, implies_true, decide_eq_true_eq, Option.map_some, Gm, fpX, SOp.xs, oX, refs, KE, dom, Gl, List.all_nil, List.all_cons, List.contains_cons, List.contains_nil, Nat.reduceBEq, Bool.or_false, Bool.false_or, List.append_nil, Bool.not_false, Bool.not_true, List.forall_mem_cons, fm0, List.set, Nat.reduceLT, Nat.reduceMod, ne_eq, not_false_eq_true, not_true_eq_false, GQ, Yn, Yo, Yp, Ki, Jn, Kj, Yq, Kk, Kl, GR, GS, GT, Yr, Ys, Yt, Jo, Jp, decide_true, AV.bool.injEq, AV.int.injEq, Nat.reduceLeDiff, decide_eq_true_eq, decide_eq_false_iff_not, Int.toNat_natCast, List.length_map, decide_false, KH, noref, flatOk, Qb, wkM, Km, Kw, Kx, Ju, QM, Kv, Jv, Kt, Ku, Qn, QN, Classical.not_not, Y0, Qr, Qt, Qa, Yw, Ql, List.take_length, List.length_cons, List.length_nil, Nat.zero_add, Ko, Yx, Yy, YG, Zone.row, Qj, QK, Pt.row, Qs, Jw, Aw.row, Qv, Jx, Blk.row, Qg, Qp, Sec.row, Qh, Qu, Rw.row, Qw, Jy, Qi]
  repeat' (first | with_reducible apply And.intro | with_reducible intro _)
  all_goals first | omega | grind [Blk.ok]
def GY : List AV → Option (Prop × AV)
  | [.agg [.int .i64 s_w, .int .i64 s_h, .int .i64 s_lv, .sl 0 3 s_pts, .sl 0 2 s_aws, .sl 0 2 s_secs, .sl 0 4 s_rws], .agg [.int .i64 b_x0, .int .i64 b_y0, .int .i64 b_x1, .int .i64 b_y1, .int .i64 b_lo, .int .i64 b_hi]] => some ((((s_pts.map Y1).map Pt.row = s_pts) ∧ ((s_aws.map Y4).map (Aw.row 0) = s_aws) ∧ ((s_secs.map KC).map (Sec.row 0) = s_secs) ∧ ((s_rws.map Y2).map Rw.row = s_rws)) ∧ (True), .bool (decide ((Blk.mk b_x0 b_y0 b_x1 b_y1 b_lo b_hi).ok (Sky.mk s_w s_h s_lv (s_pts.map Y1) (s_aws.map Y4) (s_secs.map KC) (s_rws.map Y2)).w (Sky.mk s_w s_h s_lv (s_pts.map Y1) (s_aws.map Y4) (s_secs.map KC) (s_rws.map Y2)).h (Sky.mk s_w s_h s_lv (s_pts.map Y1) (s_aws.map Y4) (s_secs.map KC) (s_rws.map Y2)).lv)))
  | _ => none
theorem QbR : ∀ args p v, GY args = some (p, v) → p → Contract P 83 args [] v [] ∧ noref v = true ∧ No99 v := by
  intro args p v h1 h2
  unfold GY at h1
  split at h1
  · rename_i s_w s_h s_lv s_pts s_aws s_secs s_rws b_x0 b_y0 b_x1 b_y1 b_lo b_hi
    cases h1
    obtain ⟨⟨e0, e1, e2, e3⟩, HP⟩ := h2
    have := Qi3 (Sky.mk s_w s_h s_lv (s_pts.map Y1) (s_aws.map Y4) (s_secs.map KC) (s_rws.map Y2)) (Blk.mk b_x0 b_y0 b_x1 b_y1 b_lo b_hi)
    exact ⟨by simpa only [e0, e1, e2, e3, Sky.row, Blk.row] using this, rfl, trivial⟩
  · cases h1
theorem Qnk (a b : Blk) : Contract P 84 [.agg a.row, .agg b.row] [] (.bool (decide (a.less b))) [] := by
  simp only [Blk.row]
  refine QP (Env.nil P) hm Qgs (Nat.le_of_ble_eq_true rfl) rfl ?_; unfold QcL; simp (config := { maxSteps := 2000000 }) only [JK, Gr, KO, KP, JL, QW, JM, JN, KQ, Gs, KR, KS, KT, KU, KV, KW, KX, KY, KZ, K1, K2, QX, QY, QZ, JO, JP, JQ, Q0, Q1, Q2, Q3, Q4, Q5, JR, JS, JT, JU, Jq, Jr, Kp, Yv, GU, JV, Qz, Qk, KN, QT, QU, JH, QV, JI, JJ, QS, Qy, JE, JF, KK, JG, KL, KM, Q8, Q9, Qc, Qd, QE, QF, Ja, Jb, QQ, QR, Qe, Qf, GD, GE, JZ, J0, K3, JW, JX, JY, Kb, Kc, Kd, QA, QB, QD, Gt, Gu, Gv, Gw, Q6, Q7, Gy, Gx, Gz, QG, J1, K4, J2, K5, K6, K7, K8, J3, Jc, K9, Jd, Je, Jf, Jg, Jh, QH, QI, Ji, J4, Jj, J5, J6, J7, GA, GB, Ya, Jk, Yb, QJ, KJ, J8, KF, GC, Jl, YF, YE, YD, Gk, List.length_take, Int.toNat_zero, List.drop_zero, YC, Ks, QL, Jt, GX, Yu, Kr, Kq, Js, Yc, J9, Yd, Ye, GF, Yf, Yg, GG, Yh, Ka, Yi, GH, Yj, Yk, GI, GJ, GK, Yl, eff, JB, QO, Ke, Ym, Kf, Kg, Kh, GL, GM, JD, JC, Jm, GN, GO, GP, Y7, pur, List.map, List.drop, List.take, List.length, List.foldl, List.append_eq, List.nil_append, List.cons_append, List.getD_cons_zero, List.getD_cons_succ, reduceIte, Nat.reduceEqDiff, Nat.reduceAdd, Nat.reduceLeDiff, true_and, and_true, Bool.not_true, Bool.not_false, Bool.and_true, Bool.true_and, Bool.and_self, reduceCtorEq, true_implies, false_implies, implies_true, decide_eq_true_eq, Option.map_some, Gm, fpX, SOp.xs, oX, refs, KE, dom, Gl, List.all_nil, List.all_cons, List.contains_cons, List.contains_nil, Nat.reduceBEq, Bool.or_false, Bool.false_or, List.append_nil, Bool.not_false, Bool.not_true, List.forall_mem_cons, fm0, List.set, Nat.reduceLT, Nat.reduceMod, ne_eq, not_false_eq_true, not_true_eq_false, GQ, Yn, Yo, Yp, Ki, Jn, Kj, Yq, Kk, Kl, GR, GS, GT, Yr, Ys, Yt, Jo, Jp, decide_true, AV.bool.injEq, AV.int.injEq, Nat.reduceLeDiff, decide_eq_true_eq, decide_eq_false_iff_not, Int.toNat_natCast, List.length_map, decide_false, KH, noref, flatOk, Qb, wkM, Km, Kw, Kx, Ju, QM, Kv, Jv, Kt, Ku, Qn, QN, Classical.not_not, Qr, Qt, Qa, Yw, Ql, List.take_length, List.length_cons, List.length_nil, Nat.zero_add, Ko, Yx, Yy, YG, Zone.row, Qj, QK, Pt.row, Qs, Jw, Aw.row, Qv, Jx, Blk.row, Qg, Qp, Sec.row, Qh, Qu, Rw.row, Qw, Jy, Qi]
  repeat' (first | with_reducible apply And.intro | with_reducible intro _)
  all_goals first | omega | grind [Blk.less]
def XJ : List AV → Option (Prop × AV)
  | [.agg [.int .i64 a_x0, .int .i64 a_y0, .int .i64 a_x1, .int .i64 a_y1, .int .i64 a_lo, .int .i64 a_hi], .agg [.int .i64 b_x0, .int .i64 b_y0, .int .i64 b_x1, .int .i64 b_y1, .int .i64 b_lo, .int .i64 b_hi]] => some ((True) ∧ (True), .bool (decide ((Blk.mk a_x0 a_y0 a_x1 a_y1 a_lo a_hi).less (Blk.mk b_x0 b_y0 b_x1 b_y1 b_lo b_hi))))
  | _ => none
theorem Qgx : ∀ args p v, XJ args = some (p, v) → p → Contract P 84 args [] v [] ∧ noref v = true ∧ No99 v := by
  intro args p v h1 h2
  unfold XJ at h1
  split at h1
  · rename_i a_x0 a_y0 a_x1 a_y1 a_lo a_hi b_x0 b_y0 b_x1 b_y1 b_lo b_hi
    cases h1
    obtain ⟨_, HP⟩ := h2
    have := Qnk (Blk.mk a_x0 a_y0 a_x1 a_y1 a_lo a_hi) (Blk.mk b_x0 b_y0 b_x1 b_y1 b_lo b_hi)
    exact ⟨by simpa only [Blk.row, Blk.row] using this, rfl, trivial⟩
  · cases h1
theorem Qkz (a b : Blk) : Contract P 86 [.agg a.row, .agg b.row] [] (.bool (decide (a.meet b))) [] := by
  simp only [Blk.row]
  refine QP (Env.nil P) hm Qe2 (Nat.le_of_ble_eq_true rfl) rfl ?_; unfold QaJ; simp (config := { maxSteps := 2000000 }) only [JK, Gr, KO, KP, JL, QW, JM, JN, KQ, Gs, KR, KS, KT, KU, KV, KW, KX, KY, KZ, K1, K2, QX, QY, QZ, JO, JP, JQ, Q0, Q1, Q2, Q3, Q4, Q5, JR, JS, JT, JU, Jq, Jr, Kp, Yv, GU, JV, Qz, Qk, KN, QT, QU, JH, QV, JI, JJ, QS, Qy, JE, JF, KK, JG, KL, KM, Q8, Q9, Qc, Qd, QE, QF, Ja, Jb, QQ, QR, Qe, Qf, GD, GE, JZ, J0, K3, JW, JX, JY, Kb, Kc, Kd, QA, QB, QD, Gt, Gu, Gv, Gw, Q6, Q7, Gy, Gx, Gz, QG, J1, K4, J2, K5, K6, K7, K8, J3, Jc, K9, Jd, Je, Jf, Jg, Jh, QH, QI, Ji, J4, Jj, J5, J6, J7, GA, GB, Ya, Jk, Yb, QJ, KJ, J8, KF, GC, Jl, YF, YE, YD, Gk, List.length_take, Int.toNat_zero, List.drop_zero, YC, Ks, QL, Jt, GX, Yu, Kr, Kq, Js, Yc, J9, Yd, Ye, GF, Yf, Yg, GG, Yh, Ka, Yi, GH, Yj, Yk, GI, GJ, GK, Yl, eff, JB, QO, Ke, Ym, Kf, Kg, Kh, GL, GM, JD, JC, Jm, GN, GO, GP, Y7, pur, List.map, List.drop, List.take, List.length, List.foldl, List.append_eq, List.nil_append, List.cons_append, List.getD_cons_zero, List.getD_cons_succ, reduceIte, Nat.reduceEqDiff, Nat.reduceAdd, Nat.reduceLeDiff, true_and, and_true, Bool.not_true, Bool.not_false, Bool.and_true, Bool.true_and, Bool.and_self, reduceCtorEq, true_implies, false_implies, implies_true, decide_eq_true_eq, Option.map_some, Gm, fpX, SOp.xs, oX, refs, KE, dom, Gl, List.all_nil, List.all_cons, List.contains_cons, List.contains_nil, Nat.reduceBEq, Bool.or_false, Bool.false_or, List.append_nil, Bool.not_false, Bool.not_true, List.forall_mem_cons, fm0, List.set, Nat.reduceLT, Nat.reduceMod, ne_eq, not_false_eq_true, not_true_eq_false, GQ, Yn, Yo, Yp, Ki, Jn, Kj, Yq, Kk, Kl, GR, GS, GT, Yr, Ys, Yt, Jo, Jp, decide_true, AV.bool.injEq, AV.int.injEq, Nat.reduceLeDiff, decide_eq_true_eq, decide_eq_false_iff_not, Int.toNat_natCast, List.length_map, decide_false, KH, noref, flatOk, Qb, wkM, Km, Kw, Kx, Ju, QM, Kv, Jv, Kt, Ku, Qn, QN, Classical.not_not, Qr, Qt, Qa, Yw, Ql, List.take_length, List.length_cons, List.length_nil, Nat.zero_add, Ko, Yx, Yy, YG, Zone.row, Qj, QK, Pt.row, Qs, Jw, Aw.row, Qv, Jx, Blk.row, Qg, Qp, Sec.row, Qh, Qu, Rw.row, Qw, Jy, Qi]
  repeat' (first | with_reducible apply And.intro | with_reducible intro _)
  all_goals first | omega | grind [Blk.meet]
def UU : List AV → Option (Prop × AV)
  | [.agg [.int .i64 a_x0, .int .i64 a_y0, .int .i64 a_x1, .int .i64 a_y1, .int .i64 a_lo, .int .i64 a_hi], .agg [.int .i64 b_x0, .int .i64 b_y0, .int .i64 b_x1, .int .i64 b_y1, .int .i64 b_lo, .int .i64 b_hi]] => some ((True) ∧ (True), .bool (decide ((Blk.mk a_x0 a_y0 a_x1 a_y1 a_lo a_hi).meet (Blk.mk b_x0 b_y0 b_x1 b_y1 b_lo b_hi))))
  | _ => none
theorem QkA : ∀ args p v, UU args = some (p, v) → p → Contract P 86 args [] v [] ∧ noref v = true ∧ No99 v := by
  intro args p v h1 h2
  unfold UU at h1
  split at h1
  · rename_i a_x0 a_y0 a_x1 a_y1 a_lo a_hi b_x0 b_y0 b_x1 b_y1 b_lo b_hi
    cases h1
    obtain ⟨_, HP⟩ := h2
    have := Qkz (Blk.mk a_x0 a_y0 a_x1 a_y1 a_lo a_hi) (Blk.mk b_x0 b_y0 b_x1 b_y1 b_lo b_hi)
    exact ⟨by simpa only [Blk.row, Blk.row] using this, rfl, trivial⟩
  · cases h1
set_option maxHeartbeats 400000 in
theorem QaP (s : Sky) (i : Nat) {Q : XT → St → Prop} (hi : i < s.secs.length) (hl : s.secs.length ≤ 1048576) (hQ : ∀ bv : Bool, (bv = true ↔ ¬ (XG (s.secs.getD i default).nm ∧ (0 < i → slt (s.secs.getD (i - 1) default).nm (s.secs.getD i default).nm) ∧ 1 ≤ (s.secs.getD i default).bl.length ∧ (s.secs.getD i default).bl.length ≤ 4)) → Q .normal ⟨[(1, .ptr 101 0), (3, .int .i64 i), (4, .ptr 104 0), (48, .bool bv)], [(101, .box [.int .i64 s.w, .int .i64 s.h, .int .i64 s.lv, .sl 0 3 (s.pts.map Pt.row), .sl 0 2 (s.aws.map (Aw.row 0)), .sl 0 2 (s.secs.map (Sec.row 0)), .sl 0 4 (s.rws.map Rw.row)]), (104, .box [.str (s.secs.getD i default).nm, .sl 0 6 ((s.secs.getD i default).bl.map Blk.row)])]⟩) : SCode.wp (((((Env.nil P).add 65 Y0 Vd).add 82 KI X9).add 83 GY QbR).add 84 XJ Qgx) XZ Q ⟨[(1, .ptr 101 0), (3, .int .i64 i), (4, .ptr 104 0)], [(101, .box [.int .i64 s.w, .int .i64 s.h, .int .i64 s.lv, .sl 0 3 (s.pts.map Pt.row), .sl 0 2 (s.aws.map (Aw.row 0)), .sl 0 2 (s.secs.map (Sec.row 0)), .sl 0 4 (s.rws.map Rw.row)]), (104, .box [.str (s.secs.getD i default).nm, .sl 0 6 ((s.secs.getD i default).bl.map Blk.row)])]⟩ := by
  all_goals (unfold XZ; simp (config := { maxSteps := 2000000 }) only [JK, Gr, KO, KP, JL, QW, JM, JN, KQ, Gs, KR, KS, KT, KU, KV, KW, KX, KY, KZ, K1, K2, QX, QY, QZ, JO, JP, JQ, Q0, Q1, Q2, Q3, Q4, Q5, JR, JS, JT, JU, Jq, Jr, Kp, Yv, GU, JV, Qz, Qk, KN, QT, QU, JH, QV, JI, JJ, QS, Qy, JE, JF, KK, JG, KL, KM, Q8, Q9, Qc, Qd, QE, QF, Ja, Jb, QQ, QR, Qe, Qf, GD, GE, JZ, J0, K3, JW, JX, JY, Kb, Kc, Kd, QA, QB, QD, Gt, Gu, Gv, Gw, Q6, Q7, Gy, Gx, Gz, QG, J1, K4, J2, K5, K6, K7, K8, J3, Jc, K9, Jd, Je, Jf, Jg, Jh, QH, QI, Ji, J4, Jj, J5, J6, J7, GA, GB, Ya, Jk, Yb, QJ, KJ, J8, KF, GC, Jl, YF, YE, YD, Gk, List.length_take, Int.toNat_zero, List.drop_zero, YC, Ks, QL, Jt, GX, Yu, Kr, Kq, Js, Yc, J9, Yd, Ye, GF, Yf, Yg, GG, Yh, Ka, Yi, GH, Yj, Yk, GI, GJ, GK, Yl, eff, JB, QO, Ke, Ym, Kf, Kg, Kh, GL, GM, JD, JC, Jm, GN, GO, GP, Y7, pur, List.map, List.drop, List.take, List.length, List.foldl, List.append_eq, List.nil_append, List.cons_append, List.getD_cons_zero, List.getD_cons_succ, reduceIte, Nat.reduceEqDiff, Nat.reduceAdd, Nat.reduceLeDiff, true_and, and_true, Bool.not_true, Bool.not_false, Bool.and_true, Bool.true_and, Bool.and_self, reduceCtorEq, true_implies, false_implies, implies_true, decide_eq_true_eq, Option.map_some, Gm, fpX, SOp.xs, oX, refs, KE, dom, Gl, List.all_nil, List.all_cons, List.contains_cons, List.contains_nil, Nat.reduceBEq, Bool.or_false, Bool.false_or, List.append_nil, Bool.not_false, Bool.not_true, List.forall_mem_cons, fm0, List.set, Nat.reduceLT, Nat.reduceMod, ne_eq, not_false_eq_true, not_true_eq_false, GQ, Yn, Yo, Yp, Ki, Jn, Kj, Yq, Kk, Kl, GR, GS, GT, Yr, Ys, Yt, Jo, Jp, decide_true, AV.bool.injEq, AV.int.injEq, Nat.reduceLeDiff, decide_eq_true_eq, decide_eq_false_iff_not, Int.toNat_natCast, List.length_map, decide_false, KH, noref, flatOk, Qb, wkM, Km, Kw, Kx, Ju, QM, Kv, Jv, Kt, Ku, Qn, QN, Classical.not_not, Y0, KI, GY, XJ, Qr, Qt, Qa, Yw, Ql, List.take_length, List.length_cons, List.length_nil, Nat.zero_add, Ko, Yx, Yy, YG, Zone.row, Qj, QK, Pt.row, Qs, Jw, Aw.row, Qv, Jx, Blk.row, Qg, Qp, Sec.row, Qh, Qu, Rw.row, Qw, Jy, Qi])
  repeat' (first | with_reducible apply And.intro | with_reducible intro _)
  all_goals first
    | omega
    | (refine hQ _ ?_
       first
         | grind []
         | (simp; grind []))
    | grind []
set_option maxHeartbeats 400000 in
theorem QaQ (s : Sky) (i k : Nat) {w53 : AV} {Q : XT → St → Prop} (hk : k < (s.secs.getD i default).bl.length) (hl : (s.secs.getD i default).bl.length ≤ 1048576) (hQ : ∀ bv : Bool, (bv = true ↔ ¬ QdV s.w s.h s.lv (s.secs.getD i default).bl k) → Q .normal ⟨[(1, .ptr 101 0), (3, .int .i64 i), (4, .ptr 104 0), (5, .int .i64 k), (82, .bool bv)], [(101, .box [.int .i64 s.w, .int .i64 s.h, .int .i64 s.lv, .sl 0 3 (s.pts.map Pt.row), .sl 0 2 (s.aws.map (Aw.row 0)), .sl 0 2 (s.secs.map (Sec.row 0)), .sl 0 4 (s.rws.map Rw.row)]), (104, .box [.str (s.secs.getD i default).nm, .sl 0 6 ((s.secs.getD i default).bl.map Blk.row)])]⟩) : SCode.wp (((((Env.nil P).add 65 Y0 Vd).add 82 KI X9).add 83 GY QbR).add 84 XJ Qgx) X0 Q ⟨[(1, .ptr 101 0), (3, .int .i64 i), (4, .ptr 104 0), (5, .int .i64 k), (53, w53)], [(101, .box [.int .i64 s.w, .int .i64 s.h, .int .i64 s.lv, .sl 0 3 (s.pts.map Pt.row), .sl 0 2 (s.aws.map (Aw.row 0)), .sl 0 2 (s.secs.map (Sec.row 0)), .sl 0 4 (s.rws.map Rw.row)]), (104, .box [.str (s.secs.getD i default).nm, .sl 0 6 ((s.secs.getD i default).bl.map Blk.row)])]⟩ := by
  all_goals (unfold X0; simp (config := { maxSteps := 2000000 }) only [JK, Gr, KO, KP, JL, QW, JM, JN, KQ, Gs, KR, KS, KT, KU, KV, KW, KX, KY, KZ, K1, K2, QX, QY, QZ, JO, JP, JQ, Q0, Q1, Q2, Q3, Q4, Q5, JR, JS, JT, JU, Jq, Jr, Kp, Yv, GU, JV, Qz, Qk, KN, QT, QU, JH, QV, JI, JJ, QS, Qy, JE, JF, KK, JG, KL, KM, Q8, Q9, Qc, Qd, QE, QF, Ja, Jb, QQ, QR, Qe, Qf, GD, GE, JZ, J0, K3, JW, JX, JY, Kb, Kc, Kd, QA, QB, QD, Gt, Gu, Gv, Gw, Q6, Q7, Gy, Gx, Gz, QG, J1, K4, J2, K5, K6, K7, K8, J3, Jc, K9, Jd, Je, Jf, Jg, Jh, QH, QI, Ji, J4, Jj, J5, J6, J7, GA, GB, Ya, Jk, Yb, QJ, KJ, J8, KF, GC, Jl, YF, YE, YD, Gk, List.length_take, Int.toNat_zero, List.drop_zero, YC, Ks, QL, Jt, GX, Yu, Kr, Kq, Js, Yc, J9, Yd, Ye, GF, Yf, Yg, GG, Yh, Ka, Yi, GH, Yj, Yk, GI, GJ, GK, Yl, eff, JB, QO, Ke, Ym, Kf, Kg, Kh, GL, GM, JD, JC, Jm, GN, GO, GP, Y7, pur, List.map, List.drop, List.take, List.length, List.foldl, List.append_eq, List.nil_append, List.cons_append, List.getD_cons_zero, List.getD_cons_succ, reduceIte, Nat.reduceEqDiff, Nat.reduceAdd, Nat.reduceLeDiff, true_and, and_true, Bool.not_true, Bool.not_false, Bool.and_true, Bool.true_and, Bool.and_self, reduceCtorEq, true_implies, false_implies, implies_true, decide_eq_true_eq, Option.map_some, Gm, fpX, SOp.xs, oX, refs, KE, dom, Gl, List.all_nil, List.all_cons, List.contains_cons, List.contains_nil, Nat.reduceBEq, Bool.or_false, Bool.false_or, List.append_nil, Bool.not_false, Bool.not_true, List.forall_mem_cons, fm0, List.set, Nat.reduceLT, Nat.reduceMod, ne_eq, not_false_eq_true, not_true_eq_false, GQ, Yn, Yo, Yp, Ki, Jn, Kj, Yq, Kk, Kl, GR, GS, GT, Yr, Ys, Yt, Jo, Jp, decide_true, AV.bool.injEq, AV.int.injEq, Nat.reduceLeDiff, decide_eq_true_eq, decide_eq_false_iff_not, Int.toNat_natCast, List.length_map, decide_false, KH, noref, flatOk, Qb, wkM, Km, Kw, Kx, Ju, QM, Kv, Jv, Kt, Ku, Qn, QN, Classical.not_not, Y0, KI, GY, XJ, Qr, Qt, Qa, Yw, Ql, List.take_length, List.length_cons, List.length_nil, Nat.zero_add, Ko, Yx, Yy, YG, Zone.row, Qj, QK, Pt.row, Qs, Jw, Aw.row, Qv, Jx, Blk.row, Qg, Qp, Sec.row, Qh, Qu, Rw.row, Qw, Jy, Qi])
  repeat' (first | with_reducible apply And.intro | with_reducible intro _)
  all_goals first
    | omega
    | (refine hQ _ ?_
       first
         | grind [QdV]
         | (simp; grind [QdV]))
    | grind [QdV]
theorem Qgy (s : Sky) (hs : s.small) : Contract P 68 [.agg (s.row 0)] [] (.bool (decide (Qbu s.w s.h s.lv s.secs))) [] := by
  have hl : s.secs.length ≤ 1048576 := hs.2.2.1.1
  simp only [Sky.row]
  refine QP (((((Env.nil P).add 65 Y0 Vd).add 82 KI X9).add 83 GY QbR).add 84 XJ Qgx) hm QcG (Nat.le_of_ble_eq_true rfl) rfl ?_; unfold VH; simp (config := { maxSteps := 2000000 }) only [JK, Gr, KO, KP, JL, QW, JM, JN, KQ, Gs, KR, KS, KT, KU, KV, KW, KX, KY, KZ, K1, K2, QX, QY, QZ, JO, JP, JQ, Q0, Q1, Q2, Q3, Q4, Q5, JR, JS, JT, JU, Jq, Jr, Kp, Yv, GU, JV, Qz, Qk, KN, QT, QU, JH, QV, JI, JJ, QS, Qy, JE, JF, KK, JG, KL, KM, Q8, Q9, Qc, Qd, QE, QF, Ja, Jb, QQ, QR, Qe, Qf, GD, GE, JZ, J0, K3, JW, JX, JY, Kb, Kc, Kd, QA, QB, QD, Gt, Gu, Gv, Gw, Q6, Q7, Gy, Gx, Gz, QG, J1, K4, J2, K5, K6, K7, K8, J3, Jc, K9, Jd, Je, Jf, Jg, Jh, QH, QI, Ji, J4, Jj, J5, J6, J7, GA, GB, Ya, Jk, Yb, QJ, KJ, J8, KF, GC, Jl, YF, YE, YD, Gk, List.length_take, Int.toNat_zero, List.drop_zero, YC, Ks, QL, Jt, GX, Yu, Kr, Kq, Js, Yc, J9, Yd, Ye, GF, Yf, Yg, GG, Yh, Ka, Yi, GH, Yj, Yk, GI, GJ, GK, Yl, eff, JB, QO, Ke, Ym, Kf, Kg, Kh, GL, GM, JD, JC, Jm, GN, GO, GP, Y7, pur, List.map, List.drop, List.take, List.length, List.foldl, List.append_eq, List.nil_append, List.cons_append, List.getD_cons_zero, List.getD_cons_succ, reduceIte, Nat.reduceEqDiff, Nat.reduceAdd, Nat.reduceLeDiff, true_and, and_true, Bool.not_true, Bool.not_false, Bool.and_true, Bool.true_and, Bool.and_self, reduceCtorEq, true_implies, false_implies, implies_true, decide_eq_true_eq, Option.map_some, Gm, fpX, SOp.xs, oX, refs, KE, dom, Gl, List.all_nil, List.all_cons, List.contains_cons, List.contains_nil, Nat.reduceBEq, Bool.or_false, Bool.false_or, List.append_nil, Bool.not_false, Bool.not_true, List.forall_mem_cons, fm0, List.set, Nat.reduceLT, Nat.reduceMod, ne_eq, not_false_eq_true, not_true_eq_false, GQ, Yn, Yo, Yp, Ki, Jn, Kj, Yq, Kk, Kl, GR, GS, GT, Yr, Ys, Yt, Jo, Jp, decide_true, AV.bool.injEq, AV.int.injEq, Nat.reduceLeDiff, decide_eq_true_eq, decide_eq_false_iff_not, Int.toNat_natCast, List.length_map, decide_false, KH, noref, flatOk, Qb, wkM, Km, Kw, Kx, Ju, QM, Kv, Jv, Kt, Ku, Qn, QN, Classical.not_not, Y0, KI, GY, XJ, Qr, Qt, Qa, Yw, Ql, List.take_length, List.length_cons, List.length_nil, Nat.zero_add, Ko, Yx, Yy, YG, Zone.row, Qj, QK, Pt.row, Qs, Jw, Aw.row, Qv, Jx, Blk.row, Qg, Qp, Sec.row, Qh, Qu, Rw.row, Qw, Jy, Qi]
  refine ⟨fun h1 => by intro h; have := h.1; omega, fun h1 => ?_⟩
  refine Yz (fun i : Nat => [(3, .int .i64 i)]) (fun _ => []) (fun i => i ≤ s.secs.length ∧ ∀ j, j < i → Qh4 s.w s.h s.lv s.secs j) (fun i => s.secs.length - i) (0) (by simp only [YC, YD, YE, YF, Qc, Qd, Qe, Qf, reduceIte, Nat.reduceEqDiff]; exact ⟨by repeat' (first | exact trivial | refine ⟨.inr rfl, ?_⟩), by repeat' (first | exact trivial | refine ⟨rfl, ?_⟩), by first | rfl | simp [closedB, Qx, Qo, Qb, dom, Qm, *], by first | rfl | simp [keepB, dom]⟩) ?_ ?_
  · exact ⟨Nat.zero_le _, by intro j hj; omega⟩
  intro i hi NX hN
  unfold UA; simp (config := { maxSteps := 2000000 }) only [JK, Gr, KO, KP, JL, QW, JM, JN, KQ, Gs, KR, KS, KT, KU, KV, KW, KX, KY, KZ, K1, K2, QX, QY, QZ, JO, JP, JQ, Q0, Q1, Q2, Q3, Q4, Q5, JR, JS, JT, JU, Jq, Jr, Kp, Yv, GU, JV, Qz, Qk, KN, QT, QU, JH, QV, JI, JJ, QS, Qy, JE, JF, KK, JG, KL, KM, Q8, Q9, Qc, Qd, QE, QF, Ja, Jb, QQ, QR, Qe, Qf, GD, GE, JZ, J0, K3, JW, JX, JY, Kb, Kc, Kd, QA, QB, QD, Gt, Gu, Gv, Gw, Q6, Q7, Gy, Gx, Gz, QG, J1, K4, J2, K5, K6, K7, K8, J3, Jc, K9, Jd, Je, Jf, Jg, Jh, QH, QI, Ji, J4, Jj, J5, J6, J7, GA, GB, Ya, Jk, Yb, QJ, KJ, J8, KF, GC, Jl, YF, YE, YD, Gk, List.length_take, Int.toNat_zero, List.drop_zero, YC, Ks, QL, Jt, GX, Yu, Kr, Kq, Js, Yc, J9, Yd, Ye, GF, Yf, Yg, GG, Yh, Ka, Yi, GH, Yj, Yk, GI, GJ, GK, Yl, eff, JB, QO, Ke, Ym, Kf, Kg, Kh, GL, GM, JD, JC, Jm, GN, GO, GP, Y7, pur, List.map, List.drop, List.take, List.length, List.foldl, List.append_eq, List.nil_append, List.cons_append, List.getD_cons_zero, List.getD_cons_succ, reduceIte, Nat.reduceEqDiff, Nat.reduceAdd, Nat.reduceLeDiff, true_and, and_true, Bool.not_true, Bool.not_false, Bool.and_true, Bool.true_and, Bool.and_self, reduceCtorEq, true_implies, false_implies, implies_true, decide_eq_true_eq, Option.map_some, Gm, fpX, SOp.xs, oX, refs, KE, dom, Gl, List.all_nil, List.all_cons, List.contains_cons, List.contains_nil, Nat.reduceBEq, Bool.or_false, Bool.false_or, List.append_nil, Bool.not_false, Bool.not_true, List.forall_mem_cons, fm0, List.set, Nat.reduceLT, Nat.reduceMod, ne_eq, not_false_eq_true, not_true_eq_false, GQ, Yn, Yo, Yp, Ki, Jn, Kj, Yq, Kk, Kl, GR, GS, GT, Yr, Ys, Yt, Jo, Jp, decide_true, AV.bool.injEq, AV.int.injEq, Nat.reduceLeDiff, decide_eq_true_eq, decide_eq_false_iff_not, Int.toNat_natCast, List.length_map, decide_false, KH, noref, flatOk, Qb, wkM, Km, Kw, Kx, Ju, QM, Kv, Jv, Kt, Ku, Qn, QN, Classical.not_not, Y0, KI, GY, XJ, Qr, Qt, Qa, Yw, Ql, List.take_length, List.length_cons, List.length_nil, Nat.zero_add, Ko, Yx, Yy, YG, Zone.row, Qj, QK, Pt.row, Qs, Jw, Aw.row, Qv, Jx, Blk.row, Qg, Qp, Sec.row, Qh, Qu, Rw.row, Qw, Jy, Qi]
  refine ⟨fun g1 => ⟨by omega, by omega, ?_⟩, fun g1 => ?_⟩
  · have hq4 := Sky.small_sec hs (i := i) (by omega)
    have A : Qbu s.w s.h s.lv s.secs → Qh4 s.w s.h s.lv s.secs i := fun h => h.2 i (by omega)
    unfold Qh4 at A
    refine QaP s i (by omega) hl fun bv hbv => ?_
    cases bv
    case true =>
      simp (config := { maxSteps := 2000000 }) only [JK, Gr, KO, KP, JL, QW, JM, JN, KQ, Gs, KR, KS, KT, KU, KV, KW, KX, KY, KZ, K1, K2, QX, QY, QZ, JO, JP, JQ, Q0, Q1, Q2, Q3, Q4, Q5, JR, JS, JT, JU, Jq, Jr, Kp, Yv, GU, JV, Qz, Qk, KN, QT, QU, JH, QV, JI, JJ, QS, Qy, JE, JF, KK, JG, KL, KM, Q8, Q9, Qc, Qd, QE, QF, Ja, Jb, QQ, QR, Qe, Qf, GD, GE, JZ, J0, K3, JW, JX, JY, Kb, Kc, Kd, QA, QB, QD, Gt, Gu, Gv, Gw, Q6, Q7, Gy, Gx, Gz, QG, J1, K4, J2, K5, K6, K7, K8, J3, Jc, K9, Jd, Je, Jf, Jg, Jh, QH, QI, Ji, J4, Jj, J5, J6, J7, GA, GB, Ya, Jk, Yb, QJ, KJ, J8, KF, GC, Jl, YF, YE, YD, Gk, List.length_take, Int.toNat_zero, List.drop_zero, YC, Ks, QL, Jt, GX, Yu, Kr, Kq, Js, Yc, J9, Yd, Ye, GF, Yf, Yg, GG, Yh, Ka, Yi, GH, Yj, Yk, GI, GJ, GK, Yl, eff, JB, QO, Ke, Ym, Kf, Kg, Kh, GL, GM, JD, JC, Jm, GN, GO, GP, Y7, pur, List.map, List.drop, List.take, List.length, List.foldl, List.append_eq, List.nil_append, List.cons_append, List.getD_cons_zero, List.getD_cons_succ, reduceIte, Nat.reduceEqDiff, Nat.reduceAdd, Nat.reduceLeDiff, true_and, and_true, Bool.not_true, Bool.not_false, Bool.and_true, Bool.true_and, Bool.and_self, reduceCtorEq, true_implies, false_implies, implies_true, decide_eq_true_eq, Option.map_some, Gm, fpX, SOp.xs, oX, refs, KE, dom, Gl, List.all_nil, List.all_cons, List.contains_cons, List.contains_nil, Nat.reduceBEq, Bool.or_false, Bool.false_or, List.append_nil, Bool.not_false, Bool.not_true, List.forall_mem_cons, fm0, List.set, Nat.reduceLT, Nat.reduceMod, ne_eq, not_false_eq_true, not_true_eq_false, GQ, Yn, Yo, Yp, Ki, Jn, Kj, Yq, Kk, Kl, GR, GS, GT, Yr, Ys, Yt, Jo, Jp, decide_true, AV.bool.injEq, AV.int.injEq, Nat.reduceLeDiff, decide_eq_true_eq, decide_eq_false_iff_not, Int.toNat_natCast, List.length_map, decide_false, KH, noref, flatOk, Qb, wkM, Km, Kw, Kx, Ju, QM, Kv, Jv, Kt, Ku, Qn, QN, Classical.not_not, Y0, KI, GY, XJ, Qr, Qt, Qa, Yw, Ql, List.take_length, List.length_cons, List.length_nil, Nat.zero_add, Ko, Yx, Yy, YG, Zone.row, Qj, QK, Pt.row, Qs, Jw, Aw.row, Qv, Jx, Blk.row, Qg, Qp, Sec.row, Qh, Qu, Rw.row, Qw, Jy, Qi]
      exact fun hq => (hbv.1 rfl) ⟨(A hq).1, (A hq).2.1, (A hq).2.2.1⟩
    have o1 := Classical.not_not.1 fun h => Bool.noConfusion (hbv.2 h)
    simp (config := { maxSteps := 2000000 }) only [JK, Gr, KO, KP, JL, QW, JM, JN, KQ, Gs, KR, KS, KT, KU, KV, KW, KX, KY, KZ, K1, K2, QX, QY, QZ, JO, JP, JQ, Q0, Q1, Q2, Q3, Q4, Q5, JR, JS, JT, JU, Jq, Jr, Kp, Yv, GU, JV, Qz, Qk, KN, QT, QU, JH, QV, JI, JJ, QS, Qy, JE, JF, KK, JG, KL, KM, Q8, Q9, Qc, Qd, QE, QF, Ja, Jb, QQ, QR, Qe, Qf, GD, GE, JZ, J0, K3, JW, JX, JY, Kb, Kc, Kd, QA, QB, QD, Gt, Gu, Gv, Gw, Q6, Q7, Gy, Gx, Gz, QG, J1, K4, J2, K5, K6, K7, K8, J3, Jc, K9, Jd, Je, Jf, Jg, Jh, QH, QI, Ji, J4, Jj, J5, J6, J7, GA, GB, Ya, Jk, Yb, QJ, KJ, J8, KF, GC, Jl, YF, YE, YD, Gk, List.length_take, Int.toNat_zero, List.drop_zero, YC, Ks, QL, Jt, GX, Yu, Kr, Kq, Js, Yc, J9, Yd, Ye, GF, Yf, Yg, GG, Yh, Ka, Yi, GH, Yj, Yk, GI, GJ, GK, Yl, eff, JB, QO, Ke, Ym, Kf, Kg, Kh, GL, GM, JD, JC, Jm, GN, GO, GP, Y7, pur, List.map, List.drop, List.take, List.length, List.foldl, List.append_eq, List.nil_append, List.cons_append, List.getD_cons_zero, List.getD_cons_succ, reduceIte, Nat.reduceEqDiff, Nat.reduceAdd, Nat.reduceLeDiff, true_and, and_true, Bool.not_true, Bool.not_false, Bool.and_true, Bool.true_and, Bool.and_self, reduceCtorEq, true_implies, false_implies, implies_true, decide_eq_true_eq, Option.map_some, Gm, fpX, SOp.xs, oX, refs, KE, dom, Gl, List.all_nil, List.all_cons, List.contains_cons, List.contains_nil, Nat.reduceBEq, Bool.or_false, Bool.false_or, List.append_nil, Bool.not_false, Bool.not_true, List.forall_mem_cons, fm0, List.set, Nat.reduceLT, Nat.reduceMod, ne_eq, not_false_eq_true, not_true_eq_false, GQ, Yn, Yo, Yp, Ki, Jn, Kj, Yq, Kk, Kl, GR, GS, GT, Yr, Ys, Yt, Jo, Jp, decide_true, AV.bool.injEq, AV.int.injEq, Nat.reduceLeDiff, decide_eq_true_eq, decide_eq_false_iff_not, Int.toNat_natCast, List.length_map, decide_false, KH, noref, flatOk, Qb, wkM, Km, Kw, Kx, Ju, QM, Kv, Jv, Kt, Ku, Qn, QN, Classical.not_not, Y0, KI, GY, XJ, Qr, Qt, Qa, Yw, Ql, List.take_length, List.length_cons, List.length_nil, Nat.zero_add, Ko, Yx, Yy, YG, Zone.row, Qj, QK, Pt.row, Qs, Jw, Aw.row, Qv, Jx, Blk.row, Qg, Qp, Sec.row, Qh, Qu, Rw.row, Qw, Jy, Qi]
    refine Yz (fun k : Nat => [(5, .int .i64 k)]) (fun _ => []) (fun k => k ≤ (s.secs.getD i default).bl.length ∧ ∀ j, j < k → QdV s.w s.h s.lv (s.secs.getD i default).bl j) (fun k => (s.secs.getD i default).bl.length - k) (0) (by simp only [YC, YD, YE, YF, Qc, Qd, Qe, Qf, reduceIte, Nat.reduceEqDiff]; exact ⟨by repeat' (first | exact trivial | refine ⟨.inr rfl, ?_⟩), by repeat' (first | exact trivial | refine ⟨rfl, ?_⟩), by first | rfl | simp [closedB, Qx, Qo, Qb, dom, Qm, *], by first | rfl | simp [keepB, dom]⟩) ?_ ?_
    · exact ⟨Nat.zero_le _, by intro j hj; omega⟩
    intro k hk NX2 hN2
    unfold Uz; simp (config := { maxSteps := 2000000 }) only [JK, Gr, KO, KP, JL, QW, JM, JN, KQ, Gs, KR, KS, KT, KU, KV, KW, KX, KY, KZ, K1, K2, QX, QY, QZ, JO, JP, JQ, Q0, Q1, Q2, Q3, Q4, Q5, JR, JS, JT, JU, Jq, Jr, Kp, Yv, GU, JV, Qz, Qk, KN, QT, QU, JH, QV, JI, JJ, QS, Qy, JE, JF, KK, JG, KL, KM, Q8, Q9, Qc, Qd, QE, QF, Ja, Jb, QQ, QR, Qe, Qf, GD, GE, JZ, J0, K3, JW, JX, JY, Kb, Kc, Kd, QA, QB, QD, Gt, Gu, Gv, Gw, Q6, Q7, Gy, Gx, Gz, QG, J1, K4, J2, K5, K6, K7, K8, J3, Jc, K9, Jd, Je, Jf, Jg, Jh, QH, QI, Ji, J4, Jj, J5, J6, J7, GA, GB, Ya, Jk, Yb, QJ, KJ, J8, KF, GC, Jl, YF, YE, YD, Gk, List.length_take, Int.toNat_zero, List.drop_zero, YC, Ks, QL, Jt, GX, Yu, Kr, Kq, Js, Yc, J9, Yd, Ye, GF, Yf, Yg, GG, Yh, Ka, Yi, GH, Yj, Yk, GI, GJ, GK, Yl, eff, JB, QO, Ke, Ym, Kf, Kg, Kh, GL, GM, JD, JC, Jm, GN, GO, GP, Y7, pur, List.map, List.drop, List.take, List.length, List.foldl, List.append_eq, List.nil_append, List.cons_append, List.getD_cons_zero, List.getD_cons_succ, reduceIte, Nat.reduceEqDiff, Nat.reduceAdd, Nat.reduceLeDiff, true_and, and_true, Bool.not_true, Bool.not_false, Bool.and_true, Bool.true_and, Bool.and_self, reduceCtorEq, true_implies, false_implies, implies_true, decide_eq_true_eq, Option.map_some, Gm, fpX, SOp.xs, oX, refs, KE, dom, Gl, List.all_nil, List.all_cons, List.contains_cons, List.contains_nil, Nat.reduceBEq, Bool.or_false, Bool.false_or, List.append_nil, Bool.not_false, Bool.not_true, List.forall_mem_cons, fm0, List.set, Nat.reduceLT, Nat.reduceMod, ne_eq, not_false_eq_true, not_true_eq_false, GQ, Yn, Yo, Yp, Ki, Jn, Kj, Yq, Kk, Kl, GR, GS, GT, Yr, Ys, Yt, Jo, Jp, decide_true, AV.bool.injEq, AV.int.injEq, Nat.reduceLeDiff, decide_eq_true_eq, decide_eq_false_iff_not, Int.toNat_natCast, List.length_map, decide_false, KH, noref, flatOk, Qb, wkM, Km, Kw, Kx, Ju, QM, Kv, Jv, Kt, Ku, Qn, QN, Classical.not_not, Y0, KI, GY, XJ, Qr, Qt, Qa, Yw, Ql, List.take_length, List.length_cons, List.length_nil, Nat.zero_add, Ko, Yx, Yy, YG, Zone.row, Qj, QK, Pt.row, Qs, Jw, Aw.row, Qv, Jx, Blk.row, Qg, Qp, Sec.row, Qh, Qu, Rw.row, Qw, Jy, Qi]
    refine ⟨fun g2 => ?_, fun g2 => ?_⟩
    · refine QaQ s i k (by omega) hq4 fun bv hbv => ?_
      cases bv
      case true =>
        simp (config := { maxSteps := 2000000 }) only [JK, Gr, KO, KP, JL, QW, JM, JN, KQ, Gs, KR, KS, KT, KU, KV, KW, KX, KY, KZ, K1, K2, QX, QY, QZ, JO, JP, JQ, Q0, Q1, Q2, Q3, Q4, Q5, JR, JS, JT, JU, Jq, Jr, Kp, Yv, GU, JV, Qz, Qk, KN, QT, QU, JH, QV, JI, JJ, QS, Qy, JE, JF, KK, JG, KL, KM, Q8, Q9, Qc, Qd, QE, QF, Ja, Jb, QQ, QR, Qe, Qf, GD, GE, JZ, J0, K3, JW, JX, JY, Kb, Kc, Kd, QA, QB, QD, Gt, Gu, Gv, Gw, Q6, Q7, Gy, Gx, Gz, QG, J1, K4, J2, K5, K6, K7, K8, J3, Jc, K9, Jd, Je, Jf, Jg, Jh, QH, QI, Ji, J4, Jj, J5, J6, J7, GA, GB, Ya, Jk, Yb, QJ, KJ, J8, KF, GC, Jl, YF, YE, YD, Gk, List.length_take, Int.toNat_zero, List.drop_zero, YC, Ks, QL, Jt, GX, Yu, Kr, Kq, Js, Yc, J9, Yd, Ye, GF, Yf, Yg, GG, Yh, Ka, Yi, GH, Yj, Yk, GI, GJ, GK, Yl, eff, JB, QO, Ke, Ym, Kf, Kg, Kh, GL, GM, JD, JC, Jm, GN, GO, GP, Y7, pur, List.map, List.drop, List.take, List.length, List.foldl, List.append_eq, List.nil_append, List.cons_append, List.getD_cons_zero, List.getD_cons_succ, reduceIte, Nat.reduceEqDiff, Nat.reduceAdd, Nat.reduceLeDiff, true_and, and_true, Bool.not_true, Bool.not_false, Bool.and_true, Bool.true_and, Bool.and_self, reduceCtorEq, true_implies, false_implies, implies_true, decide_eq_true_eq, Option.map_some, Gm, fpX, SOp.xs, oX, refs, KE, dom, Gl, List.all_nil, List.all_cons, List.contains_cons, List.contains_nil, Nat.reduceBEq, Bool.or_false, Bool.false_or, List.append_nil, Bool.not_false, Bool.not_true, List.forall_mem_cons, fm0, List.set, Nat.reduceLT, Nat.reduceMod, ne_eq, not_false_eq_true, not_true_eq_false, GQ, Yn, Yo, Yp, Ki, Jn, Kj, Yq, Kk, Kl, GR, GS, GT, Yr, Ys, Yt, Jo, Jp, decide_true, AV.bool.injEq, AV.int.injEq, Nat.reduceLeDiff, decide_eq_true_eq, decide_eq_false_iff_not, Int.toNat_natCast, List.length_map, decide_false, KH, noref, flatOk, Qb, wkM, Km, Kw, Kx, Ju, QM, Kv, Jv, Kt, Ku, Qn, QN, Classical.not_not, Y0, KI, GY, XJ, Qr, Qt, Qa, Yw, Ql, List.take_length, List.length_cons, List.length_nil, Nat.zero_add, Ko, Yx, Yy, YG, Zone.row, Qj, QK, Pt.row, Qs, Jw, Aw.row, Qv, Jx, Blk.row, Qg, Qp, Sec.row, Qh, Qu, Rw.row, Qw, Jy, Qi]
        exact fun hq => (hbv.1 rfl) ((A hq).2.2.2 k (by omega))
      have o2 := Classical.not_not.1 fun h => Bool.noConfusion (hbv.2 h)
      simp (config := { maxSteps := 2000000 }) only [JK, Gr, KO, KP, JL, QW, JM, JN, KQ, Gs, KR, KS, KT, KU, KV, KW, KX, KY, KZ, K1, K2, QX, QY, QZ, JO, JP, JQ, Q0, Q1, Q2, Q3, Q4, Q5, JR, JS, JT, JU, Jq, Jr, Kp, Yv, GU, JV, Qz, Qk, KN, QT, QU, JH, QV, JI, JJ, QS, Qy, JE, JF, KK, JG, KL, KM, Q8, Q9, Qc, Qd, QE, QF, Ja, Jb, QQ, QR, Qe, Qf, GD, GE, JZ, J0, K3, JW, JX, JY, Kb, Kc, Kd, QA, QB, QD, Gt, Gu, Gv, Gw, Q6, Q7, Gy, Gx, Gz, QG, J1, K4, J2, K5, K6, K7, K8, J3, Jc, K9, Jd, Je, Jf, Jg, Jh, QH, QI, Ji, J4, Jj, J5, J6, J7, GA, GB, Ya, Jk, Yb, QJ, KJ, J8, KF, GC, Jl, YF, YE, YD, Gk, List.length_take, Int.toNat_zero, List.drop_zero, YC, Ks, QL, Jt, GX, Yu, Kr, Kq, Js, Yc, J9, Yd, Ye, GF, Yf, Yg, GG, Yh, Ka, Yi, GH, Yj, Yk, GI, GJ, GK, Yl, eff, JB, QO, Ke, Ym, Kf, Kg, Kh, GL, GM, JD, JC, Jm, GN, GO, GP, Y7, pur, List.map, List.drop, List.take, List.length, List.foldl, List.append_eq, List.nil_append, List.cons_append, List.getD_cons_zero, List.getD_cons_succ, reduceIte, Nat.reduceEqDiff, Nat.reduceAdd, Nat.reduceLeDiff, true_and, and_true, Bool.not_true, Bool.not_false, Bool.and_true, Bool.true_and, Bool.and_self, reduceCtorEq, true_implies, false_implies, implies_true, decide_eq_true_eq, Option.map_some, Gm, fpX, SOp.xs, oX, refs, KE, dom, Gl, List.all_nil, List.all_cons, List.contains_cons, List.contains_nil, Nat.reduceBEq, Bool.or_false, Bool.false_or, List.append_nil, Bool.not_false, Bool.not_true, List.forall_mem_cons, fm0, List.set, Nat.reduceLT, Nat.reduceMod, ne_eq, not_false_eq_true, not_true_eq_false, GQ, Yn, Yo, Yp, Ki, Jn, Kj, Yq, Kk, Kl, GR, GS, GT, Yr, Ys, Yt, Jo, Jp, decide_true, AV.bool.injEq, AV.int.injEq, Nat.reduceLeDiff, decide_eq_true_eq, decide_eq_false_iff_not, Int.toNat_natCast, List.length_map, decide_false, KH, noref, flatOk, Qb, wkM, Km, Kw, Kx, Ju, QM, Kv, Jv, Kt, Ku, Qn, QN, Classical.not_not, Y0, KI, GY, XJ, Qr, Qt, Qa, Yw, Ql, List.take_length, List.length_cons, List.length_nil, Nat.zero_add, Ko, Yx, Yy, YG, Zone.row, Qj, QK, Pt.row, Qs, Jw, Aw.row, Qv, Jx, Blk.row, Qg, Qp, Sec.row, Qh, Qu, Rw.row, Qw, Jy, Qi]
      refine ⟨by omega, ?_⟩
      refine hN2 (k + 1) _ (by simp only [YC, YD, YE, YF, Qc, Qd, Qe, Qf, reduceIte, Nat.reduceEqDiff]; exact ⟨by repeat' (first | exact trivial | refine ⟨.inr rfl, ?_⟩), by repeat' (first | exact trivial | refine ⟨rfl, ?_⟩), by first | rfl | simp [closedB, Qx, Qo, Qb, dom, Qm, *], by first | rfl | simp [keepB, dom]⟩) ?_ ?_
      · exact ⟨by omega, Gf hk.2 o2⟩
      · omega
    · refine ⟨by omega, ?_⟩
      refine hN (i + 1) _ (by simp only [YC, YD, YE, YF, Qc, Qd, Qe, Qf, reduceIte, Nat.reduceEqDiff]; exact ⟨by repeat' (first | exact trivial | refine ⟨.inr rfl, ?_⟩), by repeat' (first | exact trivial | refine ⟨rfl, ?_⟩), by first | rfl | simp [closedB, Qx, Qo, Qb, dom, Qm, *], by first | rfl | simp [keepB, dom]⟩) ?_ ?_
      · exact ⟨by omega, Gf hi.2 ⟨o1.1, o1.2.1, o1.2.2, fun k hk2 => hk.2 k (by omega)⟩⟩
      · omega
  · exact ⟨by omega, fun j hj => hi.2 j (by omega)⟩
def UN : List AV → Option (Prop × AV)
  | [.agg [.int .i64 s_w, .int .i64 s_h, .int .i64 s_lv, .sl 0 3 s_pts, .sl 0 2 s_aws, .sl 0 2 s_secs, .sl 0 4 s_rws]] => some ((((s_pts.map Y1).map Pt.row = s_pts) ∧ ((s_aws.map Y4).map (Aw.row 0) = s_aws) ∧ ((s_secs.map KC).map (Sec.row 0) = s_secs) ∧ ((s_rws.map Y2).map Rw.row = s_rws)) ∧ ((Sky.mk s_w s_h s_lv (s_pts.map Y1) (s_aws.map Y4) (s_secs.map KC) (s_rws.map Y2)).small), .bool (decide (Qbu (Sky.mk s_w s_h s_lv (s_pts.map Y1) (s_aws.map Y4) (s_secs.map KC) (s_rws.map Y2)).w (Sky.mk s_w s_h s_lv (s_pts.map Y1) (s_aws.map Y4) (s_secs.map KC) (s_rws.map Y2)).h (Sky.mk s_w s_h s_lv (s_pts.map Y1) (s_aws.map Y4) (s_secs.map KC) (s_rws.map Y2)).lv (Sky.mk s_w s_h s_lv (s_pts.map Y1) (s_aws.map Y4) (s_secs.map KC) (s_rws.map Y2)).secs)))
  | _ => none
theorem Qgz : ∀ args p v, UN args = some (p, v) → p → Contract P 68 args [] v [] ∧ noref v = true ∧ No99 v := by
  intro args p v h1 h2
  unfold UN at h1
  split at h1
  · rename_i s_w s_h s_lv s_pts s_aws s_secs s_rws
    cases h1
    obtain ⟨⟨e0, e1, e2, e3⟩, HP⟩ := h2
    have := Qgy (Sky.mk s_w s_h s_lv (s_pts.map Y1) (s_aws.map Y4) (s_secs.map KC) (s_rws.map Y2)) HP
    exact ⟨by simpa only [e0, e1, e2, e3, Sky.row] using this, rfl, trivial⟩
  · cases h1
theorem QrE (t : Int) : Contract P 87 [.int .i64 t] [] (.int .i64 (dX t)) [] := by
  refine QP (Env.nil P) hm Qi1 (Nat.le_of_ble_eq_true rfl) rfl ?_; unfold Qe3; simp (config := { maxSteps := 2000000 }) only [JK, Gr, KO, KP, JL, QW, JM, JN, KQ, Gs, KR, KS, KT, KU, KV, KW, KX, KY, KZ, K1, K2, QX, QY, QZ, JO, JP, JQ, Q0, Q1, Q2, Q3, Q4, Q5, JR, JS, JT, JU, Jq, Jr, Kp, Yv, GU, JV, Qz, Qk, KN, QT, QU, JH, QV, JI, JJ, QS, Qy, JE, JF, KK, JG, KL, KM, Q8, Q9, Qc, Qd, QE, QF, Ja, Jb, QQ, QR, Qe, Qf, GD, GE, JZ, J0, K3, JW, JX, JY, Kb, Kc, Kd, QA, QB, QD, Gt, Gu, Gv, Gw, Q6, Q7, Gy, Gx, Gz, QG, J1, K4, J2, K5, K6, K7, K8, J3, Jc, K9, Jd, Je, Jf, Jg, Jh, QH, QI, Ji, J4, Jj, J5, J6, J7, GA, GB, Ya, Jk, Yb, QJ, KJ, J8, KF, GC, Jl, YF, YE, YD, Gk, List.length_take, Int.toNat_zero, List.drop_zero, YC, Ks, QL, Jt, GX, Yu, Kr, Kq, Js, Yc, J9, Yd, Ye, GF, Yf, Yg, GG, Yh, Ka, Yi, GH, Yj, Yk, GI, GJ, GK, Yl, eff, JB, QO, Ke, Ym, Kf, Kg, Kh, GL, GM, JD, JC, Jm, GN, GO, GP, Y7, pur, List.map, List.drop, List.take, List.length, List.foldl, List.append_eq, List.nil_append, List.cons_append, List.getD_cons_zero, List.getD_cons_succ, reduceIte, Nat.reduceEqDiff, Nat.reduceAdd, Nat.reduceLeDiff, true_and, and_true, Bool.not_true, Bool.not_false, Bool.and_true, Bool.true_and, Bool.and_self, reduceCtorEq, true_implies, false_implies, implies_true, decide_eq_true_eq, Option.map_some, Gm, fpX, SOp.xs, oX, refs, KE, dom, Gl, List.all_nil, List.all_cons, List.contains_cons, List.contains_nil, Nat.reduceBEq, Bool.or_false, Bool.false_or, List.append_nil, Bool.not_false, Bool.not_true, List.forall_mem_cons, fm0, List.set, Nat.reduceLT, Nat.reduceMod, ne_eq, not_false_eq_true, not_true_eq_false, GQ, Yn, Yo, Yp, Ki, Jn, Kj, Yq, Kk, Kl, GR, GS, GT, Yr, Ys, Yt, Jo, Jp, decide_true, AV.bool.injEq, AV.int.injEq, Nat.reduceLeDiff, decide_eq_true_eq, decide_eq_false_iff_not, Int.toNat_natCast, List.length_map, decide_false, KH, noref, flatOk, Qb, wkM, Km, Kw, Kx, Ju, QM, Kv, Jv, Kt, Ku, Qn, QN, Classical.not_not, Qr, Qt, Qa, Yw, Ql, List.take_length, List.length_cons, List.length_nil, Nat.zero_add, Ko, Yx, Yy, YG, Zone.row, Qj, QK, Pt.row, Qs, Jw, Aw.row, Qv, Jx, Blk.row, Qg, Qp, Sec.row, Qh, Qu, Rw.row, Qw, Jy, Qi]
  repeat' (first | with_reducible apply And.intro | with_reducible intro _)
  all_goals first | omega | (unfold dX; grind)
def Qhe : List AV → Option (Prop × AV)
  | [.int .i64 t] => some ((True) ∧ (True), .int .i64 (dX t))
  | _ => none
theorem Qrk : ∀ args p v, Qhe args = some (p, v) → p → Contract P 87 args [] v [] ∧ noref v = true ∧ No99 v := by
  intro args p v h1 h2
  unfold Qhe at h1
  split at h1
  · rename_i t
    cases h1
    obtain ⟨_, HP⟩ := h2
    have := QrE t
    exact ⟨this, rfl, trivial⟩
  · cases h1
theorem QrF (t : Int) : Contract P 88 [.int .i64 t] [] (.int .i64 (dY t)) [] := by
  refine QP (Env.nil P) hm Qi2 (Nat.le_of_ble_eq_true rfl) rfl ?_; unfold Qe4; simp (config := { maxSteps := 2000000 }) only [JK, Gr, KO, KP, JL, QW, JM, JN, KQ, Gs, KR, KS, KT, KU, KV, KW, KX, KY, KZ, K1, K2, QX, QY, QZ, JO, JP, JQ, Q0, Q1, Q2, Q3, Q4, Q5, JR, JS, JT, JU, Jq, Jr, Kp, Yv, GU, JV, Qz, Qk, KN, QT, QU, JH, QV, JI, JJ, QS, Qy, JE, JF, KK, JG, KL, KM, Q8, Q9, Qc, Qd, QE, QF, Ja, Jb, QQ, QR, Qe, Qf, GD, GE, JZ, J0, K3, JW, JX, JY, Kb, Kc, Kd, QA, QB, QD, Gt, Gu, Gv, Gw, Q6, Q7, Gy, Gx, Gz, QG, J1, K4, J2, K5, K6, K7, K8, J3, Jc, K9, Jd, Je, Jf, Jg, Jh, QH, QI, Ji, J4, Jj, J5, J6, J7, GA, GB, Ya, Jk, Yb, QJ, KJ, J8, KF, GC, Jl, YF, YE, YD, Gk, List.length_take, Int.toNat_zero, List.drop_zero, YC, Ks, QL, Jt, GX, Yu, Kr, Kq, Js, Yc, J9, Yd, Ye, GF, Yf, Yg, GG, Yh, Ka, Yi, GH, Yj, Yk, GI, GJ, GK, Yl, eff, JB, QO, Ke, Ym, Kf, Kg, Kh, GL, GM, JD, JC, Jm, GN, GO, GP, Y7, pur, List.map, List.drop, List.take, List.length, List.foldl, List.append_eq, List.nil_append, List.cons_append, List.getD_cons_zero, List.getD_cons_succ, reduceIte, Nat.reduceEqDiff, Nat.reduceAdd, Nat.reduceLeDiff, true_and, and_true, Bool.not_true, Bool.not_false, Bool.and_true, Bool.true_and, Bool.and_self, reduceCtorEq, true_implies, false_implies, implies_true, decide_eq_true_eq, Option.map_some, Gm, fpX, SOp.xs, oX, refs, KE, dom, Gl, List.all_nil, List.all_cons, List.contains_cons, List.contains_nil, Nat.reduceBEq, Bool.or_false, Bool.false_or, List.append_nil, Bool.not_false, Bool.not_true, List.forall_mem_cons, fm0, List.set, Nat.reduceLT, Nat.reduceMod, ne_eq, not_false_eq_true, not_true_eq_false, GQ, Yn, Yo, Yp, Ki, Jn, Kj, Yq, Kk, Kl, GR, GS, GT, Yr, Ys, Yt, Jo, Jp, decide_true, AV.bool.injEq, AV.int.injEq, Nat.reduceLeDiff, decide_eq_true_eq, decide_eq_false_iff_not, Int.toNat_natCast, List.length_map, decide_false, KH, noref, flatOk, Qb, wkM, Km, Kw, Kx, Ju, QM, Kv, Jv, Kt, Ku, Qn, QN, Classical.not_not, Qr, Qt, Qa, Yw, Ql, List.take_length, List.length_cons, List.length_nil, Nat.zero_add, Ko, Yx, Yy, YG, Zone.row, Qj, QK, Pt.row, Qs, Jw, Aw.row, Qv, Jx, Blk.row, Qg, Qp, Sec.row, Qh, Qu, Rw.row, Qw, Jy, Qi]
  repeat' (first | with_reducible apply And.intro | with_reducible intro _)
  all_goals first | omega | (unfold dY; grind)
def Qhf : List AV → Option (Prop × AV)
  | [.int .i64 t] => some ((True) ∧ (True), .int .i64 (dY t))
  | _ => none
theorem Qrl : ∀ args p v, Qhf args = some (p, v) → p → Contract P 88 args [] v [] ∧ noref v = true ∧ No99 v := by
  intro args p v h1 h2
  unfold Qhf at h1
  split at h1
  · rename_i t
    cases h1
    obtain ⟨_, HP⟩ := h2
    have := QrF t
    exact ⟨this, rfl, trivial⟩
  · cases h1
set_option maxHeartbeats 400000 in
theorem QaR (s : Sky) (i : Nat) {Q : XT → St → Prop} (hi : i < s.rws.length) (hl : s.rws.length ≤ 1048576) (hd : Uj s.w s.h s.lv) (hQ : ∀ bv : Bool, (bv = true ↔ ¬ (XG (s.rws.getD i default).nm ∧ (0 < i → slt (s.rws.getD (i - 1) default).nm (s.rws.getD i default).nm) ∧ X6 s.w s.h (s.rws.getD i default).x (s.rws.getD i default).y ∧ 1 ≤ (s.rws.getD i default).tn ∧ (s.rws.getD i default).tn ≤ 8)) → Q .normal ⟨[(1, .ptr 101 0), (3, .int .i64 i), (4, .ptr 104 0), (65, .bool bv)], [(101, .box [.int .i64 s.w, .int .i64 s.h, .int .i64 s.lv, .sl 0 3 (s.pts.map Pt.row), .sl 0 2 (s.aws.map (Aw.row 0)), .sl 0 2 (s.secs.map (Sec.row 0)), .sl 0 4 (s.rws.map Rw.row)]), (104, .box [.str (s.rws.getD i default).nm, .int .i64 (s.rws.getD i default).x, .int .i64 (s.rws.getD i default).y, .int .i64 (s.rws.getD i default).tn])]⟩) : SCode.wp (((((Env.nil P).add 65 Y0 Vd).add 82 KI X9).add 87 Qhe Qrk).add 88 Qhf Qrl) X1 Q ⟨[(1, .ptr 101 0), (3, .int .i64 i), (4, .ptr 104 0)], [(101, .box [.int .i64 s.w, .int .i64 s.h, .int .i64 s.lv, .sl 0 3 (s.pts.map Pt.row), .sl 0 2 (s.aws.map (Aw.row 0)), .sl 0 2 (s.secs.map (Sec.row 0)), .sl 0 4 (s.rws.map Rw.row)]), (104, .box [.str (s.rws.getD i default).nm, .int .i64 (s.rws.getD i default).x, .int .i64 (s.rws.getD i default).y, .int .i64 (s.rws.getD i default).tn])]⟩ := by
  all_goals (unfold X1; simp (config := { maxSteps := 2000000 }) only [JK, Gr, KO, KP, JL, QW, JM, JN, KQ, Gs, KR, KS, KT, KU, KV, KW, KX, KY, KZ, K1, K2, QX, QY, QZ, JO, JP, JQ, Q0, Q1, Q2, Q3, Q4, Q5, JR, JS, JT, JU, Jq, Jr, Kp, Yv, GU, JV, Qz, Qk, KN, QT, QU, JH, QV, JI, JJ, QS, Qy, JE, JF, KK, JG, KL, KM, Q8, Q9, Qc, Qd, QE, QF, Ja, Jb, QQ, QR, Qe, Qf, GD, GE, JZ, J0, K3, JW, JX, JY, Kb, Kc, Kd, QA, QB, QD, Gt, Gu, Gv, Gw, Q6, Q7, Gy, Gx, Gz, QG, J1, K4, J2, K5, K6, K7, K8, J3, Jc, K9, Jd, Je, Jf, Jg, Jh, QH, QI, Ji, J4, Jj, J5, J6, J7, GA, GB, Ya, Jk, Yb, QJ, KJ, J8, KF, GC, Jl, YF, YE, YD, Gk, List.length_take, Int.toNat_zero, List.drop_zero, YC, Ks, QL, Jt, GX, Yu, Kr, Kq, Js, Yc, J9, Yd, Ye, GF, Yf, Yg, GG, Yh, Ka, Yi, GH, Yj, Yk, GI, GJ, GK, Yl, eff, JB, QO, Ke, Ym, Kf, Kg, Kh, GL, GM, JD, JC, Jm, GN, GO, GP, Y7, pur, List.map, List.drop, List.take, List.length, List.foldl, List.append_eq, List.nil_append, List.cons_append, List.getD_cons_zero, List.getD_cons_succ, reduceIte, Nat.reduceEqDiff, Nat.reduceAdd, Nat.reduceLeDiff, true_and, and_true, Bool.not_true, Bool.not_false, Bool.and_true, Bool.true_and, Bool.and_self, reduceCtorEq, true_implies, false_implies, implies_true, decide_eq_true_eq, Option.map_some, Gm, fpX, SOp.xs, oX, refs, KE, dom, Gl, List.all_nil, List.all_cons, List.contains_cons, List.contains_nil, Nat.reduceBEq, Bool.or_false, Bool.false_or, List.append_nil, Bool.not_false, Bool.not_true, List.forall_mem_cons, fm0, List.set, Nat.reduceLT, Nat.reduceMod, ne_eq, not_false_eq_true, not_true_eq_false, GQ, Yn, Yo, Yp, Ki, Jn, Kj, Yq, Kk, Kl, GR, GS, GT, Yr, Ys, Yt, Jo, Jp, decide_true, AV.bool.injEq, AV.int.injEq, Nat.reduceLeDiff, decide_eq_true_eq, decide_eq_false_iff_not, Int.toNat_natCast, List.length_map, decide_false, KH, noref, flatOk, Qb, wkM, Km, Kw, Kx, Ju, QM, Kv, Jv, Kt, Ku, Qn, QN, Classical.not_not, Y0, KI, Qhe, Qhf, Qr, Qt, Qa, Yw, Ql, List.take_length, List.length_cons, List.length_nil, Nat.zero_add, Ko, Yx, Yy, YG, Zone.row, Qj, QK, Pt.row, Qs, Jw, Aw.row, Qv, Jx, Blk.row, Qg, Qp, Sec.row, Qh, Qu, Rw.row, Qw, Jy, Qi])
  repeat' (first | with_reducible apply And.intro | with_reducible intro _)
  all_goals first
    | omega
    | (refine hQ _ ?_
       first
         | grind [X6, Uj]
         | (simp; grind [X6, Uj]))
    | grind [X6, Uj]
set_option maxHeartbeats 400000 in
theorem QaS (s : Sky) (i : Nat) {w65 : AV} {Q : XT → St → Prop} (hd : Uj s.w s.h s.lv) (hc : X6 s.w s.h (s.rws.getD i default).x (s.rws.getD i default).y) (d1 : -1 ≤ dX (s.rws.getD i default).tn ∧ dX (s.rws.getD i default).tn ≤ 1) (d2 : -1 ≤ dY (s.rws.getD i default).tn ∧ dY (s.rws.getD i default).tn ≤ 1) (hQ : ∀ bv : Bool, (bv = true ↔ ¬ X6 s.w s.h ((s.rws.getD i default).x - dX (s.rws.getD i default).tn) ((s.rws.getD i default).y - dY (s.rws.getD i default).tn)) → Q .normal ⟨[(1, .ptr 101 0), (3, .int .i64 i), (4, .ptr 104 0), (89, .bool bv)], [(101, .box [.int .i64 s.w, .int .i64 s.h, .int .i64 s.lv, .sl 0 3 (s.pts.map Pt.row), .sl 0 2 (s.aws.map (Aw.row 0)), .sl 0 2 (s.secs.map (Sec.row 0)), .sl 0 4 (s.rws.map Rw.row)]), (104, .box [.str (s.rws.getD i default).nm, .int .i64 (s.rws.getD i default).x, .int .i64 (s.rws.getD i default).y, .int .i64 (s.rws.getD i default).tn])]⟩) : SCode.wp (((((Env.nil P).add 65 Y0 Vd).add 82 KI X9).add 87 Qhe Qrk).add 88 Qhf Qrl) X2 Q ⟨[(1, .ptr 101 0), (3, .int .i64 i), (4, .ptr 104 0), (65, w65)], [(101, .box [.int .i64 s.w, .int .i64 s.h, .int .i64 s.lv, .sl 0 3 (s.pts.map Pt.row), .sl 0 2 (s.aws.map (Aw.row 0)), .sl 0 2 (s.secs.map (Sec.row 0)), .sl 0 4 (s.rws.map Rw.row)]), (104, .box [.str (s.rws.getD i default).nm, .int .i64 (s.rws.getD i default).x, .int .i64 (s.rws.getD i default).y, .int .i64 (s.rws.getD i default).tn])]⟩ := by
  all_goals (unfold X2; simp (config := { maxSteps := 2000000 }) only [JK, Gr, KO, KP, JL, QW, JM, JN, KQ, Gs, KR, KS, KT, KU, KV, KW, KX, KY, KZ, K1, K2, QX, QY, QZ, JO, JP, JQ, Q0, Q1, Q2, Q3, Q4, Q5, JR, JS, JT, JU, Jq, Jr, Kp, Yv, GU, JV, Qz, Qk, KN, QT, QU, JH, QV, JI, JJ, QS, Qy, JE, JF, KK, JG, KL, KM, Q8, Q9, Qc, Qd, QE, QF, Ja, Jb, QQ, QR, Qe, Qf, GD, GE, JZ, J0, K3, JW, JX, JY, Kb, Kc, Kd, QA, QB, QD, Gt, Gu, Gv, Gw, Q6, Q7, Gy, Gx, Gz, QG, J1, K4, J2, K5, K6, K7, K8, J3, Jc, K9, Jd, Je, Jf, Jg, Jh, QH, QI, Ji, J4, Jj, J5, J6, J7, GA, GB, Ya, Jk, Yb, QJ, KJ, J8, KF, GC, Jl, YF, YE, YD, Gk, List.length_take, Int.toNat_zero, List.drop_zero, YC, Ks, QL, Jt, GX, Yu, Kr, Kq, Js, Yc, J9, Yd, Ye, GF, Yf, Yg, GG, Yh, Ka, Yi, GH, Yj, Yk, GI, GJ, GK, Yl, eff, JB, QO, Ke, Ym, Kf, Kg, Kh, GL, GM, JD, JC, Jm, GN, GO, GP, Y7, pur, List.map, List.drop, List.take, List.length, List.foldl, List.append_eq, List.nil_append, List.cons_append, List.getD_cons_zero, List.getD_cons_succ, reduceIte, Nat.reduceEqDiff, Nat.reduceAdd, Nat.reduceLeDiff, true_and, and_true, Bool.not_true, Bool.not_false, Bool.and_true, Bool.true_and, Bool.and_self, reduceCtorEq, true_implies, false_implies, implies_true, decide_eq_true_eq, Option.map_some, Gm, fpX, SOp.xs, oX, refs, KE, dom, Gl, List.all_nil, List.all_cons, List.contains_cons, List.contains_nil, Nat.reduceBEq, Bool.or_false, Bool.false_or, List.append_nil, Bool.not_false, Bool.not_true, List.forall_mem_cons, fm0, List.set, Nat.reduceLT, Nat.reduceMod, ne_eq, not_false_eq_true, not_true_eq_false, GQ, Yn, Yo, Yp, Ki, Jn, Kj, Yq, Kk, Kl, GR, GS, GT, Yr, Ys, Yt, Jo, Jp, decide_true, AV.bool.injEq, AV.int.injEq, Nat.reduceLeDiff, decide_eq_true_eq, decide_eq_false_iff_not, Int.toNat_natCast, List.length_map, decide_false, KH, noref, flatOk, Qb, wkM, Km, Kw, Kx, Ju, QM, Kv, Jv, Kt, Ku, Qn, QN, Classical.not_not, Y0, KI, Qhe, Qhf, Qr, Qt, Qa, Yw, Ql, List.take_length, List.length_cons, List.length_nil, Nat.zero_add, Ko, Yx, Yy, YG, Zone.row, Qj, QK, Pt.row, Qs, Jw, Aw.row, Qv, Jx, Blk.row, Qg, Qp, Sec.row, Qh, Qu, Rw.row, Qw, Jy, Qi])
  repeat' (first | with_reducible apply And.intro | with_reducible intro _)
  all_goals first
    | omega
    | (refine hQ _ ?_
       first
         | grind [X6, Uj]
         | (simp; grind [X6, Uj]))
    | grind [X6, Uj]
set_option maxHeartbeats 400000 in
theorem QaT (s : Sky) (i k : Nat) {w92 : AV} {Q : XT → St → Prop} (hi : i < s.rws.length) (hk : k < i) (hl : s.rws.length ≤ 1048576) (hQ : ∀ bv : Bool, (bv = true ↔ ((s.rws.getD k default).x = (s.rws.getD i default).x ∧ (s.rws.getD k default).y = (s.rws.getD i default).y)) → Q .normal ⟨[(1, .ptr 101 0), (3, .int .i64 i), (4, .ptr 104 0), (5, .int .i64 k), (114, .bool bv)], [(101, .box [.int .i64 s.w, .int .i64 s.h, .int .i64 s.lv, .sl 0 3 (s.pts.map Pt.row), .sl 0 2 (s.aws.map (Aw.row 0)), .sl 0 2 (s.secs.map (Sec.row 0)), .sl 0 4 (s.rws.map Rw.row)]), (104, .box [.str (s.rws.getD i default).nm, .int .i64 (s.rws.getD i default).x, .int .i64 (s.rws.getD i default).y, .int .i64 (s.rws.getD i default).tn])]⟩) : SCode.wp (((((Env.nil P).add 65 Y0 Vd).add 82 KI X9).add 87 Qhe Qrk).add 88 Qhf Qrl) X3 Q ⟨[(1, .ptr 101 0), (3, .int .i64 i), (4, .ptr 104 0), (5, .int .i64 k), (92, w92)], [(101, .box [.int .i64 s.w, .int .i64 s.h, .int .i64 s.lv, .sl 0 3 (s.pts.map Pt.row), .sl 0 2 (s.aws.map (Aw.row 0)), .sl 0 2 (s.secs.map (Sec.row 0)), .sl 0 4 (s.rws.map Rw.row)]), (104, .box [.str (s.rws.getD i default).nm, .int .i64 (s.rws.getD i default).x, .int .i64 (s.rws.getD i default).y, .int .i64 (s.rws.getD i default).tn])]⟩ := by
  all_goals (unfold X3; simp (config := { maxSteps := 2000000 }) only [JK, Gr, KO, KP, JL, QW, JM, JN, KQ, Gs, KR, KS, KT, KU, KV, KW, KX, KY, KZ, K1, K2, QX, QY, QZ, JO, JP, JQ, Q0, Q1, Q2, Q3, Q4, Q5, JR, JS, JT, JU, Jq, Jr, Kp, Yv, GU, JV, Qz, Qk, KN, QT, QU, JH, QV, JI, JJ, QS, Qy, JE, JF, KK, JG, KL, KM, Q8, Q9, Qc, Qd, QE, QF, Ja, Jb, QQ, QR, Qe, Qf, GD, GE, JZ, J0, K3, JW, JX, JY, Kb, Kc, Kd, QA, QB, QD, Gt, Gu, Gv, Gw, Q6, Q7, Gy, Gx, Gz, QG, J1, K4, J2, K5, K6, K7, K8, J3, Jc, K9, Jd, Je, Jf, Jg, Jh, QH, QI, Ji, J4, Jj, J5, J6, J7, GA, GB, Ya, Jk, Yb, QJ, KJ, J8, KF, GC, Jl, YF, YE, YD, Gk, List.length_take, Int.toNat_zero, List.drop_zero, YC, Ks, QL, Jt, GX, Yu, Kr, Kq, Js, Yc, J9, Yd, Ye, GF, Yf, Yg, GG, Yh, Ka, Yi, GH, Yj, Yk, GI, GJ, GK, Yl, eff, JB, QO, Ke, Ym, Kf, Kg, Kh, GL, GM, JD, JC, Jm, GN, GO, GP, Y7, pur, List.map, List.drop, List.take, List.length, List.foldl, List.append_eq, List.nil_append, List.cons_append, List.getD_cons_zero, List.getD_cons_succ, reduceIte, Nat.reduceEqDiff, Nat.reduceAdd, Nat.reduceLeDiff, true_and, and_true, Bool.not_true, Bool.not_false, Bool.and_true, Bool.true_and, Bool.and_self, reduceCtorEq, true_implies, false_implies, implies_true, decide_eq_true_eq, Option.map_some, Gm, fpX, SOp.xs, oX, refs, KE, dom, Gl, List.all_nil, List.all_cons, List.contains_cons, List.contains_nil, Nat.reduceBEq, Bool.or_false, Bool.false_or, List.append_nil, Bool.not_false, Bool.not_true, List.forall_mem_cons, fm0, List.set, Nat.reduceLT, Nat.reduceMod, ne_eq, not_false_eq_true, not_true_eq_false, GQ, Yn, Yo, Yp, Ki, Jn, Kj, Yq, Kk, Kl, GR, GS, GT, Yr, Ys, Yt, Jo, Jp, decide_true, AV.bool.injEq, AV.int.injEq, Nat.reduceLeDiff, decide_eq_true_eq, decide_eq_false_iff_not, Int.toNat_natCast, List.length_map, decide_false, KH, noref, flatOk, Qb, wkM, Km, Kw, Kx, Ju, QM, Kv, Jv, Kt, Ku, Qn, QN, Classical.not_not, Y0, KI, Qhe, Qhf, Qr, Qt, Qa, Yw, Ql, List.take_length, List.length_cons, List.length_nil, Nat.zero_add, Ko, Yx, Yy, YG, Zone.row, Qj, QK, Pt.row, Qs, Jw, Aw.row, Qv, Jx, Blk.row, Qg, Qp, Sec.row, Qh, Qu, Rw.row, Qw, Jy, Qi])
  repeat' (first | with_reducible apply And.intro | with_reducible intro _)
  all_goals first
    | omega
    | (refine hQ _ ?_
       first
         | grind []
         | (simp; grind []))
    | grind []
theorem QgA (s : Sky) (hd : Uj s.w s.h s.lv) (hs : s.small) : Contract P 70 [.agg (s.row 0)] [] (.bool (decide (QlP s.w s.h s.rws))) [] := by
  have hl : s.rws.length ≤ 1048576 := hs.2.2.2
  simp only [Sky.row]
  refine QP (((((Env.nil P).add 65 Y0 Vd).add 82 KI X9).add 87 Qhe Qrk).add 88 Qhf Qrl) hm QcH (Nat.le_of_ble_eq_true rfl) rfl ?_; unfold VI; simp (config := { maxSteps := 2000000 }) only [JK, Gr, KO, KP, JL, QW, JM, JN, KQ, Gs, KR, KS, KT, KU, KV, KW, KX, KY, KZ, K1, K2, QX, QY, QZ, JO, JP, JQ, Q0, Q1, Q2, Q3, Q4, Q5, JR, JS, JT, JU, Jq, Jr, Kp, Yv, GU, JV, Qz, Qk, KN, QT, QU, JH, QV, JI, JJ, QS, Qy, JE, JF, KK, JG, KL, KM, Q8, Q9, Qc, Qd, QE, QF, Ja, Jb, QQ, QR, Qe, Qf, GD, GE, JZ, J0, K3, JW, JX, JY, Kb, Kc, Kd, QA, QB, QD, Gt, Gu, Gv, Gw, Q6, Q7, Gy, Gx, Gz, QG, J1, K4, J2, K5, K6, K7, K8, J3, Jc, K9, Jd, Je, Jf, Jg, Jh, QH, QI, Ji, J4, Jj, J5, J6, J7, GA, GB, Ya, Jk, Yb, QJ, KJ, J8, KF, GC, Jl, YF, YE, YD, Gk, List.length_take, Int.toNat_zero, List.drop_zero, YC, Ks, QL, Jt, GX, Yu, Kr, Kq, Js, Yc, J9, Yd, Ye, GF, Yf, Yg, GG, Yh, Ka, Yi, GH, Yj, Yk, GI, GJ, GK, Yl, eff, JB, QO, Ke, Ym, Kf, Kg, Kh, GL, GM, JD, JC, Jm, GN, GO, GP, Y7, pur, List.map, List.drop, List.take, List.length, List.foldl, List.append_eq, List.nil_append, List.cons_append, List.getD_cons_zero, List.getD_cons_succ, reduceIte, Nat.reduceEqDiff, Nat.reduceAdd, Nat.reduceLeDiff, true_and, and_true, Bool.not_true, Bool.not_false, Bool.and_true, Bool.true_and, Bool.and_self, reduceCtorEq, true_implies, false_implies, implies_true, decide_eq_true_eq, Option.map_some, Gm, fpX, SOp.xs, oX, refs, KE, dom, Gl, List.all_nil, List.all_cons, List.contains_cons, List.contains_nil, Nat.reduceBEq, Bool.or_false, Bool.false_or, List.append_nil, Bool.not_false, Bool.not_true, List.forall_mem_cons, fm0, List.set, Nat.reduceLT, Nat.reduceMod, ne_eq, not_false_eq_true, not_true_eq_false, GQ, Yn, Yo, Yp, Ki, Jn, Kj, Yq, Kk, Kl, GR, GS, GT, Yr, Ys, Yt, Jo, Jp, decide_true, AV.bool.injEq, AV.int.injEq, Nat.reduceLeDiff, decide_eq_true_eq, decide_eq_false_iff_not, Int.toNat_natCast, List.length_map, decide_false, KH, noref, flatOk, Qb, wkM, Km, Kw, Kx, Ju, QM, Kv, Jv, Kt, Ku, Qn, QN, Classical.not_not, Y0, KI, Qhe, Qhf, Qr, Qt, Qa, Yw, Ql, List.take_length, List.length_cons, List.length_nil, Nat.zero_add, Ko, Yx, Yy, YG, Zone.row, Qj, QK, Pt.row, Qs, Jw, Aw.row, Qv, Jx, Blk.row, Qg, Qp, Sec.row, Qh, Qu, Rw.row, Qw, Jy, Qi]
  refine ⟨fun h1 => by intro h; have := h.1; omega, fun h1 => ?_⟩
  refine Yz (fun i : Nat => [(3, .int .i64 i)]) (fun _ => []) (fun i => i ≤ s.rws.length ∧ ∀ j, j < i → Qo9 s.w s.h s.rws j) (fun i => s.rws.length - i) (0) (by simp only [YC, YD, YE, YF, Qc, Qd, Qe, Qf, reduceIte, Nat.reduceEqDiff]; exact ⟨by repeat' (first | exact trivial | refine ⟨.inr rfl, ?_⟩), by repeat' (first | exact trivial | refine ⟨rfl, ?_⟩), by first | rfl | simp [closedB, Qx, Qo, Qb, dom, Qm, *], by first | rfl | simp [keepB, dom]⟩) ?_ ?_
  · exact ⟨Nat.zero_le _, by intro j hj; omega⟩
  intro i hi NX hN
  unfold UC; simp (config := { maxSteps := 2000000 }) only [JK, Gr, KO, KP, JL, QW, JM, JN, KQ, Gs, KR, KS, KT, KU, KV, KW, KX, KY, KZ, K1, K2, QX, QY, QZ, JO, JP, JQ, Q0, Q1, Q2, Q3, Q4, Q5, JR, JS, JT, JU, Jq, Jr, Kp, Yv, GU, JV, Qz, Qk, KN, QT, QU, JH, QV, JI, JJ, QS, Qy, JE, JF, KK, JG, KL, KM, Q8, Q9, Qc, Qd, QE, QF, Ja, Jb, QQ, QR, Qe, Qf, GD, GE, JZ, J0, K3, JW, JX, JY, Kb, Kc, Kd, QA, QB, QD, Gt, Gu, Gv, Gw, Q6, Q7, Gy, Gx, Gz, QG, J1, K4, J2, K5, K6, K7, K8, J3, Jc, K9, Jd, Je, Jf, Jg, Jh, QH, QI, Ji, J4, Jj, J5, J6, J7, GA, GB, Ya, Jk, Yb, QJ, KJ, J8, KF, GC, Jl, YF, YE, YD, Gk, List.length_take, Int.toNat_zero, List.drop_zero, YC, Ks, QL, Jt, GX, Yu, Kr, Kq, Js, Yc, J9, Yd, Ye, GF, Yf, Yg, GG, Yh, Ka, Yi, GH, Yj, Yk, GI, GJ, GK, Yl, eff, JB, QO, Ke, Ym, Kf, Kg, Kh, GL, GM, JD, JC, Jm, GN, GO, GP, Y7, pur, List.map, List.drop, List.take, List.length, List.foldl, List.append_eq, List.nil_append, List.cons_append, List.getD_cons_zero, List.getD_cons_succ, reduceIte, Nat.reduceEqDiff, Nat.reduceAdd, Nat.reduceLeDiff, true_and, and_true, Bool.not_true, Bool.not_false, Bool.and_true, Bool.true_and, Bool.and_self, reduceCtorEq, true_implies, false_implies, implies_true, decide_eq_true_eq, Option.map_some, Gm, fpX, SOp.xs, oX, refs, KE, dom, Gl, List.all_nil, List.all_cons, List.contains_cons, List.contains_nil, Nat.reduceBEq, Bool.or_false, Bool.false_or, List.append_nil, Bool.not_false, Bool.not_true, List.forall_mem_cons, fm0, List.set, Nat.reduceLT, Nat.reduceMod, ne_eq, not_false_eq_true, not_true_eq_false, GQ, Yn, Yo, Yp, Ki, Jn, Kj, Yq, Kk, Kl, GR, GS, GT, Yr, Ys, Yt, Jo, Jp, decide_true, AV.bool.injEq, AV.int.injEq, Nat.reduceLeDiff, decide_eq_true_eq, decide_eq_false_iff_not, Int.toNat_natCast, List.length_map, decide_false, KH, noref, flatOk, Qb, wkM, Km, Kw, Kx, Ju, QM, Kv, Jv, Kt, Ku, Qn, QN, Classical.not_not, Y0, KI, Qhe, Qhf, Qr, Qt, Qa, Yw, Ql, List.take_length, List.length_cons, List.length_nil, Nat.zero_add, Ko, Yx, Yy, YG, Zone.row, Qj, QK, Pt.row, Qs, Jw, Aw.row, Qv, Jx, Blk.row, Qg, Qp, Sec.row, Qh, Qu, Rw.row, Qw, Jy, Qi]
  refine ⟨fun g1 => ⟨by omega, by omega, ?_⟩, fun g1 => ?_⟩
  · have A : QlP s.w s.h s.rws → Qo9 s.w s.h s.rws i := fun h => h.2 i (by omega)
    unfold Qo9 Rw.ok at A
    refine QaR s i (by omega) hl hd fun bv hbv => ?_
    cases bv
    case true =>
      simp (config := { maxSteps := 2000000 }) only [JK, Gr, KO, KP, JL, QW, JM, JN, KQ, Gs, KR, KS, KT, KU, KV, KW, KX, KY, KZ, K1, K2, QX, QY, QZ, JO, JP, JQ, Q0, Q1, Q2, Q3, Q4, Q5, JR, JS, JT, JU, Jq, Jr, Kp, Yv, GU, JV, Qz, Qk, KN, QT, QU, JH, QV, JI, JJ, QS, Qy, JE, JF, KK, JG, KL, KM, Q8, Q9, Qc, Qd, QE, QF, Ja, Jb, QQ, QR, Qe, Qf, GD, GE, JZ, J0, K3, JW, JX, JY, Kb, Kc, Kd, QA, QB, QD, Gt, Gu, Gv, Gw, Q6, Q7, Gy, Gx, Gz, QG, J1, K4, J2, K5, K6, K7, K8, J3, Jc, K9, Jd, Je, Jf, Jg, Jh, QH, QI, Ji, J4, Jj, J5, J6, J7, GA, GB, Ya, Jk, Yb, QJ, KJ, J8, KF, GC, Jl, YF, YE, YD, Gk, List.length_take, Int.toNat_zero, List.drop_zero, YC, Ks, QL, Jt, GX, Yu, Kr, Kq, Js, Yc, J9, Yd, Ye, GF, Yf, Yg, GG, Yh, Ka, Yi, GH, Yj, Yk, GI, GJ, GK, Yl, eff, JB, QO, Ke, Ym, Kf, Kg, Kh, GL, GM, JD, JC, Jm, GN, GO, GP, Y7, pur, List.map, List.drop, List.take, List.length, List.foldl, List.append_eq, List.nil_append, List.cons_append, List.getD_cons_zero, List.getD_cons_succ, reduceIte, Nat.reduceEqDiff, Nat.reduceAdd, Nat.reduceLeDiff, true_and, and_true, Bool.not_true, Bool.not_false, Bool.and_true, Bool.true_and, Bool.and_self, reduceCtorEq, true_implies, false_implies, implies_true, decide_eq_true_eq, Option.map_some, Gm, fpX, SOp.xs, oX, refs, KE, dom, Gl, List.all_nil, List.all_cons, List.contains_cons, List.contains_nil, Nat.reduceBEq, Bool.or_false, Bool.false_or, List.append_nil, Bool.not_false, Bool.not_true, List.forall_mem_cons, fm0, List.set, Nat.reduceLT, Nat.reduceMod, ne_eq, not_false_eq_true, not_true_eq_false, GQ, Yn, Yo, Yp, Ki, Jn, Kj, Yq, Kk, Kl, GR, GS, GT, Yr, Ys, Yt, Jo, Jp, decide_true, AV.bool.injEq, AV.int.injEq, Nat.reduceLeDiff, decide_eq_true_eq, decide_eq_false_iff_not, Int.toNat_natCast, List.length_map, decide_false, KH, noref, flatOk, Qb, wkM, Km, Kw, Kx, Ju, QM, Kv, Jv, Kt, Ku, Qn, QN, Classical.not_not, Y0, KI, Qhe, Qhf, Qr, Qt, Qa, Yw, Ql, List.take_length, List.length_cons, List.length_nil, Nat.zero_add, Ko, Yx, Yy, YG, Zone.row, Qj, QK, Pt.row, Qs, Jw, Aw.row, Qv, Jx, Blk.row, Qg, Qp, Sec.row, Qh, Qu, Rw.row, Qw, Jy, Qi]
      exact fun hq => (hbv.1 rfl) ⟨(A hq).1, (A hq).2.1, (A hq).2.2.1.2.1, (A hq).2.2.1.1⟩
    have o1 := Classical.not_not.1 fun h => Bool.noConfusion (hbv.2 h)
    simp (config := { maxSteps := 2000000 }) only [JK, Gr, KO, KP, JL, QW, JM, JN, KQ, Gs, KR, KS, KT, KU, KV, KW, KX, KY, KZ, K1, K2, QX, QY, QZ, JO, JP, JQ, Q0, Q1, Q2, Q3, Q4, Q5, JR, JS, JT, JU, Jq, Jr, Kp, Yv, GU, JV, Qz, Qk, KN, QT, QU, JH, QV, JI, JJ, QS, Qy, JE, JF, KK, JG, KL, KM, Q8, Q9, Qc, Qd, QE, QF, Ja, Jb, QQ, QR, Qe, Qf, GD, GE, JZ, J0, K3, JW, JX, JY, Kb, Kc, Kd, QA, QB, QD, Gt, Gu, Gv, Gw, Q6, Q7, Gy, Gx, Gz, QG, J1, K4, J2, K5, K6, K7, K8, J3, Jc, K9, Jd, Je, Jf, Jg, Jh, QH, QI, Ji, J4, Jj, J5, J6, J7, GA, GB, Ya, Jk, Yb, QJ, KJ, J8, KF, GC, Jl, YF, YE, YD, Gk, List.length_take, Int.toNat_zero, List.drop_zero, YC, Ks, QL, Jt, GX, Yu, Kr, Kq, Js, Yc, J9, Yd, Ye, GF, Yf, Yg, GG, Yh, Ka, Yi, GH, Yj, Yk, GI, GJ, GK, Yl, eff, JB, QO, Ke, Ym, Kf, Kg, Kh, GL, GM, JD, JC, Jm, GN, GO, GP, Y7, pur, List.map, List.drop, List.take, List.length, List.foldl, List.append_eq, List.nil_append, List.cons_append, List.getD_cons_zero, List.getD_cons_succ, reduceIte, Nat.reduceEqDiff, Nat.reduceAdd, Nat.reduceLeDiff, true_and, and_true, Bool.not_true, Bool.not_false, Bool.and_true, Bool.true_and, Bool.and_self, reduceCtorEq, true_implies, false_implies, implies_true, decide_eq_true_eq, Option.map_some, Gm, fpX, SOp.xs, oX, refs, KE, dom, Gl, List.all_nil, List.all_cons, List.contains_cons, List.contains_nil, Nat.reduceBEq, Bool.or_false, Bool.false_or, List.append_nil, Bool.not_false, Bool.not_true, List.forall_mem_cons, fm0, List.set, Nat.reduceLT, Nat.reduceMod, ne_eq, not_false_eq_true, not_true_eq_false, GQ, Yn, Yo, Yp, Ki, Jn, Kj, Yq, Kk, Kl, GR, GS, GT, Yr, Ys, Yt, Jo, Jp, decide_true, AV.bool.injEq, AV.int.injEq, Nat.reduceLeDiff, decide_eq_true_eq, decide_eq_false_iff_not, Int.toNat_natCast, List.length_map, decide_false, KH, noref, flatOk, Qb, wkM, Km, Kw, Kx, Ju, QM, Kv, Jv, Kt, Ku, Qn, QN, Classical.not_not, Y0, KI, Qhe, Qhf, Qr, Qt, Qa, Yw, Ql, List.take_length, List.length_cons, List.length_nil, Nat.zero_add, Ko, Yx, Yy, YG, Zone.row, Qj, QK, Pt.row, Qs, Jw, Aw.row, Qv, Jx, Blk.row, Qg, Qp, Sec.row, Qh, Qu, Rw.row, Qw, Jy, Qi]
    refine QaS s i hd o1.2.2.1 (QqI _) (QqJ _) fun bv hbv => ?_
    cases bv
    case true =>
      simp (config := { maxSteps := 2000000 }) only [JK, Gr, KO, KP, JL, QW, JM, JN, KQ, Gs, KR, KS, KT, KU, KV, KW, KX, KY, KZ, K1, K2, QX, QY, QZ, JO, JP, JQ, Q0, Q1, Q2, Q3, Q4, Q5, JR, JS, JT, JU, Jq, Jr, Kp, Yv, GU, JV, Qz, Qk, KN, QT, QU, JH, QV, JI, JJ, QS, Qy, JE, JF, KK, JG, KL, KM, Q8, Q9, Qc, Qd, QE, QF, Ja, Jb, QQ, QR, Qe, Qf, GD, GE, JZ, J0, K3, JW, JX, JY, Kb, Kc, Kd, QA, QB, QD, Gt, Gu, Gv, Gw, Q6, Q7, Gy, Gx, Gz, QG, J1, K4, J2, K5, K6, K7, K8, J3, Jc, K9, Jd, Je, Jf, Jg, Jh, QH, QI, Ji, J4, Jj, J5, J6, J7, GA, GB, Ya, Jk, Yb, QJ, KJ, J8, KF, GC, Jl, YF, YE, YD, Gk, List.length_take, Int.toNat_zero, List.drop_zero, YC, Ks, QL, Jt, GX, Yu, Kr, Kq, Js, Yc, J9, Yd, Ye, GF, Yf, Yg, GG, Yh, Ka, Yi, GH, Yj, Yk, GI, GJ, GK, Yl, eff, JB, QO, Ke, Ym, Kf, Kg, Kh, GL, GM, JD, JC, Jm, GN, GO, GP, Y7, pur, List.map, List.drop, List.take, List.length, List.foldl, List.append_eq, List.nil_append, List.cons_append, List.getD_cons_zero, List.getD_cons_succ, reduceIte, Nat.reduceEqDiff, Nat.reduceAdd, Nat.reduceLeDiff, true_and, and_true, Bool.not_true, Bool.not_false, Bool.and_true, Bool.true_and, Bool.and_self, reduceCtorEq, true_implies, false_implies, implies_true, decide_eq_true_eq, Option.map_some, Gm, fpX, SOp.xs, oX, refs, KE, dom, Gl, List.all_nil, List.all_cons, List.contains_cons, List.contains_nil, Nat.reduceBEq, Bool.or_false, Bool.false_or, List.append_nil, Bool.not_false, Bool.not_true, List.forall_mem_cons, fm0, List.set, Nat.reduceLT, Nat.reduceMod, ne_eq, not_false_eq_true, not_true_eq_false, GQ, Yn, Yo, Yp, Ki, Jn, Kj, Yq, Kk, Kl, GR, GS, GT, Yr, Ys, Yt, Jo, Jp, decide_true, AV.bool.injEq, AV.int.injEq, Nat.reduceLeDiff, decide_eq_true_eq, decide_eq_false_iff_not, Int.toNat_natCast, List.length_map, decide_false, KH, noref, flatOk, Qb, wkM, Km, Kw, Kx, Ju, QM, Kv, Jv, Kt, Ku, Qn, QN, Classical.not_not, Y0, KI, Qhe, Qhf, Qr, Qt, Qa, Yw, Ql, List.take_length, List.length_cons, List.length_nil, Nat.zero_add, Ko, Yx, Yy, YG, Zone.row, Qj, QK, Pt.row, Qs, Jw, Aw.row, Qv, Jx, Blk.row, Qg, Qp, Sec.row, Qh, Qu, Rw.row, Qw, Jy, Qi]
      exact fun hq => (hbv.1 rfl) (A hq).2.2.1.2.2
    have o2 := Classical.not_not.1 fun h => Bool.noConfusion (hbv.2 h)
    simp (config := { maxSteps := 2000000 }) only [JK, Gr, KO, KP, JL, QW, JM, JN, KQ, Gs, KR, KS, KT, KU, KV, KW, KX, KY, KZ, K1, K2, QX, QY, QZ, JO, JP, JQ, Q0, Q1, Q2, Q3, Q4, Q5, JR, JS, JT, JU, Jq, Jr, Kp, Yv, GU, JV, Qz, Qk, KN, QT, QU, JH, QV, JI, JJ, QS, Qy, JE, JF, KK, JG, KL, KM, Q8, Q9, Qc, Qd, QE, QF, Ja, Jb, QQ, QR, Qe, Qf, GD, GE, JZ, J0, K3, JW, JX, JY, Kb, Kc, Kd, QA, QB, QD, Gt, Gu, Gv, Gw, Q6, Q7, Gy, Gx, Gz, QG, J1, K4, J2, K5, K6, K7, K8, J3, Jc, K9, Jd, Je, Jf, Jg, Jh, QH, QI, Ji, J4, Jj, J5, J6, J7, GA, GB, Ya, Jk, Yb, QJ, KJ, J8, KF, GC, Jl, YF, YE, YD, Gk, List.length_take, Int.toNat_zero, List.drop_zero, YC, Ks, QL, Jt, GX, Yu, Kr, Kq, Js, Yc, J9, Yd, Ye, GF, Yf, Yg, GG, Yh, Ka, Yi, GH, Yj, Yk, GI, GJ, GK, Yl, eff, JB, QO, Ke, Ym, Kf, Kg, Kh, GL, GM, JD, JC, Jm, GN, GO, GP, Y7, pur, List.map, List.drop, List.take, List.length, List.foldl, List.append_eq, List.nil_append, List.cons_append, List.getD_cons_zero, List.getD_cons_succ, reduceIte, Nat.reduceEqDiff, Nat.reduceAdd, Nat.reduceLeDiff, true_and, and_true, Bool.not_true, Bool.not_false, Bool.and_true, Bool.true_and, Bool.and_self, reduceCtorEq, true_implies, false_implies, implies_true, decide_eq_true_eq, Option.map_some, Gm, fpX, SOp.xs, oX, refs, KE, dom, Gl, List.all_nil, List.all_cons, List.contains_cons, List.contains_nil, Nat.reduceBEq, Bool.or_false, Bool.false_or, List.append_nil, Bool.not_false, Bool.not_true, List.forall_mem_cons, fm0, List.set, Nat.reduceLT, Nat.reduceMod, ne_eq, not_false_eq_true, not_true_eq_false, GQ, Yn, Yo, Yp, Ki, Jn, Kj, Yq, Kk, Kl, GR, GS, GT, Yr, Ys, Yt, Jo, Jp, decide_true, AV.bool.injEq, AV.int.injEq, Nat.reduceLeDiff, decide_eq_true_eq, decide_eq_false_iff_not, Int.toNat_natCast, List.length_map, decide_false, KH, noref, flatOk, Qb, wkM, Km, Kw, Kx, Ju, QM, Kv, Jv, Kt, Ku, Qn, QN, Classical.not_not, Y0, KI, Qhe, Qhf, Qr, Qt, Qa, Yw, Ql, List.take_length, List.length_cons, List.length_nil, Nat.zero_add, Ko, Yx, Yy, YG, Zone.row, Qj, QK, Pt.row, Qs, Jw, Aw.row, Qv, Jx, Blk.row, Qg, Qp, Sec.row, Qh, Qu, Rw.row, Qw, Jy, Qi]
    refine Yz (fun k : Nat => [(5, .int .i64 k)]) (fun _ => []) (fun k => k ≤ i ∧ ∀ j, j < k → ¬ ((s.rws.getD j default).x = (s.rws.getD i default).x ∧ (s.rws.getD j default).y = (s.rws.getD i default).y)) (fun k => i - k) (0) (by simp only [YC, YD, YE, YF, Qc, Qd, Qe, Qf, reduceIte, Nat.reduceEqDiff]; exact ⟨by repeat' (first | exact trivial | refine ⟨.inr rfl, ?_⟩), by repeat' (first | exact trivial | refine ⟨rfl, ?_⟩), by first | rfl | simp [closedB, Qx, Qo, Qb, dom, Qm, *], by first | rfl | simp [keepB, dom]⟩) ?_ ?_
    · exact ⟨Nat.zero_le _, by intro j hj; omega⟩
    intro k hk NX2 hN2
    unfold UB; simp (config := { maxSteps := 2000000 }) only [JK, Gr, KO, KP, JL, QW, JM, JN, KQ, Gs, KR, KS, KT, KU, KV, KW, KX, KY, KZ, K1, K2, QX, QY, QZ, JO, JP, JQ, Q0, Q1, Q2, Q3, Q4, Q5, JR, JS, JT, JU, Jq, Jr, Kp, Yv, GU, JV, Qz, Qk, KN, QT, QU, JH, QV, JI, JJ, QS, Qy, JE, JF, KK, JG, KL, KM, Q8, Q9, Qc, Qd, QE, QF, Ja, Jb, QQ, QR, Qe, Qf, GD, GE, JZ, J0, K3, JW, JX, JY, Kb, Kc, Kd, QA, QB, QD, Gt, Gu, Gv, Gw, Q6, Q7, Gy, Gx, Gz, QG, J1, K4, J2, K5, K6, K7, K8, J3, Jc, K9, Jd, Je, Jf, Jg, Jh, QH, QI, Ji, J4, Jj, J5, J6, J7, GA, GB, Ya, Jk, Yb, QJ, KJ, J8, KF, GC, Jl, YF, YE, YD, Gk, List.length_take, Int.toNat_zero, List.drop_zero, YC, Ks, QL, Jt, GX, Yu, Kr, Kq, Js, Yc, J9, Yd, Ye, GF, Yf, Yg, GG, Yh, Ka, Yi, GH, Yj, Yk, GI, GJ, GK, Yl, eff, JB, QO, Ke, Ym, Kf, Kg, Kh, GL, GM, JD, JC, Jm, GN, GO, GP, Y7, pur, List.map, List.drop, List.take, List.length, List.foldl, List.append_eq, List.nil_append, List.cons_append, List.getD_cons_zero, List.getD_cons_succ, reduceIte, Nat.reduceEqDiff, Nat.reduceAdd, Nat.reduceLeDiff, true_and, and_true, Bool.not_true, Bool.not_false, Bool.and_true, Bool.true_and, Bool.and_self, reduceCtorEq, true_implies, false_implies, implies_true, decide_eq_true_eq, Option.map_some, Gm, fpX, SOp.xs, oX, refs, KE, dom, Gl, List.all_nil, List.all_cons, List.contains_cons, List.contains_nil, Nat.reduceBEq, Bool.or_false, Bool.false_or, List.append_nil, Bool.not_false, Bool.not_true, List.forall_mem_cons, fm0, List.set, Nat.reduceLT, Nat.reduceMod, ne_eq, not_false_eq_true, not_true_eq_false, GQ, Yn, Yo, Yp, Ki, Jn, Kj, Yq, Kk, Kl, GR, GS, GT, Yr, Ys, Yt, Jo, Jp, decide_true, AV.bool.injEq, AV.int.injEq, Nat.reduceLeDiff, decide_eq_true_eq, decide_eq_false_iff_not, Int.toNat_natCast, List.length_map, decide_false, KH, noref, flatOk, Qb, wkM, Km, Kw, Kx, Ju, QM, Kv, Jv, Kt, Ku, Qn, QN, Classical.not_not, Y0, KI, Qhe, Qhf, Qr, Qt, Qa, Yw, Ql, List.take_length, List.length_cons, List.length_nil, Nat.zero_add, Ko, Yx, Yy, YG, Zone.row, Qj, QK, Pt.row, Qs, Jw, Aw.row, Qv, Jx, Blk.row, Qg, Qp, Sec.row, Qh, Qu, Rw.row, Qw, Jy, Qi]
    refine ⟨fun g2 => ?_, fun g2 => ?_⟩
    · refine QaT s i k (by omega) (by omega) hl fun bv hbv => ?_
      cases bv
      case true =>
        simp (config := { maxSteps := 2000000 }) only [JK, Gr, KO, KP, JL, QW, JM, JN, KQ, Gs, KR, KS, KT, KU, KV, KW, KX, KY, KZ, K1, K2, QX, QY, QZ, JO, JP, JQ, Q0, Q1, Q2, Q3, Q4, Q5, JR, JS, JT, JU, Jq, Jr, Kp, Yv, GU, JV, Qz, Qk, KN, QT, QU, JH, QV, JI, JJ, QS, Qy, JE, JF, KK, JG, KL, KM, Q8, Q9, Qc, Qd, QE, QF, Ja, Jb, QQ, QR, Qe, Qf, GD, GE, JZ, J0, K3, JW, JX, JY, Kb, Kc, Kd, QA, QB, QD, Gt, Gu, Gv, Gw, Q6, Q7, Gy, Gx, Gz, QG, J1, K4, J2, K5, K6, K7, K8, J3, Jc, K9, Jd, Je, Jf, Jg, Jh, QH, QI, Ji, J4, Jj, J5, J6, J7, GA, GB, Ya, Jk, Yb, QJ, KJ, J8, KF, GC, Jl, YF, YE, YD, Gk, List.length_take, Int.toNat_zero, List.drop_zero, YC, Ks, QL, Jt, GX, Yu, Kr, Kq, Js, Yc, J9, Yd, Ye, GF, Yf, Yg, GG, Yh, Ka, Yi, GH, Yj, Yk, GI, GJ, GK, Yl, eff, JB, QO, Ke, Ym, Kf, Kg, Kh, GL, GM, JD, JC, Jm, GN, GO, GP, Y7, pur, List.map, List.drop, List.take, List.length, List.foldl, List.append_eq, List.nil_append, List.cons_append, List.getD_cons_zero, List.getD_cons_succ, reduceIte, Nat.reduceEqDiff, Nat.reduceAdd, Nat.reduceLeDiff, true_and, and_true, Bool.not_true, Bool.not_false, Bool.and_true, Bool.true_and, Bool.and_self, reduceCtorEq, true_implies, false_implies, implies_true, decide_eq_true_eq, Option.map_some, Gm, fpX, SOp.xs, oX, refs, KE, dom, Gl, List.all_nil, List.all_cons, List.contains_cons, List.contains_nil, Nat.reduceBEq, Bool.or_false, Bool.false_or, List.append_nil, Bool.not_false, Bool.not_true, List.forall_mem_cons, fm0, List.set, Nat.reduceLT, Nat.reduceMod, ne_eq, not_false_eq_true, not_true_eq_false, GQ, Yn, Yo, Yp, Ki, Jn, Kj, Yq, Kk, Kl, GR, GS, GT, Yr, Ys, Yt, Jo, Jp, decide_true, AV.bool.injEq, AV.int.injEq, Nat.reduceLeDiff, decide_eq_true_eq, decide_eq_false_iff_not, Int.toNat_natCast, List.length_map, decide_false, KH, noref, flatOk, Qb, wkM, Km, Kw, Kx, Ju, QM, Kv, Jv, Kt, Ku, Qn, QN, Classical.not_not, Y0, KI, Qhe, Qhf, Qr, Qt, Qa, Yw, Ql, List.take_length, List.length_cons, List.length_nil, Nat.zero_add, Ko, Yx, Yy, YG, Zone.row, Qj, QK, Pt.row, Qs, Jw, Aw.row, Qv, Jx, Blk.row, Qg, Qp, Sec.row, Qh, Qu, Rw.row, Qw, Jy, Qi]
        exact fun hq => (A hq).2.2.2 k (by omega) (hbv.1 rfl)
      have o3 : ¬ _ := fun h => Bool.noConfusion (hbv.2 h)
      simp (config := { maxSteps := 2000000 }) only [JK, Gr, KO, KP, JL, QW, JM, JN, KQ, Gs, KR, KS, KT, KU, KV, KW, KX, KY, KZ, K1, K2, QX, QY, QZ, JO, JP, JQ, Q0, Q1, Q2, Q3, Q4, Q5, JR, JS, JT, JU, Jq, Jr, Kp, Yv, GU, JV, Qz, Qk, KN, QT, QU, JH, QV, JI, JJ, QS, Qy, JE, JF, KK, JG, KL, KM, Q8, Q9, Qc, Qd, QE, QF, Ja, Jb, QQ, QR, Qe, Qf, GD, GE, JZ, J0, K3, JW, JX, JY, Kb, Kc, Kd, QA, QB, QD, Gt, Gu, Gv, Gw, Q6, Q7, Gy, Gx, Gz, QG, J1, K4, J2, K5, K6, K7, K8, J3, Jc, K9, Jd, Je, Jf, Jg, Jh, QH, QI, Ji, J4, Jj, J5, J6, J7, GA, GB, Ya, Jk, Yb, QJ, KJ, J8, KF, GC, Jl, YF, YE, YD, Gk, List.length_take, Int.toNat_zero, List.drop_zero, YC, Ks, QL, Jt, GX, Yu, Kr, Kq, Js, Yc, J9, Yd, Ye, GF, Yf, Yg, GG, Yh, Ka, Yi, GH, Yj, Yk, GI, GJ, GK, Yl, eff, JB, QO, Ke, Ym, Kf, Kg, Kh, GL, GM, JD, JC, Jm, GN, GO, GP, Y7, pur, List.map, List.drop, List.take, List.length, List.foldl, List.append_eq, List.nil_append, List.cons_append, List.getD_cons_zero, List.getD_cons_succ, reduceIte, Nat.reduceEqDiff, Nat.reduceAdd, Nat.reduceLeDiff, true_and, and_true, Bool.not_true, Bool.not_false, Bool.and_true, Bool.true_and, Bool.and_self, reduceCtorEq, true_implies, false_implies, implies_true, decide_eq_true_eq, Option.map_some, Gm, fpX, SOp.xs, oX, refs, KE, dom, Gl, List.all_nil, List.all_cons, List.contains_cons, List.contains_nil, Nat.reduceBEq, Bool.or_false, Bool.false_or, List.append_nil, Bool.not_false, Bool.not_true, List.forall_mem_cons, fm0, List.set, Nat.reduceLT, Nat.reduceMod, ne_eq, not_false_eq_true, not_true_eq_false, GQ, Yn, Yo, Yp, Ki, Jn, Kj, Yq, Kk, Kl, GR, GS, GT, Yr, Ys, Yt, Jo, Jp, decide_true, AV.bool.injEq, AV.int.injEq, Nat.reduceLeDiff, decide_eq_true_eq, decide_eq_false_iff_not, Int.toNat_natCast, List.length_map, decide_false, KH, noref, flatOk, Qb, wkM, Km, Kw, Kx, Ju, QM, Kv, Jv, Kt, Ku, Qn, QN, Classical.not_not, Y0, KI, Qhe, Qhf, Qr, Qt, Qa, Yw, Ql, List.take_length, List.length_cons, List.length_nil, Nat.zero_add, Ko, Yx, Yy, YG, Zone.row, Qj, QK, Pt.row, Qs, Jw, Aw.row, Qv, Jx, Blk.row, Qg, Qp, Sec.row, Qh, Qu, Rw.row, Qw, Jy, Qi]
      refine ⟨by omega, ?_⟩
      refine hN2 (k + 1) _ (by simp only [YC, YD, YE, YF, Qc, Qd, Qe, Qf, reduceIte, Nat.reduceEqDiff]; exact ⟨by repeat' (first | exact trivial | refine ⟨.inr rfl, ?_⟩), by repeat' (first | exact trivial | refine ⟨rfl, ?_⟩), by first | rfl | simp [closedB, Qx, Qo, Qb, dom, Qm, *], by first | rfl | simp [keepB, dom]⟩) ?_ ?_
      · exact ⟨by omega, Gf hk.2 o3⟩
      · omega
    · refine ⟨by omega, ?_⟩
      refine hN (i + 1) _ (by simp only [YC, YD, YE, YF, Qc, Qd, Qe, Qf, reduceIte, Nat.reduceEqDiff]; exact ⟨by repeat' (first | exact trivial | refine ⟨.inr rfl, ?_⟩), by repeat' (first | exact trivial | refine ⟨rfl, ?_⟩), by first | rfl | simp [closedB, Qx, Qo, Qb, dom, Qm, *], by first | rfl | simp [keepB, dom]⟩) ?_ ?_
      · exact ⟨by omega, Gf hi.2 ⟨o1.1, o1.2.1, ⟨o1.2.2.2, o1.2.2.1, o2⟩, fun k hk2 => hk.2 k (by omega)⟩⟩
      · omega
  · exact ⟨by omega, fun j hj => hi.2 j (by omega)⟩
def UO : List AV → Option (Prop × AV)
  | [.agg [.int .i64 s_w, .int .i64 s_h, .int .i64 s_lv, .sl 0 3 s_pts, .sl 0 2 s_aws, .sl 0 2 s_secs, .sl 0 4 s_rws]] => some ((((s_pts.map Y1).map Pt.row = s_pts) ∧ ((s_aws.map Y4).map (Aw.row 0) = s_aws) ∧ ((s_secs.map KC).map (Sec.row 0) = s_secs) ∧ ((s_rws.map Y2).map Rw.row = s_rws)) ∧ (Uj (Sky.mk s_w s_h s_lv (s_pts.map Y1) (s_aws.map Y4) (s_secs.map KC) (s_rws.map Y2)).w (Sky.mk s_w s_h s_lv (s_pts.map Y1) (s_aws.map Y4) (s_secs.map KC) (s_rws.map Y2)).h (Sky.mk s_w s_h s_lv (s_pts.map Y1) (s_aws.map Y4) (s_secs.map KC) (s_rws.map Y2)).lv ∧ (Sky.mk s_w s_h s_lv (s_pts.map Y1) (s_aws.map Y4) (s_secs.map KC) (s_rws.map Y2)).small), .bool (decide (QlP (Sky.mk s_w s_h s_lv (s_pts.map Y1) (s_aws.map Y4) (s_secs.map KC) (s_rws.map Y2)).w (Sky.mk s_w s_h s_lv (s_pts.map Y1) (s_aws.map Y4) (s_secs.map KC) (s_rws.map Y2)).h (Sky.mk s_w s_h s_lv (s_pts.map Y1) (s_aws.map Y4) (s_secs.map KC) (s_rws.map Y2)).rws)))
  | _ => none
theorem QgB : ∀ args p v, UO args = some (p, v) → p → Contract P 70 args [] v [] ∧ noref v = true ∧ No99 v := by
  intro args p v h1 h2
  unfold UO at h1
  split at h1
  · rename_i s_w s_h s_lv s_pts s_aws s_secs s_rws
    cases h1
    obtain ⟨⟨e0, e1, e2, e3⟩, HP⟩ := h2
    have := QgA (Sky.mk s_w s_h s_lv (s_pts.map Y1) (s_aws.map Y4) (s_secs.map KC) (s_rws.map Y2)) HP.1 HP.2
    exact ⟨by simpa only [e0, e1, e2, e3, Sky.row] using this, rfl, trivial⟩
  · cases h1
end
end Go.Ve

namespace Go.Ve
noncomputable section
open Go.Proofs
set_option linter.unusedSimpArgs false
set_option linter.unusedVariables false
set_option maxRecDepth 100000
theorem QgC {α : Type} [Inhabited α] {l : List α} {i : Nat} (h : i < l.length) : l.getD i default ∈ l := by simp [h]
theorem Vf {l : List Sec} {i : Nat} (hi : i < l.length) : Y9 (l.take (i + 1)) = Y9 (l.take i) ++ (l.getD i default).bl := by
  have e : l.getD i default = l[i] := by simp [hi]
  rw [e, List.take_succ_eq_append_getElem hi]; simp only [Y9, List.flatMap_append, List.flatMap_cons, List.flatMap_nil, List.append_nil]
theorem Qdm {l : List Sec} (h : ∀ j, j < l.length → (l.getD j default).bl.length ≤ 4) : ∀ i, i ≤ l.length → (Y9 (l.take i)).length ≤ 4 * i
  | 0, _ => by simp [Y9]
  | i + 1, hi => by
    rw [Vf (by omega), List.length_append]
    have := Qdm h i (by omega); have := h i (by omega); omega
theorem QlR {w h lv : Int} {l : List Sec} (hq : Qbu w h lv l) : (Y9 l).length ≤ 24 ∧ ∀ b ∈ Y9 l, b.ok w h lv := by
  constructor
  · have := Qdm (fun j hj => (hq.2 j hj).2.2.1.2) l.length (Nat.le_refl _)
    rw [List.take_length] at this; have := hq.1; omega
  · intro b hb
    simp only [Y9, List.mem_flatMap] at hb
    obtain ⟨x, hx, hb⟩ := hb
    obtain ⟨i, hi, rfl⟩ := List.mem_iff_getElem.1 hx
    obtain ⟨k, hk, rfl⟩ := List.mem_iff_getElem.1 hb
    have := ((hq.2 i hi).2.2.2 k (by simpa [hi] using hk)).1
    simpa [hi, hk] using this
theorem Qh7 {w h lv : Int} {b : Blk} (hd : Uj w h lv) (hb : b.ok w h lv) : (1 ≤ b.x1 - b.x0 + 1 ∧ b.x1 - b.x0 + 1 ≤ 16) ∧ (1 ≤ b.y1 - b.y0 + 1 ∧ b.y1 - b.y0 + 1 ≤ 16) ∧ (1 ≤ b.hi - b.lo + 1 ∧ b.hi - b.lo + 1 ≤ 6) ∧
    (1 ≤ (b.x1 - b.x0 + 1) * (b.y1 - b.y0 + 1) ∧ (b.x1 - b.x0 + 1) * (b.y1 - b.y0 + 1) ≤ 256) ∧ 1 ≤ b.vol ∧ b.vol ≤ 1536 := by
  unfold Uj at hd; unfold Blk.ok at hb; unfold Blk.vol
  have h1 : 1 ≤ b.x1 - b.x0 + 1 ∧ b.x1 - b.x0 + 1 ≤ 16 := by omega
  have h2 : 1 ≤ b.y1 - b.y0 + 1 ∧ b.y1 - b.y0 + 1 ≤ 16 := by omega
  have h3 : 1 ≤ b.hi - b.lo + 1 ∧ b.hi - b.lo + 1 ≤ 6 := by omega
  generalize b.x1 - b.x0 + 1 = x at *
  generalize b.y1 - b.y0 + 1 = y at *
  generalize b.hi - b.lo + 1 = z at *
  have h4 : 1 ≤ x * y ∧ x * y ≤ 256 := by
    have a : 0 ≤ (x - 1) * (y - 1) := Int.mul_nonneg (by omega) (by omega)
    have c : 0 ≤ (16 - x) * (y - 1) := Int.mul_nonneg (by omega) (by omega)
    rw [Int.sub_mul, Int.mul_sub, Int.mul_sub] at a c
    omega
  refine ⟨h1, h2, h3, h4, ?_⟩
  generalize x * y = q at *
  have a : 0 ≤ (q - 1) * (z - 1) := Int.mul_nonneg (by omega) (by omega)
  have c : 0 ≤ (256 - q) * (z - 1) := Int.mul_nonneg (by omega) (by omega)
  rw [Int.sub_mul, Int.mul_sub, Int.mul_sub] at a c
  omega
theorem QlS {l : List Blk} {i : Nat} (hi : i < l.length) : QjL (l.take (i + 1)) = QjL (l.take i) + (l.getD i default).vol := by
  have e : l.getD i default = l[i] := by simp [hi]
  rw [e, List.take_succ_eq_append_getElem hi]; simp only [QjL, List.map_append, List.map_cons, List.map_nil, List.sum_append, List.sum_cons, List.sum_nil, Int.add_zero]
theorem Qi4 {w h lv : Int} (hd : Uj w h lv) : ∀ {l : List Blk} (_ : ∀ b ∈ l, b.ok w h lv), 0 ≤ QjL l ∧ QjL l ≤ 1536 * l.length
  | [], _ => by simp [QjL]
  | b :: l, hb => by
    have ih := Qi4 hd (l := l) fun x hx => hb x (by simp [hx])
    have := (Qh7 hd (hb b (by simp))).2.2.2.2
    simp only [QjL, List.map_cons, List.sum_cons, List.length_cons] at *
    omega
theorem QjN {w h lv : Int} (hd : Uj w h lv) : (1 ≤ w * h ∧ w * h ≤ 256) ∧ 1 ≤ w * h * lv ∧ w * h * lv ≤ 1536 := by
  have hb : (Blk.mk 0 0 (w - 1) (h - 1) 1 lv).ok w h lv := by unfold Uj at hd; unfold Blk.ok; simp only; omega
  have := (Qh7 hd hb).2.2.2
  unfold Blk.vol at this
  simp only [show w - 1 - 0 + 1 = w by omega, show h - 1 - 0 + 1 = h by omega, show lv - 1 + 1 = lv by omega] at this
  exact this
theorem QkB (s : Sky) (hq : Qbu s.w s.h s.lv s.secs) : Contract P 85 [.agg (s.row 0)] [] (.sl 0 6 ((Y9 s.secs).map Blk.row)) [] := by
  have hl : s.secs.length ≤ 6 := hq.1
  have hb := Qdm fun j hj => (hq.2 j hj).2.2.1.2
  simp only [Sky.row]
  refine QP (Env.nil P) hm Qe1 (Nat.le_of_ble_eq_true rfl) rfl ?_; unfold QaI; simp (config := { maxSteps := 2000000 }) only [JK, Gr, KO, KP, JL, QW, JM, JN, KQ, Gs, KR, KS, KT, KU, KV, KW, KX, KY, KZ, K1, K2, QX, QY, QZ, JO, JP, JQ, Q0, Q1, Q2, Q3, Q4, Q5, JR, JS, JT, JU, Jq, Jr, Kp, Yv, GU, JV, Qz, Qk, KN, QT, QU, JH, QV, JI, JJ, QS, Qy, JE, JF, KK, JG, KL, KM, Q8, Q9, Qc, Qd, QE, QF, Ja, Jb, QQ, QR, Qe, Qf, GD, GE, JZ, J0, K3, JW, JX, JY, Kb, Kc, Kd, QA, QB, QD, Gt, Gu, Gv, Gw, Q6, Q7, Gy, Gx, Gz, QG, J1, K4, J2, K5, K6, K7, K8, J3, Jc, K9, Jd, Je, Jf, Jg, Jh, QH, QI, Ji, J4, Jj, J5, J6, J7, GA, GB, Ya, Jk, Yb, QJ, KJ, J8, KF, GC, Jl, YF, YE, YD, Gk, List.length_take, Int.toNat_zero, List.drop_zero, YC, Ks, QL, Jt, GX, Yu, Kr, Kq, Js, Yc, J9, Yd, Ye, GF, Yf, Yg, GG, Yh, Ka, Yi, GH, Yj, Yk, GI, GJ, GK, Yl, eff, JB, QO, Ke, Ym, Kf, Kg, Kh, GL, GM, JD, JC, Jm, GN, GO, GP, Y7, pur, List.map, List.drop, List.take, List.length, List.foldl, List.append_eq, List.nil_append, List.cons_append, List.getD_cons_zero, List.getD_cons_succ, reduceIte, Nat.reduceEqDiff, Nat.reduceAdd, Nat.reduceLeDiff, true_and, and_true, Bool.not_true, Bool.not_false, Bool.and_true, Bool.true_and, Bool.and_self, reduceCtorEq, true_implies, false_implies, implies_true, decide_eq_true_eq, Option.map_some, Gm, fpX, SOp.xs, oX, refs, KE, dom, Gl, List.all_nil, List.all_cons, List.contains_cons, List.contains_nil, Nat.reduceBEq, Bool.or_false, Bool.false_or, List.append_nil, Bool.not_false, Bool.not_true, List.forall_mem_cons, fm0, List.set, Nat.reduceLT, Nat.reduceMod, ne_eq, not_false_eq_true, not_true_eq_false, GQ, Yn, Yo, Yp, Ki, Jn, Kj, Yq, Kk, Kl, GR, GS, GT, Yr, Ys, Yt, Jo, Jp, decide_true, AV.bool.injEq, AV.int.injEq, Nat.reduceLeDiff, decide_eq_true_eq, decide_eq_false_iff_not, Int.toNat_natCast, List.length_map, decide_false, KH, noref, flatOk, Qb, wkM, Km, Kw, Kx, Ju, QM, Kv, Jv, Kt, Ku, Qn, QN, Classical.not_not, Qr, Qt, Qa, Yw, Ql, List.take_length, List.length_cons, List.length_nil, Nat.zero_add, Ko, Yx, Yy, YG, Zone.row, Qj, QK, Pt.row, Qs, Jw, Aw.row, Qv, Jx, Blk.row, Qg, Qp, Sec.row, Qh, Qu, Rw.row, Qw, Jy, Qi]
  refine Yz (fun i : Nat => [(3, .own 105 i 0 (Y9 (s.secs.take i)).length), (4, .int .i64 i)]) (fun i => [(105, .arr 99 i 6 ((Y9 (s.secs.take i)).map Blk.row))]) (fun i => i ≤ s.secs.length) (fun i => s.secs.length - i) (0) (by simp only [YC, YD, YE, YF, Qc, Qd, Qe, Qf, reduceIte, Nat.reduceEqDiff]; exact ⟨by repeat' (first | exact trivial | refine ⟨.inr rfl, ?_⟩), by repeat' (first | exact trivial | refine ⟨rfl, ?_⟩), by first | rfl | simp [closedB, Qx, Qo, Qb, dom, Qm, *], by first | rfl | simp [keepB, dom]⟩) ?_ ?_
  · exact Nat.zero_le _
  intro i hi NX hN
  unfold Wu; simp (config := { maxSteps := 2000000 }) only [JK, Gr, KO, KP, JL, QW, JM, JN, KQ, Gs, KR, KS, KT, KU, KV, KW, KX, KY, KZ, K1, K2, QX, QY, QZ, JO, JP, JQ, Q0, Q1, Q2, Q3, Q4, Q5, JR, JS, JT, JU, Jq, Jr, Kp, Yv, GU, JV, Qz, Qk, KN, QT, QU, JH, QV, JI, JJ, QS, Qy, JE, JF, KK, JG, KL, KM, Q8, Q9, Qc, Qd, QE, QF, Ja, Jb, QQ, QR, Qe, Qf, GD, GE, JZ, J0, K3, JW, JX, JY, Kb, Kc, Kd, QA, QB, QD, Gt, Gu, Gv, Gw, Q6, Q7, Gy, Gx, Gz, QG, J1, K4, J2, K5, K6, K7, K8, J3, Jc, K9, Jd, Je, Jf, Jg, Jh, QH, QI, Ji, J4, Jj, J5, J6, J7, GA, GB, Ya, Jk, Yb, QJ, KJ, J8, KF, GC, Jl, YF, YE, YD, Gk, List.length_take, Int.toNat_zero, List.drop_zero, YC, Ks, QL, Jt, GX, Yu, Kr, Kq, Js, Yc, J9, Yd, Ye, GF, Yf, Yg, GG, Yh, Ka, Yi, GH, Yj, Yk, GI, GJ, GK, Yl, eff, JB, QO, Ke, Ym, Kf, Kg, Kh, GL, GM, JD, JC, Jm, GN, GO, GP, Y7, pur, List.map, List.drop, List.take, List.length, List.foldl, List.append_eq, List.nil_append, List.cons_append, List.getD_cons_zero, List.getD_cons_succ, reduceIte, Nat.reduceEqDiff, Nat.reduceAdd, Nat.reduceLeDiff, true_and, and_true, Bool.not_true, Bool.not_false, Bool.and_true, Bool.true_and, Bool.and_self, reduceCtorEq, true_implies, false_implies, implies_true, decide_eq_true_eq, Option.map_some, Gm, fpX, SOp.xs, oX, refs, KE, dom, Gl, List.all_nil, List.all_cons, List.contains_cons, List.contains_nil, Nat.reduceBEq, Bool.or_false, Bool.false_or, List.append_nil, Bool.not_false, Bool.not_true, List.forall_mem_cons, fm0, List.set, Nat.reduceLT, Nat.reduceMod, ne_eq, not_false_eq_true, not_true_eq_false, GQ, Yn, Yo, Yp, Ki, Jn, Kj, Yq, Kk, Kl, GR, GS, GT, Yr, Ys, Yt, Jo, Jp, decide_true, AV.bool.injEq, AV.int.injEq, Nat.reduceLeDiff, decide_eq_true_eq, decide_eq_false_iff_not, Int.toNat_natCast, List.length_map, decide_false, KH, noref, flatOk, Qb, wkM, Km, Kw, Kx, Ju, QM, Kv, Jv, Kt, Ku, Qn, QN, Classical.not_not, Qr, Qt, Qa, Yw, Ql, List.take_length, List.length_cons, List.length_nil, Nat.zero_add, Ko, Yx, Yy, YG, Zone.row, Qj, QK, Pt.row, Qs, Jw, Aw.row, Qv, Jx, Blk.row, Qg, Qp, Sec.row, Qh, Qu, Rw.row, Qw, Jy, Qi]
  have hb1 := hb i hi
  refine ⟨fun g1 => ⟨by omega, by omega, ?_⟩, fun g1 => ?_⟩
  · have hb2 := (hq.2 i (by omega)).2.2.1.2
    refine ⟨by omega, by omega, ?_⟩
    have e := Vf (l := s.secs) (i := i) (by omega)
    refine hN (i + 1) _ (by simp only [e, List.length_append, List.length_cons, List.length_nil, Nat.zero_add, List.map_append, List.map_cons, List.map_nil, YC, YD, YE, YF, Qc, Qd, Qe, Qf, reduceIte, Nat.reduceEqDiff]; exact ⟨by repeat' (first | exact trivial | refine ⟨.inr rfl, ?_⟩), by repeat' (first | exact trivial | refine ⟨rfl, ?_⟩), by first | rfl | simp [closedB, Qx, Qo, Qb, dom, Qm, *], by first | rfl | simp [keepB, dom]⟩) ?_ ?_
    · omega
    · omega
  · have e : i = s.secs.length := by omega
    subst e
    simp [List.take_length]
def UV : List AV → Option (Prop × AV)
  | [.agg [.int .i64 s_w, .int .i64 s_h, .int .i64 s_lv, .sl 0 3 s_pts, .sl 0 2 s_aws, .sl 0 2 s_secs, .sl 0 4 s_rws]] => some ((((s_pts.map Y1).map Pt.row = s_pts) ∧ ((s_aws.map Y4).map (Aw.row 0) = s_aws) ∧ ((s_secs.map KC).map (Sec.row 0) = s_secs) ∧ ((s_rws.map Y2).map Rw.row = s_rws)) ∧ (Qbu (Sky.mk s_w s_h s_lv (s_pts.map Y1) (s_aws.map Y4) (s_secs.map KC) (s_rws.map Y2)).w (Sky.mk s_w s_h s_lv (s_pts.map Y1) (s_aws.map Y4) (s_secs.map KC) (s_rws.map Y2)).h (Sky.mk s_w s_h s_lv (s_pts.map Y1) (s_aws.map Y4) (s_secs.map KC) (s_rws.map Y2)).lv (Sky.mk s_w s_h s_lv (s_pts.map Y1) (s_aws.map Y4) (s_secs.map KC) (s_rws.map Y2)).secs), .sl 0 6 ((Y9 (Sky.mk s_w s_h s_lv (s_pts.map Y1) (s_aws.map Y4) (s_secs.map KC) (s_rws.map Y2)).secs).map Blk.row))
  | _ => none
theorem QkC : ∀ args p v, UV args = some (p, v) → p → Contract P 85 args [] v [] ∧ noref v = true ∧ No99 v := by
  intro args p v h1 h2
  unfold UV at h1
  split at h1
  · rename_i s_w s_h s_lv s_pts s_aws s_secs s_rws
    cases h1
    obtain ⟨⟨e0, e1, e2, e3⟩, HP⟩ := h2
    have := QkB (Sky.mk s_w s_h s_lv (s_pts.map Y1) (s_aws.map Y4) (s_secs.map KC) (s_rws.map Y2)) HP
    exact ⟨by simpa only [e0, e1, e2, e3, Sky.row] using this, rfl, by simp only [No99]; exact ⟨by omega, Xr _⟩⟩
  · cases h1
theorem QkD (s : Sky) (hd : Uj s.w s.h s.lv) (hq : Qbu s.w s.h s.lv s.secs) : Contract P 69 [.agg (s.row 0)] [] (.bool (decide (QjM s.w s.h s.lv s.secs))) [] := by
  have hb := QlR hq
  have hmul := QjN hd
  simp only [Sky.row]
  refine QP (((Env.nil P).add 85 UV QkC).add 86 UU QkA) hm QeY (Nat.le_of_ble_eq_true rfl) rfl ?_; unfold QaG; simp (config := { maxSteps := 2000000 }) only [JK, Gr, KO, KP, JL, QW, JM, JN, KQ, Gs, KR, KS, KT, KU, KV, KW, KX, KY, KZ, K1, K2, QX, QY, QZ, JO, JP, JQ, Q0, Q1, Q2, Q3, Q4, Q5, JR, JS, JT, JU, Jq, Jr, Kp, Yv, GU, JV, Qz, Qk, KN, QT, QU, JH, QV, JI, JJ, QS, Qy, JE, JF, KK, JG, KL, KM, Q8, Q9, Qc, Qd, QE, QF, Ja, Jb, QQ, QR, Qe, Qf, GD, GE, JZ, J0, K3, JW, JX, JY, Kb, Kc, Kd, QA, QB, QD, Gt, Gu, Gv, Gw, Q6, Q7, Gy, Gx, Gz, QG, J1, K4, J2, K5, K6, K7, K8, J3, Jc, K9, Jd, Je, Jf, Jg, Jh, QH, QI, Ji, J4, Jj, J5, J6, J7, GA, GB, Ya, Jk, Yb, QJ, KJ, J8, KF, GC, Jl, YF, YE, YD, Gk, List.length_take, Int.toNat_zero, List.drop_zero, YC, Ks, QL, Jt, GX, Yu, Kr, Kq, Js, Yc, J9, Yd, Ye, GF, Yf, Yg, GG, Yh, Ka, Yi, GH, Yj, Yk, GI, GJ, GK, Yl, eff, JB, QO, Ke, Ym, Kf, Kg, Kh, GL, GM, JD, JC, Jm, GN, GO, GP, Y7, pur, List.map, List.drop, List.take, List.length, List.foldl, List.append_eq, List.nil_append, List.cons_append, List.getD_cons_zero, List.getD_cons_succ, reduceIte, Nat.reduceEqDiff, Nat.reduceAdd, Nat.reduceLeDiff, true_and, and_true, Bool.not_true, Bool.not_false, Bool.and_true, Bool.true_and, Bool.and_self, reduceCtorEq, true_implies, false_implies, implies_true, decide_eq_true_eq, Option.map_some, Gm, fpX, SOp.xs, oX, refs, KE, dom, Gl, List.all_nil, List.all_cons, List.contains_cons, List.contains_nil, Nat.reduceBEq, Bool.or_false, Bool.false_or, List.append_nil, Bool.not_false, Bool.not_true, List.forall_mem_cons, fm0, List.set, Nat.reduceLT, Nat.reduceMod, ne_eq, not_false_eq_true, not_true_eq_false, GQ, Yn, Yo, Yp, Ki, Jn, Kj, Yq, Kk, Kl, GR, GS, GT, Yr, Ys, Yt, Jo, Jp, decide_true, AV.bool.injEq, AV.int.injEq, Nat.reduceLeDiff, decide_eq_true_eq, decide_eq_false_iff_not, Int.toNat_natCast, List.length_map, decide_false, KH, noref, flatOk, Qb, wkM, Km, Kw, Kx, Ju, QM, Kv, Jv, Kt, Ku, Qn, QN, Classical.not_not, UV, UU, Qr, Qt, Qa, Yw, Ql, List.take_length, List.length_cons, List.length_nil, Nat.zero_add, Ko, Yx, Yy, YG, Zone.row, Qj, QK, Pt.row, Qs, Jw, Aw.row, Qv, Jx, Blk.row, Qg, Qp, Sec.row, Qh, Qu, Rw.row, Qw, Jy, Qi]
  refine ⟨hq, ?_⟩
  refine Yz (fun i : Nat => [(4, .int .i64 (QjL ((Y9 s.secs).take i))), (5, .int .i64 i)]) (fun _ => []) (fun i => i ≤ (Y9 s.secs).length ∧ ∀ j, j < i → Qgu (Y9 s.secs) j) (fun i => (Y9 s.secs).length - i) (0) (by simp only [YC, YD, YE, YF, Qc, Qd, Qe, Qf, reduceIte, Nat.reduceEqDiff]; exact ⟨by repeat' (first | exact trivial | refine ⟨.inr rfl, ?_⟩), by repeat' (first | exact trivial | refine ⟨rfl, ?_⟩), by first | rfl | simp [closedB, Qx, Qo, Qb, dom, Qm, *], by first | rfl | simp [keepB, dom]⟩) ?_ ?_
  · exact ⟨Nat.zero_le _, by intro j hj; omega⟩
  intro i hi NX hN
  have hv := Qi4 hd (l := (Y9 s.secs).take i) fun b h => hb.2 b (List.mem_of_mem_take h)
  have hv2 : ((Y9 s.secs).take i).length ≤ 24 := by rw [List.length_take]; omega
  unfold Ws; simp (config := { maxSteps := 2000000 }) only [JK, Gr, KO, KP, JL, QW, JM, JN, KQ, Gs, KR, KS, KT, KU, KV, KW, KX, KY, KZ, K1, K2, QX, QY, QZ, JO, JP, JQ, Q0, Q1, Q2, Q3, Q4, Q5, JR, JS, JT, JU, Jq, Jr, Kp, Yv, GU, JV, Qz, Qk, KN, QT, QU, JH, QV, JI, JJ, QS, Qy, JE, JF, KK, JG, KL, KM, Q8, Q9, Qc, Qd, QE, QF, Ja, Jb, QQ, QR, Qe, Qf, GD, GE, JZ, J0, K3, JW, JX, JY, Kb, Kc, Kd, QA, QB, QD, Gt, Gu, Gv, Gw, Q6, Q7, Gy, Gx, Gz, QG, J1, K4, J2, K5, K6, K7, K8, J3, Jc, K9, Jd, Je, Jf, Jg, Jh, QH, QI, Ji, J4, Jj, J5, J6, J7, GA, GB, Ya, Jk, Yb, QJ, KJ, J8, KF, GC, Jl, YF, YE, YD, Gk, List.length_take, Int.toNat_zero, List.drop_zero, YC, Ks, QL, Jt, GX, Yu, Kr, Kq, Js, Yc, J9, Yd, Ye, GF, Yf, Yg, GG, Yh, Ka, Yi, GH, Yj, Yk, GI, GJ, GK, Yl, eff, JB, QO, Ke, Ym, Kf, Kg, Kh, GL, GM, JD, JC, Jm, GN, GO, GP, Y7, pur, List.map, List.drop, List.take, List.length, List.foldl, List.append_eq, List.nil_append, List.cons_append, List.getD_cons_zero, List.getD_cons_succ, reduceIte, Nat.reduceEqDiff, Nat.reduceAdd, Nat.reduceLeDiff, true_and, and_true, Bool.not_true, Bool.not_false, Bool.and_true, Bool.true_and, Bool.and_self, reduceCtorEq, true_implies, false_implies, implies_true, decide_eq_true_eq, Option.map_some, Gm, fpX, SOp.xs, oX, refs, KE, dom, Gl, List.all_nil, List.all_cons, List.contains_cons, List.contains_nil, Nat.reduceBEq, Bool.or_false, Bool.false_or, List.append_nil, Bool.not_false, Bool.not_true, List.forall_mem_cons, fm0, List.set, Nat.reduceLT, Nat.reduceMod, ne_eq, not_false_eq_true, not_true_eq_false, GQ, Yn, Yo, Yp, Ki, Jn, Kj, Yq, Kk, Kl, GR, GS, GT, Yr, Ys, Yt, Jo, Jp, decide_true, AV.bool.injEq, AV.int.injEq, Nat.reduceLeDiff, decide_eq_true_eq, decide_eq_false_iff_not, Int.toNat_natCast, List.length_map, decide_false, KH, noref, flatOk, Qb, wkM, Km, Kw, Kx, Ju, QM, Kv, Jv, Kt, Ku, Qn, QN, Classical.not_not, UV, UU, Qr, Qt, Qa, Yw, Ql, List.take_length, List.length_cons, List.length_nil, Nat.zero_add, Ko, Yx, Yy, YG, Zone.row, Qj, QK, Pt.row, Qs, Jw, Aw.row, Qv, Jx, Blk.row, Qg, Qp, Sec.row, Qh, Qu, Rw.row, Qw, Jy, Qi]
  refine ⟨fun g1 => ⟨by omega, by omega, ?_⟩, fun g1 => ?_⟩
  · have ho := Qh7 hd (hb.2 ((Y9 s.secs).getD i default) (QgC (by omega)))
    have e := QlS (l := (Y9 s.secs)) (i := i) (by omega)
    unfold Blk.vol at ho e
    refine ⟨by omega, by omega, by omega, by omega, by omega, by omega, by omega, by omega, by omega, ?_⟩
    refine Yz (fun k : Nat => [(7, .int .i64 k)]) (fun _ => []) (fun k => k ≤ i ∧ ∀ j, j < k → ¬ ((Y9 s.secs).getD j default).meet ((Y9 s.secs).getD i default)) (fun k => i - k) (0) (by simp only [YC, YD, YE, YF, Qc, Qd, Qe, Qf, reduceIte, Nat.reduceEqDiff]; exact ⟨by repeat' (first | exact trivial | refine ⟨.inr rfl, ?_⟩), by repeat' (first | exact trivial | refine ⟨rfl, ?_⟩), by first | rfl | simp [closedB, Qx, Qo, Qb, dom, Qm, *], by first | rfl | simp [keepB, dom]⟩) ?_ ?_
    · exact ⟨Nat.zero_le _, by intro j hj; omega⟩
    intro k hk NX2 hN2
    unfold Wr; simp (config := { maxSteps := 2000000 }) only [JK, Gr, KO, KP, JL, QW, JM, JN, KQ, Gs, KR, KS, KT, KU, KV, KW, KX, KY, KZ, K1, K2, QX, QY, QZ, JO, JP, JQ, Q0, Q1, Q2, Q3, Q4, Q5, JR, JS, JT, JU, Jq, Jr, Kp, Yv, GU, JV, Qz, Qk, KN, QT, QU, JH, QV, JI, JJ, QS, Qy, JE, JF, KK, JG, KL, KM, Q8, Q9, Qc, Qd, QE, QF, Ja, Jb, QQ, QR, Qe, Qf, GD, GE, JZ, J0, K3, JW, JX, JY, Kb, Kc, Kd, QA, QB, QD, Gt, Gu, Gv, Gw, Q6, Q7, Gy, Gx, Gz, QG, J1, K4, J2, K5, K6, K7, K8, J3, Jc, K9, Jd, Je, Jf, Jg, Jh, QH, QI, Ji, J4, Jj, J5, J6, J7, GA, GB, Ya, Jk, Yb, QJ, KJ, J8, KF, GC, Jl, YF, YE, YD, Gk, List.length_take, Int.toNat_zero, List.drop_zero, YC, Ks, QL, Jt, GX, Yu, Kr, Kq, Js, Yc, J9, Yd, Ye, GF, Yf, Yg, GG, Yh, Ka, Yi, GH, Yj, Yk, GI, GJ, GK, Yl, eff, JB, QO, Ke, Ym, Kf, Kg, Kh, GL, GM, JD, JC, Jm, GN, GO, GP, Y7, pur, List.map, List.drop, List.take, List.length, List.foldl, List.append_eq, List.nil_append, List.cons_append, List.getD_cons_zero, List.getD_cons_succ, reduceIte, Nat.reduceEqDiff, Nat.reduceAdd, Nat.reduceLeDiff, true_and, and_true, Bool.not_true, Bool.not_false, Bool.and_true, Bool.true_and, Bool.and_self, reduceCtorEq, true_implies, false_implies, implies_true, decide_eq_true_eq, Option.map_some, Gm, fpX, SOp.xs, oX, refs, KE, dom, Gl, List.all_nil, List.all_cons, List.contains_cons, List.contains_nil, Nat.reduceBEq, Bool.or_false, Bool.false_or, List.append_nil, Bool.not_false, Bool.not_true, List.forall_mem_cons, fm0, List.set, Nat.reduceLT, Nat.reduceMod, ne_eq, not_false_eq_true, not_true_eq_false, GQ, Yn, Yo, Yp, Ki, Jn, Kj, Yq, Kk, Kl, GR, GS, GT, Yr, Ys, Yt, Jo, Jp, decide_true, AV.bool.injEq, AV.int.injEq, Nat.reduceLeDiff, decide_eq_true_eq, decide_eq_false_iff_not, Int.toNat_natCast, List.length_map, decide_false, KH, noref, flatOk, Qb, wkM, Km, Kw, Kx, Ju, QM, Kv, Jv, Kt, Ku, Qn, QN, Classical.not_not, UV, UU, Qr, Qt, Qa, Yw, Ql, List.take_length, List.length_cons, List.length_nil, Nat.zero_add, Ko, Yx, Yy, YG, Zone.row, Qj, QK, Pt.row, Qs, Jw, Aw.row, Qv, Jx, Blk.row, Qg, Qp, Sec.row, Qh, Qu, Rw.row, Qw, Jy, Qi]
    refine ⟨fun g2 => ⟨by omega, by omega, fun g3 => ?_, fun g3 => ⟨by omega, ?_⟩⟩, fun g2 => ⟨by omega, ?_⟩⟩
    · exact fun h => h.1 i (by omega) k (by omega) g3
    · refine hN2 (k + 1) _ (by simp only [YC, YD, YE, YF, Qc, Qd, Qe, Qf, reduceIte, Nat.reduceEqDiff]; exact ⟨by repeat' (first | exact trivial | refine ⟨.inr rfl, ?_⟩), by repeat' (first | exact trivial | refine ⟨rfl, ?_⟩), by first | rfl | simp [closedB, Qx, Qo, Qb, dom, Qm, *], by first | rfl | simp [keepB, dom]⟩) ?_ ?_
      · exact ⟨by omega, Gf hk.2 g3⟩
      · omega
    · refine hN (i + 1) _ (by simp only [e, List.length_append, List.length_cons, List.length_nil, Nat.zero_add, List.map_append, List.map_cons, List.map_nil, YC, YD, YE, YF, Qc, Qd, Qe, Qf, reduceIte, Nat.reduceEqDiff]; exact ⟨by repeat' (first | exact trivial | refine ⟨.inr rfl, ?_⟩), by repeat' (first | exact trivial | refine ⟨rfl, ?_⟩), by first | rfl | simp [closedB, Qx, Qo, Qb, dom, Qm, *], by first | rfl | simp [keepB, dom]⟩) ?_ ?_
      · exact ⟨by omega, Gf hi.2 fun k hk2 => hk.2 k (by omega)⟩
      · omega
  · have e : i = (Y9 s.secs).length := by omega
    rw [e, List.take_length] at *
    refine ⟨by omega, by omega, ?_⟩
    rw [decide_eq_decide]
    exact ⟨fun h => ⟨fun j hj => hi.2 j (by omega), h⟩, fun h => h.2⟩
def Qa6 : List AV → Option (Prop × AV)
  | [.agg [.int .i64 s_w, .int .i64 s_h, .int .i64 s_lv, .sl 0 3 s_pts, .sl 0 2 s_aws, .sl 0 2 s_secs, .sl 0 4 s_rws]] => some ((((s_pts.map Y1).map Pt.row = s_pts) ∧ ((s_aws.map Y4).map (Aw.row 0) = s_aws) ∧ ((s_secs.map KC).map (Sec.row 0) = s_secs) ∧ ((s_rws.map Y2).map Rw.row = s_rws)) ∧ (Uj (Sky.mk s_w s_h s_lv (s_pts.map Y1) (s_aws.map Y4) (s_secs.map KC) (s_rws.map Y2)).w (Sky.mk s_w s_h s_lv (s_pts.map Y1) (s_aws.map Y4) (s_secs.map KC) (s_rws.map Y2)).h (Sky.mk s_w s_h s_lv (s_pts.map Y1) (s_aws.map Y4) (s_secs.map KC) (s_rws.map Y2)).lv ∧ Qbu (Sky.mk s_w s_h s_lv (s_pts.map Y1) (s_aws.map Y4) (s_secs.map KC) (s_rws.map Y2)).w (Sky.mk s_w s_h s_lv (s_pts.map Y1) (s_aws.map Y4) (s_secs.map KC) (s_rws.map Y2)).h (Sky.mk s_w s_h s_lv (s_pts.map Y1) (s_aws.map Y4) (s_secs.map KC) (s_rws.map Y2)).lv (Sky.mk s_w s_h s_lv (s_pts.map Y1) (s_aws.map Y4) (s_secs.map KC) (s_rws.map Y2)).secs), .bool (decide (QjM (Sky.mk s_w s_h s_lv (s_pts.map Y1) (s_aws.map Y4) (s_secs.map KC) (s_rws.map Y2)).w (Sky.mk s_w s_h s_lv (s_pts.map Y1) (s_aws.map Y4) (s_secs.map KC) (s_rws.map Y2)).h (Sky.mk s_w s_h s_lv (s_pts.map Y1) (s_aws.map Y4) (s_secs.map KC) (s_rws.map Y2)).lv (Sky.mk s_w s_h s_lv (s_pts.map Y1) (s_aws.map Y4) (s_secs.map KC) (s_rws.map Y2)).secs)))
  | _ => none
theorem QkE : ∀ args p v, Qa6 args = some (p, v) → p → Contract P 69 args [] v [] ∧ noref v = true ∧ No99 v := by
  intro args p v h1 h2
  unfold Qa6 at h1
  split at h1
  · rename_i s_w s_h s_lv s_pts s_aws s_secs s_rws
    cases h1
    obtain ⟨⟨e0, e1, e2, e3⟩, HP⟩ := h2
    have := QkD (Sky.mk s_w s_h s_lv (s_pts.map Y1) (s_aws.map Y4) (s_secs.map KC) (s_rws.map Y2)) HP.1 HP.2
    exact ⟨by simpa only [e0, e1, e2, e3, Sky.row] using this, rfl, trivial⟩
  · cases h1
theorem Qi5 (s : Sky) (hs : s.small) : Contract P 32 [.agg (s.row 0)] [] (.bool (decide s.valid)) [] := by
  simp only [Sky.row]
  refine QP (((((((Env.nil P).add 65 Y0 Vd).add 66 VQ Qh6).add 67 UM Qgw).add 68 UN Qgz).add 69 Qa6 QkE).add 70 UO QgB) hm QeT (Nat.le_of_ble_eq_true rfl) rfl ?_; unfold Qay; simp (config := { maxSteps := 2000000 }) only [JK, Gr, KO, KP, JL, QW, JM, JN, KQ, Gs, KR, KS, KT, KU, KV, KW, KX, KY, KZ, K1, K2, QX, QY, QZ, JO, JP, JQ, Q0, Q1, Q2, Q3, Q4, Q5, JR, JS, JT, JU, Jq, Jr, Kp, Yv, GU, JV, Qz, Qk, KN, QT, QU, JH, QV, JI, JJ, QS, Qy, JE, JF, KK, JG, KL, KM, Q8, Q9, Qc, Qd, QE, QF, Ja, Jb, QQ, QR, Qe, Qf, GD, GE, JZ, J0, K3, JW, JX, JY, Kb, Kc, Kd, QA, QB, QD, Gt, Gu, Gv, Gw, Q6, Q7, Gy, Gx, Gz, QG, J1, K4, J2, K5, K6, K7, K8, J3, Jc, K9, Jd, Je, Jf, Jg, Jh, QH, QI, Ji, J4, Jj, J5, J6, J7, GA, GB, Ya, Jk, Yb, QJ, KJ, J8, KF, GC, Jl, YF, YE, YD, Gk, List.length_take, Int.toNat_zero, List.drop_zero, YC, Ks, QL, Jt, GX, Yu, Kr, Kq, Js, Yc, J9, Yd, Ye, GF, Yf, Yg, GG, Yh, Ka, Yi, GH, Yj, Yk, GI, GJ, GK, Yl, eff, JB, QO, Ke, Ym, Kf, Kg, Kh, GL, GM, JD, JC, Jm, GN, GO, GP, Y7, pur, List.map, List.drop, List.take, List.length, List.foldl, List.append_eq, List.nil_append, List.cons_append, List.getD_cons_zero, List.getD_cons_succ, reduceIte, Nat.reduceEqDiff, Nat.reduceAdd, Nat.reduceLeDiff, true_and, and_true, Bool.not_true, Bool.not_false, Bool.and_true, Bool.true_and, Bool.and_self, reduceCtorEq, true_implies, false_implies, implies_true, decide_eq_true_eq, Option.map_some, Gm, fpX, SOp.xs, oX, refs, KE, dom, Gl, List.all_nil, List.all_cons, List.contains_cons, List.contains_nil, Nat.reduceBEq, Bool.or_false, Bool.false_or, List.append_nil, Bool.not_false, Bool.not_true, List.forall_mem_cons, fm0, List.set, Nat.reduceLT, Nat.reduceMod, ne_eq, not_false_eq_true, not_true_eq_false, GQ, Yn, Yo, Yp, Ki, Jn, Kj, Yq, Kk, Kl, GR, GS, GT, Yr, Ys, Yt, Jo, Jp, decide_true, AV.bool.injEq, AV.int.injEq, Nat.reduceLeDiff, decide_eq_true_eq, decide_eq_false_iff_not, Int.toNat_natCast, List.length_map, decide_false, KH, noref, flatOk, Qb, wkM, Km, Kw, Kx, Ju, QM, Kv, Jv, Kt, Ku, Qn, QN, Classical.not_not, Y0, VQ, UM, UN, Qa6, UO, Qr, Qt, Qa, Yw, Ql, List.take_length, List.length_cons, List.length_nil, Nat.zero_add, Ko, Yx, Yy, YG, Zone.row, Qj, QK, Pt.row, Qs, Jw, Aw.row, Qv, Jx, Blk.row, Qg, Qp, Sec.row, Qh, Qu, Rw.row, Qw, Jy, Qi]
  repeat' (first | with_reducible apply And.intro | with_reducible intro _)
  all_goals first
    | with_reducible assumption
    | omega
    | grind [Sky.valid, Uj]
def WS : List AV → Option (Prop × AV)
  | [.agg [.int .i64 s_w, .int .i64 s_h, .int .i64 s_lv, .sl 0 3 s_pts, .sl 0 2 s_aws, .sl 0 2 s_secs, .sl 0 4 s_rws]] => some ((((s_pts.map Y1).map Pt.row = s_pts) ∧ ((s_aws.map Y4).map (Aw.row 0) = s_aws) ∧ ((s_secs.map KC).map (Sec.row 0) = s_secs) ∧ ((s_rws.map Y2).map Rw.row = s_rws)) ∧ ((Sky.mk s_w s_h s_lv (s_pts.map Y1) (s_aws.map Y4) (s_secs.map KC) (s_rws.map Y2)).small), .bool (decide (Sky.mk s_w s_h s_lv (s_pts.map Y1) (s_aws.map Y4) (s_secs.map KC) (s_rws.map Y2)).valid))
  | _ => none
theorem Qi6 : ∀ args p v, WS args = some (p, v) → p → Contract P 32 args [] v [] ∧ noref v = true ∧ No99 v := by
  intro args p v h1 h2
  unfold WS at h1
  split at h1
  · rename_i s_w s_h s_lv s_pts s_aws s_secs s_rws
    cases h1
    obtain ⟨⟨e0, e1, e2, e3⟩, HP⟩ := h2
    have := Qi5 (Sky.mk s_w s_h s_lv (s_pts.map Y1) (s_aws.map Y4) (s_secs.map KC) (s_rws.map Y2)) HP
    exact ⟨by simpa only [e0, e1, e2, e3, Sky.row] using this, rfl, trivial⟩
  · cases h1
end
end Go.Ve

namespace Go.Ve
noncomputable section
open Go.Proofs
set_option linter.unusedSimpArgs false
set_option linter.unusedVariables false
set_option maxRecDepth 100000
open Go.ChangeShapes Go.WideShapes
/-- What is left when a list is counted, and each of its parts. -/
def szS {α : Type} (f : α → Int → Int) (l : List α) (a : Int) : Int := l.foldl (fun a x => f x a) (Qaj a l.length)
def WT (s : ByteArray) (a : Int) : Int := Qaj a s.toList.length
def QkF {α : Type} (f : α → Int → Int) : Prop := ∀ x a, a ≤ 1048576 → (f x a = -1 ∨ 0 ≤ f x a) ∧ (a < 0 → f x a = -1) ∧ f x a ≤ max a (-1)
def chk (x : Int) (k : Int → Int) : Int := if x < 0 then -1 else k x
def Meas1 (g : Int → Int) : Prop := ∀ a, a ≤ 1048576 → (g a = -1 ∨ 0 ≤ g a) ∧ (a < 0 → g a = -1) ∧ g a ≤ max a (-1)
def Qnl (g : Int → Int) : Prop := ∀ a, 0 ≤ a → a ≤ 1048576 → (g a = -1 ∨ 0 ≤ g a) ∧ g a ≤ a
theorem Meas1.p {g : Int → Int} (h : Meas1 g) : Qnl g := fun a h0 h1 => ⟨(h a h1).1, by have := (h a h1).2.2; omega⟩
theorem QcO : Qnl fun z => z := fun a h0 h1 => ⟨.inr h0, Int.le_refl a⟩
theorem QgD {k : Int → Int} (n : Nat) (h : Qnl k) : Meas1 fun a => chk (a - n) k := fun a ha => by
  simp only [chk]
  split
  · exact ⟨.inl rfl, fun _ => rfl, by omega⟩
  · rename_i h1
    have := h (a - n) (by omega) (by omega)
    exact ⟨this.1, fun _ => by omega, by omega⟩
theorem QkG {g k : Int → Int} (hg : Meas1 g) (h : Qnl k) : Meas1 fun a => chk (g a) k := fun a ha => by
  have m := hg a ha
  simp only [chk]
  split
  · exact ⟨.inl rfl, fun _ => rfl, by omega⟩
  · rename_i h1
    have := h (g a) (by omega) (by omega)
    exact ⟨this.1, fun h2 => by have := m.2.1 h2; omega, by omega⟩
theorem QdI {x : Int} {k : Int → Int} (h : 0 ≤ chk x k) : 0 ≤ x ∧ 0 ≤ k x := by
  unfold chk at h; split at h
  · omega
  · exact ⟨by omega, h⟩
theorem WU : QkF WT := fun x a _ => by unfold WT Qaj; split <;> omega
theorem QjO {α : Type} : QkF (fun (l : List α) a => Qaj a l.length) := fun x a _ => by simp only; unfold Qaj; split <;> omega
theorem Xc {α : Type} {f : α → Int → Int} (h : QkF f) : ∀ (l : List α) (a : Int), a ≤ 1048576 → (a = -1 ∨ 0 ≤ a) → (l.foldl (fun a x => f x a) a = -1 ∨ 0 ≤ l.foldl (fun a x => f x a) a) ∧ (a < 0 → l.foldl (fun a x => f x a) a = -1) ∧ l.foldl (fun a x => f x a) a ≤ max a (-1)
  | [], a, h1, h2 => ⟨h2, fun h3 => by simp only [List.foldl_nil]; omega, by simp only [List.foldl_nil]; omega⟩
  | x :: l, a, h1, h2 => by
    obtain ⟨k1, k2, k3⟩ := h x a h1
    obtain ⟨i1, i2, i3⟩ := Xc h l (f x a) (by omega) k1
    simp only [List.foldl_cons]
    exact ⟨i1, fun h3 => i2 (by have := k2 h3; omega), by omega⟩
theorem Xw {α : Type} {f : α → Int → Int} (h : QkF f) : QkF (szS f) := fun l a ha => by
  unfold szS
  have h0 : (Qaj a l.length = -1 ∨ 0 ≤ Qaj a l.length) ∧ (a < 0 → Qaj a l.length = -1) ∧ Qaj a l.length ≤ max a (-1) := by unfold Qaj; split <;> omega
  obtain ⟨i1, i2, i3⟩ := Xc h l (Qaj a l.length) (by omega) h0.1
  exact ⟨i1, fun h3 => i2 (by have := h0.2.1 h3; omega), by omega⟩
/-- A list that was counted is small, and so are its parts. -/
theorem QlT {α : Type} {f : α → Int → Int} {p : α → Prop} (h : QkF f) (hp : ∀ x a, a ≤ 1048576 → 0 ≤ f x a → p x) : ∀ (l : List α) (a : Int), a ≤ 1048576 → (a = -1 ∨ 0 ≤ a) → 0 ≤ l.foldl (fun a x => f x a) a → ∀ x ∈ l, p x
  | [], _, _, _, _, x, hx => by simp at hx
  | y :: l, a, h1, h2, h3, x, hx => by
    simp only [List.foldl_cons] at h3
    obtain ⟨k1, k2, k3⟩ := h y a h1
    have hy : 0 ≤ f y a := by
      rcases k1 with k1 | k1
      · have := (Xc h l (f y a) (by omega) (.inl k1)).2.1 (by omega); omega
      · exact k1
    rcases List.mem_cons.1 hx with rfl | hx
    · exact hp _ a h1 hy
    · exact QlT h hp l (f y a) (by omega) (.inr hy) h3 x hx
theorem Qh8 {α : Type} {f : α → Int → Int} {p : α → Prop} (h : QkF f) (hp : ∀ x a, a ≤ 1048576 → 0 ≤ f x a → p x) {l : List α} {a : Int} (ha : a ≤ 1048576) (h0 : 0 ≤ szS f l a) : l.length ≤ 1048576 ∧ ∀ x ∈ l, p x := by
  unfold szS at h0
  have hs : (Qaj a l.length = -1 ∨ 0 ≤ Qaj a l.length) ∧ Qaj a l.length ≤ 1048576 := by unfold Qaj; split <;> omega
  refine ⟨?_, QlT h hp l _ hs.2 hs.1 h0⟩
  rcases hs.1 with e | e
  · have := (Xc h l _ hs.2 (.inl e)).2.1 (by omega); omega
  · unfold Qaj at e; split at e <;> omega
theorem Qpa {a : Int} {n : Nat} (ha : a ≤ 1048576) (h0 : 0 ≤ Qaj a n) : n ≤ 1048576 := by unfold Qaj at h0; split at h0 <;> omega
/-- One more part of a list. -/
theorem Wz {α : Type} [Inhabited α] {f : α → Int → Int} {l : List α} {i : Nat} {a : Int} (hi : i < l.length) : (l.take (i + 1)).foldl (fun a x => f x a) a = f (l.getD i default) ((l.take i).foldl (fun a x => f x a) a) := by
  have e : l.getD i default = l[i] := by simp [hi]
  rw [e, List.take_succ_eq_append_getElem hi, List.foldl_append]; rfl
theorem QaU {α : Type} [Inhabited α] {f : α → Int → Int} (h : QkF f) {l : List α} {i : Nat} {a : Int} (hi : i < l.length) (ha : a ≤ 1048576) (h0 : a = -1 ∨ 0 ≤ a) (hn : f (l.getD i default) ((l.take i).foldl (fun a x => f x a) a) < 0) : l.foldl (fun a x => f x a) a = -1 := by
  rw [← Wz (f := f) hi] at hn
  have e : l.foldl (fun a x => f x a) a = (l.drop (i + 1)).foldl (fun a x => f x a) ((l.take (i + 1)).foldl (fun a x => f x a) a) := by
    rw [← List.foldl_append, List.take_append_drop]
  rw [e]
  have k := Xc h (l.take (i + 1)) a ha h0
  exact (Xc h _ _ (by omega) k.1).2.1 hn
theorem WA {α : Type} {f : α → List AV} {p : α → Prop} {rs : List LSh} (h : ∀ r, Xo rs r → ∃ x : α, r = f x ∧ p x) : ∀ {rows : List (List AV)}, (∀ r ∈ rows, Xo rs r) → ∃ l : List α, rows = l.map f ∧ ∀ x ∈ l, p x
  | [], _ => ⟨[], rfl, by simp⟩
  | r :: rows, k => by
    obtain ⟨x, rfl, hx⟩ := h r (k r (by simp))
    obtain ⟨l, rfl, hl⟩ := WA h (rows := rows) fun r' h' => k r' (by simp [h'])
    exact ⟨x :: l, rfl, by simpa using ⟨hx, hl⟩⟩
theorem Gi {α : Type} [Inhabited α] {l : List α} {i : Nat} (h : i < l.length) : l.getD i default ∈ l := by simp [h]
def Pt.fitp (s : Pt) : Prop := s.nm.toList.length ≤ 9223372036854775807
def Pt.sz (s : Pt) (z0 : Int) : Int := chk (z0 - (s.nm.toList.length : Nat)) (fun z1 => z1)
theorem QbS : QkF Pt.sz := fun s => QgD _ (QcO)
def Rw.fitp (s : Rw) : Prop := s.nm.toList.length ≤ 9223372036854775807
def Rw.sz (s : Rw) (z0 : Int) : Int := chk (z0 - (s.nm.toList.length : Nat)) (fun z1 => z1)
theorem QbT : QkF Rw.sz := fun s => QgD _ (QcO)
def Aw.fitp (s : Aw) : Prop := s.nm.toList.length ≤ 9223372036854775807 ∧ (s.pts.length ≤ 9223372036854775807 ∧ ∀ y ∈ s.pts, y.toList.length ≤ 9223372036854775807)
def Aw.sz (s : Aw) (z0 : Int) : Int := chk (z0 - (s.nm.toList.length : Nat)) (fun z1 => chk (szS WT s.pts z1) (fun z2 => z2))
theorem QbU : QkF Aw.sz := fun s => QgD _ (Meas1.p (QkG (fun a => Xw WU s.pts a) (QcO)))
theorem Aw.sz_ok {s : Aw} {a : Int} (ha : a ≤ 1048576) (h : 0 ≤ s.sz a) : s.small := by
  unfold Aw.sz at h
  have b0 : a ≤ 1048576 := ha
  obtain ⟨p0, h⟩ := QdI h
  have b1 : (a) - (s.nm.toList.length : Nat) ≤ 1048576 := by omega
  obtain ⟨p1, h⟩ := QdI h
  have b2 : szS WT s.pts ((a) - (s.nm.toList.length : Nat)) ≤ 1048576 := by have := (Xw WU s.pts ((a) - (s.nm.toList.length : Nat)) b1).2.2; omega
  have k1 := Qh8 (p := fun _ => True) WU (fun _ _ _ _ => trivial) b1 p1
  exact k1.1
def Sec.fitp (s : Sec) : Prop := s.nm.toList.length ≤ 9223372036854775807 ∧ s.bl.length ≤ 9223372036854775807
def Sec.sz (s : Sec) (z0 : Int) : Int := chk (z0 - (s.nm.toList.length : Nat)) (fun z1 => chk (Qaj z1 s.bl.length) (fun z2 => z2))
theorem WV : QkF Sec.sz := fun s => QgD _ (Meas1.p (QkG (fun a => QjO s.bl a) (QcO)))
theorem Sec.sz_ok {s : Sec} {a : Int} (ha : a ≤ 1048576) (h : 0 ≤ s.sz a) : s.small := by
  unfold Sec.sz at h
  have b0 : a ≤ 1048576 := ha
  obtain ⟨p0, h⟩ := QdI h
  have b1 : (a) - (s.nm.toList.length : Nat) ≤ 1048576 := by omega
  obtain ⟨p1, h⟩ := QdI h
  have b2 : Qaj ((a) - (s.nm.toList.length : Nat)) s.bl.length ≤ 1048576 := by have := (QjO s.bl ((a) - (s.nm.toList.length : Nat)) b1).2.2; simp only at this; omega
  have k1 := Qpa b1 p1
  exact k1
def Sky.fitp (s : Sky) : Prop := (s.pts.length ≤ 9223372036854775807 ∧ ∀ y ∈ s.pts, y.fitp) ∧ (s.aws.length ≤ 9223372036854775807 ∧ ∀ y ∈ s.aws, y.fitp) ∧ (s.secs.length ≤ 9223372036854775807 ∧ ∀ y ∈ s.secs, y.fitp) ∧ (s.rws.length ≤ 9223372036854775807 ∧ ∀ y ∈ s.rws, y.fitp)
def Sky.sz (s : Sky) (z0 : Int) : Int := chk (szS Pt.sz s.pts z0) (fun z1 => chk (szS Aw.sz s.aws z1) (fun z2 => chk (szS Sec.sz s.secs z2) (fun z3 => chk (szS Rw.sz s.rws z3) (fun z4 => z4))))
theorem QjP : QkF Sky.sz := fun s => QkG (fun a => Xw QbS s.pts a) (Meas1.p (QkG (fun a => Xw QbU s.aws a) (Meas1.p (QkG (fun a => Xw WV s.secs a) (Meas1.p (QkG (fun a => Xw QbT s.rws a) (QcO)))))))
theorem Sky.sz_ok {s : Sky} {a : Int} (ha : a ≤ 1048576) (h : 0 ≤ s.sz a) : s.small := by
  unfold Sky.sz at h
  have b0 : a ≤ 1048576 := ha
  obtain ⟨p0, h⟩ := QdI h
  have b1 : szS Pt.sz s.pts (a) ≤ 1048576 := by have := (Xw QbS s.pts (a) b0).2.2; omega
  have k0 := Qh8 (p := fun _ => True) QbS (fun _ _ _ _ => trivial) b0 p0
  obtain ⟨p1, h⟩ := QdI h
  have b2 : szS Aw.sz s.aws (szS Pt.sz s.pts (a)) ≤ 1048576 := by have := (Xw QbU s.aws (szS Pt.sz s.pts (a)) b1).2.2; omega
  have k1 := Qh8 (p := fun y => Aw.small y) QbU (fun x a h1 h2 => Aw.sz_ok h1 h2) b1 p1
  obtain ⟨p2, h⟩ := QdI h
  have b3 : szS Sec.sz s.secs (szS Aw.sz s.aws (szS Pt.sz s.pts (a))) ≤ 1048576 := by have := (Xw WV s.secs (szS Aw.sz s.aws (szS Pt.sz s.pts (a))) b2).2.2; omega
  have k2 := Qh8 (p := fun y => Sec.small y) WV (fun x a h1 h2 => Sec.sz_ok h1 h2) b2 p2
  obtain ⟨p3, h⟩ := QdI h
  have b4 : szS Rw.sz s.rws (szS Sec.sz s.secs (szS Aw.sz s.aws (szS Pt.sz s.pts (a)))) ≤ 1048576 := by have := (Xw QbT s.rws (szS Sec.sz s.secs (szS Aw.sz s.aws (szS Pt.sz s.pts (a)))) b3).2.2; omega
  have k3 := Qh8 (p := fun _ => True) QbT (fun _ _ _ _ => trivial) b3 p3
  exact ⟨k0.1, k1, k2, k3.1⟩
theorem gv0 : Qqq 0 = .pp 97 Qb1 := by simp only [Qqq, Qrh, if_true]
theorem QlU {a b : ByteArray} : Uh (.str a) (.str b) = decide (a = b) := Km
def Zv (c : Int × Int) : AV := .agg [.int .i64 c.1, .int .i64 c.2]
theorem QkH {a b : Int × Int} : Uh (Zv a) (Zv b) = decide (a = b) := by
  obtain ⟨a1, a2⟩ := a
  obtain ⟨b1, b2⟩ := b
  by_cases h : a1 = b1 <;> by_cases k : a2 = b2 <;> simp [Uh, Zv, Qdu, h, k]
theorem Gb {s : ByteArray} : Qiw 0 (.str s) = (s.toList.length ≤ 9223372036854775807) := by
  rw [← Gp]
  exact propext ⟨fun ⟨_, h, h2⟩ => by cases h; exact h2, fun h => ⟨s, rfl, h⟩⟩
theorem Qrr {m : Int} : (Lit.int .i64 m).wf = decide (-9223372036854775808 ≤ m ∧ m ≤ 9223372036854775807) := by
  have h1 : IntKind.i64.min = -9223372036854775808 := by decide
  have h2 : IntKind.i64.max = 9223372036854775807 := by decide
  simp [Lit.wf, h1, h2, Bool.decide_and]
theorem YW {a b : Int} : Qiw 2 (.agg [.int .i64 a, .int .i64 b]) = ((-9223372036854775808 ≤ a ∧ a ≤ 9223372036854775807) ∧ -9223372036854775808 ≤ b ∧ b ≤ 9223372036854775807) := by
  refine propext ⟨fun ⟨ls, h, _, h2⟩ => ?_, fun ⟨h1, h2⟩ => ⟨_, rfl, rfl, fun y hy => ?_⟩⟩
  · cases h
    obtain ⟨m, h3, h4⟩ := h2 (.int .i64 a) (by simp)
    obtain ⟨m', h5, h6⟩ := h2 (.int .i64 b) (by simp)
    cases h3; cases h5
    rw [Qrr] at h4 h6
    exact ⟨of_decide_eq_true h4, of_decide_eq_true h6⟩
  · rcases List.mem_cons.1 hy with rfl | hy
    · exact ⟨a, rfl, by rw [Qrr]; exact decide_eq_true h1⟩
    · rcases List.mem_cons.1 hy with rfl | hy
      · exact ⟨b, rfl, by rw [Qrr]; exact decide_eq_true h2⟩
      · cases hy
/-- A map that is a set. -/
def Qah {κ : Type} (f : κ → AV) (l : List κ) : List (AV × AV) := l.foldl (fun es a => W0 es (f a) (.bool true)) []
def QjQ {κ : Type} (q : κ) (l : List κ) : Prop := q ∈ l
noncomputable instance {κ : Type} (q : κ) (l : List κ) : Decidable (QjQ q l) := Classical.propDecidable _
section
variable {κ : Type} {f : κ → AV} (inj : ∀ {a b}, Uh (f a) (f b) = true ↔ a = b)
include inj
theorem QlV (a : κ) : ∀ ks : List κ, ∃ ks' : List κ, W0 (ks.map fun k => (f k, .bool true)) (f a) (.bool true) = (ks'.map fun k => (f k, AV.bool true)) ∧ ∀ q, q ∈ ks' ↔ q ∈ ks ∨ q = a
  | [] => ⟨[a], rfl, by simp⟩
  | k :: ks => by
    by_cases h : k = a
    · subst h
      refine ⟨k :: ks, by simp only [List.map_cons, W0, inj.2 rfl, if_true], fun q => ?_⟩
      simp only [List.mem_cons]
      constructor
      · exact fun h => .inl h
      · rintro (h | rfl)
        · exact h
        · exact .inl rfl
    · obtain ⟨ks', h1, h2⟩ := QlV a ks
      have hn : ¬ Uh (f k) (f a) = true := fun e => h (inj.1 e)
      refine ⟨k :: ks', by simp only [List.map_cons, W0, h1, hn]; rfl, fun q => ?_⟩
      simp only [List.mem_cons, h2, or_assoc]
theorem QjR (q : κ) : ∀ ks : List κ, Qba (ks.map fun k => (f k, AV.bool true)) (f q) (.bool false) = .bool (decide (QjQ q ks))
  | [] => by simp [Qba, QjQ]
  | k :: ks => by
    simp only [List.map_cons, Qba, QjR q ks]
    by_cases h : k = q
    · subst h; simp [inj.2 rfl, QjQ]
    · have hn : ¬ Uh (f k) (f q) = true := fun e => h (inj.1 e)
      simp only [hn, Bool.false_eq_true, if_false, AV.bool.injEq, decide_eq_decide]
      simp only [QjQ, List.mem_cons, Ne.symm h, false_or]
theorem QkI (l : List κ) : ∃ ks : List κ, Qah f l = (ks.map fun k => (f k, AV.bool true)) ∧ ∀ q, q ∈ ks ↔ q ∈ l := by
  have key : ∀ (l ks : List κ), ∃ ks' : List κ, l.foldl (fun es a => W0 es (f a) (.bool true)) (ks.map fun k => (f k, AV.bool true)) = (ks'.map fun k => (f k, AV.bool true)) ∧ ∀ q, q ∈ ks' ↔ q ∈ ks ∨ q ∈ l := by
    intro l
    induction l with
    | nil => intro ks; exact ⟨ks, rfl, by simp⟩
    | cons a l ih =>
      intro ks
      simp only [List.foldl_cons]
      obtain ⟨k1, h1, h2⟩ := QlV inj a ks
      rw [h1]
      obtain ⟨ks', h3, h4⟩ := ih k1
      exact ⟨ks', h3, fun q => by rw [h4, h2, List.mem_cons, or_assoc]⟩
  obtain ⟨ks, h1, h2⟩ := key l []
  exact ⟨ks, h1, by simpa using h2⟩
theorem QfX (l : List κ) (q : κ) : Qba (Qah f l) (f q) (.bool false) = .bool (decide (QjQ q l)) := by
  obtain ⟨ks, h1, h2⟩ := QkI inj l
  rw [h1, QjR inj]
  simp only [AV.bool.injEq, decide_eq_decide]
  exact h2 q
end
theorem Gc {l : List ByteArray} {q : ByteArray} : Qba (Qah AV.str l) (.str q) (.bool false) = .bool (decide (QjQ q l)) := QfX (f := AV.str) (by intro a b; rw [QlU]; simp) l q
theorem YX {l : List (Int × Int)} {a b : Int} : Qba (Qah Zv l) (.agg [.int .i64 a, .int .i64 b]) (.bool false) = .bool (decide (QjQ (a, b) l)) := QfX (f := Zv) (by intro a b; rw [QkH]; simp) l (a, b)
theorem GZ {l : List ByteArray} {q : ByteArray} : W0 (Qah AV.str l) (.str q) (.bool true) = Qah AV.str (l ++ [q]) := by simp [Qah]
theorem Gd {l : List (Int × Int)} {a b : Int} : W0 (Qah Zv l) (.agg [.int .i64 a, .int .i64 b]) (.bool true) = Qah Zv (l ++ [(a, b)]) := by simp [Qah, Zv]
theorem WW {α β : Type} [Inhabited α] {f : α → β} {l : List α} {i : Nat} (hi : i < l.length) : (l.take (i + 1)).map f = (l.take i).map f ++ [f (l.getD i default)] := by
  have e : l.getD i default = l[i] := by simp [hi]
  rw [e, List.take_succ_eq_append_getElem hi, List.map_append]; rfl
theorem VR {α β : Type} [Inhabited α] {f : α → β} {l : List α} {i : Nat} (hi : i ≤ l.length) {q : β} : q ∈ (l.take i).map f ↔ ∃ k, k < i ∧ f (l.getD k default) = q := by
  simp only [List.mem_map]
  constructor
  · rintro ⟨x, hx, rfl⟩
    obtain ⟨k, hk, rfl⟩ := List.mem_iff_getElem.1 hx
    rw [List.length_take] at hk
    exact ⟨k, by omega, by rw [List.getElem_take]; simp [show k < l.length by omega]⟩
  · rintro ⟨k, hk, rfl⟩
    exact ⟨_, List.mem_iff_getElem.2 ⟨k, by rw [List.length_take]; omega, rfl⟩, by rw [List.getElem_take]; simp [show k < l.length by omega]⟩
theorem Qpb (s : Sky) (x y : Int) (hd : Uj s.w s.h s.lv) : Contract P 50 [.agg (s.row 0), .int .i64 x, .int .i64 y] [] (.bool (decide (X6 s.w s.h x y))) [] := by
  unfold Uj at hd
  simp only [Sky.row]
  refine QP ((Env.nil P).add 48 YA Zr) hm QeV (Nat.le_of_ble_eq_true rfl) rfl ?_; unfold QaF; simp (config := { maxSteps := 2000000 }) only [JK, Gr, KO, KP, JL, QW, JM, JN, KQ, Gs, KR, KS, KT, KU, KV, KW, KX, KY, KZ, K1, K2, QX, QY, QZ, JO, JP, JQ, Q0, Q1, Q2, Q3, Q4, Q5, JR, JS, JT, JU, Jq, Jr, Kp, Yv, GU, JV, Qz, Qk, KN, QT, QU, JH, QV, JI, JJ, QS, Qy, JE, JF, KK, JG, KL, KM, Q8, Q9, Qc, Qd, QE, QF, Ja, Jb, QQ, QR, Qe, Qf, GD, GE, JZ, J0, K3, JW, JX, JY, Kb, Kc, Kd, QA, QB, QD, Gt, Gu, Gv, Gw, Q6, Q7, Gy, Gx, Gz, QG, J1, K4, J2, K5, K6, K7, K8, J3, Jc, K9, Jd, Je, Jf, Jg, Jh, QH, QI, Ji, J4, Jj, J5, J6, J7, GA, GB, Ya, Jk, Yb, QJ, KJ, J8, KF, GC, Jl, YF, YE, YD, Gk, List.length_take, Int.toNat_zero, List.drop_zero, YC, Ks, QL, Jt, GX, Yu, Kr, Kq, Js, Yc, J9, Yd, Ye, GF, Yf, Yg, GG, Yh, Ka, Yi, GH, Yj, Yk, GI, GJ, GK, Yl, eff, JB, QO, Ke, Ym, Kf, Kg, Kh, GL, GM, JD, JC, Jm, GN, GO, GP, Y7, pur, List.map, List.drop, List.take, List.length, List.foldl, List.append_eq, List.nil_append, List.cons_append, List.getD_cons_zero, List.getD_cons_succ, reduceIte, Nat.reduceEqDiff, Nat.reduceAdd, Nat.reduceLeDiff, true_and, and_true, Bool.not_true, Bool.not_false, Bool.and_true, Bool.true_and, Bool.and_self, reduceCtorEq, true_implies, false_implies, implies_true, decide_eq_true_eq, Option.map_some, Gm, fpX, SOp.xs, oX, refs, KE, dom, Gl, List.all_nil, List.all_cons, List.contains_cons, List.contains_nil, Nat.reduceBEq, Bool.or_false, Bool.false_or, List.append_nil, Bool.not_false, Bool.not_true, List.forall_mem_cons, fm0, List.set, Nat.reduceLT, Nat.reduceMod, ne_eq, not_false_eq_true, not_true_eq_false, GQ, Yn, Yo, Yp, Ki, Jn, Kj, Yq, Kk, Kl, GR, GS, GT, Yr, Ys, Yt, Jo, Jp, decide_true, AV.bool.injEq, AV.int.injEq, Nat.reduceLeDiff, decide_eq_true_eq, decide_eq_false_iff_not, Int.toNat_natCast, List.length_map, decide_false, KH, noref, flatOk, Qb, wkM, Km, Kw, Kx, Ju, QM, Kv, Jv, Kt, Ku, Qn, QN, Classical.not_not, YA, Qr, Qt, Qa, Yw, Ql, List.take_length, List.length_cons, List.length_nil, Nat.zero_add, Ko, Yx, Yy, YG, Zone.row, Qj, QK, Pt.row, Qs, Jw, Aw.row, Qv, Jx, Blk.row, Qg, Qp, Sec.row, Qh, Qu, Rw.row, Qw, Jy, Qi]
  repeat' (first | with_reducible apply And.intro | with_reducible intro _)
  all_goals first | omega | grind [X6]
def YZ : List AV → Option (Prop × AV)
  | [.agg [.int .i64 s_w, .int .i64 s_h, .int .i64 s_lv, .sl 0 3 s_pts, .sl 0 2 s_aws, .sl 0 2 s_secs, .sl 0 4 s_rws], .int .i64 x, .int .i64 y] => some ((((s_pts.map Y1).map Pt.row = s_pts) ∧ ((s_aws.map Y4).map (Aw.row 0) = s_aws) ∧ ((s_secs.map KC).map (Sec.row 0) = s_secs) ∧ ((s_rws.map Y2).map Rw.row = s_rws)) ∧ (Uj (Sky.mk s_w s_h s_lv (s_pts.map Y1) (s_aws.map Y4) (s_secs.map KC) (s_rws.map Y2)).w (Sky.mk s_w s_h s_lv (s_pts.map Y1) (s_aws.map Y4) (s_secs.map KC) (s_rws.map Y2)).h (Sky.mk s_w s_h s_lv (s_pts.map Y1) (s_aws.map Y4) (s_secs.map KC) (s_rws.map Y2)).lv), .bool (decide (X6 (Sky.mk s_w s_h s_lv (s_pts.map Y1) (s_aws.map Y4) (s_secs.map KC) (s_rws.map Y2)).w (Sky.mk s_w s_h s_lv (s_pts.map Y1) (s_aws.map Y4) (s_secs.map KC) (s_rws.map Y2)).h x y)))
  | _ => none
theorem V2 : ∀ args p v, YZ args = some (p, v) → p → Contract P 50 args [] v [] ∧ noref v = true ∧ No99 v := by
  intro args p v h1 h2
  unfold YZ at h1
  split at h1
  · rename_i s_w s_h s_lv s_pts s_aws s_secs s_rws x y
    cases h1
    obtain ⟨⟨e0, e1, e2, e3⟩, HP⟩ := h2
    have := Qpb (Sky.mk s_w s_h s_lv (s_pts.map Y1) (s_aws.map Y4) (s_secs.map KC) (s_rws.map Y2)) x y HP
    exact ⟨by simpa only [e0, e1, e2, e3, Sky.row] using this, rfl, trivial⟩
  · cases h1
theorem Qnm (s : Sky) (b : Blk) : Contract P 51 [.agg (s.row 0), .agg b.row] [] (.bool (decide (b.ok s.w s.h s.lv))) [] := by
  simp only [Sky.row, Blk.row]
  refine QP (Env.nil P) hm QdQ (Nat.le_of_ble_eq_true rfl) rfl ?_; unfold W3; simp (config := { maxSteps := 2000000 }) only [JK, Gr, KO, KP, JL, QW, JM, JN, KQ, Gs, KR, KS, KT, KU, KV, KW, KX, KY, KZ, K1, K2, QX, QY, QZ, JO, JP, JQ, Q0, Q1, Q2, Q3, Q4, Q5, JR, JS, JT, JU, Jq, Jr, Kp, Yv, GU, JV, Qz, Qk, KN, QT, QU, JH, QV, JI, JJ, QS, Qy, JE, JF, KK, JG, KL, KM, Q8, Q9, Qc, Qd, QE, QF, Ja, Jb, QQ, QR, Qe, Qf, GD, GE, JZ, J0, K3, JW, JX, JY, Kb, Kc, Kd, QA, QB, QD, Gt, Gu, Gv, Gw, Q6, Q7, Gy, Gx, Gz, QG, J1, K4, J2, K5, K6, K7, K8, J3, Jc, K9, Jd, Je, Jf, Jg, Jh, QH, QI, Ji, J4, Jj, J5, J6, J7, GA, GB, Ya, Jk, Yb, QJ, KJ, J8, KF, GC, Jl, YF, YE, YD, Gk, List.length_take, Int.toNat_zero, List.drop_zero, YC, Ks, QL, Jt, GX, Yu, Kr, Kq, Js, Yc, J9, Yd, Ye, GF, Yf, Yg, GG, Yh, Ka, Yi, GH, Yj, Yk, GI, GJ, GK, Yl, eff, JB, QO, Ke, Ym, Kf, Kg, Kh, GL, GM, JD, JC, Jm, GN, GO, GP, Y7, pur, List.map, List.drop, List.take, List.length, List.foldl, List.append_eq, List.nil_append, List.cons_append, List.getD_cons_zero, List.getD_cons_succ, reduceIte, Nat.reduceEqDiff, Nat.reduceAdd, Nat.reduceLeDiff, true_and, and_true, Bool.not_true, Bool.not_false, Bool.and_true, Bool.true_and, Bool.and_self, reduceCtorEq, true_implies, false_implies, implies_true, decide_eq_true_eq, Option.map_some, Gm, fpX, SOp.xs, oX, refs, KE, dom, Gl, List.all_nil, List.all_cons, List.contains_cons, List.contains_nil, Nat.reduceBEq, Bool.or_false, Bool.false_or, List.append_nil, Bool.not_false, Bool.not_true, List.forall_mem_cons, fm0, List.set, Nat.reduceLT, Nat.reduceMod, ne_eq, not_false_eq_true, not_true_eq_false, GQ, Yn, Yo, Yp, Ki, Jn, Kj, Yq, Kk, Kl, GR, GS, GT, Yr, Ys, Yt, Jo, Jp, decide_true, AV.bool.injEq, AV.int.injEq, Nat.reduceLeDiff, decide_eq_true_eq, decide_eq_false_iff_not, Int.toNat_natCast, List.length_map, decide_false, KH, noref, flatOk, Qb, wkM, Km, Kw, Kx, Ju, QM, Kv, Jv, Kt, Ku, Qn, QN, Classical.not_not, Qr, Qt, Qa, Yw, Ql, List.take_length, List.length_cons, List.length_nil, Nat.zero_add, Ko, Yx, Yy, YG, Zone.row, Qj, QK, Pt.row, Qs, Jw, Aw.row, Qv, Jx, Blk.row, Qg, Qp, Sec.row, Qh, Qu, Rw.row, Qw, Jy, Qi]
  repeat' (first | with_reducible apply And.intro | with_reducible intro _)
  all_goals first | omega | grind [Blk.ok]
def YO : List AV → Option (Prop × AV)
  | [.agg [.int .i64 s_w, .int .i64 s_h, .int .i64 s_lv, .sl 0 3 s_pts, .sl 0 2 s_aws, .sl 0 2 s_secs, .sl 0 4 s_rws], .agg [.int .i64 b_x0, .int .i64 b_y0, .int .i64 b_x1, .int .i64 b_y1, .int .i64 b_lo, .int .i64 b_hi]] => some ((((s_pts.map Y1).map Pt.row = s_pts) ∧ ((s_aws.map Y4).map (Aw.row 0) = s_aws) ∧ ((s_secs.map KC).map (Sec.row 0) = s_secs) ∧ ((s_rws.map Y2).map Rw.row = s_rws)) ∧ (True), .bool (decide ((Blk.mk b_x0 b_y0 b_x1 b_y1 b_lo b_hi).ok (Sky.mk s_w s_h s_lv (s_pts.map Y1) (s_aws.map Y4) (s_secs.map KC) (s_rws.map Y2)).w (Sky.mk s_w s_h s_lv (s_pts.map Y1) (s_aws.map Y4) (s_secs.map KC) (s_rws.map Y2)).h (Sky.mk s_w s_h s_lv (s_pts.map Y1) (s_aws.map Y4) (s_secs.map KC) (s_rws.map Y2)).lv)))
  | _ => none
theorem VS : ∀ args p v, YO args = some (p, v) → p → Contract P 51 args [] v [] ∧ noref v = true ∧ No99 v := by
  intro args p v h1 h2
  unfold YO at h1
  split at h1
  · rename_i s_w s_h s_lv s_pts s_aws s_secs s_rws b_x0 b_y0 b_x1 b_y1 b_lo b_hi
    cases h1
    obtain ⟨⟨e0, e1, e2, e3⟩, HP⟩ := h2
    have := Qnm (Sky.mk s_w s_h s_lv (s_pts.map Y1) (s_aws.map Y4) (s_secs.map KC) (s_rws.map Y2)) (Blk.mk b_x0 b_y0 b_x1 b_y1 b_lo b_hi)
    exact ⟨by simpa only [e0, e1, e2, e3, Sky.row, Blk.row] using this, rfl, trivial⟩
  · cases h1
theorem Qpc (a b : Blk) : Contract P 52 [.agg a.row, .agg b.row] [] (.bool (decide (a.less b))) [] := by
  simp only [Blk.row]
  refine QP (Env.nil P) hm QdR (Nat.le_of_ble_eq_true rfl) rfl ?_; unfold W4; simp (config := { maxSteps := 2000000 }) only [JK, Gr, KO, KP, JL, QW, JM, JN, KQ, Gs, KR, KS, KT, KU, KV, KW, KX, KY, KZ, K1, K2, QX, QY, QZ, JO, JP, JQ, Q0, Q1, Q2, Q3, Q4, Q5, JR, JS, JT, JU, Jq, Jr, Kp, Yv, GU, JV, Qz, Qk, KN, QT, QU, JH, QV, JI, JJ, QS, Qy, JE, JF, KK, JG, KL, KM, Q8, Q9, Qc, Qd, QE, QF, Ja, Jb, QQ, QR, Qe, Qf, GD, GE, JZ, J0, K3, JW, JX, JY, Kb, Kc, Kd, QA, QB, QD, Gt, Gu, Gv, Gw, Q6, Q7, Gy, Gx, Gz, QG, J1, K4, J2, K5, K6, K7, K8, J3, Jc, K9, Jd, Je, Jf, Jg, Jh, QH, QI, Ji, J4, Jj, J5, J6, J7, GA, GB, Ya, Jk, Yb, QJ, KJ, J8, KF, GC, Jl, YF, YE, YD, Gk, List.length_take, Int.toNat_zero, List.drop_zero, YC, Ks, QL, Jt, GX, Yu, Kr, Kq, Js, Yc, J9, Yd, Ye, GF, Yf, Yg, GG, Yh, Ka, Yi, GH, Yj, Yk, GI, GJ, GK, Yl, eff, JB, QO, Ke, Ym, Kf, Kg, Kh, GL, GM, JD, JC, Jm, GN, GO, GP, Y7, pur, List.map, List.drop, List.take, List.length, List.foldl, List.append_eq, List.nil_append, List.cons_append, List.getD_cons_zero, List.getD_cons_succ, reduceIte, Nat.reduceEqDiff, Nat.reduceAdd, Nat.reduceLeDiff, true_and, and_true, Bool.not_true, Bool.not_false, Bool.and_true, Bool.true_and, Bool.and_self, reduceCtorEq, true_implies, false_implies, implies_true, decide_eq_true_eq, Option.map_some, Gm, fpX, SOp.xs, oX, refs, KE, dom, Gl, List.all_nil, List.all_cons, List.contains_cons, List.contains_nil, Nat.reduceBEq, Bool.or_false, Bool.false_or, List.append_nil, Bool.not_false, Bool.not_true, List.forall_mem_cons, fm0, List.set, Nat.reduceLT, Nat.reduceMod, ne_eq, not_false_eq_true, not_true_eq_false, GQ, Yn, Yo, Yp, Ki, Jn, Kj, Yq, Kk, Kl, GR, GS, GT, Yr, Ys, Yt, Jo, Jp, decide_true, AV.bool.injEq, AV.int.injEq, Nat.reduceLeDiff, decide_eq_true_eq, decide_eq_false_iff_not, Int.toNat_natCast, List.length_map, decide_false, KH, noref, flatOk, Qb, wkM, Km, Kw, Kx, Ju, QM, Kv, Jv, Kt, Ku, Qn, QN, Classical.not_not, Qr, Qt, Qa, Yw, Ql, List.take_length, List.length_cons, List.length_nil, Nat.zero_add, Ko, Yx, Yy, YG, Zone.row, Qj, QK, Pt.row, Qs, Jw, Aw.row, Qv, Jx, Blk.row, Qg, Qp, Sec.row, Qh, Qu, Rw.row, Qw, Jy, Qi]
  repeat' (first | with_reducible apply And.intro | with_reducible intro _)
  all_goals first | omega | grind [Blk.less]
def Y3 : List AV → Option (Prop × AV)
  | [.agg [.int .i64 a_x0, .int .i64 a_y0, .int .i64 a_x1, .int .i64 a_y1, .int .i64 a_lo, .int .i64 a_hi], .agg [.int .i64 b_x0, .int .i64 b_y0, .int .i64 b_x1, .int .i64 b_y1, .int .i64 b_lo, .int .i64 b_hi]] => some ((True) ∧ (True), .bool (decide ((Blk.mk a_x0 a_y0 a_x1 a_y1 a_lo a_hi).less (Blk.mk b_x0 b_y0 b_x1 b_y1 b_lo b_hi))))
  | _ => none
theorem QaV : ∀ args p v, Y3 args = some (p, v) → p → Contract P 52 args [] v [] ∧ noref v = true ∧ No99 v := by
  intro args p v h1 h2
  unfold Y3 at h1
  split at h1
  · rename_i a_x0 a_y0 a_x1 a_y1 a_lo a_hi b_x0 b_y0 b_x1 b_y1 b_lo b_hi
    cases h1
    obtain ⟨_, HP⟩ := h2
    have := Qpc (Blk.mk a_x0 a_y0 a_x1 a_y1 a_lo a_hi) (Blk.mk b_x0 b_y0 b_x1 b_y1 b_lo b_hi)
    exact ⟨by simpa only [Blk.row, Blk.row] using this, rfl, trivial⟩
  · cases h1
theorem Qnn (a b : Blk) : Contract P 53 [.agg a.row, .agg b.row] [] (.bool (decide (a.meet b))) [] := by
  simp only [Blk.row]
  refine QP (Env.nil P) hm Qh1 (Nat.le_of_ble_eq_true rfl) rfl ?_; unfold QdF; simp (config := { maxSteps := 2000000 }) only [JK, Gr, KO, KP, JL, QW, JM, JN, KQ, Gs, KR, KS, KT, KU, KV, KW, KX, KY, KZ, K1, K2, QX, QY, QZ, JO, JP, JQ, Q0, Q1, Q2, Q3, Q4, Q5, JR, JS, JT, JU, Jq, Jr, Kp, Yv, GU, JV, Qz, Qk, KN, QT, QU, JH, QV, JI, JJ, QS, Qy, JE, JF, KK, JG, KL, KM, Q8, Q9, Qc, Qd, QE, QF, Ja, Jb, QQ, QR, Qe, Qf, GD, GE, JZ, J0, K3, JW, JX, JY, Kb, Kc, Kd, QA, QB, QD, Gt, Gu, Gv, Gw, Q6, Q7, Gy, Gx, Gz, QG, J1, K4, J2, K5, K6, K7, K8, J3, Jc, K9, Jd, Je, Jf, Jg, Jh, QH, QI, Ji, J4, Jj, J5, J6, J7, GA, GB, Ya, Jk, Yb, QJ, KJ, J8, KF, GC, Jl, YF, YE, YD, Gk, List.length_take, Int.toNat_zero, List.drop_zero, YC, Ks, QL, Jt, GX, Yu, Kr, Kq, Js, Yc, J9, Yd, Ye, GF, Yf, Yg, GG, Yh, Ka, Yi, GH, Yj, Yk, GI, GJ, GK, Yl, eff, JB, QO, Ke, Ym, Kf, Kg, Kh, GL, GM, JD, JC, Jm, GN, GO, GP, Y7, pur, List.map, List.drop, List.take, List.length, List.foldl, List.append_eq, List.nil_append, List.cons_append, List.getD_cons_zero, List.getD_cons_succ, reduceIte, Nat.reduceEqDiff, Nat.reduceAdd, Nat.reduceLeDiff, true_and, and_true, Bool.not_true, Bool.not_false, Bool.and_true, Bool.true_and, Bool.and_self, reduceCtorEq, true_implies, false_implies, implies_true, decide_eq_true_eq, Option.map_some, Gm, fpX, SOp.xs, oX, refs, KE, dom, Gl, List.all_nil, List.all_cons, List.contains_cons, List.contains_nil, Nat.reduceBEq, Bool.or_false, Bool.false_or, List.append_nil, Bool.not_false, Bool.not_true, List.forall_mem_cons, fm0, List.set, Nat.reduceLT, Nat.reduceMod, ne_eq, not_false_eq_true, not_true_eq_false, GQ, Yn, Yo, Yp, Ki, Jn, Kj, Yq, Kk, Kl, GR, GS, GT, Yr, Ys, Yt, Jo, Jp, decide_true, AV.bool.injEq, AV.int.injEq, Nat.reduceLeDiff, decide_eq_true_eq, decide_eq_false_iff_not, Int.toNat_natCast, List.length_map, decide_false, KH, noref, flatOk, Qb, wkM, Km, Kw, Kx, Ju, QM, Kv, Jv, Kt, Ku, Qn, QN, Classical.not_not, Qr, Qt, Qa, Yw, Ql, List.take_length, List.length_cons, List.length_nil, Nat.zero_add, Ko, Yx, Yy, YG, Zone.row, Qj, QK, Pt.row, Qs, Jw, Aw.row, Qv, Jx, Blk.row, Qg, Qp, Sec.row, Qh, Qu, Rw.row, Qw, Jy, Qi]
  repeat' (first | with_reducible apply And.intro | with_reducible intro _)
  all_goals first | omega | grind [Blk.meet]
def YP : List AV → Option (Prop × AV)
  | [.agg [.int .i64 a_x0, .int .i64 a_y0, .int .i64 a_x1, .int .i64 a_y1, .int .i64 a_lo, .int .i64 a_hi], .agg [.int .i64 b_x0, .int .i64 b_y0, .int .i64 b_x1, .int .i64 b_y1, .int .i64 b_lo, .int .i64 b_hi]] => some ((True) ∧ (True), .bool (decide ((Blk.mk a_x0 a_y0 a_x1 a_y1 a_lo a_hi).meet (Blk.mk b_x0 b_y0 b_x1 b_y1 b_lo b_hi))))
  | _ => none
theorem VT : ∀ args p v, YP args = some (p, v) → p → Contract P 53 args [] v [] ∧ noref v = true ∧ No99 v := by
  intro args p v h1 h2
  unfold YP at h1
  split at h1
  · rename_i a_x0 a_y0 a_x1 a_y1 a_lo a_hi b_x0 b_y0 b_x1 b_y1 b_lo b_hi
    cases h1
    obtain ⟨_, HP⟩ := h2
    have := Qnn (Blk.mk a_x0 a_y0 a_x1 a_y1 a_lo a_hi) (Blk.mk b_x0 b_y0 b_x1 b_y1 b_lo b_hi)
    exact ⟨by simpa only [Blk.row, Blk.row] using this, rfl, trivial⟩
  · cases h1
theorem Qno (b : Blk) (w h lv : Int) (hd : Uj w h lv) (hb : b.ok w h lv) : Contract P 54 [.agg b.row] [] (.int .i64 b.vol) [] := by
  have ho := Qh7 hd hb
  unfold Blk.vol at ho ⊢
  simp only [Blk.row]
  refine QP (Env.nil P) hm Qag (Nat.le_of_ble_eq_true rfl) rfl ?_; unfold ZC; simp (config := { maxSteps := 2000000 }) only [JK, Gr, KO, KP, JL, QW, JM, JN, KQ, Gs, KR, KS, KT, KU, KV, KW, KX, KY, KZ, K1, K2, QX, QY, QZ, JO, JP, JQ, Q0, Q1, Q2, Q3, Q4, Q5, JR, JS, JT, JU, Jq, Jr, Kp, Yv, GU, JV, Qz, Qk, KN, QT, QU, JH, QV, JI, JJ, QS, Qy, JE, JF, KK, JG, KL, KM, Q8, Q9, Qc, Qd, QE, QF, Ja, Jb, QQ, QR, Qe, Qf, GD, GE, JZ, J0, K3, JW, JX, JY, Kb, Kc, Kd, QA, QB, QD, Gt, Gu, Gv, Gw, Q6, Q7, Gy, Gx, Gz, QG, J1, K4, J2, K5, K6, K7, K8, J3, Jc, K9, Jd, Je, Jf, Jg, Jh, QH, QI, Ji, J4, Jj, J5, J6, J7, GA, GB, Ya, Jk, Yb, QJ, KJ, J8, KF, GC, Jl, YF, YE, YD, Gk, List.length_take, Int.toNat_zero, List.drop_zero, YC, Ks, QL, Jt, GX, Yu, Kr, Kq, Js, Yc, J9, Yd, Ye, GF, Yf, Yg, GG, Yh, Ka, Yi, GH, Yj, Yk, GI, GJ, GK, Yl, eff, JB, QO, Ke, Ym, Kf, Kg, Kh, GL, GM, JD, JC, Jm, GN, GO, GP, Y7, pur, List.map, List.drop, List.take, List.length, List.foldl, List.append_eq, List.nil_append, List.cons_append, List.getD_cons_zero, List.getD_cons_succ, reduceIte, Nat.reduceEqDiff, Nat.reduceAdd, Nat.reduceLeDiff, true_and, and_true, Bool.not_true, Bool.not_false, Bool.and_true, Bool.true_and, Bool.and_self, reduceCtorEq, true_implies, false_implies, implies_true, decide_eq_true_eq, Option.map_some, Gm, fpX, SOp.xs, oX, refs, KE, dom, Gl, List.all_nil, List.all_cons, List.contains_cons, List.contains_nil, Nat.reduceBEq, Bool.or_false, Bool.false_or, List.append_nil, Bool.not_false, Bool.not_true, List.forall_mem_cons, fm0, List.set, Nat.reduceLT, Nat.reduceMod, ne_eq, not_false_eq_true, not_true_eq_false, GQ, Yn, Yo, Yp, Ki, Jn, Kj, Yq, Kk, Kl, GR, GS, GT, Yr, Ys, Yt, Jo, Jp, decide_true, AV.bool.injEq, AV.int.injEq, Nat.reduceLeDiff, decide_eq_true_eq, decide_eq_false_iff_not, Int.toNat_natCast, List.length_map, decide_false, KH, noref, flatOk, Qb, wkM, Km, Kw, Kx, Ju, QM, Kv, Jv, Kt, Ku, Qn, QN, Classical.not_not, Qr, Qt, Qa, Yw, Ql, List.take_length, List.length_cons, List.length_nil, Nat.zero_add, Ko, Yx, Yy, YG, Zone.row, Qj, QK, Pt.row, Qs, Jw, Aw.row, Qv, Jx, Blk.row, Qg, Qp, Sec.row, Qh, Qu, Rw.row, Qw, Jy, Qi]
  exact ⟨by omega, by omega, by omega, by omega, by omega, by omega, by omega, by omega⟩
def YQ : List AV → Option (Prop × AV)
  | [.agg [.int .i64 b_x0, .int .i64 b_y0, .int .i64 b_x1, .int .i64 b_y1, .int .i64 b_lo, .int .i64 b_hi]] => some ((True) ∧ (∃ w h lv, Uj w h lv ∧ Blk.ok w h lv (Blk.mk b_x0 b_y0 b_x1 b_y1 b_lo b_hi)), .int .i64 (Blk.vol (Blk.mk b_x0 b_y0 b_x1 b_y1 b_lo b_hi)))
  | _ => none
theorem VU : ∀ args p v, YQ args = some (p, v) → p → Contract P 54 args [] v [] ∧ noref v = true ∧ No99 v := by
  intro args p v h1 h2
  unfold YQ at h1
  split at h1
  · rename_i b_x0 b_y0 b_x1 b_y1 b_lo b_hi
    cases h1
    obtain ⟨_, HP⟩ := h2
    have := Qno (Blk.mk b_x0 b_y0 b_x1 b_y1 b_lo b_hi) _ _ _ HP.choose_spec.choose_spec.choose_spec.1 HP.choose_spec.choose_spec.choose_spec.2
    exact ⟨by simpa only [Blk.row] using this, rfl, trivial⟩
  · cases h1
theorem QlW {t : Int} (h : 1 ≤ t ∧ t ≤ 8) : ∃ rest, List.drop (t.toNat * 2) Qb1 = .int .i64 (dX t) :: .int .i64 (dY t) :: rest := by
  have hc : t = 1 ∨ t = 2 ∨ t = 3 ∨ t = 4 ∨ t = 5 ∨ t = 6 ∨ t = 7 ∨ t = 8 := by omega
  rcases hc with rfl | rfl | rfl | rfl | rfl | rfl | rfl | rfl <;> exact ⟨_, rfl⟩
theorem Qnp (s : Sky) (r : Rw) (hd : Uj s.w s.h s.lv) : Contract P 55 [.agg (s.row 0), .agg r.row] [] (.bool (decide (r.ok s.w s.h))) [] := by
  obtain ⟨nm, x, y, tn⟩ := r
  have hx := QqI tn
  have hy := QqJ tn
  by_cases ht : 1 ≤ tn ∧ tn ≤ 8
  · obtain ⟨rest, e⟩ := QlW ht
    simp only [Sky.row, Rw.row]
    refine QP (((Env.nil P).add 48 YA Zr).add 50 YZ V2) hm Wo (Nat.le_of_ble_eq_true rfl) rfl ?_; unfold ZR; simp (config := { maxSteps := 2000000 }) only [JK, Gr, KO, KP, JL, QW, JM, JN, KQ, Gs, KR, KS, KT, KU, KV, KW, KX, KY, KZ, K1, K2, QX, QY, QZ, JO, JP, JQ, Q0, Q1, Q2, Q3, Q4, Q5, JR, JS, JT, JU, Jq, Jr, Kp, Yv, GU, JV, Qz, Qk, KN, QT, QU, JH, QV, JI, JJ, QS, Qy, JE, JF, KK, JG, KL, KM, Q8, Q9, Qc, Qd, QE, QF, Ja, Jb, QQ, QR, Qe, Qf, GD, GE, JZ, J0, K3, JW, JX, JY, Kb, Kc, Kd, QA, QB, QD, Gt, Gu, Gv, Gw, Q6, Q7, Gy, Gx, Gz, QG, J1, K4, J2, K5, K6, K7, K8, J3, Jc, K9, Jd, Je, Jf, Jg, Jh, QH, QI, Ji, J4, Jj, J5, J6, J7, GA, GB, Ya, Jk, Yb, QJ, KJ, J8, KF, GC, Jl, YF, YE, YD, Gk, List.length_take, Int.toNat_zero, List.drop_zero, YC, Ks, QL, Jt, GX, Yu, Kr, Kq, Js, Yc, J9, Yd, Ye, GF, Yf, Yg, GG, Yh, Ka, Yi, GH, Yj, Yk, GI, GJ, GK, Yl, eff, JB, QO, Ke, Ym, Kf, Kg, Kh, GL, GM, JD, JC, Jm, GN, GO, GP, Y7, pur, List.map, List.drop, List.take, List.length, List.foldl, List.append_eq, List.nil_append, List.cons_append, List.getD_cons_zero, List.getD_cons_succ, reduceIte, Nat.reduceEqDiff, Nat.reduceAdd, Nat.reduceLeDiff, true_and, and_true, Bool.not_true, Bool.not_false, Bool.and_true, Bool.true_and, Bool.and_self, reduceCtorEq, true_implies, false_implies, implies_true, decide_eq_true_eq, Option.map_some, Gm, fpX, SOp.xs, oX, refs, KE, dom, Gl, List.all_nil, List.all_cons, List.contains_cons, List.contains_nil, Nat.reduceBEq, Bool.or_false, Bool.false_or, List.append_nil, Bool.not_false, Bool.not_true, List.forall_mem_cons, fm0, List.set, Nat.reduceLT, Nat.reduceMod, ne_eq, not_false_eq_true, not_true_eq_false, GQ, Yn, Yo, Yp, Ki, Jn, Kj, Yq, Kk, Kl, GR, GS, GT, Yr, Ys, Yt, Jo, Jp, decide_true, AV.bool.injEq, AV.int.injEq, Nat.reduceLeDiff, decide_eq_true_eq, decide_eq_false_iff_not, Int.toNat_natCast, List.length_map, decide_false, KH, noref, flatOk, Qb, wkM, Km, Kw, Kx, Ju, QM, Kv, Jv, Kt, Ku, Qn, QN, Classical.not_not, YA, YZ, Qr, Qt, Qa, Yw, Ql, List.take_length, List.length_cons, List.length_nil, Nat.zero_add, Ko, Yx, Yy, YG, Zone.row, Qj, QK, Pt.row, Qs, Jw, Aw.row, Qv, Jx, Blk.row, Qg, Qp, Sec.row, Qh, Qu, Rw.row, Qw, Jy, Qi, gv0, e, ht, Int.toNat_one, Nat.mul_one, Nat.zero_mul, not_true_eq_false, not_false_eq_true]
    repeat' (first | with_reducible apply And.intro | with_reducible intro _)
    all_goals first | omega | exact hd | (simp only [List.length_cons]; omega) | grind [Rw.ok, X6, Uj]
  · have e : True := trivial
    simp only [Sky.row, Rw.row]
    refine QP (((Env.nil P).add 48 YA Zr).add 50 YZ V2) hm Wo (Nat.le_of_ble_eq_true rfl) rfl ?_; unfold ZR; simp (config := { maxSteps := 2000000 }) only [JK, Gr, KO, KP, JL, QW, JM, JN, KQ, Gs, KR, KS, KT, KU, KV, KW, KX, KY, KZ, K1, K2, QX, QY, QZ, JO, JP, JQ, Q0, Q1, Q2, Q3, Q4, Q5, JR, JS, JT, JU, Jq, Jr, Kp, Yv, GU, JV, Qz, Qk, KN, QT, QU, JH, QV, JI, JJ, QS, Qy, JE, JF, KK, JG, KL, KM, Q8, Q9, Qc, Qd, QE, QF, Ja, Jb, QQ, QR, Qe, Qf, GD, GE, JZ, J0, K3, JW, JX, JY, Kb, Kc, Kd, QA, QB, QD, Gt, Gu, Gv, Gw, Q6, Q7, Gy, Gx, Gz, QG, J1, K4, J2, K5, K6, K7, K8, J3, Jc, K9, Jd, Je, Jf, Jg, Jh, QH, QI, Ji, J4, Jj, J5, J6, J7, GA, GB, Ya, Jk, Yb, QJ, KJ, J8, KF, GC, Jl, YF, YE, YD, Gk, List.length_take, Int.toNat_zero, List.drop_zero, YC, Ks, QL, Jt, GX, Yu, Kr, Kq, Js, Yc, J9, Yd, Ye, GF, Yf, Yg, GG, Yh, Ka, Yi, GH, Yj, Yk, GI, GJ, GK, Yl, eff, JB, QO, Ke, Ym, Kf, Kg, Kh, GL, GM, JD, JC, Jm, GN, GO, GP, Y7, pur, List.map, List.drop, List.take, List.length, List.foldl, List.append_eq, List.nil_append, List.cons_append, List.getD_cons_zero, List.getD_cons_succ, reduceIte, Nat.reduceEqDiff, Nat.reduceAdd, Nat.reduceLeDiff, true_and, and_true, Bool.not_true, Bool.not_false, Bool.and_true, Bool.true_and, Bool.and_self, reduceCtorEq, true_implies, false_implies, implies_true, decide_eq_true_eq, Option.map_some, Gm, fpX, SOp.xs, oX, refs, KE, dom, Gl, List.all_nil, List.all_cons, List.contains_cons, List.contains_nil, Nat.reduceBEq, Bool.or_false, Bool.false_or, List.append_nil, Bool.not_false, Bool.not_true, List.forall_mem_cons, fm0, List.set, Nat.reduceLT, Nat.reduceMod, ne_eq, not_false_eq_true, not_true_eq_false, GQ, Yn, Yo, Yp, Ki, Jn, Kj, Yq, Kk, Kl, GR, GS, GT, Yr, Ys, Yt, Jo, Jp, decide_true, AV.bool.injEq, AV.int.injEq, Nat.reduceLeDiff, decide_eq_true_eq, decide_eq_false_iff_not, Int.toNat_natCast, List.length_map, decide_false, KH, noref, flatOk, Qb, wkM, Km, Kw, Kx, Ju, QM, Kv, Jv, Kt, Ku, Qn, QN, Classical.not_not, YA, YZ, Qr, Qt, Qa, Yw, Ql, List.take_length, List.length_cons, List.length_nil, Nat.zero_add, Ko, Yx, Yy, YG, Zone.row, Qj, QK, Pt.row, Qs, Jw, Aw.row, Qv, Jx, Blk.row, Qg, Qp, Sec.row, Qh, Qu, Rw.row, Qw, Jy, Qi, gv0, e, ht, Int.toNat_one, Nat.mul_one, Nat.zero_mul, not_true_eq_false, not_false_eq_true]
    repeat' (first | with_reducible apply And.intro | with_reducible intro _)
    all_goals first | omega | grind [Rw.ok]
def YR : List AV → Option (Prop × AV)
  | [.agg [.int .i64 s_w, .int .i64 s_h, .int .i64 s_lv, .sl 0 3 s_pts, .sl 0 2 s_aws, .sl 0 2 s_secs, .sl 0 4 s_rws], .agg [.str r_nm, .int .i64 r_x, .int .i64 r_y, .int .i64 r_tn]] => some ((((s_pts.map Y1).map Pt.row = s_pts) ∧ ((s_aws.map Y4).map (Aw.row 0) = s_aws) ∧ ((s_secs.map KC).map (Sec.row 0) = s_secs) ∧ ((s_rws.map Y2).map Rw.row = s_rws)) ∧ (Uj (Sky.mk s_w s_h s_lv (s_pts.map Y1) (s_aws.map Y4) (s_secs.map KC) (s_rws.map Y2)).w (Sky.mk s_w s_h s_lv (s_pts.map Y1) (s_aws.map Y4) (s_secs.map KC) (s_rws.map Y2)).h (Sky.mk s_w s_h s_lv (s_pts.map Y1) (s_aws.map Y4) (s_secs.map KC) (s_rws.map Y2)).lv), .bool (decide ((Rw.mk r_nm r_x r_y r_tn).ok (Sky.mk s_w s_h s_lv (s_pts.map Y1) (s_aws.map Y4) (s_secs.map KC) (s_rws.map Y2)).w (Sky.mk s_w s_h s_lv (s_pts.map Y1) (s_aws.map Y4) (s_secs.map KC) (s_rws.map Y2)).h)))
  | _ => none
theorem VV : ∀ args p v, YR args = some (p, v) → p → Contract P 55 args [] v [] ∧ noref v = true ∧ No99 v := by
  intro args p v h1 h2
  unfold YR at h1
  split at h1
  · rename_i s_w s_h s_lv s_pts s_aws s_secs s_rws r_nm r_x r_y r_tn
    cases h1
    obtain ⟨⟨e0, e1, e2, e3⟩, HP⟩ := h2
    have := Qnp (Sky.mk s_w s_h s_lv (s_pts.map Y1) (s_aws.map Y4) (s_secs.map KC) (s_rws.map Y2)) (Rw.mk r_nm r_x r_y r_tn) HP
    exact ⟨by simpa only [e0, e1, e2, e3, Sky.row, Rw.row] using this, rfl, trivial⟩
  · cases h1
end
end Go.Ve

namespace Go.Ve
noncomputable section
open Go.Proofs
set_option linter.unusedSimpArgs false
set_option linter.unusedVariables false
set_option maxRecDepth 100000
set_option maxHeartbeats 400000 in
theorem QcP (s : Sky) {Q : XT → St → Prop}  (hQ : ∀ bv : Bool, (bv = true ↔ ¬ (Uj s.w s.h s.lv ∧ s.pts.length ≤ 16 ∧ s.aws.length ≤ 8 ∧ s.secs.length ≤ 6 ∧ s.rws.length ≤ 4)) → Q .normal ⟨[(1, .ptr 101 0), (63, .bool bv)], [(101, .box [.int .i64 s.w, .int .i64 s.h, .int .i64 s.lv, .sl 0 3 (s.pts.map Pt.row), .sl 0 2 (s.aws.map (Aw.row 0)), .sl 0 2 (s.secs.map (Sec.row 0)), .sl 0 4 (s.rws.map Rw.row)])]⟩) : SCode.wp (((((((((Env.nil P).add 48 YA Zr).add 49 YN VP).add 50 YZ V2).add 51 YO VS).add 52 Y3 QaV).add 53 YP VT).add 54 YQ VU).add 55 YR VV) ZK Q ⟨[(1, .ptr 101 0)], [(101, .box [.int .i64 s.w, .int .i64 s.h, .int .i64 s.lv, .sl 0 3 (s.pts.map Pt.row), .sl 0 2 (s.aws.map (Aw.row 0)), .sl 0 2 (s.secs.map (Sec.row 0)), .sl 0 4 (s.rws.map Rw.row)])]⟩ := by
  all_goals (unfold ZK; simp (config := { maxSteps := 2000000 }) only [JK, Gr, KO, KP, JL, QW, JM, JN, KQ, Gs, KR, KS, KT, KU, KV, KW, KX, KY, KZ, K1, K2, QX, QY, QZ, JO, JP, JQ, Q0, Q1, Q2, Q3, Q4, Q5, JR, JS, JT, JU, Jq, Jr, Kp, Yv, GU, JV, Qz, Qk, KN, QT, QU, JH, QV, JI, JJ, QS, Qy, JE, JF, KK, JG, KL, KM, Q8, Q9, Qc, Qd, QE, QF, Ja, Jb, QQ, QR, Qe, Qf, GD, GE, JZ, J0, K3, JW, JX, JY, Kb, Kc, Kd, QA, QB, QD, Gt, Gu, Gv, Gw, Q6, Q7, Gy, Gx, Gz, QG, J1, K4, J2, K5, K6, K7, K8, J3, Jc, K9, Jd, Je, Jf, Jg, Jh, QH, QI, Ji, J4, Jj, J5, J6, J7, GA, GB, Ya, Jk, Yb, QJ, KJ, J8, KF, GC, Jl, YF, YE, YD, Gk, List.length_take, Int.toNat_zero, List.drop_zero, YC, Ks, QL, Jt, GX, Yu, Kr, Kq, Js, Yc, J9, Yd, Ye, GF, Yf, Yg, GG, Yh, Ka, Yi, GH, Yj, Yk, GI, GJ, GK, Yl, eff, JB, QO, Ke, Ym, Kf, Kg, Kh, GL, GM, JD, JC, Jm, GN, GO, GP, Y7, pur, List.map, List.drop, List.take, List.length, List.foldl, List.append_eq, List.nil_append, List.cons_append, List.getD_cons_zero, List.getD_cons_succ, reduceIte, Nat.reduceEqDiff, Nat.reduceAdd, Nat.reduceLeDiff, true_and, and_true, Bool.not_true, Bool.not_false, Bool.and_true, Bool.true_and, Bool.and_self, reduceCtorEq, true_implies, false_implies, implies_true, decide_eq_true_eq, Option.map_some, Gm, fpX, SOp.xs, oX, refs, KE, dom, Gl, List.all_nil, List.all_cons, List.contains_cons, List.contains_nil, Nat.reduceBEq, Bool.or_false, Bool.false_or, List.append_nil, Bool.not_false, Bool.not_true, List.forall_mem_cons, fm0, List.set, Nat.reduceLT, Nat.reduceMod, ne_eq, not_false_eq_true, not_true_eq_false, GQ, Yn, Yo, Yp, Ki, Jn, Kj, Yq, Kk, Kl, GR, GS, GT, Yr, Ys, Yt, Jo, Jp, decide_true, AV.bool.injEq, AV.int.injEq, Nat.reduceLeDiff, decide_eq_true_eq, decide_eq_false_iff_not, Int.toNat_natCast, List.length_map, decide_false, KH, noref, flatOk, Qb, wkM, Km, Kw, Kx, Ju, QM, Kv, Jv, Kt, Ku, Qn, QN, Classical.not_not, YA, YN, YZ, YO, Y3, YP, YQ, YR, Qr, Qt, Qa, Yw, Ql, List.take_length, List.length_cons, List.length_nil, Nat.zero_add, Ko, Yx, Yy, YG, Zone.row, Qj, QK, Pt.row, Qs, Jw, Aw.row, Qv, Jx, Blk.row, Qg, Qp, Sec.row, Qh, Qu, Rw.row, Qw, Jy, Qi, G1, G2, Gc, YX, Gb, YW, GZ, Gd])
  repeat' (first | with_reducible apply And.intro | with_reducible intro _)
  all_goals first
    | omega
    | (refine hQ _ ?_
       first
         | grind [Uj]
         | (simp; grind [Uj]))
    | grind [Uj]
set_option maxHeartbeats 400000 in
theorem QcQ (s : Sky) (i : Nat) (cl : List (Int × Int)) {e1 : List (AV × AV)} {w67 : AV} {w68 : AV} {w69 : AV} {Q : XT → St → Prop} (hi : i < s.pts.length) (hl : s.pts.length ≤ 1048576) (hd : Uj s.w s.h s.lv) (hQ : ∀ bv : Bool, (bv = true ↔ ¬ (XG (s.pts.getD i default).nm ∧ (0 < i → slt (s.pts.getD (i - 1) default).nm (s.pts.getD i default).nm) ∧ X6 s.w s.h (s.pts.getD i default).x (s.pts.getD i default).y ∧ ¬ QjQ ((s.pts.getD i default).x, (s.pts.getD i default).y) cl)) → Q .normal ⟨[(1, .ptr 101 0), (3, .ptr 164 0), (4, .ptr 165 0), (6, .ptr 106 0), (7, .ptr 107 0), (67, w67), (68, w68), (69, w69), (112, .bool bv)], [(101, .box [.int .i64 s.w, .int .i64 s.h, .int .i64 s.lv, .sl 0 3 (s.pts.map Pt.row), .sl 0 2 (s.aws.map (Aw.row 0)), .sl 0 2 (s.secs.map (Sec.row 0)), .sl 0 4 (s.rws.map Rw.row)]), (164, .mp 0 e1), (165, .mp 2 (Qah Zv cl)), (106, .box [.str (s.pts.getD i default).nm, .int .i64 (s.pts.getD i default).x, .int .i64 (s.pts.getD i default).y]), (107, .box [.int .i64 (s.pts.getD i default).x, .int .i64 (s.pts.getD i default).y])]⟩) : SCode.wp (((((((((Env.nil P).add 48 YA Zr).add 49 YN VP).add 50 YZ V2).add 51 YO VS).add 52 Y3 QaV).add 53 YP VT).add 54 YQ VU).add 55 YR VV) ZL Q ⟨[(1, .ptr 101 0), (3, .ptr 164 0), (4, .ptr 165 0), (5, .int .i64 i), (6, .ptr 106 0), (7, .ptr 107 0), (67, w67), (68, w68), (69, w69)], [(101, .box [.int .i64 s.w, .int .i64 s.h, .int .i64 s.lv, .sl 0 3 (s.pts.map Pt.row), .sl 0 2 (s.aws.map (Aw.row 0)), .sl 0 2 (s.secs.map (Sec.row 0)), .sl 0 4 (s.rws.map Rw.row)]), (164, .mp 0 e1), (165, .mp 2 (Qah Zv cl)), (106, .box [.str (s.pts.getD i default).nm, .int .i64 (s.pts.getD i default).x, .int .i64 (s.pts.getD i default).y]), (107, .box [.int .i64 (s.pts.getD i default).x, .int .i64 (s.pts.getD i default).y])]⟩ := by
  all_goals (unfold ZL; simp (config := { maxSteps := 2000000 }) only [JK, Gr, KO, KP, JL, QW, JM, JN, KQ, Gs, KR, KS, KT, KU, KV, KW, KX, KY, KZ, K1, K2, QX, QY, QZ, JO, JP, JQ, Q0, Q1, Q2, Q3, Q4, Q5, JR, JS, JT, JU, Jq, Jr, Kp, Yv, GU, JV, Qz, Qk, KN, QT, QU, JH, QV, JI, JJ, QS, Qy, JE, JF, KK, JG, KL, KM, Q8, Q9, Qc, Qd, QE, QF, Ja, Jb, QQ, QR, Qe, Qf, GD, GE, JZ, J0, K3, JW, JX, JY, Kb, Kc, Kd, QA, QB, QD, Gt, Gu, Gv, Gw, Q6, Q7, Gy, Gx, Gz, QG, J1, K4, J2, K5, K6, K7, K8, J3, Jc, K9, Jd, Je, Jf, Jg, Jh, QH, QI, Ji, J4, Jj, J5, J6, J7, GA, GB, Ya, Jk, Yb, QJ, KJ, J8, KF, GC, Jl, YF, YE, YD, Gk, List.length_take, Int.toNat_zero, List.drop_zero, YC, Ks, QL, Jt, GX, Yu, Kr, Kq, Js, Yc, J9, Yd, Ye, GF, Yf, Yg, GG, Yh, Ka, Yi, GH, Yj, Yk, GI, GJ, GK, Yl, eff, JB, QO, Ke, Ym, Kf, Kg, Kh, GL, GM, JD, JC, Jm, GN, GO, GP, Y7, pur, List.map, List.drop, List.take, List.length, List.foldl, List.append_eq, List.nil_append, List.cons_append, List.getD_cons_zero, List.getD_cons_succ, reduceIte, Nat.reduceEqDiff, Nat.reduceAdd, Nat.reduceLeDiff, true_and, and_true, Bool.not_true, Bool.not_false, Bool.and_true, Bool.true_and, Bool.and_self, reduceCtorEq, true_implies, false_implies, implies_true, decide_eq_true_eq, Option.map_some, Gm, fpX, SOp.xs, oX, refs, KE, dom, Gl, List.all_nil, List.all_cons, List.contains_cons, List.contains_nil, Nat.reduceBEq, Bool.or_false, Bool.false_or, List.append_nil, Bool.not_false, Bool.not_true, List.forall_mem_cons, fm0, List.set, Nat.reduceLT, Nat.reduceMod, ne_eq, not_false_eq_true, not_true_eq_false, GQ, Yn, Yo, Yp, Ki, Jn, Kj, Yq, Kk, Kl, GR, GS, GT, Yr, Ys, Yt, Jo, Jp, decide_true, AV.bool.injEq, AV.int.injEq, Nat.reduceLeDiff, decide_eq_true_eq, decide_eq_false_iff_not, Int.toNat_natCast, List.length_map, decide_false, KH, noref, flatOk, Qb, wkM, Km, Kw, Kx, Ju, QM, Kv, Jv, Kt, Ku, Qn, QN, Classical.not_not, YA, YN, YZ, YO, Y3, YP, YQ, YR, Qr, Qt, Qa, Yw, Ql, List.take_length, List.length_cons, List.length_nil, Nat.zero_add, Ko, Yx, Yy, YG, Zone.row, Qj, QK, Pt.row, Qs, Jw, Aw.row, Qv, Jx, Blk.row, Qg, Qp, Sec.row, Qh, Qu, Rw.row, Qw, Jy, Qi, G1, G2, Gc, YX, Gb, YW, GZ, Gd])
  repeat' (first | with_reducible apply And.intro | with_reducible intro _)
  all_goals first
    | omega
    | (refine hQ _ ?_
       first
         | grind [X6, Uj]
         | (simp; grind [X6, Uj]))
    | grind [X6, Uj]
set_option maxHeartbeats 400000 in
theorem QcR (s : Sky) (i : Nat) {e1 e2 : List (AV × AV)} {w120 : AV} {w121 : AV} {w122 : AV} {Q : XT → St → Prop} (hi : i < s.aws.length) (hl : s.aws.length ≤ 1048576) (hQ : ∀ bv : Bool, (bv = true ↔ ¬ (XG (s.aws.getD i default).nm ∧ (0 < i → slt (s.aws.getD (i - 1) default).nm (s.aws.getD i default).nm) ∧ 2 ≤ (s.aws.getD i default).pts.length ∧ (s.aws.getD i default).pts.length ≤ 8)) → Q .normal ⟨[(1, .ptr 101 0), (3, .ptr 164 0), (9, .ptr 109 0), (120, w120), (121, w121), (122, w122), (153, .bool bv)], [(101, .box [.int .i64 s.w, .int .i64 s.h, .int .i64 s.lv, .sl 0 3 (s.pts.map Pt.row), .sl 0 2 (s.aws.map (Aw.row 0)), .sl 0 2 (s.secs.map (Sec.row 0)), .sl 0 4 (s.rws.map Rw.row)]), (164, .mp 0 e1), (165, .mp 2 e2), (109, .box [.str (s.aws.getD i default).nm, .sl 0 1 ((s.aws.getD i default).pts.map Ko)])]⟩) : SCode.wp (((((((((Env.nil P).add 48 YA Zr).add 49 YN VP).add 50 YZ V2).add 51 YO VS).add 52 Y3 QaV).add 53 YP VT).add 54 YQ VU).add 55 YR VV) ZM Q ⟨[(1, .ptr 101 0), (3, .ptr 164 0), (8, .int .i64 i), (9, .ptr 109 0), (120, w120), (121, w121), (122, w122)], [(101, .box [.int .i64 s.w, .int .i64 s.h, .int .i64 s.lv, .sl 0 3 (s.pts.map Pt.row), .sl 0 2 (s.aws.map (Aw.row 0)), .sl 0 2 (s.secs.map (Sec.row 0)), .sl 0 4 (s.rws.map Rw.row)]), (164, .mp 0 e1), (165, .mp 2 e2), (109, .box [.str (s.aws.getD i default).nm, .sl 0 1 ((s.aws.getD i default).pts.map Ko)])]⟩ := by
  all_goals (unfold ZM; simp (config := { maxSteps := 2000000 }) only [JK, Gr, KO, KP, JL, QW, JM, JN, KQ, Gs, KR, KS, KT, KU, KV, KW, KX, KY, KZ, K1, K2, QX, QY, QZ, JO, JP, JQ, Q0, Q1, Q2, Q3, Q4, Q5, JR, JS, JT, JU, Jq, Jr, Kp, Yv, GU, JV, Qz, Qk, KN, QT, QU, JH, QV, JI, JJ, QS, Qy, JE, JF, KK, JG, KL, KM, Q8, Q9, Qc, Qd, QE, QF, Ja, Jb, QQ, QR, Qe, Qf, GD, GE, JZ, J0, K3, JW, JX, JY, Kb, Kc, Kd, QA, QB, QD, Gt, Gu, Gv, Gw, Q6, Q7, Gy, Gx, Gz, QG, J1, K4, J2, K5, K6, K7, K8, J3, Jc, K9, Jd, Je, Jf, Jg, Jh, QH, QI, Ji, J4, Jj, J5, J6, J7, GA, GB, Ya, Jk, Yb, QJ, KJ, J8, KF, GC, Jl, YF, YE, YD, Gk, List.length_take, Int.toNat_zero, List.drop_zero, YC, Ks, QL, Jt, GX, Yu, Kr, Kq, Js, Yc, J9, Yd, Ye, GF, Yf, Yg, GG, Yh, Ka, Yi, GH, Yj, Yk, GI, GJ, GK, Yl, eff, JB, QO, Ke, Ym, Kf, Kg, Kh, GL, GM, JD, JC, Jm, GN, GO, GP, Y7, pur, List.map, List.drop, List.take, List.length, List.foldl, List.append_eq, List.nil_append, List.cons_append, List.getD_cons_zero, List.getD_cons_succ, reduceIte, Nat.reduceEqDiff, Nat.reduceAdd, Nat.reduceLeDiff, true_and, and_true, Bool.not_true, Bool.not_false, Bool.and_true, Bool.true_and, Bool.and_self, reduceCtorEq, true_implies, false_implies, implies_true, decide_eq_true_eq, Option.map_some, Gm, fpX, SOp.xs, oX, refs, KE, dom, Gl, List.all_nil, List.all_cons, List.contains_cons, List.contains_nil, Nat.reduceBEq, Bool.or_false, Bool.false_or, List.append_nil, Bool.not_false, Bool.not_true, List.forall_mem_cons, fm0, List.set, Nat.reduceLT, Nat.reduceMod, ne_eq, not_false_eq_true, not_true_eq_false, GQ, Yn, Yo, Yp, Ki, Jn, Kj, Yq, Kk, Kl, GR, GS, GT, Yr, Ys, Yt, Jo, Jp, decide_true, AV.bool.injEq, AV.int.injEq, Nat.reduceLeDiff, decide_eq_true_eq, decide_eq_false_iff_not, Int.toNat_natCast, List.length_map, decide_false, KH, noref, flatOk, Qb, wkM, Km, Kw, Kx, Ju, QM, Kv, Jv, Kt, Ku, Qn, QN, Classical.not_not, YA, YN, YZ, YO, Y3, YP, YQ, YR, Qr, Qt, Qa, Yw, Ql, List.take_length, List.length_cons, List.length_nil, Nat.zero_add, Ko, Yx, Yy, YG, Zone.row, Qj, QK, Pt.row, Qs, Jw, Aw.row, Qv, Jx, Blk.row, Qg, Qp, Sec.row, Qh, Qu, Rw.row, Qw, Jy, Qi, G1, G2, Gc, YX, Gb, YW, GZ, Gd])
  repeat' (first | with_reducible apply And.intro | with_reducible intro _)
  all_goals first
    | omega
    | (refine hQ _ ?_
       first
         | grind []
         | (simp; grind []))
    | grind []
set_option maxHeartbeats 400000 in
theorem QcS (s : Sky) (i m : Nat) {rows : List (List AV)} {e1 e2 : List (AV × AV)} {w14 : AV} {w176 : AV} {w177 : AV} {w178 : AV} {Q : XT → St → Prop} (hi : i < s.secs.length) (hl : s.secs.length ≤ 1048576) (hQ : ∀ bv : Bool, (bv = true ↔ ¬ (XG (s.secs.getD i default).nm ∧ (0 < i → slt (s.secs.getD (i - 1) default).nm (s.secs.getD i default).nm) ∧ 1 ≤ (s.secs.getD i default).bl.length ∧ (s.secs.getD i default).bl.length ≤ 4)) → Q .normal ⟨[(1, .ptr 101 0), (13, .own 113 m 0 m), (14, w14), (16, .ptr 116 0), (176, w176), (177, w177), (178, w178), (209, .bool bv)], [(101, .box [.int .i64 s.w, .int .i64 s.h, .int .i64 s.lv, .sl 0 3 (s.pts.map Pt.row), .sl 0 2 (s.aws.map (Aw.row 0)), .sl 0 2 (s.secs.map (Sec.row 0)), .sl 0 4 (s.rws.map Rw.row)]), (164, .mp 0 e1), (165, .mp 2 e2), (113, .arr 99 m 6 rows), (116, .box [.str (s.secs.getD i default).nm, .sl 0 6 ((s.secs.getD i default).bl.map Blk.row)])]⟩) : SCode.wp (((((((((Env.nil P).add 48 YA Zr).add 49 YN VP).add 50 YZ V2).add 51 YO VS).add 52 Y3 QaV).add 53 YP VT).add 54 YQ VU).add 55 YR VV) ZN Q ⟨[(1, .ptr 101 0), (13, .own 113 m 0 m), (14, w14), (15, .int .i64 i), (16, .ptr 116 0), (176, w176), (177, w177), (178, w178)], [(101, .box [.int .i64 s.w, .int .i64 s.h, .int .i64 s.lv, .sl 0 3 (s.pts.map Pt.row), .sl 0 2 (s.aws.map (Aw.row 0)), .sl 0 2 (s.secs.map (Sec.row 0)), .sl 0 4 (s.rws.map Rw.row)]), (164, .mp 0 e1), (165, .mp 2 e2), (113, .arr 99 m 6 rows), (116, .box [.str (s.secs.getD i default).nm, .sl 0 6 ((s.secs.getD i default).bl.map Blk.row)])]⟩ := by
  all_goals (unfold ZN; simp (config := { maxSteps := 2000000 }) only [JK, Gr, KO, KP, JL, QW, JM, JN, KQ, Gs, KR, KS, KT, KU, KV, KW, KX, KY, KZ, K1, K2, QX, QY, QZ, JO, JP, JQ, Q0, Q1, Q2, Q3, Q4, Q5, JR, JS, JT, JU, Jq, Jr, Kp, Yv, GU, JV, Qz, Qk, KN, QT, QU, JH, QV, JI, JJ, QS, Qy, JE, JF, KK, JG, KL, KM, Q8, Q9, Qc, Qd, QE, QF, Ja, Jb, QQ, QR, Qe, Qf, GD, GE, JZ, J0, K3, JW, JX, JY, Kb, Kc, Kd, QA, QB, QD, Gt, Gu, Gv, Gw, Q6, Q7, Gy, Gx, Gz, QG, J1, K4, J2, K5, K6, K7, K8, J3, Jc, K9, Jd, Je, Jf, Jg, Jh, QH, QI, Ji, J4, Jj, J5, J6, J7, GA, GB, Ya, Jk, Yb, QJ, KJ, J8, KF, GC, Jl, YF, YE, YD, Gk, List.length_take, Int.toNat_zero, List.drop_zero, YC, Ks, QL, Jt, GX, Yu, Kr, Kq, Js, Yc, J9, Yd, Ye, GF, Yf, Yg, GG, Yh, Ka, Yi, GH, Yj, Yk, GI, GJ, GK, Yl, eff, JB, QO, Ke, Ym, Kf, Kg, Kh, GL, GM, JD, JC, Jm, GN, GO, GP, Y7, pur, List.map, List.drop, List.take, List.length, List.foldl, List.append_eq, List.nil_append, List.cons_append, List.getD_cons_zero, List.getD_cons_succ, reduceIte, Nat.reduceEqDiff, Nat.reduceAdd, Nat.reduceLeDiff, true_and, and_true, Bool.not_true, Bool.not_false, Bool.and_true, Bool.true_and, Bool.and_self, reduceCtorEq, true_implies, false_implies, implies_true, decide_eq_true_eq, Option.map_some, Gm, fpX, SOp.xs, oX, refs, KE, dom, Gl, List.all_nil, List.all_cons, List.contains_cons, List.contains_nil, Nat.reduceBEq, Bool.or_false, Bool.false_or, List.append_nil, Bool.not_false, Bool.not_true, List.forall_mem_cons, fm0, List.set, Nat.reduceLT, Nat.reduceMod, ne_eq, not_false_eq_true, not_true_eq_false, GQ, Yn, Yo, Yp, Ki, Jn, Kj, Yq, Kk, Kl, GR, GS, GT, Yr, Ys, Yt, Jo, Jp, decide_true, AV.bool.injEq, AV.int.injEq, Nat.reduceLeDiff, decide_eq_true_eq, decide_eq_false_iff_not, Int.toNat_natCast, List.length_map, decide_false, KH, noref, flatOk, Qb, wkM, Km, Kw, Kx, Ju, QM, Kv, Jv, Kt, Ku, Qn, QN, Classical.not_not, YA, YN, YZ, YO, Y3, YP, YQ, YR, Qr, Qt, Qa, Yw, Ql, List.take_length, List.length_cons, List.length_nil, Nat.zero_add, Ko, Yx, Yy, YG, Zone.row, Qj, QK, Pt.row, Qs, Jw, Aw.row, Qv, Jx, Blk.row, Qg, Qp, Sec.row, Qh, Qu, Rw.row, Qw, Jy, Qi, G1, G2, Gc, YX, Gb, YW, GZ, Gd])
  repeat' (first | with_reducible apply And.intro | with_reducible intro _)
  all_goals first
    | omega
    | (refine hQ _ ?_
       first
         | grind []
         | (simp; grind []))
    | grind []
set_option maxHeartbeats 400000 in
theorem QcT (s : Sky) (i k m : Nat) {rows : List (List AV)} {e1 e2 : List (AV × AV)} {w14 : AV} {w176 : AV} {w177 : AV} {w178 : AV} {w211 : AV} {w212 : AV} {w213 : AV} {Q : XT → St → Prop} (hk : k < (s.secs.getD i default).bl.length) (hl : (s.secs.getD i default).bl.length ≤ 1048576) (hQ : ∀ bv : Bool, (bv = true ↔ ¬ QdV s.w s.h s.lv (s.secs.getD i default).bl k) → Q .normal ⟨[(1, .ptr 101 0), (13, .own 113 m 0 m), (14, w14), (16, .ptr 116 0), (18, .ptr 118 0), (176, w176), (177, w177), (178, w178), (211, w211), (212, w212), (213, w213), (236, .bool bv)], [(101, .box [.int .i64 s.w, .int .i64 s.h, .int .i64 s.lv, .sl 0 3 (s.pts.map Pt.row), .sl 0 2 (s.aws.map (Aw.row 0)), .sl 0 2 (s.secs.map (Sec.row 0)), .sl 0 4 (s.rws.map Rw.row)]), (164, .mp 0 e1), (165, .mp 2 e2), (113, .arr 99 m 6 rows), (116, .box [.str (s.secs.getD i default).nm, .sl 0 6 ((s.secs.getD i default).bl.map Blk.row)]), (118, .box [.int .i64 ((s.secs.getD i default).bl.getD k default).x0, .int .i64 ((s.secs.getD i default).bl.getD k default).y0, .int .i64 ((s.secs.getD i default).bl.getD k default).x1, .int .i64 ((s.secs.getD i default).bl.getD k default).y1, .int .i64 ((s.secs.getD i default).bl.getD k default).lo, .int .i64 ((s.secs.getD i default).bl.getD k default).hi])]⟩) : SCode.wp (((((((((Env.nil P).add 48 YA Zr).add 49 YN VP).add 50 YZ V2).add 51 YO VS).add 52 Y3 QaV).add 53 YP VT).add 54 YQ VU).add 55 YR VV) ZO Q ⟨[(1, .ptr 101 0), (13, .own 113 m 0 m), (14, w14), (16, .ptr 116 0), (17, .int .i64 k), (18, .ptr 118 0), (176, w176), (177, w177), (178, w178), (211, w211), (212, w212), (213, w213)], [(101, .box [.int .i64 s.w, .int .i64 s.h, .int .i64 s.lv, .sl 0 3 (s.pts.map Pt.row), .sl 0 2 (s.aws.map (Aw.row 0)), .sl 0 2 (s.secs.map (Sec.row 0)), .sl 0 4 (s.rws.map Rw.row)]), (164, .mp 0 e1), (165, .mp 2 e2), (113, .arr 99 m 6 rows), (116, .box [.str (s.secs.getD i default).nm, .sl 0 6 ((s.secs.getD i default).bl.map Blk.row)]), (118, .box [.int .i64 ((s.secs.getD i default).bl.getD k default).x0, .int .i64 ((s.secs.getD i default).bl.getD k default).y0, .int .i64 ((s.secs.getD i default).bl.getD k default).x1, .int .i64 ((s.secs.getD i default).bl.getD k default).y1, .int .i64 ((s.secs.getD i default).bl.getD k default).lo, .int .i64 ((s.secs.getD i default).bl.getD k default).hi])]⟩ := by
  all_goals (unfold ZO; simp (config := { maxSteps := 2000000 }) only [JK, Gr, KO, KP, JL, QW, JM, JN, KQ, Gs, KR, KS, KT, KU, KV, KW, KX, KY, KZ, K1, K2, QX, QY, QZ, JO, JP, JQ, Q0, Q1, Q2, Q3, Q4, Q5, JR, JS, JT, JU, Jq, Jr, Kp, Yv, GU, JV, Qz, Qk, KN, QT, QU, JH, QV, JI, JJ, QS, Qy, JE, JF, KK, JG, KL, KM, Q8, Q9, Qc, Qd, QE, QF, Ja, Jb, QQ, QR, Qe, Qf, GD, GE, JZ, J0, K3, JW, JX, JY, Kb, Kc, Kd, QA, QB, QD, Gt, Gu, Gv, Gw, Q6, Q7, Gy, Gx, Gz, QG, J1, K4, J2, K5, K6, K7, K8, J3, Jc, K9, Jd, Je, Jf, Jg, Jh, QH, QI, Ji, J4, Jj, J5, J6, J7, GA, GB, Ya, Jk, Yb, QJ, KJ, J8, KF, GC, Jl, YF, YE, YD, Gk, List.length_take, Int.toNat_zero, List.drop_zero, YC, Ks, QL, Jt, GX, Yu, Kr, Kq, Js, Yc, J9, Yd, Ye, GF, Yf, Yg, GG, Yh, Ka, Yi, GH, Yj, Yk, GI, GJ, GK, Yl, eff, JB, QO, Ke, Ym, Kf, Kg, Kh, GL, GM, JD, JC, Jm, GN, GO, GP, Y7, pur, List.map, List.drop, List.take, List.length, List.foldl, List.append_eq, List.nil_append, List.cons_append, List.getD_cons_zero, List.getD_cons_succ, reduceIte, Nat.reduceEqDiff, Nat.reduceAdd, Nat.reduceLeDiff, true_and, and_true, Bool.not_true, Bool.not_false, Bool.and_true, Bool.true_and, Bool.and_self, reduceCtorEq, true_implies, false_implies, implies_true, decide_eq_true_eq, Option.map_some, Gm, fpX, SOp.xs, oX, refs, KE, dom, Gl, List.all_nil, List.all_cons, List.contains_cons, List.contains_nil, Nat.reduceBEq, Bool.or_false, Bool.false_or, List.append_nil, Bool.not_false, Bool.not_true, List.forall_mem_cons, fm0, List.set, Nat.reduceLT, Nat.reduceMod, ne_eq, not_false_eq_true, not_true_eq_false, GQ, Yn, Yo, Yp, Ki, Jn, Kj, Yq, Kk, Kl, GR, GS, GT, Yr, Ys, Yt, Jo, Jp, decide_true, AV.bool.injEq, AV.int.injEq, Nat.reduceLeDiff, decide_eq_true_eq, decide_eq_false_iff_not, Int.toNat_natCast, List.length_map, decide_false, KH, noref, flatOk, Qb, wkM, Km, Kw, Kx, Ju, QM, Kv, Jv, Kt, Ku, Qn, QN, Classical.not_not, YA, YN, YZ, YO, Y3, YP, YQ, YR, Qr, Qt, Qa, Yw, Ql, List.take_length, List.length_cons, List.length_nil, Nat.zero_add, Ko, Yx, Yy, YG, Zone.row, Qj, QK, Pt.row, Qs, Jw, Aw.row, Qv, Jx, Blk.row, Qg, Qp, Sec.row, Qh, Qu, Rw.row, Qw, Jy, Qi, G1, G2, Gc, YX, Gb, YW, GZ, Gd])
  repeat' (first | with_reducible apply And.intro | with_reducible intro _)
  all_goals first
    | omega
    | (refine hQ _ ?_
       first
         | grind [QdV]
         | (simp; grind [QdV]))
    | grind [QdV]
set_option maxHeartbeats 400000 in
theorem QcU (s : Sky) (n : Int) (m : Nat) {rows : List (List AV)} {e1 e2 : List (AV × AV)} {w13 : AV} {w176 : AV} {w177 : AV} {w178 : AV} {w179 : AV} {Q : XT → St → Prop} (hm : (1 ≤ s.w * s.h ∧ s.w * s.h ≤ 256) ∧ 1 ≤ s.w * s.h * s.lv ∧ s.w * s.h * s.lv ≤ 1536) (hQ : ∀ bv : Bool, (bv = true ↔ ¬ (n = s.w * s.h * s.lv)) → Q .normal ⟨[(1, .ptr 101 0), (266, .bool bv)], [(101, .box [.int .i64 s.w, .int .i64 s.h, .int .i64 s.lv, .sl 0 3 (s.pts.map Pt.row), .sl 0 2 (s.aws.map (Aw.row 0)), .sl 0 2 (s.secs.map (Sec.row 0)), .sl 0 4 (s.rws.map Rw.row)]), (164, .mp 0 e1), (165, .mp 2 e2), (113, .arr 99 m 6 rows)]⟩) : SCode.wp (((((((((Env.nil P).add 48 YA Zr).add 49 YN VP).add 50 YZ V2).add 51 YO VS).add 52 Y3 QaV).add 53 YP VT).add 54 YQ VU).add 55 YR VV) ZP Q ⟨[(1, .ptr 101 0), (13, w13), (14, .int .i64 n), (176, w176), (177, w177), (178, w178), (179, w179)], [(101, .box [.int .i64 s.w, .int .i64 s.h, .int .i64 s.lv, .sl 0 3 (s.pts.map Pt.row), .sl 0 2 (s.aws.map (Aw.row 0)), .sl 0 2 (s.secs.map (Sec.row 0)), .sl 0 4 (s.rws.map Rw.row)]), (164, .mp 0 e1), (165, .mp 2 e2), (113, .arr 99 m 6 rows)]⟩ := by
  all_goals (unfold ZP; simp (config := { maxSteps := 2000000 }) only [JK, Gr, KO, KP, JL, QW, JM, JN, KQ, Gs, KR, KS, KT, KU, KV, KW, KX, KY, KZ, K1, K2, QX, QY, QZ, JO, JP, JQ, Q0, Q1, Q2, Q3, Q4, Q5, JR, JS, JT, JU, Jq, Jr, Kp, Yv, GU, JV, Qz, Qk, KN, QT, QU, JH, QV, JI, JJ, QS, Qy, JE, JF, KK, JG, KL, KM, Q8, Q9, Qc, Qd, QE, QF, Ja, Jb, QQ, QR, Qe, Qf, GD, GE, JZ, J0, K3, JW, JX, JY, Kb, Kc, Kd, QA, QB, QD, Gt, Gu, Gv, Gw, Q6, Q7, Gy, Gx, Gz, QG, J1, K4, J2, K5, K6, K7, K8, J3, Jc, K9, Jd, Je, Jf, Jg, Jh, QH, QI, Ji, J4, Jj, J5, J6, J7, GA, GB, Ya, Jk, Yb, QJ, KJ, J8, KF, GC, Jl, YF, YE, YD, Gk, List.length_take, Int.toNat_zero, List.drop_zero, YC, Ks, QL, Jt, GX, Yu, Kr, Kq, Js, Yc, J9, Yd, Ye, GF, Yf, Yg, GG, Yh, Ka, Yi, GH, Yj, Yk, GI, GJ, GK, Yl, eff, JB, QO, Ke, Ym, Kf, Kg, Kh, GL, GM, JD, JC, Jm, GN, GO, GP, Y7, pur, List.map, List.drop, List.take, List.length, List.foldl, List.append_eq, List.nil_append, List.cons_append, List.getD_cons_zero, List.getD_cons_succ, reduceIte, Nat.reduceEqDiff, Nat.reduceAdd, Nat.reduceLeDiff, true_and, and_true, Bool.not_true, Bool.not_false, Bool.and_true, Bool.true_and, Bool.and_self, reduceCtorEq, true_implies, false_implies, implies_true, decide_eq_true_eq, Option.map_some, Gm, fpX, SOp.xs, oX, refs, KE, dom, Gl, List.all_nil, List.all_cons, List.contains_cons, List.contains_nil, Nat.reduceBEq, Bool.or_false, Bool.false_or, List.append_nil, Bool.not_false, Bool.not_true, List.forall_mem_cons, fm0, List.set, Nat.reduceLT, Nat.reduceMod, ne_eq, not_false_eq_true, not_true_eq_false, GQ, Yn, Yo, Yp, Ki, Jn, Kj, Yq, Kk, Kl, GR, GS, GT, Yr, Ys, Yt, Jo, Jp, decide_true, AV.bool.injEq, AV.int.injEq, Nat.reduceLeDiff, decide_eq_true_eq, decide_eq_false_iff_not, Int.toNat_natCast, List.length_map, decide_false, KH, noref, flatOk, Qb, wkM, Km, Kw, Kx, Ju, QM, Kv, Jv, Kt, Ku, Qn, QN, Classical.not_not, YA, YN, YZ, YO, Y3, YP, YQ, YR, Qr, Qt, Qa, Yw, Ql, List.take_length, List.length_cons, List.length_nil, Nat.zero_add, Ko, Yx, Yy, YG, Zone.row, Qj, QK, Pt.row, Qs, Jw, Aw.row, Qv, Jx, Blk.row, Qg, Qp, Sec.row, Qh, Qu, Rw.row, Qw, Jy, Qi, G1, G2, Gc, YX, Gb, YW, GZ, Gd])
  repeat' (first | with_reducible apply And.intro | with_reducible intro _)
  all_goals first
    | omega
    | (refine hQ _ ?_
       first
         | grind []
         | (simp; grind []))
    | grind []
set_option maxHeartbeats 400000 in
theorem QcV (s : Sky) (i m : Nat) (cl : List (Int × Int)) {rows : List (List AV)} {e1 e2 : List (AV × AV)} {w269 : AV} {w270 : AV} {w271 : AV} {Q : XT → St → Prop} (hi : i < s.rws.length) (hl : s.rws.length ≤ 1048576) (hd : Uj s.w s.h s.lv) (hQ : ∀ bv : Bool, (bv = true ↔ ¬ (XG (s.rws.getD i default).nm ∧ (0 < i → slt (s.rws.getD (i - 1) default).nm (s.rws.getD i default).nm) ∧ (s.rws.getD i default).ok s.w s.h ∧ ¬ QjQ ((s.rws.getD i default).x, (s.rws.getD i default).y) cl)) → Q .normal ⟨[(1, .ptr 101 0), (4, .ptr 367 0), (23, .ptr 123 0), (269, w269), (270, w270), (271, w271), (311, .bool bv)], [(101, .box [.int .i64 s.w, .int .i64 s.h, .int .i64 s.lv, .sl 0 3 (s.pts.map Pt.row), .sl 0 2 (s.aws.map (Aw.row 0)), .sl 0 2 (s.secs.map (Sec.row 0)), .sl 0 4 (s.rws.map Rw.row)]), (164, .mp 0 e1), (165, .mp 2 e2), (113, .arr 99 m 6 rows), (367, .mp 2 (Qah Zv cl)), (122, .box [.str (s.rws.getD i default).nm, .int .i64 (s.rws.getD i default).x, .int .i64 (s.rws.getD i default).y, .int .i64 (s.rws.getD i default).tn]), (123, .box [.int .i64 (s.rws.getD i default).x, .int .i64 (s.rws.getD i default).y])]⟩) : SCode.wp (((((((((Env.nil P).add 48 YA Zr).add 49 YN VP).add 50 YZ V2).add 51 YO VS).add 52 Y3 QaV).add 53 YP VT).add 54 YQ VU).add 55 YR VV) ZQ Q ⟨[(1, .ptr 101 0), (4, .ptr 367 0), (21, .int .i64 i), (22, .ptr 122 0), (23, .ptr 123 0), (269, w269), (270, w270), (271, w271)], [(101, .box [.int .i64 s.w, .int .i64 s.h, .int .i64 s.lv, .sl 0 3 (s.pts.map Pt.row), .sl 0 2 (s.aws.map (Aw.row 0)), .sl 0 2 (s.secs.map (Sec.row 0)), .sl 0 4 (s.rws.map Rw.row)]), (164, .mp 0 e1), (165, .mp 2 e2), (113, .arr 99 m 6 rows), (367, .mp 2 (Qah Zv cl)), (122, .box [.str (s.rws.getD i default).nm, .int .i64 (s.rws.getD i default).x, .int .i64 (s.rws.getD i default).y, .int .i64 (s.rws.getD i default).tn]), (123, .box [.int .i64 (s.rws.getD i default).x, .int .i64 (s.rws.getD i default).y])]⟩ := by
  all_goals (unfold ZQ; simp (config := { maxSteps := 2000000 }) only [JK, Gr, KO, KP, JL, QW, JM, JN, KQ, Gs, KR, KS, KT, KU, KV, KW, KX, KY, KZ, K1, K2, QX, QY, QZ, JO, JP, JQ, Q0, Q1, Q2, Q3, Q4, Q5, JR, JS, JT, JU, Jq, Jr, Kp, Yv, GU, JV, Qz, Qk, KN, QT, QU, JH, QV, JI, JJ, QS, Qy, JE, JF, KK, JG, KL, KM, Q8, Q9, Qc, Qd, QE, QF, Ja, Jb, QQ, QR, Qe, Qf, GD, GE, JZ, J0, K3, JW, JX, JY, Kb, Kc, Kd, QA, QB, QD, Gt, Gu, Gv, Gw, Q6, Q7, Gy, Gx, Gz, QG, J1, K4, J2, K5, K6, K7, K8, J3, Jc, K9, Jd, Je, Jf, Jg, Jh, QH, QI, Ji, J4, Jj, J5, J6, J7, GA, GB, Ya, Jk, Yb, QJ, KJ, J8, KF, GC, Jl, YF, YE, YD, Gk, List.length_take, Int.toNat_zero, List.drop_zero, YC, Ks, QL, Jt, GX, Yu, Kr, Kq, Js, Yc, J9, Yd, Ye, GF, Yf, Yg, GG, Yh, Ka, Yi, GH, Yj, Yk, GI, GJ, GK, Yl, eff, JB, QO, Ke, Ym, Kf, Kg, Kh, GL, GM, JD, JC, Jm, GN, GO, GP, Y7, pur, List.map, List.drop, List.take, List.length, List.foldl, List.append_eq, List.nil_append, List.cons_append, List.getD_cons_zero, List.getD_cons_succ, reduceIte, Nat.reduceEqDiff, Nat.reduceAdd, Nat.reduceLeDiff, true_and, and_true, Bool.not_true, Bool.not_false, Bool.and_true, Bool.true_and, Bool.and_self, reduceCtorEq, true_implies, false_implies, implies_true, decide_eq_true_eq, Option.map_some, Gm, fpX, SOp.xs, oX, refs, KE, dom, Gl, List.all_nil, List.all_cons, List.contains_cons, List.contains_nil, Nat.reduceBEq, Bool.or_false, Bool.false_or, List.append_nil, Bool.not_false, Bool.not_true, List.forall_mem_cons, fm0, List.set, Nat.reduceLT, Nat.reduceMod, ne_eq, not_false_eq_true, not_true_eq_false, GQ, Yn, Yo, Yp, Ki, Jn, Kj, Yq, Kk, Kl, GR, GS, GT, Yr, Ys, Yt, Jo, Jp, decide_true, AV.bool.injEq, AV.int.injEq, Nat.reduceLeDiff, decide_eq_true_eq, decide_eq_false_iff_not, Int.toNat_natCast, List.length_map, decide_false, KH, noref, flatOk, Qb, wkM, Km, Kw, Kx, Ju, QM, Kv, Jv, Kt, Ku, Qn, QN, Classical.not_not, YA, YN, YZ, YO, Y3, YP, YQ, YR, Qr, Qt, Qa, Yw, Ql, List.take_length, List.length_cons, List.length_nil, Nat.zero_add, Ko, Yx, Yy, YG, Zone.row, Qj, QK, Pt.row, Qs, Jw, Aw.row, Qv, Jx, Blk.row, Qg, Qp, Sec.row, Qh, Qu, Rw.row, Qw, Jy, Qi, G1, G2, Gc, YX, Gb, YW, GZ, Gd])
  repeat' (first | with_reducible apply And.intro | with_reducible intro _)
  all_goals first
    | omega
    | (refine hQ _ ?_
       first
         | grind [Rw.ok, X6, Uj]
         | (simp; grind [Rw.ok, X6, Uj]))
    | grind [Rw.ok, X6, Uj]
theorem QlX {l : List Pt} {q : ByteArray} : QjQ q (l.map (·.nm)) ↔ 0 ≤ Xm l q := by
  unfold QjQ Xm
  rw [QoW]
  constructor
  · intro h
    have h : q ∈ (l.take l.length).map (·.nm) := by rw [List.take_length]; exact h
    obtain ⟨k, hk, e⟩ := (VR (Nat.le_refl _)).1 h
    exact ⟨k, hk, by simpa using e⟩
  · rintro ⟨k, hk, e⟩
    have := (VR (f := (·.nm)) (l := l) (Nat.le_refl _) (q := q)).2 ⟨k, hk, by simpa using e⟩
    rwa [List.take_length] at this
theorem QlY {l : List ByteArray} {i : Nat} (hi : i ≤ l.length) {q : ByteArray} : QjQ q (l.take i) ↔ ∃ k, k < i ∧ l.getD k default = q := by
  have := VR (f := fun x : ByteArray => x) hi (q := q)
  rwa [List.map_id'] at this
theorem Qh9 {α : Type} [Inhabited α] {f : α → Int × Int} {l : List α} {i : Nat} (hi : i ≤ l.length) {q : Int × Int} : QjQ q ((l.take i).map f) ↔ ∃ k, k < i ∧ f (l.getD k default) = q := VR hi
theorem Qia {α : Type} [Inhabited α] {l : List α} {i : Nat} (hi : i < l.length) : l.take (i + 1) = l.take i ++ [l.getD i default] := by
  have e : l.getD i default = l[i] := by simp [hi]
  rw [e, List.take_succ_eq_append_getElem hi]
end
end Go.Ve

namespace Go.Ve
noncomputable section
open Go.Proofs
set_option linter.unusedSimpArgs false
set_option linter.unusedVariables false
set_option maxRecDepth 100000
def pre (l : List Sec) (i k : Nat) : List Blk := Y9 (l.take i) ++ (l.getD i default).bl.take k
theorem QjS {l : List Sec} {i : Nat} : pre l i 0 = Y9 (l.take i) := by simp [pre]
theorem QjT {l : List Sec} {i k : Nat} (hk : k < (l.getD i default).bl.length) : pre l i (k + 1) = pre l i k ++ [(l.getD i default).bl.getD k default] := by
  unfold pre; rw [Qia hk, List.append_assoc]
theorem Qpd {l : List Sec} {i : Nat} (hi : i < l.length) : pre l i (l.getD i default).bl.length = Y9 (l.take (i + 1)) := by
  unfold pre; rw [List.take_length, Vf hi]
theorem Qpe {l : List Sec} {i k : Nat} (hi : i < l.length) : (pre l i k).Sublist (Y9 l) := by
  have h1 : (pre l i k).Sublist (Y9 (l.take (i + 1))) := by
    rw [Vf hi]; exact List.Sublist.append (List.Sublist.refl _) (List.take_sublist _ _)
  have h2 : (Y9 (l.take (i + 1))).Sublist (Y9 l) := by
    have : Y9 l = Y9 (l.take (i + 1)) ++ Y9 (l.drop (i + 1)) := by
      have h := List.take_append_drop (i + 1) l
      conv => lhs; rw [← h]
      simp only [Y9, List.flatMap_append]
    rw [this]; exact List.sublist_append_left _ _
  exact h1.trans h2
theorem Qe7 {l : List Sec} : ∀ {i : Nat}, i ≤ l.length → (∀ j, j < i → (l.getD j default).bl.length ≤ 4) → (Y9 (l.take i)).length ≤ 4 * i
  | 0, _, _ => by simp [Y9]
  | i + 1, hi, h => by
    rw [Vf (by omega), List.length_append]
    have := Qe7 (l := l) (i := i) (by omega) fun j hj => h j (by omega)
    have := h i (by omega); omega
theorem Qnq {l : List Blk} {b : Blk} : QjL (l ++ [b]) = QjL l + b.vol := by simp [QjL]
theorem QqK {w h lv : Int} {l : List Sec} {i k : Nat} (hi : i < l.length) (h1 : ∀ j, j < i → Qh4 w h lv l j) (hk : k ≤ (l.getD i default).bl.length) (h2 : ∀ j, j < k → QdV w h lv (l.getD i default).bl j) : ∀ b ∈ pre l i k, b.ok w h lv := by
  intro b hb
  unfold pre at hb
  rw [List.mem_append] at hb
  rcases hb with hb | hb
  · simp only [Y9, List.mem_flatMap] at hb
    obtain ⟨x, hx, hb⟩ := hb
    obtain ⟨j, hj, rfl⟩ := List.mem_iff_getElem.1 hx
    rw [List.length_take] at hj
    rw [List.getElem_take] at hb
    obtain ⟨q, hq, rfl⟩ := List.mem_iff_getElem.1 hb
    have := ((h1 j (by omega)).2.2.2 q (by simpa [show j < l.length by omega] using hq)).1
    simpa [show j < l.length by omega, hq] using this
  · obtain ⟨q, hq, rfl⟩ := List.mem_iff_getElem.1 hb
    rw [List.length_take] at hq
    rw [List.getElem_take]
    have := (h2 q (by omega)).1
    rwa [List.getD_eq_getElem?_getD, List.getElem?_eq_getElem (by omega)] at this
def Qe8 (l : List Blk) : Prop := l.Pairwise fun a b => ¬ a.meet b
theorem Qib {l : List Blk} : (∀ i, i < l.length → Qgu l i) ↔ Qe8 l := by
  unfold Qe8 Qgu
  rw [List.pairwise_iff_getElem]
  constructor
  · intro h i j hi hj hij
    have := h j hj i hij
    simpa [hi, hj] using this
  · intro h i hi k hk
    have := h k i (by omega) hi hk
    simpa [hi, show k < l.length by omega] using this
theorem QfY {l : List Blk} {b : Blk} : Qe8 (l ++ [b]) ↔ Qe8 l ∧ ∀ k, k < l.length → ¬ (l.getD k default).meet b := by
  unfold Qe8
  rw [List.pairwise_append]
  constructor
  · rintro ⟨h1, _, h3⟩
    exact ⟨h1, fun k hk => h3 _ (QgC hk) b (by simp)⟩
  · rintro ⟨h1, h2⟩
    refine ⟨h1, List.pairwise_singleton _ _, fun a ha b' hb' => ?_⟩
    obtain ⟨k, hk, rfl⟩ := List.mem_iff_getElem.1 ha
    have := h2 k hk
    simp only [List.mem_singleton] at hb'
    subst hb'
    simpa [hk] using this
set_option maxHeartbeats 2000000 in
theorem Qi7 (s : Sky) (hs : s.small) (hf : s.fitp) : Contract P 25 [.agg (s.row 0)] [] (.bool (decide s.valid)) [] := by
  have hs1 := hs.1; have hs2 := hs.2.1.1; have hs3 := hs.2.2.1.1; have hs4 := hs.2.2.2
  simp only [Sky.row]
  refine QP (((((((((Env.nil P).add 48 YA Zr).add 49 YN VP).add 50 YZ V2).add 51 YO VS).add 52 Y3 QaV).add 53 YP VT).add 54 YQ VU).add 55 YR VV) hm QeS (Nat.le_of_ble_eq_true rfl) rfl ?_; unfold Qax; simp (config := { maxSteps := 2000000 }) only [bitvec_to_nat, reduceIte, Nat.reduceEqDiff, Nat.reduceAdd, Nat.reduceLeDiff, reduceCtorEq, Nat.reduceBEq, Nat.reduceLT, Nat.reduceMod, List.forall_mem_cons, YA, YN, YZ, YO, Y3, YP, YQ, YR, Qr, Qt, Qa, Yw, Ql, List.take_length, List.length_cons, List.length_nil, Nat.zero_add, Ko, Yx, Yy, YG, Zone.row, Qj, QK, Pt.row, Qs, Jw, Aw.row, Qv, Jx, Blk.row, Qg, Qp, Sec.row, Qh, Qu, Rw.row, Qw, Jy, Qi, G1, G2, Gc, YX, Gb, YW, GZ, Gd]
  refine QcP s fun bv hbv => ?_
  cases bv
  case true =>
    simp (config := { maxSteps := 2000000 }) only [bitvec_to_nat, reduceIte, Nat.reduceEqDiff, Nat.reduceAdd, Nat.reduceLeDiff, reduceCtorEq, Nat.reduceBEq, Nat.reduceLT, Nat.reduceMod, List.forall_mem_cons, YA, YN, YZ, YO, Y3, YP, YQ, YR, Qr, Qt, Qa, Yw, Ql, List.take_length, List.length_cons, List.length_nil, Nat.zero_add, Ko, Yx, Yy, YG, Zone.row, Qj, QK, Pt.row, Qs, Jw, Aw.row, Qv, Jx, Blk.row, Qg, Qp, Sec.row, Qh, Qu, Rw.row, Qw, Jy, Qi, G1, G2, Gc, YX, Gb, YW, GZ, Gd]
    exact fun hv => (hbv.1 rfl) ⟨hv.1, hv.2.1.1, hv.2.2.1.1, hv.2.2.2.1.1, hv.2.2.2.2.2.1⟩
  have o0 := Classical.not_not.1 fun h => Bool.noConfusion (hbv.2 h)
  obtain ⟨hd, l1, l2, l3, l4⟩ := o0
  have hmul := QjN hd
  simp (config := { maxSteps := 2000000 }) only [bitvec_to_nat, reduceIte, Nat.reduceEqDiff, Nat.reduceAdd, Nat.reduceLeDiff, reduceCtorEq, Nat.reduceBEq, Nat.reduceLT, Nat.reduceMod, List.forall_mem_cons, YA, YN, YZ, YO, Y3, YP, YQ, YR, Qr, Qt, Qa, Yw, Ql, List.take_length, List.length_cons, List.length_nil, Nat.zero_add, Ko, Yx, Yy, YG, Zone.row, Qj, QK, Pt.row, Qs, Jw, Aw.row, Qv, Jx, Blk.row, Qg, Qp, Sec.row, Qh, Qu, Rw.row, Qw, Jy, Qi, G1, G2, Gc, YX, Gb, YW, GZ, Gd]
  -- points
  refine Yz (fun i : Nat => [(69, .int .i64 i)]) (fun i => [(164, .mp 0 (Qah AV.str ((s.pts.take i).map (·.nm)))), (165, .mp 2 (Qah Zv ((s.pts.take i).map fun p => (p.x, p.y))))]) (fun i => i ≤ s.pts.length ∧ ∀ j, j < i → Qo7 s.w s.h s.pts j) (fun i => s.pts.length - i) (0) (by simp only [YC, YD, YE, YF, Qc, Qd, Qe, Qf, reduceIte, Nat.reduceEqDiff]; exact ⟨by repeat' (first | exact trivial | refine ⟨.inr rfl, ?_⟩), by repeat' (first | exact trivial | refine ⟨rfl, ?_⟩), by first | rfl | simp [closedB, Qx, Qo, Qb, dom, Qm, *], by first | rfl | simp [keepB, dom]⟩) ?_ ?_
  · exact ⟨Nat.zero_le _, by intro j hj; omega⟩
  intro i hi NX hN
  unfold Wd; simp (config := { maxSteps := 2000000 }) only [bitvec_to_nat, reduceIte, Nat.reduceEqDiff, Nat.reduceAdd, Nat.reduceLeDiff, reduceCtorEq, Nat.reduceBEq, Nat.reduceLT, Nat.reduceMod, List.forall_mem_cons, YA, YN, YZ, YO, Y3, YP, YQ, YR, Qr, Qt, Qa, Yw, Ql, List.take_length, List.length_cons, List.length_nil, Nat.zero_add, Ko, Yx, Yy, YG, Zone.row, Qj, QK, Pt.row, Qs, Jw, Aw.row, Qv, Jx, Blk.row, Qg, Qp, Sec.row, Qh, Qu, Rw.row, Qw, Jy, Qi, G1, G2, Gc, YX, Gb, YW, GZ, Gd]
  refine ⟨fun g1 => ⟨by omega, by omega, ?_⟩, fun g1 => ?_⟩
  · have A : s.valid → Qo7 s.w s.h s.pts i := fun h => h.2.1.2 i (by omega)
    unfold Qo7 at A
    have hc := Qh9 (f := fun p : Pt => (p.x, p.y)) (l := s.pts) (i := i) (by omega) (q := ((s.pts.getD i default).x, (s.pts.getD i default).y))
    refine QcQ s i _ (by omega) hs1 hd fun bv hbv => ?_
    cases bv
    case true =>
      simp (config := { maxSteps := 2000000 }) only [bitvec_to_nat, reduceIte, Nat.reduceEqDiff, Nat.reduceAdd, Nat.reduceLeDiff, reduceCtorEq, Nat.reduceBEq, Nat.reduceLT, Nat.reduceMod, List.forall_mem_cons, YA, YN, YZ, YO, Y3, YP, YQ, YR, Qr, Qt, Qa, Yw, Ql, List.take_length, List.length_cons, List.length_nil, Nat.zero_add, Ko, Yx, Yy, YG, Zone.row, Qj, QK, Pt.row, Qs, Jw, Aw.row, Qv, Jx, Blk.row, Qg, Qp, Sec.row, Qh, Qu, Rw.row, Qw, Jy, Qi, G1, G2, Gc, YX, Gb, YW, GZ, Gd]
      refine fun hv => (hbv.1 rfl) ⟨(A hv).1, (A hv).2.1, (A hv).2.2.1, fun h => ?_⟩
      obtain ⟨k, hk, e⟩ := hc.1 h
      simp only [Prod.mk.injEq] at e
      exact (A hv).2.2.2 k hk e
    have o1 := Classical.not_not.1 fun h => Bool.noConfusion (hbv.2 h)
    simp (config := { maxSteps := 2000000 }) only [bitvec_to_nat, reduceIte, Nat.reduceEqDiff, Nat.reduceAdd, Nat.reduceLeDiff, reduceCtorEq, Nat.reduceBEq, Nat.reduceLT, Nat.reduceMod, List.forall_mem_cons, YA, YN, YZ, YO, Y3, YP, YQ, YR, Qr, Qt, Qa, Yw, Ql, List.take_length, List.length_cons, List.length_nil, Nat.zero_add, Ko, Yx, Yy, YG, Zone.row, Qj, QK, Pt.row, Qs, Jw, Aw.row, Qv, Jx, Blk.row, Qg, Qp, Sec.row, Qh, Qu, Rw.row, Qw, Jy, Qi, G1, G2, Gc, YX, Gb, YW, GZ, Gd]
    have e1 := WW (f := fun p : Pt => p.nm) (l := s.pts) (i := i) (by omega)
    have e2 := WW (f := fun p : Pt => (p.x, p.y)) (l := s.pts) (i := i) (by omega)
    have hb := o1.2.2.1
    unfold X6 at hb; unfold Uj at hd
    have hn := o1.1.1
    refine ⟨by omega, by omega, by omega, ?_⟩
    refine hN (i + 1) _ (by simp only [e1, e2, List.length_append, List.length_cons, List.length_nil, Nat.zero_add, List.map_append, List.map_cons, List.map_nil, YC, YD, YE, YF, Qc, Qd, Qe, Qf, reduceIte, Nat.reduceEqDiff]; exact ⟨by repeat' (first | exact trivial | refine ⟨.inr rfl, ?_⟩), by repeat' (first | exact trivial | refine ⟨rfl, ?_⟩), by first | rfl | simp [closedB, Qx, Qo, Qb, dom, Qm, *], by first | rfl | simp [keepB, dom]⟩) ?_ ?_
    · refine ⟨by omega, Gf hi.2 ⟨o1.1, o1.2.1, o1.2.2.1, fun k hk e => o1.2.2.2 (hc.2 ⟨k, hk, by rw [e.1, e.2]⟩)⟩⟩
    · omega
  -- airways
  have e : i = s.pts.length := by omega
  subst e
  have hpts := hi.2
  clear hi hN NX
  simp only [List.take_length]
  refine Yz (fun i : Nat => [(122, .int .i64 i)]) (fun _ => []) (fun i => i ≤ s.aws.length ∧ ∀ j, j < i → Qo8 s.pts s.aws j) (fun i => s.aws.length - i) (0) (by simp only [YC, YD, YE, YF, Qc, Qd, Qe, Qf, reduceIte, Nat.reduceEqDiff]; exact ⟨by repeat' (first | exact trivial | refine ⟨.inr rfl, ?_⟩), by repeat' (first | exact trivial | refine ⟨rfl, ?_⟩), by first | rfl | simp [closedB, Qx, Qo, Qb, dom, Qm, *], by first | rfl | simp [keepB, dom]⟩) ?_ ?_
  · exact ⟨Nat.zero_le _, by intro j hj; omega⟩
  intro i hi NX hN
  unfold Wf; simp (config := { maxSteps := 2000000 }) only [bitvec_to_nat, reduceIte, Nat.reduceEqDiff, Nat.reduceAdd, Nat.reduceLeDiff, reduceCtorEq, Nat.reduceBEq, Nat.reduceLT, Nat.reduceMod, List.forall_mem_cons, YA, YN, YZ, YO, Y3, YP, YQ, YR, Qr, Qt, Qa, Yw, Ql, List.take_length, List.length_cons, List.length_nil, Nat.zero_add, Ko, Yx, Yy, YG, Zone.row, Qj, QK, Pt.row, Qs, Jw, Aw.row, Qv, Jx, Blk.row, Qg, Qp, Sec.row, Qh, Qu, Rw.row, Qw, Jy, Qi, G1, G2, Gc, YX, Gb, YW, GZ, Gd]
  refine ⟨fun g1 => ⟨by omega, by omega, ?_⟩, fun g1 => ?_⟩
  · have A : s.valid → Qo8 s.pts s.aws i := fun h => h.2.2.1.2 i (by omega)
    unfold Qo8 at A
    have hq4 := Sky.small_aw hs (i := i) (by omega)
    have hff : (s.aws.getD i default).fitp := hf.2.1.2 _ (QgC (by omega))
    refine QcR s i (by omega) hs2 fun bv hbv => ?_
    cases bv
    case true =>
      simp (config := { maxSteps := 2000000 }) only [bitvec_to_nat, reduceIte, Nat.reduceEqDiff, Nat.reduceAdd, Nat.reduceLeDiff, reduceCtorEq, Nat.reduceBEq, Nat.reduceLT, Nat.reduceMod, List.forall_mem_cons, YA, YN, YZ, YO, Y3, YP, YQ, YR, Qr, Qt, Qa, Yw, Ql, List.take_length, List.length_cons, List.length_nil, Nat.zero_add, Ko, Yx, Yy, YG, Zone.row, Qj, QK, Pt.row, Qs, Jw, Aw.row, Qv, Jx, Blk.row, Qg, Qp, Sec.row, Qh, Qu, Rw.row, Qw, Jy, Qi, G1, G2, Gc, YX, Gb, YW, GZ, Gd]
      exact fun hv => (hbv.1 rfl) ⟨(A hv).1, (A hv).2.1, (A hv).2.2.1⟩
    have o1 := Classical.not_not.1 fun h => Bool.noConfusion (hbv.2 h)
    simp (config := { maxSteps := 2000000 }) only [bitvec_to_nat, reduceIte, Nat.reduceEqDiff, Nat.reduceAdd, Nat.reduceLeDiff, reduceCtorEq, Nat.reduceBEq, Nat.reduceLT, Nat.reduceMod, List.forall_mem_cons, YA, YN, YZ, YO, Y3, YP, YQ, YR, Qr, Qt, Qa, Yw, Ql, List.take_length, List.length_cons, List.length_nil, Nat.zero_add, Ko, Yx, Yy, YG, Zone.row, Qj, QK, Pt.row, Qs, Jw, Aw.row, Qv, Jx, Blk.row, Qg, Qp, Sec.row, Qh, Qu, Rw.row, Qw, Jy, Qi, G1, G2, Gc, YX, Gb, YW, GZ, Gd]
    refine Yz (fun k : Nat => [(158, .int .i64 k)]) (fun k => [(254, .mp 0 (Qah AV.str ((s.aws.getD i default).pts.take k)))]) (fun k => k ≤ (s.aws.getD i default).pts.length ∧ ∀ j, j < k → Qrq s.pts (s.aws.getD i default).pts j) (fun k => (s.aws.getD i default).pts.length - k) (0) (by simp only [YC, YD, YE, YF, Qc, Qd, Qe, Qf, reduceIte, Nat.reduceEqDiff]; exact ⟨by repeat' (first | exact trivial | refine ⟨.inr rfl, ?_⟩), by repeat' (first | exact trivial | refine ⟨rfl, ?_⟩), by first | rfl | simp [closedB, Qx, Qo, Qb, dom, Qm, *], by first | rfl | simp [keepB, dom]⟩) ?_ ?_
    · exact ⟨Nat.zero_le _, by intro j hj; omega⟩
    intro k hk NX2 hN2
    unfold We; simp (config := { maxSteps := 2000000 }) only [bitvec_to_nat, reduceIte, Nat.reduceEqDiff, Nat.reduceAdd, Nat.reduceLeDiff, reduceCtorEq, Nat.reduceBEq, Nat.reduceLT, Nat.reduceMod, List.forall_mem_cons, YA, YN, YZ, YO, Y3, YP, YQ, YR, Qr, Qt, Qa, Yw, Ql, List.take_length, List.length_cons, List.length_nil, Nat.zero_add, Ko, Yx, Yy, YG, Zone.row, Qj, QK, Pt.row, Qs, Jw, Aw.row, Qv, Jx, Blk.row, Qg, Qp, Sec.row, Qh, Qu, Rw.row, Qw, Jy, Qi, G1, G2, Gc, YX, Gb, YW, GZ, Gd]
    refine ⟨fun g2 => ?_, fun g2 => ⟨by omega, ?_⟩⟩
    · have hlen := hff.2.2 _ (QgC (l := (s.aws.getD i default).pts) (i := k) (by omega))
      have hin := QlY (l := (s.aws.getD i default).pts) (i := k) (by omega) (q := (s.aws.getD i default).pts.getD k default)
      refine ⟨by omega, by omega, hlen, fun g3 => ⟨hlen, fun g4 hv => ?_, fun g4 => ⟨hlen, by omega, ?_⟩⟩, fun g3 hv => ?_⟩
      · obtain ⟨j, hj, e⟩ := hin.1 g4
        exact ((A hv).2.2.2 k (by omega)).2 j hj e
      · have e1 := Qia (l := (s.aws.getD i default).pts) (i := k) (by omega)
        refine hN2 (k + 1) _ (by simp only [e1, List.length_append, List.length_cons, List.length_nil, Nat.zero_add, List.map_append, List.map_cons, List.map_nil, YC, YD, YE, YF, Qc, Qd, Qe, Qf, reduceIte, Nat.reduceEqDiff]; exact ⟨by repeat' (first | exact trivial | refine ⟨.inr rfl, ?_⟩), by repeat' (first | exact trivial | refine ⟨rfl, ?_⟩), by first | rfl | simp [closedB, Qx, Qo, Qb, dom, Qm, *], by first | rfl | simp [keepB, dom]⟩) ?_ ?_
        · exact ⟨by omega, Gf hk.2 ⟨QlX.1 g3, fun j hj e => g4 (hin.2 ⟨j, hj, e⟩)⟩⟩
        · omega
      · exact g3 (QlX.2 ((A hv).2.2.2 k (by omega)).1)
    · refine hN (i + 1) _ (by simp only [YC, YD, YE, YF, Qc, Qd, Qe, Qf, reduceIte, Nat.reduceEqDiff]; exact ⟨by repeat' (first | exact trivial | refine ⟨.inr rfl, ?_⟩), by repeat' (first | exact trivial | refine ⟨rfl, ?_⟩), by first | rfl | simp [closedB, Qx, Qo, Qb, dom, Qm, *], by first | rfl | simp [keepB, dom]⟩) ?_ ?_
      · exact ⟨by omega, Gf hi.2 ⟨o1.1, o1.2.1, o1.2.2, fun k' hk' => hk.2 k' (by omega)⟩⟩
      · omega
  -- sectors
  have e : i = s.aws.length := by omega
  subst e
  have haws := hi.2
  clear hi hN NX
  refine Yz (fun i : Nat => [(13, .own 113 (Y9 (s.secs.take i)).length 0 (Y9 (s.secs.take i)).length), (14, .int .i64 (QjL (Y9 (s.secs.take i)))), (178, .int .i64 i)]) (fun i => [(113, .arr 99 (Y9 (s.secs.take i)).length 6 ((Y9 (s.secs.take i)).map Blk.row))]) (fun i => i ≤ s.secs.length ∧ (∀ j, j < i → Qh4 s.w s.h s.lv s.secs j) ∧ Qe8 (Y9 (s.secs.take i))) (fun i => s.secs.length - i) (0) (by simp only [YC, YD, YE, YF, Qc, Qd, Qe, Qf, reduceIte, Nat.reduceEqDiff]; exact ⟨by repeat' (first | exact trivial | refine ⟨.inr rfl, ?_⟩), by repeat' (first | exact trivial | refine ⟨rfl, ?_⟩), by first | rfl | simp [closedB, Qx, Qo, Qb, dom, Qm, *], by first | rfl | simp [keepB, dom]⟩) ?_ ?_
  · exact ⟨Nat.zero_le _, (by intro j hj; omega), List.Pairwise.nil⟩
  intro i hi NX hN
  unfold Wi; simp (config := { maxSteps := 2000000 }) only [bitvec_to_nat, reduceIte, Nat.reduceEqDiff, Nat.reduceAdd, Nat.reduceLeDiff, reduceCtorEq, Nat.reduceBEq, Nat.reduceLT, Nat.reduceMod, List.forall_mem_cons, YA, YN, YZ, YO, Y3, YP, YQ, YR, Qr, Qt, Qa, Yw, Ql, List.take_length, List.length_cons, List.length_nil, Nat.zero_add, Ko, Yx, Yy, YG, Zone.row, Qj, QK, Pt.row, Qs, Jw, Aw.row, Qv, Jx, Blk.row, Qg, Qp, Sec.row, Qh, Qu, Rw.row, Qw, Jy, Qi, G1, G2, Gc, YX, Gb, YW, GZ, Gd]
  refine ⟨fun g1 => ⟨by omega, by omega, ?_⟩, fun g1 => ?_⟩
  · have A : s.valid → Qh4 s.w s.h s.lv s.secs i := fun h => h.2.2.2.1.2 i (by omega)
    unfold Qh4 at A
    have hq4 := Sky.small_sec hs (i := i) (by omega)
    have hbl := Qe7 (l := s.secs) (i := i) (by omega) fun j hj => (hi.2.1 j hj).2.2.1.2
    refine QcS s i _ (by omega) hs3 fun bv hbv => ?_
    cases bv
    case true =>
      simp (config := { maxSteps := 2000000 }) only [bitvec_to_nat, reduceIte, Nat.reduceEqDiff, Nat.reduceAdd, Nat.reduceLeDiff, reduceCtorEq, Nat.reduceBEq, Nat.reduceLT, Nat.reduceMod, List.forall_mem_cons, YA, YN, YZ, YO, Y3, YP, YQ, YR, Qr, Qt, Qa, Yw, Ql, List.take_length, List.length_cons, List.length_nil, Nat.zero_add, Ko, Yx, Yy, YG, Zone.row, Qj, QK, Pt.row, Qs, Jw, Aw.row, Qv, Jx, Blk.row, Qg, Qp, Sec.row, Qh, Qu, Rw.row, Qw, Jy, Qi, G1, G2, Gc, YX, Gb, YW, GZ, Gd]
      exact fun hv => (hbv.1 rfl) ⟨(A hv).1, (A hv).2.1, (A hv).2.2.1⟩
    have o1 := Classical.not_not.1 fun h => Bool.noConfusion (hbv.2 h)
    simp (config := { maxSteps := 2000000 }) only [bitvec_to_nat, reduceIte, Nat.reduceEqDiff, Nat.reduceAdd, Nat.reduceLeDiff, reduceCtorEq, Nat.reduceBEq, Nat.reduceLT, Nat.reduceMod, List.forall_mem_cons, YA, YN, YZ, YO, Y3, YP, YQ, YR, Qr, Qt, Qa, Yw, Ql, List.take_length, List.length_cons, List.length_nil, Nat.zero_add, Ko, Yx, Yy, YG, Zone.row, Qj, QK, Pt.row, Qs, Jw, Aw.row, Qv, Jx, Blk.row, Qg, Qp, Sec.row, Qh, Qu, Rw.row, Qw, Jy, Qi, G1, G2, Gc, YX, Gb, YW, GZ, Gd]
    rw [← QjS (l := s.secs) (i := i)]
    refine Yz (fun k : Nat => [(13, .own 113 (pre s.secs i k).length 0 (pre s.secs i k).length), (14, .int .i64 (QjL (pre s.secs i k))), (213, .int .i64 k)]) (fun k => [(113, .arr 99 (pre s.secs i k).length 6 ((pre s.secs i k).map Blk.row))]) (fun k => k ≤ (s.secs.getD i default).bl.length ∧ (∀ j, j < k → QdV s.w s.h s.lv (s.secs.getD i default).bl j) ∧ Qe8 (pre s.secs i k)) (fun k => (s.secs.getD i default).bl.length - k) (0) (by simp only [YC, YD, YE, YF, Qc, Qd, Qe, Qf, reduceIte, Nat.reduceEqDiff]; exact ⟨by repeat' (first | exact trivial | refine ⟨.inr rfl, ?_⟩), by repeat' (first | exact trivial | refine ⟨rfl, ?_⟩), by first | rfl | simp [closedB, Qx, Qo, Qb, dom, Qm, *], by first | rfl | simp [keepB, dom]⟩) ?_ ?_
    · exact ⟨Nat.zero_le _, (by intro j hj; omega), by rw [QjS]; exact hi.2.2⟩
    intro k hk NX2 hN2
    unfold Wh; simp (config := { maxSteps := 2000000 }) only [bitvec_to_nat, reduceIte, Nat.reduceEqDiff, Nat.reduceAdd, Nat.reduceLeDiff, reduceCtorEq, Nat.reduceBEq, Nat.reduceLT, Nat.reduceMod, List.forall_mem_cons, YA, YN, YZ, YO, Y3, YP, YQ, YR, Qr, Qt, Qa, Yw, Ql, List.take_length, List.length_cons, List.length_nil, Nat.zero_add, Ko, Yx, Yy, YG, Zone.row, Qj, QK, Pt.row, Qs, Jw, Aw.row, Qv, Jx, Blk.row, Qg, Qp, Sec.row, Qh, Qu, Rw.row, Qw, Jy, Qi, G1, G2, Gc, YX, Gb, YW, GZ, Gd]
    refine ⟨fun g2 => ⟨by omega, by omega, ?_⟩, fun g2 => ?_⟩
    · refine QcT s i k _ (by omega) hq4 fun bv hbv => ?_
      cases bv
      case true =>
        simp (config := { maxSteps := 2000000 }) only [bitvec_to_nat, reduceIte, Nat.reduceEqDiff, Nat.reduceAdd, Nat.reduceLeDiff, reduceCtorEq, Nat.reduceBEq, Nat.reduceLT, Nat.reduceMod, List.forall_mem_cons, YA, YN, YZ, YO, Y3, YP, YQ, YR, Qr, Qt, Qa, Yw, Ql, List.take_length, List.length_cons, List.length_nil, Nat.zero_add, Ko, Yx, Yy, YG, Zone.row, Qj, QK, Pt.row, Qs, Jw, Aw.row, Qv, Jx, Blk.row, Qg, Qp, Sec.row, Qh, Qu, Rw.row, Qw, Jy, Qi, G1, G2, Gc, YX, Gb, YW, GZ, Gd]
        exact fun hv => (hbv.1 rfl) ((A hv).2.2.2 k (by omega))
      have o2 := Classical.not_not.1 fun h => Bool.noConfusion (hbv.2 h)
      have hpl : (pre s.secs i k).length ≤ 28 := by unfold pre; rw [List.length_append, List.length_take]; omega
      simp (config := { maxSteps := 2000000 }) only [bitvec_to_nat, reduceIte, Nat.reduceEqDiff, Nat.reduceAdd, Nat.reduceLeDiff, reduceCtorEq, Nat.reduceBEq, Nat.reduceLT, Nat.reduceMod, List.forall_mem_cons, YA, YN, YZ, YO, Y3, YP, YQ, YR, Qr, Qt, Qa, Yw, Ql, List.take_length, List.length_cons, List.length_nil, Nat.zero_add, Ko, Yx, Yy, YG, Zone.row, Qj, QK, Pt.row, Qs, Jw, Aw.row, Qv, Jx, Blk.row, Qg, Qp, Sec.row, Qh, Qu, Rw.row, Qw, Jy, Qi, G1, G2, Gc, YX, Gb, YW, GZ, Gd]
      refine Yz (fun j : Nat => [(239, .int .i64 j)]) (fun _ => []) (fun j => j ≤ (pre s.secs i k).length ∧ ∀ q, q < j → ¬ ((pre s.secs i k).getD q default).meet ((s.secs.getD i default).bl.getD k default)) (fun j => (pre s.secs i k).length - j) (0) (by simp only [YC, YD, YE, YF, Qc, Qd, Qe, Qf, reduceIte, Nat.reduceEqDiff]; exact ⟨by repeat' (first | exact trivial | refine ⟨.inr rfl, ?_⟩), by repeat' (first | exact trivial | refine ⟨rfl, ?_⟩), by first | rfl | simp [closedB, Qx, Qo, Qb, dom, Qm, *], by first | rfl | simp [keepB, dom]⟩) ?_ ?_
      · exact ⟨Nat.zero_le _, by intro j hj; omega⟩
      intro j hj NX3 hN3
      unfold Wg; simp (config := { maxSteps := 2000000 }) only [bitvec_to_nat, reduceIte, Nat.reduceEqDiff, Nat.reduceAdd, Nat.reduceLeDiff, reduceCtorEq, Nat.reduceBEq, Nat.reduceLT, Nat.reduceMod, List.forall_mem_cons, YA, YN, YZ, YO, Y3, YP, YQ, YR, Qr, Qt, Qa, Yw, Ql, List.take_length, List.length_cons, List.length_nil, Nat.zero_add, Ko, Yx, Yy, YG, Zone.row, Qj, QK, Pt.row, Qs, Jw, Aw.row, Qv, Jx, Blk.row, Qg, Qp, Sec.row, Qh, Qu, Rw.row, Qw, Jy, Qi, G1, G2, Gc, YX, Gb, YW, GZ, Gd]
      refine ⟨fun g3 => ⟨⟨by omega, by omega⟩, by omega, fun g4 hv => ?_, fun g4 => ⟨by omega, ?_⟩⟩, fun g3 => ?_⟩
      · have h1 := Qib.1 hv.2.2.2.2.1.1
        have h2 : Qe8 (pre s.secs i (k + 1)) := h1.sublist (Qpe (by omega))
        rw [QjT (by omega)] at h2
        exact (QfY.1 h2).2 j (by omega) g4
      · refine hN3 (j + 1) _ (by simp only [YC, YD, YE, YF, Qc, Qd, Qe, Qf, reduceIte, Nat.reduceEqDiff]; exact ⟨by repeat' (first | exact trivial | refine ⟨.inr rfl, ?_⟩), by repeat' (first | exact trivial | refine ⟨rfl, ?_⟩), by first | rfl | simp [closedB, Qx, Qo, Qb, dom, Qm, *], by first | rfl | simp [keepB, dom]⟩) ?_ ?_
        · exact ⟨by omega, Gf hj.2 g4⟩
        · omega
      · have hbo := o2.1
        have hvb := Qh7 hd hbo
        have hvs := Qi4 hd (QqK (l := s.secs) (i := i) (k := k) (by omega) hi.2.1 (by omega) hk.2.1)
        have e1 := QjT (l := s.secs) (i := i) (k := k) (by omega)
        refine ⟨by omega, ⟨_, _, _, hd, hbo⟩, by omega, by omega, ?_⟩
        refine hN2 (k + 1) _ (by simp only [e1, Qnq, List.length_append, List.length_cons, List.length_nil, Nat.zero_add, List.map_append, List.map_cons, List.map_nil, YC, YD, YE, YF, Qc, Qd, Qe, Qf, reduceIte, Nat.reduceEqDiff]; exact ⟨by repeat' (first | exact trivial | refine ⟨.inr rfl, ?_⟩), by repeat' (first | exact trivial | refine ⟨rfl, ?_⟩), by first | rfl | simp [closedB, Qx, Qo, Qb, dom, Qm, *], by first | rfl | simp [keepB, dom]⟩) ?_ ?_
        · exact ⟨by omega, Gf hk.2.1 o2, by rw [e1]; exact QfY.2 ⟨hk.2.2, fun q hq => hj.2 q (by omega)⟩⟩
        · omega
    · have e1 : pre s.secs i k = Y9 (s.secs.take (i + 1)) := by rw [← Qpd (by omega)]; congr 1; omega
      have hap := hk.2.2
      simp only [e1] at hap ⊢
      refine ⟨by omega, ?_⟩
      refine hN (i + 1) _ (by simp only [YC, YD, YE, YF, Qc, Qd, Qe, Qf, reduceIte, Nat.reduceEqDiff]; exact ⟨by repeat' (first | exact trivial | refine ⟨.inr rfl, ?_⟩), by repeat' (first | exact trivial | refine ⟨rfl, ?_⟩), by first | rfl | simp [closedB, Qx, Qo, Qb, dom, Qm, *], by first | rfl | simp [keepB, dom]⟩) ?_ ?_
      · exact ⟨by omega, Gf hi.2.1 ⟨o1.1, o1.2.1, o1.2.2, fun k' hk' => hk.2.1 k' (by omega)⟩, hap⟩
      · omega
  -- how many places
  have e : i = s.secs.length := by omega
  subst e
  have hsecs := hi.2.1
  have hap := hi.2.2
  clear hi hN NX
  simp only [List.take_length] at hap ⊢
  refine QcU s _ _ hmul fun bv hbv => ?_
  cases bv
  case true =>
    simp (config := { maxSteps := 2000000 }) only [bitvec_to_nat, reduceIte, Nat.reduceEqDiff, Nat.reduceAdd, Nat.reduceLeDiff, reduceCtorEq, Nat.reduceBEq, Nat.reduceLT, Nat.reduceMod, List.forall_mem_cons, YA, YN, YZ, YO, Y3, YP, YQ, YR, Qr, Qt, Qa, Yw, Ql, List.take_length, List.length_cons, List.length_nil, Nat.zero_add, Ko, Yx, Yy, YG, Zone.row, Qj, QK, Pt.row, Qs, Jw, Aw.row, Qv, Jx, Blk.row, Qg, Qp, Sec.row, Qh, Qu, Rw.row, Qw, Jy, Qi, G1, G2, Gc, YX, Gb, YW, GZ, Gd]
    exact fun hv => (hbv.1 rfl) hv.2.2.2.2.1.2
  have o5 := Classical.not_not.1 fun h => Bool.noConfusion (hbv.2 h)
  simp (config := { maxSteps := 2000000 }) only [bitvec_to_nat, reduceIte, Nat.reduceEqDiff, Nat.reduceAdd, Nat.reduceLeDiff, reduceCtorEq, Nat.reduceBEq, Nat.reduceLT, Nat.reduceMod, List.forall_mem_cons, YA, YN, YZ, YO, Y3, YP, YQ, YR, Qr, Qt, Qa, Yw, Ql, List.take_length, List.length_cons, List.length_nil, Nat.zero_add, Ko, Yx, Yy, YG, Zone.row, Qj, QK, Pt.row, Qs, Jw, Aw.row, Qv, Jx, Blk.row, Qg, Qp, Sec.row, Qh, Qu, Rw.row, Qw, Jy, Qi, G1, G2, Gc, YX, Gb, YW, GZ, Gd]
  -- runways
  refine Yz (fun i : Nat => [(271, .int .i64 i)]) (fun i => [(367, .mp 2 (Qah Zv ((s.rws.take i).map fun r => (r.x, r.y))))]) (fun i => i ≤ s.rws.length ∧ ∀ j, j < i → Qo9 s.w s.h s.rws j) (fun i => s.rws.length - i) (0) (by simp only [YC, YD, YE, YF, Qc, Qd, Qe, Qf, reduceIte, Nat.reduceEqDiff]; exact ⟨by repeat' (first | exact trivial | refine ⟨.inr rfl, ?_⟩), by repeat' (first | exact trivial | refine ⟨rfl, ?_⟩), by first | rfl | simp [closedB, Qx, Qo, Qb, dom, Qm, *], by first | rfl | simp [keepB, dom]⟩) ?_ ?_
  · exact ⟨Nat.zero_le _, by intro j hj; omega⟩
  intro i hi NX hN
  unfold Wj; simp (config := { maxSteps := 2000000 }) only [bitvec_to_nat, reduceIte, Nat.reduceEqDiff, Nat.reduceAdd, Nat.reduceLeDiff, reduceCtorEq, Nat.reduceBEq, Nat.reduceLT, Nat.reduceMod, List.forall_mem_cons, YA, YN, YZ, YO, Y3, YP, YQ, YR, Qr, Qt, Qa, Yw, Ql, List.take_length, List.length_cons, List.length_nil, Nat.zero_add, Ko, Yx, Yy, YG, Zone.row, Qj, QK, Pt.row, Qs, Jw, Aw.row, Qv, Jx, Blk.row, Qg, Qp, Sec.row, Qh, Qu, Rw.row, Qw, Jy, Qi, G1, G2, Gc, YX, Gb, YW, GZ, Gd]
  refine ⟨fun g1 => ⟨by omega, by omega, ?_⟩, fun g1 => ?_⟩
  · have A : s.valid → Qo9 s.w s.h s.rws i := fun h => h.2.2.2.2.2.2 i (by omega)
    unfold Qo9 at A
    have hc := Qh9 (f := fun p : Rw => (p.x, p.y)) (l := s.rws) (i := i) (by omega) (q := ((s.rws.getD i default).x, (s.rws.getD i default).y))
    refine QcV s i _ _ (by omega) hs4 hd fun bv hbv => ?_
    cases bv
    case true =>
      simp (config := { maxSteps := 2000000 }) only [bitvec_to_nat, reduceIte, Nat.reduceEqDiff, Nat.reduceAdd, Nat.reduceLeDiff, reduceCtorEq, Nat.reduceBEq, Nat.reduceLT, Nat.reduceMod, List.forall_mem_cons, YA, YN, YZ, YO, Y3, YP, YQ, YR, Qr, Qt, Qa, Yw, Ql, List.take_length, List.length_cons, List.length_nil, Nat.zero_add, Ko, Yx, Yy, YG, Zone.row, Qj, QK, Pt.row, Qs, Jw, Aw.row, Qv, Jx, Blk.row, Qg, Qp, Sec.row, Qh, Qu, Rw.row, Qw, Jy, Qi, G1, G2, Gc, YX, Gb, YW, GZ, Gd]
      refine fun hv => (hbv.1 rfl) ⟨(A hv).1, (A hv).2.1, (A hv).2.2.1, fun h => ?_⟩
      obtain ⟨k, hk, e⟩ := hc.1 h
      simp only [Prod.mk.injEq] at e
      exact (A hv).2.2.2 k hk e
    have o1 := Classical.not_not.1 fun h => Bool.noConfusion (hbv.2 h)
    simp (config := { maxSteps := 2000000 }) only [bitvec_to_nat, reduceIte, Nat.reduceEqDiff, Nat.reduceAdd, Nat.reduceLeDiff, reduceCtorEq, Nat.reduceBEq, Nat.reduceLT, Nat.reduceMod, List.forall_mem_cons, YA, YN, YZ, YO, Y3, YP, YQ, YR, Qr, Qt, Qa, Yw, Ql, List.take_length, List.length_cons, List.length_nil, Nat.zero_add, Ko, Yx, Yy, YG, Zone.row, Qj, QK, Pt.row, Qs, Jw, Aw.row, Qv, Jx, Blk.row, Qg, Qp, Sec.row, Qh, Qu, Rw.row, Qw, Jy, Qi, G1, G2, Gc, YX, Gb, YW, GZ, Gd]
    have e2 := WW (f := fun p : Rw => (p.x, p.y)) (l := s.rws) (i := i) (by omega)
    have hb := o1.2.2.1.2.1
    unfold X6 at hb; unfold Uj at hd
    refine ⟨by omega, by omega, ?_⟩
    refine hN (i + 1) _ (by simp only [e2, List.length_append, List.length_cons, List.length_nil, Nat.zero_add, List.map_append, List.map_cons, List.map_nil, YC, YD, YE, YF, Qc, Qd, Qe, Qf, reduceIte, Nat.reduceEqDiff]; exact ⟨by repeat' (first | exact trivial | refine ⟨.inr rfl, ?_⟩), by repeat' (first | exact trivial | refine ⟨rfl, ?_⟩), by first | rfl | simp [closedB, Qx, Qo, Qb, dom, Qm, *], by first | rfl | simp [keepB, dom]⟩) ?_ ?_
    · refine ⟨by omega, Gf hi.2 ⟨o1.1, o1.2.1, o1.2.2.1, fun k hk e => o1.2.2.2 (hc.2 ⟨k, hk, by rw [e.1, e.2]⟩)⟩⟩
    · omega
  · exact ⟨hd, ⟨l1, hpts⟩, ⟨l2, haws⟩, ⟨l3, hsecs⟩, ⟨Qib.2 hap, o5⟩, ⟨l4, fun j hj => hi.2 j (by omega)⟩⟩
def Xn : List AV → Option (Prop × AV)
  | [.agg [.int .i64 s_w, .int .i64 s_h, .int .i64 s_lv, .sl 0 3 s_pts, .sl 0 2 s_aws, .sl 0 2 s_secs, .sl 0 4 s_rws]] => some ((((s_pts.map Y1).map Pt.row = s_pts) ∧ ((s_aws.map Y4).map (Aw.row 0) = s_aws) ∧ ((s_secs.map KC).map (Sec.row 0) = s_secs) ∧ ((s_rws.map Y2).map Rw.row = s_rws)) ∧ ((Sky.mk s_w s_h s_lv (s_pts.map Y1) (s_aws.map Y4) (s_secs.map KC) (s_rws.map Y2)).small ∧ (Sky.mk s_w s_h s_lv (s_pts.map Y1) (s_aws.map Y4) (s_secs.map KC) (s_rws.map Y2)).fitp), .bool (decide (Sky.mk s_w s_h s_lv (s_pts.map Y1) (s_aws.map Y4) (s_secs.map KC) (s_rws.map Y2)).valid))
  | _ => none
theorem QbV : ∀ args p v, Xn args = some (p, v) → p → Contract P 25 args [] v [] ∧ noref v = true ∧ No99 v := by
  intro args p v h1 h2
  unfold Xn at h1
  split at h1
  · rename_i s_w s_h s_lv s_pts s_aws s_secs s_rws
    cases h1
    obtain ⟨⟨e0, e1, e2, e3⟩, HP⟩ := h2
    have := Qi7 (Sky.mk s_w s_h s_lv (s_pts.map Y1) (s_aws.map Y4) (s_secs.map KC) (s_rws.map Y2)) HP.1 HP.2
    exact ⟨by simpa only [e0, e1, e2, e3, Sky.row] using this, rfl, trivial⟩
  · cases h1
end
end Go.Ve

namespace Go.Ve
noncomputable section
open Go.Proofs
set_option linter.unusedSimpArgs false
set_option linter.unusedVariables false
set_option maxRecDepth 100000
structure Place where
  x : Int
  y : Int
  lv : Int
  deriving Inhabited, DecidableEq
def Place.row (s : Place) : List AV := [.int .i64 s.x, .int .i64 s.y, .int .i64 s.lv]
def Qi8 : List AV → Place
  | [.int .i64 vx, .int .i64 vy, .int .i64 vlv] => (Place.mk vx vy vlv)
  | _ => default
theorem Qi9 (s : Place) : Qi8 (Place.row s) = s := by
  cases s; simp only [Place.row, Qi8]
theorem G9 (l : List Place) : (l.map Place.row).map Qi8 = l := by
  rw [List.map_map]; exact List.map_id'' (fun s => Qi9 s) l
theorem Gn (s : Place) : (Place.mk s.x s.y s.lv) = s := (rfl)
def Blk.has (b : Blk) (x y z : Int) : Prop := (b.x0 ≤ x ∧ x ≤ b.x1) ∧ (b.y0 ≤ y ∧ y ≤ b.y1) ∧ (b.lo ≤ z ∧ z ≤ b.hi)
instance (b : Blk) (x y z : Int) : Decidable (b.has x y z) := by unfold Blk.has; infer_instance
def Sec.has (c : Sec) (x y z : Int) : Prop := ∃ k, k < c.bl.length ∧ (c.bl.getD k default).has x y z
noncomputable instance (c : Sec) (x y z : Int) : Decidable (c.has x y z) := Classical.propDecidable _
/-- The sector that a Qep is in, -1 if there is none. -/
def QrG (l : List Sec) (x y z : Int) : Int := Qkv (fun c => decide (c.has x y z)) l
def vOk (s : Sky) (x y z : Int) : Prop := s.valid ∧ 0 ≤ QrG s.secs x y z
noncomputable instance (s : Sky) (x y z : Int) : Decidable (vOk s x y z) := Classical.propDecidable _
end
end Go.Ve

namespace Go.Ve
noncomputable section
open Go.Proofs
set_option linter.unusedSimpArgs false
set_option linter.unusedVariables false
set_option maxRecDepth 100000
def Blk.touch (a b : Blk) : Prop := (a.x0 - 1 ≤ b.x1 ∧ b.x0 ≤ a.x1 + 1) ∧ (a.y0 - 1 ≤ b.y1 ∧ b.y0 ≤ a.y1 + 1) ∧ (a.lo - 1 ≤ b.hi ∧ b.lo ≤ a.hi + 1)
instance (a b : Blk) : Decidable (a.touch b) := by unfold Blk.touch; infer_instance
def Sec.touch (a b : Sec) : Prop := ∃ m, m < a.bl.length ∧ ∃ n, n < b.bl.length ∧ (a.bl.getD m default).touch (b.bl.getD n default)
def Qrs (l : List Sec) (a b : ByteArray) (i k : Nat) : Prop := ((l.getD i default).nm = a ∧ (l.getD k default).nm = b) ∧ (l.getD i default).touch (l.getD k default)
def Qnr (s : Sky) (a b : ByteArray) : Prop := s.valid ∧ a ≠ b ∧ ∃ i, i < s.secs.length ∧ ∃ k, k < s.secs.length ∧ Qrs s.secs a b i k
noncomputable instance (s : Sky) (a b : ByteArray) : Decidable (Qnr s a b) := Classical.propDecidable _
end
end Go.Ve

