/- Part 5 of the proof: laws and contracts of functions, each proved; they are joined in the last part. No conditions beyond those that the theorems state. -/
import Derived.Test.YtagikldfacbonaaDoorProg
import Derived.Test.YtagikldfacbonaaDoorSw4
set_option linter.all false
namespace Go.Ve
noncomputable section
open Go.Proofs
set_option linter.unusedSimpArgs false
set_option linter.unusedVariables false
set_option maxRecDepth 100000
theorem Qja (t : Nat) (l : List ByteArray) (a : Int) (ha : 0 ≤ a ∧ a ≤ 1048576) (hl : l.length ≤ 9223372036854775807 ∧ ∀ y ∈ l, y.toList.length ≤ 9223372036854775807) : Contract P 74 [.sl t 1 (l.map Ko), .int .i64 a] [] (.int .i64 (szS WT l a)) [] := by
  refine QP (Env.nil P) hm QdS (Nat.le_of_ble_eq_true rfl) rfl ?_; unfold W6; simp (config := { maxSteps := 2000000 }) only [JK, Gr, KO, KP, JL, QW, JM, JN, KQ, Gs, KR, KS, KT, KU, KV, KW, KX, KY, KZ, K1, K2, QX, QY, QZ, JO, JP, JQ, Q0, Q1, Q2, Q3, Q4, Q5, JR, JS, JT, JU, Jq, Jr, Kp, Yv, GU, JV, Qz, Qk, KN, QT, QU, JH, QV, JI, JJ, QS, Qy, JE, JF, KK, JG, KL, KM, Q8, Q9, Qc, Qd, QE, QF, Ja, Jb, QQ, QR, Qe, Qf, GD, GE, JZ, J0, K3, JW, JX, JY, Kb, Kc, Kd, QA, QB, QD, Gt, Gu, Gv, Gw, Q6, Q7, Gy, Gx, Gz, QG, J1, K4, J2, K5, K6, K7, K8, J3, Jc, K9, Jd, Je, Jf, Jg, Jh, QH, QI, Ji, J4, Jj, J5, J6, J7, GA, GB, Ya, Jk, Yb, QJ, KJ, J8, KF, GC, Jl, YF, YE, YD, Gk, List.length_take, Int.toNat_zero, List.drop_zero, YC, Ks, QL, Jt, GX, Yu, Kr, Kq, Js, Yc, J9, Yd, Ye, GF, Yf, Yg, GG, Yh, Ka, Yi, GH, Yj, Yk, GI, GJ, GK, Yl, eff, JB, QO, Ke, Ym, Kf, Kg, Kh, GL, GM, JD, JC, Jm, GN, GO, GP, Y7, pur, List.map, List.drop, List.take, List.length, List.foldl, List.append_eq, List.nil_append, List.cons_append, List.getD_cons_zero, List.getD_cons_succ, reduceIte, Nat.reduceEqDiff, Nat.reduceAdd, Nat.reduceLeDiff, true_and, and_true, Bool.not_true, Bool.not_false, Bool.and_true, Bool.true_and, Bool.and_self, reduceCtorEq, true_implies, false_implies, implies_true, decide_eq_true_eq, Option.map_some, Gm, fpX, SOp.xs, oX, refs, KE, dom, Gl, List.all_nil, List.all_cons, List.contains_cons, List.contains_nil, Nat.reduceBEq, Bool.or_false, Bool.false_or, List.append_nil, Bool.not_false, Bool.not_true, List.forall_mem_cons, fm0, List.set, Nat.reduceLT, Nat.reduceMod, ne_eq, not_false_eq_true, not_true_eq_false, GQ, Yn, Yo, Yp, Ki, Jn, Kj, Yq, Kk, Kl, GR, GS, GT, Yr, Ys, Yt, Jo, Jp, decide_true, AV.bool.injEq, AV.int.injEq, Nat.reduceLeDiff, decide_eq_true_eq, decide_eq_false_iff_not, Int.toNat_natCast, List.length_map, decide_false, KH, noref, flatOk, Qb, wkM, Km, Kw, Kx, Ju, QM, Kv, Jv, Kt, Ku, Qn, QN, Classical.not_not, Ko, Yy, List.take_zero, List.foldl_nil]
  have hz : Qaj a l.length = if a - l.length < 0 then -1 else a - l.length := rfl
  refine ⟨by omega, fun h1 => ?_, fun h1 => ?_⟩
  · unfold szS
    rw [(Xc WU l _ (by omega) (by omega)).2.1 (by omega)]
  have e0 : Qaj a l.length = a - l.length := if_neg h1
  refine Yz (fun i : Nat => [(1, .int .i64 ((l.take i).foldl (fun a x => WT x a) (a - l.length))), (5, .int .i64 i)]) (fun _ => []) (fun i => i ≤ l.length ∧ 0 ≤ (l.take i).foldl (fun a x => WT x a) (a - l.length)) (fun i => l.length - i) (0) (by simp only [YC, YD, YE, YF, Qc, Qd, Qe, Qf, reduceIte, Nat.reduceEqDiff]; exact ⟨by repeat' (first | exact trivial | refine ⟨.inr rfl, ?_⟩), by repeat' (first | exact trivial | refine ⟨rfl, ?_⟩), by first | rfl | simp [closedB, Qx, Qo, Qb, dom, Qm, *], by first | rfl | simp [keepB, dom]⟩) ?_ ?_
  · simp only [List.take_zero, List.foldl_nil]; omega
  intro i hi NX hN
  unfold VJ; simp (config := { maxSteps := 2000000 }) only [JK, Gr, KO, KP, JL, QW, JM, JN, KQ, Gs, KR, KS, KT, KU, KV, KW, KX, KY, KZ, K1, K2, QX, QY, QZ, JO, JP, JQ, Q0, Q1, Q2, Q3, Q4, Q5, JR, JS, JT, JU, Jq, Jr, Kp, Yv, GU, JV, Qz, Qk, KN, QT, QU, JH, QV, JI, JJ, QS, Qy, JE, JF, KK, JG, KL, KM, Q8, Q9, Qc, Qd, QE, QF, Ja, Jb, QQ, QR, Qe, Qf, GD, GE, JZ, J0, K3, JW, JX, JY, Kb, Kc, Kd, QA, QB, QD, Gt, Gu, Gv, Gw, Q6, Q7, Gy, Gx, Gz, QG, J1, K4, J2, K5, K6, K7, K8, J3, Jc, K9, Jd, Je, Jf, Jg, Jh, QH, QI, Ji, J4, Jj, J5, J6, J7, GA, GB, Ya, Jk, Yb, QJ, KJ, J8, KF, GC, Jl, YF, YE, YD, Gk, List.length_take, Int.toNat_zero, List.drop_zero, YC, Ks, QL, Jt, GX, Yu, Kr, Kq, Js, Yc, J9, Yd, Ye, GF, Yf, Yg, GG, Yh, Ka, Yi, GH, Yj, Yk, GI, GJ, GK, Yl, eff, JB, QO, Ke, Ym, Kf, Kg, Kh, GL, GM, JD, JC, Jm, GN, GO, GP, Y7, pur, List.map, List.drop, List.take, List.length, List.foldl, List.append_eq, List.nil_append, List.cons_append, List.getD_cons_zero, List.getD_cons_succ, reduceIte, Nat.reduceEqDiff, Nat.reduceAdd, Nat.reduceLeDiff, true_and, and_true, Bool.not_true, Bool.not_false, Bool.and_true, Bool.true_and, Bool.and_self, reduceCtorEq, true_implies, false_implies, implies_true, decide_eq_true_eq, Option.map_some, Gm, fpX, SOp.xs, oX, refs, KE, dom, Gl, List.all_nil, List.all_cons, List.contains_cons, List.contains_nil, Nat.reduceBEq, Bool.or_false, Bool.false_or, List.append_nil, Bool.not_false, Bool.not_true, List.forall_mem_cons, fm0, List.set, Nat.reduceLT, Nat.reduceMod, ne_eq, not_false_eq_true, not_true_eq_false, GQ, Yn, Yo, Yp, Ki, Jn, Kj, Yq, Kk, Kl, GR, GS, GT, Yr, Ys, Yt, Jo, Jp, decide_true, AV.bool.injEq, AV.int.injEq, Nat.reduceLeDiff, decide_eq_true_eq, decide_eq_false_iff_not, Int.toNat_natCast, List.length_map, decide_false, KH, noref, flatOk, Qb, wkM, Km, Kw, Kx, Ju, QM, Kv, Jv, Kt, Ku, Qn, QN, Classical.not_not, Ko, Yy, List.take_zero, List.foldl_nil]
  have hm := (Xc WU (l.take i) (a - l.length) (by omega) (by omega)).2.2
  have hg : i < l.length → (l.getD i default).toList.length ≤ 9223372036854775807 := fun h => hl.2 _ (Gi h)
  have hn : i < l.length → (l.take (i + 1)).foldl (fun a x => WT x a) (a - l.length) = WT (l.getD i default) ((l.take i).foldl (fun a x => WT x a) (a - l.length)) := fun h => Wz h
  have hs : i < l.length → WT (l.getD i default) ((l.take i).foldl (fun a x => WT x a) (a - l.length)) < 0 → szS WT l a = -1 := fun h h2 => by unfold szS; rw [e0]; exact QaU WU h (by omega) (by omega) h2
  have hd : WT (l.getD i default) ((l.take i).foldl (fun a x => WT x a) (a - l.length)) = if ((l.take i).foldl (fun a x => WT x a) (a - l.length)) - ((l.getD i default).toList.length : Nat) < 0 then -1 else ((l.take i).foldl (fun a x => WT x a) (a - l.length)) - ((l.getD i default).toList.length : Nat) := rfl
  refine ⟨fun h2 => ⟨by omega, by omega, by omega, fun h3 => by rw [hs (by omega) (by omega)], fun h3 => ⟨by omega, ?_⟩⟩, fun h2 => ?_⟩
  · have e := hn (by omega)
    rw [hd, if_neg h3] at e
    refine hN (i + 1) _ (by simp only [e, List.length_append, List.length_cons, List.length_nil, Nat.zero_add, List.map_append, List.map_cons, List.map_nil, YC, YD, YE, YF, Qc, Qd, Qe, Qf, reduceIte, Nat.reduceEqDiff]; exact ⟨by repeat' (first | exact trivial | refine ⟨.inr rfl, ?_⟩), by repeat' (first | exact trivial | refine ⟨rfl, ?_⟩), by first | rfl | simp [closedB, Qx, Qo, Qb, dom, Qm, *], by first | rfl | simp [keepB, dom]⟩) ?_ ?_
    · exact ⟨by omega, by omega⟩
    · omega
  · have e : i = l.length := by omega
    subst e
    simp only [List.take_length]; unfold szS; rw [e0]
def WX : List AV → Option (Prop × AV)
  | [.sl lt 1 lx, .int .i64 b] => some ((((lx.map unS).map Ko = lx)) ∧ ((0 ≤ b ∧ b ≤ 1048576) ∧ ((lx.map unS).length ≤ 9223372036854775807 ∧ ∀ y ∈ (lx.map unS), y.toList.length ≤ 9223372036854775807)), .int .i64 (szS WT (lx.map unS) b))
  | _ => none
theorem Qjb : ∀ args p v, WX args = some (p, v) → p → Contract P 74 args [] v [] ∧ noref v = true ∧ No99 v := by
  intro args p v h1 h2
  unfold WX at h1
  split at h1
  · rename_i lt lx b
    cases h1
    obtain ⟨e0, HP⟩ := h2
    have := Qja lt (lx.map unS) b HP.1 HP.2
    exact ⟨by simpa only [e0] using this, rfl, trivial⟩
  · cases h1
theorem Qns (t sz : Nat) (xs : List (List AV)) (a : Int) (hp : (0 ≤ a ∧ a ≤ 1048576) ∧ xs.length ≤ 9223372036854775807) : Contract P 75 [.sl t sz xs, .int .i64 a] [] (.int .i64 (Qaj a xs.length)) [] := by
  refine QP (Env.nil P) hm QcI (Nat.le_of_ble_eq_true rfl) rfl ?_; unfold VK; simp (config := { maxSteps := 2000000 }) only [JK, Gr, KO, KP, JL, QW, JM, JN, KQ, Gs, KR, KS, KT, KU, KV, KW, KX, KY, KZ, K1, K2, QX, QY, QZ, JO, JP, JQ, Q0, Q1, Q2, Q3, Q4, Q5, JR, JS, JT, JU, Jq, Jr, Kp, Yv, GU, JV, Qz, Qk, KN, QT, QU, JH, QV, JI, JJ, QS, Qy, JE, JF, KK, JG, KL, KM, Q8, Q9, Qc, Qd, QE, QF, Ja, Jb, QQ, QR, Qe, Qf, GD, GE, JZ, J0, K3, JW, JX, JY, Kb, Kc, Kd, QA, QB, QD, Gt, Gu, Gv, Gw, Q6, Q7, Gy, Gx, Gz, QG, J1, K4, J2, K5, K6, K7, K8, J3, Jc, K9, Jd, Je, Jf, Jg, Jh, QH, QI, Ji, J4, Jj, J5, J6, J7, GA, GB, Ya, Jk, Yb, QJ, KJ, J8, KF, GC, Jl, YF, YE, YD, Gk, List.length_take, Int.toNat_zero, List.drop_zero, YC, Ks, QL, Jt, GX, Yu, Kr, Kq, Js, Yc, J9, Yd, Ye, GF, Yf, Yg, GG, Yh, Ka, Yi, GH, Yj, Yk, GI, GJ, GK, Yl, eff, JB, QO, Ke, Ym, Kf, Kg, Kh, GL, GM, JD, JC, Jm, GN, GO, GP, Y7, pur, List.map, List.drop, List.take, List.length, List.foldl, List.append_eq, List.nil_append, List.cons_append, List.getD_cons_zero, List.getD_cons_succ, reduceIte, Nat.reduceEqDiff, Nat.reduceAdd, Nat.reduceLeDiff, true_and, and_true, Bool.not_true, Bool.not_false, Bool.and_true, Bool.true_and, Bool.and_self, reduceCtorEq, true_implies, false_implies, implies_true, decide_eq_true_eq, Option.map_some, Gm, fpX, SOp.xs, oX, refs, KE, dom, Gl, List.all_nil, List.all_cons, List.contains_cons, List.contains_nil, Nat.reduceBEq, Bool.or_false, Bool.false_or, List.append_nil, Bool.not_false, Bool.not_true, List.forall_mem_cons, fm0, List.set, Nat.reduceLT, Nat.reduceMod, ne_eq, not_false_eq_true, not_true_eq_false, GQ, Yn, Yo, Yp, Ki, Jn, Kj, Yq, Kk, Kl, GR, GS, GT, Yr, Ys, Yt, Jo, Jp, decide_true, AV.bool.injEq, AV.int.injEq, Nat.reduceLeDiff, decide_eq_true_eq, decide_eq_false_iff_not, Int.toNat_natCast, List.length_map, decide_false, KH, noref, flatOk, Qb, wkM, Km, Kw, Kx, Ju, QM, Kv, Jv, Kt, Ku, Qn, QN, Classical.not_not]
  refine ⟨by omega, fun h1 => ?_, fun h1 => ?_⟩
  · unfold Qaj; rw [if_pos h1]
  · unfold Qaj; rw [if_neg h1]
def Qea : List AV → Option (Prop × AV)
  | [.sl t sz xs, .int .i64 a] => some ((0 ≤ a ∧ a ≤ 1048576) ∧ xs.length ≤ 9223372036854775807, .int .i64 (Qaj a xs.length))
  | _ => none
theorem Qnt : ∀ args p v, Qea args = some (p, v) → p → Contract P 75 args [] v [] ∧ noref v = true ∧ No99 v := by
  intro args p v h1 h2
  unfold Qea at h1
  split at h1
  · cases h1; exact ⟨Qns _ _ _ _ h2, rfl, trivial⟩
  · cases h1
theorem QqL (s : Pt) (a : Int) (ha : 0 ≤ a ∧ a ≤ 1048576) (hs : s.fitp) : Contract P 39 [.agg s.row, .int .i64 a] [] (.int .i64 (s.sz a)) [] := by
  unfold Pt.fitp at hs
  simp only [Pt.row]
  refine QP (Env.nil P) hm Qdg (Nat.le_of_ble_eq_true rfl) rfl ?_; unfold Wm; simp (config := { maxSteps := 2000000 }) only [JK, Gr, KO, KP, JL, QW, JM, JN, KQ, Gs, KR, KS, KT, KU, KV, KW, KX, KY, KZ, K1, K2, QX, QY, QZ, JO, JP, JQ, Q0, Q1, Q2, Q3, Q4, Q5, JR, JS, JT, JU, Jq, Jr, Kp, Yv, GU, JV, Qz, Qk, KN, QT, QU, JH, QV, JI, JJ, QS, Qy, JE, JF, KK, JG, KL, KM, Q8, Q9, Qc, Qd, QE, QF, Ja, Jb, QQ, QR, Qe, Qf, GD, GE, JZ, J0, K3, JW, JX, JY, Kb, Kc, Kd, QA, QB, QD, Gt, Gu, Gv, Gw, Q6, Q7, Gy, Gx, Gz, QG, J1, K4, J2, K5, K6, K7, K8, J3, Jc, K9, Jd, Je, Jf, Jg, Jh, QH, QI, Ji, J4, Jj, J5, J6, J7, GA, GB, Ya, Jk, Yb, QJ, KJ, J8, KF, GC, Jl, YF, YE, YD, Gk, List.length_take, Int.toNat_zero, List.drop_zero, YC, Ks, QL, Jt, GX, Yu, Kr, Kq, Js, Yc, J9, Yd, Ye, GF, Yf, Yg, GG, Yh, Ka, Yi, GH, Yj, Yk, GI, GJ, GK, Yl, eff, JB, QO, Ke, Ym, Kf, Kg, Kh, GL, GM, JD, JC, Jm, GN, GO, GP, Y7, pur, List.map, List.drop, List.take, List.length, List.foldl, List.append_eq, List.nil_append, List.cons_append, List.getD_cons_zero, List.getD_cons_succ, reduceIte, Nat.reduceEqDiff, Nat.reduceAdd, Nat.reduceLeDiff, true_and, and_true, Bool.not_true, Bool.not_false, Bool.and_true, Bool.true_and, Bool.and_self, reduceCtorEq, true_implies, false_implies, implies_true, decide_eq_true_eq, Option.map_some, Gm, fpX, SOp.xs, oX, refs, KE, dom, Gl, List.all_nil, List.all_cons, List.contains_cons, List.contains_nil, Nat.reduceBEq, Bool.or_false, Bool.false_or, List.append_nil, Bool.not_false, Bool.not_true, List.forall_mem_cons, fm0, List.set, Nat.reduceLT, Nat.reduceMod, ne_eq, not_false_eq_true, not_true_eq_false, GQ, Yn, Yo, Yp, Ki, Jn, Kj, Yq, Kk, Kl, GR, GS, GT, Yr, Ys, Yt, Jo, Jp, decide_true, AV.bool.injEq, AV.int.injEq, Nat.reduceLeDiff, decide_eq_true_eq, decide_eq_false_iff_not, Int.toNat_natCast, List.length_map, decide_false, KH, noref, flatOk, Qb, wkM, Km, Kw, Kx, Ju, QM, Kv, Jv, Kt, Ku, Qn, QN, Classical.not_not, Qr, Qt, Qa, Yw, Ql, List.take_length, List.length_cons, List.length_nil, Nat.zero_add, Ko, Yx, Yy, YG, Pt.row, Qs, Aw.row, Qv, Blk.row, Qg, Sec.row, Qh, Rw.row, Qw, Sky.row, Qi, Jw, Jx, Qp, Qu, Jy, YK]
  unfold Pt.sz
  repeat' (first | with_reducible apply And.intro | with_reducible intro _)
  all_goals first | omega | (exact hs) | (exact hs.1) | (exact hs.2.1) | (exact hs.2.2) | (exact hs.2.2.1) | (exact hs.2.2.2) | (exact hs.2.2.2.1) | (exact hs.2.2.2.2) | (exact hs.1.1) | (exact hs.1.2) | (exact hs.2.1.1) | (exact hs.2.1.2) | (unfold chk; grind) | grind
def Qic : List AV → Option (Prop × AV)
  | [.agg [.str s_nm, .int .i64 s_x, .int .i64 s_y], .int .i64 b] => some ((True) ∧ ((0 ≤ b ∧ b ≤ 1048576) ∧ (Pt.fitp (Pt.mk s_nm s_x s_y))), .int .i64 (Pt.sz (Pt.mk s_nm s_x s_y) b))
  | _ => none
theorem QqM : ∀ args p v, Qic args = some (p, v) → p → Contract P 39 args [] v [] ∧ noref v = true ∧ No99 v := by
  intro args p v h1 h2
  unfold Qic at h1
  split at h1
  · rename_i s_nm s_x s_y b
    cases h1
    obtain ⟨_, HP⟩ := h2
    have := QqL (Pt.mk s_nm s_x s_y) b HP.1 HP.2
    exact ⟨by simpa only [Pt.row] using this, rfl, trivial⟩
  · cases h1
theorem Qpf (t : Nat) (l : List Pt) (a : Int) (ha : 0 ≤ a ∧ a ≤ 1048576) (hl : l.length ≤ 9223372036854775807 ∧ ∀ y ∈ l, y.fitp) : Contract P 16 [.sl t 3 (l.map Pt.row), .int .i64 a] [] (.int .i64 (szS Pt.sz l a)) [] := by
  refine QP ((Env.nil P).add 39 Qic QqM) hm Qcq (Nat.le_of_ble_eq_true rfl) rfl ?_; unfold Vt; simp (config := { maxSteps := 2000000 }) only [JK, Gr, KO, KP, JL, QW, JM, JN, KQ, Gs, KR, KS, KT, KU, KV, KW, KX, KY, KZ, K1, K2, QX, QY, QZ, JO, JP, JQ, Q0, Q1, Q2, Q3, Q4, Q5, JR, JS, JT, JU, Jq, Jr, Kp, Yv, GU, JV, Qz, Qk, KN, QT, QU, JH, QV, JI, JJ, QS, Qy, JE, JF, KK, JG, KL, KM, Q8, Q9, Qc, Qd, QE, QF, Ja, Jb, QQ, QR, Qe, Qf, GD, GE, JZ, J0, K3, JW, JX, JY, Kb, Kc, Kd, QA, QB, QD, Gt, Gu, Gv, Gw, Q6, Q7, Gy, Gx, Gz, QG, J1, K4, J2, K5, K6, K7, K8, J3, Jc, K9, Jd, Je, Jf, Jg, Jh, QH, QI, Ji, J4, Jj, J5, J6, J7, GA, GB, Ya, Jk, Yb, QJ, KJ, J8, KF, GC, Jl, YF, YE, YD, Gk, List.length_take, Int.toNat_zero, List.drop_zero, YC, Ks, QL, Jt, GX, Yu, Kr, Kq, Js, Yc, J9, Yd, Ye, GF, Yf, Yg, GG, Yh, Ka, Yi, GH, Yj, Yk, GI, GJ, GK, Yl, eff, JB, QO, Ke, Ym, Kf, Kg, Kh, GL, GM, JD, JC, Jm, GN, GO, GP, Y7, pur, List.map, List.drop, List.take, List.length, List.foldl, List.append_eq, List.nil_append, List.cons_append, List.getD_cons_zero, List.getD_cons_succ, reduceIte, Nat.reduceEqDiff, Nat.reduceAdd, Nat.reduceLeDiff, true_and, and_true, Bool.not_true, Bool.not_false, Bool.and_true, Bool.true_and, Bool.and_self, reduceCtorEq, true_implies, false_implies, implies_true, decide_eq_true_eq, Option.map_some, Gm, fpX, SOp.xs, oX, refs, KE, dom, Gl, List.all_nil, List.all_cons, List.contains_cons, List.contains_nil, Nat.reduceBEq, Bool.or_false, Bool.false_or, List.append_nil, Bool.not_false, Bool.not_true, List.forall_mem_cons, fm0, List.set, Nat.reduceLT, Nat.reduceMod, ne_eq, not_false_eq_true, not_true_eq_false, GQ, Yn, Yo, Yp, Ki, Jn, Kj, Yq, Kk, Kl, GR, GS, GT, Yr, Ys, Yt, Jo, Jp, decide_true, AV.bool.injEq, AV.int.injEq, Nat.reduceLeDiff, decide_eq_true_eq, decide_eq_false_iff_not, Int.toNat_natCast, List.length_map, decide_false, KH, noref, flatOk, Qb, wkM, Km, Kw, Kx, Ju, QM, Kv, Jv, Kt, Ku, Qn, QN, Classical.not_not, Qic, Qr, Qt, Qa, Yw, Ql, List.take_length, List.length_cons, List.length_nil, Nat.zero_add, Ko, Yx, Yy, YG, Pt.row, Qs, Aw.row, Qv, Blk.row, Qg, Sec.row, Qh, Rw.row, Qw, Sky.row, Qi, Jw, Jx, Qp, Qu, Jy, YK, List.take_zero, List.foldl_nil]
  have hz : Qaj a l.length = if a - l.length < 0 then -1 else a - l.length := rfl
  refine ⟨by omega, fun h1 => ?_, fun h1 => ?_⟩
  · unfold szS
    rw [(Xc QbS l _ (by omega) (by omega)).2.1 (by omega)]
  have e0 : Qaj a l.length = a - l.length := if_neg h1
  refine Yz (fun i : Nat => [(1, .int .i64 ((l.take i).foldl (fun a x => x.sz a) (a - l.length))), (5, .int .i64 i)]) (fun _ => []) (fun i => i ≤ l.length ∧ 0 ≤ (l.take i).foldl (fun a x => x.sz a) (a - l.length)) (fun i => l.length - i) (0) (by simp only [YC, YD, YE, YF, Qc, Qd, Qe, Qf, reduceIte, Nat.reduceEqDiff]; exact ⟨by repeat' (first | exact trivial | refine ⟨.inr rfl, ?_⟩), by repeat' (first | exact trivial | refine ⟨rfl, ?_⟩), by first | rfl | simp [closedB, Qx, Qo, Qb, dom, Qm, *], by first | rfl | simp [keepB, dom]⟩) ?_ ?_
  · simp only [List.take_zero, List.foldl_nil]; omega
  intro i hi NX hN
  have hm := (Xc QbS (l.take i) (a - l.length) (by omega) (by omega)).2.2
  have hg : i < l.length → (l.getD i default).fitp := fun h => hl.2 _ (Gi h)
  have hn : i < l.length → (l.take (i + 1)).foldl (fun a x => x.sz a) (a - l.length) = (l.getD i default).sz ((l.take i).foldl (fun a x => x.sz a) (a - l.length)) := fun h => Wz (f := Pt.sz) h
  have hs : i < l.length → (l.getD i default).sz ((l.take i).foldl (fun a x => x.sz a) (a - l.length)) < 0 → szS Pt.sz l a = -1 := fun h h2 => by unfold szS; rw [e0]; exact QaU QbS h (by omega) (by omega) h2
  unfold Ur; simp (config := { maxSteps := 2000000 }) only [JK, Gr, KO, KP, JL, QW, JM, JN, KQ, Gs, KR, KS, KT, KU, KV, KW, KX, KY, KZ, K1, K2, QX, QY, QZ, JO, JP, JQ, Q0, Q1, Q2, Q3, Q4, Q5, JR, JS, JT, JU, Jq, Jr, Kp, Yv, GU, JV, Qz, Qk, KN, QT, QU, JH, QV, JI, JJ, QS, Qy, JE, JF, KK, JG, KL, KM, Q8, Q9, Qc, Qd, QE, QF, Ja, Jb, QQ, QR, Qe, Qf, GD, GE, JZ, J0, K3, JW, JX, JY, Kb, Kc, Kd, QA, QB, QD, Gt, Gu, Gv, Gw, Q6, Q7, Gy, Gx, Gz, QG, J1, K4, J2, K5, K6, K7, K8, J3, Jc, K9, Jd, Je, Jf, Jg, Jh, QH, QI, Ji, J4, Jj, J5, J6, J7, GA, GB, Ya, Jk, Yb, QJ, KJ, J8, KF, GC, Jl, YF, YE, YD, Gk, List.length_take, Int.toNat_zero, List.drop_zero, YC, Ks, QL, Jt, GX, Yu, Kr, Kq, Js, Yc, J9, Yd, Ye, GF, Yf, Yg, GG, Yh, Ka, Yi, GH, Yj, Yk, GI, GJ, GK, Yl, eff, JB, QO, Ke, Ym, Kf, Kg, Kh, GL, GM, JD, JC, Jm, GN, GO, GP, Y7, pur, List.map, List.drop, List.take, List.length, List.foldl, List.append_eq, List.nil_append, List.cons_append, List.getD_cons_zero, List.getD_cons_succ, reduceIte, Nat.reduceEqDiff, Nat.reduceAdd, Nat.reduceLeDiff, true_and, and_true, Bool.not_true, Bool.not_false, Bool.and_true, Bool.true_and, Bool.and_self, reduceCtorEq, true_implies, false_implies, implies_true, decide_eq_true_eq, Option.map_some, Gm, fpX, SOp.xs, oX, refs, KE, dom, Gl, List.all_nil, List.all_cons, List.contains_cons, List.contains_nil, Nat.reduceBEq, Bool.or_false, Bool.false_or, List.append_nil, Bool.not_false, Bool.not_true, List.forall_mem_cons, fm0, List.set, Nat.reduceLT, Nat.reduceMod, ne_eq, not_false_eq_true, not_true_eq_false, GQ, Yn, Yo, Yp, Ki, Jn, Kj, Yq, Kk, Kl, GR, GS, GT, Yr, Ys, Yt, Jo, Jp, decide_true, AV.bool.injEq, AV.int.injEq, Nat.reduceLeDiff, decide_eq_true_eq, decide_eq_false_iff_not, Int.toNat_natCast, List.length_map, decide_false, KH, noref, flatOk, Qb, wkM, Km, Kw, Kx, Ju, QM, Kv, Jv, Kt, Ku, Qn, QN, Classical.not_not, Qic, Qr, Qt, Qa, Yw, Ql, List.take_length, List.length_cons, List.length_nil, Nat.zero_add, Ko, Yx, Yy, YG, Pt.row, Qs, Aw.row, Qv, Blk.row, Qg, Sec.row, Qh, Rw.row, Qw, Sky.row, Qi, Jw, Jx, Qp, Qu, Jy, YK, List.take_zero, List.foldl_nil]
  refine ⟨fun h2 => ⟨by omega, by omega, ⟨⟨by omega, by omega⟩, hg (by omega)⟩, fun h3 => by rw [hs (by omega) h3], fun h3 => ⟨by omega, ?_⟩⟩, fun h2 => ?_⟩
  · have e := hn (by omega)
    refine hN (i + 1) _ (by simp only [e, List.length_append, List.length_cons, List.length_nil, Nat.zero_add, List.map_append, List.map_cons, List.map_nil, YC, YD, YE, YF, Qc, Qd, Qe, Qf, reduceIte, Nat.reduceEqDiff]; exact ⟨by repeat' (first | exact trivial | refine ⟨.inr rfl, ?_⟩), by repeat' (first | exact trivial | refine ⟨rfl, ?_⟩), by first | rfl | simp [closedB, Qx, Qo, Qb, dom, Qm, *], by first | rfl | simp [keepB, dom]⟩) ?_ ?_
    · exact ⟨by omega, by rw [e]; omega⟩
    · omega
  · have e : i = l.length := by omega
    subst e
    simp only [List.take_length]; unfold szS; rw [e0]
def QgE : List AV → Option (Prop × AV)
  | [.sl lt 3 lx, .int .i64 b] => some ((((lx.map Y1).map Pt.row = lx)) ∧ ((0 ≤ b ∧ b ≤ 1048576) ∧ ((lx.map Y1).length ≤ 9223372036854775807 ∧ ∀ y ∈ (lx.map Y1), Pt.fitp y)), .int .i64 (szS Pt.sz (lx.map Y1) b))
  | _ => none
theorem Qpg : ∀ args p v, QgE args = some (p, v) → p → Contract P 16 args [] v [] ∧ noref v = true ∧ No99 v := by
  intro args p v h1 h2
  unfold QgE at h1
  split at h1
  · rename_i lt lx b
    cases h1
    obtain ⟨e0, HP⟩ := h2
    have := Qpf lt (lx.map Y1) b HP.1 HP.2
    exact ⟨by simpa only [e0] using this, rfl, trivial⟩
  · cases h1
theorem QqN (s : Rw) (a : Int) (ha : 0 ≤ a ∧ a ≤ 1048576) (hs : s.fitp) : Contract P 42 [.agg s.row, .int .i64 a] [] (.int .i64 (s.sz a)) [] := by
  unfold Rw.fitp at hs
  simp only [Rw.row]
  refine QP (Env.nil P) hm Qcw (Nat.le_of_ble_eq_true rfl) rfl ?_; unfold Vy; simp (config := { maxSteps := 2000000 }) only [JK, Gr, KO, KP, JL, QW, JM, JN, KQ, Gs, KR, KS, KT, KU, KV, KW, KX, KY, KZ, K1, K2, QX, QY, QZ, JO, JP, JQ, Q0, Q1, Q2, Q3, Q4, Q5, JR, JS, JT, JU, Jq, Jr, Kp, Yv, GU, JV, Qz, Qk, KN, QT, QU, JH, QV, JI, JJ, QS, Qy, JE, JF, KK, JG, KL, KM, Q8, Q9, Qc, Qd, QE, QF, Ja, Jb, QQ, QR, Qe, Qf, GD, GE, JZ, J0, K3, JW, JX, JY, Kb, Kc, Kd, QA, QB, QD, Gt, Gu, Gv, Gw, Q6, Q7, Gy, Gx, Gz, QG, J1, K4, J2, K5, K6, K7, K8, J3, Jc, K9, Jd, Je, Jf, Jg, Jh, QH, QI, Ji, J4, Jj, J5, J6, J7, GA, GB, Ya, Jk, Yb, QJ, KJ, J8, KF, GC, Jl, YF, YE, YD, Gk, List.length_take, Int.toNat_zero, List.drop_zero, YC, Ks, QL, Jt, GX, Yu, Kr, Kq, Js, Yc, J9, Yd, Ye, GF, Yf, Yg, GG, Yh, Ka, Yi, GH, Yj, Yk, GI, GJ, GK, Yl, eff, JB, QO, Ke, Ym, Kf, Kg, Kh, GL, GM, JD, JC, Jm, GN, GO, GP, Y7, pur, List.map, List.drop, List.take, List.length, List.foldl, List.append_eq, List.nil_append, List.cons_append, List.getD_cons_zero, List.getD_cons_succ, reduceIte, Nat.reduceEqDiff, Nat.reduceAdd, Nat.reduceLeDiff, true_and, and_true, Bool.not_true, Bool.not_false, Bool.and_true, Bool.true_and, Bool.and_self, reduceCtorEq, true_implies, false_implies, implies_true, decide_eq_true_eq, Option.map_some, Gm, fpX, SOp.xs, oX, refs, KE, dom, Gl, List.all_nil, List.all_cons, List.contains_cons, List.contains_nil, Nat.reduceBEq, Bool.or_false, Bool.false_or, List.append_nil, Bool.not_false, Bool.not_true, List.forall_mem_cons, fm0, List.set, Nat.reduceLT, Nat.reduceMod, ne_eq, not_false_eq_true, not_true_eq_false, GQ, Yn, Yo, Yp, Ki, Jn, Kj, Yq, Kk, Kl, GR, GS, GT, Yr, Ys, Yt, Jo, Jp, decide_true, AV.bool.injEq, AV.int.injEq, Nat.reduceLeDiff, decide_eq_true_eq, decide_eq_false_iff_not, Int.toNat_natCast, List.length_map, decide_false, KH, noref, flatOk, Qb, wkM, Km, Kw, Kx, Ju, QM, Kv, Jv, Kt, Ku, Qn, QN, Classical.not_not, Qr, Qt, Qa, Yw, Ql, List.take_length, List.length_cons, List.length_nil, Nat.zero_add, Ko, Yx, Yy, YG, Pt.row, Qs, Aw.row, Qv, Blk.row, Qg, Sec.row, Qh, Rw.row, Qw, Sky.row, Qi, Jw, Jx, Qp, Qu, Jy, YK]
  unfold Rw.sz
  repeat' (first | with_reducible apply And.intro | with_reducible intro _)
  all_goals first | omega | (exact hs) | (exact hs.1) | (exact hs.2.1) | (exact hs.2.2) | (exact hs.2.2.1) | (exact hs.2.2.2) | (exact hs.2.2.2.1) | (exact hs.2.2.2.2) | (exact hs.1.1) | (exact hs.1.2) | (exact hs.2.1.1) | (exact hs.2.1.2) | (unfold chk; grind) | grind
def Qid : List AV → Option (Prop × AV)
  | [.agg [.str s_nm, .int .i64 s_x, .int .i64 s_y, .int .i64 s_tn], .int .i64 b] => some ((True) ∧ ((0 ≤ b ∧ b ≤ 1048576) ∧ (Rw.fitp (Rw.mk s_nm s_x s_y s_tn))), .int .i64 (Rw.sz (Rw.mk s_nm s_x s_y s_tn) b))
  | _ => none
theorem QqO : ∀ args p v, Qid args = some (p, v) → p → Contract P 42 args [] v [] ∧ noref v = true ∧ No99 v := by
  intro args p v h1 h2
  unfold Qid at h1
  split at h1
  · rename_i s_nm s_x s_y s_tn b
    cases h1
    obtain ⟨_, HP⟩ := h2
    have := QqN (Rw.mk s_nm s_x s_y s_tn) b HP.1 HP.2
    exact ⟨by simpa only [Rw.row] using this, rfl, trivial⟩
  · cases h1
theorem Qph (t : Nat) (l : List Rw) (a : Int) (ha : 0 ≤ a ∧ a ≤ 1048576) (hl : l.length ≤ 9223372036854775807 ∧ ∀ y ∈ l, y.fitp) : Contract P 19 [.sl t 4 (l.map Rw.row), .int .i64 a] [] (.int .i64 (szS Rw.sz l a)) [] := by
  refine QP ((Env.nil P).add 42 Qid QqO) hm QbK (Nat.le_of_ble_eq_true rfl) rfl ?_; unfold U3; simp (config := { maxSteps := 2000000 }) only [JK, Gr, KO, KP, JL, QW, JM, JN, KQ, Gs, KR, KS, KT, KU, KV, KW, KX, KY, KZ, K1, K2, QX, QY, QZ, JO, JP, JQ, Q0, Q1, Q2, Q3, Q4, Q5, JR, JS, JT, JU, Jq, Jr, Kp, Yv, GU, JV, Qz, Qk, KN, QT, QU, JH, QV, JI, JJ, QS, Qy, JE, JF, KK, JG, KL, KM, Q8, Q9, Qc, Qd, QE, QF, Ja, Jb, QQ, QR, Qe, Qf, GD, GE, JZ, J0, K3, JW, JX, JY, Kb, Kc, Kd, QA, QB, QD, Gt, Gu, Gv, Gw, Q6, Q7, Gy, Gx, Gz, QG, J1, K4, J2, K5, K6, K7, K8, J3, Jc, K9, Jd, Je, Jf, Jg, Jh, QH, QI, Ji, J4, Jj, J5, J6, J7, GA, GB, Ya, Jk, Yb, QJ, KJ, J8, KF, GC, Jl, YF, YE, YD, Gk, List.length_take, Int.toNat_zero, List.drop_zero, YC, Ks, QL, Jt, GX, Yu, Kr, Kq, Js, Yc, J9, Yd, Ye, GF, Yf, Yg, GG, Yh, Ka, Yi, GH, Yj, Yk, GI, GJ, GK, Yl, eff, JB, QO, Ke, Ym, Kf, Kg, Kh, GL, GM, JD, JC, Jm, GN, GO, GP, Y7, pur, List.map, List.drop, List.take, List.length, List.foldl, List.append_eq, List.nil_append, List.cons_append, List.getD_cons_zero, List.getD_cons_succ, reduceIte, Nat.reduceEqDiff, Nat.reduceAdd, Nat.reduceLeDiff, true_and, and_true, Bool.not_true, Bool.not_false, Bool.and_true, Bool.true_and, Bool.and_self, reduceCtorEq, true_implies, false_implies, implies_true, decide_eq_true_eq, Option.map_some, Gm, fpX, SOp.xs, oX, refs, KE, dom, Gl, List.all_nil, List.all_cons, List.contains_cons, List.contains_nil, Nat.reduceBEq, Bool.or_false, Bool.false_or, List.append_nil, Bool.not_false, Bool.not_true, List.forall_mem_cons, fm0, List.set, Nat.reduceLT, Nat.reduceMod, ne_eq, not_false_eq_true, not_true_eq_false, GQ, Yn, Yo, Yp, Ki, Jn, Kj, Yq, Kk, Kl, GR, GS, GT, Yr, Ys, Yt, Jo, Jp, decide_true, AV.bool.injEq, AV.int.injEq, Nat.reduceLeDiff, decide_eq_true_eq, decide_eq_false_iff_not, Int.toNat_natCast, List.length_map, decide_false, KH, noref, flatOk, Qb, wkM, Km, Kw, Kx, Ju, QM, Kv, Jv, Kt, Ku, Qn, QN, Classical.not_not, Qid, Qr, Qt, Qa, Yw, Ql, List.take_length, List.length_cons, List.length_nil, Nat.zero_add, Ko, Yx, Yy, YG, Pt.row, Qs, Aw.row, Qv, Blk.row, Qg, Sec.row, Qh, Rw.row, Qw, Sky.row, Qi, Jw, Jx, Qp, Qu, Jy, YK, List.take_zero, List.foldl_nil]
  have hz : Qaj a l.length = if a - l.length < 0 then -1 else a - l.length := rfl
  refine ⟨by omega, fun h1 => ?_, fun h1 => ?_⟩
  · unfold szS
    rw [(Xc QbT l _ (by omega) (by omega)).2.1 (by omega)]
  have e0 : Qaj a l.length = a - l.length := if_neg h1
  refine Yz (fun i : Nat => [(1, .int .i64 ((l.take i).foldl (fun a x => x.sz a) (a - l.length))), (5, .int .i64 i)]) (fun _ => []) (fun i => i ≤ l.length ∧ 0 ≤ (l.take i).foldl (fun a x => x.sz a) (a - l.length)) (fun i => l.length - i) (0) (by simp only [YC, YD, YE, YF, Qc, Qd, Qe, Qf, reduceIte, Nat.reduceEqDiff]; exact ⟨by repeat' (first | exact trivial | refine ⟨.inr rfl, ?_⟩), by repeat' (first | exact trivial | refine ⟨rfl, ?_⟩), by first | rfl | simp [closedB, Qx, Qo, Qb, dom, Qm, *], by first | rfl | simp [keepB, dom]⟩) ?_ ?_
  · simp only [List.take_zero, List.foldl_nil]; omega
  intro i hi NX hN
  have hm := (Xc QbT (l.take i) (a - l.length) (by omega) (by omega)).2.2
  have hg : i < l.length → (l.getD i default).fitp := fun h => hl.2 _ (Gi h)
  have hn : i < l.length → (l.take (i + 1)).foldl (fun a x => x.sz a) (a - l.length) = (l.getD i default).sz ((l.take i).foldl (fun a x => x.sz a) (a - l.length)) := fun h => Wz (f := Rw.sz) h
  have hs : i < l.length → (l.getD i default).sz ((l.take i).foldl (fun a x => x.sz a) (a - l.length)) < 0 → szS Rw.sz l a = -1 := fun h h2 => by unfold szS; rw [e0]; exact QaU QbT h (by omega) (by omega) h2
  unfold Z2; simp (config := { maxSteps := 2000000 }) only [JK, Gr, KO, KP, JL, QW, JM, JN, KQ, Gs, KR, KS, KT, KU, KV, KW, KX, KY, KZ, K1, K2, QX, QY, QZ, JO, JP, JQ, Q0, Q1, Q2, Q3, Q4, Q5, JR, JS, JT, JU, Jq, Jr, Kp, Yv, GU, JV, Qz, Qk, KN, QT, QU, JH, QV, JI, JJ, QS, Qy, JE, JF, KK, JG, KL, KM, Q8, Q9, Qc, Qd, QE, QF, Ja, Jb, QQ, QR, Qe, Qf, GD, GE, JZ, J0, K3, JW, JX, JY, Kb, Kc, Kd, QA, QB, QD, Gt, Gu, Gv, Gw, Q6, Q7, Gy, Gx, Gz, QG, J1, K4, J2, K5, K6, K7, K8, J3, Jc, K9, Jd, Je, Jf, Jg, Jh, QH, QI, Ji, J4, Jj, J5, J6, J7, GA, GB, Ya, Jk, Yb, QJ, KJ, J8, KF, GC, Jl, YF, YE, YD, Gk, List.length_take, Int.toNat_zero, List.drop_zero, YC, Ks, QL, Jt, GX, Yu, Kr, Kq, Js, Yc, J9, Yd, Ye, GF, Yf, Yg, GG, Yh, Ka, Yi, GH, Yj, Yk, GI, GJ, GK, Yl, eff, JB, QO, Ke, Ym, Kf, Kg, Kh, GL, GM, JD, JC, Jm, GN, GO, GP, Y7, pur, List.map, List.drop, List.take, List.length, List.foldl, List.append_eq, List.nil_append, List.cons_append, List.getD_cons_zero, List.getD_cons_succ, reduceIte, Nat.reduceEqDiff, Nat.reduceAdd, Nat.reduceLeDiff, true_and, and_true, Bool.not_true, Bool.not_false, Bool.and_true, Bool.true_and, Bool.and_self, reduceCtorEq, true_implies, false_implies, implies_true, decide_eq_true_eq, Option.map_some, Gm, fpX, SOp.xs, oX, refs, KE, dom, Gl, List.all_nil, List.all_cons, List.contains_cons, List.contains_nil, Nat.reduceBEq, Bool.or_false, Bool.false_or, List.append_nil, Bool.not_false, Bool.not_true, List.forall_mem_cons, fm0, List.set, Nat.reduceLT, Nat.reduceMod, ne_eq, not_false_eq_true, not_true_eq_false, GQ, Yn, Yo, Yp, Ki, Jn, Kj, Yq, Kk, Kl, GR, GS, GT, Yr, Ys, Yt, Jo, Jp, decide_true, AV.bool.injEq, AV.int.injEq, Nat.reduceLeDiff, decide_eq_true_eq, decide_eq_false_iff_not, Int.toNat_natCast, List.length_map, decide_false, KH, noref, flatOk, Qb, wkM, Km, Kw, Kx, Ju, QM, Kv, Jv, Kt, Ku, Qn, QN, Classical.not_not, Qid, Qr, Qt, Qa, Yw, Ql, List.take_length, List.length_cons, List.length_nil, Nat.zero_add, Ko, Yx, Yy, YG, Pt.row, Qs, Aw.row, Qv, Blk.row, Qg, Sec.row, Qh, Rw.row, Qw, Sky.row, Qi, Jw, Jx, Qp, Qu, Jy, YK, List.take_zero, List.foldl_nil]
  refine ⟨fun h2 => ⟨by omega, by omega, ⟨⟨by omega, by omega⟩, hg (by omega)⟩, fun h3 => by rw [hs (by omega) h3], fun h3 => ⟨by omega, ?_⟩⟩, fun h2 => ?_⟩
  · have e := hn (by omega)
    refine hN (i + 1) _ (by simp only [e, List.length_append, List.length_cons, List.length_nil, Nat.zero_add, List.map_append, List.map_cons, List.map_nil, YC, YD, YE, YF, Qc, Qd, Qe, Qf, reduceIte, Nat.reduceEqDiff]; exact ⟨by repeat' (first | exact trivial | refine ⟨.inr rfl, ?_⟩), by repeat' (first | exact trivial | refine ⟨rfl, ?_⟩), by first | rfl | simp [closedB, Qx, Qo, Qb, dom, Qm, *], by first | rfl | simp [keepB, dom]⟩) ?_ ?_
    · exact ⟨by omega, by rw [e]; omega⟩
    · omega
  · have e : i = l.length := by omega
    subst e
    simp only [List.take_length]; unfold szS; rw [e0]
def QgF : List AV → Option (Prop × AV)
  | [.sl lt 4 lx, .int .i64 b] => some ((((lx.map Y2).map Rw.row = lx)) ∧ ((0 ≤ b ∧ b ≤ 1048576) ∧ ((lx.map Y2).length ≤ 9223372036854775807 ∧ ∀ y ∈ (lx.map Y2), Rw.fitp y)), .int .i64 (szS Rw.sz (lx.map Y2) b))
  | _ => none
theorem Qpi : ∀ args p v, QgF args = some (p, v) → p → Contract P 19 args [] v [] ∧ noref v = true ∧ No99 v := by
  intro args p v h1 h2
  unfold QgF at h1
  split at h1
  · rename_i lt lx b
    cases h1
    obtain ⟨e0, HP⟩ := h2
    have := Qph lt (lx.map Y2) b HP.1 HP.2
    exact ⟨by simpa only [e0] using this, rfl, trivial⟩
  · cases h1
theorem QqP (s : Aw) (a : Int) (ha : 0 ≤ a ∧ a ≤ 1048576) (hs : s.fitp) : Contract P 40 [.agg (s.row 1), .int .i64 a] [] (.int .i64 (s.sz a)) [] := by
  unfold Aw.fitp at hs
  simp only [Aw.row]
  refine QP ((Env.nil P).add 74 WX Qjb) hm Qcu (Nat.le_of_ble_eq_true rfl) rfl ?_; unfold Vw; simp (config := { maxSteps := 2000000 }) only [JK, Gr, KO, KP, JL, QW, JM, JN, KQ, Gs, KR, KS, KT, KU, KV, KW, KX, KY, KZ, K1, K2, QX, QY, QZ, JO, JP, JQ, Q0, Q1, Q2, Q3, Q4, Q5, JR, JS, JT, JU, Jq, Jr, Kp, Yv, GU, JV, Qz, Qk, KN, QT, QU, JH, QV, JI, JJ, QS, Qy, JE, JF, KK, JG, KL, KM, Q8, Q9, Qc, Qd, QE, QF, Ja, Jb, QQ, QR, Qe, Qf, GD, GE, JZ, J0, K3, JW, JX, JY, Kb, Kc, Kd, QA, QB, QD, Gt, Gu, Gv, Gw, Q6, Q7, Gy, Gx, Gz, QG, J1, K4, J2, K5, K6, K7, K8, J3, Jc, K9, Jd, Je, Jf, Jg, Jh, QH, QI, Ji, J4, Jj, J5, J6, J7, GA, GB, Ya, Jk, Yb, QJ, KJ, J8, KF, GC, Jl, YF, YE, YD, Gk, List.length_take, Int.toNat_zero, List.drop_zero, YC, Ks, QL, Jt, GX, Yu, Kr, Kq, Js, Yc, J9, Yd, Ye, GF, Yf, Yg, GG, Yh, Ka, Yi, GH, Yj, Yk, GI, GJ, GK, Yl, eff, JB, QO, Ke, Ym, Kf, Kg, Kh, GL, GM, JD, JC, Jm, GN, GO, GP, Y7, pur, List.map, List.drop, List.take, List.length, List.foldl, List.append_eq, List.nil_append, List.cons_append, List.getD_cons_zero, List.getD_cons_succ, reduceIte, Nat.reduceEqDiff, Nat.reduceAdd, Nat.reduceLeDiff, true_and, and_true, Bool.not_true, Bool.not_false, Bool.and_true, Bool.true_and, Bool.and_self, reduceCtorEq, true_implies, false_implies, implies_true, decide_eq_true_eq, Option.map_some, Gm, fpX, SOp.xs, oX, refs, KE, dom, Gl, List.all_nil, List.all_cons, List.contains_cons, List.contains_nil, Nat.reduceBEq, Bool.or_false, Bool.false_or, List.append_nil, Bool.not_false, Bool.not_true, List.forall_mem_cons, fm0, List.set, Nat.reduceLT, Nat.reduceMod, ne_eq, not_false_eq_true, not_true_eq_false, GQ, Yn, Yo, Yp, Ki, Jn, Kj, Yq, Kk, Kl, GR, GS, GT, Yr, Ys, Yt, Jo, Jp, decide_true, AV.bool.injEq, AV.int.injEq, Nat.reduceLeDiff, decide_eq_true_eq, decide_eq_false_iff_not, Int.toNat_natCast, List.length_map, decide_false, KH, noref, flatOk, Qb, wkM, Km, Kw, Kx, Ju, QM, Kv, Jv, Kt, Ku, Qn, QN, Classical.not_not, WX, Qr, Qt, Qa, Yw, Ql, List.take_length, List.length_cons, List.length_nil, Nat.zero_add, Ko, Yx, Yy, YG, Pt.row, Qs, Aw.row, Qv, Blk.row, Qg, Sec.row, Qh, Rw.row, Qw, Sky.row, Qi, Jw, Jx, Qp, Qu, Jy, YK]
  unfold Aw.sz
  have qpts : (szS WT s.pts (a - (s.nm.toList.length : Nat))) ≤ max (a - (s.nm.toList.length : Nat)) (-1) := (Xw WU s.pts (a - (s.nm.toList.length : Nat)) (by omega)).2.2
  repeat' (first | with_reducible apply And.intro | with_reducible intro _)
  all_goals first | omega | (exact hs) | (exact hs.1) | (exact hs.2.1) | (exact hs.2.2) | (exact hs.2.2.1) | (exact hs.2.2.2) | (exact hs.2.2.2.1) | (exact hs.2.2.2.2) | (exact hs.1.1) | (exact hs.1.2) | (exact hs.2.1.1) | (exact hs.2.1.2) | (unfold chk; grind) | grind
def Qie : List AV → Option (Prop × AV)
  | [.agg [.str s_nm, .sl 1 1 s_pts], .int .i64 b] => some ((((s_pts.map unS).map Ko = s_pts)) ∧ ((0 ≤ b ∧ b ≤ 1048576) ∧ (Aw.fitp (Aw.mk s_nm (s_pts.map unS)))), .int .i64 (Aw.sz (Aw.mk s_nm (s_pts.map unS)) b))
  | _ => none
theorem QqQ : ∀ args p v, Qie args = some (p, v) → p → Contract P 40 args [] v [] ∧ noref v = true ∧ No99 v := by
  intro args p v h1 h2
  unfold Qie at h1
  split at h1
  · rename_i s_nm s_pts b
    cases h1
    obtain ⟨e0, HP⟩ := h2
    have := QqP (Aw.mk s_nm (s_pts.map unS)) b HP.1 HP.2
    exact ⟨by simpa only [e0, Aw.row] using this, rfl, trivial⟩
  · cases h1
theorem Qpj (t : Nat) (l : List Aw) (a : Int) (ha : 0 ≤ a ∧ a ≤ 1048576) (hl : l.length ≤ 9223372036854775807 ∧ ∀ y ∈ l, y.fitp) : Contract P 17 [.sl t 2 (l.map (Aw.row 1)), .int .i64 a] [] (.int .i64 (szS Aw.sz l a)) [] := by
  refine QP ((Env.nil P).add 40 Qie QqQ) hm QbI (Nat.le_of_ble_eq_true rfl) rfl ?_; unfold U1; simp (config := { maxSteps := 2000000 }) only [JK, Gr, KO, KP, JL, QW, JM, JN, KQ, Gs, KR, KS, KT, KU, KV, KW, KX, KY, KZ, K1, K2, QX, QY, QZ, JO, JP, JQ, Q0, Q1, Q2, Q3, Q4, Q5, JR, JS, JT, JU, Jq, Jr, Kp, Yv, GU, JV, Qz, Qk, KN, QT, QU, JH, QV, JI, JJ, QS, Qy, JE, JF, KK, JG, KL, KM, Q8, Q9, Qc, Qd, QE, QF, Ja, Jb, QQ, QR, Qe, Qf, GD, GE, JZ, J0, K3, JW, JX, JY, Kb, Kc, Kd, QA, QB, QD, Gt, Gu, Gv, Gw, Q6, Q7, Gy, Gx, Gz, QG, J1, K4, J2, K5, K6, K7, K8, J3, Jc, K9, Jd, Je, Jf, Jg, Jh, QH, QI, Ji, J4, Jj, J5, J6, J7, GA, GB, Ya, Jk, Yb, QJ, KJ, J8, KF, GC, Jl, YF, YE, YD, Gk, List.length_take, Int.toNat_zero, List.drop_zero, YC, Ks, QL, Jt, GX, Yu, Kr, Kq, Js, Yc, J9, Yd, Ye, GF, Yf, Yg, GG, Yh, Ka, Yi, GH, Yj, Yk, GI, GJ, GK, Yl, eff, JB, QO, Ke, Ym, Kf, Kg, Kh, GL, GM, JD, JC, Jm, GN, GO, GP, Y7, pur, List.map, List.drop, List.take, List.length, List.foldl, List.append_eq, List.nil_append, List.cons_append, List.getD_cons_zero, List.getD_cons_succ, reduceIte, Nat.reduceEqDiff, Nat.reduceAdd, Nat.reduceLeDiff, true_and, and_true, Bool.not_true, Bool.not_false, Bool.and_true, Bool.true_and, Bool.and_self, reduceCtorEq, true_implies, false_implies, implies_true, decide_eq_true_eq, Option.map_some, Gm, fpX, SOp.xs, oX, refs, KE, dom, Gl, List.all_nil, List.all_cons, List.contains_cons, List.contains_nil, Nat.reduceBEq, Bool.or_false, Bool.false_or, List.append_nil, Bool.not_false, Bool.not_true, List.forall_mem_cons, fm0, List.set, Nat.reduceLT, Nat.reduceMod, ne_eq, not_false_eq_true, not_true_eq_false, GQ, Yn, Yo, Yp, Ki, Jn, Kj, Yq, Kk, Kl, GR, GS, GT, Yr, Ys, Yt, Jo, Jp, decide_true, AV.bool.injEq, AV.int.injEq, Nat.reduceLeDiff, decide_eq_true_eq, decide_eq_false_iff_not, Int.toNat_natCast, List.length_map, decide_false, KH, noref, flatOk, Qb, wkM, Km, Kw, Kx, Ju, QM, Kv, Jv, Kt, Ku, Qn, QN, Classical.not_not, Qie, Qr, Qt, Qa, Yw, Ql, List.take_length, List.length_cons, List.length_nil, Nat.zero_add, Ko, Yx, Yy, YG, Pt.row, Qs, Aw.row, Qv, Blk.row, Qg, Sec.row, Qh, Rw.row, Qw, Sky.row, Qi, Jw, Jx, Qp, Qu, Jy, YK, List.take_zero, List.foldl_nil]
  have hz : Qaj a l.length = if a - l.length < 0 then -1 else a - l.length := rfl
  refine ⟨by omega, fun h1 => ?_, fun h1 => ?_⟩
  · unfold szS
    rw [(Xc QbU l _ (by omega) (by omega)).2.1 (by omega)]
  have e0 : Qaj a l.length = a - l.length := if_neg h1
  refine Yz (fun i : Nat => [(1, .int .i64 ((l.take i).foldl (fun a x => x.sz a) (a - l.length))), (5, .int .i64 i)]) (fun _ => []) (fun i => i ≤ l.length ∧ 0 ≤ (l.take i).foldl (fun a x => x.sz a) (a - l.length)) (fun i => l.length - i) (0) (by simp only [YC, YD, YE, YF, Qc, Qd, Qe, Qf, reduceIte, Nat.reduceEqDiff]; exact ⟨by repeat' (first | exact trivial | refine ⟨.inr rfl, ?_⟩), by repeat' (first | exact trivial | refine ⟨rfl, ?_⟩), by first | rfl | simp [closedB, Qx, Qo, Qb, dom, Qm, *], by first | rfl | simp [keepB, dom]⟩) ?_ ?_
  · simp only [List.take_zero, List.foldl_nil]; omega
  intro i hi NX hN
  have hm := (Xc QbU (l.take i) (a - l.length) (by omega) (by omega)).2.2
  have hg : i < l.length → (l.getD i default).fitp := fun h => hl.2 _ (Gi h)
  have hn : i < l.length → (l.take (i + 1)).foldl (fun a x => x.sz a) (a - l.length) = (l.getD i default).sz ((l.take i).foldl (fun a x => x.sz a) (a - l.length)) := fun h => Wz (f := Aw.sz) h
  have hs : i < l.length → (l.getD i default).sz ((l.take i).foldl (fun a x => x.sz a) (a - l.length)) < 0 → szS Aw.sz l a = -1 := fun h h2 => by unfold szS; rw [e0]; exact QaU QbU h (by omega) (by omega) h2
  unfold Z0; simp (config := { maxSteps := 2000000 }) only [JK, Gr, KO, KP, JL, QW, JM, JN, KQ, Gs, KR, KS, KT, KU, KV, KW, KX, KY, KZ, K1, K2, QX, QY, QZ, JO, JP, JQ, Q0, Q1, Q2, Q3, Q4, Q5, JR, JS, JT, JU, Jq, Jr, Kp, Yv, GU, JV, Qz, Qk, KN, QT, QU, JH, QV, JI, JJ, QS, Qy, JE, JF, KK, JG, KL, KM, Q8, Q9, Qc, Qd, QE, QF, Ja, Jb, QQ, QR, Qe, Qf, GD, GE, JZ, J0, K3, JW, JX, JY, Kb, Kc, Kd, QA, QB, QD, Gt, Gu, Gv, Gw, Q6, Q7, Gy, Gx, Gz, QG, J1, K4, J2, K5, K6, K7, K8, J3, Jc, K9, Jd, Je, Jf, Jg, Jh, QH, QI, Ji, J4, Jj, J5, J6, J7, GA, GB, Ya, Jk, Yb, QJ, KJ, J8, KF, GC, Jl, YF, YE, YD, Gk, List.length_take, Int.toNat_zero, List.drop_zero, YC, Ks, QL, Jt, GX, Yu, Kr, Kq, Js, Yc, J9, Yd, Ye, GF, Yf, Yg, GG, Yh, Ka, Yi, GH, Yj, Yk, GI, GJ, GK, Yl, eff, JB, QO, Ke, Ym, Kf, Kg, Kh, GL, GM, JD, JC, Jm, GN, GO, GP, Y7, pur, List.map, List.drop, List.take, List.length, List.foldl, List.append_eq, List.nil_append, List.cons_append, List.getD_cons_zero, List.getD_cons_succ, reduceIte, Nat.reduceEqDiff, Nat.reduceAdd, Nat.reduceLeDiff, true_and, and_true, Bool.not_true, Bool.not_false, Bool.and_true, Bool.true_and, Bool.and_self, reduceCtorEq, true_implies, false_implies, implies_true, decide_eq_true_eq, Option.map_some, Gm, fpX, SOp.xs, oX, refs, KE, dom, Gl, List.all_nil, List.all_cons, List.contains_cons, List.contains_nil, Nat.reduceBEq, Bool.or_false, Bool.false_or, List.append_nil, Bool.not_false, Bool.not_true, List.forall_mem_cons, fm0, List.set, Nat.reduceLT, Nat.reduceMod, ne_eq, not_false_eq_true, not_true_eq_false, GQ, Yn, Yo, Yp, Ki, Jn, Kj, Yq, Kk, Kl, GR, GS, GT, Yr, Ys, Yt, Jo, Jp, decide_true, AV.bool.injEq, AV.int.injEq, Nat.reduceLeDiff, decide_eq_true_eq, decide_eq_false_iff_not, Int.toNat_natCast, List.length_map, decide_false, KH, noref, flatOk, Qb, wkM, Km, Kw, Kx, Ju, QM, Kv, Jv, Kt, Ku, Qn, QN, Classical.not_not, Qie, Qr, Qt, Qa, Yw, Ql, List.take_length, List.length_cons, List.length_nil, Nat.zero_add, Ko, Yx, Yy, YG, Pt.row, Qs, Aw.row, Qv, Blk.row, Qg, Sec.row, Qh, Rw.row, Qw, Sky.row, Qi, Jw, Jx, Qp, Qu, Jy, YK, List.take_zero, List.foldl_nil]
  refine ⟨fun h2 => ⟨by omega, by omega, ⟨⟨by omega, by omega⟩, hg (by omega)⟩, fun h3 => by rw [hs (by omega) h3], fun h3 => ⟨by omega, ?_⟩⟩, fun h2 => ?_⟩
  · have e := hn (by omega)
    refine hN (i + 1) _ (by simp only [e, List.length_append, List.length_cons, List.length_nil, Nat.zero_add, List.map_append, List.map_cons, List.map_nil, YC, YD, YE, YF, Qc, Qd, Qe, Qf, reduceIte, Nat.reduceEqDiff]; exact ⟨by repeat' (first | exact trivial | refine ⟨.inr rfl, ?_⟩), by repeat' (first | exact trivial | refine ⟨rfl, ?_⟩), by first | rfl | simp [closedB, Qx, Qo, Qb, dom, Qm, *], by first | rfl | simp [keepB, dom]⟩) ?_ ?_
    · exact ⟨by omega, by rw [e]; omega⟩
    · omega
  · have e : i = l.length := by omega
    subst e
    simp only [List.take_length]; unfold szS; rw [e0]
def QgG : List AV → Option (Prop × AV)
  | [.sl lt 2 lx, .int .i64 b] => some ((((lx.map Y4).map (Aw.row 1) = lx)) ∧ ((0 ≤ b ∧ b ≤ 1048576) ∧ ((lx.map Y4).length ≤ 9223372036854775807 ∧ ∀ y ∈ (lx.map Y4), Aw.fitp y)), .int .i64 (szS Aw.sz (lx.map Y4) b))
  | _ => none
theorem Qpk : ∀ args p v, QgG args = some (p, v) → p → Contract P 17 args [] v [] ∧ noref v = true ∧ No99 v := by
  intro args p v h1 h2
  unfold QgG at h1
  split at h1
  · rename_i lt lx b
    cases h1
    obtain ⟨e0, HP⟩ := h2
    have := Qpj lt (lx.map Y4) b HP.1 HP.2
    exact ⟨by simpa only [e0] using this, rfl, trivial⟩
  · cases h1
theorem Qpl (s : Sec) (a : Int) (ha : 0 ≤ a ∧ a ≤ 1048576) (hs : s.fitp) : Contract P 41 [.agg (s.row 1), .int .i64 a] [] (.int .i64 (s.sz a)) [] := by
  unfold Sec.fitp at hs
  simp only [Sec.row]
  refine QP ((Env.nil P).add 75 Qea Qnt) hm Qcv (Nat.le_of_ble_eq_true rfl) rfl ?_; unfold Vx; simp (config := { maxSteps := 2000000 }) only [JK, Gr, KO, KP, JL, QW, JM, JN, KQ, Gs, KR, KS, KT, KU, KV, KW, KX, KY, KZ, K1, K2, QX, QY, QZ, JO, JP, JQ, Q0, Q1, Q2, Q3, Q4, Q5, JR, JS, JT, JU, Jq, Jr, Kp, Yv, GU, JV, Qz, Qk, KN, QT, QU, JH, QV, JI, JJ, QS, Qy, JE, JF, KK, JG, KL, KM, Q8, Q9, Qc, Qd, QE, QF, Ja, Jb, QQ, QR, Qe, Qf, GD, GE, JZ, J0, K3, JW, JX, JY, Kb, Kc, Kd, QA, QB, QD, Gt, Gu, Gv, Gw, Q6, Q7, Gy, Gx, Gz, QG, J1, K4, J2, K5, K6, K7, K8, J3, Jc, K9, Jd, Je, Jf, Jg, Jh, QH, QI, Ji, J4, Jj, J5, J6, J7, GA, GB, Ya, Jk, Yb, QJ, KJ, J8, KF, GC, Jl, YF, YE, YD, Gk, List.length_take, Int.toNat_zero, List.drop_zero, YC, Ks, QL, Jt, GX, Yu, Kr, Kq, Js, Yc, J9, Yd, Ye, GF, Yf, Yg, GG, Yh, Ka, Yi, GH, Yj, Yk, GI, GJ, GK, Yl, eff, JB, QO, Ke, Ym, Kf, Kg, Kh, GL, GM, JD, JC, Jm, GN, GO, GP, Y7, pur, List.map, List.drop, List.take, List.length, List.foldl, List.append_eq, List.nil_append, List.cons_append, List.getD_cons_zero, List.getD_cons_succ, reduceIte, Nat.reduceEqDiff, Nat.reduceAdd, Nat.reduceLeDiff, true_and, and_true, Bool.not_true, Bool.not_false, Bool.and_true, Bool.true_and, Bool.and_self, reduceCtorEq, true_implies, false_implies, implies_true, decide_eq_true_eq, Option.map_some, Gm, fpX, SOp.xs, oX, refs, KE, dom, Gl, List.all_nil, List.all_cons, List.contains_cons, List.contains_nil, Nat.reduceBEq, Bool.or_false, Bool.false_or, List.append_nil, Bool.not_false, Bool.not_true, List.forall_mem_cons, fm0, List.set, Nat.reduceLT, Nat.reduceMod, ne_eq, not_false_eq_true, not_true_eq_false, GQ, Yn, Yo, Yp, Ki, Jn, Kj, Yq, Kk, Kl, GR, GS, GT, Yr, Ys, Yt, Jo, Jp, decide_true, AV.bool.injEq, AV.int.injEq, Nat.reduceLeDiff, decide_eq_true_eq, decide_eq_false_iff_not, Int.toNat_natCast, List.length_map, decide_false, KH, noref, flatOk, Qb, wkM, Km, Kw, Kx, Ju, QM, Kv, Jv, Kt, Ku, Qn, QN, Classical.not_not, Qea, Qr, Qt, Qa, Yw, Ql, List.take_length, List.length_cons, List.length_nil, Nat.zero_add, Ko, Yx, Yy, YG, Pt.row, Qs, Aw.row, Qv, Blk.row, Qg, Sec.row, Qh, Rw.row, Qw, Sky.row, Qi, Jw, Jx, Qp, Qu, Jy, YK]
  unfold Sec.sz
  have qbl : (Qaj (a - (s.nm.toList.length : Nat)) s.bl.length) ≤ max (a - (s.nm.toList.length : Nat)) (-1) := by unfold Qaj; split <;> omega
  repeat' (first | with_reducible apply And.intro | with_reducible intro _)
  all_goals first | omega | (exact hs) | (exact hs.1) | (exact hs.2.1) | (exact hs.2.2) | (exact hs.2.2.1) | (exact hs.2.2.2) | (exact hs.2.2.2.1) | (exact hs.2.2.2.2) | (exact hs.1.1) | (exact hs.1.2) | (exact hs.2.1.1) | (exact hs.2.1.2) | (unfold chk; grind) | grind
def Qe9 : List AV → Option (Prop × AV)
  | [.agg [.str s_nm, .sl 1 6 s_bl], .int .i64 b] => some ((((s_bl.map XV).map Blk.row = s_bl)) ∧ ((0 ≤ b ∧ b ≤ 1048576) ∧ (Sec.fitp (Sec.mk s_nm (s_bl.map XV)))), .int .i64 (Sec.sz (Sec.mk s_nm (s_bl.map XV)) b))
  | _ => none
theorem Qpm : ∀ args p v, Qe9 args = some (p, v) → p → Contract P 41 args [] v [] ∧ noref v = true ∧ No99 v := by
  intro args p v h1 h2
  unfold Qe9 at h1
  split at h1
  · rename_i s_nm s_bl b
    cases h1
    obtain ⟨e0, HP⟩ := h2
    have := Qpl (Sec.mk s_nm (s_bl.map XV)) b HP.1 HP.2
    exact ⟨by simpa only [e0, Sec.row] using this, rfl, trivial⟩
  · cases h1
theorem Qnu (t : Nat) (l : List Sec) (a : Int) (ha : 0 ≤ a ∧ a ≤ 1048576) (hl : l.length ≤ 9223372036854775807 ∧ ∀ y ∈ l, y.fitp) : Contract P 18 [.sl t 2 (l.map (Sec.row 1)), .int .i64 a] [] (.int .i64 (szS Sec.sz l a)) [] := by
  refine QP ((Env.nil P).add 41 Qe9 Qpm) hm QbJ (Nat.le_of_ble_eq_true rfl) rfl ?_; unfold U2; simp (config := { maxSteps := 2000000 }) only [JK, Gr, KO, KP, JL, QW, JM, JN, KQ, Gs, KR, KS, KT, KU, KV, KW, KX, KY, KZ, K1, K2, QX, QY, QZ, JO, JP, JQ, Q0, Q1, Q2, Q3, Q4, Q5, JR, JS, JT, JU, Jq, Jr, Kp, Yv, GU, JV, Qz, Qk, KN, QT, QU, JH, QV, JI, JJ, QS, Qy, JE, JF, KK, JG, KL, KM, Q8, Q9, Qc, Qd, QE, QF, Ja, Jb, QQ, QR, Qe, Qf, GD, GE, JZ, J0, K3, JW, JX, JY, Kb, Kc, Kd, QA, QB, QD, Gt, Gu, Gv, Gw, Q6, Q7, Gy, Gx, Gz, QG, J1, K4, J2, K5, K6, K7, K8, J3, Jc, K9, Jd, Je, Jf, Jg, Jh, QH, QI, Ji, J4, Jj, J5, J6, J7, GA, GB, Ya, Jk, Yb, QJ, KJ, J8, KF, GC, Jl, YF, YE, YD, Gk, List.length_take, Int.toNat_zero, List.drop_zero, YC, Ks, QL, Jt, GX, Yu, Kr, Kq, Js, Yc, J9, Yd, Ye, GF, Yf, Yg, GG, Yh, Ka, Yi, GH, Yj, Yk, GI, GJ, GK, Yl, eff, JB, QO, Ke, Ym, Kf, Kg, Kh, GL, GM, JD, JC, Jm, GN, GO, GP, Y7, pur, List.map, List.drop, List.take, List.length, List.foldl, List.append_eq, List.nil_append, List.cons_append, List.getD_cons_zero, List.getD_cons_succ, reduceIte, Nat.reduceEqDiff, Nat.reduceAdd, Nat.reduceLeDiff, true_and, and_true, Bool.not_true, Bool.not_false, Bool.and_true, Bool.true_and, Bool.and_self, reduceCtorEq, true_implies, false_implies, implies_true, decide_eq_true_eq, Option.map_some, Gm, fpX, SOp.xs, oX, refs, KE, dom, Gl, List.all_nil, List.all_cons, List.contains_cons, List.contains_nil, Nat.reduceBEq, Bool.or_false, Bool.false_or, List.append_nil, Bool.not_false, Bool.not_true, List.forall_mem_cons, fm0, List.set, Nat.reduceLT, Nat.reduceMod, ne_eq, not_false_eq_true, not_true_eq_false, GQ, Yn, Yo, Yp, Ki, Jn, Kj, Yq, Kk, Kl, GR, GS, GT, Yr, Ys, Yt, Jo, Jp, decide_true, AV.bool.injEq, AV.int.injEq, Nat.reduceLeDiff, decide_eq_true_eq, decide_eq_false_iff_not, Int.toNat_natCast, List.length_map, decide_false, KH, noref, flatOk, Qb, wkM, Km, Kw, Kx, Ju, QM, Kv, Jv, Kt, Ku, Qn, QN, Classical.not_not, Qe9, Qr, Qt, Qa, Yw, Ql, List.take_length, List.length_cons, List.length_nil, Nat.zero_add, Ko, Yx, Yy, YG, Pt.row, Qs, Aw.row, Qv, Blk.row, Qg, Sec.row, Qh, Rw.row, Qw, Sky.row, Qi, Jw, Jx, Qp, Qu, Jy, YK, List.take_zero, List.foldl_nil]
  have hz : Qaj a l.length = if a - l.length < 0 then -1 else a - l.length := rfl
  refine ⟨by omega, fun h1 => ?_, fun h1 => ?_⟩
  · unfold szS
    rw [(Xc WV l _ (by omega) (by omega)).2.1 (by omega)]
  have e0 : Qaj a l.length = a - l.length := if_neg h1
  refine Yz (fun i : Nat => [(1, .int .i64 ((l.take i).foldl (fun a x => x.sz a) (a - l.length))), (5, .int .i64 i)]) (fun _ => []) (fun i => i ≤ l.length ∧ 0 ≤ (l.take i).foldl (fun a x => x.sz a) (a - l.length)) (fun i => l.length - i) (0) (by simp only [YC, YD, YE, YF, Qc, Qd, Qe, Qf, reduceIte, Nat.reduceEqDiff]; exact ⟨by repeat' (first | exact trivial | refine ⟨.inr rfl, ?_⟩), by repeat' (first | exact trivial | refine ⟨rfl, ?_⟩), by first | rfl | simp [closedB, Qx, Qo, Qb, dom, Qm, *], by first | rfl | simp [keepB, dom]⟩) ?_ ?_
  · simp only [List.take_zero, List.foldl_nil]; omega
  intro i hi NX hN
  have hm := (Xc WV (l.take i) (a - l.length) (by omega) (by omega)).2.2
  have hg : i < l.length → (l.getD i default).fitp := fun h => hl.2 _ (Gi h)
  have hn : i < l.length → (l.take (i + 1)).foldl (fun a x => x.sz a) (a - l.length) = (l.getD i default).sz ((l.take i).foldl (fun a x => x.sz a) (a - l.length)) := fun h => Wz (f := Sec.sz) h
  have hs : i < l.length → (l.getD i default).sz ((l.take i).foldl (fun a x => x.sz a) (a - l.length)) < 0 → szS Sec.sz l a = -1 := fun h h2 => by unfold szS; rw [e0]; exact QaU WV h (by omega) (by omega) h2
  unfold Z1; simp (config := { maxSteps := 2000000 }) only [JK, Gr, KO, KP, JL, QW, JM, JN, KQ, Gs, KR, KS, KT, KU, KV, KW, KX, KY, KZ, K1, K2, QX, QY, QZ, JO, JP, JQ, Q0, Q1, Q2, Q3, Q4, Q5, JR, JS, JT, JU, Jq, Jr, Kp, Yv, GU, JV, Qz, Qk, KN, QT, QU, JH, QV, JI, JJ, QS, Qy, JE, JF, KK, JG, KL, KM, Q8, Q9, Qc, Qd, QE, QF, Ja, Jb, QQ, QR, Qe, Qf, GD, GE, JZ, J0, K3, JW, JX, JY, Kb, Kc, Kd, QA, QB, QD, Gt, Gu, Gv, Gw, Q6, Q7, Gy, Gx, Gz, QG, J1, K4, J2, K5, K6, K7, K8, J3, Jc, K9, Jd, Je, Jf, Jg, Jh, QH, QI, Ji, J4, Jj, J5, J6, J7, GA, GB, Ya, Jk, Yb, QJ, KJ, J8, KF, GC, Jl, YF, YE, YD, Gk, List.length_take, Int.toNat_zero, List.drop_zero, YC, Ks, QL, Jt, GX, Yu, Kr, Kq, Js, Yc, J9, Yd, Ye, GF, Yf, Yg, GG, Yh, Ka, Yi, GH, Yj, Yk, GI, GJ, GK, Yl, eff, JB, QO, Ke, Ym, Kf, Kg, Kh, GL, GM, JD, JC, Jm, GN, GO, GP, Y7, pur, List.map, List.drop, List.take, List.length, List.foldl, List.append_eq, List.nil_append, List.cons_append, List.getD_cons_zero, List.getD_cons_succ, reduceIte, Nat.reduceEqDiff, Nat.reduceAdd, Nat.reduceLeDiff, true_and, and_true, Bool.not_true, Bool.not_false, Bool.and_true, Bool.true_and, Bool.and_self, reduceCtorEq, true_implies, false_implies, implies_true, decide_eq_true_eq, Option.map_some, Gm, fpX, SOp.xs, oX, refs, KE, dom, Gl, List.all_nil, List.all_cons, List.contains_cons, List.contains_nil, Nat.reduceBEq, Bool.or_false, Bool.false_or, List.append_nil, Bool.not_false, Bool.not_true, List.forall_mem_cons, fm0, List.set, Nat.reduceLT, Nat.reduceMod, ne_eq, not_false_eq_true, not_true_eq_false, GQ, Yn, Yo, Yp, Ki, Jn, Kj, Yq, Kk, Kl, GR, GS, GT, Yr, Ys, Yt, Jo, Jp, decide_true, AV.bool.injEq, AV.int.injEq, Nat.reduceLeDiff, decide_eq_true_eq, decide_eq_false_iff_not, Int.toNat_natCast, List.length_map, decide_false, KH, noref, flatOk, Qb, wkM, Km, Kw, Kx, Ju, QM, Kv, Jv, Kt, Ku, Qn, QN, Classical.not_not, Qe9, Qr, Qt, Qa, Yw, Ql, List.take_length, List.length_cons, List.length_nil, Nat.zero_add, Ko, Yx, Yy, YG, Pt.row, Qs, Aw.row, Qv, Blk.row, Qg, Sec.row, Qh, Rw.row, Qw, Sky.row, Qi, Jw, Jx, Qp, Qu, Jy, YK, List.take_zero, List.foldl_nil]
  refine ⟨fun h2 => ⟨by omega, by omega, ⟨⟨by omega, by omega⟩, hg (by omega)⟩, fun h3 => by rw [hs (by omega) h3], fun h3 => ⟨by omega, ?_⟩⟩, fun h2 => ?_⟩
  · have e := hn (by omega)
    refine hN (i + 1) _ (by simp only [e, List.length_append, List.length_cons, List.length_nil, Nat.zero_add, List.map_append, List.map_cons, List.map_nil, YC, YD, YE, YF, Qc, Qd, Qe, Qf, reduceIte, Nat.reduceEqDiff]; exact ⟨by repeat' (first | exact trivial | refine ⟨.inr rfl, ?_⟩), by repeat' (first | exact trivial | refine ⟨rfl, ?_⟩), by first | rfl | simp [closedB, Qx, Qo, Qb, dom, Qm, *], by first | rfl | simp [keepB, dom]⟩) ?_ ?_
    · exact ⟨by omega, by rw [e]; omega⟩
    · omega
  · have e : i = l.length := by omega
    subst e
    simp only [List.take_length]; unfold szS; rw [e0]
def Qeb : List AV → Option (Prop × AV)
  | [.sl lt 2 lx, .int .i64 b] => some ((((lx.map KC).map (Sec.row 1) = lx)) ∧ ((0 ≤ b ∧ b ≤ 1048576) ∧ ((lx.map KC).length ≤ 9223372036854775807 ∧ ∀ y ∈ (lx.map KC), Sec.fitp y)), .int .i64 (szS Sec.sz (lx.map KC) b))
  | _ => none
theorem Qnv : ∀ args p v, Qeb args = some (p, v) → p → Contract P 18 args [] v [] ∧ noref v = true ∧ No99 v := by
  intro args p v h1 h2
  unfold Qeb at h1
  split at h1
  · rename_i lt lx b
    cases h1
    obtain ⟨e0, HP⟩ := h2
    have := Qnu lt (lx.map KC) b HP.1 HP.2
    exact ⟨by simpa only [e0] using this, rfl, trivial⟩
  · cases h1
theorem Qpn (s : Sky) (a : Int) (ha : 0 ≤ a ∧ a ≤ 1048576) (hs : s.fitp) : Contract P 5 [.agg (s.row 1), .int .i64 a] [] (.int .i64 (s.sz a)) [] := by
  unfold Sky.fitp at hs
  simp only [Sky.row]
  refine QP (((((Env.nil P).add 17 QgG Qpk).add 16 QgE Qpg).add 19 QgF Qpi).add 18 Qeb Qnv) hm QhZ (Nat.le_of_ble_eq_true rfl) rfl ?_; unfold QdB; simp (config := { maxSteps := 2000000 }) only [JK, Gr, KO, KP, JL, QW, JM, JN, KQ, Gs, KR, KS, KT, KU, KV, KW, KX, KY, KZ, K1, K2, QX, QY, QZ, JO, JP, JQ, Q0, Q1, Q2, Q3, Q4, Q5, JR, JS, JT, JU, Jq, Jr, Kp, Yv, GU, JV, Qz, Qk, KN, QT, QU, JH, QV, JI, JJ, QS, Qy, JE, JF, KK, JG, KL, KM, Q8, Q9, Qc, Qd, QE, QF, Ja, Jb, QQ, QR, Qe, Qf, GD, GE, JZ, J0, K3, JW, JX, JY, Kb, Kc, Kd, QA, QB, QD, Gt, Gu, Gv, Gw, Q6, Q7, Gy, Gx, Gz, QG, J1, K4, J2, K5, K6, K7, K8, J3, Jc, K9, Jd, Je, Jf, Jg, Jh, QH, QI, Ji, J4, Jj, J5, J6, J7, GA, GB, Ya, Jk, Yb, QJ, KJ, J8, KF, GC, Jl, YF, YE, YD, Gk, List.length_take, Int.toNat_zero, List.drop_zero, YC, Ks, QL, Jt, GX, Yu, Kr, Kq, Js, Yc, J9, Yd, Ye, GF, Yf, Yg, GG, Yh, Ka, Yi, GH, Yj, Yk, GI, GJ, GK, Yl, eff, JB, QO, Ke, Ym, Kf, Kg, Kh, GL, GM, JD, JC, Jm, GN, GO, GP, Y7, pur, List.map, List.drop, List.take, List.length, List.foldl, List.append_eq, List.nil_append, List.cons_append, List.getD_cons_zero, List.getD_cons_succ, reduceIte, Nat.reduceEqDiff, Nat.reduceAdd, Nat.reduceLeDiff, true_and, and_true, Bool.not_true, Bool.not_false, Bool.and_true, Bool.true_and, Bool.and_self, reduceCtorEq, true_implies, false_implies, implies_true, decide_eq_true_eq, Option.map_some, Gm, fpX, SOp.xs, oX, refs, KE, dom, Gl, List.all_nil, List.all_cons, List.contains_cons, List.contains_nil, Nat.reduceBEq, Bool.or_false, Bool.false_or, List.append_nil, Bool.not_false, Bool.not_true, List.forall_mem_cons, fm0, List.set, Nat.reduceLT, Nat.reduceMod, ne_eq, not_false_eq_true, not_true_eq_false, GQ, Yn, Yo, Yp, Ki, Jn, Kj, Yq, Kk, Kl, GR, GS, GT, Yr, Ys, Yt, Jo, Jp, decide_true, AV.bool.injEq, AV.int.injEq, Nat.reduceLeDiff, decide_eq_true_eq, decide_eq_false_iff_not, Int.toNat_natCast, List.length_map, decide_false, KH, noref, flatOk, Qb, wkM, Km, Kw, Kx, Ju, QM, Kv, Jv, Kt, Ku, Qn, QN, Classical.not_not, QgG, QgE, QgF, Qeb, Qr, Qt, Qa, Yw, Ql, List.take_length, List.length_cons, List.length_nil, Nat.zero_add, Ko, Yx, Yy, YG, Pt.row, Qs, Aw.row, Qv, Blk.row, Qg, Sec.row, Qh, Rw.row, Qw, Sky.row, Qi, Jw, Jx, Qp, Qu, Jy, YK]
  unfold Sky.sz
  have qpts : (szS Pt.sz s.pts a) ≤ max a (-1) := (Xw QbS s.pts a (by omega)).2.2
  have qaws : (szS Aw.sz s.aws (szS Pt.sz s.pts a)) ≤ max (szS Pt.sz s.pts a) (-1) := (Xw QbU s.aws (szS Pt.sz s.pts a) (by omega)).2.2
  have qsecs : (szS Sec.sz s.secs (szS Aw.sz s.aws (szS Pt.sz s.pts a))) ≤ max (szS Aw.sz s.aws (szS Pt.sz s.pts a)) (-1) := (Xw WV s.secs (szS Aw.sz s.aws (szS Pt.sz s.pts a)) (by omega)).2.2
  have qrws : (szS Rw.sz s.rws (szS Sec.sz s.secs (szS Aw.sz s.aws (szS Pt.sz s.pts a)))) ≤ max (szS Sec.sz s.secs (szS Aw.sz s.aws (szS Pt.sz s.pts a))) (-1) := (Xw QbT s.rws (szS Sec.sz s.secs (szS Aw.sz s.aws (szS Pt.sz s.pts a))) (by omega)).2.2
  repeat' (first | with_reducible apply And.intro | with_reducible intro _)
  all_goals first | omega | (exact hs) | (exact hs.1) | (exact hs.2.1) | (exact hs.2.2) | (exact hs.2.2.1) | (exact hs.2.2.2) | (exact hs.2.2.2.1) | (exact hs.2.2.2.2) | (exact hs.1.1) | (exact hs.1.2) | (exact hs.2.1.1) | (exact hs.2.1.2) | (unfold chk; grind) | grind
def Xe : List AV → Option (Prop × AV)
  | [.agg [.int .i64 s_w, .int .i64 s_h, .int .i64 s_lv, .sl 1 3 s_pts, .sl 1 2 s_aws, .sl 1 2 s_secs, .sl 1 4 s_rws], .int .i64 b] => some ((((s_pts.map Y1).map Pt.row = s_pts) ∧ ((s_aws.map Y4).map (Aw.row 1) = s_aws) ∧ ((s_secs.map KC).map (Sec.row 1) = s_secs) ∧ ((s_rws.map Y2).map Rw.row = s_rws)) ∧ ((0 ≤ b ∧ b ≤ 1048576) ∧ (Sky.fitp (Sky.mk s_w s_h s_lv (s_pts.map Y1) (s_aws.map Y4) (s_secs.map KC) (s_rws.map Y2)))), .int .i64 (Sky.sz (Sky.mk s_w s_h s_lv (s_pts.map Y1) (s_aws.map Y4) (s_secs.map KC) (s_rws.map Y2)) b))
  | _ => none
theorem QlZ : ∀ args p v, Xe args = some (p, v) → p → Contract P 5 args [] v [] ∧ noref v = true ∧ No99 v := by
  intro args p v h1 h2
  unfold Xe at h1
  split at h1
  · rename_i s_w s_h s_lv s_pts s_aws s_secs s_rws b
    cases h1
    obtain ⟨⟨e0, e1, e2, e3⟩, HP⟩ := h2
    have := Qpn (Sky.mk s_w s_h s_lv (s_pts.map Y1) (s_aws.map Y4) (s_secs.map KC) (s_rws.map Y2)) b HP.1 HP.2
    exact ⟨by simpa only [e0, e1, e2, e3, Sky.row] using this, rfl, trivial⟩
  · cases h1
end
end Go.Ve

namespace Go.Ve
noncomputable section
open Go.Proofs
set_option linter.unusedSimpArgs false
set_option linter.unusedVariables false
set_option maxRecDepth 100000
theorem UP {lst : List ByteArray} {idx : Nat} {v : ByteArray} : (lst.map Ko).set idx (YB ((lst.map Ko).getD idx []) 0 [.str v]) = (lst.set idx v).map Ko :=
  G8 (α := ByteArray) (f := Ko) (fun s => v) fun x => by simp [Ko, YB]
def Gq (a : List ByteArray) (i : Nat) : List ByteArray := a.take i ++ List.replicate (a.length - i) ⟨#[]⟩
theorem QaW {a : List ByteArray} {i : Nat} (h : i < a.length) : (Gq a i).set i (a.getD i default) = Gq a (i + 1) := by
  refine List.ext_getElem (by simp [Gq]; omega) fun j h1 h2 => ?_
  by_cases e : j = i
  · subst e
    simp [Gq, List.getElem_append, h]
    intro h9; omega
  · simp only [List.getElem_set_ne (Ne.symm e)]
    simp only [Gq, List.getElem_append, List.length_take, List.getElem_take, List.getElem_replicate]
    split <;> split <;> first | rfl | omega
theorem Qfz (t : Nat) (a : List ByteArray) (ha : a.length ≤ 1048576) : Contract P 78 [.sl t 1 (a.map Ko)] [] (.sl 0 1 (a.map Ko)) [] := by
  refine QP (Env.nil P) hm QdT (Nat.le_of_ble_eq_true rfl) rfl ?_; unfold W7; simp (config := { maxSteps := 2000000 }) only [JK, Gr, KO, KP, JL, QW, JM, JN, KQ, Gs, KR, KS, KT, KU, KV, KW, KX, KY, KZ, K1, K2, QX, QY, QZ, JO, JP, JQ, Q0, Q1, Q2, Q3, Q4, Q5, JR, JS, JT, JU, Jq, Jr, Kp, Yv, GU, JV, Qz, Qk, KN, QT, QU, JH, QV, JI, JJ, QS, Qy, JE, JF, KK, JG, KL, KM, Q8, Q9, Qc, Qd, QE, QF, Ja, Jb, QQ, QR, Qe, Qf, GD, GE, JZ, J0, K3, JW, JX, JY, Kb, Kc, Kd, QA, QB, QD, Gt, Gu, Gv, Gw, Q6, Q7, Gy, Gx, Gz, QG, J1, K4, J2, K5, K6, K7, K8, J3, Jc, K9, Jd, Je, Jf, Jg, Jh, QH, QI, Ji, J4, Jj, J5, J6, J7, GA, GB, Ya, Jk, Yb, QJ, KJ, J8, KF, GC, Jl, YF, YE, YD, Gk, List.length_take, Int.toNat_zero, List.drop_zero, YC, Ks, QL, Jt, GX, Yu, Kr, Kq, Js, Yc, J9, Yd, Ye, GF, Yf, Yg, GG, Yh, Ka, Yi, GH, Yj, Yk, GI, GJ, GK, Yl, eff, JB, QO, Ke, Ym, Kf, Kg, Kh, GL, GM, JD, JC, Jm, GN, GO, GP, Y7, pur, List.map, List.drop, List.take, List.length, List.foldl, List.append_eq, List.nil_append, List.cons_append, List.getD_cons_zero, List.getD_cons_succ, reduceIte, Nat.reduceEqDiff, Nat.reduceAdd, Nat.reduceLeDiff, true_and, and_true, Bool.not_true, Bool.not_false, Bool.and_true, Bool.true_and, Bool.and_self, reduceCtorEq, true_implies, false_implies, implies_true, decide_eq_true_eq, Option.map_some, Gm, fpX, SOp.xs, oX, refs, KE, dom, Gl, List.all_nil, List.all_cons, List.contains_cons, List.contains_nil, Nat.reduceBEq, Bool.or_false, Bool.false_or, List.append_nil, Bool.not_false, Bool.not_true, List.forall_mem_cons, fm0, List.set, Nat.reduceLT, Nat.reduceMod, ne_eq, not_false_eq_true, not_true_eq_false, GQ, Yn, Yo, Yp, Ki, Jn, Kj, Yq, Kk, Kl, GR, GS, GT, Yr, Ys, Yt, Jo, Jp, decide_true, AV.bool.injEq, AV.int.injEq, Nat.reduceLeDiff, decide_eq_true_eq, decide_eq_false_iff_not, Int.toNat_natCast, List.length_map, decide_false, KH, noref, flatOk, Qb, wkM, Km, Kw, Kx, Ju, QM, Kv, Jv, Kt, Ku, Qn, QN, Classical.not_not, Qr, Qt, Qa, Yw, Ql, List.take_length, List.length_cons, List.length_nil, Nat.zero_add, Ko, Yx, Yy, YG, Pt.row, Qs, Aw.row, Qv, Blk.row, Qg, Sec.row, Qh, Rw.row, Qw, Sky.row, Qi, Jw, Jx, Qp, Qu, Jy, YK, UP, Nat.sub_zero]
  have m0 : List.replicate a.length [.str ⟨#[]⟩] = (Gq a 0).map Ko := by simp [Gq, Ko]
  refine ⟨by omega, ?_⟩
  refine Yz (fun i : Nat => [(4, .int .i64 i)]) (fun i => [(107, .arr 9 0 1 ((Gq a i).map Ko))]) (fun i => i ≤ a.length) (fun i => a.length - i) 0 (by simp only [YC, YD, YE, YF, Qc, Qd, Qe, Qf, reduceIte, Nat.reduceEqDiff]; exact ⟨by repeat' (first | exact trivial | refine ⟨.inr rfl, ?_⟩), ⟨congrArg (fun g => some (AObj.arr 9 0 1 g)) m0, trivial⟩, rfl, rfl⟩) (Nat.zero_le _) ?_
  intro i hi NX hN
  skip
  unfold VL; simp (config := { maxSteps := 2000000 }) only [JK, Gr, KO, KP, JL, QW, JM, JN, KQ, Gs, KR, KS, KT, KU, KV, KW, KX, KY, KZ, K1, K2, QX, QY, QZ, JO, JP, JQ, Q0, Q1, Q2, Q3, Q4, Q5, JR, JS, JT, JU, Jq, Jr, Kp, Yv, GU, JV, Qz, Qk, KN, QT, QU, JH, QV, JI, JJ, QS, Qy, JE, JF, KK, JG, KL, KM, Q8, Q9, Qc, Qd, QE, QF, Ja, Jb, QQ, QR, Qe, Qf, GD, GE, JZ, J0, K3, JW, JX, JY, Kb, Kc, Kd, QA, QB, QD, Gt, Gu, Gv, Gw, Q6, Q7, Gy, Gx, Gz, QG, J1, K4, J2, K5, K6, K7, K8, J3, Jc, K9, Jd, Je, Jf, Jg, Jh, QH, QI, Ji, J4, Jj, J5, J6, J7, GA, GB, Ya, Jk, Yb, QJ, KJ, J8, KF, GC, Jl, YF, YE, YD, Gk, List.length_take, Int.toNat_zero, List.drop_zero, YC, Ks, QL, Jt, GX, Yu, Kr, Kq, Js, Yc, J9, Yd, Ye, GF, Yf, Yg, GG, Yh, Ka, Yi, GH, Yj, Yk, GI, GJ, GK, Yl, eff, JB, QO, Ke, Ym, Kf, Kg, Kh, GL, GM, JD, JC, Jm, GN, GO, GP, Y7, pur, List.map, List.drop, List.take, List.length, List.foldl, List.append_eq, List.nil_append, List.cons_append, List.getD_cons_zero, List.getD_cons_succ, reduceIte, Nat.reduceEqDiff, Nat.reduceAdd, Nat.reduceLeDiff, true_and, and_true, Bool.not_true, Bool.not_false, Bool.and_true, Bool.true_and, Bool.and_self, reduceCtorEq, true_implies, false_implies, implies_true, decide_eq_true_eq, Option.map_some, Gm, fpX, SOp.xs, oX, refs, KE, dom, Gl, List.all_nil, List.all_cons, List.contains_cons, List.contains_nil, Nat.reduceBEq, Bool.or_false, Bool.false_or, List.append_nil, Bool.not_false, Bool.not_true, List.forall_mem_cons, fm0, List.set, Nat.reduceLT, Nat.reduceMod, ne_eq, not_false_eq_true, not_true_eq_false, GQ, Yn, Yo, Yp, Ki, Jn, Kj, Yq, Kk, Kl, GR, GS, GT, Yr, Ys, Yt, Jo, Jp, decide_true, AV.bool.injEq, AV.int.injEq, Nat.reduceLeDiff, decide_eq_true_eq, decide_eq_false_iff_not, Int.toNat_natCast, List.length_map, decide_false, KH, noref, flatOk, Qb, wkM, Km, Kw, Kx, Ju, QM, Kv, Jv, Kt, Ku, Qn, QN, Classical.not_not, Qr, Qt, Qa, Yw, Ql, List.take_length, List.length_cons, List.length_nil, Nat.zero_add, Ko, Yx, Yy, YG, Pt.row, Qs, Aw.row, Qv, Blk.row, Qg, Sec.row, Qh, Rw.row, Qw, Sky.row, Qi, Jw, Jx, Qp, Qu, Jy, YK, UP, Nat.sub_zero]
  refine ⟨fun h => ?_, fun h => ?_⟩
  · repeat' (first | with_reducible apply And.intro | with_reducible intro _)
    all_goals first
      | omega
      | rfl
      | exact hs2 (by omega)
      | (have e := QaW (a := a) (i := i) (by omega)
         try simp only [Ko] at *
         refine hN (i + 1) _ ⟨by repeat' (first | exact trivial | refine ⟨.inr rfl, ?_⟩), ⟨congrArg (fun g => some (AObj.arr 9 0 1 (List.map Ko g))) e, trivial⟩, rfl, rfl⟩ ?_ ?_ <;> omega)
  · have e : i = a.length := by omega
    subst e
    simp only [Gq, List.take_length, Nat.sub_self, List.replicate_zero, List.append_nil]
    try rw [List.take_of_length_le (by simp)]
def WY : List AV → Option (Prop × AV)
  | [.sl st 1 sx] => some ((((sx.map unS).map Ko = sx)) ∧ ((sx.map unS).length ≤ 1048576), .sl 0 1 ((sx.map unS).map Ko))
  | _ => none
theorem Qjc : ∀ args p v, WY args = some (p, v) → p → Contract P 78 args [] v [] ∧ noref v = true ∧ No99 v := by
  intro args p v h1 h2
  unfold WY at h1
  split at h1
  · rename_i st sx
    cases h1
    obtain ⟨e0, HP⟩ := h2
    have := Qfz st (sx.map unS) HP
    exact ⟨by simpa only [e0] using this, rfl, by simp [No99, Xl, Zs, QaN, G3, X4, Zt, Xr, XI, X5, Zu, -List.map_map]⟩
  · cases h1
theorem QfA (t t' : Nat) (p q : List ByteArray) (hp : p.length ≤ 4611686018427387904) : Contract P 12 [.sl t 1 (p.map Ko), .sl t' 1 (q.map Ko)] [] (.bool (decide (p = q))) [] := by
  refine QP (Env.nil P) hm QdO (Nat.le_of_ble_eq_true rfl) rfl ?_; unfold W1; simp (config := { maxSteps := 2000000 }) only [JK, Gr, KO, KP, JL, QW, JM, JN, KQ, Gs, KR, KS, KT, KU, KV, KW, KX, KY, KZ, K1, K2, QX, QY, QZ, JO, JP, JQ, Q0, Q1, Q2, Q3, Q4, Q5, JR, JS, JT, JU, Jq, Jr, Kp, Yv, GU, JV, Qz, Qk, KN, QT, QU, JH, QV, JI, JJ, QS, Qy, JE, JF, KK, JG, KL, KM, Q8, Q9, Qc, Qd, QE, QF, Ja, Jb, QQ, QR, Qe, Qf, GD, GE, JZ, J0, K3, JW, JX, JY, Kb, Kc, Kd, QA, QB, QD, Gt, Gu, Gv, Gw, Q6, Q7, Gy, Gx, Gz, QG, J1, K4, J2, K5, K6, K7, K8, J3, Jc, K9, Jd, Je, Jf, Jg, Jh, QH, QI, Ji, J4, Jj, J5, J6, J7, GA, GB, Ya, Jk, Yb, QJ, KJ, J8, KF, GC, Jl, YF, YE, YD, Gk, List.length_take, Int.toNat_zero, List.drop_zero, YC, Ks, QL, Jt, GX, Yu, Kr, Kq, Js, Yc, J9, Yd, Ye, GF, Yf, Yg, GG, Yh, Ka, Yi, GH, Yj, Yk, GI, GJ, GK, Yl, eff, JB, QO, Ke, Ym, Kf, Kg, Kh, GL, GM, JD, JC, Jm, GN, GO, GP, Y7, pur, List.map, List.drop, List.take, List.length, List.foldl, List.append_eq, List.nil_append, List.cons_append, List.getD_cons_zero, List.getD_cons_succ, reduceIte, Nat.reduceEqDiff, Nat.reduceAdd, Nat.reduceLeDiff, true_and, and_true, Bool.not_true, Bool.not_false, Bool.and_true, Bool.true_and, Bool.and_self, reduceCtorEq, true_implies, false_implies, implies_true, decide_eq_true_eq, Option.map_some, Gm, fpX, SOp.xs, oX, refs, KE, dom, Gl, List.all_nil, List.all_cons, List.contains_cons, List.contains_nil, Nat.reduceBEq, Bool.or_false, Bool.false_or, List.append_nil, Bool.not_false, Bool.not_true, List.forall_mem_cons, fm0, List.set, Nat.reduceLT, Nat.reduceMod, ne_eq, not_false_eq_true, not_true_eq_false, GQ, Yn, Yo, Yp, Ki, Jn, Kj, Yq, Kk, Kl, GR, GS, GT, Yr, Ys, Yt, Jo, Jp, decide_true, AV.bool.injEq, AV.int.injEq, Nat.reduceLeDiff, decide_eq_true_eq, decide_eq_false_iff_not, Int.toNat_natCast, List.length_map, decide_false, KH, noref, flatOk, Qb, wkM, Km, Kw, Kx, Ju, QM, Kv, Jv, Kt, Ku, Qn, QN, Classical.not_not, Qr, Qt, Qa, Yw, Ql, List.take_length, List.length_cons, List.length_nil, Nat.zero_add, Ko, Yx, Yy, YG, Pt.row, Qs, Aw.row, Qv, Blk.row, Qg, Sec.row, Qh, Rw.row, Qw, Sky.row, Qi, Jw, Jx, Qp, Qu, Jy, YK]
  refine ⟨fun h1 h => h1 (by rw [h]), fun h1 => ?_⟩
  refine Yz (fun i : Nat => [(5, .int .i64 i)]) (fun _ => []) (fun i => i ≤ p.length ∧ ∀ j, j < i → p.getD j default = q.getD j default) (fun i => p.length - i) (0) (by simp only [YC, YD, YE, YF, Qc, Qd, Qe, Qf, reduceIte, Nat.reduceEqDiff]; exact ⟨by repeat' (first | exact trivial | refine ⟨.inr rfl, ?_⟩), by repeat' (first | exact trivial | refine ⟨rfl, ?_⟩), by first | rfl | simp [closedB, Qx, Qo, Qb, dom, Qm, *], by first | rfl | simp [keepB, dom]⟩) ?_ ?_
  · exact ⟨Nat.zero_le _, by intro j hj; omega⟩
  intro i hi NX hN
  unfold Vq; simp (config := { maxSteps := 2000000 }) only [JK, Gr, KO, KP, JL, QW, JM, JN, KQ, Gs, KR, KS, KT, KU, KV, KW, KX, KY, KZ, K1, K2, QX, QY, QZ, JO, JP, JQ, Q0, Q1, Q2, Q3, Q4, Q5, JR, JS, JT, JU, Jq, Jr, Kp, Yv, GU, JV, Qz, Qk, KN, QT, QU, JH, QV, JI, JJ, QS, Qy, JE, JF, KK, JG, KL, KM, Q8, Q9, Qc, Qd, QE, QF, Ja, Jb, QQ, QR, Qe, Qf, GD, GE, JZ, J0, K3, JW, JX, JY, Kb, Kc, Kd, QA, QB, QD, Gt, Gu, Gv, Gw, Q6, Q7, Gy, Gx, Gz, QG, J1, K4, J2, K5, K6, K7, K8, J3, Jc, K9, Jd, Je, Jf, Jg, Jh, QH, QI, Ji, J4, Jj, J5, J6, J7, GA, GB, Ya, Jk, Yb, QJ, KJ, J8, KF, GC, Jl, YF, YE, YD, Gk, List.length_take, Int.toNat_zero, List.drop_zero, YC, Ks, QL, Jt, GX, Yu, Kr, Kq, Js, Yc, J9, Yd, Ye, GF, Yf, Yg, GG, Yh, Ka, Yi, GH, Yj, Yk, GI, GJ, GK, Yl, eff, JB, QO, Ke, Ym, Kf, Kg, Kh, GL, GM, JD, JC, Jm, GN, GO, GP, Y7, pur, List.map, List.drop, List.take, List.length, List.foldl, List.append_eq, List.nil_append, List.cons_append, List.getD_cons_zero, List.getD_cons_succ, reduceIte, Nat.reduceEqDiff, Nat.reduceAdd, Nat.reduceLeDiff, true_and, and_true, Bool.not_true, Bool.not_false, Bool.and_true, Bool.true_and, Bool.and_self, reduceCtorEq, true_implies, false_implies, implies_true, decide_eq_true_eq, Option.map_some, Gm, fpX, SOp.xs, oX, refs, KE, dom, Gl, List.all_nil, List.all_cons, List.contains_cons, List.contains_nil, Nat.reduceBEq, Bool.or_false, Bool.false_or, List.append_nil, Bool.not_false, Bool.not_true, List.forall_mem_cons, fm0, List.set, Nat.reduceLT, Nat.reduceMod, ne_eq, not_false_eq_true, not_true_eq_false, GQ, Yn, Yo, Yp, Ki, Jn, Kj, Yq, Kk, Kl, GR, GS, GT, Yr, Ys, Yt, Jo, Jp, decide_true, AV.bool.injEq, AV.int.injEq, Nat.reduceLeDiff, decide_eq_true_eq, decide_eq_false_iff_not, Int.toNat_natCast, List.length_map, decide_false, KH, noref, flatOk, Qb, wkM, Km, Kw, Kx, Ju, QM, Kv, Jv, Kt, Ku, Qn, QN, Classical.not_not, Qr, Qt, Qa, Yw, Ql, List.take_length, List.length_cons, List.length_nil, Nat.zero_add, Ko, Yx, Yy, YG, Pt.row, Qs, Aw.row, Qv, Blk.row, Qg, Sec.row, Qh, Rw.row, Qw, Sky.row, Qi, Jw, Jx, Qp, Qu, Jy, YK]
  skip
  repeat' (first | with_reducible apply And.intro | with_reducible intro _)
  all_goals first
    | omega
    | (refine hN (i + 1) _ (by simp only [YC, YD, YE, YF, Qc, Qd, Qe, Qf, reduceIte, Nat.reduceEqDiff]; exact ⟨by repeat' (first | exact trivial | refine ⟨.inr rfl, ?_⟩), by repeat' (first | exact trivial | refine ⟨rfl, ?_⟩), by first | rfl | simp [closedB, Qx, Qo, Qb, dom, Qm, *], by first | rfl | simp [keepB, dom]⟩) ?_ ?_
       · exact ⟨by omega, Gf hi.2 (by with_reducible assumption)⟩
       · omega)
    | (intro h; subst h; exact absurd rfl (by with_reducible assumption))
    | (exact Qbt (by omega) fun j hj => hi.2 j (by omega))
    | grind
def YJ : List AV → Option (Prop × AV)
  | [.sl ct 1 cx, .sl dt 1 dx] => some ((((cx.map unS).map Ko = cx) ∧ ((dx.map unS).map Ko = dx)) ∧ ((cx.map unS).length ≤ 4611686018427387904), .bool (decide ((cx.map unS) = (dx.map unS))))
  | _ => none
theorem QbW : ∀ args p v, YJ args = some (p, v) → p → Contract P 12 args [] v [] ∧ noref v = true ∧ No99 v := by
  intro args p v h1 h2
  unfold YJ at h1
  split at h1
  · rename_i ct cx dt dx
    cases h1
    obtain ⟨⟨e0, e1⟩, HP⟩ := h2
    have := QfA ct dt (cx.map unS) (dx.map unS) HP
    exact ⟨by simpa only [e0, e1] using this, rfl, trivial⟩
  · cases h1
theorem QqR (s : Pt) : Contract P 44 [.agg (s.row)] [] (.agg (s.row)) [] := by
  simp only [Pt.row]
  refine QP (Env.nil P) hm Qdh (Nat.le_of_ble_eq_true rfl) rfl ?_; unfold Wn; simp (config := { maxSteps := 2000000 }) only [JK, Gr, KO, KP, JL, QW, JM, JN, KQ, Gs, KR, KS, KT, KU, KV, KW, KX, KY, KZ, K1, K2, QX, QY, QZ, JO, JP, JQ, Q0, Q1, Q2, Q3, Q4, Q5, JR, JS, JT, JU, Jq, Jr, Kp, Yv, GU, JV, Qz, Qk, KN, QT, QU, JH, QV, JI, JJ, QS, Qy, JE, JF, KK, JG, KL, KM, Q8, Q9, Qc, Qd, QE, QF, Ja, Jb, QQ, QR, Qe, Qf, GD, GE, JZ, J0, K3, JW, JX, JY, Kb, Kc, Kd, QA, QB, QD, Gt, Gu, Gv, Gw, Q6, Q7, Gy, Gx, Gz, QG, J1, K4, J2, K5, K6, K7, K8, J3, Jc, K9, Jd, Je, Jf, Jg, Jh, QH, QI, Ji, J4, Jj, J5, J6, J7, GA, GB, Ya, Jk, Yb, QJ, KJ, J8, KF, GC, Jl, YF, YE, YD, Gk, List.length_take, Int.toNat_zero, List.drop_zero, YC, Ks, QL, Jt, GX, Yu, Kr, Kq, Js, Yc, J9, Yd, Ye, GF, Yf, Yg, GG, Yh, Ka, Yi, GH, Yj, Yk, GI, GJ, GK, Yl, eff, JB, QO, Ke, Ym, Kf, Kg, Kh, GL, GM, JD, JC, Jm, GN, GO, GP, Y7, pur, List.map, List.drop, List.take, List.length, List.foldl, List.append_eq, List.nil_append, List.cons_append, List.getD_cons_zero, List.getD_cons_succ, reduceIte, Nat.reduceEqDiff, Nat.reduceAdd, Nat.reduceLeDiff, true_and, and_true, Bool.not_true, Bool.not_false, Bool.and_true, Bool.true_and, Bool.and_self, reduceCtorEq, true_implies, false_implies, implies_true, decide_eq_true_eq, Option.map_some, Gm, fpX, SOp.xs, oX, refs, KE, dom, Gl, List.all_nil, List.all_cons, List.contains_cons, List.contains_nil, Nat.reduceBEq, Bool.or_false, Bool.false_or, List.append_nil, Bool.not_false, Bool.not_true, List.forall_mem_cons, fm0, List.set, Nat.reduceLT, Nat.reduceMod, ne_eq, not_false_eq_true, not_true_eq_false, GQ, Yn, Yo, Yp, Ki, Jn, Kj, Yq, Kk, Kl, GR, GS, GT, Yr, Ys, Yt, Jo, Jp, decide_true, AV.bool.injEq, AV.int.injEq, Nat.reduceLeDiff, decide_eq_true_eq, decide_eq_false_iff_not, Int.toNat_natCast, List.length_map, decide_false, KH, noref, flatOk, Qb, wkM, Km, Kw, Kx, Ju, QM, Kv, Jv, Kt, Ku, Qn, QN, Classical.not_not, Qr, Qt, Qa, Yw, Ql, List.take_length, List.length_cons, List.length_nil, Nat.zero_add, Ko, Yx, Yy, YG, Pt.row, Qs, Aw.row, Qv, Blk.row, Qg, Sec.row, Qh, Rw.row, Qw, Sky.row, Qi, Jw, Jx, Qp, Qu, Jy, YK]
  all_goals trivial
def QdJ : List AV → Option (Prop × AV)
  | [.agg [.str s_nm, .int .i64 s_x, .int .i64 s_y]] => some ((True) ∧ (True), .agg (Pt.row (Pt.mk s_nm s_x s_y)))
  | _ => none
theorem Qor : ∀ args p v, QdJ args = some (p, v) → p → Contract P 44 args [] v [] ∧ noref v = true ∧ No99 v := by
  intro args p v h1 h2
  unfold QdJ at h1
  split at h1
  · rename_i s_nm s_x s_y
    cases h1
    obtain ⟨_, HP⟩ := h2
    have := QqR (Pt.mk s_nm s_x s_y)
    exact ⟨by simpa only [Pt.row] using this, rfl, by simp [Pt.row, No99, Xl, Zs, QaN, G3, X4, Zt, Xr, XI, X5, Zu, -List.map_map]⟩
  · cases h1
theorem QjU {lst : List Pt} {idx : Nat} {vnm : ByteArray} {vx : Int} {vy : Int} : (lst.map Pt.row).set idx (YB ((lst.map Pt.row).getD idx []) 0 [.str vnm, .int .i64 vx, .int .i64 vy]) = (lst.set idx (Pt.mk vnm vx vy)).map Pt.row :=
  G8 (α := Pt) (f := Pt.row) (fun s => (Pt.mk vnm vx vy)) fun x => by simp [Pt.row, YB]
def Qdn (a : List Pt) (i : Nat) : List Pt := a.take i ++ List.replicate (a.length - i) ⟨⟨#[]⟩, 0, 0⟩
theorem QjV {a : List Pt} {i : Nat} (h : i < a.length) : (Qdn a i).set i (a.getD i default) = Qdn a (i + 1) := by
  refine List.ext_getElem (by simp [Qdn]; omega) fun j h1 h2 => ?_
  by_cases e : j = i
  · subst e
    simp [Qdn, List.getElem_append, h]
    intro h9; omega
  · simp only [List.getElem_set_ne (Ne.symm e)]
    simp only [Qdn, List.getElem_append, List.length_take, List.getElem_take, List.getElem_replicate]
    split <;> split <;> first | rfl | omega
theorem Qpo (t : Nat) (a : List Pt) (ha : a.length ≤ 1048576) : Contract P 21 [.sl t 3 (a.map Pt.row)] [] (.sl 0 3 (a.map Pt.row)) [] := by
  refine QP ((Env.nil P).add 44 QdJ Qor) hm Qcs (Nat.le_of_ble_eq_true rfl) rfl ?_; unfold Vu; simp (config := { maxSteps := 2000000 }) only [JK, Gr, KO, KP, JL, QW, JM, JN, KQ, Gs, KR, KS, KT, KU, KV, KW, KX, KY, KZ, K1, K2, QX, QY, QZ, JO, JP, JQ, Q0, Q1, Q2, Q3, Q4, Q5, JR, JS, JT, JU, Jq, Jr, Kp, Yv, GU, JV, Qz, Qk, KN, QT, QU, JH, QV, JI, JJ, QS, Qy, JE, JF, KK, JG, KL, KM, Q8, Q9, Qc, Qd, QE, QF, Ja, Jb, QQ, QR, Qe, Qf, GD, GE, JZ, J0, K3, JW, JX, JY, Kb, Kc, Kd, QA, QB, QD, Gt, Gu, Gv, Gw, Q6, Q7, Gy, Gx, Gz, QG, J1, K4, J2, K5, K6, K7, K8, J3, Jc, K9, Jd, Je, Jf, Jg, Jh, QH, QI, Ji, J4, Jj, J5, J6, J7, GA, GB, Ya, Jk, Yb, QJ, KJ, J8, KF, GC, Jl, YF, YE, YD, Gk, List.length_take, Int.toNat_zero, List.drop_zero, YC, Ks, QL, Jt, GX, Yu, Kr, Kq, Js, Yc, J9, Yd, Ye, GF, Yf, Yg, GG, Yh, Ka, Yi, GH, Yj, Yk, GI, GJ, GK, Yl, eff, JB, QO, Ke, Ym, Kf, Kg, Kh, GL, GM, JD, JC, Jm, GN, GO, GP, Y7, pur, List.map, List.drop, List.take, List.length, List.foldl, List.append_eq, List.nil_append, List.cons_append, List.getD_cons_zero, List.getD_cons_succ, reduceIte, Nat.reduceEqDiff, Nat.reduceAdd, Nat.reduceLeDiff, true_and, and_true, Bool.not_true, Bool.not_false, Bool.and_true, Bool.true_and, Bool.and_self, reduceCtorEq, true_implies, false_implies, implies_true, decide_eq_true_eq, Option.map_some, Gm, fpX, SOp.xs, oX, refs, KE, dom, Gl, List.all_nil, List.all_cons, List.contains_cons, List.contains_nil, Nat.reduceBEq, Bool.or_false, Bool.false_or, List.append_nil, Bool.not_false, Bool.not_true, List.forall_mem_cons, fm0, List.set, Nat.reduceLT, Nat.reduceMod, ne_eq, not_false_eq_true, not_true_eq_false, GQ, Yn, Yo, Yp, Ki, Jn, Kj, Yq, Kk, Kl, GR, GS, GT, Yr, Ys, Yt, Jo, Jp, decide_true, AV.bool.injEq, AV.int.injEq, Nat.reduceLeDiff, decide_eq_true_eq, decide_eq_false_iff_not, Int.toNat_natCast, List.length_map, decide_false, KH, noref, flatOk, Qb, wkM, Km, Kw, Kx, Ju, QM, Kv, Jv, Kt, Ku, Qn, QN, Classical.not_not, QdJ, Qr, Qt, Qa, Yw, Ql, List.take_length, List.length_cons, List.length_nil, Nat.zero_add, Ko, Yx, Yy, YG, Pt.row, Qs, Aw.row, Qv, Blk.row, Qg, Sec.row, Qh, Rw.row, Qw, Sky.row, Qi, Jw, Jx, Qp, Qu, Jy, YK, QjU, Nat.sub_zero]
  have m0 : List.replicate a.length [.str ⟨#[]⟩, .int .i64 0, .int .i64 0] = (Qdn a 0).map Pt.row := by simp [Qdn, Pt.row]
  refine ⟨by omega, ?_⟩
  refine Yz (fun i : Nat => [(4, .int .i64 i)]) (fun i => [(107, .arr 82 0 3 ((Qdn a i).map Pt.row))]) (fun i => i ≤ a.length) (fun i => a.length - i) 0 (by simp only [YC, YD, YE, YF, Qc, Qd, Qe, Qf, reduceIte, Nat.reduceEqDiff]; exact ⟨by repeat' (first | exact trivial | refine ⟨.inr rfl, ?_⟩), ⟨congrArg (fun g => some (AObj.arr 82 0 3 g)) m0, trivial⟩, rfl, rfl⟩) (Nat.zero_le _) ?_
  intro i hi NX hN
  skip
  unfold Us; simp (config := { maxSteps := 2000000 }) only [JK, Gr, KO, KP, JL, QW, JM, JN, KQ, Gs, KR, KS, KT, KU, KV, KW, KX, KY, KZ, K1, K2, QX, QY, QZ, JO, JP, JQ, Q0, Q1, Q2, Q3, Q4, Q5, JR, JS, JT, JU, Jq, Jr, Kp, Yv, GU, JV, Qz, Qk, KN, QT, QU, JH, QV, JI, JJ, QS, Qy, JE, JF, KK, JG, KL, KM, Q8, Q9, Qc, Qd, QE, QF, Ja, Jb, QQ, QR, Qe, Qf, GD, GE, JZ, J0, K3, JW, JX, JY, Kb, Kc, Kd, QA, QB, QD, Gt, Gu, Gv, Gw, Q6, Q7, Gy, Gx, Gz, QG, J1, K4, J2, K5, K6, K7, K8, J3, Jc, K9, Jd, Je, Jf, Jg, Jh, QH, QI, Ji, J4, Jj, J5, J6, J7, GA, GB, Ya, Jk, Yb, QJ, KJ, J8, KF, GC, Jl, YF, YE, YD, Gk, List.length_take, Int.toNat_zero, List.drop_zero, YC, Ks, QL, Jt, GX, Yu, Kr, Kq, Js, Yc, J9, Yd, Ye, GF, Yf, Yg, GG, Yh, Ka, Yi, GH, Yj, Yk, GI, GJ, GK, Yl, eff, JB, QO, Ke, Ym, Kf, Kg, Kh, GL, GM, JD, JC, Jm, GN, GO, GP, Y7, pur, List.map, List.drop, List.take, List.length, List.foldl, List.append_eq, List.nil_append, List.cons_append, List.getD_cons_zero, List.getD_cons_succ, reduceIte, Nat.reduceEqDiff, Nat.reduceAdd, Nat.reduceLeDiff, true_and, and_true, Bool.not_true, Bool.not_false, Bool.and_true, Bool.true_and, Bool.and_self, reduceCtorEq, true_implies, false_implies, implies_true, decide_eq_true_eq, Option.map_some, Gm, fpX, SOp.xs, oX, refs, KE, dom, Gl, List.all_nil, List.all_cons, List.contains_cons, List.contains_nil, Nat.reduceBEq, Bool.or_false, Bool.false_or, List.append_nil, Bool.not_false, Bool.not_true, List.forall_mem_cons, fm0, List.set, Nat.reduceLT, Nat.reduceMod, ne_eq, not_false_eq_true, not_true_eq_false, GQ, Yn, Yo, Yp, Ki, Jn, Kj, Yq, Kk, Kl, GR, GS, GT, Yr, Ys, Yt, Jo, Jp, decide_true, AV.bool.injEq, AV.int.injEq, Nat.reduceLeDiff, decide_eq_true_eq, decide_eq_false_iff_not, Int.toNat_natCast, List.length_map, decide_false, KH, noref, flatOk, Qb, wkM, Km, Kw, Kx, Ju, QM, Kv, Jv, Kt, Ku, Qn, QN, Classical.not_not, QdJ, Qr, Qt, Qa, Yw, Ql, List.take_length, List.length_cons, List.length_nil, Nat.zero_add, Ko, Yx, Yy, YG, Pt.row, Qs, Aw.row, Qv, Blk.row, Qg, Sec.row, Qh, Rw.row, Qw, Sky.row, Qi, Jw, Jx, Qp, Qu, Jy, YK, QjU, Nat.sub_zero]
  refine ⟨fun h => ?_, fun h => ?_⟩
  · repeat' (first | with_reducible apply And.intro | with_reducible intro _)
    all_goals first
      | omega
      | rfl
      | exact hs2 (by omega)
      | (have e := QjV (a := a) (i := i) (by omega)
         try simp only [Pt.row] at *
         refine hN (i + 1) _ ⟨by repeat' (first | exact trivial | refine ⟨.inr rfl, ?_⟩), ⟨congrArg (fun g => some (AObj.arr 82 0 3 (List.map Pt.row g))) e, trivial⟩, rfl, rfl⟩ ?_ ?_ <;> omega)
  · have e : i = a.length := by omega
    subst e
    simp only [Qdn, List.take_length, Nat.sub_self, List.replicate_zero, List.append_nil]
    try rw [List.take_of_length_le (by simp)]
def QgH : List AV → Option (Prop × AV)
  | [.sl st 3 sx] => some ((((sx.map Y1).map Pt.row = sx)) ∧ ((sx.map Y1).length ≤ 1048576), .sl 0 3 ((sx.map Y1).map Pt.row))
  | _ => none
theorem Qpp : ∀ args p v, QgH args = some (p, v) → p → Contract P 21 args [] v [] ∧ noref v = true ∧ No99 v := by
  intro args p v h1 h2
  unfold QgH at h1
  split at h1
  · rename_i st sx
    cases h1
    obtain ⟨e0, HP⟩ := h2
    have := Qpo st (sx.map Y1) HP
    exact ⟨by simpa only [e0] using this, rfl, by simp [No99, Xl, Zs, QaN, G3, X4, Zt, Xr, XI, X5, Zu, -List.map_map]⟩
  · cases h1
theorem QqS (c d : Pt)  : Contract P 61 [.agg (c.row), .agg (d.row)] [] (.bool (decide (c = d))) [] := by
  obtain ⟨c_nm, c_x, c_y⟩ := c
  obtain ⟨d_nm, d_x, d_y⟩ := d
  simp only [Pt.row]
  refine QP (Env.nil P) hm Qdi (Nat.le_of_ble_eq_true rfl) rfl ?_; unfold Wp; simp (config := { maxSteps := 2000000 }) only [JK, Gr, KO, KP, JL, QW, JM, JN, KQ, Gs, KR, KS, KT, KU, KV, KW, KX, KY, KZ, K1, K2, QX, QY, QZ, JO, JP, JQ, Q0, Q1, Q2, Q3, Q4, Q5, JR, JS, JT, JU, Jq, Jr, Kp, Yv, GU, JV, Qz, Qk, KN, QT, QU, JH, QV, JI, JJ, QS, Qy, JE, JF, KK, JG, KL, KM, Q8, Q9, Qc, Qd, QE, QF, Ja, Jb, QQ, QR, Qe, Qf, GD, GE, JZ, J0, K3, JW, JX, JY, Kb, Kc, Kd, QA, QB, QD, Gt, Gu, Gv, Gw, Q6, Q7, Gy, Gx, Gz, QG, J1, K4, J2, K5, K6, K7, K8, J3, Jc, K9, Jd, Je, Jf, Jg, Jh, QH, QI, Ji, J4, Jj, J5, J6, J7, GA, GB, Ya, Jk, Yb, QJ, KJ, J8, KF, GC, Jl, YF, YE, YD, Gk, List.length_take, Int.toNat_zero, List.drop_zero, YC, Ks, QL, Jt, GX, Yu, Kr, Kq, Js, Yc, J9, Yd, Ye, GF, Yf, Yg, GG, Yh, Ka, Yi, GH, Yj, Yk, GI, GJ, GK, Yl, eff, JB, QO, Ke, Ym, Kf, Kg, Kh, GL, GM, JD, JC, Jm, GN, GO, GP, Y7, pur, List.map, List.drop, List.take, List.length, List.foldl, List.append_eq, List.nil_append, List.cons_append, List.getD_cons_zero, List.getD_cons_succ, reduceIte, Nat.reduceEqDiff, Nat.reduceAdd, Nat.reduceLeDiff, true_and, and_true, Bool.not_true, Bool.not_false, Bool.and_true, Bool.true_and, Bool.and_self, reduceCtorEq, true_implies, false_implies, implies_true, decide_eq_true_eq, Option.map_some, Gm, fpX, SOp.xs, oX, refs, KE, dom, Gl, List.all_nil, List.all_cons, List.contains_cons, List.contains_nil, Nat.reduceBEq, Bool.or_false, Bool.false_or, List.append_nil, Bool.not_false, Bool.not_true, List.forall_mem_cons, fm0, List.set, Nat.reduceLT, Nat.reduceMod, ne_eq, not_false_eq_true, not_true_eq_false, GQ, Yn, Yo, Yp, Ki, Jn, Kj, Yq, Kk, Kl, GR, GS, GT, Yr, Ys, Yt, Jo, Jp, decide_true, AV.bool.injEq, AV.int.injEq, Nat.reduceLeDiff, decide_eq_true_eq, decide_eq_false_iff_not, Int.toNat_natCast, List.length_map, decide_false, KH, noref, flatOk, Qb, wkM, Km, Kw, Kx, Ju, QM, Kv, Jv, Kt, Ku, Qn, QN, Classical.not_not, Qr, Qt, Qa, Yw, Ql, List.take_length, List.length_cons, List.length_nil, Nat.zero_add, Ko, Yx, Yy, YG, Pt.row, Qs, Aw.row, Qv, Blk.row, Qg, Sec.row, Qh, Rw.row, Qw, Sky.row, Qi, Jw, Jx, Qp, Qu, Jy, YK]
  simp only [Pt.mk.injEq]
  repeat' (first | with_reducible apply And.intro | with_reducible intro _)
  all_goals first | omega | (simp_all; done) | grind
def Qif : List AV → Option (Prop × AV)
  | [.agg [.str c_nm, .int .i64 c_x, .int .i64 c_y], .agg [.str d_nm, .int .i64 d_x, .int .i64 d_y]] => some ((True) ∧ (True), .bool (decide ((Pt.mk c_nm c_x c_y) = (Pt.mk d_nm d_x d_y))))
  | _ => none
theorem QqT : ∀ args p v, Qif args = some (p, v) → p → Contract P 61 args [] v [] ∧ noref v = true ∧ No99 v := by
  intro args p v h1 h2
  unfold Qif at h1
  split at h1
  · rename_i c_nm c_x c_y d_nm d_x d_y
    cases h1
    obtain ⟨_, HP⟩ := h2
    have := QqS (Pt.mk c_nm c_x c_y) (Pt.mk d_nm d_x d_y)
    exact ⟨by simpa only [Pt.row, Pt.row] using this, rfl, trivial⟩
  · cases h1
theorem Qpq (t t' : Nat) (p q : List Pt) (hp : p.length ≤ 4611686018427387904) : Contract P 28 [.sl t 3 (p.map Pt.row), .sl t' 3 (q.map Pt.row)] [] (.bool (decide (p = q))) [] := by
  refine QP ((Env.nil P).add 61 Qif QqT) hm Qct (Nat.le_of_ble_eq_true rfl) rfl ?_; unfold Vv; simp (config := { maxSteps := 2000000 }) only [JK, Gr, KO, KP, JL, QW, JM, JN, KQ, Gs, KR, KS, KT, KU, KV, KW, KX, KY, KZ, K1, K2, QX, QY, QZ, JO, JP, JQ, Q0, Q1, Q2, Q3, Q4, Q5, JR, JS, JT, JU, Jq, Jr, Kp, Yv, GU, JV, Qz, Qk, KN, QT, QU, JH, QV, JI, JJ, QS, Qy, JE, JF, KK, JG, KL, KM, Q8, Q9, Qc, Qd, QE, QF, Ja, Jb, QQ, QR, Qe, Qf, GD, GE, JZ, J0, K3, JW, JX, JY, Kb, Kc, Kd, QA, QB, QD, Gt, Gu, Gv, Gw, Q6, Q7, Gy, Gx, Gz, QG, J1, K4, J2, K5, K6, K7, K8, J3, Jc, K9, Jd, Je, Jf, Jg, Jh, QH, QI, Ji, J4, Jj, J5, J6, J7, GA, GB, Ya, Jk, Yb, QJ, KJ, J8, KF, GC, Jl, YF, YE, YD, Gk, List.length_take, Int.toNat_zero, List.drop_zero, YC, Ks, QL, Jt, GX, Yu, Kr, Kq, Js, Yc, J9, Yd, Ye, GF, Yf, Yg, GG, Yh, Ka, Yi, GH, Yj, Yk, GI, GJ, GK, Yl, eff, JB, QO, Ke, Ym, Kf, Kg, Kh, GL, GM, JD, JC, Jm, GN, GO, GP, Y7, pur, List.map, List.drop, List.take, List.length, List.foldl, List.append_eq, List.nil_append, List.cons_append, List.getD_cons_zero, List.getD_cons_succ, reduceIte, Nat.reduceEqDiff, Nat.reduceAdd, Nat.reduceLeDiff, true_and, and_true, Bool.not_true, Bool.not_false, Bool.and_true, Bool.true_and, Bool.and_self, reduceCtorEq, true_implies, false_implies, implies_true, decide_eq_true_eq, Option.map_some, Gm, fpX, SOp.xs, oX, refs, KE, dom, Gl, List.all_nil, List.all_cons, List.contains_cons, List.contains_nil, Nat.reduceBEq, Bool.or_false, Bool.false_or, List.append_nil, Bool.not_false, Bool.not_true, List.forall_mem_cons, fm0, List.set, Nat.reduceLT, Nat.reduceMod, ne_eq, not_false_eq_true, not_true_eq_false, GQ, Yn, Yo, Yp, Ki, Jn, Kj, Yq, Kk, Kl, GR, GS, GT, Yr, Ys, Yt, Jo, Jp, decide_true, AV.bool.injEq, AV.int.injEq, Nat.reduceLeDiff, decide_eq_true_eq, decide_eq_false_iff_not, Int.toNat_natCast, List.length_map, decide_false, KH, noref, flatOk, Qb, wkM, Km, Kw, Kx, Ju, QM, Kv, Jv, Kt, Ku, Qn, QN, Classical.not_not, Qif, Qr, Qt, Qa, Yw, Ql, List.take_length, List.length_cons, List.length_nil, Nat.zero_add, Ko, Yx, Yy, YG, Pt.row, Qs, Aw.row, Qv, Blk.row, Qg, Sec.row, Qh, Rw.row, Qw, Sky.row, Qi, Jw, Jx, Qp, Qu, Jy, YK]
  refine ⟨fun h1 h => h1 (by rw [h]), fun h1 => ?_⟩
  refine Yz (fun i : Nat => [(5, .int .i64 i)]) (fun _ => []) (fun i => i ≤ p.length ∧ ∀ j, j < i → p.getD j default = q.getD j default) (fun i => p.length - i) (0) (by simp only [YC, YD, YE, YF, Qc, Qd, Qe, Qf, reduceIte, Nat.reduceEqDiff]; exact ⟨by repeat' (first | exact trivial | refine ⟨.inr rfl, ?_⟩), by repeat' (first | exact trivial | refine ⟨rfl, ?_⟩), by first | rfl | simp [closedB, Qx, Qo, Qb, dom, Qm, *], by first | rfl | simp [keepB, dom]⟩) ?_ ?_
  · exact ⟨Nat.zero_le _, by intro j hj; omega⟩
  intro i hi NX hN
  unfold Ut; simp (config := { maxSteps := 2000000 }) only [JK, Gr, KO, KP, JL, QW, JM, JN, KQ, Gs, KR, KS, KT, KU, KV, KW, KX, KY, KZ, K1, K2, QX, QY, QZ, JO, JP, JQ, Q0, Q1, Q2, Q3, Q4, Q5, JR, JS, JT, JU, Jq, Jr, Kp, Yv, GU, JV, Qz, Qk, KN, QT, QU, JH, QV, JI, JJ, QS, Qy, JE, JF, KK, JG, KL, KM, Q8, Q9, Qc, Qd, QE, QF, Ja, Jb, QQ, QR, Qe, Qf, GD, GE, JZ, J0, K3, JW, JX, JY, Kb, Kc, Kd, QA, QB, QD, Gt, Gu, Gv, Gw, Q6, Q7, Gy, Gx, Gz, QG, J1, K4, J2, K5, K6, K7, K8, J3, Jc, K9, Jd, Je, Jf, Jg, Jh, QH, QI, Ji, J4, Jj, J5, J6, J7, GA, GB, Ya, Jk, Yb, QJ, KJ, J8, KF, GC, Jl, YF, YE, YD, Gk, List.length_take, Int.toNat_zero, List.drop_zero, YC, Ks, QL, Jt, GX, Yu, Kr, Kq, Js, Yc, J9, Yd, Ye, GF, Yf, Yg, GG, Yh, Ka, Yi, GH, Yj, Yk, GI, GJ, GK, Yl, eff, JB, QO, Ke, Ym, Kf, Kg, Kh, GL, GM, JD, JC, Jm, GN, GO, GP, Y7, pur, List.map, List.drop, List.take, List.length, List.foldl, List.append_eq, List.nil_append, List.cons_append, List.getD_cons_zero, List.getD_cons_succ, reduceIte, Nat.reduceEqDiff, Nat.reduceAdd, Nat.reduceLeDiff, true_and, and_true, Bool.not_true, Bool.not_false, Bool.and_true, Bool.true_and, Bool.and_self, reduceCtorEq, true_implies, false_implies, implies_true, decide_eq_true_eq, Option.map_some, Gm, fpX, SOp.xs, oX, refs, KE, dom, Gl, List.all_nil, List.all_cons, List.contains_cons, List.contains_nil, Nat.reduceBEq, Bool.or_false, Bool.false_or, List.append_nil, Bool.not_false, Bool.not_true, List.forall_mem_cons, fm0, List.set, Nat.reduceLT, Nat.reduceMod, ne_eq, not_false_eq_true, not_true_eq_false, GQ, Yn, Yo, Yp, Ki, Jn, Kj, Yq, Kk, Kl, GR, GS, GT, Yr, Ys, Yt, Jo, Jp, decide_true, AV.bool.injEq, AV.int.injEq, Nat.reduceLeDiff, decide_eq_true_eq, decide_eq_false_iff_not, Int.toNat_natCast, List.length_map, decide_false, KH, noref, flatOk, Qb, wkM, Km, Kw, Kx, Ju, QM, Kv, Jv, Kt, Ku, Qn, QN, Classical.not_not, Qif, Qr, Qt, Qa, Yw, Ql, List.take_length, List.length_cons, List.length_nil, Nat.zero_add, Ko, Yx, Yy, YG, Pt.row, Qs, Aw.row, Qv, Blk.row, Qg, Sec.row, Qh, Rw.row, Qw, Sky.row, Qi, Jw, Jx, Qp, Qu, Jy, YK]
  skip
  repeat' (first | with_reducible apply And.intro | with_reducible intro _)
  all_goals first
    | omega
    | (refine hN (i + 1) _ (by simp only [YC, YD, YE, YF, Qc, Qd, Qe, Qf, reduceIte, Nat.reduceEqDiff]; exact ⟨by repeat' (first | exact trivial | refine ⟨.inr rfl, ?_⟩), by repeat' (first | exact trivial | refine ⟨rfl, ?_⟩), by first | rfl | simp [closedB, Qx, Qo, Qb, dom, Qm, *], by first | rfl | simp [keepB, dom]⟩) ?_ ?_
       · exact ⟨by omega, Gf hi.2 (by with_reducible assumption)⟩
       · omega)
    | (intro h; subst h; exact absurd rfl (by with_reducible assumption))
    | (exact Qbt (by omega) fun j hj => hi.2 j (by omega))
    | grind
def QgI : List AV → Option (Prop × AV)
  | [.sl ct 3 cx, .sl dt 3 dx] => some ((((cx.map Y1).map Pt.row = cx) ∧ ((dx.map Y1).map Pt.row = dx)) ∧ ((cx.map Y1).length ≤ 4611686018427387904), .bool (decide ((cx.map Y1) = (dx.map Y1))))
  | _ => none
theorem Qpr : ∀ args p v, QgI args = some (p, v) → p → Contract P 28 args [] v [] ∧ noref v = true ∧ No99 v := by
  intro args p v h1 h2
  unfold QgI at h1
  split at h1
  · rename_i ct cx dt dx
    cases h1
    obtain ⟨⟨e0, e1⟩, HP⟩ := h2
    have := Qpq ct dt (cx.map Y1) (dx.map Y1) HP
    exact ⟨by simpa only [e0, e1] using this, rfl, trivial⟩
  · cases h1
theorem Qps (s : Blk) : Contract P 93 [.agg (s.row)] [] (.agg (s.row)) [] := by
  simp only [Blk.row]
  refine QP (Env.nil P) hm Qdk (Nat.le_of_ble_eq_true rfl) rfl ?_; unfold Ww; simp (config := { maxSteps := 2000000 }) only [JK, Gr, KO, KP, JL, QW, JM, JN, KQ, Gs, KR, KS, KT, KU, KV, KW, KX, KY, KZ, K1, K2, QX, QY, QZ, JO, JP, JQ, Q0, Q1, Q2, Q3, Q4, Q5, JR, JS, JT, JU, Jq, Jr, Kp, Yv, GU, JV, Qz, Qk, KN, QT, QU, JH, QV, JI, JJ, QS, Qy, JE, JF, KK, JG, KL, KM, Q8, Q9, Qc, Qd, QE, QF, Ja, Jb, QQ, QR, Qe, Qf, GD, GE, JZ, J0, K3, JW, JX, JY, Kb, Kc, Kd, QA, QB, QD, Gt, Gu, Gv, Gw, Q6, Q7, Gy, Gx, Gz, QG, J1, K4, J2, K5, K6, K7, K8, J3, Jc, K9, Jd, Je, Jf, Jg, Jh, QH, QI, Ji, J4, Jj, J5, J6, J7, GA, GB, Ya, Jk, Yb, QJ, KJ, J8, KF, GC, Jl, YF, YE, YD, Gk, List.length_take, Int.toNat_zero, List.drop_zero, YC, Ks, QL, Jt, GX, Yu, Kr, Kq, Js, Yc, J9, Yd, Ye, GF, Yf, Yg, GG, Yh, Ka, Yi, GH, Yj, Yk, GI, GJ, GK, Yl, eff, JB, QO, Ke, Ym, Kf, Kg, Kh, GL, GM, JD, JC, Jm, GN, GO, GP, Y7, pur, List.map, List.drop, List.take, List.length, List.foldl, List.append_eq, List.nil_append, List.cons_append, List.getD_cons_zero, List.getD_cons_succ, reduceIte, Nat.reduceEqDiff, Nat.reduceAdd, Nat.reduceLeDiff, true_and, and_true, Bool.not_true, Bool.not_false, Bool.and_true, Bool.true_and, Bool.and_self, reduceCtorEq, true_implies, false_implies, implies_true, decide_eq_true_eq, Option.map_some, Gm, fpX, SOp.xs, oX, refs, KE, dom, Gl, List.all_nil, List.all_cons, List.contains_cons, List.contains_nil, Nat.reduceBEq, Bool.or_false, Bool.false_or, List.append_nil, Bool.not_false, Bool.not_true, List.forall_mem_cons, fm0, List.set, Nat.reduceLT, Nat.reduceMod, ne_eq, not_false_eq_true, not_true_eq_false, GQ, Yn, Yo, Yp, Ki, Jn, Kj, Yq, Kk, Kl, GR, GS, GT, Yr, Ys, Yt, Jo, Jp, decide_true, AV.bool.injEq, AV.int.injEq, Nat.reduceLeDiff, decide_eq_true_eq, decide_eq_false_iff_not, Int.toNat_natCast, List.length_map, decide_false, KH, noref, flatOk, Qb, wkM, Km, Kw, Kx, Ju, QM, Kv, Jv, Kt, Ku, Qn, QN, Classical.not_not, Qr, Qt, Qa, Yw, Ql, List.take_length, List.length_cons, List.length_nil, Nat.zero_add, Ko, Yx, Yy, YG, Pt.row, Qs, Aw.row, Qv, Blk.row, Qg, Sec.row, Qh, Rw.row, Qw, Sky.row, Qi, Jw, Jx, Qp, Qu, Jy, YK]
  all_goals trivial
def QaX : List AV → Option (Prop × AV)
  | [.agg [.int .i64 s_x0, .int .i64 s_y0, .int .i64 s_x1, .int .i64 s_y1, .int .i64 s_lo, .int .i64 s_hi]] => some ((True) ∧ (True), .agg (Blk.row (Blk.mk s_x0 s_y0 s_x1 s_y1 s_lo s_hi)))
  | _ => none
theorem Ql0 : ∀ args p v, QaX args = some (p, v) → p → Contract P 93 args [] v [] ∧ noref v = true ∧ No99 v := by
  intro args p v h1 h2
  unfold QaX at h1
  split at h1
  · rename_i s_x0 s_y0 s_x1 s_y1 s_lo s_hi
    cases h1
    obtain ⟨_, HP⟩ := h2
    have := Qps (Blk.mk s_x0 s_y0 s_x1 s_y1 s_lo s_hi)
    exact ⟨by simpa only [Blk.row] using this, rfl, by simp [Blk.row, No99, Xl, Zs, QaN, G3, X4, Zt, Xr, XI, X5, Zu, -List.map_map]⟩
  · cases h1
theorem QgJ {lst : List Blk} {idx : Nat} {vx0 : Int} {vy0 : Int} {vx1 : Int} {vy1 : Int} {vlo : Int} {vhi : Int} : (lst.map Blk.row).set idx (YB ((lst.map Blk.row).getD idx []) 0 [.int .i64 vx0, .int .i64 vy0, .int .i64 vx1, .int .i64 vy1, .int .i64 vlo, .int .i64 vhi]) = (lst.set idx (Blk.mk vx0 vy0 vx1 vy1 vlo vhi)).map Blk.row :=
  G8 (α := Blk) (f := Blk.row) (fun s => (Blk.mk vx0 vy0 vx1 vy1 vlo vhi)) fun x => by simp [Blk.row, YB]
def WB (a : List Blk) (i : Nat) : List Blk := a.take i ++ List.replicate (a.length - i) ⟨0, 0, 0, 0, 0, 0⟩
theorem Qig {a : List Blk} {i : Nat} (h : i < a.length) : (WB a i).set i (a.getD i default) = WB a (i + 1) := by
  refine List.ext_getElem (by simp [WB]; omega) fun j h1 h2 => ?_
  by_cases e : j = i
  · subst e
    simp [WB, List.getElem_append, h]
    intro h9; omega
  · simp only [List.getElem_set_ne (Ne.symm e)]
    simp only [WB, List.getElem_append, List.length_take, List.getElem_take, List.getElem_replicate]
    split <;> split <;> first | rfl | omega
theorem Qnw (t : Nat) (a : List Blk) (ha : a.length ≤ 1048576) : Contract P 79 [.sl t 6 (a.map Blk.row)] [] (.sl 0 6 (a.map Blk.row)) [] := by
  refine QP ((Env.nil P).add 93 QaX Ql0) hm QcJ (Nat.le_of_ble_eq_true rfl) rfl ?_; unfold VM; simp (config := { maxSteps := 2000000 }) only [JK, Gr, KO, KP, JL, QW, JM, JN, KQ, Gs, KR, KS, KT, KU, KV, KW, KX, KY, KZ, K1, K2, QX, QY, QZ, JO, JP, JQ, Q0, Q1, Q2, Q3, Q4, Q5, JR, JS, JT, JU, Jq, Jr, Kp, Yv, GU, JV, Qz, Qk, KN, QT, QU, JH, QV, JI, JJ, QS, Qy, JE, JF, KK, JG, KL, KM, Q8, Q9, Qc, Qd, QE, QF, Ja, Jb, QQ, QR, Qe, Qf, GD, GE, JZ, J0, K3, JW, JX, JY, Kb, Kc, Kd, QA, QB, QD, Gt, Gu, Gv, Gw, Q6, Q7, Gy, Gx, Gz, QG, J1, K4, J2, K5, K6, K7, K8, J3, Jc, K9, Jd, Je, Jf, Jg, Jh, QH, QI, Ji, J4, Jj, J5, J6, J7, GA, GB, Ya, Jk, Yb, QJ, KJ, J8, KF, GC, Jl, YF, YE, YD, Gk, List.length_take, Int.toNat_zero, List.drop_zero, YC, Ks, QL, Jt, GX, Yu, Kr, Kq, Js, Yc, J9, Yd, Ye, GF, Yf, Yg, GG, Yh, Ka, Yi, GH, Yj, Yk, GI, GJ, GK, Yl, eff, JB, QO, Ke, Ym, Kf, Kg, Kh, GL, GM, JD, JC, Jm, GN, GO, GP, Y7, pur, List.map, List.drop, List.take, List.length, List.foldl, List.append_eq, List.nil_append, List.cons_append, List.getD_cons_zero, List.getD_cons_succ, reduceIte, Nat.reduceEqDiff, Nat.reduceAdd, Nat.reduceLeDiff, true_and, and_true, Bool.not_true, Bool.not_false, Bool.and_true, Bool.true_and, Bool.and_self, reduceCtorEq, true_implies, false_implies, implies_true, decide_eq_true_eq, Option.map_some, Gm, fpX, SOp.xs, oX, refs, KE, dom, Gl, List.all_nil, List.all_cons, List.contains_cons, List.contains_nil, Nat.reduceBEq, Bool.or_false, Bool.false_or, List.append_nil, Bool.not_false, Bool.not_true, List.forall_mem_cons, fm0, List.set, Nat.reduceLT, Nat.reduceMod, ne_eq, not_false_eq_true, not_true_eq_false, GQ, Yn, Yo, Yp, Ki, Jn, Kj, Yq, Kk, Kl, GR, GS, GT, Yr, Ys, Yt, Jo, Jp, decide_true, AV.bool.injEq, AV.int.injEq, Nat.reduceLeDiff, decide_eq_true_eq, decide_eq_false_iff_not, Int.toNat_natCast, List.length_map, decide_false, KH, noref, flatOk, Qb, wkM, Km, Kw, Kx, Ju, QM, Kv, Jv, Kt, Ku, Qn, QN, Classical.not_not, QaX, Qr, Qt, Qa, Yw, Ql, List.take_length, List.length_cons, List.length_nil, Nat.zero_add, Ko, Yx, Yy, YG, Pt.row, Qs, Aw.row, Qv, Blk.row, Qg, Sec.row, Qh, Rw.row, Qw, Sky.row, Qi, Jw, Jx, Qp, Qu, Jy, YK, QgJ, Nat.sub_zero]
  have m0 : List.replicate a.length [.int .i64 0, .int .i64 0, .int .i64 0, .int .i64 0, .int .i64 0, .int .i64 0] = (WB a 0).map Blk.row := by simp [WB, Blk.row]
  refine ⟨by omega, ?_⟩
  refine Yz (fun i : Nat => [(4, .int .i64 i)]) (fun i => [(107, .arr 99 0 6 ((WB a i).map Blk.row))]) (fun i => i ≤ a.length) (fun i => a.length - i) 0 (by simp only [YC, YD, YE, YF, Qc, Qd, Qe, Qf, reduceIte, Nat.reduceEqDiff]; exact ⟨by repeat' (first | exact trivial | refine ⟨.inr rfl, ?_⟩), ⟨congrArg (fun g => some (AObj.arr 99 0 6 g)) m0, trivial⟩, rfl, rfl⟩) (Nat.zero_le _) ?_
  intro i hi NX hN
  skip
  unfold UE; simp (config := { maxSteps := 2000000 }) only [JK, Gr, KO, KP, JL, QW, JM, JN, KQ, Gs, KR, KS, KT, KU, KV, KW, KX, KY, KZ, K1, K2, QX, QY, QZ, JO, JP, JQ, Q0, Q1, Q2, Q3, Q4, Q5, JR, JS, JT, JU, Jq, Jr, Kp, Yv, GU, JV, Qz, Qk, KN, QT, QU, JH, QV, JI, JJ, QS, Qy, JE, JF, KK, JG, KL, KM, Q8, Q9, Qc, Qd, QE, QF, Ja, Jb, QQ, QR, Qe, Qf, GD, GE, JZ, J0, K3, JW, JX, JY, Kb, Kc, Kd, QA, QB, QD, Gt, Gu, Gv, Gw, Q6, Q7, Gy, Gx, Gz, QG, J1, K4, J2, K5, K6, K7, K8, J3, Jc, K9, Jd, Je, Jf, Jg, Jh, QH, QI, Ji, J4, Jj, J5, J6, J7, GA, GB, Ya, Jk, Yb, QJ, KJ, J8, KF, GC, Jl, YF, YE, YD, Gk, List.length_take, Int.toNat_zero, List.drop_zero, YC, Ks, QL, Jt, GX, Yu, Kr, Kq, Js, Yc, J9, Yd, Ye, GF, Yf, Yg, GG, Yh, Ka, Yi, GH, Yj, Yk, GI, GJ, GK, Yl, eff, JB, QO, Ke, Ym, Kf, Kg, Kh, GL, GM, JD, JC, Jm, GN, GO, GP, Y7, pur, List.map, List.drop, List.take, List.length, List.foldl, List.append_eq, List.nil_append, List.cons_append, List.getD_cons_zero, List.getD_cons_succ, reduceIte, Nat.reduceEqDiff, Nat.reduceAdd, Nat.reduceLeDiff, true_and, and_true, Bool.not_true, Bool.not_false, Bool.and_true, Bool.true_and, Bool.and_self, reduceCtorEq, true_implies, false_implies, implies_true, decide_eq_true_eq, Option.map_some, Gm, fpX, SOp.xs, oX, refs, KE, dom, Gl, List.all_nil, List.all_cons, List.contains_cons, List.contains_nil, Nat.reduceBEq, Bool.or_false, Bool.false_or, List.append_nil, Bool.not_false, Bool.not_true, List.forall_mem_cons, fm0, List.set, Nat.reduceLT, Nat.reduceMod, ne_eq, not_false_eq_true, not_true_eq_false, GQ, Yn, Yo, Yp, Ki, Jn, Kj, Yq, Kk, Kl, GR, GS, GT, Yr, Ys, Yt, Jo, Jp, decide_true, AV.bool.injEq, AV.int.injEq, Nat.reduceLeDiff, decide_eq_true_eq, decide_eq_false_iff_not, Int.toNat_natCast, List.length_map, decide_false, KH, noref, flatOk, Qb, wkM, Km, Kw, Kx, Ju, QM, Kv, Jv, Kt, Ku, Qn, QN, Classical.not_not, QaX, Qr, Qt, Qa, Yw, Ql, List.take_length, List.length_cons, List.length_nil, Nat.zero_add, Ko, Yx, Yy, YG, Pt.row, Qs, Aw.row, Qv, Blk.row, Qg, Sec.row, Qh, Rw.row, Qw, Sky.row, Qi, Jw, Jx, Qp, Qu, Jy, YK, QgJ, Nat.sub_zero]
  refine ⟨fun h => ?_, fun h => ?_⟩
  · repeat' (first | with_reducible apply And.intro | with_reducible intro _)
    all_goals first
      | omega
      | rfl
      | exact hs2 (by omega)
      | (have e := Qig (a := a) (i := i) (by omega)
         try simp only [Blk.row] at *
         refine hN (i + 1) _ ⟨by repeat' (first | exact trivial | refine ⟨.inr rfl, ?_⟩), ⟨congrArg (fun g => some (AObj.arr 99 0 6 (List.map Blk.row g))) e, trivial⟩, rfl, rfl⟩ ?_ ?_ <;> omega)
  · have e : i = a.length := by omega
    subst e
    simp only [WB, List.take_length, Nat.sub_self, List.replicate_zero, List.append_nil]
    try rw [List.take_of_length_le (by simp)]
def Qec : List AV → Option (Prop × AV)
  | [.sl st 6 sx] => some ((((sx.map XV).map Blk.row = sx)) ∧ ((sx.map XV).length ≤ 1048576), .sl 0 6 ((sx.map XV).map Blk.row))
  | _ => none
theorem Qnx : ∀ args p v, Qec args = some (p, v) → p → Contract P 79 args [] v [] ∧ noref v = true ∧ No99 v := by
  intro args p v h1 h2
  unfold Qec at h1
  split at h1
  · rename_i st sx
    cases h1
    obtain ⟨e0, HP⟩ := h2
    have := Qnw st (sx.map XV) HP
    exact ⟨by simpa only [e0] using this, rfl, by simp [No99, Xl, Zs, QaN, G3, X4, Zt, Xr, XI, X5, Zu, -List.map_map]⟩
  · cases h1
theorem Qpt (c d : Blk)  : Contract P 95 [.agg (c.row), .agg (d.row)] [] (.bool (decide (c = d))) [] := by
  obtain ⟨c_x0, c_y0, c_x1, c_y1, c_lo, c_hi⟩ := c
  obtain ⟨d_x0, d_y0, d_x1, d_y1, d_lo, d_hi⟩ := d
  simp only [Blk.row]
  refine QP (Env.nil P) hm Qdl (Nat.le_of_ble_eq_true rfl) rfl ?_; unfold Wx; simp (config := { maxSteps := 2000000 }) only [JK, Gr, KO, KP, JL, QW, JM, JN, KQ, Gs, KR, KS, KT, KU, KV, KW, KX, KY, KZ, K1, K2, QX, QY, QZ, JO, JP, JQ, Q0, Q1, Q2, Q3, Q4, Q5, JR, JS, JT, JU, Jq, Jr, Kp, Yv, GU, JV, Qz, Qk, KN, QT, QU, JH, QV, JI, JJ, QS, Qy, JE, JF, KK, JG, KL, KM, Q8, Q9, Qc, Qd, QE, QF, Ja, Jb, QQ, QR, Qe, Qf, GD, GE, JZ, J0, K3, JW, JX, JY, Kb, Kc, Kd, QA, QB, QD, Gt, Gu, Gv, Gw, Q6, Q7, Gy, Gx, Gz, QG, J1, K4, J2, K5, K6, K7, K8, J3, Jc, K9, Jd, Je, Jf, Jg, Jh, QH, QI, Ji, J4, Jj, J5, J6, J7, GA, GB, Ya, Jk, Yb, QJ, KJ, J8, KF, GC, Jl, YF, YE, YD, Gk, List.length_take, Int.toNat_zero, List.drop_zero, YC, Ks, QL, Jt, GX, Yu, Kr, Kq, Js, Yc, J9, Yd, Ye, GF, Yf, Yg, GG, Yh, Ka, Yi, GH, Yj, Yk, GI, GJ, GK, Yl, eff, JB, QO, Ke, Ym, Kf, Kg, Kh, GL, GM, JD, JC, Jm, GN, GO, GP, Y7, pur, List.map, List.drop, List.take, List.length, List.foldl, List.append_eq, List.nil_append, List.cons_append, List.getD_cons_zero, List.getD_cons_succ, reduceIte, Nat.reduceEqDiff, Nat.reduceAdd, Nat.reduceLeDiff, true_and, and_true, Bool.not_true, Bool.not_false, Bool.and_true, Bool.true_and, Bool.and_self, reduceCtorEq, true_implies, false_implies, implies_true, decide_eq_true_eq, Option.map_some, Gm, fpX, SOp.xs, oX, refs, KE, dom, Gl, List.all_nil, List.all_cons, List.contains_cons, List.contains_nil, Nat.reduceBEq, Bool.or_false, Bool.false_or, List.append_nil, Bool.not_false, Bool.not_true, List.forall_mem_cons, fm0, List.set, Nat.reduceLT, Nat.reduceMod, ne_eq, not_false_eq_true, not_true_eq_false, GQ, Yn, Yo, Yp, Ki, Jn, Kj, Yq, Kk, Kl, GR, GS, GT, Yr, Ys, Yt, Jo, Jp, decide_true, AV.bool.injEq, AV.int.injEq, Nat.reduceLeDiff, decide_eq_true_eq, decide_eq_false_iff_not, Int.toNat_natCast, List.length_map, decide_false, KH, noref, flatOk, Qb, wkM, Km, Kw, Kx, Ju, QM, Kv, Jv, Kt, Ku, Qn, QN, Classical.not_not, Qr, Qt, Qa, Yw, Ql, List.take_length, List.length_cons, List.length_nil, Nat.zero_add, Ko, Yx, Yy, YG, Pt.row, Qs, Aw.row, Qv, Blk.row, Qg, Sec.row, Qh, Rw.row, Qw, Sky.row, Qi, Jw, Jx, Qp, Qu, Jy, YK]
  simp only [Blk.mk.injEq]
  repeat' (first | with_reducible apply And.intro | with_reducible intro _)
  all_goals first | omega | (simp_all; done) | grind
def Qfa : List AV → Option (Prop × AV)
  | [.agg [.int .i64 c_x0, .int .i64 c_y0, .int .i64 c_x1, .int .i64 c_y1, .int .i64 c_lo, .int .i64 c_hi], .agg [.int .i64 d_x0, .int .i64 d_y0, .int .i64 d_x1, .int .i64 d_y1, .int .i64 d_lo, .int .i64 d_hi]] => some ((True) ∧ (True), .bool (decide ((Blk.mk c_x0 c_y0 c_x1 c_y1 c_lo c_hi) = (Blk.mk d_x0 d_y0 d_x1 d_y1 d_lo d_hi))))
  | _ => none
theorem Qpu : ∀ args p v, Qfa args = some (p, v) → p → Contract P 95 args [] v [] ∧ noref v = true ∧ No99 v := by
  intro args p v h1 h2
  unfold Qfa at h1
  split at h1
  · rename_i c_x0 c_y0 c_x1 c_y1 c_lo c_hi d_x0 d_y0 d_x1 d_y1 d_lo d_hi
    cases h1
    obtain ⟨_, HP⟩ := h2
    have := Qpt (Blk.mk c_x0 c_y0 c_x1 c_y1 c_lo c_hi) (Blk.mk d_x0 d_y0 d_x1 d_y1 d_lo d_hi)
    exact ⟨by simpa only [Blk.row, Blk.row] using this, rfl, trivial⟩
  · cases h1
theorem Qny (t t' : Nat) (p q : List Blk) (hp : p.length ≤ 4611686018427387904) : Contract P 81 [.sl t 6 (p.map Blk.row), .sl t' 6 (q.map Blk.row)] [] (.bool (decide (p = q))) [] := by
  refine QP ((Env.nil P).add 95 Qfa Qpu) hm QcK (Nat.le_of_ble_eq_true rfl) rfl ?_; unfold VN; simp (config := { maxSteps := 2000000 }) only [JK, Gr, KO, KP, JL, QW, JM, JN, KQ, Gs, KR, KS, KT, KU, KV, KW, KX, KY, KZ, K1, K2, QX, QY, QZ, JO, JP, JQ, Q0, Q1, Q2, Q3, Q4, Q5, JR, JS, JT, JU, Jq, Jr, Kp, Yv, GU, JV, Qz, Qk, KN, QT, QU, JH, QV, JI, JJ, QS, Qy, JE, JF, KK, JG, KL, KM, Q8, Q9, Qc, Qd, QE, QF, Ja, Jb, QQ, QR, Qe, Qf, GD, GE, JZ, J0, K3, JW, JX, JY, Kb, Kc, Kd, QA, QB, QD, Gt, Gu, Gv, Gw, Q6, Q7, Gy, Gx, Gz, QG, J1, K4, J2, K5, K6, K7, K8, J3, Jc, K9, Jd, Je, Jf, Jg, Jh, QH, QI, Ji, J4, Jj, J5, J6, J7, GA, GB, Ya, Jk, Yb, QJ, KJ, J8, KF, GC, Jl, YF, YE, YD, Gk, List.length_take, Int.toNat_zero, List.drop_zero, YC, Ks, QL, Jt, GX, Yu, Kr, Kq, Js, Yc, J9, Yd, Ye, GF, Yf, Yg, GG, Yh, Ka, Yi, GH, Yj, Yk, GI, GJ, GK, Yl, eff, JB, QO, Ke, Ym, Kf, Kg, Kh, GL, GM, JD, JC, Jm, GN, GO, GP, Y7, pur, List.map, List.drop, List.take, List.length, List.foldl, List.append_eq, List.nil_append, List.cons_append, List.getD_cons_zero, List.getD_cons_succ, reduceIte, Nat.reduceEqDiff, Nat.reduceAdd, Nat.reduceLeDiff, true_and, and_true, Bool.not_true, Bool.not_false, Bool.and_true, Bool.true_and, Bool.and_self, reduceCtorEq, true_implies, false_implies, implies_true, decide_eq_true_eq, Option.map_some, Gm, fpX, SOp.xs, oX, refs, KE, dom, Gl, List.all_nil, List.all_cons, List.contains_cons, List.contains_nil, Nat.reduceBEq, Bool.or_false, Bool.false_or, List.append_nil, Bool.not_false, Bool.not_true, List.forall_mem_cons, fm0, List.set, Nat.reduceLT, Nat.reduceMod, ne_eq, not_false_eq_true, not_true_eq_false, GQ, Yn, Yo, Yp, Ki, Jn, Kj, Yq, Kk, Kl, GR, GS, GT, Yr, Ys, Yt, Jo, Jp, decide_true, AV.bool.injEq, AV.int.injEq, Nat.reduceLeDiff, decide_eq_true_eq, decide_eq_false_iff_not, Int.toNat_natCast, List.length_map, decide_false, KH, noref, flatOk, Qb, wkM, Km, Kw, Kx, Ju, QM, Kv, Jv, Kt, Ku, Qn, QN, Classical.not_not, Qfa, Qr, Qt, Qa, Yw, Ql, List.take_length, List.length_cons, List.length_nil, Nat.zero_add, Ko, Yx, Yy, YG, Pt.row, Qs, Aw.row, Qv, Blk.row, Qg, Sec.row, Qh, Rw.row, Qw, Sky.row, Qi, Jw, Jx, Qp, Qu, Jy, YK]
  refine ⟨fun h1 h => h1 (by rw [h]), fun h1 => ?_⟩
  refine Yz (fun i : Nat => [(5, .int .i64 i)]) (fun _ => []) (fun i => i ≤ p.length ∧ ∀ j, j < i → p.getD j default = q.getD j default) (fun i => p.length - i) (0) (by simp only [YC, YD, YE, YF, Qc, Qd, Qe, Qf, reduceIte, Nat.reduceEqDiff]; exact ⟨by repeat' (first | exact trivial | refine ⟨.inr rfl, ?_⟩), by repeat' (first | exact trivial | refine ⟨rfl, ?_⟩), by first | rfl | simp [closedB, Qx, Qo, Qb, dom, Qm, *], by first | rfl | simp [keepB, dom]⟩) ?_ ?_
  · exact ⟨Nat.zero_le _, by intro j hj; omega⟩
  intro i hi NX hN
  unfold UF; simp (config := { maxSteps := 2000000 }) only [JK, Gr, KO, KP, JL, QW, JM, JN, KQ, Gs, KR, KS, KT, KU, KV, KW, KX, KY, KZ, K1, K2, QX, QY, QZ, JO, JP, JQ, Q0, Q1, Q2, Q3, Q4, Q5, JR, JS, JT, JU, Jq, Jr, Kp, Yv, GU, JV, Qz, Qk, KN, QT, QU, JH, QV, JI, JJ, QS, Qy, JE, JF, KK, JG, KL, KM, Q8, Q9, Qc, Qd, QE, QF, Ja, Jb, QQ, QR, Qe, Qf, GD, GE, JZ, J0, K3, JW, JX, JY, Kb, Kc, Kd, QA, QB, QD, Gt, Gu, Gv, Gw, Q6, Q7, Gy, Gx, Gz, QG, J1, K4, J2, K5, K6, K7, K8, J3, Jc, K9, Jd, Je, Jf, Jg, Jh, QH, QI, Ji, J4, Jj, J5, J6, J7, GA, GB, Ya, Jk, Yb, QJ, KJ, J8, KF, GC, Jl, YF, YE, YD, Gk, List.length_take, Int.toNat_zero, List.drop_zero, YC, Ks, QL, Jt, GX, Yu, Kr, Kq, Js, Yc, J9, Yd, Ye, GF, Yf, Yg, GG, Yh, Ka, Yi, GH, Yj, Yk, GI, GJ, GK, Yl, eff, JB, QO, Ke, Ym, Kf, Kg, Kh, GL, GM, JD, JC, Jm, GN, GO, GP, Y7, pur, List.map, List.drop, List.take, List.length, List.foldl, List.append_eq, List.nil_append, List.cons_append, List.getD_cons_zero, List.getD_cons_succ, reduceIte, Nat.reduceEqDiff, Nat.reduceAdd, Nat.reduceLeDiff, true_and, and_true, Bool.not_true, Bool.not_false, Bool.and_true, Bool.true_and, Bool.and_self, reduceCtorEq, true_implies, false_implies, implies_true, decide_eq_true_eq, Option.map_some, Gm, fpX, SOp.xs, oX, refs, KE, dom, Gl, List.all_nil, List.all_cons, List.contains_cons, List.contains_nil, Nat.reduceBEq, Bool.or_false, Bool.false_or, List.append_nil, Bool.not_false, Bool.not_true, List.forall_mem_cons, fm0, List.set, Nat.reduceLT, Nat.reduceMod, ne_eq, not_false_eq_true, not_true_eq_false, GQ, Yn, Yo, Yp, Ki, Jn, Kj, Yq, Kk, Kl, GR, GS, GT, Yr, Ys, Yt, Jo, Jp, decide_true, AV.bool.injEq, AV.int.injEq, Nat.reduceLeDiff, decide_eq_true_eq, decide_eq_false_iff_not, Int.toNat_natCast, List.length_map, decide_false, KH, noref, flatOk, Qb, wkM, Km, Kw, Kx, Ju, QM, Kv, Jv, Kt, Ku, Qn, QN, Classical.not_not, Qfa, Qr, Qt, Qa, Yw, Ql, List.take_length, List.length_cons, List.length_nil, Nat.zero_add, Ko, Yx, Yy, YG, Pt.row, Qs, Aw.row, Qv, Blk.row, Qg, Sec.row, Qh, Rw.row, Qw, Sky.row, Qi, Jw, Jx, Qp, Qu, Jy, YK]
  skip
  repeat' (first | with_reducible apply And.intro | with_reducible intro _)
  all_goals first
    | omega
    | (refine hN (i + 1) _ (by simp only [YC, YD, YE, YF, Qc, Qd, Qe, Qf, reduceIte, Nat.reduceEqDiff]; exact ⟨by repeat' (first | exact trivial | refine ⟨.inr rfl, ?_⟩), by repeat' (first | exact trivial | refine ⟨rfl, ?_⟩), by first | rfl | simp [closedB, Qx, Qo, Qb, dom, Qm, *], by first | rfl | simp [keepB, dom]⟩) ?_ ?_
       · exact ⟨by omega, Gf hi.2 (by with_reducible assumption)⟩
       · omega)
    | (intro h; subst h; exact absurd rfl (by with_reducible assumption))
    | (exact Qbt (by omega) fun j hj => hi.2 j (by omega))
    | grind
def Qed : List AV → Option (Prop × AV)
  | [.sl ct 6 cx, .sl dt 6 dx] => some ((((cx.map XV).map Blk.row = cx) ∧ ((dx.map XV).map Blk.row = dx)) ∧ ((cx.map XV).length ≤ 4611686018427387904), .bool (decide ((cx.map XV) = (dx.map XV))))
  | _ => none
theorem Qnz : ∀ args p v, Qed args = some (p, v) → p → Contract P 81 args [] v [] ∧ noref v = true ∧ No99 v := by
  intro args p v h1 h2
  unfold Qed at h1
  split at h1
  · rename_i ct cx dt dx
    cases h1
    obtain ⟨⟨e0, e1⟩, HP⟩ := h2
    have := Qny ct dt (cx.map XV) (dx.map XV) HP
    exact ⟨by simpa only [e0, e1] using this, rfl, trivial⟩
  · cases h1
theorem QqU (s : Rw) : Contract P 47 [.agg (s.row)] [] (.agg (s.row)) [] := by
  simp only [Rw.row]
  refine QP (Env.nil P) hm Qcy (Nat.le_of_ble_eq_true rfl) rfl ?_; unfold VB; simp (config := { maxSteps := 2000000 }) only [JK, Gr, KO, KP, JL, QW, JM, JN, KQ, Gs, KR, KS, KT, KU, KV, KW, KX, KY, KZ, K1, K2, QX, QY, QZ, JO, JP, JQ, Q0, Q1, Q2, Q3, Q4, Q5, JR, JS, JT, JU, Jq, Jr, Kp, Yv, GU, JV, Qz, Qk, KN, QT, QU, JH, QV, JI, JJ, QS, Qy, JE, JF, KK, JG, KL, KM, Q8, Q9, Qc, Qd, QE, QF, Ja, Jb, QQ, QR, Qe, Qf, GD, GE, JZ, J0, K3, JW, JX, JY, Kb, Kc, Kd, QA, QB, QD, Gt, Gu, Gv, Gw, Q6, Q7, Gy, Gx, Gz, QG, J1, K4, J2, K5, K6, K7, K8, J3, Jc, K9, Jd, Je, Jf, Jg, Jh, QH, QI, Ji, J4, Jj, J5, J6, J7, GA, GB, Ya, Jk, Yb, QJ, KJ, J8, KF, GC, Jl, YF, YE, YD, Gk, List.length_take, Int.toNat_zero, List.drop_zero, YC, Ks, QL, Jt, GX, Yu, Kr, Kq, Js, Yc, J9, Yd, Ye, GF, Yf, Yg, GG, Yh, Ka, Yi, GH, Yj, Yk, GI, GJ, GK, Yl, eff, JB, QO, Ke, Ym, Kf, Kg, Kh, GL, GM, JD, JC, Jm, GN, GO, GP, Y7, pur, List.map, List.drop, List.take, List.length, List.foldl, List.append_eq, List.nil_append, List.cons_append, List.getD_cons_zero, List.getD_cons_succ, reduceIte, Nat.reduceEqDiff, Nat.reduceAdd, Nat.reduceLeDiff, true_and, and_true, Bool.not_true, Bool.not_false, Bool.and_true, Bool.true_and, Bool.and_self, reduceCtorEq, true_implies, false_implies, implies_true, decide_eq_true_eq, Option.map_some, Gm, fpX, SOp.xs, oX, refs, KE, dom, Gl, List.all_nil, List.all_cons, List.contains_cons, List.contains_nil, Nat.reduceBEq, Bool.or_false, Bool.false_or, List.append_nil, Bool.not_false, Bool.not_true, List.forall_mem_cons, fm0, List.set, Nat.reduceLT, Nat.reduceMod, ne_eq, not_false_eq_true, not_true_eq_false, GQ, Yn, Yo, Yp, Ki, Jn, Kj, Yq, Kk, Kl, GR, GS, GT, Yr, Ys, Yt, Jo, Jp, decide_true, AV.bool.injEq, AV.int.injEq, Nat.reduceLeDiff, decide_eq_true_eq, decide_eq_false_iff_not, Int.toNat_natCast, List.length_map, decide_false, KH, noref, flatOk, Qb, wkM, Km, Kw, Kx, Ju, QM, Kv, Jv, Kt, Ku, Qn, QN, Classical.not_not, Qr, Qt, Qa, Yw, Ql, List.take_length, List.length_cons, List.length_nil, Nat.zero_add, Ko, Yx, Yy, YG, Pt.row, Qs, Aw.row, Qv, Blk.row, Qg, Sec.row, Qh, Rw.row, Qw, Sky.row, Qi, Jw, Jx, Qp, Qu, Jy, YK]
  all_goals trivial
def QdK : List AV → Option (Prop × AV)
  | [.agg [.str s_nm, .int .i64 s_x, .int .i64 s_y, .int .i64 s_tn]] => some ((True) ∧ (True), .agg (Rw.row (Rw.mk s_nm s_x s_y s_tn)))
  | _ => none
theorem Qos : ∀ args p v, QdK args = some (p, v) → p → Contract P 47 args [] v [] ∧ noref v = true ∧ No99 v := by
  intro args p v h1 h2
  unfold QdK at h1
  split at h1
  · rename_i s_nm s_x s_y s_tn
    cases h1
    obtain ⟨_, HP⟩ := h2
    have := QqU (Rw.mk s_nm s_x s_y s_tn)
    exact ⟨by simpa only [Rw.row] using this, rfl, by simp [Rw.row, No99, Xl, Zs, QaN, G3, X4, Zt, Xr, XI, X5, Zu, -List.map_map]⟩
  · cases h1
theorem QjW {lst : List Rw} {idx : Nat} {vnm : ByteArray} {vx : Int} {vy : Int} {vtn : Int} : (lst.map Rw.row).set idx (YB ((lst.map Rw.row).getD idx []) 0 [.str vnm, .int .i64 vx, .int .i64 vy, .int .i64 vtn]) = (lst.set idx (Rw.mk vnm vx vy vtn)).map Rw.row :=
  G8 (α := Rw) (f := Rw.row) (fun s => (Rw.mk vnm vx vy vtn)) fun x => by simp [Rw.row, YB]
def Qdo (a : List Rw) (i : Nat) : List Rw := a.take i ++ List.replicate (a.length - i) ⟨⟨#[]⟩, 0, 0, 0⟩
theorem QjX {a : List Rw} {i : Nat} (h : i < a.length) : (Qdo a i).set i (a.getD i default) = Qdo a (i + 1) := by
  refine List.ext_getElem (by simp [Qdo]; omega) fun j h1 h2 => ?_
  by_cases e : j = i
  · subst e
    simp [Qdo, List.getElem_append, h]
    intro h9; omega
  · simp only [List.getElem_set_ne (Ne.symm e)]
    simp only [Qdo, List.getElem_append, List.length_take, List.getElem_take, List.getElem_replicate]
    split <;> split <;> first | rfl | omega
theorem Qpv (t : Nat) (a : List Rw) (ha : a.length ≤ 1048576) : Contract P 24 [.sl t 4 (a.map Rw.row)] [] (.sl 0 4 (a.map Rw.row)) [] := by
  refine QP ((Env.nil P).add 47 QdK Qos) hm QbN (Nat.le_of_ble_eq_true rfl) rfl ?_; unfold U6; simp (config := { maxSteps := 2000000 }) only [JK, Gr, KO, KP, JL, QW, JM, JN, KQ, Gs, KR, KS, KT, KU, KV, KW, KX, KY, KZ, K1, K2, QX, QY, QZ, JO, JP, JQ, Q0, Q1, Q2, Q3, Q4, Q5, JR, JS, JT, JU, Jq, Jr, Kp, Yv, GU, JV, Qz, Qk, KN, QT, QU, JH, QV, JI, JJ, QS, Qy, JE, JF, KK, JG, KL, KM, Q8, Q9, Qc, Qd, QE, QF, Ja, Jb, QQ, QR, Qe, Qf, GD, GE, JZ, J0, K3, JW, JX, JY, Kb, Kc, Kd, QA, QB, QD, Gt, Gu, Gv, Gw, Q6, Q7, Gy, Gx, Gz, QG, J1, K4, J2, K5, K6, K7, K8, J3, Jc, K9, Jd, Je, Jf, Jg, Jh, QH, QI, Ji, J4, Jj, J5, J6, J7, GA, GB, Ya, Jk, Yb, QJ, KJ, J8, KF, GC, Jl, YF, YE, YD, Gk, List.length_take, Int.toNat_zero, List.drop_zero, YC, Ks, QL, Jt, GX, Yu, Kr, Kq, Js, Yc, J9, Yd, Ye, GF, Yf, Yg, GG, Yh, Ka, Yi, GH, Yj, Yk, GI, GJ, GK, Yl, eff, JB, QO, Ke, Ym, Kf, Kg, Kh, GL, GM, JD, JC, Jm, GN, GO, GP, Y7, pur, List.map, List.drop, List.take, List.length, List.foldl, List.append_eq, List.nil_append, List.cons_append, List.getD_cons_zero, List.getD_cons_succ, reduceIte, Nat.reduceEqDiff, Nat.reduceAdd, Nat.reduceLeDiff, true_and, and_true, Bool.not_true, Bool.not_false, Bool.and_true, Bool.true_and, Bool.and_self, reduceCtorEq, true_implies, false_implies, implies_true, decide_eq_true_eq, Option.map_some, Gm, fpX, SOp.xs, oX, refs, KE, dom, Gl, List.all_nil, List.all_cons, List.contains_cons, List.contains_nil, Nat.reduceBEq, Bool.or_false, Bool.false_or, List.append_nil, Bool.not_false, Bool.not_true, List.forall_mem_cons, fm0, List.set, Nat.reduceLT, Nat.reduceMod, ne_eq, not_false_eq_true, not_true_eq_false, GQ, Yn, Yo, Yp, Ki, Jn, Kj, Yq, Kk, Kl, GR, GS, GT, Yr, Ys, Yt, Jo, Jp, decide_true, AV.bool.injEq, AV.int.injEq, Nat.reduceLeDiff, decide_eq_true_eq, decide_eq_false_iff_not, Int.toNat_natCast, List.length_map, decide_false, KH, noref, flatOk, Qb, wkM, Km, Kw, Kx, Ju, QM, Kv, Jv, Kt, Ku, Qn, QN, Classical.not_not, QdK, Qr, Qt, Qa, Yw, Ql, List.take_length, List.length_cons, List.length_nil, Nat.zero_add, Ko, Yx, Yy, YG, Pt.row, Qs, Aw.row, Qv, Blk.row, Qg, Sec.row, Qh, Rw.row, Qw, Sky.row, Qi, Jw, Jx, Qp, Qu, Jy, YK, QjW, Nat.sub_zero]
  have m0 : List.replicate a.length [.str ⟨#[]⟩, .int .i64 0, .int .i64 0, .int .i64 0] = (Qdo a 0).map Rw.row := by simp [Qdo, Rw.row]
  refine ⟨by omega, ?_⟩
  refine Yz (fun i : Nat => [(4, .int .i64 i)]) (fun i => [(107, .arr 90 0 4 ((Qdo a i).map Rw.row))]) (fun i => i ≤ a.length) (fun i => a.length - i) 0 (by simp only [YC, YD, YE, YF, Qc, Qd, Qe, Qf, reduceIte, Nat.reduceEqDiff]; exact ⟨by repeat' (first | exact trivial | refine ⟨.inr rfl, ?_⟩), ⟨congrArg (fun g => some (AObj.arr 90 0 4 g)) m0, trivial⟩, rfl, rfl⟩) (Nat.zero_le _) ?_
  intro i hi NX hN
  skip
  unfold Z5; simp (config := { maxSteps := 2000000 }) only [JK, Gr, KO, KP, JL, QW, JM, JN, KQ, Gs, KR, KS, KT, KU, KV, KW, KX, KY, KZ, K1, K2, QX, QY, QZ, JO, JP, JQ, Q0, Q1, Q2, Q3, Q4, Q5, JR, JS, JT, JU, Jq, Jr, Kp, Yv, GU, JV, Qz, Qk, KN, QT, QU, JH, QV, JI, JJ, QS, Qy, JE, JF, KK, JG, KL, KM, Q8, Q9, Qc, Qd, QE, QF, Ja, Jb, QQ, QR, Qe, Qf, GD, GE, JZ, J0, K3, JW, JX, JY, Kb, Kc, Kd, QA, QB, QD, Gt, Gu, Gv, Gw, Q6, Q7, Gy, Gx, Gz, QG, J1, K4, J2, K5, K6, K7, K8, J3, Jc, K9, Jd, Je, Jf, Jg, Jh, QH, QI, Ji, J4, Jj, J5, J6, J7, GA, GB, Ya, Jk, Yb, QJ, KJ, J8, KF, GC, Jl, YF, YE, YD, Gk, List.length_take, Int.toNat_zero, List.drop_zero, YC, Ks, QL, Jt, GX, Yu, Kr, Kq, Js, Yc, J9, Yd, Ye, GF, Yf, Yg, GG, Yh, Ka, Yi, GH, Yj, Yk, GI, GJ, GK, Yl, eff, JB, QO, Ke, Ym, Kf, Kg, Kh, GL, GM, JD, JC, Jm, GN, GO, GP, Y7, pur, List.map, List.drop, List.take, List.length, List.foldl, List.append_eq, List.nil_append, List.cons_append, List.getD_cons_zero, List.getD_cons_succ, reduceIte, Nat.reduceEqDiff, Nat.reduceAdd, Nat.reduceLeDiff, true_and, and_true, Bool.not_true, Bool.not_false, Bool.and_true, Bool.true_and, Bool.and_self, reduceCtorEq, true_implies, false_implies, implies_true, decide_eq_true_eq, Option.map_some, Gm, fpX, SOp.xs, oX, refs, KE, dom, Gl, List.all_nil, List.all_cons, List.contains_cons, List.contains_nil, Nat.reduceBEq, Bool.or_false, Bool.false_or, List.append_nil, Bool.not_false, Bool.not_true, List.forall_mem_cons, fm0, List.set, Nat.reduceLT, Nat.reduceMod, ne_eq, not_false_eq_true, not_true_eq_false, GQ, Yn, Yo, Yp, Ki, Jn, Kj, Yq, Kk, Kl, GR, GS, GT, Yr, Ys, Yt, Jo, Jp, decide_true, AV.bool.injEq, AV.int.injEq, Nat.reduceLeDiff, decide_eq_true_eq, decide_eq_false_iff_not, Int.toNat_natCast, List.length_map, decide_false, KH, noref, flatOk, Qb, wkM, Km, Kw, Kx, Ju, QM, Kv, Jv, Kt, Ku, Qn, QN, Classical.not_not, QdK, Qr, Qt, Qa, Yw, Ql, List.take_length, List.length_cons, List.length_nil, Nat.zero_add, Ko, Yx, Yy, YG, Pt.row, Qs, Aw.row, Qv, Blk.row, Qg, Sec.row, Qh, Rw.row, Qw, Sky.row, Qi, Jw, Jx, Qp, Qu, Jy, YK, QjW, Nat.sub_zero]
  refine ⟨fun h => ?_, fun h => ?_⟩
  · repeat' (first | with_reducible apply And.intro | with_reducible intro _)
    all_goals first
      | omega
      | rfl
      | exact hs2 (by omega)
      | (have e := QjX (a := a) (i := i) (by omega)
         try simp only [Rw.row] at *
         refine hN (i + 1) _ ⟨by repeat' (first | exact trivial | refine ⟨.inr rfl, ?_⟩), ⟨congrArg (fun g => some (AObj.arr 90 0 4 (List.map Rw.row g))) e, trivial⟩, rfl, rfl⟩ ?_ ?_ <;> omega)
  · have e : i = a.length := by omega
    subst e
    simp only [Qdo, List.take_length, Nat.sub_self, List.replicate_zero, List.append_nil]
    try rw [List.take_of_length_le (by simp)]
def QgK : List AV → Option (Prop × AV)
  | [.sl st 4 sx] => some ((((sx.map Y2).map Rw.row = sx)) ∧ ((sx.map Y2).length ≤ 1048576), .sl 0 4 ((sx.map Y2).map Rw.row))
  | _ => none
theorem Qpw : ∀ args p v, QgK args = some (p, v) → p → Contract P 24 args [] v [] ∧ noref v = true ∧ No99 v := by
  intro args p v h1 h2
  unfold QgK at h1
  split at h1
  · rename_i st sx
    cases h1
    obtain ⟨e0, HP⟩ := h2
    have := Qpv st (sx.map Y2) HP
    exact ⟨by simpa only [e0] using this, rfl, by simp [No99, Xl, Zs, QaN, G3, X4, Zt, Xr, XI, X5, Zu, -List.map_map]⟩
  · cases h1
theorem QqV (c d : Rw)  : Contract P 64 [.agg (c.row), .agg (d.row)] [] (.bool (decide (c = d))) [] := by
  obtain ⟨c_nm, c_x, c_y, c_tn⟩ := c
  obtain ⟨d_nm, d_x, d_y, d_tn⟩ := d
  simp only [Rw.row]
  refine QP (Env.nil P) hm QcE (Nat.le_of_ble_eq_true rfl) rfl ?_; unfold VF; simp (config := { maxSteps := 2000000 }) only [JK, Gr, KO, KP, JL, QW, JM, JN, KQ, Gs, KR, KS, KT, KU, KV, KW, KX, KY, KZ, K1, K2, QX, QY, QZ, JO, JP, JQ, Q0, Q1, Q2, Q3, Q4, Q5, JR, JS, JT, JU, Jq, Jr, Kp, Yv, GU, JV, Qz, Qk, KN, QT, QU, JH, QV, JI, JJ, QS, Qy, JE, JF, KK, JG, KL, KM, Q8, Q9, Qc, Qd, QE, QF, Ja, Jb, QQ, QR, Qe, Qf, GD, GE, JZ, J0, K3, JW, JX, JY, Kb, Kc, Kd, QA, QB, QD, Gt, Gu, Gv, Gw, Q6, Q7, Gy, Gx, Gz, QG, J1, K4, J2, K5, K6, K7, K8, J3, Jc, K9, Jd, Je, Jf, Jg, Jh, QH, QI, Ji, J4, Jj, J5, J6, J7, GA, GB, Ya, Jk, Yb, QJ, KJ, J8, KF, GC, Jl, YF, YE, YD, Gk, List.length_take, Int.toNat_zero, List.drop_zero, YC, Ks, QL, Jt, GX, Yu, Kr, Kq, Js, Yc, J9, Yd, Ye, GF, Yf, Yg, GG, Yh, Ka, Yi, GH, Yj, Yk, GI, GJ, GK, Yl, eff, JB, QO, Ke, Ym, Kf, Kg, Kh, GL, GM, JD, JC, Jm, GN, GO, GP, Y7, pur, List.map, List.drop, List.take, List.length, List.foldl, List.append_eq, List.nil_append, List.cons_append, List.getD_cons_zero, List.getD_cons_succ, reduceIte, Nat.reduceEqDiff, Nat.reduceAdd, Nat.reduceLeDiff, true_and, and_true, Bool.not_true, Bool.not_false, Bool.and_true, Bool.true_and, Bool.and_self, reduceCtorEq, true_implies, false_implies, implies_true, decide_eq_true_eq, Option.map_some, Gm, fpX, SOp.xs, oX, refs, KE, dom, Gl, List.all_nil, List.all_cons, List.contains_cons, List.contains_nil, Nat.reduceBEq, Bool.or_false, Bool.false_or, List.append_nil, Bool.not_false, Bool.not_true, List.forall_mem_cons, fm0, List.set, Nat.reduceLT, Nat.reduceMod, ne_eq, not_false_eq_true, not_true_eq_false, GQ, Yn, Yo, Yp, Ki, Jn, Kj, Yq, Kk, Kl, GR, GS, GT, Yr, Ys, Yt, Jo, Jp, decide_true, AV.bool.injEq, AV.int.injEq, Nat.reduceLeDiff, decide_eq_true_eq, decide_eq_false_iff_not, Int.toNat_natCast, List.length_map, decide_false, KH, noref, flatOk, Qb, wkM, Km, Kw, Kx, Ju, QM, Kv, Jv, Kt, Ku, Qn, QN, Classical.not_not, Qr, Qt, Qa, Yw, Ql, List.take_length, List.length_cons, List.length_nil, Nat.zero_add, Ko, Yx, Yy, YG, Pt.row, Qs, Aw.row, Qv, Blk.row, Qg, Sec.row, Qh, Rw.row, Qw, Sky.row, Qi, Jw, Jx, Qp, Qu, Jy, YK]
  simp only [Rw.mk.injEq]
  repeat' (first | with_reducible apply And.intro | with_reducible intro _)
  all_goals first | omega | (simp_all; done) | grind
def Qih : List AV → Option (Prop × AV)
  | [.agg [.str c_nm, .int .i64 c_x, .int .i64 c_y, .int .i64 c_tn], .agg [.str d_nm, .int .i64 d_x, .int .i64 d_y, .int .i64 d_tn]] => some ((True) ∧ (True), .bool (decide ((Rw.mk c_nm c_x c_y c_tn) = (Rw.mk d_nm d_x d_y d_tn))))
  | _ => none
theorem QqW : ∀ args p v, Qih args = some (p, v) → p → Contract P 64 args [] v [] ∧ noref v = true ∧ No99 v := by
  intro args p v h1 h2
  unfold Qih at h1
  split at h1
  · rename_i c_nm c_x c_y c_tn d_nm d_x d_y d_tn
    cases h1
    obtain ⟨_, HP⟩ := h2
    have := QqV (Rw.mk c_nm c_x c_y c_tn) (Rw.mk d_nm d_x d_y d_tn)
    exact ⟨by simpa only [Rw.row, Rw.row] using this, rfl, trivial⟩
  · cases h1
theorem Qpx (t t' : Nat) (p q : List Rw) (hp : p.length ≤ 4611686018427387904) : Contract P 31 [.sl t 4 (p.map Rw.row), .sl t' 4 (q.map Rw.row)] [] (.bool (decide (p = q))) [] := by
  refine QP ((Env.nil P).add 64 Qih QqW) hm QbQ (Nat.le_of_ble_eq_true rfl) rfl ?_; unfold U9; simp (config := { maxSteps := 2000000 }) only [JK, Gr, KO, KP, JL, QW, JM, JN, KQ, Gs, KR, KS, KT, KU, KV, KW, KX, KY, KZ, K1, K2, QX, QY, QZ, JO, JP, JQ, Q0, Q1, Q2, Q3, Q4, Q5, JR, JS, JT, JU, Jq, Jr, Kp, Yv, GU, JV, Qz, Qk, KN, QT, QU, JH, QV, JI, JJ, QS, Qy, JE, JF, KK, JG, KL, KM, Q8, Q9, Qc, Qd, QE, QF, Ja, Jb, QQ, QR, Qe, Qf, GD, GE, JZ, J0, K3, JW, JX, JY, Kb, Kc, Kd, QA, QB, QD, Gt, Gu, Gv, Gw, Q6, Q7, Gy, Gx, Gz, QG, J1, K4, J2, K5, K6, K7, K8, J3, Jc, K9, Jd, Je, Jf, Jg, Jh, QH, QI, Ji, J4, Jj, J5, J6, J7, GA, GB, Ya, Jk, Yb, QJ, KJ, J8, KF, GC, Jl, YF, YE, YD, Gk, List.length_take, Int.toNat_zero, List.drop_zero, YC, Ks, QL, Jt, GX, Yu, Kr, Kq, Js, Yc, J9, Yd, Ye, GF, Yf, Yg, GG, Yh, Ka, Yi, GH, Yj, Yk, GI, GJ, GK, Yl, eff, JB, QO, Ke, Ym, Kf, Kg, Kh, GL, GM, JD, JC, Jm, GN, GO, GP, Y7, pur, List.map, List.drop, List.take, List.length, List.foldl, List.append_eq, List.nil_append, List.cons_append, List.getD_cons_zero, List.getD_cons_succ, reduceIte, Nat.reduceEqDiff, Nat.reduceAdd, Nat.reduceLeDiff, true_and, and_true, Bool.not_true, Bool.not_false, Bool.and_true, Bool.true_and, Bool.and_self, reduceCtorEq, true_implies, false_implies, implies_true, decide_eq_true_eq, Option.map_some, Gm, fpX, SOp.xs, oX, refs, KE, dom, Gl, List.all_nil, List.all_cons, List.contains_cons, List.contains_nil, Nat.reduceBEq, Bool.or_false, Bool.false_or, List.append_nil, Bool.not_false, Bool.not_true, List.forall_mem_cons, fm0, List.set, Nat.reduceLT, Nat.reduceMod, ne_eq, not_false_eq_true, not_true_eq_false, GQ, Yn, Yo, Yp, Ki, Jn, Kj, Yq, Kk, Kl, GR, GS, GT, Yr, Ys, Yt, Jo, Jp, decide_true, AV.bool.injEq, AV.int.injEq, Nat.reduceLeDiff, decide_eq_true_eq, decide_eq_false_iff_not, Int.toNat_natCast, List.length_map, decide_false, KH, noref, flatOk, Qb, wkM, Km, Kw, Kx, Ju, QM, Kv, Jv, Kt, Ku, Qn, QN, Classical.not_not, Qih, Qr, Qt, Qa, Yw, Ql, List.take_length, List.length_cons, List.length_nil, Nat.zero_add, Ko, Yx, Yy, YG, Pt.row, Qs, Aw.row, Qv, Blk.row, Qg, Sec.row, Qh, Rw.row, Qw, Sky.row, Qi, Jw, Jx, Qp, Qu, Jy, YK]
  refine ⟨fun h1 h => h1 (by rw [h]), fun h1 => ?_⟩
  refine Yz (fun i : Nat => [(5, .int .i64 i)]) (fun _ => []) (fun i => i ≤ p.length ∧ ∀ j, j < i → p.getD j default = q.getD j default) (fun i => p.length - i) (0) (by simp only [YC, YD, YE, YF, Qc, Qd, Qe, Qf, reduceIte, Nat.reduceEqDiff]; exact ⟨by repeat' (first | exact trivial | refine ⟨.inr rfl, ?_⟩), by repeat' (first | exact trivial | refine ⟨rfl, ?_⟩), by first | rfl | simp [closedB, Qx, Qo, Qb, dom, Qm, *], by first | rfl | simp [keepB, dom]⟩) ?_ ?_
  · exact ⟨Nat.zero_le _, by intro j hj; omega⟩
  intro i hi NX hN
  unfold Z8; simp (config := { maxSteps := 2000000 }) only [JK, Gr, KO, KP, JL, QW, JM, JN, KQ, Gs, KR, KS, KT, KU, KV, KW, KX, KY, KZ, K1, K2, QX, QY, QZ, JO, JP, JQ, Q0, Q1, Q2, Q3, Q4, Q5, JR, JS, JT, JU, Jq, Jr, Kp, Yv, GU, JV, Qz, Qk, KN, QT, QU, JH, QV, JI, JJ, QS, Qy, JE, JF, KK, JG, KL, KM, Q8, Q9, Qc, Qd, QE, QF, Ja, Jb, QQ, QR, Qe, Qf, GD, GE, JZ, J0, K3, JW, JX, JY, Kb, Kc, Kd, QA, QB, QD, Gt, Gu, Gv, Gw, Q6, Q7, Gy, Gx, Gz, QG, J1, K4, J2, K5, K6, K7, K8, J3, Jc, K9, Jd, Je, Jf, Jg, Jh, QH, QI, Ji, J4, Jj, J5, J6, J7, GA, GB, Ya, Jk, Yb, QJ, KJ, J8, KF, GC, Jl, YF, YE, YD, Gk, List.length_take, Int.toNat_zero, List.drop_zero, YC, Ks, QL, Jt, GX, Yu, Kr, Kq, Js, Yc, J9, Yd, Ye, GF, Yf, Yg, GG, Yh, Ka, Yi, GH, Yj, Yk, GI, GJ, GK, Yl, eff, JB, QO, Ke, Ym, Kf, Kg, Kh, GL, GM, JD, JC, Jm, GN, GO, GP, Y7, pur, List.map, List.drop, List.take, List.length, List.foldl, List.append_eq, List.nil_append, List.cons_append, List.getD_cons_zero, List.getD_cons_succ, reduceIte, Nat.reduceEqDiff, Nat.reduceAdd, Nat.reduceLeDiff, true_and, and_true, Bool.not_true, Bool.not_false, Bool.and_true, Bool.true_and, Bool.and_self, reduceCtorEq, true_implies, false_implies, implies_true, decide_eq_true_eq, Option.map_some, Gm, fpX, SOp.xs, oX, refs, KE, dom, Gl, List.all_nil, List.all_cons, List.contains_cons, List.contains_nil, Nat.reduceBEq, Bool.or_false, Bool.false_or, List.append_nil, Bool.not_false, Bool.not_true, List.forall_mem_cons, fm0, List.set, Nat.reduceLT, Nat.reduceMod, ne_eq, not_false_eq_true, not_true_eq_false, GQ, Yn, Yo, Yp, Ki, Jn, Kj, Yq, Kk, Kl, GR, GS, GT, Yr, Ys, Yt, Jo, Jp, decide_true, AV.bool.injEq, AV.int.injEq, Nat.reduceLeDiff, decide_eq_true_eq, decide_eq_false_iff_not, Int.toNat_natCast, List.length_map, decide_false, KH, noref, flatOk, Qb, wkM, Km, Kw, Kx, Ju, QM, Kv, Jv, Kt, Ku, Qn, QN, Classical.not_not, Qih, Qr, Qt, Qa, Yw, Ql, List.take_length, List.length_cons, List.length_nil, Nat.zero_add, Ko, Yx, Yy, YG, Pt.row, Qs, Aw.row, Qv, Blk.row, Qg, Sec.row, Qh, Rw.row, Qw, Sky.row, Qi, Jw, Jx, Qp, Qu, Jy, YK]
  skip
  repeat' (first | with_reducible apply And.intro | with_reducible intro _)
  all_goals first
    | omega
    | (refine hN (i + 1) _ (by simp only [YC, YD, YE, YF, Qc, Qd, Qe, Qf, reduceIte, Nat.reduceEqDiff]; exact ⟨by repeat' (first | exact trivial | refine ⟨.inr rfl, ?_⟩), by repeat' (first | exact trivial | refine ⟨rfl, ?_⟩), by first | rfl | simp [closedB, Qx, Qo, Qb, dom, Qm, *], by first | rfl | simp [keepB, dom]⟩) ?_ ?_
       · exact ⟨by omega, Gf hi.2 (by with_reducible assumption)⟩
       · omega)
    | (intro h; subst h; exact absurd rfl (by with_reducible assumption))
    | (exact Qbt (by omega) fun j hj => hi.2 j (by omega))
    | grind
def QgL : List AV → Option (Prop × AV)
  | [.sl ct 4 cx, .sl dt 4 dx] => some ((((cx.map Y2).map Rw.row = cx) ∧ ((dx.map Y2).map Rw.row = dx)) ∧ ((cx.map Y2).length ≤ 4611686018427387904), .bool (decide ((cx.map Y2) = (dx.map Y2))))
  | _ => none
theorem Qpy : ∀ args p v, QgL args = some (p, v) → p → Contract P 31 args [] v [] ∧ noref v = true ∧ No99 v := by
  intro args p v h1 h2
  unfold QgL at h1
  split at h1
  · rename_i ct cx dt dx
    cases h1
    obtain ⟨⟨e0, e1⟩, HP⟩ := h2
    have := Qpx ct dt (cx.map Y2) (dx.map Y2) HP
    exact ⟨by simpa only [e0, e1] using this, rfl, trivial⟩
  · cases h1
theorem QqX (s : Aw) (hs : s.small) : Contract P 45 [.agg (s.row 1)] [] (.agg (s.row 0)) [] := by
  unfold Aw.small at hs
  simp only [Aw.row]
  refine QP ((Env.nil P).add 78 WY Qjc) hm Vz (Nat.le_of_ble_eq_true rfl) rfl ?_; unfold Zo; simp (config := { maxSteps := 2000000 }) only [JK, Gr, KO, KP, JL, QW, JM, JN, KQ, Gs, KR, KS, KT, KU, KV, KW, KX, KY, KZ, K1, K2, QX, QY, QZ, JO, JP, JQ, Q0, Q1, Q2, Q3, Q4, Q5, JR, JS, JT, JU, Jq, Jr, Kp, Yv, GU, JV, Qz, Qk, KN, QT, QU, JH, QV, JI, JJ, QS, Qy, JE, JF, KK, JG, KL, KM, Q8, Q9, Qc, Qd, QE, QF, Ja, Jb, QQ, QR, Qe, Qf, GD, GE, JZ, J0, K3, JW, JX, JY, Kb, Kc, Kd, QA, QB, QD, Gt, Gu, Gv, Gw, Q6, Q7, Gy, Gx, Gz, QG, J1, K4, J2, K5, K6, K7, K8, J3, Jc, K9, Jd, Je, Jf, Jg, Jh, QH, QI, Ji, J4, Jj, J5, J6, J7, GA, GB, Ya, Jk, Yb, QJ, KJ, J8, KF, GC, Jl, YF, YE, YD, Gk, List.length_take, Int.toNat_zero, List.drop_zero, YC, Ks, QL, Jt, GX, Yu, Kr, Kq, Js, Yc, J9, Yd, Ye, GF, Yf, Yg, GG, Yh, Ka, Yi, GH, Yj, Yk, GI, GJ, GK, Yl, eff, JB, QO, Ke, Ym, Kf, Kg, Kh, GL, GM, JD, JC, Jm, GN, GO, GP, Y7, pur, List.map, List.drop, List.take, List.length, List.foldl, List.append_eq, List.nil_append, List.cons_append, List.getD_cons_zero, List.getD_cons_succ, reduceIte, Nat.reduceEqDiff, Nat.reduceAdd, Nat.reduceLeDiff, true_and, and_true, Bool.not_true, Bool.not_false, Bool.and_true, Bool.true_and, Bool.and_self, reduceCtorEq, true_implies, false_implies, implies_true, decide_eq_true_eq, Option.map_some, Gm, fpX, SOp.xs, oX, refs, KE, dom, Gl, List.all_nil, List.all_cons, List.contains_cons, List.contains_nil, Nat.reduceBEq, Bool.or_false, Bool.false_or, List.append_nil, Bool.not_false, Bool.not_true, List.forall_mem_cons, fm0, List.set, Nat.reduceLT, Nat.reduceMod, ne_eq, not_false_eq_true, not_true_eq_false, GQ, Yn, Yo, Yp, Ki, Jn, Kj, Yq, Kk, Kl, GR, GS, GT, Yr, Ys, Yt, Jo, Jp, decide_true, AV.bool.injEq, AV.int.injEq, Nat.reduceLeDiff, decide_eq_true_eq, decide_eq_false_iff_not, Int.toNat_natCast, List.length_map, decide_false, KH, noref, flatOk, Qb, wkM, Km, Kw, Kx, Ju, QM, Kv, Jv, Kt, Ku, Qn, QN, Classical.not_not, WY, Qr, Qt, Qa, Yw, Ql, List.take_length, List.length_cons, List.length_nil, Nat.zero_add, Ko, Yx, Yy, YG, Pt.row, Qs, Aw.row, Qv, Blk.row, Qg, Sec.row, Qh, Rw.row, Qw, Sky.row, Qi, Jw, Jx, Qp, Qu, Jy, YK]
  repeat' (first | with_reducible apply And.intro | with_reducible intro _)
  all_goals first | omega | grind | grind [Aw.small, Sec.small, Sky.small]
def Qii : List AV → Option (Prop × AV)
  | [.agg [.str s_nm, .sl 1 1 s_pts]] => some ((((s_pts.map unS).map Ko = s_pts)) ∧ (Aw.small (Aw.mk s_nm (s_pts.map unS))), .agg (Aw.row 0 (Aw.mk s_nm (s_pts.map unS))))
  | _ => none
theorem QqY : ∀ args p v, Qii args = some (p, v) → p → Contract P 45 args [] v [] ∧ noref v = true ∧ No99 v := by
  intro args p v h1 h2
  unfold Qii at h1
  split at h1
  · rename_i s_nm s_pts
    cases h1
    obtain ⟨e0, HP⟩ := h2
    have := QqX (Aw.mk s_nm (s_pts.map unS)) HP
    exact ⟨by simpa only [e0, Aw.row] using this, rfl, by simp [Aw.row, No99, Xl, Zs, QaN, G3, X4, Zt, Xr, XI, X5, Zu, -List.map_map]⟩
  · cases h1
theorem Qot {lst : List Aw} {idx : Nat} {vnm : ByteArray} {vpts : List ByteArray} : (lst.map (Aw.row 0)).set idx (YB ((lst.map (Aw.row 0)).getD idx []) 0 [.str vnm, .sl 0 1 (vpts.map Ko)]) = (lst.set idx (Aw.mk vnm vpts)).map (Aw.row 0) :=
  G8 (α := Aw) (f := (Aw.row 0)) (fun s => (Aw.mk vnm vpts)) fun x => by simp [Aw.row, YB]
def QgM (a : List Aw) (i : Nat) : List Aw := a.take i ++ List.replicate (a.length - i) ⟨⟨#[]⟩, []⟩
theorem QnA {a : List Aw} {i : Nat} (h : i < a.length) : (QgM a i).set i (a.getD i default) = QgM a (i + 1) := by
  refine List.ext_getElem (by simp [QgM]; omega) fun j h1 h2 => ?_
  by_cases e : j = i
  · subst e
    simp [QgM, List.getElem_append, h]
    intro h9; omega
  · simp only [List.getElem_set_ne (Ne.symm e)]
    simp only [QgM, List.getElem_append, List.length_take, List.getElem_take, List.getElem_replicate]
    split <;> split <;> first | rfl | omega
theorem Qpz (t : Nat) (a : List Aw) (ha : a.length ≤ 1048576) (hs : ∀ x ∈ a, x.small) : Contract P 22 [.sl t 2 (a.map (Aw.row 1))] [] (.sl 0 2 (a.map (Aw.row 0))) [] := by
  refine QP ((Env.nil P).add 45 Qii QqY) hm QbL (Nat.le_of_ble_eq_true rfl) rfl ?_; unfold U4; simp (config := { maxSteps := 2000000 }) only [JK, Gr, KO, KP, JL, QW, JM, JN, KQ, Gs, KR, KS, KT, KU, KV, KW, KX, KY, KZ, K1, K2, QX, QY, QZ, JO, JP, JQ, Q0, Q1, Q2, Q3, Q4, Q5, JR, JS, JT, JU, Jq, Jr, Kp, Yv, GU, JV, Qz, Qk, KN, QT, QU, JH, QV, JI, JJ, QS, Qy, JE, JF, KK, JG, KL, KM, Q8, Q9, Qc, Qd, QE, QF, Ja, Jb, QQ, QR, Qe, Qf, GD, GE, JZ, J0, K3, JW, JX, JY, Kb, Kc, Kd, QA, QB, QD, Gt, Gu, Gv, Gw, Q6, Q7, Gy, Gx, Gz, QG, J1, K4, J2, K5, K6, K7, K8, J3, Jc, K9, Jd, Je, Jf, Jg, Jh, QH, QI, Ji, J4, Jj, J5, J6, J7, GA, GB, Ya, Jk, Yb, QJ, KJ, J8, KF, GC, Jl, YF, YE, YD, Gk, List.length_take, Int.toNat_zero, List.drop_zero, YC, Ks, QL, Jt, GX, Yu, Kr, Kq, Js, Yc, J9, Yd, Ye, GF, Yf, Yg, GG, Yh, Ka, Yi, GH, Yj, Yk, GI, GJ, GK, Yl, eff, JB, QO, Ke, Ym, Kf, Kg, Kh, GL, GM, JD, JC, Jm, GN, GO, GP, Y7, pur, List.map, List.drop, List.take, List.length, List.foldl, List.append_eq, List.nil_append, List.cons_append, List.getD_cons_zero, List.getD_cons_succ, reduceIte, Nat.reduceEqDiff, Nat.reduceAdd, Nat.reduceLeDiff, true_and, and_true, Bool.not_true, Bool.not_false, Bool.and_true, Bool.true_and, Bool.and_self, reduceCtorEq, true_implies, false_implies, implies_true, decide_eq_true_eq, Option.map_some, Gm, fpX, SOp.xs, oX, refs, KE, dom, Gl, List.all_nil, List.all_cons, List.contains_cons, List.contains_nil, Nat.reduceBEq, Bool.or_false, Bool.false_or, List.append_nil, Bool.not_false, Bool.not_true, List.forall_mem_cons, fm0, List.set, Nat.reduceLT, Nat.reduceMod, ne_eq, not_false_eq_true, not_true_eq_false, GQ, Yn, Yo, Yp, Ki, Jn, Kj, Yq, Kk, Kl, GR, GS, GT, Yr, Ys, Yt, Jo, Jp, decide_true, AV.bool.injEq, AV.int.injEq, Nat.reduceLeDiff, decide_eq_true_eq, decide_eq_false_iff_not, Int.toNat_natCast, List.length_map, decide_false, KH, noref, flatOk, Qb, wkM, Km, Kw, Kx, Ju, QM, Kv, Jv, Kt, Ku, Qn, QN, Classical.not_not, Qii, Qr, Qt, Qa, Yw, Ql, List.take_length, List.length_cons, List.length_nil, Nat.zero_add, Ko, Yx, Yy, YG, Pt.row, Qs, Aw.row, Qv, Blk.row, Qg, Sec.row, Qh, Rw.row, Qw, Sky.row, Qi, Jw, Jx, Qp, Qu, Jy, YK, Qot, Nat.sub_zero]
  have m0 : List.replicate a.length [.str ⟨#[]⟩, .sl 0 1 []] = (QgM a 0).map (Aw.row 0) := by simp [QgM, Aw.row]
  refine ⟨by omega, ?_⟩
  refine Yz (fun i : Nat => [(4, .int .i64 i)]) (fun i => [(107, .arr 84 0 2 ((QgM a i).map (Aw.row 0)))]) (fun i => i ≤ a.length) (fun i => a.length - i) 0 (by simp only [YC, YD, YE, YF, Qc, Qd, Qe, Qf, reduceIte, Nat.reduceEqDiff]; exact ⟨by repeat' (first | exact trivial | refine ⟨.inr rfl, ?_⟩), ⟨congrArg (fun g => some (AObj.arr 84 0 2 g)) m0, trivial⟩, rfl, rfl⟩) (Nat.zero_le _) ?_
  intro i hi NX hN
  have hs2 : i < a.length → (a.getD i default).small := fun h => hs _ (Gi h)
  unfold Z3; simp (config := { maxSteps := 2000000 }) only [JK, Gr, KO, KP, JL, QW, JM, JN, KQ, Gs, KR, KS, KT, KU, KV, KW, KX, KY, KZ, K1, K2, QX, QY, QZ, JO, JP, JQ, Q0, Q1, Q2, Q3, Q4, Q5, JR, JS, JT, JU, Jq, Jr, Kp, Yv, GU, JV, Qz, Qk, KN, QT, QU, JH, QV, JI, JJ, QS, Qy, JE, JF, KK, JG, KL, KM, Q8, Q9, Qc, Qd, QE, QF, Ja, Jb, QQ, QR, Qe, Qf, GD, GE, JZ, J0, K3, JW, JX, JY, Kb, Kc, Kd, QA, QB, QD, Gt, Gu, Gv, Gw, Q6, Q7, Gy, Gx, Gz, QG, J1, K4, J2, K5, K6, K7, K8, J3, Jc, K9, Jd, Je, Jf, Jg, Jh, QH, QI, Ji, J4, Jj, J5, J6, J7, GA, GB, Ya, Jk, Yb, QJ, KJ, J8, KF, GC, Jl, YF, YE, YD, Gk, List.length_take, Int.toNat_zero, List.drop_zero, YC, Ks, QL, Jt, GX, Yu, Kr, Kq, Js, Yc, J9, Yd, Ye, GF, Yf, Yg, GG, Yh, Ka, Yi, GH, Yj, Yk, GI, GJ, GK, Yl, eff, JB, QO, Ke, Ym, Kf, Kg, Kh, GL, GM, JD, JC, Jm, GN, GO, GP, Y7, pur, List.map, List.drop, List.take, List.length, List.foldl, List.append_eq, List.nil_append, List.cons_append, List.getD_cons_zero, List.getD_cons_succ, reduceIte, Nat.reduceEqDiff, Nat.reduceAdd, Nat.reduceLeDiff, true_and, and_true, Bool.not_true, Bool.not_false, Bool.and_true, Bool.true_and, Bool.and_self, reduceCtorEq, true_implies, false_implies, implies_true, decide_eq_true_eq, Option.map_some, Gm, fpX, SOp.xs, oX, refs, KE, dom, Gl, List.all_nil, List.all_cons, List.contains_cons, List.contains_nil, Nat.reduceBEq, Bool.or_false, Bool.false_or, List.append_nil, Bool.not_false, Bool.not_true, List.forall_mem_cons, fm0, List.set, Nat.reduceLT, Nat.reduceMod, ne_eq, not_false_eq_true, not_true_eq_false, GQ, Yn, Yo, Yp, Ki, Jn, Kj, Yq, Kk, Kl, GR, GS, GT, Yr, Ys, Yt, Jo, Jp, decide_true, AV.bool.injEq, AV.int.injEq, Nat.reduceLeDiff, decide_eq_true_eq, decide_eq_false_iff_not, Int.toNat_natCast, List.length_map, decide_false, KH, noref, flatOk, Qb, wkM, Km, Kw, Kx, Ju, QM, Kv, Jv, Kt, Ku, Qn, QN, Classical.not_not, Qii, Qr, Qt, Qa, Yw, Ql, List.take_length, List.length_cons, List.length_nil, Nat.zero_add, Ko, Yx, Yy, YG, Pt.row, Qs, Aw.row, Qv, Blk.row, Qg, Sec.row, Qh, Rw.row, Qw, Sky.row, Qi, Jw, Jx, Qp, Qu, Jy, YK, Qot, Nat.sub_zero]
  refine ⟨fun h => ?_, fun h => ?_⟩
  · repeat' (first | with_reducible apply And.intro | with_reducible intro _)
    all_goals first
      | omega
      | rfl
      | exact hs2 (by omega)
      | (have e := QnA (a := a) (i := i) (by omega)
         try simp only [Aw.row] at *
         refine hN (i + 1) _ ⟨by repeat' (first | exact trivial | refine ⟨.inr rfl, ?_⟩), ⟨congrArg (fun g => some (AObj.arr 84 0 2 (List.map (Aw.row 0) g))) e, trivial⟩, rfl, rfl⟩ ?_ ?_ <;> omega)
  · have e : i = a.length := by omega
    subst e
    simp only [QgM, List.take_length, Nat.sub_self, List.replicate_zero, List.append_nil]
    try rw [List.take_of_length_le (by simp)]
def QgN : List AV → Option (Prop × AV)
  | [.sl st 2 sx] => some ((((sx.map Y4).map (Aw.row 1) = sx)) ∧ ((sx.map Y4).length ≤ 1048576 ∧ ∀ x ∈ (sx.map Y4), x.small), .sl 0 2 ((sx.map Y4).map (Aw.row 0)))
  | _ => none
theorem QpA : ∀ args p v, QgN args = some (p, v) → p → Contract P 22 args [] v [] ∧ noref v = true ∧ No99 v := by
  intro args p v h1 h2
  unfold QgN at h1
  split at h1
  · rename_i st sx
    cases h1
    obtain ⟨e0, HP⟩ := h2
    have := Qpz st (sx.map Y4) HP.1 HP.2
    exact ⟨by simpa only [e0] using this, rfl, by simp [No99, Xl, Zs, QaN, G3, X4, Zt, Xr, XI, X5, Zu, -List.map_map]⟩
  · cases h1
theorem QqZ (c d : Aw) (hl : c.pts.length ≤ 4611686018427387904) : Contract P 62 [.agg (c.row 0), .agg (d.row 0)] [] (.bool (decide (c = d))) [] := by
  obtain ⟨c_nm, c_pts⟩ := c
  obtain ⟨d_nm, d_pts⟩ := d
  simp only [Aw.row]
  refine QP ((Env.nil P).add 12 YJ QbW) hm QcC (Nat.le_of_ble_eq_true rfl) rfl ?_; unfold VD; simp (config := { maxSteps := 2000000 }) only [JK, Gr, KO, KP, JL, QW, JM, JN, KQ, Gs, KR, KS, KT, KU, KV, KW, KX, KY, KZ, K1, K2, QX, QY, QZ, JO, JP, JQ, Q0, Q1, Q2, Q3, Q4, Q5, JR, JS, JT, JU, Jq, Jr, Kp, Yv, GU, JV, Qz, Qk, KN, QT, QU, JH, QV, JI, JJ, QS, Qy, JE, JF, KK, JG, KL, KM, Q8, Q9, Qc, Qd, QE, QF, Ja, Jb, QQ, QR, Qe, Qf, GD, GE, JZ, J0, K3, JW, JX, JY, Kb, Kc, Kd, QA, QB, QD, Gt, Gu, Gv, Gw, Q6, Q7, Gy, Gx, Gz, QG, J1, K4, J2, K5, K6, K7, K8, J3, Jc, K9, Jd, Je, Jf, Jg, Jh, QH, QI, Ji, J4, Jj, J5, J6, J7, GA, GB, Ya, Jk, Yb, QJ, KJ, J8, KF, GC, Jl, YF, YE, YD, Gk, List.length_take, Int.toNat_zero, List.drop_zero, YC, Ks, QL, Jt, GX, Yu, Kr, Kq, Js, Yc, J9, Yd, Ye, GF, Yf, Yg, GG, Yh, Ka, Yi, GH, Yj, Yk, GI, GJ, GK, Yl, eff, JB, QO, Ke, Ym, Kf, Kg, Kh, GL, GM, JD, JC, Jm, GN, GO, GP, Y7, pur, List.map, List.drop, List.take, List.length, List.foldl, List.append_eq, List.nil_append, List.cons_append, List.getD_cons_zero, List.getD_cons_succ, reduceIte, Nat.reduceEqDiff, Nat.reduceAdd, Nat.reduceLeDiff, true_and, and_true, Bool.not_true, Bool.not_false, Bool.and_true, Bool.true_and, Bool.and_self, reduceCtorEq, true_implies, false_implies, implies_true, decide_eq_true_eq, Option.map_some, Gm, fpX, SOp.xs, oX, refs, KE, dom, Gl, List.all_nil, List.all_cons, List.contains_cons, List.contains_nil, Nat.reduceBEq, Bool.or_false, Bool.false_or, List.append_nil, Bool.not_false, Bool.not_true, List.forall_mem_cons, fm0, List.set, Nat.reduceLT, Nat.reduceMod, ne_eq, not_false_eq_true, not_true_eq_false, GQ, Yn, Yo, Yp, Ki, Jn, Kj, Yq, Kk, Kl, GR, GS, GT, Yr, Ys, Yt, Jo, Jp, decide_true, AV.bool.injEq, AV.int.injEq, Nat.reduceLeDiff, decide_eq_true_eq, decide_eq_false_iff_not, Int.toNat_natCast, List.length_map, decide_false, KH, noref, flatOk, Qb, wkM, Km, Kw, Kx, Ju, QM, Kv, Jv, Kt, Ku, Qn, QN, Classical.not_not, YJ, Qr, Qt, Qa, Yw, Ql, List.take_length, List.length_cons, List.length_nil, Nat.zero_add, Ko, Yx, Yy, YG, Pt.row, Qs, Aw.row, Qv, Blk.row, Qg, Sec.row, Qh, Rw.row, Qw, Sky.row, Qi, Jw, Jx, Qp, Qu, Jy, YK]
  simp only [Aw.mk.injEq]
  repeat' (first | with_reducible apply And.intro | with_reducible intro _)
  all_goals first | omega | (simp_all; done) | grind | grind [Aw.small, Sec.small, Sky.small]
def Qij : List AV → Option (Prop × AV)
  | [.agg [.str c_nm, .sl 0 1 c_pts], .agg [.str d_nm, .sl 0 1 d_pts]] => some ((((c_pts.map unS).map Ko = c_pts) ∧ ((d_pts.map unS).map Ko = d_pts)) ∧ ((Aw.mk c_nm (c_pts.map unS)).pts.length ≤ 4611686018427387904), .bool (decide ((Aw.mk c_nm (c_pts.map unS)) = (Aw.mk d_nm (d_pts.map unS)))))
  | _ => none
theorem Qq0 : ∀ args p v, Qij args = some (p, v) → p → Contract P 62 args [] v [] ∧ noref v = true ∧ No99 v := by
  intro args p v h1 h2
  unfold Qij at h1
  split at h1
  · rename_i c_nm c_pts d_nm d_pts
    cases h1
    obtain ⟨⟨e0, e1⟩, HP⟩ := h2
    have := QqZ (Aw.mk c_nm (c_pts.map unS)) (Aw.mk d_nm (d_pts.map unS)) HP
    exact ⟨by simpa only [e0, e1, Aw.row, Aw.row] using this, rfl, trivial⟩
  · cases h1
theorem QpB (t t' : Nat) (p q : List Aw) (hp : p.length ≤ 4611686018427387904) (hx : ∀ x ∈ p, x.pts.length ≤ 4611686018427387904) : Contract P 29 [.sl t 2 (p.map (Aw.row 0)), .sl t' 2 (q.map (Aw.row 0))] [] (.bool (decide (p = q))) [] := by
  refine QP ((Env.nil P).add 62 Qij Qq0) hm QbO (Nat.le_of_ble_eq_true rfl) rfl ?_; unfold U7; simp (config := { maxSteps := 2000000 }) only [JK, Gr, KO, KP, JL, QW, JM, JN, KQ, Gs, KR, KS, KT, KU, KV, KW, KX, KY, KZ, K1, K2, QX, QY, QZ, JO, JP, JQ, Q0, Q1, Q2, Q3, Q4, Q5, JR, JS, JT, JU, Jq, Jr, Kp, Yv, GU, JV, Qz, Qk, KN, QT, QU, JH, QV, JI, JJ, QS, Qy, JE, JF, KK, JG, KL, KM, Q8, Q9, Qc, Qd, QE, QF, Ja, Jb, QQ, QR, Qe, Qf, GD, GE, JZ, J0, K3, JW, JX, JY, Kb, Kc, Kd, QA, QB, QD, Gt, Gu, Gv, Gw, Q6, Q7, Gy, Gx, Gz, QG, J1, K4, J2, K5, K6, K7, K8, J3, Jc, K9, Jd, Je, Jf, Jg, Jh, QH, QI, Ji, J4, Jj, J5, J6, J7, GA, GB, Ya, Jk, Yb, QJ, KJ, J8, KF, GC, Jl, YF, YE, YD, Gk, List.length_take, Int.toNat_zero, List.drop_zero, YC, Ks, QL, Jt, GX, Yu, Kr, Kq, Js, Yc, J9, Yd, Ye, GF, Yf, Yg, GG, Yh, Ka, Yi, GH, Yj, Yk, GI, GJ, GK, Yl, eff, JB, QO, Ke, Ym, Kf, Kg, Kh, GL, GM, JD, JC, Jm, GN, GO, GP, Y7, pur, List.map, List.drop, List.take, List.length, List.foldl, List.append_eq, List.nil_append, List.cons_append, List.getD_cons_zero, List.getD_cons_succ, reduceIte, Nat.reduceEqDiff, Nat.reduceAdd, Nat.reduceLeDiff, true_and, and_true, Bool.not_true, Bool.not_false, Bool.and_true, Bool.true_and, Bool.and_self, reduceCtorEq, true_implies, false_implies, implies_true, decide_eq_true_eq, Option.map_some, Gm, fpX, SOp.xs, oX, refs, KE, dom, Gl, List.all_nil, List.all_cons, List.contains_cons, List.contains_nil, Nat.reduceBEq, Bool.or_false, Bool.false_or, List.append_nil, Bool.not_false, Bool.not_true, List.forall_mem_cons, fm0, List.set, Nat.reduceLT, Nat.reduceMod, ne_eq, not_false_eq_true, not_true_eq_false, GQ, Yn, Yo, Yp, Ki, Jn, Kj, Yq, Kk, Kl, GR, GS, GT, Yr, Ys, Yt, Jo, Jp, decide_true, AV.bool.injEq, AV.int.injEq, Nat.reduceLeDiff, decide_eq_true_eq, decide_eq_false_iff_not, Int.toNat_natCast, List.length_map, decide_false, KH, noref, flatOk, Qb, wkM, Km, Kw, Kx, Ju, QM, Kv, Jv, Kt, Ku, Qn, QN, Classical.not_not, Qij, Qr, Qt, Qa, Yw, Ql, List.take_length, List.length_cons, List.length_nil, Nat.zero_add, Ko, Yx, Yy, YG, Pt.row, Qs, Aw.row, Qv, Blk.row, Qg, Sec.row, Qh, Rw.row, Qw, Sky.row, Qi, Jw, Jx, Qp, Qu, Jy, YK]
  refine ⟨fun h1 h => h1 (by rw [h]), fun h1 => ?_⟩
  refine Yz (fun i : Nat => [(5, .int .i64 i)]) (fun _ => []) (fun i => i ≤ p.length ∧ ∀ j, j < i → p.getD j default = q.getD j default) (fun i => p.length - i) (0) (by simp only [YC, YD, YE, YF, Qc, Qd, Qe, Qf, reduceIte, Nat.reduceEqDiff]; exact ⟨by repeat' (first | exact trivial | refine ⟨.inr rfl, ?_⟩), by repeat' (first | exact trivial | refine ⟨rfl, ?_⟩), by first | rfl | simp [closedB, Qx, Qo, Qb, dom, Qm, *], by first | rfl | simp [keepB, dom]⟩) ?_ ?_
  · exact ⟨Nat.zero_le _, by intro j hj; omega⟩
  intro i hi NX hN
  unfold Z6; simp (config := { maxSteps := 2000000 }) only [JK, Gr, KO, KP, JL, QW, JM, JN, KQ, Gs, KR, KS, KT, KU, KV, KW, KX, KY, KZ, K1, K2, QX, QY, QZ, JO, JP, JQ, Q0, Q1, Q2, Q3, Q4, Q5, JR, JS, JT, JU, Jq, Jr, Kp, Yv, GU, JV, Qz, Qk, KN, QT, QU, JH, QV, JI, JJ, QS, Qy, JE, JF, KK, JG, KL, KM, Q8, Q9, Qc, Qd, QE, QF, Ja, Jb, QQ, QR, Qe, Qf, GD, GE, JZ, J0, K3, JW, JX, JY, Kb, Kc, Kd, QA, QB, QD, Gt, Gu, Gv, Gw, Q6, Q7, Gy, Gx, Gz, QG, J1, K4, J2, K5, K6, K7, K8, J3, Jc, K9, Jd, Je, Jf, Jg, Jh, QH, QI, Ji, J4, Jj, J5, J6, J7, GA, GB, Ya, Jk, Yb, QJ, KJ, J8, KF, GC, Jl, YF, YE, YD, Gk, List.length_take, Int.toNat_zero, List.drop_zero, YC, Ks, QL, Jt, GX, Yu, Kr, Kq, Js, Yc, J9, Yd, Ye, GF, Yf, Yg, GG, Yh, Ka, Yi, GH, Yj, Yk, GI, GJ, GK, Yl, eff, JB, QO, Ke, Ym, Kf, Kg, Kh, GL, GM, JD, JC, Jm, GN, GO, GP, Y7, pur, List.map, List.drop, List.take, List.length, List.foldl, List.append_eq, List.nil_append, List.cons_append, List.getD_cons_zero, List.getD_cons_succ, reduceIte, Nat.reduceEqDiff, Nat.reduceAdd, Nat.reduceLeDiff, true_and, and_true, Bool.not_true, Bool.not_false, Bool.and_true, Bool.true_and, Bool.and_self, reduceCtorEq, true_implies, false_implies, implies_true, decide_eq_true_eq, Option.map_some, Gm, fpX, SOp.xs, oX, refs, KE, dom, Gl, List.all_nil, List.all_cons, List.contains_cons, List.contains_nil, Nat.reduceBEq, Bool.or_false, Bool.false_or, List.append_nil, Bool.not_false, Bool.not_true, List.forall_mem_cons, fm0, List.set, Nat.reduceLT, Nat.reduceMod, ne_eq, not_false_eq_true, not_true_eq_false, GQ, Yn, Yo, Yp, Ki, Jn, Kj, Yq, Kk, Kl, GR, GS, GT, Yr, Ys, Yt, Jo, Jp, decide_true, AV.bool.injEq, AV.int.injEq, Nat.reduceLeDiff, decide_eq_true_eq, decide_eq_false_iff_not, Int.toNat_natCast, List.length_map, decide_false, KH, noref, flatOk, Qb, wkM, Km, Kw, Kx, Ju, QM, Kv, Jv, Kt, Ku, Qn, QN, Classical.not_not, Qij, Qr, Qt, Qa, Yw, Ql, List.take_length, List.length_cons, List.length_nil, Nat.zero_add, Ko, Yx, Yy, YG, Pt.row, Qs, Aw.row, Qv, Blk.row, Qg, Sec.row, Qh, Rw.row, Qw, Sky.row, Qi, Jw, Jx, Qp, Qu, Jy, YK]
  have hx2 : i < p.length → _ := fun h => hx _ (Gi h)
  repeat' (first | with_reducible apply And.intro | with_reducible intro _)
  all_goals first
    | omega
    | (refine hN (i + 1) _ (by simp only [YC, YD, YE, YF, Qc, Qd, Qe, Qf, reduceIte, Nat.reduceEqDiff]; exact ⟨by repeat' (first | exact trivial | refine ⟨.inr rfl, ?_⟩), by repeat' (first | exact trivial | refine ⟨rfl, ?_⟩), by first | rfl | simp [closedB, Qx, Qo, Qb, dom, Qm, *], by first | rfl | simp [keepB, dom]⟩) ?_ ?_
       · exact ⟨by omega, Gf hi.2 (by with_reducible assumption)⟩
       · omega)
    | (intro h; subst h; exact absurd rfl (by with_reducible assumption))
    | (exact Qbt (by omega) fun j hj => hi.2 j (by omega))
    | grind
def QgO : List AV → Option (Prop × AV)
  | [.sl ct 2 cx, .sl dt 2 dx] => some ((((cx.map Y4).map (Aw.row 0) = cx) ∧ ((dx.map Y4).map (Aw.row 0) = dx)) ∧ ((cx.map Y4).length ≤ 4611686018427387904 ∧ ∀ x ∈ (cx.map Y4), x.pts.length ≤ 4611686018427387904), .bool (decide ((cx.map Y4) = (dx.map Y4))))
  | _ => none
theorem QpC : ∀ args p v, QgO args = some (p, v) → p → Contract P 29 args [] v [] ∧ noref v = true ∧ No99 v := by
  intro args p v h1 h2
  unfold QgO at h1
  split at h1
  · rename_i ct cx dt dx
    cases h1
    obtain ⟨⟨e0, e1⟩, HP⟩ := h2
    have := QpB ct dt (cx.map Y4) (dx.map Y4) HP.1 HP.2
    exact ⟨by simpa only [e0, e1] using this, rfl, trivial⟩
  · cases h1
theorem QpD (s : Sec) (hs : s.small) : Contract P 46 [.agg (s.row 1)] [] (.agg (s.row 0)) [] := by
  unfold Sec.small at hs
  simp only [Sec.row]
  refine QP ((Env.nil P).add 79 Qec Qnx) hm VA (Nat.le_of_ble_eq_true rfl) rfl ?_; unfold Zp; simp (config := { maxSteps := 2000000 }) only [JK, Gr, KO, KP, JL, QW, JM, JN, KQ, Gs, KR, KS, KT, KU, KV, KW, KX, KY, KZ, K1, K2, QX, QY, QZ, JO, JP, JQ, Q0, Q1, Q2, Q3, Q4, Q5, JR, JS, JT, JU, Jq, Jr, Kp, Yv, GU, JV, Qz, Qk, KN, QT, QU, JH, QV, JI, JJ, QS, Qy, JE, JF, KK, JG, KL, KM, Q8, Q9, Qc, Qd, QE, QF, Ja, Jb, QQ, QR, Qe, Qf, GD, GE, JZ, J0, K3, JW, JX, JY, Kb, Kc, Kd, QA, QB, QD, Gt, Gu, Gv, Gw, Q6, Q7, Gy, Gx, Gz, QG, J1, K4, J2, K5, K6, K7, K8, J3, Jc, K9, Jd, Je, Jf, Jg, Jh, QH, QI, Ji, J4, Jj, J5, J6, J7, GA, GB, Ya, Jk, Yb, QJ, KJ, J8, KF, GC, Jl, YF, YE, YD, Gk, List.length_take, Int.toNat_zero, List.drop_zero, YC, Ks, QL, Jt, GX, Yu, Kr, Kq, Js, Yc, J9, Yd, Ye, GF, Yf, Yg, GG, Yh, Ka, Yi, GH, Yj, Yk, GI, GJ, GK, Yl, eff, JB, QO, Ke, Ym, Kf, Kg, Kh, GL, GM, JD, JC, Jm, GN, GO, GP, Y7, pur, List.map, List.drop, List.take, List.length, List.foldl, List.append_eq, List.nil_append, List.cons_append, List.getD_cons_zero, List.getD_cons_succ, reduceIte, Nat.reduceEqDiff, Nat.reduceAdd, Nat.reduceLeDiff, true_and, and_true, Bool.not_true, Bool.not_false, Bool.and_true, Bool.true_and, Bool.and_self, reduceCtorEq, true_implies, false_implies, implies_true, decide_eq_true_eq, Option.map_some, Gm, fpX, SOp.xs, oX, refs, KE, dom, Gl, List.all_nil, List.all_cons, List.contains_cons, List.contains_nil, Nat.reduceBEq, Bool.or_false, Bool.false_or, List.append_nil, Bool.not_false, Bool.not_true, List.forall_mem_cons, fm0, List.set, Nat.reduceLT, Nat.reduceMod, ne_eq, not_false_eq_true, not_true_eq_false, GQ, Yn, Yo, Yp, Ki, Jn, Kj, Yq, Kk, Kl, GR, GS, GT, Yr, Ys, Yt, Jo, Jp, decide_true, AV.bool.injEq, AV.int.injEq, Nat.reduceLeDiff, decide_eq_true_eq, decide_eq_false_iff_not, Int.toNat_natCast, List.length_map, decide_false, KH, noref, flatOk, Qb, wkM, Km, Kw, Kx, Ju, QM, Kv, Jv, Kt, Ku, Qn, QN, Classical.not_not, Qec, Qr, Qt, Qa, Yw, Ql, List.take_length, List.length_cons, List.length_nil, Nat.zero_add, Ko, Yx, Yy, YG, Pt.row, Qs, Aw.row, Qv, Blk.row, Qg, Sec.row, Qh, Rw.row, Qw, Sky.row, Qi, Jw, Jx, Qp, Qu, Jy, YK]
  repeat' (first | with_reducible apply And.intro | with_reducible intro _)
  all_goals first | omega | grind | grind [Aw.small, Sec.small, Sky.small]
def Qfb : List AV → Option (Prop × AV)
  | [.agg [.str s_nm, .sl 1 6 s_bl]] => some ((((s_bl.map XV).map Blk.row = s_bl)) ∧ (Sec.small (Sec.mk s_nm (s_bl.map XV))), .agg (Sec.row 0 (Sec.mk s_nm (s_bl.map XV))))
  | _ => none
theorem QpE : ∀ args p v, Qfb args = some (p, v) → p → Contract P 46 args [] v [] ∧ noref v = true ∧ No99 v := by
  intro args p v h1 h2
  unfold Qfb at h1
  split at h1
  · rename_i s_nm s_bl
    cases h1
    obtain ⟨e0, HP⟩ := h2
    have := QpD (Sec.mk s_nm (s_bl.map XV)) HP
    exact ⟨by simpa only [e0, Sec.row] using this, rfl, by simp [Sec.row, No99, Xl, Zs, QaN, G3, X4, Zt, Xr, XI, X5, Zu, -List.map_map]⟩
  · cases h1
theorem Ql1 {lst : List Sec} {idx : Nat} {vnm : ByteArray} {vbl : List Blk} : (lst.map (Sec.row 0)).set idx (YB ((lst.map (Sec.row 0)).getD idx []) 0 [.str vnm, .sl 0 6 (vbl.map Blk.row)]) = (lst.set idx (Sec.mk vnm vbl)).map (Sec.row 0) :=
  G8 (α := Sec) (f := (Sec.row 0)) (fun s => (Sec.mk vnm vbl)) fun x => by simp [Sec.row, YB]
def QcW (a : List Sec) (i : Nat) : List Sec := a.take i ++ List.replicate (a.length - i) ⟨⟨#[]⟩, []⟩
theorem Ql2 {a : List Sec} {i : Nat} (h : i < a.length) : (QcW a i).set i (a.getD i default) = QcW a (i + 1) := by
  refine List.ext_getElem (by simp [QcW]; omega) fun j h1 h2 => ?_
  by_cases e : j = i
  · subst e
    simp [QcW, List.getElem_append, h]
    intro h9; omega
  · simp only [List.getElem_set_ne (Ne.symm e)]
    simp only [QcW, List.getElem_append, List.length_take, List.getElem_take, List.getElem_replicate]
    split <;> split <;> first | rfl | omega
theorem QnB (t : Nat) (a : List Sec) (ha : a.length ≤ 1048576) (hs : ∀ x ∈ a, x.small) : Contract P 23 [.sl t 2 (a.map (Sec.row 1))] [] (.sl 0 2 (a.map (Sec.row 0))) [] := by
  refine QP ((Env.nil P).add 46 Qfb QpE) hm QbM (Nat.le_of_ble_eq_true rfl) rfl ?_; unfold U5; simp (config := { maxSteps := 2000000 }) only [JK, Gr, KO, KP, JL, QW, JM, JN, KQ, Gs, KR, KS, KT, KU, KV, KW, KX, KY, KZ, K1, K2, QX, QY, QZ, JO, JP, JQ, Q0, Q1, Q2, Q3, Q4, Q5, JR, JS, JT, JU, Jq, Jr, Kp, Yv, GU, JV, Qz, Qk, KN, QT, QU, JH, QV, JI, JJ, QS, Qy, JE, JF, KK, JG, KL, KM, Q8, Q9, Qc, Qd, QE, QF, Ja, Jb, QQ, QR, Qe, Qf, GD, GE, JZ, J0, K3, JW, JX, JY, Kb, Kc, Kd, QA, QB, QD, Gt, Gu, Gv, Gw, Q6, Q7, Gy, Gx, Gz, QG, J1, K4, J2, K5, K6, K7, K8, J3, Jc, K9, Jd, Je, Jf, Jg, Jh, QH, QI, Ji, J4, Jj, J5, J6, J7, GA, GB, Ya, Jk, Yb, QJ, KJ, J8, KF, GC, Jl, YF, YE, YD, Gk, List.length_take, Int.toNat_zero, List.drop_zero, YC, Ks, QL, Jt, GX, Yu, Kr, Kq, Js, Yc, J9, Yd, Ye, GF, Yf, Yg, GG, Yh, Ka, Yi, GH, Yj, Yk, GI, GJ, GK, Yl, eff, JB, QO, Ke, Ym, Kf, Kg, Kh, GL, GM, JD, JC, Jm, GN, GO, GP, Y7, pur, List.map, List.drop, List.take, List.length, List.foldl, List.append_eq, List.nil_append, List.cons_append, List.getD_cons_zero, List.getD_cons_succ, reduceIte, Nat.reduceEqDiff, Nat.reduceAdd, Nat.reduceLeDiff, true_and, and_true, Bool.not_true, Bool.not_false, Bool.and_true, Bool.true_and, Bool.and_self, reduceCtorEq, true_implies, false_implies, implies_true, decide_eq_true_eq, Option.map_some, Gm, fpX, SOp.xs, oX, refs, KE, dom, Gl, List.all_nil, List.all_cons, List.contains_cons, List.contains_nil, Nat.reduceBEq, Bool.or_false, Bool.false_or, List.append_nil, Bool.not_false, Bool.not_true, List.forall_mem_cons, fm0, List.set, Nat.reduceLT, Nat.reduceMod, ne_eq, not_false_eq_true, not_true_eq_false, GQ, Yn, Yo, Yp, Ki, Jn, Kj, Yq, Kk, Kl, GR, GS, GT, Yr, Ys, Yt, Jo, Jp, decide_true, AV.bool.injEq, AV.int.injEq, Nat.reduceLeDiff, decide_eq_true_eq, decide_eq_false_iff_not, Int.toNat_natCast, List.length_map, decide_false, KH, noref, flatOk, Qb, wkM, Km, Kw, Kx, Ju, QM, Kv, Jv, Kt, Ku, Qn, QN, Classical.not_not, Qfb, Qr, Qt, Qa, Yw, Ql, List.take_length, List.length_cons, List.length_nil, Nat.zero_add, Ko, Yx, Yy, YG, Pt.row, Qs, Aw.row, Qv, Blk.row, Qg, Sec.row, Qh, Rw.row, Qw, Sky.row, Qi, Jw, Jx, Qp, Qu, Jy, YK, Ql1, Nat.sub_zero]
  have m0 : List.replicate a.length [.str ⟨#[]⟩, .sl 0 6 []] = (QcW a 0).map (Sec.row 0) := by simp [QcW, Sec.row]
  refine ⟨by omega, ?_⟩
  refine Yz (fun i : Nat => [(4, .int .i64 i)]) (fun i => [(107, .arr 88 0 2 ((QcW a i).map (Sec.row 0)))]) (fun i => i ≤ a.length) (fun i => a.length - i) 0 (by simp only [YC, YD, YE, YF, Qc, Qd, Qe, Qf, reduceIte, Nat.reduceEqDiff]; exact ⟨by repeat' (first | exact trivial | refine ⟨.inr rfl, ?_⟩), ⟨congrArg (fun g => some (AObj.arr 88 0 2 g)) m0, trivial⟩, rfl, rfl⟩) (Nat.zero_le _) ?_
  intro i hi NX hN
  have hs2 : i < a.length → (a.getD i default).small := fun h => hs _ (Gi h)
  unfold Z4; simp (config := { maxSteps := 2000000 }) only [JK, Gr, KO, KP, JL, QW, JM, JN, KQ, Gs, KR, KS, KT, KU, KV, KW, KX, KY, KZ, K1, K2, QX, QY, QZ, JO, JP, JQ, Q0, Q1, Q2, Q3, Q4, Q5, JR, JS, JT, JU, Jq, Jr, Kp, Yv, GU, JV, Qz, Qk, KN, QT, QU, JH, QV, JI, JJ, QS, Qy, JE, JF, KK, JG, KL, KM, Q8, Q9, Qc, Qd, QE, QF, Ja, Jb, QQ, QR, Qe, Qf, GD, GE, JZ, J0, K3, JW, JX, JY, Kb, Kc, Kd, QA, QB, QD, Gt, Gu, Gv, Gw, Q6, Q7, Gy, Gx, Gz, QG, J1, K4, J2, K5, K6, K7, K8, J3, Jc, K9, Jd, Je, Jf, Jg, Jh, QH, QI, Ji, J4, Jj, J5, J6, J7, GA, GB, Ya, Jk, Yb, QJ, KJ, J8, KF, GC, Jl, YF, YE, YD, Gk, List.length_take, Int.toNat_zero, List.drop_zero, YC, Ks, QL, Jt, GX, Yu, Kr, Kq, Js, Yc, J9, Yd, Ye, GF, Yf, Yg, GG, Yh, Ka, Yi, GH, Yj, Yk, GI, GJ, GK, Yl, eff, JB, QO, Ke, Ym, Kf, Kg, Kh, GL, GM, JD, JC, Jm, GN, GO, GP, Y7, pur, List.map, List.drop, List.take, List.length, List.foldl, List.append_eq, List.nil_append, List.cons_append, List.getD_cons_zero, List.getD_cons_succ, reduceIte, Nat.reduceEqDiff, Nat.reduceAdd, Nat.reduceLeDiff, true_and, and_true, Bool.not_true, Bool.not_false, Bool.and_true, Bool.true_and, Bool.and_self, reduceCtorEq, true_implies, false_implies, implies_true, decide_eq_true_eq, Option.map_some, Gm, fpX, SOp.xs, oX, refs, KE, dom, Gl, List.all_nil, List.all_cons, List.contains_cons, List.contains_nil, Nat.reduceBEq, Bool.or_false, Bool.false_or, List.append_nil, Bool.not_false, Bool.not_true, List.forall_mem_cons, fm0, List.set, Nat.reduceLT, Nat.reduceMod, ne_eq, not_false_eq_true, not_true_eq_false, GQ, Yn, Yo, Yp, Ki, Jn, Kj, Yq, Kk, Kl, GR, GS, GT, Yr, Ys, Yt, Jo, Jp, decide_true, AV.bool.injEq, AV.int.injEq, Nat.reduceLeDiff, decide_eq_true_eq, decide_eq_false_iff_not, Int.toNat_natCast, List.length_map, decide_false, KH, noref, flatOk, Qb, wkM, Km, Kw, Kx, Ju, QM, Kv, Jv, Kt, Ku, Qn, QN, Classical.not_not, Qfb, Qr, Qt, Qa, Yw, Ql, List.take_length, List.length_cons, List.length_nil, Nat.zero_add, Ko, Yx, Yy, YG, Pt.row, Qs, Aw.row, Qv, Blk.row, Qg, Sec.row, Qh, Rw.row, Qw, Sky.row, Qi, Jw, Jx, Qp, Qu, Jy, YK, Ql1, Nat.sub_zero]
  refine ⟨fun h => ?_, fun h => ?_⟩
  · repeat' (first | with_reducible apply And.intro | with_reducible intro _)
    all_goals first
      | omega
      | rfl
      | exact hs2 (by omega)
      | (have e := Ql2 (a := a) (i := i) (by omega)
         try simp only [Sec.row] at *
         refine hN (i + 1) _ ⟨by repeat' (first | exact trivial | refine ⟨.inr rfl, ?_⟩), ⟨congrArg (fun g => some (AObj.arr 88 0 2 (List.map (Sec.row 0) g))) e, trivial⟩, rfl, rfl⟩ ?_ ?_ <;> omega)
  · have e : i = a.length := by omega
    subst e
    simp only [QcW, List.take_length, Nat.sub_self, List.replicate_zero, List.append_nil]
    try rw [List.take_of_length_le (by simp)]
def Qee : List AV → Option (Prop × AV)
  | [.sl st 2 sx] => some ((((sx.map KC).map (Sec.row 1) = sx)) ∧ ((sx.map KC).length ≤ 1048576 ∧ ∀ x ∈ (sx.map KC), x.small), .sl 0 2 ((sx.map KC).map (Sec.row 0)))
  | _ => none
theorem QnC : ∀ args p v, Qee args = some (p, v) → p → Contract P 23 args [] v [] ∧ noref v = true ∧ No99 v := by
  intro args p v h1 h2
  unfold Qee at h1
  split at h1
  · rename_i st sx
    cases h1
    obtain ⟨e0, HP⟩ := h2
    have := QnB st (sx.map KC) HP.1 HP.2
    exact ⟨by simpa only [e0] using this, rfl, by simp [No99, Xl, Zs, QaN, G3, X4, Zt, Xr, XI, X5, Zu, -List.map_map]⟩
  · cases h1
theorem QpF (c d : Sec) (hl : c.bl.length ≤ 4611686018427387904) : Contract P 63 [.agg (c.row 0), .agg (d.row 0)] [] (.bool (decide (c = d))) [] := by
  obtain ⟨c_nm, c_bl⟩ := c
  obtain ⟨d_nm, d_bl⟩ := d
  simp only [Sec.row]
  refine QP ((Env.nil P).add 81 Qed Qnz) hm QcD (Nat.le_of_ble_eq_true rfl) rfl ?_; unfold VE; simp (config := { maxSteps := 2000000 }) only [JK, Gr, KO, KP, JL, QW, JM, JN, KQ, Gs, KR, KS, KT, KU, KV, KW, KX, KY, KZ, K1, K2, QX, QY, QZ, JO, JP, JQ, Q0, Q1, Q2, Q3, Q4, Q5, JR, JS, JT, JU, Jq, Jr, Kp, Yv, GU, JV, Qz, Qk, KN, QT, QU, JH, QV, JI, JJ, QS, Qy, JE, JF, KK, JG, KL, KM, Q8, Q9, Qc, Qd, QE, QF, Ja, Jb, QQ, QR, Qe, Qf, GD, GE, JZ, J0, K3, JW, JX, JY, Kb, Kc, Kd, QA, QB, QD, Gt, Gu, Gv, Gw, Q6, Q7, Gy, Gx, Gz, QG, J1, K4, J2, K5, K6, K7, K8, J3, Jc, K9, Jd, Je, Jf, Jg, Jh, QH, QI, Ji, J4, Jj, J5, J6, J7, GA, GB, Ya, Jk, Yb, QJ, KJ, J8, KF, GC, Jl, YF, YE, YD, Gk, List.length_take, Int.toNat_zero, List.drop_zero, YC, Ks, QL, Jt, GX, Yu, Kr, Kq, Js, Yc, J9, Yd, Ye, GF, Yf, Yg, GG, Yh, Ka, Yi, GH, Yj, Yk, GI, GJ, GK, Yl, eff, JB, QO, Ke, Ym, Kf, Kg, Kh, GL, GM, JD, JC, Jm, GN, GO, GP, Y7, pur, List.map, List.drop, List.take, List.length, List.foldl, List.append_eq, List.nil_append, List.cons_append, List.getD_cons_zero, List.getD_cons_succ, reduceIte, Nat.reduceEqDiff, Nat.reduceAdd, Nat.reduceLeDiff, true_and, and_true, Bool.not_true, Bool.not_false, Bool.and_true, Bool.true_and, Bool.and_self, reduceCtorEq, true_implies, false_implies, implies_true, decide_eq_true_eq, Option.map_some, Gm, fpX, SOp.xs, oX, refs, KE, dom, Gl, List.all_nil, List.all_cons, List.contains_cons, List.contains_nil, Nat.reduceBEq, Bool.or_false, Bool.false_or, List.append_nil, Bool.not_false, Bool.not_true, List.forall_mem_cons, fm0, List.set, Nat.reduceLT, Nat.reduceMod, ne_eq, not_false_eq_true, not_true_eq_false, GQ, Yn, Yo, Yp, Ki, Jn, Kj, Yq, Kk, Kl, GR, GS, GT, Yr, Ys, Yt, Jo, Jp, decide_true, AV.bool.injEq, AV.int.injEq, Nat.reduceLeDiff, decide_eq_true_eq, decide_eq_false_iff_not, Int.toNat_natCast, List.length_map, decide_false, KH, noref, flatOk, Qb, wkM, Km, Kw, Kx, Ju, QM, Kv, Jv, Kt, Ku, Qn, QN, Classical.not_not, Qed, Qr, Qt, Qa, Yw, Ql, List.take_length, List.length_cons, List.length_nil, Nat.zero_add, Ko, Yx, Yy, YG, Pt.row, Qs, Aw.row, Qv, Blk.row, Qg, Sec.row, Qh, Rw.row, Qw, Sky.row, Qi, Jw, Jx, Qp, Qu, Jy, YK]
  simp only [Sec.mk.injEq]
  repeat' (first | with_reducible apply And.intro | with_reducible intro _)
  all_goals first | omega | (simp_all; done) | grind | grind [Aw.small, Sec.small, Sky.small]
def Qfc : List AV → Option (Prop × AV)
  | [.agg [.str c_nm, .sl 0 6 c_bl], .agg [.str d_nm, .sl 0 6 d_bl]] => some ((((c_bl.map XV).map Blk.row = c_bl) ∧ ((d_bl.map XV).map Blk.row = d_bl)) ∧ ((Sec.mk c_nm (c_bl.map XV)).bl.length ≤ 4611686018427387904), .bool (decide ((Sec.mk c_nm (c_bl.map XV)) = (Sec.mk d_nm (d_bl.map XV)))))
  | _ => none
theorem QpG : ∀ args p v, Qfc args = some (p, v) → p → Contract P 63 args [] v [] ∧ noref v = true ∧ No99 v := by
  intro args p v h1 h2
  unfold Qfc at h1
  split at h1
  · rename_i c_nm c_bl d_nm d_bl
    cases h1
    obtain ⟨⟨e0, e1⟩, HP⟩ := h2
    have := QpF (Sec.mk c_nm (c_bl.map XV)) (Sec.mk d_nm (d_bl.map XV)) HP
    exact ⟨by simpa only [e0, e1, Sec.row, Sec.row] using this, rfl, trivial⟩
  · cases h1
theorem QnD (t t' : Nat) (p q : List Sec) (hp : p.length ≤ 4611686018427387904) (hx : ∀ x ∈ p, x.bl.length ≤ 4611686018427387904) : Contract P 30 [.sl t 2 (p.map (Sec.row 0)), .sl t' 2 (q.map (Sec.row 0))] [] (.bool (decide (p = q))) [] := by
  refine QP ((Env.nil P).add 63 Qfc QpG) hm QbP (Nat.le_of_ble_eq_true rfl) rfl ?_; unfold U8; simp (config := { maxSteps := 2000000 }) only [JK, Gr, KO, KP, JL, QW, JM, JN, KQ, Gs, KR, KS, KT, KU, KV, KW, KX, KY, KZ, K1, K2, QX, QY, QZ, JO, JP, JQ, Q0, Q1, Q2, Q3, Q4, Q5, JR, JS, JT, JU, Jq, Jr, Kp, Yv, GU, JV, Qz, Qk, KN, QT, QU, JH, QV, JI, JJ, QS, Qy, JE, JF, KK, JG, KL, KM, Q8, Q9, Qc, Qd, QE, QF, Ja, Jb, QQ, QR, Qe, Qf, GD, GE, JZ, J0, K3, JW, JX, JY, Kb, Kc, Kd, QA, QB, QD, Gt, Gu, Gv, Gw, Q6, Q7, Gy, Gx, Gz, QG, J1, K4, J2, K5, K6, K7, K8, J3, Jc, K9, Jd, Je, Jf, Jg, Jh, QH, QI, Ji, J4, Jj, J5, J6, J7, GA, GB, Ya, Jk, Yb, QJ, KJ, J8, KF, GC, Jl, YF, YE, YD, Gk, List.length_take, Int.toNat_zero, List.drop_zero, YC, Ks, QL, Jt, GX, Yu, Kr, Kq, Js, Yc, J9, Yd, Ye, GF, Yf, Yg, GG, Yh, Ka, Yi, GH, Yj, Yk, GI, GJ, GK, Yl, eff, JB, QO, Ke, Ym, Kf, Kg, Kh, GL, GM, JD, JC, Jm, GN, GO, GP, Y7, pur, List.map, List.drop, List.take, List.length, List.foldl, List.append_eq, List.nil_append, List.cons_append, List.getD_cons_zero, List.getD_cons_succ, reduceIte, Nat.reduceEqDiff, Nat.reduceAdd, Nat.reduceLeDiff, true_and, and_true, Bool.not_true, Bool.not_false, Bool.and_true, Bool.true_and, Bool.and_self, reduceCtorEq, true_implies, false_implies, implies_true, decide_eq_true_eq, Option.map_some, Gm, fpX, SOp.xs, oX, refs, KE, dom, Gl, List.all_nil, List.all_cons, List.contains_cons, List.contains_nil, Nat.reduceBEq, Bool.or_false, Bool.false_or, List.append_nil, Bool.not_false, Bool.not_true, List.forall_mem_cons, fm0, List.set, Nat.reduceLT, Nat.reduceMod, ne_eq, not_false_eq_true, not_true_eq_false, GQ, Yn, Yo, Yp, Ki, Jn, Kj, Yq, Kk, Kl, GR, GS, GT, Yr, Ys, Yt, Jo, Jp, decide_true, AV.bool.injEq, AV.int.injEq, Nat.reduceLeDiff, decide_eq_true_eq, decide_eq_false_iff_not, Int.toNat_natCast, List.length_map, decide_false, KH, noref, flatOk, Qb, wkM, Km, Kw, Kx, Ju, QM, Kv, Jv, Kt, Ku, Qn, QN, Classical.not_not, Qfc, Qr, Qt, Qa, Yw, Ql, List.take_length, List.length_cons, List.length_nil, Nat.zero_add, Ko, Yx, Yy, YG, Pt.row, Qs, Aw.row, Qv, Blk.row, Qg, Sec.row, Qh, Rw.row, Qw, Sky.row, Qi, Jw, Jx, Qp, Qu, Jy, YK]
  refine ⟨fun h1 h => h1 (by rw [h]), fun h1 => ?_⟩
  refine Yz (fun i : Nat => [(5, .int .i64 i)]) (fun _ => []) (fun i => i ≤ p.length ∧ ∀ j, j < i → p.getD j default = q.getD j default) (fun i => p.length - i) (0) (by simp only [YC, YD, YE, YF, Qc, Qd, Qe, Qf, reduceIte, Nat.reduceEqDiff]; exact ⟨by repeat' (first | exact trivial | refine ⟨.inr rfl, ?_⟩), by repeat' (first | exact trivial | refine ⟨rfl, ?_⟩), by first | rfl | simp [closedB, Qx, Qo, Qb, dom, Qm, *], by first | rfl | simp [keepB, dom]⟩) ?_ ?_
  · exact ⟨Nat.zero_le _, by intro j hj; omega⟩
  intro i hi NX hN
  unfold Z7; simp (config := { maxSteps := 2000000 }) only [JK, Gr, KO, KP, JL, QW, JM, JN, KQ, Gs, KR, KS, KT, KU, KV, KW, KX, KY, KZ, K1, K2, QX, QY, QZ, JO, JP, JQ, Q0, Q1, Q2, Q3, Q4, Q5, JR, JS, JT, JU, Jq, Jr, Kp, Yv, GU, JV, Qz, Qk, KN, QT, QU, JH, QV, JI, JJ, QS, Qy, JE, JF, KK, JG, KL, KM, Q8, Q9, Qc, Qd, QE, QF, Ja, Jb, QQ, QR, Qe, Qf, GD, GE, JZ, J0, K3, JW, JX, JY, Kb, Kc, Kd, QA, QB, QD, Gt, Gu, Gv, Gw, Q6, Q7, Gy, Gx, Gz, QG, J1, K4, J2, K5, K6, K7, K8, J3, Jc, K9, Jd, Je, Jf, Jg, Jh, QH, QI, Ji, J4, Jj, J5, J6, J7, GA, GB, Ya, Jk, Yb, QJ, KJ, J8, KF, GC, Jl, YF, YE, YD, Gk, List.length_take, Int.toNat_zero, List.drop_zero, YC, Ks, QL, Jt, GX, Yu, Kr, Kq, Js, Yc, J9, Yd, Ye, GF, Yf, Yg, GG, Yh, Ka, Yi, GH, Yj, Yk, GI, GJ, GK, Yl, eff, JB, QO, Ke, Ym, Kf, Kg, Kh, GL, GM, JD, JC, Jm, GN, GO, GP, Y7, pur, List.map, List.drop, List.take, List.length, List.foldl, List.append_eq, List.nil_append, List.cons_append, List.getD_cons_zero, List.getD_cons_succ, reduceIte, Nat.reduceEqDiff, Nat.reduceAdd, Nat.reduceLeDiff, true_and, and_true, Bool.not_true, Bool.not_false, Bool.and_true, Bool.true_and, Bool.and_self, reduceCtorEq, true_implies, false_implies, implies_true, decide_eq_true_eq, Option.map_some, Gm, fpX, SOp.xs, oX, refs, KE, dom, Gl, List.all_nil, List.all_cons, List.contains_cons, List.contains_nil, Nat.reduceBEq, Bool.or_false, Bool.false_or, List.append_nil, Bool.not_false, Bool.not_true, List.forall_mem_cons, fm0, List.set, Nat.reduceLT, Nat.reduceMod, ne_eq, not_false_eq_true, not_true_eq_false, GQ, Yn, Yo, Yp, Ki, Jn, Kj, Yq, Kk, Kl, GR, GS, GT, Yr, Ys, Yt, Jo, Jp, decide_true, AV.bool.injEq, AV.int.injEq, Nat.reduceLeDiff, decide_eq_true_eq, decide_eq_false_iff_not, Int.toNat_natCast, List.length_map, decide_false, KH, noref, flatOk, Qb, wkM, Km, Kw, Kx, Ju, QM, Kv, Jv, Kt, Ku, Qn, QN, Classical.not_not, Qfc, Qr, Qt, Qa, Yw, Ql, List.take_length, List.length_cons, List.length_nil, Nat.zero_add, Ko, Yx, Yy, YG, Pt.row, Qs, Aw.row, Qv, Blk.row, Qg, Sec.row, Qh, Rw.row, Qw, Sky.row, Qi, Jw, Jx, Qp, Qu, Jy, YK]
  have hx2 : i < p.length → _ := fun h => hx _ (Gi h)
  repeat' (first | with_reducible apply And.intro | with_reducible intro _)
  all_goals first
    | omega
    | (refine hN (i + 1) _ (by simp only [YC, YD, YE, YF, Qc, Qd, Qe, Qf, reduceIte, Nat.reduceEqDiff]; exact ⟨by repeat' (first | exact trivial | refine ⟨.inr rfl, ?_⟩), by repeat' (first | exact trivial | refine ⟨rfl, ?_⟩), by first | rfl | simp [closedB, Qx, Qo, Qb, dom, Qm, *], by first | rfl | simp [keepB, dom]⟩) ?_ ?_
       · exact ⟨by omega, Gf hi.2 (by with_reducible assumption)⟩
       · omega)
    | (intro h; subst h; exact absurd rfl (by with_reducible assumption))
    | (exact Qbt (by omega) fun j hj => hi.2 j (by omega))
    | grind
def Qef : List AV → Option (Prop × AV)
  | [.sl ct 2 cx, .sl dt 2 dx] => some ((((cx.map KC).map (Sec.row 0) = cx) ∧ ((dx.map KC).map (Sec.row 0) = dx)) ∧ ((cx.map KC).length ≤ 4611686018427387904 ∧ ∀ x ∈ (cx.map KC), x.bl.length ≤ 4611686018427387904), .bool (decide ((cx.map KC) = (dx.map KC))))
  | _ => none
theorem QnE : ∀ args p v, Qef args = some (p, v) → p → Contract P 30 args [] v [] ∧ noref v = true ∧ No99 v := by
  intro args p v h1 h2
  unfold Qef at h1
  split at h1
  · rename_i ct cx dt dx
    cases h1
    obtain ⟨⟨e0, e1⟩, HP⟩ := h2
    have := QnD ct dt (cx.map KC) (dx.map KC) HP.1 HP.2
    exact ⟨by simpa only [e0, e1] using this, rfl, trivial⟩
  · cases h1
theorem Ql3 (s : Sky) (hs : s.small) : Contract P 7 [.agg (s.row 1)] [] (.agg (s.row 0)) [] := by
  unfold Sky.small at hs
  simp only [Sky.row]
  refine QP (((((Env.nil P).add 22 QgN QpA).add 21 QgH Qpp).add 24 QgK Qpw).add 23 Qee QnC) hm QdC (Nat.le_of_ble_eq_true rfl) rfl ?_; unfold Qav; simp (config := { maxSteps := 2000000 }) only [JK, Gr, KO, KP, JL, QW, JM, JN, KQ, Gs, KR, KS, KT, KU, KV, KW, KX, KY, KZ, K1, K2, QX, QY, QZ, JO, JP, JQ, Q0, Q1, Q2, Q3, Q4, Q5, JR, JS, JT, JU, Jq, Jr, Kp, Yv, GU, JV, Qz, Qk, KN, QT, QU, JH, QV, JI, JJ, QS, Qy, JE, JF, KK, JG, KL, KM, Q8, Q9, Qc, Qd, QE, QF, Ja, Jb, QQ, QR, Qe, Qf, GD, GE, JZ, J0, K3, JW, JX, JY, Kb, Kc, Kd, QA, QB, QD, Gt, Gu, Gv, Gw, Q6, Q7, Gy, Gx, Gz, QG, J1, K4, J2, K5, K6, K7, K8, J3, Jc, K9, Jd, Je, Jf, Jg, Jh, QH, QI, Ji, J4, Jj, J5, J6, J7, GA, GB, Ya, Jk, Yb, QJ, KJ, J8, KF, GC, Jl, YF, YE, YD, Gk, List.length_take, Int.toNat_zero, List.drop_zero, YC, Ks, QL, Jt, GX, Yu, Kr, Kq, Js, Yc, J9, Yd, Ye, GF, Yf, Yg, GG, Yh, Ka, Yi, GH, Yj, Yk, GI, GJ, GK, Yl, eff, JB, QO, Ke, Ym, Kf, Kg, Kh, GL, GM, JD, JC, Jm, GN, GO, GP, Y7, pur, List.map, List.drop, List.take, List.length, List.foldl, List.append_eq, List.nil_append, List.cons_append, List.getD_cons_zero, List.getD_cons_succ, reduceIte, Nat.reduceEqDiff, Nat.reduceAdd, Nat.reduceLeDiff, true_and, and_true, Bool.not_true, Bool.not_false, Bool.and_true, Bool.true_and, Bool.and_self, reduceCtorEq, true_implies, false_implies, implies_true, decide_eq_true_eq, Option.map_some, Gm, fpX, SOp.xs, oX, refs, KE, dom, Gl, List.all_nil, List.all_cons, List.contains_cons, List.contains_nil, Nat.reduceBEq, Bool.or_false, Bool.false_or, List.append_nil, Bool.not_false, Bool.not_true, List.forall_mem_cons, fm0, List.set, Nat.reduceLT, Nat.reduceMod, ne_eq, not_false_eq_true, not_true_eq_false, GQ, Yn, Yo, Yp, Ki, Jn, Kj, Yq, Kk, Kl, GR, GS, GT, Yr, Ys, Yt, Jo, Jp, decide_true, AV.bool.injEq, AV.int.injEq, Nat.reduceLeDiff, decide_eq_true_eq, decide_eq_false_iff_not, Int.toNat_natCast, List.length_map, decide_false, KH, noref, flatOk, Qb, wkM, Km, Kw, Kx, Ju, QM, Kv, Jv, Kt, Ku, Qn, QN, Classical.not_not, QgN, QgH, QgK, Qee, Qr, Qt, Qa, Yw, Ql, List.take_length, List.length_cons, List.length_nil, Nat.zero_add, Ko, Yx, Yy, YG, Pt.row, Qs, Aw.row, Qv, Blk.row, Qg, Sec.row, Qh, Rw.row, Qw, Sky.row, Qi, Jw, Jx, Qp, Qu, Jy, YK]
  repeat' (first | with_reducible apply And.intro | with_reducible intro _)
  all_goals first | omega | grind | grind [Aw.small, Sec.small, Sky.small]
theorem QpH (c d : Sky) (hl : c.pts.length ≤ 4611686018427387904 ∧ c.aws.length ≤ 4611686018427387904 ∧ c.secs.length ≤ 4611686018427387904 ∧ c.rws.length ≤ 4611686018427387904 ∧ (∀ x ∈ c.aws, x.small) ∧ (∀ x ∈ c.secs, x.small)) : Contract P 9 [.agg (c.row 0), .agg (d.row 0)] [] (.bool (decide (c = d))) [] := by
  obtain ⟨c_w, c_h, c_lv, c_pts, c_aws, c_secs, c_rws⟩ := c
  obtain ⟨d_w, d_h, d_lv, d_pts, d_aws, d_secs, d_rws⟩ := d
  simp only [Sky.row]
  refine QP (((((Env.nil P).add 29 QgO QpC).add 28 QgI Qpr).add 31 QgL Qpy).add 30 Qef QnE) hm Qh0 (Nat.le_of_ble_eq_true rfl) rfl ?_; unfold QdD; simp (config := { maxSteps := 2000000 }) only [JK, Gr, KO, KP, JL, QW, JM, JN, KQ, Gs, KR, KS, KT, KU, KV, KW, KX, KY, KZ, K1, K2, QX, QY, QZ, JO, JP, JQ, Q0, Q1, Q2, Q3, Q4, Q5, JR, JS, JT, JU, Jq, Jr, Kp, Yv, GU, JV, Qz, Qk, KN, QT, QU, JH, QV, JI, JJ, QS, Qy, JE, JF, KK, JG, KL, KM, Q8, Q9, Qc, Qd, QE, QF, Ja, Jb, QQ, QR, Qe, Qf, GD, GE, JZ, J0, K3, JW, JX, JY, Kb, Kc, Kd, QA, QB, QD, Gt, Gu, Gv, Gw, Q6, Q7, Gy, Gx, Gz, QG, J1, K4, J2, K5, K6, K7, K8, J3, Jc, K9, Jd, Je, Jf, Jg, Jh, QH, QI, Ji, J4, Jj, J5, J6, J7, GA, GB, Ya, Jk, Yb, QJ, KJ, J8, KF, GC, Jl, YF, YE, YD, Gk, List.length_take, Int.toNat_zero, List.drop_zero, YC, Ks, QL, Jt, GX, Yu, Kr, Kq, Js, Yc, J9, Yd, Ye, GF, Yf, Yg, GG, Yh, Ka, Yi, GH, Yj, Yk, GI, GJ, GK, Yl, eff, JB, QO, Ke, Ym, Kf, Kg, Kh, GL, GM, JD, JC, Jm, GN, GO, GP, Y7, pur, List.map, List.drop, List.take, List.length, List.foldl, List.append_eq, List.nil_append, List.cons_append, List.getD_cons_zero, List.getD_cons_succ, reduceIte, Nat.reduceEqDiff, Nat.reduceAdd, Nat.reduceLeDiff, true_and, and_true, Bool.not_true, Bool.not_false, Bool.and_true, Bool.true_and, Bool.and_self, reduceCtorEq, true_implies, false_implies, implies_true, decide_eq_true_eq, Option.map_some, Gm, fpX, SOp.xs, oX, refs, KE, dom, Gl, List.all_nil, List.all_cons, List.contains_cons, List.contains_nil, Nat.reduceBEq, Bool.or_false, Bool.false_or, List.append_nil, Bool.not_false, Bool.not_true, List.forall_mem_cons, fm0, List.set, Nat.reduceLT, Nat.reduceMod, ne_eq, not_false_eq_true, not_true_eq_false, GQ, Yn, Yo, Yp, Ki, Jn, Kj, Yq, Kk, Kl, GR, GS, GT, Yr, Ys, Yt, Jo, Jp, decide_true, AV.bool.injEq, AV.int.injEq, Nat.reduceLeDiff, decide_eq_true_eq, decide_eq_false_iff_not, Int.toNat_natCast, List.length_map, decide_false, KH, noref, flatOk, Qb, wkM, Km, Kw, Kx, Ju, QM, Kv, Jv, Kt, Ku, Qn, QN, Classical.not_not, QgO, QgI, QgL, Qef, Qr, Qt, Qa, Yw, Ql, List.take_length, List.length_cons, List.length_nil, Nat.zero_add, Ko, Yx, Yy, YG, Pt.row, Qs, Aw.row, Qv, Blk.row, Qg, Sec.row, Qh, Rw.row, Qw, Sky.row, Qi, Jw, Jx, Qp, Qu, Jy, YK]
  simp only [Sky.mk.injEq]
  repeat' (first | with_reducible apply And.intro | with_reducible intro _)
  all_goals first | omega | (simp_all; done) | grind | grind [Aw.small, Sec.small, Sky.small]
end
end Go.Ve

namespace Go.Ve
noncomputable section
open Go.Proofs
set_option linter.unusedSimpArgs false
set_option linter.unusedVariables false
set_option maxRecDepth 100000
open Go.ChangeShapes Go.WideShapes
theorem QjY {α : Type} {f : α → List AV} {rs : List LSh} (h : ∀ r, Xo rs r → ∃ x : α, r = f x) : ∀ {rows : List (List AV)}, (∀ r ∈ rows, Xo rs r) → ∃ l : List α, rows = l.map f
  | [], _ => ⟨[], rfl⟩
  | r :: rows, k => by
    obtain ⟨x, rfl⟩ := h r (k r (by simp))
    obtain ⟨l, rfl⟩ := QjY h (rows := rows) fun r' h' => k r' (by simp [h'])
    exact ⟨x :: l, rfl⟩
def QaY : List LSh := [.str]
theorem QgP (r : List AV) (h : Xo QaY r) : ∃ x : ByteArray, r = Ko x ∧ x.toList.length ≤ 9223372036854775807 := by
  simp only [QaY, Xo, Qhc] at h
  obtain ⟨_, _, rfl, ⟨n, rfl, h⟩, rfl⟩ := h
  exact ⟨n, rfl, by rw [← Gp]; unfold maxLen at h; omega⟩
def QpI : List LSh := [.str, .int .i64, .int .i64]
theorem Qq1 (r : List AV) (h : Xo QpI r) : ∃ x : Pt, r = Pt.row x ∧ x.fitp := by
  simp only [QpI, Xo, Qhc] at h
  obtain ⟨_, _, rfl, ⟨nm, rfl, h_nm⟩, _, _, rfl, ⟨x, rfl, _⟩, _, _, rfl, ⟨y, rfl, _⟩, rfl⟩ := h

  exact ⟨⟨nm, x, y⟩, rfl, (by have e := Gp nm; unfold maxLen at h_nm; show nm.toList.length ≤ _; omega)⟩
def Ql4 : List LSh := [.int .i64, .int .i64, .int .i64, .int .i64, .int .i64, .int .i64]
theorem QpJ (r : List AV) (h : Xo Ql4 r) : ∃ x : Blk, r = Blk.row x := by
  simp only [Ql4, Xo, Qhc] at h
  obtain ⟨_, _, rfl, ⟨x0, rfl, _⟩, _, _, rfl, ⟨y0, rfl, _⟩, _, _, rfl, ⟨x1, rfl, _⟩, _, _, rfl, ⟨y1, rfl, _⟩, _, _, rfl, ⟨lo, rfl, _⟩, _, _, rfl, ⟨hi, rfl, _⟩, rfl⟩ := h

  exact ⟨⟨x0, y0, x1, y1, lo, hi⟩, rfl⟩
def QpK : List LSh := [.str, .int .i64, .int .i64, .int .i64]
theorem Qq2 (r : List AV) (h : Xo QpK r) : ∃ x : Rw, r = Rw.row x ∧ x.fitp := by
  simp only [QpK, Xo, Qhc] at h
  obtain ⟨_, _, rfl, ⟨nm, rfl, h_nm⟩, _, _, rfl, ⟨x, rfl, _⟩, _, _, rfl, ⟨y, rfl, _⟩, _, _, rfl, ⟨tn, rfl, _⟩, rfl⟩ := h

  exact ⟨⟨nm, x, y, tn⟩, rfl, (by have e := Gp nm; unfold maxLen at h_nm; show nm.toList.length ≤ _; omega)⟩
def QpL : List LSh := [.str, .sl QaY]
theorem Qq3 (r : List AV) (h : Xo QpL r) : ∃ x : Aw, r = (Aw.row 1) x ∧ x.fitp := by
  simp only [QpL, Xo, Qhc] at h
  obtain ⟨_, _, rfl, ⟨nm, rfl, h_nm⟩, _, _, rfl, ⟨pts, rfl, h_pts, r_pts⟩, rfl⟩ := h
  obtain ⟨pts, rfl, p_pts⟩ := WA QgP r_pts
  rw [List.length_map] at h_pts
  exact ⟨⟨nm, pts⟩, rfl, ⟨(by have e := Gp nm; unfold maxLen at h_nm; show nm.toList.length ≤ _; omega), ⟨(by unfold maxLen at h_pts; omega), p_pts⟩⟩⟩
def Ql5 : List LSh := [.str, .sl Ql4]
theorem QpM (r : List AV) (h : Xo Ql5 r) : ∃ x : Sec, r = (Sec.row 1) x ∧ x.fitp := by
  simp only [Ql5, Xo, Qhc] at h
  obtain ⟨_, _, rfl, ⟨nm, rfl, h_nm⟩, _, _, rfl, ⟨bl, rfl, h_bl, r_bl⟩, rfl⟩ := h
  obtain ⟨bl, rfl⟩ := QjY QpJ r_bl
  rw [List.length_map] at h_bl
  exact ⟨⟨nm, bl⟩, rfl, ⟨(by have e := Gp nm; unfold maxLen at h_nm; show nm.toList.length ≤ _; omega), (by unfold maxLen at h_bl; omega)⟩⟩
def QjZ : List LSh := [.int .i64, .int .i64, .int .i64, .sl QpI, .sl QpL, .sl Ql5, .sl QpK]
theorem QpN (r : List AV) (h : Xo QjZ r) : ∃ x : Sky, r = (Sky.row 1) x ∧ x.fitp := by
  simp only [QjZ, Xo, Qhc] at h
  obtain ⟨_, _, rfl, ⟨w, rfl, _⟩, _, _, rfl, ⟨h, rfl, _⟩, _, _, rfl, ⟨lv, rfl, _⟩, _, _, rfl, ⟨pts, rfl, h_pts, r_pts⟩, _, _, rfl, ⟨aws, rfl, h_aws, r_aws⟩, _, _, rfl, ⟨secs, rfl, h_secs, r_secs⟩, _, _, rfl, ⟨rws, rfl, h_rws, r_rws⟩, rfl⟩ := h
  obtain ⟨pts, rfl, p_pts⟩ := WA Qq1 r_pts
  rw [List.length_map] at h_pts
  obtain ⟨aws, rfl, p_aws⟩ := WA Qq3 r_aws
  rw [List.length_map] at h_aws
  obtain ⟨secs, rfl, p_secs⟩ := WA QpM r_secs
  rw [List.length_map] at h_secs
  obtain ⟨rws, rfl, p_rws⟩ := WA Qq2 r_rws
  rw [List.length_map] at h_rws
  exact ⟨⟨w, h, lv, pts, aws, secs, rws⟩, rfl, ⟨⟨(by unfold maxLen at h_pts; omega), p_pts⟩, ⟨(by unfold maxLen at h_aws; omega), p_aws⟩, ⟨(by unfold maxLen at h_secs; omega), p_secs⟩, ⟨(by unfold maxLen at h_rws; omega), p_rws⟩⟩⟩
end
end Go.Ve

namespace Go.Ve
noncomputable section
open Go.Proofs
set_option linter.unusedSimpArgs false
set_option linter.unusedVariables false
set_option maxRecDepth 100000
structure Cell where
  x : Int
  y : Int
  deriving Inhabited, DecidableEq
def Cell.row (s : Cell) : List AV := [.int .i64 s.x, .int .i64 s.y]
theorem QpO {n : Int} (h : -9223372036854775808 ≤ n ∧ n ≤ 9223372036854775807) : IntKind.i64.wrap n = n := by rw [IntKind.wrap_i64]; omega
def Qou (a : Int) : Int := if a < 0 then -a else a
theorem QpP (a : Int) (ha : -1000000 ≤ a ∧ a ≤ 1000000) : Contract P 92 [.int .i64 a] [] (.int .i64 (Qou a)) [] := by
  refine QP (Env.nil P) hm Qh3 (Nat.le_of_ble_eq_true rfl) rfl ?_; unfold QdH; simp (config := { maxSteps := 2000000 }) only [bitvec_to_nat, reduceIte, Nat.reduceEqDiff, Nat.reduceAdd, Nat.reduceLeDiff, reduceCtorEq, Nat.reduceBEq, Nat.reduceLT, Nat.reduceMod, List.forall_mem_cons]
  rw [QpO (by omega)]
  unfold Qou
  exact ⟨fun h => by rw [if_pos h]; omega, fun h => by rw [if_neg h]⟩
def QgQ : List AV → Option (Prop × AV)
  | [.int .i64 a] => some ((-1000000 ≤ a ∧ a ≤ 1000000), .int .i64 (Qou a))
  | _ => none
theorem QpQ : ∀ args p v, QgQ args = some (p, v) → p → Contract P 92 args [] v [] ∧ noref v = true ∧ No99 v := by
  intro args p v h1 h2
  unfold QgQ at h1
  split at h1
  · rename_i a
    cases h1
    exact ⟨QpP a h2, rfl, trivial⟩
  · cases h1
def QfB (a b : Cell) : Int := max (Qou (a.x - b.x)) (Qou (a.y - b.y))
def Cell.inn (a : Cell) : Prop := (0 ≤ a.x ∧ a.x ≤ 15) ∧ (0 ≤ a.y ∧ a.y ≤ 15)
instance (a : Cell) : Decidable a.inn := by unfold Cell.inn; infer_instance
theorem Ql6 (a b : Cell) (ha : a.inn) (hb : b.inn) : Contract P 76 [.agg a.row, .agg b.row] [] (.int .i64 (QfB a b)) [] := by
  unfold Cell.inn at ha hb
  refine QP ((Env.nil P).add 92 QgQ QpQ) hm Qfy (Nat.le_of_ble_eq_true rfl) rfl ?_; unfold Qbr; simp (config := { maxSteps := 2000000 }) only [bitvec_to_nat, reduceIte, Nat.reduceEqDiff, Nat.reduceAdd, Nat.reduceLeDiff, reduceCtorEq, Nat.reduceBEq, Nat.reduceLT, Nat.reduceMod, List.forall_mem_cons, QgQ, Cell.row]
  unfold QfB
  exact ⟨by omega, by omega, by omega, by omega, fun h => by omega, fun h => by omega⟩
def QcX : List AV → Option (Prop × AV)
  | [.agg [.int .i64 a_x, .int .i64 a_y], .agg [.int .i64 b_x, .int .i64 b_y]] => some ((True) ∧ (Cell.inn (Cell.mk a_x a_y) ∧ Cell.inn (Cell.mk b_x b_y)), .int .i64 (QfB (Cell.mk a_x a_y) (Cell.mk b_x b_y)))
  | _ => none
theorem Ql7 : ∀ args p v, QcX args = some (p, v) → p → Contract P 76 args [] v [] ∧ noref v = true ∧ No99 v := by
  intro args p v h1 h2
  unfold QcX at h1
  split at h1
  · rename_i a_x a_y b_x b_y
    cases h1
    obtain ⟨_, HP⟩ := h2
    have := Ql6 (Cell.mk a_x a_y) (Cell.mk b_x b_y) HP.1 HP.2
    exact ⟨by simpa only [Cell.row, Cell.row] using this, rfl, trivial⟩
  · cases h1
theorem QfC (g : FuncId) (hg : Qdb P g = true) (ls : List AV) (hls : YT ls = true) (p : Pt → Bool) (t : Nat) (zs : List Pt) (hl : zs.length ≤ 4611686018427387904)
    (hC : ∀ z, Contract P g (.agg (Pt.row z) :: [.ptr 3 0]) [(3, .box ls)] (.bool (p z)) [(3, .box ls)]) : Contract P 56 [.sl t 3 (zs.map Pt.row), .fn g [] [.ptr 3 0]] [(3, .box ls)] (.int .i64 (Qkv p zs)) [(3, .box ls)] := by
  refine QP (Env.nil P) hm Va (Nat.le_of_ble_eq_true rfl) rfl ?_; unfold XP; simp (config := { maxSteps := 2000000 }) only [bitvec_to_nat, reduceIte, Nat.reduceEqDiff, Nat.reduceAdd, Nat.reduceLeDiff, reduceCtorEq, Nat.reduceBEq, Nat.reduceLT, Nat.reduceMod, List.forall_mem_cons, JA, Ky, Jz, YS, keepB, Kz, YY, Qaq]
  refine Yz (fun i : Nat => [(8, .int .i64 i)]) (fun _ => []) (fun i => i ≤ zs.length ∧ ∀ j, j < i → p (zs.getD j default) = false) (fun i => zs.length - i) (0) (by simp only [YC, YD, YE, YF, Qc, Qd, Qe, Qf, reduceIte, Nat.reduceEqDiff]; exact ⟨by repeat' (first | exact trivial | refine ⟨.inr rfl, ?_⟩), by repeat' (first | exact trivial | refine ⟨rfl, ?_⟩), by first | rfl | simp [closedB, Qx, Qo, Qb, dom, Qm, *], by first | rfl | simp [keepB, dom]⟩) ?_ ?_
  · exact ⟨Nat.zero_le _, by intro j hj; omega⟩
  intro i hi NX hN
  unfold Xy; simp (config := { maxSteps := 2000000 }) only [bitvec_to_nat, reduceIte, Nat.reduceEqDiff, Nat.reduceAdd, Nat.reduceLeDiff, reduceCtorEq, Nat.reduceBEq, Nat.reduceLT, Nat.reduceMod, List.forall_mem_cons, JA, Ky, Jz, YS, keepB, Kz, YY, Qaq, QqH, Qo5]
  refine ⟨fun h1 => ⟨by omega, by omega, hg, _, _, .inl ⟨[(3, .box ls)], hC (zs.getD i default), ?_, ?_, ?_, ?_, ?_, rfl, ?_⟩, ?_⟩, fun h1 => ?_⟩
  · simp [getM]
  · intro q hq; left; revert q; simp [dom]
  · simp [dom]
  · simp [Qo, Qx, dom, Qm, Qrp]
  · simp [Qb, Qm, *]
  · simp [Qb, Qm, *]
  · simp (config := { maxSteps := 2000000 }) only [bitvec_to_nat, reduceIte, Nat.reduceEqDiff, Nat.reduceAdd, Nat.reduceLeDiff, reduceCtorEq, Nat.reduceBEq, Nat.reduceLT, Nat.reduceMod, List.forall_mem_cons, JA, Ky, Jz, YS, keepB, Kz, YY, Qaq]
    refine ⟨fun h2 => ?_, fun h2 => ?_⟩
    · simp (config := { maxSteps := 2000000 }) only [bitvec_to_nat, reduceIte, Nat.reduceEqDiff, Nat.reduceAdd, Nat.reduceLeDiff, reduceCtorEq, Nat.reduceBEq, Nat.reduceLT, Nat.reduceMod, List.forall_mem_cons, JA, Ky, Jz, YS, keepB, Kz, YY, Qaq]
      rw [Qls (by omega) h2 hi.2]
      simp [dom, Qm, *]
    · simp (config := { maxSteps := 2000000 }) only [bitvec_to_nat, reduceIte, Nat.reduceEqDiff, Nat.reduceAdd, Nat.reduceLeDiff, reduceCtorEq, Nat.reduceBEq, Nat.reduceLT, Nat.reduceMod, List.forall_mem_cons, JA, Ky, Jz, YS, keepB, Kz, YY, Qaq]
      refine ⟨by omega, ?_⟩
      refine hN (i + 1) _ (by simp only [YC, YD, YE, YF, Qc, Qd, Qe, Qf, reduceIte, Nat.reduceEqDiff]; exact ⟨by repeat' (first | exact trivial | refine ⟨.inr rfl, ?_⟩), by repeat' (first | exact trivial | refine ⟨rfl, ?_⟩), by first | rfl | simp [closedB, Qx, Qo, Qb, dom, Qm, *], by first | rfl | simp [keepB, dom]⟩) ?_ ?_
      · exact ⟨by omega, Gf hi.2 h2⟩
      · omega
  · rw [QhH fun j hj => hi.2 j (by omega)]
    simp [dom, Qm, *]
theorem QnF (z : Pt) (s : ByteArray) : Contract P 57 [.agg z.row, .ptr 3 0] [(3, .box [.str s])] (.bool (decide (z.nm = s))) [(3, .box [.str s])] := by
  simp only [Pt.row]
  refine QP (Env.nil P) hm QcB (Nat.le_of_ble_eq_true rfl) rfl ?_; unfold VC; simp (config := { maxSteps := 2000000 }) only [bitvec_to_nat, reduceIte, Nat.reduceEqDiff, Nat.reduceAdd, Nat.reduceLeDiff, reduceCtorEq, Nat.reduceBEq, Nat.reduceLT, Nat.reduceMod, List.forall_mem_cons, JA, Ky, Jz, YS, keepB, Kz, YY, Qs]
  all_goals simp [dom]
def Qeg : RTab
  | [.sl zt 3 zx, .fn 57 [] [.ptr ob off]], M => match M ob with
    | some (.box [.str s]) => some ⟨off = 0 ∧ (zx.map Y1).map Pt.row = zx ∧ (zx.map Y1).length ≤ 4611686018427387904, fun _ : Unit => True, fun _ => .int .i64 (Qkv (fun z => decide (z.nm = s)) (zx.map Y1)), fun _ => [(ob, .box [.str s])]⟩
    | _ => none
  | _, _ => none
theorem QnG : okTab P 56 Qeg := by
  intro args M o h hp
  unfold Qeg at h
  split at h
  · rename_i zt zx ob off
    split at h
    · rename_i s hM
      cases h
      obtain ⟨rfl, e0, HP⟩ := hp
      have hC := QfC 57 (by kernel_rfl) _ rfl (fun z => decide (z.nm = s)) zt (zx.map Y1) HP fun z => QnF z s
      simp only [e0, decide_eq_true_eq] at hC
      exact ⟨(), trivial, Qlt _ hC (by simp [YT, noref]) rfl (by assumption) (by simp [Ui, ren, swp]) (by simp [Qo, Qx, noref])⟩
    · cases h
  · cases h
theorem QnH (s : Sky) (nm : ByteArray) (hs : s.small) : Contract P 26 [.agg (s.row 0), .str nm] [] (.int .i64 (Xm s.pts nm)) [] := by
  unfold Sky.small at hs
  refine QP ((Env.nil P).addR 56 Qeg QnG) hm QdP (Nat.le_of_ble_eq_true rfl) rfl ?_; unfold W2; simp (config := { maxSteps := 2000000 }) only [bitvec_to_nat, reduceIte, Nat.reduceEqDiff, Nat.reduceAdd, Nat.reduceLeDiff, reduceCtorEq, Nat.reduceBEq, Nat.reduceLT, Nat.reduceMod, List.forall_mem_cons, JA, Ky, Jz, YS, keepB, Kz, YY, Qeg, Jw, Sky.row]
  exact ⟨by omega, fun _ => rfl⟩
theorem V3 {l : List Pt} {nm : ByteArray} (h : 0 ≤ Xm l nm) : (Xm l nm).toNat < l.length ∧ (l.getD (Xm l nm).toNat default).nm = nm ∧ Xm l nm < l.length := by
  unfold Xm at *
  rcases QeL (fun p : Pt => decide (p.nm = nm)) l with ⟨h1, h2⟩ | ⟨i, h1, h2, h3, _⟩
  · omega
  · rw [h1]; exact ⟨by simpa using h2, by simpa using h3, by omega⟩
def ptC (s : Sky) (nm : ByteArray) : Cell := ⟨(s.pts.getD (Xm s.pts nm).toNat default).x, (s.pts.getD (Xm s.pts nm).toNat default).y⟩
theorem QbX {s : Sky} (hv : s.valid) {nm : ByteArray} (h : 0 ≤ Xm s.pts nm) : (ptC s nm).inn := by
  obtain ⟨h1, _, _⟩ := V3 h
  have h2 := (hv.2.1.2 _ h1).2.2.1
  have h3 := hv.1
  unfold X6 at h2
  unfold Uj at h3
  simp only [Cell.inn, ptC]
  omega
def Gg : List AV → Option (Prop × AV)
  | [.agg [.int .i64 s_w, .int .i64 s_h, .int .i64 s_lv, .sl 0 3 s_pts, .sl 0 2 s_aws, .sl 0 2 s_secs, .sl 0 4 s_rws], .str nm] => some ((((s_pts.map Y1).map Pt.row = s_pts) ∧ ((s_aws.map Y4).map (Aw.row 0) = s_aws) ∧ ((s_secs.map KC).map (Sec.row 0) = s_secs) ∧ ((s_rws.map Y2).map Rw.row = s_rws)) ∧ (Sky.small (Sky.mk s_w s_h s_lv (s_pts.map Y1) (s_aws.map Y4) (s_secs.map KC) (s_rws.map Y2))), .int .i64 (Xm (Sky.pts (Sky.mk s_w s_h s_lv (s_pts.map Y1) (s_aws.map Y4) (s_secs.map KC) (s_rws.map Y2))) nm))
  | _ => none
theorem Qeh : ∀ args p v, Gg args = some (p, v) → p → Contract P 26 args [] v [] ∧ noref v = true ∧ No99 v := by
  intro args p v h1 h2
  unfold Gg at h1
  split at h1
  · rename_i s_w s_h s_lv s_pts s_aws s_secs s_rws nm
    cases h1
    obtain ⟨⟨e0, e1, e2, e3⟩, HP⟩ := h2
    have := QnH (Sky.mk s_w s_h s_lv (s_pts.map Y1) (s_aws.map Y4) (s_secs.map KC) (s_rws.map Y2)) nm HP
    exact ⟨by simpa only [e0, e1, e2, e3, Sky.row] using this, rfl, trivial⟩
  · cases h1
theorem Qq4 (s : Sky) (nm : ByteArray) (hs : s.small) (h : 0 ≤ Xm s.pts nm) : Contract P 77 [.agg (s.row 0), .str nm] [] (.agg (ptC s nm).row) [] := by
  unfold Sky.small at hs
  obtain ⟨h1, h2, h3⟩ := V3 h
  refine QP ((Env.nil P).add 71 Y6 Wy) hm Qi0 (Nat.le_of_ble_eq_true rfl) rfl ?_; unfold QeZ; simp (config := { maxSteps := 2000000 }) only [bitvec_to_nat, reduceIte, Nat.reduceEqDiff, Nat.reduceAdd, Nat.reduceLeDiff, reduceCtorEq, Nat.reduceBEq, Nat.reduceLT, Nat.reduceMod, List.forall_mem_cons, Y6, Pt.row, Qs, Jw, Qr, Qt, Qa, Int.toNat_natCast, Nat.sub_zero, Nat.zero_add, List.length_map, Sky.row, Qr]
  exact ⟨by omega, h, h3, rfl, rfl⟩
def Qj0 : List AV → Option (Prop × AV)
  | [.agg [.int .i64 s_w, .int .i64 s_h, .int .i64 s_lv, .sl 0 3 s_pts, .sl 0 2 s_aws, .sl 0 2 s_secs, .sl 0 4 s_rws], .str nm] => some ((((s_pts.map Y1).map Pt.row = s_pts) ∧ ((s_aws.map Y4).map (Aw.row 0) = s_aws) ∧ ((s_secs.map KC).map (Sec.row 0) = s_secs) ∧ ((s_rws.map Y2).map Rw.row = s_rws)) ∧ (Sky.small (Sky.mk s_w s_h s_lv (s_pts.map Y1) (s_aws.map Y4) (s_secs.map KC) (s_rws.map Y2)) ∧ 0 ≤ Xm (Sky.pts (Sky.mk s_w s_h s_lv (s_pts.map Y1) (s_aws.map Y4) (s_secs.map KC) (s_rws.map Y2))) nm), .agg (ptC (Sky.mk s_w s_h s_lv (s_pts.map Y1) (s_aws.map Y4) (s_secs.map KC) (s_rws.map Y2)) nm).row)
  | _ => none
theorem Qq5 : ∀ args p v, Qj0 args = some (p, v) → p → Contract P 77 args [] v [] ∧ noref v = true ∧ No99 v := by
  intro args p v h1 h2
  unfold Qj0 at h1
  split at h1
  · rename_i s_w s_h s_lv s_pts s_aws s_secs s_rws nm
    cases h1
    obtain ⟨⟨e0, e1, e2, e3⟩, HP⟩ := h2
    have := Qq4 (Sky.mk s_w s_h s_lv (s_pts.map Y1) (s_aws.map Y4) (s_secs.map KC) (s_rws.map Y2)) nm HP.1 HP.2
    exact ⟨by simpa only [e0, e1, e2, e3, Sky.row] using this, rfl, by simp [Cell.row, No99, Xl]⟩
  · cases h1
def V4 (s : Sky) (a b : Nm) : Prop := ∃ i, i < s.aws.length ∧ ∃ k, k < (s.aws.getD i default).pts.length ∧ 0 < k ∧ ((s.aws.getD i default).pts.getD (k - 1) default = a ∧ (s.aws.getD i default).pts.getD k default = b ∨ (s.aws.getD i default).pts.getD (k - 1) default = b ∧ (s.aws.getD i default).pts.getD k default = a)
noncomputable instance (s : Sky) (a b : Nm) : Decidable (V4 s a b) := Classical.propDecidable _
def dS (s : Sky) (a b : Nm) : Int := QfB (ptC s a) (ptC s b)
def G6 (s : Sky) : List Nm := s.pts.map (·.nm)
theorem QnI (s : Sky) (a b : Nm) : 0 ≤ dS s a b := by unfold dS QfB Qou; omega
theorem QcY {s : Sky} {a : Nm} (h : 0 ≤ Xm s.pts a) : a ∈ G6 s := by
  obtain ⟨h1, h2, _⟩ := V3 h
  refine List.mem_map.2 ⟨s.pts.getD (Xm s.pts a).toNat default, Gi h1, h2⟩
theorem Qfd {s : Sky} {a : Nm} (h : a ∈ G6 s) : 0 ≤ Xm s.pts a := by
  obtain ⟨p, hp, rfl⟩ := List.mem_map.1 h
  obtain ⟨i, hi, rfl⟩ := List.mem_iff_getElem.1 hp
  unfold Xm
  rcases QeL (fun q : Pt => decide (q.nm = s.pts[i].nm)) s.pts with ⟨h1, h2⟩ | ⟨j, h1, _⟩
  · have := h2 i hi; simp [hi] at this
  · rw [h1]; omega
theorem Ql8 {s : Sky} (hv : s.valid) {a b : Nm} (h : V4 s a b) : 0 ≤ Xm s.pts a ∧ 0 ≤ Xm s.pts b := by
  obtain ⟨i, hi, k, hk, h0, h⟩ := h
  have hw := (hv.2.2.1.2 i hi).2.2.2
  have h1 := (hw k hk).1
  have h2 := (hw (k - 1) (by omega)).1
  rcases h with ⟨rfl, rfl⟩ | ⟨rfl, rfl⟩
  · exact ⟨h2, h1⟩
  · exact ⟨h1, h2⟩
theorem QaZ {s : Sky} (hv : s.valid) {a b : Nm} (h : V4 s a b) : b ∈ G6 s := QcY (Ql8 hv h).2
end
end Go.Ve

namespace Go.Ve
open Go.Proofs
set_option maxRecDepth 100000
def Uk : SCode := (.seq (jq [jm 36 8 [],jf 37 3 2 [],jl 38 37 [37],jn 39 (.lenL (.v 38)) [38],jb 40 .lss 36 39 [36,39]] [2,5,6,7,8,40] (.cond (.v 40) .skip (.exit 4))) (.seq (.block 5 (.seq (.seq (.rgd [jm 43 5 [],jm 44 8 [],ja 45 1 43 44 [],jl 46 45 [],jn 47 (.lenL (.v 46)) [],jc 48 .eql 47 0 [],jm 49 48 [],jh 50 49 (.loadN 7 (.v 2)) [],jh 51 49 (.faddr 3 (.v 2)) [],jh 52 49 (.load1 (.v 51)) [],jM 53 49 7 [],jh 54 49 (.iaddr 3 (.v 52) (.v 53)) [],jh 55 49 (.faddr 0 (.v 54)) [],jh 56 49 (.load1 (.v 55)) [],jh 57 49 (.faddr 3 (.v 2)) [],jh 58 49 (.load1 (.v 57)) [],jM 59 49 8 [],jh 60 49 (.iaddr 3 (.v 58) (.v 59)) [],jh 61 49 (.faddr 0 (.v 60)) [],jh 62 49 (.load1 (.v 61)) [],jh 63 49 (.call 89 [.v 50,.v 56,.v 62]) [],jh 64 49 (.not (.v 63)) [],jp 65 49 64 [],jm 66 65 [],jM 67 66 5 [],jM 68 66 8 [],jh 69 66 (.iaddr 1 (.v 67) (.v 68)) [],jh 70 66 (.load1 (.v 69)) [],jh 71 66 (.faddr 3 (.v 2)) [],jh 72 66 (.load1 (.v 71)) [],jM 73 66 7 [],jh 74 66 (.iaddr 3 (.v 72) (.v 73)) [],jh 75 66 (.faddr 0 (.v 74)) [],jh 76 66 (.load1 (.v 75)) [],jh 77 66 (.call 90 [.v 70,.v 76]) [],jp 78 66 77 []] [2,5,6,7,8,78] [none,none,none,none,none,none,none,none,none,none,none,none,none,none,none,none,none,none,none,none,none,none,none,none,none,none,none,none,none,none,none,none,none,none,none,none]) (.cond (.v 78) (.exit 5) .skip)) (.seq (.rgd [jf 79 3 2 [],jl 80 79 [],jm 81 7 [],ja 82 3 80 81 [],jf 83 0 82 [],jl 84 83 [],jn 85 (.litOwn 185 9 1 [.v 84]) [],jm 86 5 [],jm 87 8 [],ja 88 1 86 87 [],jl 89 88 [],jn 90 (.app 185 9 1 (.v 85) (.v 89)) [],jm 9 90 []] [2,5,6,7,8,9] [none,none,none,none,none,none,some [],none,none,some [2],some [3],none,none]) (.gh (.frzE 9) (.seq (.rgd [jL 91 7 2 [],jm 92 9 [],jm 93 5 [],jm 94 7 [],ja 95 1 93 94 [],jl 96 95 [],jn 97 (.call 91 [.v 91,.v 92,.v 96]) []] [2,5,6,7,8,9,97] [none,none,none,none,none,none,none]) (.cond (.v 97) (.rg [jm 98 5 [],jm 99 7 [],jm 100 9 [9],ja 101 1 98 99 [98,99],⟨none,.store 1 (.v 101) (.v 100),none,[100,101]⟩] [2,5,6,7,8]) .skip)))))) (.rg [jm 41 8 [8],jn 42 (.binN .add (.v 41) (ci 1)) [41],jm 8 42 [42]] [2,5,6,7,8])))
def Ul : SCode := (.seq (jq [jm 29 7 [],jf 30 3 2 [],jl 31 30 [30],jn 32 (.lenL (.v 31)) [31],jb 33 .lss 29 32 [29,32]] [2,5,6,7,33] (.cond (.v 33) .skip (.exit 2))) (.seq (.block 3 (jq [jI 8 0 []] [2,5,6,7,8] (.block 4 (.loop Uk)))) (.rg [jm 34 7 [7],jn 35 (.binN .add (.v 34) (ci 1)) [34],jm 7 35 [35]] [2,5,6,7])))
def Um : SCode := (.seq (jq [jm 22 6 [],jf 23 3 2 [],jl 24 23 [23],jn 25 (.lenL (.v 24)) [24],jb 26 .lss 22 25 [22,25]] [2,5,6,26] (.cond (.v 26) .skip (.exit 0))) (.seq (.block 1 (jq [jI 7 0 []] [2,5,6,7] (.block 2 (.loop Ul)))) (.rg [jm 27 6 [6],jn 28 (.binN .add (.v 27) (ci 1)) [27],jm 6 28 [28]] [2,5,6])))
/-- spec.l7Ways: function 72 -/
def Qbv : SFun := { n := 103,res := [.t 4],body := (jq [jn 2 (.box 102 (.v 0)) [0],jn 4 (.mv (.c (.sl 0 1 []))) [4]] [1,2] (jq [jf 10 3 2 [],jl 11 10 [10],jn 12 (.lenL (.v 11)) [11],jn 13 (.mk 113 39 1 [.sl 0 1 []] (.v 12)) [12],jm 5 13 [13]] [1,2,5] (jq [jm 14 5 [],jf 15 3 2 [],jl 16 15 [15],jm 17 1 [],jn 18 (.call 71 [.v 16,.v 17]) [16,17],jm 19 1 [1],jn 20 (.lit 9 1 [.v 19]) [19],ja 21 1 14 18 [14,18],⟨none,.store 1 (.v 21) (.v 20),none,[20,21]⟩] [2,5] (.seq (jq [jI 6 0 []] [2,5,6] (.block 0 (.loop Um))) (jq [jm 102 5 [5],jm 4 102 [102]] [4] (.gh (.frzE 4) .ret)))))) }
theorem QfD : YM Go.Proofs.Tryd.prog 72 Qbv = true := by kernel_rfl
def XK : SCode := (jq [jb 67 .lss 66 65 []] [2,5,6,8,9,27,28,29,64,65,66,67] (.seq (.cond (.v 67) .skip (.exit 6)) (.seq (.block 7 (jq [ja 68 2 64 66 [],jL 69 2 68 [68],jn 11 (.alloc 111 [.str ⟨#[]⟩,.str ⟨#[]⟩]) [],⟨none,.store 2 (.v 11) (.v 69),none,[69]⟩] [2,5,6,8,9,11,27,28,29,64,65,66] (jq [jm 71 5 [],jn 72 (.iaddrA 2 1 (.v 11) (ci 0)) [],jl 73 72 [72],jn 74 (.look true 1000 (.agg [.int .i64 0,.sl 98 1 []]) (.v 71) (.v 73)) [71,73],jm 70 74 [74],jn 75 (.ext 0 (.v 70)) [],jn 76 (.ext 1 (.v 70)) [70],jn 12 (.alloc 112 [.int .i64 0,.sl 0 1 []]) [],⟨none,.store 2 (.v 12) (.v 75),none,[75]⟩,jm 13 76 [76]] [2,5,6,8,9,11,12,13,27,28,29,64,65,66] (.seq (jq [jm 77 13 [13],jn 78 (.not (.v 77)) [77]] [2,5,6,8,9,11,12,27,28,29,64,65,66,78] (.cond (.v 78) (.exit 7) .skip)) (.seq (.rgd [jf 79 3 2 [],jl 80 79 [],jL 81 7 2 [],jn 82 (.iaddrA 2 1 (.v 11) (ci 0)) [],jl 83 82 [],jn 84 (.call 26 [.v 81,.v 83]) [],ja 85 3 80 84 [],jL 86 3 85 [],jf 87 3 2 [],jl 88 87 [],jL 89 7 2 [],jn 90 (.iaddrA 2 1 (.v 11) (ci 1)) [],jl 91 90 [],jn 92 (.call 26 [.v 89,.v 91]) [],ja 93 3 88 92 [],jL 94 3 93 [],jn 14 (.alloc 114 [.str ⟨#[]⟩,.int .i64 0,.int .i64 0]) [],jn 15 (.alloc 115 [.str ⟨#[]⟩,.int .i64 0,.int .i64 0]) [],⟨none,.store 3 (.v 14) (.v 86),none,[]⟩,⟨none,.store 3 (.v 15) (.v 94),none,[]⟩] [2,5,6,8,9,11,12,14,15,27,28,29,64,65,66] [some [],some [],some [],some [],some [],some [4,3],some [],some [],some [2],some [3],some [4],some [5],some [6],some [12,11,6,5,4,3],some [],some [],some [15,14,13,12,11,10,9,8,7,6,5,4,3,2,1,0],some [16,15,14,13,12,11,10,9,8,7,6,5,4,3,2,1,0],some [9,8,3,2],none]) (.seq (.rgd [jf 95 0 12 [],jl 96 95 [],jf 97 1 14 [],jl 98 97 [],jf 99 1 15 [],jl 100 99 [],jn 101 (.call 58 [.v 98,.v 100]) [],jf 102 2 14 [],jl 103 102 [],jf 104 2 15 [],jl 105 104 [],jn 106 (.call 58 [.v 103,.v 105]) [],jn 107 (.mx (.v 101) (.v 106)) [],jn 108 (.binN .add (.v 96) (.v 107)) [],jf 109 1 12 [],jl 110 109 [],jn 111 (.call 59 [.v 110]) [],jn 112 (.iaddrA 2 1 (.v 11) (ci 1)) [],jl 113 112 [],jn 114 (.lit 9 1 [.v 113]) [],jn 115 (.app 215 9 1 (.v 111) (.v 114)) [],jn 116 (.build [.int .i64 0,.sl 0 1 []] [(0,1,.v 108),(1,1,.v 115)]) [],jn 16 (.alloc 116 [.int .i64 0,.sl 0 1 []]) [],⟨none,.store 2 (.v 16) (.v 116),none,[]⟩] [2,5,6,8,9,11,16,27,28,29,64,65,66] [some [],some [],some [],some [],some [],some [],some [5,4],some [0],some [1],some [2],some [3],some [10,9],none,none,some [7,2],some [8,3],some [15,14],some [10,5,0],some [11,6,1],none,some [19,18],none,some [21,20,19,18,17,16,15,14,13,12,11,10,7,6,5,4,3,1],none]) (jq [jm 118 5 [],jn 119 (.iaddrA 2 1 (.v 11) (ci 1)) [],jl 120 119 [119],jn 121 (.look true 1000 (.agg [.int .i64 0,.sl 98 1 []]) (.v 118) (.v 120)) [118,120],jm 117 121 [121],jn 122 (.ext 0 (.v 117)) [],jn 123 (.ext 1 (.v 117)) [117],jn 17 (.alloc 117 [.int .i64 0,.sl 0 1 []]) [],⟨none,.store 2 (.v 17) (.v 122),none,[122]⟩,jm 18 123 [123]] [2,5,6,8,9,11,16,17,18,27,28,29,64,65,66] (jq [jm 124 18 [18],jn 125 (.not (.v 124)) [124],jm 126 125 [125],jh 127 126 (.loadN 2 (.v 16)) [],jh 128 126 (.loadN 2 (.v 17)) [17],jh 129 126 (.call 60 [.v 127,.v 128]) [127,128],jp 130 126 129 [126,129]] [2,5,6,8,9,11,16,27,28,29,64,65,66,130] (.cond (.v 130) (jq [jm 131 5 [],jn 132 (.iaddrA 2 1 (.v 11) (ci 1)) [11],jl 133 132 [132],jL 134 2 16 [16],⟨none,.mset 1000 (.v 131) (.v 133) (.v 134),none,[131,133,134]⟩] [2,5,8,9,27,28,29,64,65,66] (.rg [jn 6 (.mv (.c (.bool true))) []] [2,5,6,8,9,27,28,29,64,65,66])) .skip))))))))) (.gh (.wk) (.rg [jn 135 (.binN .add (.v 66) (ci 1)) [66],jm 66 135 [135]] [2,5,6,8,9,27,28,29,64,65,66])))))
def Zw : SCode := (.seq (jq [jm 33 9 [],jf 34 1 8 [],jl 35 34 [34],jn 36 (.lenL (.v 35)) [35],jb 37 .lss 33 36 [33,36]] [2,5,6,8,9,27,28,29,37] (.cond (.v 37) .skip (.exit 4))) (.seq (.block 5 (.seq (.rgd [jf 40 1 8 [],jl 41 40 [],jm 42 9 [],jn 43 (.binN .sub (.v 42) (ci 1)) [],ja 44 1 41 43 [],jl 45 44 [],jf 46 1 8 [],jl 47 46 [],jm 48 9 [],ja 49 1 47 48 [],jl 50 49 [],jn 51 (.build [.str ⟨#[]⟩,.str ⟨#[]⟩] [(0,1,.v 45),(1,1,.v 50)]) [],jf 52 1 8 [],jl 53 52 [],jm 54 9 [],ja 55 1 53 54 [],jl 56 55 [],jf 57 1 8 [],jl 58 57 [],jm 59 9 [],jn 60 (.binN .sub (.v 59) (ci 1)) [],ja 61 1 58 60 [],jl 62 61 [],jn 63 (.build [.str ⟨#[]⟩,.str ⟨#[]⟩] [(0,1,.v 56),(1,1,.v 62)]) [],jn 64 (.lit 106 2 [.v 51,.v 63]) [],jn 65 (.lenL (.v 64)) [],jI 66 0 []] [2,5,6,8,9,27,28,29,64,65,66] [none,none,none,none,none,none,none,none,none,none,none,none,none,none,none,none,none,none,none,none,none,none,none,none,none,none,none]) (.block 6 (.loop XK)))) (.rg [jm 38 9 [9],jn 39 (.binN .add (.v 38) (ci 1)) [38],jm 9 39 [39]] [2,5,6,8,9,27,28,29])))
def Zx : SCode := (jq [jb 30 .lss 29 28 []] [2,5,6,27,28,29,30] (.seq (.cond (.v 30) .skip (.exit 2)) (.seq (.block 3 (jq [ja 31 2 27 29 [],jL 32 2 31 [31],jn 8 (.alloc 108 [.str ⟨#[]⟩,.sl 0 1 []]) [],⟨none,.store 2 (.v 8) (.v 32),none,[32]⟩] [2,5,6,8,27,28,29] (jq [jI 9 1 []] [2,5,6,8,9,27,28,29] (.block 4 (.loop Zw))))) (.rg [jn 136 (.binN .add (.v 29) (ci 1)) [29],jm 29 136 [136]] [2,5,6,27,28,29]))))
def Zy : SCode := (.seq (jq [jm 25 6 [6]] [2,5,25] (.cond (.v 25) .skip (.exit 0))) (.block 1 (jq [jn 6 (.mv (.c (.bool false))) []] [2,5,6] (jq [jf 26 4 2 [],jl 27 26 [26],jn 28 (.lenL (.v 27)) [],jI 29 0 []] [2,5,6,27,28,29] (.block 2 (.loop Zx))))))
/-- impl.Sky).ways: function 27 -/
def W9 : SFun := { n := 138,res := [.t 4],body := (jq [jn 2 (.box 102 (.v 0)) [0],jn 4 (.mv (.c (.junk))) [4]] [1,2] (jq [jn 19 (.mkmap 119 1000) [],jm 20 1 [],jm 21 1 [1],jn 22 (.litOwn 122 9 1 [.v 21]) [21],jn 23 (.build [.int .i64 0,.sl 0 1 []] [(0,1,.c (.int .i64 0)),(1,1,.v 22)]) [22],⟨none,.mset 1000 (.v 19) (.v 20) (.v 23),none,[20,23]⟩,jm 24 19 [19],jm 5 24 [24]] [2,5] (.gh (.wk) (.seq (jq [jn 6 (.mv (.c (.bool true))) []] [2,5,6] (.block 0 (.loop Zy))) (jq [jm 137 5 [5],jm 4 137 [137]] [4] .ret))))) }
theorem QdW : YM Go.Proofs.Tryd.prog 27 W9 = true := by kernel_rfl
/-- impl.SkyWay: function 11 -/
def ZW : SFun := { n := 28,res := [.t 6],body := (jq [jn 3 (.box 103 (.v 0)) [0],jn 6 (.mv (.c (.sl 98 1 []))) [6]] [1,2,3] (.seq (jq [jL 7 7 3 [],jn 8 (.call 25 [.v 7]) [7],jn 9 (.not (.v 8)) [8],jm 10 9 [9],jh 11 10 (.loadN 7 (.v 3)) [],jM 12 10 1 [],jh 13 10 (.call 26 [.v 11,.v 12]) [11,12],jh 14 10 (.bin .lss (.v 13) (ci 0)) [13],jp 15 10 14 [10,14],jm 16 15 [15],jh 17 16 (.loadN 7 (.v 3)) [],jM 18 16 2 [],jh 19 16 (.call 26 [.v 17,.v 18]) [17,18],jh 20 16 (.bin .lss (.v 19) (ci 0)) [19],jp 21 16 20 [16,20]] [1,2,3,21] (.cond (.v 21) (jq [jn 6 (.mv (.c (.sl 98 1 []))) []] [6] .ret) .skip)) (jq [jL 22 7 3 [3],jm 23 1 [1],jn 24 (.call 27 [.v 22,.v 23]) [22,23],jm 25 2 [2],jn 26 (.look false 1000 (.agg [.int .i64 0,.sl 98 1 []]) (.v 24) (.v 25)) [24,25],jn 27 (.field1 1 (.v 26)) [26],jm 6 27 [27]] [6] .ret))) }
theorem V5 : YM Go.Proofs.Tryd.prog 11 ZW = true := by kernel_rfl
/-- slices.Clone[[]string,string]: function 59 -/
def ZD : SFun := { n := 8,res := [.t 2],body := (jq [jn 2 (.mv (.c (.sl 0 1 []))) [2]] [0] (.seq (jq [jm 3 0 [],jn 4 (.isnil false (.v 3)) [3]] [0,4] (.cond (.v 4) (jq [jn 2 (.mv (.c (.sl 0 1 []))) []] [2] .ret) .skip)) (jq [jn 5 (.litOwn 105 9 1 []) [],jm 6 0 [0],jn 7 (.app 105 9 1 (.v 5) (.v 6)) [5,6],jm 2 7 [7]] [2] .ret))) }
theorem Qai : YM Go.Proofs.Tryd.prog 59 ZD = true := by kernel_rfl
end Go.Ve

namespace Go.Ve
noncomputable section
open Go.Proofs
set_option linter.unusedSimpArgs false
set_option linter.unusedVariables false
set_option maxRecDepth 100000
noncomputable instance (a : Nm) (l : List Nm) : Decidable (a ∈ l) := Classical.propDecidable _
theorem QpR (t : Nat) (l : List Nm) (a : Nm) (hl : l.length ≤ 4294967296) : Contract P 90 [.sl t 1 (l.map Ko), .str a] [] (.bool (decide (a ∈ l))) [] := by
  refine QP (Env.nil P) hm Qh2 (Nat.le_of_ble_eq_true rfl) rfl ?_; unfold QdG; simp (config := { maxSteps := 2000000 }) only [bitvec_to_nat, reduceIte, Nat.reduceEqDiff, Nat.reduceAdd, Nat.reduceLeDiff, reduceCtorEq, Nat.reduceBEq, Nat.reduceLT, Nat.reduceMod, List.forall_mem_cons, Qr, Qt, Qa, Yw, Ql, List.take_length, List.length_cons, List.length_nil, Nat.zero_add, Ko, Yx, Yy, YG, Zone.row, Qj, QK, Pt.row, Qs, Jw, Aw.row, Qv, Jx, Blk.row, Qg, Qp, Sec.row, Qh, Qu, Rw.row, Qw, Jy, Qi, Int.toNat_natCast, Nat.sub_zero, List.length_map]
  refine Yz (fun i : Nat => [(5, .int .i64 i)]) (fun _ => []) (fun i => i ≤ l.length ∧ ∀ j, j < i → l.getD j default ≠ a) (fun i => l.length - i) 0 (by simp only [YC, YD, YE, YF, Qc, Qd, Qe, Qf, reduceIte, Nat.reduceEqDiff]; exact ⟨by repeat' (first | exact trivial | refine ⟨.inr rfl, ?_⟩), by repeat' (first | exact trivial | refine ⟨rfl, ?_⟩), by first | rfl | simp [closedB, Qx, Qo, Qb, dom, Qm, *], by first | rfl | simp [keepB, dom]⟩) ⟨Nat.zero_le _, by intro j hj; omega⟩ ?_
  intro i hi NX hN
  unfold Qbs; simp (config := { maxSteps := 2000000 }) only [bitvec_to_nat, reduceIte, Nat.reduceEqDiff, Nat.reduceAdd, Nat.reduceLeDiff, reduceCtorEq, Nat.reduceBEq, Nat.reduceLT, Nat.reduceMod, List.forall_mem_cons, Qr, Qt, Qa, Yw, Ql, List.take_length, List.length_cons, List.length_nil, Nat.zero_add, Ko, Yx, Yy, YG, Zone.row, Qj, QK, Pt.row, Qs, Jw, Aw.row, Qv, Jx, Blk.row, Qg, Qp, Sec.row, Qh, Qu, Rw.row, Qw, Jy, Qi, Int.toNat_natCast, Nat.sub_zero, List.length_map]
  repeat' (first | with_reducible apply And.intro | with_reducible intro _)
  all_goals first
    | omega
    | (rename_i h1 h2; rw [← h2]; exact Gi (by omega))
    | (intro hm; obtain ⟨j, hj, e⟩ := List.mem_iff_getElem.1 hm; exact hi.2 j (by omega) (by simp [hj, e]))
    | (refine hN (i + 1) _ (by simp only [YC, YD, YE, YF, Qc, Qd, Qe, Qf, reduceIte, Nat.reduceEqDiff]; exact ⟨by repeat' (first | exact trivial | refine ⟨.inr rfl, ?_⟩), by repeat' (first | exact trivial | refine ⟨rfl, ?_⟩), by first | rfl | simp [closedB, Qx, Qo, Qb, dom, Qm, *], by first | rfl | simp [keepB, dom]⟩) ?_ ?_
       · exact ⟨by omega, fun j hj => (Nat.lt_or_ge j i).elim (fun q => hi.2 j q) fun q => by rw [show j = i from by omega]; assumption⟩
       · omega)
    | trace_state
def V6 : List AV → Option (Prop × AV)
  | [.sl lt 1 lx, .str a] => some ((((lx.map unS).map Ko = lx)) ∧ ((lx.map unS).length ≤ 4294967296), .bool (decide (a ∈ (lx.map unS))))
  | _ => none
theorem QpS : ∀ args p v, V6 args = some (p, v) → p → Contract P 90 args [] v [] ∧ noref v = true ∧ No99 v := by
  intro args p v h1 h2
  unfold V6 at h1
  split at h1
  · rename_i lt lx a
    cases h1
    obtain ⟨e0, HP⟩ := h2
    have := QpR lt (lx.map unS) a HP
    exact ⟨by simpa only [e0] using this, rfl, trivial⟩
  · cases h1
theorem Qj1 {a b : Cell} (ha : a.inn) (hb : b.inn) : 0 ≤ QfB a b ∧ QfB a b ≤ 15 := by
  unfold Cell.inn at ha hb
  unfold QfB Qou
  split <;> split <;> omega
theorem QnJ (s : Sky) (a b : Nm) (hs : s.small) (hv : s.valid) (ha : 0 ≤ Xm s.pts a) (hb : 0 ≤ Xm s.pts b) : Contract P 43 [.agg (s.row 0), .str a, .str b] [] (.int .i64 (dS s a b)) [] := by
  refine QP (((Env.nil P).add 77 Qj0 Qq5).add 76 QcX Ql7) hm Qgp (Nat.le_of_ble_eq_true rfl) rfl ?_; unfold Qcx; simp (config := { maxSteps := 2000000 }) only [bitvec_to_nat, reduceIte, Nat.reduceEqDiff, Nat.reduceAdd, Nat.reduceLeDiff, reduceCtorEq, Nat.reduceBEq, Nat.reduceLT, Nat.reduceMod, List.forall_mem_cons, Qj0, QcX, Qr, Qt, Qa, Yw, Ql, List.take_length, List.length_cons, List.length_nil, Nat.zero_add, Ko, Yx, Yy, YG, Zone.row, Qj, QK, Pt.row, Qs, Jw, Aw.row, Qv, Jx, Blk.row, Qg, Qp, Sec.row, Qh, Qu, Rw.row, Qw, Jy, Qi, Int.toNat_natCast, Nat.sub_zero, List.length_map, Sky.row, Cell.row]
  exact ⟨⟨hs, ha⟩, ⟨hs, hb⟩, ⟨QbX hv ha, QbX hv hb⟩, rfl⟩
def QcZ : List AV → Option (Prop × AV)
  | [.agg [.int .i64 s_w, .int .i64 s_h, .int .i64 s_lv, .sl 0 3 s_pts, .sl 0 2 s_aws, .sl 0 2 s_secs, .sl 0 4 s_rws], .str a, .str b] => some ((((s_pts.map Y1).map Pt.row = s_pts) ∧ ((s_aws.map Y4).map (Aw.row 0) = s_aws) ∧ ((s_secs.map KC).map (Sec.row 0) = s_secs) ∧ ((s_rws.map Y2).map Rw.row = s_rws)) ∧ (Sky.small (Sky.mk s_w s_h s_lv (s_pts.map Y1) (s_aws.map Y4) (s_secs.map KC) (s_rws.map Y2)) ∧ Sky.valid (Sky.mk s_w s_h s_lv (s_pts.map Y1) (s_aws.map Y4) (s_secs.map KC) (s_rws.map Y2)) ∧ 0 ≤ Xm (Sky.pts (Sky.mk s_w s_h s_lv (s_pts.map Y1) (s_aws.map Y4) (s_secs.map KC) (s_rws.map Y2))) a ∧ 0 ≤ Xm (Sky.pts (Sky.mk s_w s_h s_lv (s_pts.map Y1) (s_aws.map Y4) (s_secs.map KC) (s_rws.map Y2))) b), .int .i64 (dS (Sky.mk s_w s_h s_lv (s_pts.map Y1) (s_aws.map Y4) (s_secs.map KC) (s_rws.map Y2)) a b))
  | _ => none
theorem QnK : ∀ args p v, QcZ args = some (p, v) → p → Contract P 43 args [] v [] ∧ noref v = true ∧ No99 v := by
  intro args p v h1 h2
  unfold QcZ at h1
  split at h1
  · rename_i s_w s_h s_lv s_pts s_aws s_secs s_rws a b
    cases h1
    obtain ⟨⟨e0, e1, e2, e3⟩, HP⟩ := h2
    have := QnJ (Sky.mk s_w s_h s_lv (s_pts.map Y1) (s_aws.map Y4) (s_secs.map KC) (s_rws.map Y2)) a b HP.1 HP.2.1 HP.2.2.1 HP.2.2.2
    exact ⟨by simpa only [e0, e1, e2, e3, Sky.row] using this, rfl, trivial⟩
  · cases h1
def Qq6 (l : List Nm) (a b : Nm) (k : Nat) : Prop := l.getD (k - 1) default = a ∧ l.getD k default = b ∨ l.getD (k - 1) default = b ∧ l.getD k default = a
theorem QnL (s : Sky) (a b : Nm) (hs : s.small) : Contract P 89 [.agg (s.row 0), .str a, .str b] [] (.bool (decide (V4 s a b))) [] := by
  have hs' := hs
  unfold Sky.small at hs
  refine QP (Env.nil P) hm Qgt (Nat.le_of_ble_eq_true rfl) rfl ?_; unfold QcM; simp (config := { maxSteps := 2000000 }) only [bitvec_to_nat, reduceIte, Nat.reduceEqDiff, Nat.reduceAdd, Nat.reduceLeDiff, reduceCtorEq, Nat.reduceBEq, Nat.reduceLT, Nat.reduceMod, List.forall_mem_cons, Qr, Qt, Qa, Yw, Ql, List.take_length, List.length_cons, List.length_nil, Nat.zero_add, Ko, Yx, Yy, YG, Zone.row, Qj, QK, Pt.row, Qs, Jw, Aw.row, Qv, Jx, Blk.row, Qg, Qp, Sec.row, Qh, Qu, Rw.row, Qw, Jy, Qi, Int.toNat_natCast, Nat.sub_zero, List.length_map, Sky.row]
  refine Yz (fun i : Nat => [(7, .int .i64 i)]) (fun _ => []) (fun i => i ≤ s.aws.length ∧ ∀ j, j < i → ∀ k, k < (s.aws.getD j default).pts.length → 0 < k → ¬ Qq6 (s.aws.getD j default).pts a b k) (fun i => s.aws.length - i) 0 (by simp only [YC, YD, YE, YF, Qc, Qd, Qe, Qf, reduceIte, Nat.reduceEqDiff]; exact ⟨by repeat' (first | exact trivial | refine ⟨.inr rfl, ?_⟩), by repeat' (first | exact trivial | refine ⟨rfl, ?_⟩), by first | rfl | simp [closedB, Qx, Qo, Qb, dom, Qm, *], by first | rfl | simp [keepB, dom]⟩) ⟨Nat.zero_le _, by intro j hj; omega⟩ ?_
  intro i hi NX hN
  unfold QaL; simp (config := { maxSteps := 2000000 }) only [bitvec_to_nat, reduceIte, Nat.reduceEqDiff, Nat.reduceAdd, Nat.reduceLeDiff, reduceCtorEq, Nat.reduceBEq, Nat.reduceLT, Nat.reduceMod, List.forall_mem_cons, Qr, Qt, Qa, Yw, Ql, List.take_length, List.length_cons, List.length_nil, Nat.zero_add, Ko, Yx, Yy, YG, Zone.row, Qj, QK, Pt.row, Qs, Jw, Aw.row, Qv, Jx, Blk.row, Qg, Qp, Sec.row, Qh, Qu, Rw.row, Qw, Jy, Qi, Int.toNat_natCast, Nat.sub_zero, List.length_map, Sky.row]
  refine ⟨fun h => ⟨by omega, h, ?_⟩, fun h => ?_⟩
  · have hl := Sky.small_aw hs' (i := i) (by omega)
    generalize hL : (s.aws.getD i default).pts = L at hl
    refine Yz (fun k : Nat => [(9, .int .i64 k)]) (fun _ => []) (fun k => 1 ≤ k ∧ k ≤ L.length + 1 ∧ ∀ k', k' < k → k' < L.length → 0 < k' → ¬ Qq6 L a b k') (fun k => L.length + 1 - k) 1 (by simp only [YC, YD, YE, YF, Qc, Qd, Qe, Qf, reduceIte, Nat.reduceEqDiff]; exact ⟨by repeat' (first | exact trivial | refine ⟨.inr rfl, ?_⟩), by repeat' (first | exact trivial | refine ⟨rfl, ?_⟩), by first | rfl | simp [closedB, Qx, Qo, Qb, dom, Qm, *], by first | rfl | simp [keepB, dom]⟩) ⟨by omega, by omega, by intro k' h1 _ h2; omega⟩ ?_
    intro k hk NX2 hN2
    have t1 : ((k : Int) - 1).toNat = k - 1 := by omega
    unfold QaK; simp (config := { maxSteps := 2000000 }) only [bitvec_to_nat, reduceIte, Nat.reduceEqDiff, Nat.reduceAdd, Nat.reduceLeDiff, reduceCtorEq, Nat.reduceBEq, Nat.reduceLT, Nat.reduceMod, List.forall_mem_cons, Qr, Qt, Qa, Yw, Ql, List.take_length, List.length_cons, List.length_nil, Nat.zero_add, Ko, Yx, Yy, YG, Zone.row, Qj, QK, Pt.row, Qs, Jw, Aw.row, Qv, Jx, Blk.row, Qg, Qp, Sec.row, Qh, Qu, Rw.row, Qw, Jy, Qi, Int.toNat_natCast, Nat.sub_zero, List.length_map, Sky.row, t1]
    have adj : Qq6 L a b k → k < L.length → V4 s a b := fun he hl => ⟨i, by omega, k, by rw [hL]; exact hl, by omega, by rw [hL]; exact he⟩
    repeat' (first | with_reducible apply And.intro | with_reducible intro _)
    all_goals first
      | omega
      | exact adj (.inl ⟨by assumption, by assumption⟩) (by omega)
      | exact adj (.inr ⟨by assumption, by assumption⟩) (by omega)
      | (refine hN2 (k + 1) _ (by simp only [YC, YD, YE, YF, Qc, Qd, Qe, Qf, reduceIte, Nat.reduceEqDiff]; exact ⟨by repeat' (first | exact trivial | refine ⟨.inr rfl, ?_⟩), by repeat' (first | exact trivial | refine ⟨rfl, ?_⟩), by first | rfl | simp [closedB, Qx, Qo, Qb, dom, Qm, *], by first | rfl | simp [keepB, dom]⟩) ?_ ?_
         · refine ⟨by omega, by omega, fun k' h1 h2 h3 => ?_⟩
           rcases Nat.lt_or_ge k' k with q | q
           · exact hk.2.2 k' q h2 h3
           · rw [show k' = k from by omega]; rintro (⟨h1, h2⟩ | ⟨h1, h2⟩) <;> contradiction
         · omega)
      | (refine hN (i + 1) _ (by simp only [YC, YD, YE, YF, Qc, Qd, Qe, Qf, reduceIte, Nat.reduceEqDiff]; exact ⟨by repeat' (first | exact trivial | refine ⟨.inr rfl, ?_⟩), by repeat' (first | exact trivial | refine ⟨rfl, ?_⟩), by first | rfl | simp [closedB, Qx, Qo, Qb, dom, Qm, *], by first | rfl | simp [keepB, dom]⟩) ?_ ?_
         · refine ⟨by omega, fun j hj k' h1 h2 => ?_⟩
           rcases Nat.lt_or_ge j i with q | q
           · exact hi.2 j q k' h1 h2
           · rw [show j = i from by omega, hL] at h1 ⊢; exact hk.2.2 k' (by omega) h1 h2
         · omega)
      | trace_state
  · rintro ⟨j, hj, k, hk, h0, he⟩
    exact hi.2 j (by omega) k hk h0 he
def ZX : List AV → Option (Prop × AV)
  | [.agg [.int .i64 s_w, .int .i64 s_h, .int .i64 s_lv, .sl 0 3 s_pts, .sl 0 2 s_aws, .sl 0 2 s_secs, .sl 0 4 s_rws], .str a, .str b] => some ((((s_pts.map Y1).map Pt.row = s_pts) ∧ ((s_aws.map Y4).map (Aw.row 0) = s_aws) ∧ ((s_secs.map KC).map (Sec.row 0) = s_secs) ∧ ((s_rws.map Y2).map Rw.row = s_rws)) ∧ (Sky.small (Sky.mk s_w s_h s_lv (s_pts.map Y1) (s_aws.map Y4) (s_secs.map KC) (s_rws.map Y2))), .bool (decide (V4 (Sky.mk s_w s_h s_lv (s_pts.map Y1) (s_aws.map Y4) (s_secs.map KC) (s_rws.map Y2)) a b)))
  | _ => none
theorem QnM : ∀ args p v, ZX args = some (p, v) → p → Contract P 89 args [] v [] ∧ noref v = true ∧ No99 v := by
  intro args p v h1 h2
  unfold ZX at h1
  split at h1
  · rename_i s_w s_h s_lv s_pts s_aws s_secs s_rws a b
    cases h1
    obtain ⟨⟨e0, e1, e2, e3⟩, HP⟩ := h2
    have := QnL (Sky.mk s_w s_h s_lv (s_pts.map Y1) (s_aws.map Y4) (s_secs.map KC) (s_rws.map Y2)) a b HP
    exact ⟨by simpa only [e0, e1, e2, e3, Sky.row] using this, rfl, trivial⟩
  · cases h1
theorem Ql9 {d : Nm → Nm → Int} (h : ∀ a b, 0 ≤ d a b ∧ d a b ≤ 15) : ∀ w : List Nm, 0 ≤ Up d w ∧ Up d w ≤ 15 * w.length
  | [] => by simp [Up]
  | [x] => by simp [Up]
  | x :: y :: r => by have := Ql9 h (y :: r); have := h x y; simp only [Up, List.length_cons] at *; omega
theorem Qik {d : Nm → Nm → Int} : ∀ {w : List Nm} {i : Nat}, 0 < i → i < w.length → Up d (w.take (i + 1)) = Up d (w.take i) + d (w.getD (i - 1) default) (w.getD i default)
  | [], i, h0, h => by simp at h
  | [x], i, h0, h => by simp at h; omega
  | x :: y :: r, 1, h0, h => by simp [Up]
  | x :: y :: r, i + 2, h0, h => by
    have ih := Qik (d := d) (w := y :: r) (i := i + 1) (by omega) (by simpa using h)
    simp only [List.take_succ_cons] at ih ⊢
    simp only [Up]
    rw [ih]
    simp
    omega
theorem QnN (s : Sky) (t : Nat) (w : List Nm) (hs : s.small) (hv : s.valid) (hw : ∀ z ∈ w, 0 ≤ Xm s.pts z) (hl : w.length ≤ 1048576) : Contract P 20 [.agg (s.row 0), .sl t 1 (w.map Ko)] [] (.int .i64 (Up (dS s) w)) [] := by
  have hd : ∀ i, 0 < i → i < w.length → 0 ≤ dS s (w.getD (i - 1) default) (w.getD i default) ∧ dS s (w.getD (i - 1) default) (w.getD i default) ≤ 15 := fun i h0 hi => by
    have := Qj1 (QbX hv (hw _ (Gi (show i - 1 < w.length by omega)))) (QbX hv (hw _ (Gi hi)))
    exact this
  have e0 : Up (dS s) (w.take 1) = 0 := by cases w <;> simp [Up]
  refine QP ((Env.nil P).add 43 QcZ QnK) hm Qgo (Nat.le_of_ble_eq_true rfl) rfl ?_; unfold Qcr; simp (config := { maxSteps := 2000000 }) only [bitvec_to_nat, reduceIte, Nat.reduceEqDiff, Nat.reduceAdd, Nat.reduceLeDiff, reduceCtorEq, Nat.reduceBEq, Nat.reduceLT, Nat.reduceMod, List.forall_mem_cons, QcZ, Qr, Qt, Qa, Yw, Ql, List.take_length, List.length_cons, List.length_nil, Nat.zero_add, Ko, Yx, Yy, YG, Zone.row, Qj, QK, Pt.row, Qs, Jw, Aw.row, Qv, Jx, Blk.row, Qg, Qp, Sec.row, Qh, Qu, Rw.row, Qw, Jy, Qi, Int.toNat_natCast, Nat.sub_zero, List.length_map, Sky.row]
  refine Yz (fun i : Nat => [(5, .int .i64 (Up (dS s) (w.take i))), (6, .int .i64 i)]) (fun _ => []) (fun i => 1 ≤ i ∧ i ≤ w.length + 1 ∧ 0 ≤ Up (dS s) (w.take i) ∧ Up (dS s) (w.take i) ≤ 15 * i) (fun i => w.length + 1 - i) 1 (by simp only [e0]; simp only [YC, YD, YE, YF, Qc, Qd, Qe, Qf, reduceIte, Nat.reduceEqDiff]; exact ⟨by repeat' (first | exact trivial | refine ⟨.inr rfl, ?_⟩), by repeat' (first | exact trivial | refine ⟨rfl, ?_⟩), by first | rfl | simp [closedB, Qx, Qo, Qb, dom, Qm, *], by first | rfl | simp [keepB, dom]⟩) ⟨by omega, by omega, by rw [e0]; omega, by rw [e0]; omega⟩ ?_
  intro i hi NX hN
  have t1 : ((i : Int) - 1).toNat = i - 1 := by omega
  unfold Qaw; simp (config := { maxSteps := 2000000 }) only [bitvec_to_nat, reduceIte, Nat.reduceEqDiff, Nat.reduceAdd, Nat.reduceLeDiff, reduceCtorEq, Nat.reduceBEq, Nat.reduceLT, Nat.reduceMod, List.forall_mem_cons, QcZ, Qr, Qt, Qa, Yw, Ql, List.take_length, List.length_cons, List.length_nil, Nat.zero_add, Ko, Yx, Yy, YG, Zone.row, Qj, QK, Pt.row, Qs, Jw, Aw.row, Qv, Jx, Blk.row, Qg, Qp, Sec.row, Qh, Qu, Rw.row, Qw, Jy, Qi, Int.toNat_natCast, Nat.sub_zero, List.length_map, Sky.row, t1]
  refine ⟨fun h => ?_, fun h => ?_⟩
  · have h1 := hd i (by omega) (by omega)
    have h2 := Qik (d := dS s) (w := w) (i := i) (by omega) (by omega)
    refine ⟨by omega, by omega, by omega, by omega, by omega, ⟨⟨hs, hv, hw _ (Gi (by omega)), hw _ (Gi (by omega))⟩, ⟨by omega, by omega⟩, ⟨by omega, by omega⟩, ?_⟩⟩
    refine hN (i + 1) _ (by simp only [h2]; simp only [YC, YD, YE, YF, Qc, Qd, Qe, Qf, reduceIte, Nat.reduceEqDiff]; exact ⟨by repeat' (first | exact trivial | refine ⟨.inr rfl, ?_⟩), by repeat' (first | exact trivial | refine ⟨rfl, ?_⟩), by first | rfl | simp [closedB, Qx, Qo, Qb, dom, Qm, *], by first | rfl | simp [keepB, dom]⟩) ⟨by omega, by omega, by omega, by omega⟩ (by omega)
  · have e : i = w.length ∨ w.take i = w := by
      rcases Nat.lt_or_ge w.length i with q | q
      · exact .inr (List.take_of_length_le (by omega))
      · exact .inl (by omega)
    have e2 : w.take i = w := e.elim (fun e => by rw [e, List.take_length]) id
    rw [e2]
end
end Go.Ve

namespace Go.Ve
noncomputable section
open Go.Proofs
set_option linter.unusedSimpArgs false
set_option linter.unusedVariables false
set_option maxRecDepth 100000
def Qc0 : List AV → Option (Prop × AV)
  | [.agg [.int .i64 s_w, .int .i64 s_h, .int .i64 s_lv, .sl 0 3 s_pts, .sl 0 2 s_aws, .sl 0 2 s_secs, .sl 0 4 s_rws], .sl wt 1 wx] => some ((((s_pts.map Y1).map Pt.row = s_pts) ∧ ((s_aws.map Y4).map (Aw.row 0) = s_aws) ∧ ((s_secs.map KC).map (Sec.row 0) = s_secs) ∧ ((s_rws.map Y2).map Rw.row = s_rws) ∧ ((wx.map unS).map Ko = wx)) ∧ (Sky.small (Sky.mk s_w s_h s_lv (s_pts.map Y1) (s_aws.map Y4) (s_secs.map KC) (s_rws.map Y2)) ∧ Sky.valid (Sky.mk s_w s_h s_lv (s_pts.map Y1) (s_aws.map Y4) (s_secs.map KC) (s_rws.map Y2)) ∧ (∀ z ∈ (wx.map unS), 0 ≤ Xm (Sky.pts (Sky.mk s_w s_h s_lv (s_pts.map Y1) (s_aws.map Y4) (s_secs.map KC) (s_rws.map Y2))) z) ∧ (wx.map unS).length ≤ 1048576), .int .i64 (Up (dS (Sky.mk s_w s_h s_lv (s_pts.map Y1) (s_aws.map Y4) (s_secs.map KC) (s_rws.map Y2))) (wx.map unS)))
  | _ => none
theorem QnO : ∀ args p v, Qc0 args = some (p, v) → p → Contract P 20 args [] v [] ∧ noref v = true ∧ No99 v := by
  intro args p v h1 h2
  unfold Qc0 at h1
  split at h1
  · rename_i s_w s_h s_lv s_pts s_aws s_secs s_rws wt wx
    cases h1
    obtain ⟨⟨e0, e1, e2, e3, e4⟩, HP⟩ := h2
    have := QnN (Sky.mk s_w s_h s_lv (s_pts.map Y1) (s_aws.map Y4) (s_secs.map KC) (s_rws.map Y2)) wt (wx.map unS) HP.1 HP.2.1 HP.2.2.1 HP.2.2.2
    exact ⟨by simpa only [e0, e1, e2, e3, e4, Sky.row] using this, rfl, trivial⟩
  · cases h1
theorem Qq7 : ∀ {a b : List Nm} {i : Nat}, a.length = b.length → i < a.length → (∀ j, j < i → a.getD j default = b.getD j default) → a.getD i default ≠ b.getD i default → (lx a b ↔ slt (a.getD i default) (b.getD i default))
  | [], _, i, _, h, _, _ => by simp at h
  | _ :: _, [], i, h, _, _, _ => by simp at h
  | x :: a, y :: b, 0, h, hi, k, n => by
    simp only [List.getD_cons_zero] at n ⊢
    simp only [lx, n, false_and, or_false]
  | x :: a, y :: b, i + 1, h, hi, k, n => by
    have e := k 0 (by omega)
    simp only [List.getD_cons_zero] at e
    subst e
    have ih := Qq7 (a := a) (b := b) (i := i) (by simpa using h) (by simpa using hi) (fun j hj => by simpa using k (j + 1) (by omega)) (by simpa using n)
    simp only [lx, Xk, false_or, true_and, List.getD_cons_succ, ih]
theorem Qov {a b : List Nm} (h : a.length = b.length) (k : ∀ j, j < a.length → a.getD j default = b.getD j default) : a = b := List.ext_getElem h fun i h1 h2 => by have := k i h1; simpa [h1, h2] using this
noncomputable instance (d : Nm → Nm → Int) (a b : List Nm) : Decidable (bt d a b) := Classical.propDecidable _
noncomputable instance (d : Nm → Nm → Int) (a b : List Nm) : Decidable (b = [] ∨ bt d a b) := Classical.propDecidable _
set_option maxHeartbeats 1000000 in
theorem QkJ (s : Sky) (t t' : Nat) (a b : List Nm) (hs : s.small) (hv : s.valid) (ha : ∀ z ∈ a, 0 ≤ Xm s.pts z) (hb : ∀ z ∈ b, 0 ≤ Xm s.pts z) (hla : a.length ≤ 1048576) (hlb : b.length ≤ 1048576) : Contract P 91 [.agg (s.row 0), .sl t 1 (a.map Ko), .sl t' 1 (b.map Ko)] [] (.bool (decide (b = [] ∨ bt (dS s) a b))) [] := by
  refine QP ((Env.nil P).add 20 Qc0 QnO) hm Qe5 (Nat.le_of_ble_eq_true rfl) rfl ?_; unfold QaM; simp (config := { maxSteps := 2000000 }) only [bitvec_to_nat, reduceIte, Nat.reduceEqDiff, Nat.reduceAdd, Nat.reduceLeDiff, reduceCtorEq, Nat.reduceBEq, Nat.reduceLT, Nat.reduceMod, List.forall_mem_cons, Qc0, Qr, Qt, Qa, Yw, Ql, List.take_length, List.length_cons, List.length_nil, Nat.zero_add, Ko, Yx, Yy, YG, Zone.row, Qj, QK, Pt.row, Qs, Jw, Aw.row, Qv, Jx, Blk.row, Qg, Qp, Sec.row, Qh, Qu, Rw.row, Qw, Jy, Qi, Int.toNat_natCast, Nat.sub_zero, List.length_map, Sky.row]
  refine ⟨fun h => ?_, fun h => ⟨⟨hs, hv, ha, hla⟩, ⟨hs, hv, hb, hlb⟩, fun h2 => ?_, fun h2 => ⟨fun h3 => ?_, fun h3 => ?_⟩⟩⟩
  · left; exact List.length_eq_zero_iff.1 (by omega)
  · refine ⟨⟨hs, hv, ha, hla⟩, ⟨hs, hv, hb, hlb⟩, ?_⟩
    have hne : b ≠ [] := fun e => h (by rw [e]; rfl)
    rw [decide_eq_decide]
    unfold bt
    exact ⟨fun q => .inr (.inl q), fun q => (q.resolve_left hne).elim id fun q => absurd q.1 h2⟩
  · have hne : b ≠ [] := fun e => h (by rw [e]; rfl)
    rw [decide_eq_decide]
    unfold bt
    exact ⟨fun q => .inr (.inr ⟨h2, .inl (by omega)⟩), fun q => (q.resolve_left hne).elim (fun q => by omega) fun q => q.2.elim (fun q => by omega) fun q => by omega⟩
  · have hl : a.length = b.length := by omega
    refine Yz (fun i : Nat => [(7, .int .i64 i)]) (fun _ => []) (fun i => i ≤ a.length ∧ ∀ j, j < i → a.getD j default = b.getD j default) (fun i => a.length - i) 0 (by simp only [YC, YD, YE, YF, Qc, Qd, Qe, Qf, reduceIte, Nat.reduceEqDiff]; exact ⟨by repeat' (first | exact trivial | refine ⟨.inr rfl, ?_⟩), by repeat' (first | exact trivial | refine ⟨rfl, ?_⟩), by first | rfl | simp [closedB, Qx, Qo, Qb, dom, Qm, *], by first | rfl | simp [keepB, dom]⟩) ⟨Nat.zero_le _, by intro j hj; omega⟩ ?_
    intro i hi NX hN
    unfold Wv; simp (config := { maxSteps := 2000000 }) only [bitvec_to_nat, reduceIte, Nat.reduceEqDiff, Nat.reduceAdd, Nat.reduceLeDiff, reduceCtorEq, Nat.reduceBEq, Nat.reduceLT, Nat.reduceMod, List.forall_mem_cons, Qc0, Qr, Qt, Qa, Yw, Ql, List.take_length, List.length_cons, List.length_nil, Nat.zero_add, Ko, Yx, Yy, YG, Zone.row, Qj, QK, Pt.row, Qs, Jw, Aw.row, Qv, Jx, Blk.row, Qg, Qp, Sec.row, Qh, Qu, Rw.row, Qw, Jy, Qi, Int.toNat_natCast, Nat.sub_zero, List.length_map, Sky.row]
    have hne : b ≠ [] := fun e => h (by rw [e]; rfl)
    have hbt : (b = [] ∨ bt (dS s) a b) ↔ lx a b := by
      unfold bt
      exact ⟨fun q => (q.resolve_left hne).elim (fun q => by omega) fun q => q.2.elim (fun q => by omega) fun q => q.2, fun q => .inr (.inr ⟨h2, .inr ⟨hl, q⟩⟩)⟩
    refine ⟨fun q => ⟨by omega, q, by omega, by omega, fun e => ⟨by omega, ?_⟩, fun e => ⟨by omega, q, by omega, by omega, ?_⟩⟩, fun q => ?_⟩
    · refine hN (i + 1) _ (by simp only [YC, YD, YE, YF, Qc, Qd, Qe, Qf, reduceIte, Nat.reduceEqDiff]; exact ⟨by repeat' (first | exact trivial | refine ⟨.inr rfl, ?_⟩), by repeat' (first | exact trivial | refine ⟨rfl, ?_⟩), by first | rfl | simp [closedB, Qx, Qo, Qb, dom, Qm, *], by first | rfl | simp [keepB, dom]⟩) ?_ ?_
      · refine ⟨by omega, fun j hj => ?_⟩
        rcases Nat.lt_or_ge j i with q2 | q2
        · exact hi.2 j q2
        · rw [show j = i from by omega]; exact e
      · omega
    · rw [decide_eq_decide, hbt, Qq7 hl (by omega) hi.2 e]
    · rw [hbt, Qov hl fun j hj => hi.2 j (by omega)]; exact QeQ _
def Xz : List AV → Option (Prop × AV)
  | [.agg [.int .i64 s_w, .int .i64 s_h, .int .i64 s_lv, .sl 0 3 s_pts, .sl 0 2 s_aws, .sl 0 2 s_secs, .sl 0 4 s_rws], .sl ut 1 ux, .sl vt 1 vx] => some ((((s_pts.map Y1).map Pt.row = s_pts) ∧ ((s_aws.map Y4).map (Aw.row 0) = s_aws) ∧ ((s_secs.map KC).map (Sec.row 0) = s_secs) ∧ ((s_rws.map Y2).map Rw.row = s_rws) ∧ ((ux.map unS).map Ko = ux) ∧ ((vx.map unS).map Ko = vx)) ∧ (Sky.small (Sky.mk s_w s_h s_lv (s_pts.map Y1) (s_aws.map Y4) (s_secs.map KC) (s_rws.map Y2)) ∧ Sky.valid (Sky.mk s_w s_h s_lv (s_pts.map Y1) (s_aws.map Y4) (s_secs.map KC) (s_rws.map Y2)) ∧ (∀ z ∈ (ux.map unS), 0 ≤ Xm (Sky.pts (Sky.mk s_w s_h s_lv (s_pts.map Y1) (s_aws.map Y4) (s_secs.map KC) (s_rws.map Y2))) z) ∧ (∀ z ∈ (vx.map unS), 0 ≤ Xm (Sky.pts (Sky.mk s_w s_h s_lv (s_pts.map Y1) (s_aws.map Y4) (s_secs.map KC) (s_rws.map Y2))) z) ∧ (ux.map unS).length ≤ 1048576 ∧ (vx.map unS).length ≤ 1048576), .bool (decide ((vx.map unS) = [] ∨ bt (dS (Sky.mk s_w s_h s_lv (s_pts.map Y1) (s_aws.map Y4) (s_secs.map KC) (s_rws.map Y2))) (ux.map unS) (vx.map unS))))
  | _ => none
theorem QkK : ∀ args p v, Xz args = some (p, v) → p → Contract P 91 args [] v [] ∧ noref v = true ∧ No99 v := by
  intro args p v h1 h2
  unfold Xz at h1
  split at h1
  · rename_i s_w s_h s_lv s_pts s_aws s_secs s_rws ut ux vt vx
    cases h1
    obtain ⟨⟨e0, e1, e2, e3, e4, e5⟩, HP⟩ := h2
    have := QkJ (Sky.mk s_w s_h s_lv (s_pts.map Y1) (s_aws.map Y4) (s_secs.map KC) (s_rws.map Y2)) ut vt (ux.map unS) (vx.map unS) HP.1 HP.2.1 HP.2.2.1 HP.2.2.2.1 HP.2.2.2.2.1 HP.2.2.2.2.2
    exact ⟨by simpa only [e0, e1, e2, e3, e4, e5, Sky.row] using this, rfl, trivial⟩
  · cases h1
end
end Go.Ve

