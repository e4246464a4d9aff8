/- Part 4 of the proof: laws and contracts of functions, each proved; they are joined in the last part. No conditions beyond those that the theorems state. -/
import Derived.Test.YtagikldfacbonaaDoorProg
import Derived.Test.YtagikldfacbonaaDoorSf3
set_option linter.all false
namespace Go.Ve
noncomputable section
open Go.Proofs
set_option linter.unusedSimpArgs false
set_option linter.unusedVariables false
set_option maxRecDepth 100000
theorem Qa7 {α : Type} [Inhabited α] {l : List α} {i : Nat} (h : i < l.length) : l.getD i default ∈ l := by simp [h]
theorem YL {l : List Sec} {i : Nat} (hi : i < l.length) : Q6 (l.take (i + 1)) = Q6 (l.take i) ++ (l.getD i default).bl := by
  have e : l.getD i default = l[i] := by simp [hi]
  rw [e, List.take_succ_eq_append_getElem hi]; simp only [Q6, List.flatMap_append, List.flatMap_cons, List.flatMap_nil, List.append_nil]
theorem UG {l : List Sec} (h : ∀ j, j < l.length → (l.getD j default).bl.length ≤ 4) : ∀ i, i ≤ l.length → (Q6 (l.take i)).length ≤ 4 * i
  | 0, _ => by simp [Q6]
  | i + 1, hi => by
    rw [YL (by omega), List.length_append]
    have := UG h i (by omega); have := h i (by omega); omega
theorem Qgg {w h lv : Int} {l : List Sec} (hq : X7 w h lv l) : (Q6 l).length ≤ 24 ∧ ∀ b ∈ Q6 l, b.ok w h lv := by
  constructor
  · have := UG (fun j hj => (hq.2 j hj).2.2.1.2) l.length (Nat.le_refl _)
    rw [List.take_length] at this; have := hq.1; omega
  · intro b hb
    simp only [Q6, List.mem_flatMap] at hb
    obtain ⟨x, hx, hb⟩ := hb
    obtain ⟨i, hi, rfl⟩ := List.mem_iff_getElem.1 hx
    obtain ⟨k, hk, rfl⟩ := List.mem_iff_getElem.1 hb
    have := ((hq.2 i hi).2.2.2 k (by simpa [hi] using hk)).1
    simpa [hi, hk] using this
theorem Qcm {w h lv : Int} {b : Blk} (hd : KY w h lv) (hb : b.ok w h lv) : (1 ≤ b.x1 - b.x0 + 1 ∧ b.x1 - b.x0 + 1 ≤ 16) ∧ (1 ≤ b.y1 - b.y0 + 1 ∧ b.y1 - b.y0 + 1 ≤ 16) ∧ (1 ≤ b.hi - b.lo + 1 ∧ b.hi - b.lo + 1 ≤ 6) ∧
    (1 ≤ (b.x1 - b.x0 + 1) * (b.y1 - b.y0 + 1) ∧ (b.x1 - b.x0 + 1) * (b.y1 - b.y0 + 1) ≤ 256) ∧ 1 ≤ b.vol ∧ b.vol ≤ 1536 := by
  unfold KY at hd; unfold Blk.ok at hb; unfold Blk.vol
  have h1 : 1 ≤ b.x1 - b.x0 + 1 ∧ b.x1 - b.x0 + 1 ≤ 16 := by omega
  have h2 : 1 ≤ b.y1 - b.y0 + 1 ∧ b.y1 - b.y0 + 1 ≤ 16 := by omega
  have h3 : 1 ≤ b.hi - b.lo + 1 ∧ b.hi - b.lo + 1 ≤ 6 := by omega
  generalize b.x1 - b.x0 + 1 = x at *
  generalize b.y1 - b.y0 + 1 = y at *
  generalize b.hi - b.lo + 1 = z at *
  have h4 : 1 ≤ x * y ∧ x * y ≤ 256 := by
    have a : 0 ≤ (x - 1) * (y - 1) := Int.mul_nonneg (by omega) (by omega)
    have c : 0 ≤ (16 - x) * (y - 1) := Int.mul_nonneg (by omega) (by omega)
    rw [Int.sub_mul, Int.mul_sub, Int.mul_sub] at a c
    omega
  refine ⟨h1, h2, h3, h4, ?_⟩
  generalize x * y = q at *
  have a : 0 ≤ (q - 1) * (z - 1) := Int.mul_nonneg (by omega) (by omega)
  have c : 0 ≤ (256 - q) * (z - 1) := Int.mul_nonneg (by omega) (by omega)
  rw [Int.sub_mul, Int.mul_sub, Int.mul_sub] at a c
  omega
theorem Qgh {l : List Blk} {i : Nat} (hi : i < l.length) : Qew (l.take (i + 1)) = Qew (l.take i) + (l.getD i default).vol := by
  have e : l.getD i default = l[i] := by simp [hi]
  rw [e, List.take_succ_eq_append_getElem hi]; simp only [Qew, List.map_append, List.map_cons, List.map_nil, List.sum_append, List.sum_cons, List.sum_nil, Int.add_zero]
theorem Qdi {w h lv : Int} (hd : KY w h lv) : ∀ {l : List Blk} (_ : ∀ b ∈ l, b.ok w h lv), 0 ≤ Qew l ∧ Qew l ≤ 1536 * l.length
  | [], _ => by simp [Qew]
  | b :: l, hb => by
    have ih := Qdi hd (l := l) fun x hx => hb x (by simp [hx])
    have := (Qcm hd (hb b (by simp))).2.2.2.2
    simp only [Qew, List.map_cons, List.sum_cons, List.length_cons] at *
    omega
theorem Qey {w h lv : Int} (hd : KY w h lv) : (1 ≤ w * h ∧ w * h ≤ 256) ∧ 1 ≤ w * h * lv ∧ w * h * lv ≤ 1536 := by
  have hb : (Blk.mk 0 0 (w - 1) (h - 1) 1 lv).ok w h lv := by unfold KY at hd; unfold Blk.ok; simp only; omega
  have := (Qcm hd hb).2.2.2
  unfold Blk.vol at this
  simp only [show w - 1 - 0 + 1 = w by omega, show h - 1 - 0 + 1 = h by omega, show lv - 1 + 1 = lv by omega] at this
  exact this
theorem Qff (s : Sky) (hq : X7 s.w s.h s.lv s.secs) : Contract P 85 [.agg (s.row 0)] [] (.sl 0 6 ((Q6 s.secs).map Blk.row)) [] := by
  have hl : s.secs.length ≤ 6 := hq.1
  have hb := UG fun j hj => (hq.2 j hj).2.2.1.2
  simp only [Sky.row]
  refine Qs (Env.nil P) hm Wi (Nat.le_of_ble_eq_true rfl) rfl ?_; unfold XB; simp (config := { maxSteps := 2000000 }) only [bitvec_to_nat, reduceIte, Nat.reduceEqDiff, Nat.reduceAdd, Nat.reduceLeDiff, reduceCtorEq, Nat.reduceBEq, Nat.reduceLT, Nat.reduceMod, List.forall_mem_cons, Qh, Qj, Qa, QN, Qg, List.take_length, List.length_cons, List.length_nil, Nat.zero_add, QF, QS, QQ, QU, Zone.row, Qe, Qo, Pt.row, Qi, Qu, Aw.row, Qm, QA, Blk.row, Qb, Qk, Sec.row, Qc, Ql, Rw.row, Qn, QB, Qd]
  refine QP (fun i : Nat => [(3, .own 105 i 0 (Q6 (s.secs.take i)).length), (4, .int .i64 i)]) (fun i => [(105, .arr 99 i 6 ((Q6 (s.secs.take i)).map Blk.row))]) (fun i => i ≤ s.secs.length) (fun i => s.secs.length - i) (0) (by simp only [Jz, JA, JB, JC, Qw, Qx, Qy, Qz, reduceIte, Nat.reduceEqDiff]; exact ⟨by repeat' (first | exact trivial | refine ⟨.inr rfl, ?_⟩), by repeat' (first | exact trivial | refine ⟨rfl, ?_⟩), by first | rfl | simp [closedB, Qr, Qp, Qt, dom, Qf, *], by first | rfl | simp [keepB, dom]⟩) ?_ ?_
  · exact Nat.zero_le _
  intro i hi NX hN
  unfold GM; simp (config := { maxSteps := 2000000 }) only [bitvec_to_nat, reduceIte, Nat.reduceEqDiff, Nat.reduceAdd, Nat.reduceLeDiff, reduceCtorEq, Nat.reduceBEq, Nat.reduceLT, Nat.reduceMod, List.forall_mem_cons, Qh, Qj, Qa, QN, Qg, List.take_length, List.length_cons, List.length_nil, Nat.zero_add, QF, QS, QQ, QU, Zone.row, Qe, Qo, Pt.row, Qi, Qu, Aw.row, Qm, QA, Blk.row, Qb, Qk, Sec.row, Qc, Ql, Rw.row, Qn, QB, Qd]
  have hb1 := hb i hi
  refine ⟨fun g1 => ⟨by omega, by omega, ?_⟩, fun g1 => ?_⟩
  · have hb2 := (hq.2 i (by omega)).2.2.1.2
    refine ⟨by omega, by omega, ?_⟩
    have e := YL (l := s.secs) (i := i) (by omega)
    refine hN (i + 1) _ (by simp only [e, List.length_append, List.length_cons, List.length_nil, Nat.zero_add, List.map_append, List.map_cons, List.map_nil, Jz, JA, JB, JC, Qw, Qx, Qy, Qz, reduceIte, Nat.reduceEqDiff]; exact ⟨by repeat' (first | exact trivial | refine ⟨.inr rfl, ?_⟩), by repeat' (first | exact trivial | refine ⟨rfl, ?_⟩), by first | rfl | simp [closedB, Qr, Qp, Qt, dom, Qf, *], by first | rfl | simp [keepB, dom]⟩) ?_ ?_
    · omega
    · omega
  · have e : i = s.secs.length := by omega
    subst e
    simp [List.take_length]
def Yr : List AV → Option (Prop × AV)
  | [.agg [.int .i64 s_w, .int .i64 s_h, .int .i64 s_lv, .sl 0 3 s_pts, .sl 0 2 s_aws, .sl 0 2 s_secs, .sl 0 4 s_rws]] => some ((((s_pts.map QO).map Pt.row = s_pts) ∧ ((s_aws.map QR).map (Aw.row 0) = s_aws) ∧ ((s_secs.map Qv).map (Sec.row 0) = s_secs) ∧ ((s_rws.map QT).map Rw.row = s_rws)) ∧ (X7 (Sky.mk s_w s_h s_lv (s_pts.map QO) (s_aws.map QR) (s_secs.map Qv) (s_rws.map QT)).w (Sky.mk s_w s_h s_lv (s_pts.map QO) (s_aws.map QR) (s_secs.map Qv) (s_rws.map QT)).h (Sky.mk s_w s_h s_lv (s_pts.map QO) (s_aws.map QR) (s_secs.map Qv) (s_rws.map QT)).lv (Sky.mk s_w s_h s_lv (s_pts.map QO) (s_aws.map QR) (s_secs.map Qv) (s_rws.map QT)).secs), .sl 0 6 ((Q6 (Sky.mk s_w s_h s_lv (s_pts.map QO) (s_aws.map QR) (s_secs.map Qv) (s_rws.map QT)).secs).map Blk.row))
  | _ => none
theorem Qfg : ∀ args p v, Yr args = some (p, v) → p → Contract P 85 args [] v [] ∧ noref v = true ∧ No99 v := by
  intro args p v h1 h2
  unfold Yr at h1
  split at h1
  · rename_i s_w s_h s_lv s_pts s_aws s_secs s_rws
    cases h1
    obtain ⟨⟨e0, e1, e2, e3⟩, HP⟩ := h2
    have := Qff (Sky.mk s_w s_h s_lv (s_pts.map QO) (s_aws.map QR) (s_secs.map Qv) (s_rws.map QT)) HP
    exact ⟨by simpa only [e0, e1, e2, e3, Sky.row] using this, rfl, by simp only [No99]; exact ⟨by omega, JK _⟩⟩
  · cases h1
theorem Qfh (s : Sky) (hd : KY s.w s.h s.lv) (hq : X7 s.w s.h s.lv s.secs) : Contract P 69 [.agg (s.row 0)] [] (.bool (decide (Qex s.w s.h s.lv s.secs))) [] := by
  have hb := Qgg hq
  have hmul := Qey hd
  simp only [Sky.row]
  refine Qs (((Env.nil P).add 85 Yr Qfg).add 86 Yq Qfe) hm Wf (Nat.le_of_ble_eq_true rfl) rfl ?_; unfold Xz; simp (config := { maxSteps := 2000000 }) only [bitvec_to_nat, reduceIte, Nat.reduceEqDiff, Nat.reduceAdd, Nat.reduceLeDiff, reduceCtorEq, Nat.reduceBEq, Nat.reduceLT, Nat.reduceMod, List.forall_mem_cons, Yr, Yq, Qh, Qj, Qa, QN, Qg, List.take_length, List.length_cons, List.length_nil, Nat.zero_add, QF, QS, QQ, QU, Zone.row, Qe, Qo, Pt.row, Qi, Qu, Aw.row, Qm, QA, Blk.row, Qb, Qk, Sec.row, Qc, Ql, Rw.row, Qn, QB, Qd]
  refine ⟨hq, ?_⟩
  refine QP (fun i : Nat => [(4, .int .i64 (Qew ((Q6 s.secs).take i))), (5, .int .i64 i)]) (fun _ => []) (fun i => i ≤ (Q6 s.secs).length ∧ ∀ j, j < i → QaZ (Q6 s.secs) j) (fun i => (Q6 s.secs).length - i) (0) (by simp only [Jz, JA, JB, JC, Qw, Qx, Qy, Qz, reduceIte, Nat.reduceEqDiff]; exact ⟨by repeat' (first | exact trivial | refine ⟨.inr rfl, ?_⟩), by repeat' (first | exact trivial | refine ⟨rfl, ?_⟩), by first | rfl | simp [closedB, Qr, Qp, Qt, dom, Qf, *], by first | rfl | simp [keepB, dom]⟩) ?_ ?_
  · exact ⟨Nat.zero_le _, by intro j hj; omega⟩
  intro i hi NX hN
  have hv := Qdi hd (l := (Q6 s.secs).take i) fun b h => hb.2 b (List.mem_of_mem_take h)
  have hv2 : ((Q6 s.secs).take i).length ≤ 24 := by rw [List.length_take]; omega
  unfold GK; simp (config := { maxSteps := 2000000 }) only [bitvec_to_nat, reduceIte, Nat.reduceEqDiff, Nat.reduceAdd, Nat.reduceLeDiff, reduceCtorEq, Nat.reduceBEq, Nat.reduceLT, Nat.reduceMod, List.forall_mem_cons, Yr, Yq, Qh, Qj, Qa, QN, Qg, List.take_length, List.length_cons, List.length_nil, Nat.zero_add, QF, QS, QQ, QU, Zone.row, Qe, Qo, Pt.row, Qi, Qu, Aw.row, Qm, QA, Blk.row, Qb, Qk, Sec.row, Qc, Ql, Rw.row, Qn, QB, Qd]
  refine ⟨fun g1 => ⟨by omega, by omega, ?_⟩, fun g1 => ?_⟩
  · have ho := Qcm hd (hb.2 ((Q6 s.secs).getD i default) (Qa7 (by omega)))
    have e := Qgh (l := (Q6 s.secs)) (i := i) (by omega)
    unfold Blk.vol at ho e
    refine ⟨by omega, by omega, by omega, by omega, by omega, by omega, by omega, by omega, by omega, ?_⟩
    refine QP (fun k : Nat => [(7, .int .i64 k)]) (fun _ => []) (fun k => k ≤ i ∧ ∀ j, j < k → ¬ ((Q6 s.secs).getD j default).meet ((Q6 s.secs).getD i default)) (fun k => i - k) (0) (by simp only [Jz, JA, JB, JC, Qw, Qx, Qy, Qz, reduceIte, Nat.reduceEqDiff]; exact ⟨by repeat' (first | exact trivial | refine ⟨.inr rfl, ?_⟩), by repeat' (first | exact trivial | refine ⟨rfl, ?_⟩), by first | rfl | simp [closedB, Qr, Qp, Qt, dom, Qf, *], by first | rfl | simp [keepB, dom]⟩) ?_ ?_
    · exact ⟨Nat.zero_le _, by intro j hj; omega⟩
    intro k hk NX2 hN2
    unfold GJ; simp (config := { maxSteps := 2000000 }) only [bitvec_to_nat, reduceIte, Nat.reduceEqDiff, Nat.reduceAdd, Nat.reduceLeDiff, reduceCtorEq, Nat.reduceBEq, Nat.reduceLT, Nat.reduceMod, List.forall_mem_cons, Yr, Yq, Qh, Qj, Qa, QN, Qg, List.take_length, List.length_cons, List.length_nil, Nat.zero_add, QF, QS, QQ, QU, Zone.row, Qe, Qo, Pt.row, Qi, Qu, Aw.row, Qm, QA, Blk.row, Qb, Qk, Sec.row, Qc, Ql, Rw.row, Qn, QB, Qd]
    refine ⟨fun g2 => ⟨by omega, by omega, fun g3 => ?_, fun g3 => ⟨by omega, ?_⟩⟩, fun g2 => ⟨by omega, ?_⟩⟩
    · exact fun h => h.1 i (by omega) k (by omega) g3
    · refine hN2 (k + 1) _ (by simp only [Jz, JA, JB, JC, Qw, Qx, Qy, Qz, reduceIte, Nat.reduceEqDiff]; exact ⟨by repeat' (first | exact trivial | refine ⟨.inr rfl, ?_⟩), by repeat' (first | exact trivial | refine ⟨rfl, ?_⟩), by first | rfl | simp [closedB, Qr, Qp, Qt, dom, Qf, *], by first | rfl | simp [keepB, dom]⟩) ?_ ?_
      · exact ⟨by omega, Ja hk.2 g3⟩
      · omega
    · refine hN (i + 1) _ (by simp only [e, List.length_append, List.length_cons, List.length_nil, Nat.zero_add, List.map_append, List.map_cons, List.map_nil, Jz, JA, JB, JC, Qw, Qx, Qy, Qz, reduceIte, Nat.reduceEqDiff]; exact ⟨by repeat' (first | exact trivial | refine ⟨.inr rfl, ?_⟩), by repeat' (first | exact trivial | refine ⟨rfl, ?_⟩), by first | rfl | simp [closedB, Qr, Qp, Qt, dom, Qf, *], by first | rfl | simp [keepB, dom]⟩) ?_ ?_
      · exact ⟨by omega, Ja hi.2 fun k hk2 => hk.2 k (by omega)⟩
      · omega
  · have e : i = (Q6 s.secs).length := by omega
    rw [e, List.take_length] at *
    refine ⟨by omega, by omega, ?_⟩
    rw [decide_eq_decide]
    exact ⟨fun h => ⟨fun j hj => hi.2 j (by omega), h⟩, fun h => h.2⟩
def XU : List AV → Option (Prop × AV)
  | [.agg [.int .i64 s_w, .int .i64 s_h, .int .i64 s_lv, .sl 0 3 s_pts, .sl 0 2 s_aws, .sl 0 2 s_secs, .sl 0 4 s_rws]] => some ((((s_pts.map QO).map Pt.row = s_pts) ∧ ((s_aws.map QR).map (Aw.row 0) = s_aws) ∧ ((s_secs.map Qv).map (Sec.row 0) = s_secs) ∧ ((s_rws.map QT).map Rw.row = s_rws)) ∧ (KY (Sky.mk s_w s_h s_lv (s_pts.map QO) (s_aws.map QR) (s_secs.map Qv) (s_rws.map QT)).w (Sky.mk s_w s_h s_lv (s_pts.map QO) (s_aws.map QR) (s_secs.map Qv) (s_rws.map QT)).h (Sky.mk s_w s_h s_lv (s_pts.map QO) (s_aws.map QR) (s_secs.map Qv) (s_rws.map QT)).lv ∧ X7 (Sky.mk s_w s_h s_lv (s_pts.map QO) (s_aws.map QR) (s_secs.map Qv) (s_rws.map QT)).w (Sky.mk s_w s_h s_lv (s_pts.map QO) (s_aws.map QR) (s_secs.map Qv) (s_rws.map QT)).h (Sky.mk s_w s_h s_lv (s_pts.map QO) (s_aws.map QR) (s_secs.map Qv) (s_rws.map QT)).lv (Sky.mk s_w s_h s_lv (s_pts.map QO) (s_aws.map QR) (s_secs.map Qv) (s_rws.map QT)).secs), .bool (decide (Qex (Sky.mk s_w s_h s_lv (s_pts.map QO) (s_aws.map QR) (s_secs.map Qv) (s_rws.map QT)).w (Sky.mk s_w s_h s_lv (s_pts.map QO) (s_aws.map QR) (s_secs.map Qv) (s_rws.map QT)).h (Sky.mk s_w s_h s_lv (s_pts.map QO) (s_aws.map QR) (s_secs.map Qv) (s_rws.map QT)).lv (Sky.mk s_w s_h s_lv (s_pts.map QO) (s_aws.map QR) (s_secs.map Qv) (s_rws.map QT)).secs)))
  | _ => none
theorem Qfi : ∀ args p v, XU args = some (p, v) → p → Contract P 69 args [] v [] ∧ noref v = true ∧ No99 v := by
  intro args p v h1 h2
  unfold XU at h1
  split at h1
  · rename_i s_w s_h s_lv s_pts s_aws s_secs s_rws
    cases h1
    obtain ⟨⟨e0, e1, e2, e3⟩, HP⟩ := h2
    have := Qfh (Sky.mk s_w s_h s_lv (s_pts.map QO) (s_aws.map QR) (s_secs.map Qv) (s_rws.map QT)) HP.1 HP.2
    exact ⟨by simpa only [e0, e1, e2, e3, Sky.row] using this, rfl, trivial⟩
  · cases h1
theorem Qdj (s : Sky) (hs : s.small) : Contract P 32 [.agg (s.row 0)] [] (.bool (decide s.valid)) [] := by
  simp only [Sky.row]
  refine Qs (((((((Env.nil P).add 65 QZ YK).add 66 Gi Qcl).add 67 Yk Qa1).add 68 Yl Qa4).add 69 XU Qfi).add 70 Ym Qa6) hm Wb (Nat.le_of_ble_eq_true rfl) rfl ?_; unfold Xv; simp (config := { maxSteps := 2000000 }) only [bitvec_to_nat, reduceIte, Nat.reduceEqDiff, Nat.reduceAdd, Nat.reduceLeDiff, reduceCtorEq, Nat.reduceBEq, Nat.reduceLT, Nat.reduceMod, List.forall_mem_cons, QZ, Gi, Yk, Yl, XU, Ym, Qh, Qj, Qa, QN, Qg, List.take_length, List.length_cons, List.length_nil, Nat.zero_add, QF, QS, QQ, QU, Zone.row, Qe, Qo, Pt.row, Qi, Qu, Aw.row, Qm, QA, Blk.row, Qb, Qk, Sec.row, Qc, Ql, Rw.row, Qn, QB, Qd]
  repeat' (first | with_reducible apply And.intro | with_reducible intro _)
  all_goals first
    | with_reducible assumption
    | omega
    | grind [Sky.valid, KY]
def GY : List AV → Option (Prop × AV)
  | [.agg [.int .i64 s_w, .int .i64 s_h, .int .i64 s_lv, .sl 0 3 s_pts, .sl 0 2 s_aws, .sl 0 2 s_secs, .sl 0 4 s_rws]] => some ((((s_pts.map QO).map Pt.row = s_pts) ∧ ((s_aws.map QR).map (Aw.row 0) = s_aws) ∧ ((s_secs.map Qv).map (Sec.row 0) = s_secs) ∧ ((s_rws.map QT).map Rw.row = s_rws)) ∧ ((Sky.mk s_w s_h s_lv (s_pts.map QO) (s_aws.map QR) (s_secs.map Qv) (s_rws.map QT)).small), .bool (decide (Sky.mk s_w s_h s_lv (s_pts.map QO) (s_aws.map QR) (s_secs.map Qv) (s_rws.map QT)).valid))
  | _ => none
theorem Qdk : ∀ args p v, GY args = some (p, v) → p → Contract P 32 args [] v [] ∧ noref v = true ∧ No99 v := by
  intro args p v h1 h2
  unfold GY at h1
  split at h1
  · rename_i s_w s_h s_lv s_pts s_aws s_secs s_rws
    cases h1
    obtain ⟨⟨e0, e1, e2, e3⟩, HP⟩ := h2
    have := Qdj (Sky.mk s_w s_h s_lv (s_pts.map QO) (s_aws.map QR) (s_secs.map Qv) (s_rws.map QT)) HP
    exact ⟨by simpa only [e0, e1, e2, e3, Sky.row] using this, rfl, trivial⟩
  · cases h1
end
end Go.Ve

namespace Go.Ve
noncomputable section
open Go.Proofs
set_option linter.unusedSimpArgs false
set_option linter.unusedVariables false
set_option maxRecDepth 100000
open Go.ChangeShapes Go.WideShapes
/-- What is left when a list is counted, and each of its parts. -/
def szS {α : Type} (f : α → Int → Int) (l : List α) (a : Int) : Int := l.foldl (fun a x => f x a) (Xk a l.length)
def GZ (s : ByteArray) (a : Int) : Int := Xk a s.toList.length
def Qfo {α : Type} (f : α → Int → Int) : Prop := ∀ x a, a ≤ 1048576 → (f x a = -1 ∨ 0 ≤ f x a) ∧ (a < 0 → f x a = -1) ∧ f x a ≤ max a (-1)
def chk (x : Int) (k : Int → Int) : Int := if x < 0 then -1 else k x
def Meas1 (g : Int → Int) : Prop := ∀ a, a ≤ 1048576 → (g a = -1 ∨ 0 ≤ g a) ∧ (a < 0 → g a = -1) ∧ g a ≤ max a (-1)
def Qh9 (g : Int → Int) : Prop := ∀ a, 0 ≤ a → a ≤ 1048576 → (g a = -1 ∨ 0 ≤ g a) ∧ g a ≤ a
theorem Meas1.p {g : Int → Int} (h : Meas1 g) : Qh9 g := fun a h0 h1 => ⟨(h a h1).1, by have := (h a h1).2.2; omega⟩
theorem Vw : Qh9 fun z => z := fun a h0 h1 => ⟨.inr h0, Int.le_refl a⟩
theorem Qa8 {k : Int → Int} (n : Nat) (h : Qh9 k) : Meas1 fun a => chk (a - n) k := fun a ha => by
  simp only [chk]
  split
  · exact ⟨.inl rfl, fun _ => rfl, by omega⟩
  · rename_i h1
    have := h (a - n) (by omega) (by omega)
    exact ⟨this.1, fun _ => by omega, by omega⟩
theorem Qk9 {g k : Int → Int} (hg : Meas1 g) (h : Qh9 k) : Meas1 fun a => chk (g a) k := fun a ha => by
  have m := hg a ha
  simp only [chk]
  split
  · exact ⟨.inl rfl, fun _ => rfl, by omega⟩
  · rename_i h1
    have := h (g a) (by omega) (by omega)
    exact ⟨this.1, fun h2 => by have := m.2.1 h2; omega, by omega⟩
theorem UY {x : Int} {k : Int → Int} (h : 0 ≤ chk x k) : 0 ≤ x ∧ 0 ≤ k x := by
  unfold chk at h; split at h
  · omega
  · exact ⟨by omega, h⟩
theorem G0 : Qfo GZ := fun x a _ => by unfold GZ Xk; split <;> omega
theorem Qez {α : Type} : Qfo (fun (l : List α) a => Xk a l.length) := fun x a _ => by simp only; unfold Xk; split <;> omega
theorem Jp {α : Type} {f : α → Int → Int} (h : Qfo f) : ∀ (l : List α) (a : Int), a ≤ 1048576 → (a = -1 ∨ 0 ≤ a) → (l.foldl (fun a x => f x a) a = -1 ∨ 0 ≤ l.foldl (fun a x => f x a) a) ∧ (a < 0 → l.foldl (fun a x => f x a) a = -1) ∧ l.foldl (fun a x => f x a) a ≤ max a (-1)
  | [], a, h1, h2 => ⟨h2, fun h3 => by simp only [List.foldl_nil]; omega, by simp only [List.foldl_nil]; omega⟩
  | x :: l, a, h1, h2 => by
    obtain ⟨k1, k2, k3⟩ := h x a h1
    obtain ⟨i1, i2, i3⟩ := Jp h l (f x a) (by omega) k1
    simp only [List.foldl_cons]
    exact ⟨i1, fun h3 => i2 (by have := k2 h3; omega), by omega⟩
theorem Ki {α : Type} {f : α → Int → Int} (h : Qfo f) : Qfo (szS f) := fun l a ha => by
  unfold szS
  have h0 : (Xk a l.length = -1 ∨ 0 ≤ Xk a l.length) ∧ (a < 0 → Xk a l.length = -1) ∧ Xk a l.length ≤ max a (-1) := by unfold Xk; split <;> omega
  obtain ⟨i1, i2, i3⟩ := Jp h l (Xk a l.length) (by omega) h0.1
  exact ⟨i1, fun h3 => i2 (by have := h0.2.1 h3; omega), by omega⟩
/-- A list that was counted is small, and so are its parts. -/
theorem Qgi {α : Type} {f : α → Int → Int} {p : α → Prop} (h : Qfo f) (hp : ∀ x a, a ≤ 1048576 → 0 ≤ f x a → p x) : ∀ (l : List α) (a : Int), a ≤ 1048576 → (a = -1 ∨ 0 ≤ a) → 0 ≤ l.foldl (fun a x => f x a) a → ∀ x ∈ l, p x
  | [], _, _, _, _, x, hx => by simp at hx
  | y :: l, a, h1, h2, h3, x, hx => by
    simp only [List.foldl_cons] at h3
    obtain ⟨k1, k2, k3⟩ := h y a h1
    have hy : 0 ≤ f y a := by
      rcases k1 with k1 | k1
      · have := (Jp h l (f y a) (by omega) (.inl k1)).2.1 (by omega); omega
      · exact k1
    rcases List.mem_cons.1 hx with rfl | hx
    · exact hp _ a h1 hy
    · exact Qgi h hp l (f y a) (by omega) (.inr hy) h3 x hx
theorem Qcn {α : Type} {f : α → Int → Int} {p : α → Prop} (h : Qfo f) (hp : ∀ x a, a ≤ 1048576 → 0 ≤ f x a → p x) {l : List α} {a : Int} (ha : a ≤ 1048576) (h0 : 0 ≤ szS f l a) : l.length ≤ 1048576 ∧ ∀ x ∈ l, p x := by
  unfold szS at h0
  have hs : (Xk a l.length = -1 ∨ 0 ≤ Xk a l.length) ∧ Xk a l.length ≤ 1048576 := by unfold Xk; split <;> omega
  refine ⟨?_, Qgi h hp l _ hs.2 hs.1 h0⟩
  rcases hs.1 with e | e
  · have := (Jp h l _ hs.2 (.inl e)).2.1 (by omega); omega
  · unfold Xk at e; split at e <;> omega
theorem QjF {a : Int} {n : Nat} (ha : a ≤ 1048576) (h0 : 0 ≤ Xk a n) : n ≤ 1048576 := by unfold Xk at h0; split at h0 <;> omega
/-- One more part of a list. -/
theorem GR {α : Type} [Inhabited α] {f : α → Int → Int} {l : List α} {i : Nat} {a : Int} (hi : i < l.length) : (l.take (i + 1)).foldl (fun a x => f x a) a = f (l.getD i default) ((l.take i).foldl (fun a x => f x a) a) := by
  have e : l.getD i default = l[i] := by simp [hi]
  rw [e, List.take_succ_eq_append_getElem hi, List.foldl_append]; rfl
theorem XM {α : Type} [Inhabited α] {f : α → Int → Int} (h : Qfo f) {l : List α} {i : Nat} {a : Int} (hi : i < l.length) (ha : a ≤ 1048576) (h0 : a = -1 ∨ 0 ≤ a) (hn : f (l.getD i default) ((l.take i).foldl (fun a x => f x a) a) < 0) : l.foldl (fun a x => f x a) a = -1 := by
  rw [← GR (f := f) hi] at hn
  have e : l.foldl (fun a x => f x a) a = (l.drop (i + 1)).foldl (fun a x => f x a) ((l.take (i + 1)).foldl (fun a x => f x a) a) := by
    rw [← List.foldl_append, List.take_append_drop]
  rw [e]
  have k := Jp h (l.take (i + 1)) a ha h0
  exact (Jp h _ _ (by omega) k.1).2.1 hn
theorem GS {α : Type} {f : α → List AV} {p : α → Prop} {rs : List LSh} (h : ∀ r, JE rs r → ∃ x : α, r = f x ∧ p x) : ∀ {rows : List (List AV)}, (∀ r ∈ rows, JE rs r) → ∃ l : List α, rows = l.map f ∧ ∀ x ∈ l, p x
  | [], _ => ⟨[], rfl, by simp⟩
  | r :: rows, k => by
    obtain ⟨x, rfl, hx⟩ := h r (k r (by simp))
    obtain ⟨l, rfl, hl⟩ := GS h (rows := rows) fun r' h' => k r' (by simp [h'])
    exact ⟨x :: l, rfl, by simpa using ⟨hx, hl⟩⟩
theorem Jl {α : Type} [Inhabited α] {l : List α} {i : Nat} (h : i < l.length) : l.getD i default ∈ l := by simp [h]
def Pt.fitp (s : Pt) : Prop := s.nm.toList.length ≤ 9223372036854775807
def Pt.sz (s : Pt) (z0 : Int) : Int := chk (z0 - (s.nm.toList.length : Nat)) (fun z1 => z1)
theorem UH : Qfo Pt.sz := fun s => Qa8 _ (Vw)
def Rw.fitp (s : Rw) : Prop := s.nm.toList.length ≤ 9223372036854775807
def Rw.sz (s : Rw) (z0 : Int) : Int := chk (z0 - (s.nm.toList.length : Nat)) (fun z1 => z1)
theorem UI : Qfo Rw.sz := fun s => Qa8 _ (Vw)
def Aw.fitp (s : Aw) : Prop := s.nm.toList.length ≤ 9223372036854775807 ∧ (s.pts.length ≤ 9223372036854775807 ∧ ∀ y ∈ s.pts, y.toList.length ≤ 9223372036854775807)
def Aw.sz (s : Aw) (z0 : Int) : Int := chk (z0 - (s.nm.toList.length : Nat)) (fun z1 => chk (szS GZ s.pts z1) (fun z2 => z2))
theorem UJ : Qfo Aw.sz := fun s => Qa8 _ (Meas1.p (Qk9 (fun a => Ki G0 s.pts a) (Vw)))
theorem Aw.sz_ok {s : Aw} {a : Int} (ha : a ≤ 1048576) (h : 0 ≤ s.sz a) : s.small := by
  unfold Aw.sz at h
  have b0 : a ≤ 1048576 := ha
  obtain ⟨p0, h⟩ := UY h
  have b1 : (a) - (s.nm.toList.length : Nat) ≤ 1048576 := by omega
  obtain ⟨p1, h⟩ := UY h
  have b2 : szS GZ s.pts ((a) - (s.nm.toList.length : Nat)) ≤ 1048576 := by have := (Ki G0 s.pts ((a) - (s.nm.toList.length : Nat)) b1).2.2; omega
  have k1 := Qcn (p := fun _ => True) G0 (fun _ _ _ _ => trivial) b1 p1
  exact k1.1
def Sec.fitp (s : Sec) : Prop := s.nm.toList.length ≤ 9223372036854775807 ∧ s.bl.length ≤ 9223372036854775807
def Sec.sz (s : Sec) (z0 : Int) : Int := chk (z0 - (s.nm.toList.length : Nat)) (fun z1 => chk (Xk z1 s.bl.length) (fun z2 => z2))
theorem XV : Qfo Sec.sz := fun s => Qa8 _ (Meas1.p (Qk9 (fun a => Qez s.bl a) (Vw)))
theorem Sec.sz_ok {s : Sec} {a : Int} (ha : a ≤ 1048576) (h : 0 ≤ s.sz a) : s.small := by
  unfold Sec.sz at h
  have b0 : a ≤ 1048576 := ha
  obtain ⟨p0, h⟩ := UY h
  have b1 : (a) - (s.nm.toList.length : Nat) ≤ 1048576 := by omega
  obtain ⟨p1, h⟩ := UY h
  have b2 : Xk ((a) - (s.nm.toList.length : Nat)) s.bl.length ≤ 1048576 := by have := (Qez s.bl ((a) - (s.nm.toList.length : Nat)) b1).2.2; simp only at this; omega
  have k1 := QjF b1 p1
  exact k1
def Sky.fitp (s : Sky) : Prop := (s.pts.length ≤ 9223372036854775807 ∧ ∀ y ∈ s.pts, y.fitp) ∧ (s.aws.length ≤ 9223372036854775807 ∧ ∀ y ∈ s.aws, y.fitp) ∧ (s.secs.length ≤ 9223372036854775807 ∧ ∀ y ∈ s.secs, y.fitp) ∧ (s.rws.length ≤ 9223372036854775807 ∧ ∀ y ∈ s.rws, y.fitp)
def Sky.sz (s : Sky) (z0 : Int) : Int := chk (szS Pt.sz s.pts z0) (fun z1 => chk (szS Aw.sz s.aws z1) (fun z2 => chk (szS Sec.sz s.secs z2) (fun z3 => chk (szS Rw.sz s.rws z3) (fun z4 => z4))))
theorem Sky.sz_ok {s : Sky} {a : Int} (ha : a ≤ 1048576) (h : 0 ≤ s.sz a) : s.small := by
  unfold Sky.sz at h
  have b0 : a ≤ 1048576 := ha
  obtain ⟨p0, h⟩ := UY h
  have b1 : szS Pt.sz s.pts (a) ≤ 1048576 := by have := (Ki UH s.pts (a) b0).2.2; omega
  have k0 := Qcn (p := fun _ => True) UH (fun _ _ _ _ => trivial) b0 p0
  obtain ⟨p1, h⟩ := UY h
  have b2 : szS Aw.sz s.aws (szS Pt.sz s.pts (a)) ≤ 1048576 := by have := (Ki UJ s.aws (szS Pt.sz s.pts (a)) b1).2.2; omega
  have k1 := Qcn (p := fun y => Aw.small y) UJ (fun x a h1 h2 => Aw.sz_ok h1 h2) b1 p1
  obtain ⟨p2, h⟩ := UY h
  have b3 : szS Sec.sz s.secs (szS Aw.sz s.aws (szS Pt.sz s.pts (a))) ≤ 1048576 := by have := (Ki XV s.secs (szS Aw.sz s.aws (szS Pt.sz s.pts (a))) b2).2.2; omega
  have k2 := Qcn (p := fun y => Sec.small y) XV (fun x a h1 h2 => Sec.sz_ok h1 h2) b2 p2
  obtain ⟨p3, h⟩ := UY h
  have b4 : szS Rw.sz s.rws (szS Sec.sz s.secs (szS Aw.sz s.aws (szS Pt.sz s.pts (a)))) ≤ 1048576 := by have := (Ki UI s.rws (szS Sec.sz s.secs (szS Aw.sz s.aws (szS Pt.sz s.pts (a)))) b3).2.2; omega
  have k3 := Qcn (p := fun _ => True) UI (fun _ _ _ _ => trivial) b3 p3
  exact ⟨k0.1, k1, k2, k3.1⟩
theorem gv0 : QkG 0 = .pp 97 Zv := by simp only [QkG, QlF, if_true]
theorem Qgj {a b : ByteArray} : KW (.str a) (.str b) = decide (a = b) := Qep
def Kj (c : Int × Int) : AV := .agg [.int .i64 c.1, .int .i64 c.2]
theorem Qfj {a b : Int × Int} : KW (Kj a) (Kj b) = decide (a = b) := by
  obtain ⟨a1, a2⟩ := a
  obtain ⟨b1, b2⟩ := b
  by_cases h : a1 = b1 <;> by_cases k : a2 = b2 <;> simp [KW, Kj, UK, h, k]
theorem Q7 {s : ByteArray} : QcI 0 (.str s) = (s.toList.length ≤ 9223372036854775807) := by
  rw [← Js]
  exact propext ⟨fun ⟨_, h, h2⟩ => by cases h; exact h2, fun h => ⟨s, rfl, h⟩⟩
theorem Qml {m : Int} : (Lit.int .i64 m).wf = decide (-9223372036854775808 ≤ m ∧ m ≤ 9223372036854775807) := by
  have h1 : IntKind.i64.min = -9223372036854775808 := by decide
  have h2 : IntKind.i64.max = 9223372036854775807 := by decide
  simp [Lit.wf, h1, h2, Bool.decide_and]
theorem QV {a b : Int} : QcI 2 (.agg [.int .i64 a, .int .i64 b]) = ((-9223372036854775808 ≤ a ∧ a ≤ 9223372036854775807) ∧ -9223372036854775808 ≤ b ∧ b ≤ 9223372036854775807) := by
  refine propext ⟨fun ⟨ls, h, _, h2⟩ => ?_, fun ⟨h1, h2⟩ => ⟨_, rfl, rfl, fun y hy => ?_⟩⟩
  · cases h
    obtain ⟨m, h3, h4⟩ := h2 (.int .i64 a) (by simp)
    obtain ⟨m', h5, h6⟩ := h2 (.int .i64 b) (by simp)
    cases h3; cases h5
    rw [Qml] at h4 h6
    exact ⟨of_decide_eq_true h4, of_decide_eq_true h6⟩
  · rcases List.mem_cons.1 hy with rfl | hy
    · exact ⟨a, rfl, by rw [Qml]; exact decide_eq_true h1⟩
    · rcases List.mem_cons.1 hy with rfl | hy
      · exact ⟨b, rfl, by rw [Qml]; exact decide_eq_true h2⟩
      · cases hy
/-- A map that is a set. -/
def Xi {κ : Type} (f : κ → AV) (l : List κ) : List (AV × AV) := l.foldl (fun es a => Zt es (f a) (.bool true)) []
def QeA {κ : Type} (q : κ) (l : List κ) : Prop := q ∈ l
noncomputable instance {κ : Type} (q : κ) (l : List κ) : Decidable (QeA q l) := Classical.propDecidable _
section
variable {κ : Type} {f : κ → AV} (inj : ∀ {a b}, KW (f a) (f b) = true ↔ a = b)
include inj
theorem Qgk (a : κ) : ∀ ks : List κ, ∃ ks' : List κ, Zt (ks.map fun k => (f k, .bool true)) (f a) (.bool true) = (ks'.map fun k => (f k, AV.bool true)) ∧ ∀ q, q ∈ ks' ↔ q ∈ ks ∨ q = a
  | [] => ⟨[a], rfl, by simp⟩
  | k :: ks => by
    by_cases h : k = a
    · subst h
      refine ⟨k :: ks, by simp only [List.map_cons, Zt, inj.2 rfl, if_true], fun q => ?_⟩
      simp only [List.mem_cons]
      constructor
      · exact fun h => .inl h
      · rintro (h | rfl)
        · exact h
        · exact .inl rfl
    · obtain ⟨ks', h1, h2⟩ := Qgk a ks
      have hn : ¬ KW (f k) (f a) = true := fun e => h (inj.1 e)
      refine ⟨k :: ks', by simp only [List.map_cons, Zt, h1, hn]; rfl, fun q => ?_⟩
      simp only [List.mem_cons, h2, or_assoc]
theorem QeB (q : κ) : ∀ ks : List κ, XX (ks.map fun k => (f k, AV.bool true)) (f q) (.bool false) = .bool (decide (QeA q ks))
  | [] => by simp [XX, QeA]
  | k :: ks => by
    simp only [List.map_cons, XX, QeB q ks]
    by_cases h : k = q
    · subst h; simp [inj.2 rfl, QeA]
    · have hn : ¬ KW (f k) (f q) = true := fun e => h (inj.1 e)
      simp only [hn, Bool.false_eq_true, if_false, AV.bool.injEq, decide_eq_decide]
      simp only [QeA, List.mem_cons, Ne.symm h, false_or]
theorem Qfk (l : List κ) : ∃ ks : List κ, Xi f l = (ks.map fun k => (f k, AV.bool true)) ∧ ∀ q, q ∈ ks ↔ q ∈ l := by
  have key : ∀ (l ks : List κ), ∃ ks' : List κ, l.foldl (fun es a => Zt es (f a) (.bool true)) (ks.map fun k => (f k, AV.bool true)) = (ks'.map fun k => (f k, AV.bool true)) ∧ ∀ q, q ∈ ks' ↔ q ∈ ks ∨ q ∈ l := by
    intro l
    induction l with
    | nil => intro ks; exact ⟨ks, rfl, by simp⟩
    | cons a l ih =>
      intro ks
      simp only [List.foldl_cons]
      obtain ⟨k1, h1, h2⟩ := Qgk inj a ks
      rw [h1]
      obtain ⟨ks', h3, h4⟩ := ih k1
      exact ⟨ks', h3, fun q => by rw [h4, h2, List.mem_cons, or_assoc]⟩
  obtain ⟨ks, h1, h2⟩ := key l []
  exact ⟨ks, h1, by simpa using h2⟩
theorem W0 (l : List κ) (q : κ) : XX (Xi f l) (f q) (.bool false) = .bool (decide (QeA q l)) := by
  obtain ⟨ks, h1, h2⟩ := Qfk inj l
  rw [h1, QeB inj]
  simp only [AV.bool.injEq, decide_eq_decide]
  exact h2 q
end
theorem Q8 {l : List ByteArray} {q : ByteArray} : XX (Xi AV.str l) (.str q) (.bool false) = .bool (decide (QeA q l)) := W0 (f := AV.str) (by intro a b; rw [Qgj]; simp) l q
theorem QW {l : List (Int × Int)} {a b : Int} : XX (Xi Kj l) (.agg [.int .i64 a, .int .i64 b]) (.bool false) = .bool (decide (QeA (a, b) l)) := W0 (f := Kj) (by intro a b; rw [Qfj]; simp) l (a, b)
theorem Jg {l : List ByteArray} {q : ByteArray} : Zt (Xi AV.str l) (.str q) (.bool true) = Xi AV.str (l ++ [q]) := by simp [Xi]
theorem Q9 {l : List (Int × Int)} {a b : Int} : Zt (Xi Kj l) (.agg [.int .i64 a, .int .i64 b]) (.bool true) = Xi Kj (l ++ [(a, b)]) := by simp [Xi, Kj]
theorem G1 {α β : Type} [Inhabited α] {f : α → β} {l : List α} {i : Nat} (hi : i < l.length) : (l.take (i + 1)).map f = (l.take i).map f ++ [f (l.getD i default)] := by
  have e : l.getD i default = l[i] := by simp [hi]
  rw [e, List.take_succ_eq_append_getElem hi, List.map_append]; rfl
theorem Gj {α β : Type} [Inhabited α] {f : α → β} {l : List α} {i : Nat} (hi : i ≤ l.length) {q : β} : q ∈ (l.take i).map f ↔ ∃ k, k < i ∧ f (l.getD k default) = q := by
  simp only [List.mem_map]
  constructor
  · rintro ⟨x, hx, rfl⟩
    obtain ⟨k, hk, rfl⟩ := List.mem_iff_getElem.1 hx
    rw [List.length_take] at hk
    exact ⟨k, by omega, by rw [List.getElem_take]; simp [show k < l.length by omega]⟩
  · rintro ⟨k, hk, rfl⟩
    exact ⟨_, List.mem_iff_getElem.2 ⟨k, by rw [List.length_take]; omega, rfl⟩, by rw [List.getElem_take]; simp [show k < l.length by omega]⟩
theorem QjG (s : Sky) (x y : Int) (hd : KY s.w s.h s.lv) : Contract P 50 [.agg (s.row 0), .int .i64 x, .int .i64 y] [] (.bool (decide (J0 s.w s.h x y))) [] := by
  unfold KY at hd
  simp only [Sky.row]
  refine Qs ((Env.nil P).add 48 QG Kh) hm Wc (Nat.le_of_ble_eq_true rfl) rfl ?_; unfold Xy; simp (config := { maxSteps := 2000000 }) only [bitvec_to_nat, reduceIte, Nat.reduceEqDiff, Nat.reduceAdd, Nat.reduceLeDiff, reduceCtorEq, Nat.reduceBEq, Nat.reduceLT, Nat.reduceMod, List.forall_mem_cons, QG, Qh, Qj, Qa, QN, Qg, List.take_length, List.length_cons, List.length_nil, Nat.zero_add, QF, QS, QQ, QU, Zone.row, Qe, Qo, Pt.row, Qi, Qu, Aw.row, Qm, QA, Blk.row, Qb, Qk, Sec.row, Qc, Ql, Rw.row, Qn, QB, Qd]
  repeat' (first | with_reducible apply And.intro | with_reducible intro _)
  all_goals first | omega | grind [J0]
def QX : List AV → Option (Prop × AV)
  | [.agg [.int .i64 s_w, .int .i64 s_h, .int .i64 s_lv, .sl 0 3 s_pts, .sl 0 2 s_aws, .sl 0 2 s_secs, .sl 0 4 s_rws], .int .i64 x, .int .i64 y] => some ((((s_pts.map QO).map Pt.row = s_pts) ∧ ((s_aws.map QR).map (Aw.row 0) = s_aws) ∧ ((s_secs.map Qv).map (Sec.row 0) = s_secs) ∧ ((s_rws.map QT).map Rw.row = s_rws)) ∧ (KY (Sky.mk s_w s_h s_lv (s_pts.map QO) (s_aws.map QR) (s_secs.map Qv) (s_rws.map QT)).w (Sky.mk s_w s_h s_lv (s_pts.map QO) (s_aws.map QR) (s_secs.map Qv) (s_rws.map QT)).h (Sky.mk s_w s_h s_lv (s_pts.map QO) (s_aws.map QR) (s_secs.map Qv) (s_rws.map QT)).lv), .bool (decide (J0 (Sky.mk s_w s_h s_lv (s_pts.map QO) (s_aws.map QR) (s_secs.map Qv) (s_rws.map QT)).w (Sky.mk s_w s_h s_lv (s_pts.map QO) (s_aws.map QR) (s_secs.map Qv) (s_rws.map QT)).h x y)))
  | _ => none
theorem Gr : ∀ args p v, QX args = some (p, v) → p → Contract P 50 args [] v [] ∧ noref v = true ∧ No99 v := by
  intro args p v h1 h2
  unfold QX at h1
  split at h1
  · rename_i s_w s_h s_lv s_pts s_aws s_secs s_rws x y
    cases h1
    obtain ⟨⟨e0, e1, e2, e3⟩, HP⟩ := h2
    have := QjG (Sky.mk s_w s_h s_lv (s_pts.map QO) (s_aws.map QR) (s_secs.map Qv) (s_rws.map QT)) x y HP
    exact ⟨by simpa only [e0, e1, e2, e3, Sky.row] using this, rfl, trivial⟩
  · cases h1
theorem Qia (s : Sky) (b : Blk) : Contract P 51 [.agg (s.row 0), .agg b.row] [] (.bool (decide (b.ok s.w s.h s.lv))) [] := by
  simp only [Sky.row, Blk.row]
  refine Qs (Env.nil P) hm U6 (Nat.le_of_ble_eq_true rfl) rfl ?_; unfold G8; simp (config := { maxSteps := 2000000 }) only [bitvec_to_nat, reduceIte, Nat.reduceEqDiff, Nat.reduceAdd, Nat.reduceLeDiff, reduceCtorEq, Nat.reduceBEq, Nat.reduceLT, Nat.reduceMod, List.forall_mem_cons, Qh, Qj, Qa, QN, Qg, List.take_length, List.length_cons, List.length_nil, Nat.zero_add, QF, QS, QQ, QU, Zone.row, Qe, Qo, Pt.row, Qi, Qu, Aw.row, Qm, QA, Blk.row, Qb, Qk, Sec.row, Qc, Ql, Rw.row, Qn, QB, Qd]
  repeat' (first | with_reducible apply And.intro | with_reducible intro _)
  all_goals first | omega | grind [Blk.ok]
def QJ : List AV → Option (Prop × AV)
  | [.agg [.int .i64 s_w, .int .i64 s_h, .int .i64 s_lv, .sl 0 3 s_pts, .sl 0 2 s_aws, .sl 0 2 s_secs, .sl 0 4 s_rws], .agg [.int .i64 b_x0, .int .i64 b_y0, .int .i64 b_x1, .int .i64 b_y1, .int .i64 b_lo, .int .i64 b_hi]] => some ((((s_pts.map QO).map Pt.row = s_pts) ∧ ((s_aws.map QR).map (Aw.row 0) = s_aws) ∧ ((s_secs.map Qv).map (Sec.row 0) = s_secs) ∧ ((s_rws.map QT).map Rw.row = s_rws)) ∧ (True), .bool (decide ((Blk.mk b_x0 b_y0 b_x1 b_y1 b_lo b_hi).ok (Sky.mk s_w s_h s_lv (s_pts.map QO) (s_aws.map QR) (s_secs.map Qv) (s_rws.map QT)).w (Sky.mk s_w s_h s_lv (s_pts.map QO) (s_aws.map QR) (s_secs.map Qv) (s_rws.map QT)).h (Sky.mk s_w s_h s_lv (s_pts.map QO) (s_aws.map QR) (s_secs.map Qv) (s_rws.map QT)).lv)))
  | _ => none
theorem Gk : ∀ args p v, QJ args = some (p, v) → p → Contract P 51 args [] v [] ∧ noref v = true ∧ No99 v := by
  intro args p v h1 h2
  unfold QJ at h1
  split at h1
  · rename_i s_w s_h s_lv s_pts s_aws s_secs s_rws b_x0 b_y0 b_x1 b_y1 b_lo b_hi
    cases h1
    obtain ⟨⟨e0, e1, e2, e3⟩, HP⟩ := h2
    have := Qia (Sky.mk s_w s_h s_lv (s_pts.map QO) (s_aws.map QR) (s_secs.map Qv) (s_rws.map QT)) (Blk.mk b_x0 b_y0 b_x1 b_y1 b_lo b_hi)
    exact ⟨by simpa only [e0, e1, e2, e3, Sky.row, Blk.row] using this, rfl, trivial⟩
  · cases h1
theorem QjH (a b : Blk) : Contract P 52 [.agg a.row, .agg b.row] [] (.bool (decide (a.less b))) [] := by
  simp only [Blk.row]
  refine Qs (Env.nil P) hm U7 (Nat.le_of_ble_eq_true rfl) rfl ?_; unfold G9; simp (config := { maxSteps := 2000000 }) only [bitvec_to_nat, reduceIte, Nat.reduceEqDiff, Nat.reduceAdd, Nat.reduceLeDiff, reduceCtorEq, Nat.reduceBEq, Nat.reduceLT, Nat.reduceMod, List.forall_mem_cons, Qh, Qj, Qa, QN, Qg, List.take_length, List.length_cons, List.length_nil, Nat.zero_add, QF, QS, QQ, QU, Zone.row, Qe, Qo, Pt.row, Qi, Qu, Aw.row, Qm, QA, Blk.row, Qb, Qk, Sec.row, Qc, Ql, Rw.row, Qn, QB, Qd]
  repeat' (first | with_reducible apply And.intro | with_reducible intro _)
  all_goals first | omega | grind [Blk.less]
def Q1 : List AV → Option (Prop × AV)
  | [.agg [.int .i64 a_x0, .int .i64 a_y0, .int .i64 a_x1, .int .i64 a_y1, .int .i64 a_lo, .int .i64 a_hi], .agg [.int .i64 b_x0, .int .i64 b_y0, .int .i64 b_x1, .int .i64 b_y1, .int .i64 b_lo, .int .i64 b_hi]] => some ((True) ∧ (True), .bool (decide ((Blk.mk a_x0 a_y0 a_x1 a_y1 a_lo a_hi).less (Blk.mk b_x0 b_y0 b_x1 b_y1 b_lo b_hi))))
  | _ => none
theorem XN : ∀ args p v, Q1 args = some (p, v) → p → Contract P 52 args [] v [] ∧ noref v = true ∧ No99 v := by
  intro args p v h1 h2
  unfold Q1 at h1
  split at h1
  · rename_i a_x0 a_y0 a_x1 a_y1 a_lo a_hi b_x0 b_y0 b_x1 b_y1 b_lo b_hi
    cases h1
    obtain ⟨_, HP⟩ := h2
    have := QjH (Blk.mk a_x0 a_y0 a_x1 a_y1 a_lo a_hi) (Blk.mk b_x0 b_y0 b_x1 b_y1 b_lo b_hi)
    exact ⟨by simpa only [Blk.row, Blk.row] using this, rfl, trivial⟩
  · cases h1
theorem Qib (a b : Blk) : Contract P 53 [.agg a.row, .agg b.row] [] (.bool (decide (a.meet b))) [] := by
  simp only [Blk.row]
  refine Qs (Env.nil P) hm Qcg (Nat.le_of_ble_eq_true rfl) rfl ?_; unfold UV; simp (config := { maxSteps := 2000000 }) only [bitvec_to_nat, reduceIte, Nat.reduceEqDiff, Nat.reduceAdd, Nat.reduceLeDiff, reduceCtorEq, Nat.reduceBEq, Nat.reduceLT, Nat.reduceMod, List.forall_mem_cons, Qh, Qj, Qa, QN, Qg, List.take_length, List.length_cons, List.length_nil, Nat.zero_add, QF, QS, QQ, QU, Zone.row, Qe, Qo, Pt.row, Qi, Qu, Aw.row, Qm, QA, Blk.row, Qb, Qk, Sec.row, Qc, Ql, Rw.row, Qn, QB, Qd]
  repeat' (first | with_reducible apply And.intro | with_reducible intro _)
  all_goals first | omega | grind [Blk.meet]
def QK : List AV → Option (Prop × AV)
  | [.agg [.int .i64 a_x0, .int .i64 a_y0, .int .i64 a_x1, .int .i64 a_y1, .int .i64 a_lo, .int .i64 a_hi], .agg [.int .i64 b_x0, .int .i64 b_y0, .int .i64 b_x1, .int .i64 b_y1, .int .i64 b_lo, .int .i64 b_hi]] => some ((True) ∧ (True), .bool (decide ((Blk.mk a_x0 a_y0 a_x1 a_y1 a_lo a_hi).meet (Blk.mk b_x0 b_y0 b_x1 b_y1 b_lo b_hi))))
  | _ => none
theorem Gl : ∀ args p v, QK args = some (p, v) → p → Contract P 53 args [] v [] ∧ noref v = true ∧ No99 v := by
  intro args p v h1 h2
  unfold QK at h1
  split at h1
  · rename_i a_x0 a_y0 a_x1 a_y1 a_lo a_hi b_x0 b_y0 b_x1 b_y1 b_lo b_hi
    cases h1
    obtain ⟨_, HP⟩ := h2
    have := Qib (Blk.mk a_x0 a_y0 a_x1 a_y1 a_lo a_hi) (Blk.mk b_x0 b_y0 b_x1 b_y1 b_lo b_hi)
    exact ⟨by simpa only [Blk.row, Blk.row] using this, rfl, trivial⟩
  · cases h1
theorem Qic (b : Blk) (w h lv : Int) (hd : KY w h lv) (hb : b.ok w h lv) : Contract P 54 [.agg b.row] [] (.int .i64 b.vol) [] := by
  have ho := Qcm hd hb
  unfold Blk.vol at ho ⊢
  simp only [Blk.row]
  refine Qs (Env.nil P) hm Xh (Nat.le_of_ble_eq_true rfl) rfl ?_; unfold Kr; simp (config := { maxSteps := 2000000 }) only [bitvec_to_nat, reduceIte, Nat.reduceEqDiff, Nat.reduceAdd, Nat.reduceLeDiff, reduceCtorEq, Nat.reduceBEq, Nat.reduceLT, Nat.reduceMod, List.forall_mem_cons, Qh, Qj, Qa, QN, Qg, List.take_length, List.length_cons, List.length_nil, Nat.zero_add, QF, QS, QQ, QU, Zone.row, Qe, Qo, Pt.row, Qi, Qu, Aw.row, Qm, QA, Blk.row, Qb, Qk, Sec.row, Qc, Ql, Rw.row, Qn, QB, Qd]
  exact ⟨by omega, by omega, by omega, by omega, by omega, by omega, by omega, by omega⟩
def QL : List AV → Option (Prop × AV)
  | [.agg [.int .i64 b_x0, .int .i64 b_y0, .int .i64 b_x1, .int .i64 b_y1, .int .i64 b_lo, .int .i64 b_hi]] => some ((True) ∧ (∃ w h lv, KY w h lv ∧ Blk.ok w h lv (Blk.mk b_x0 b_y0 b_x1 b_y1 b_lo b_hi)), .int .i64 (Blk.vol (Blk.mk b_x0 b_y0 b_x1 b_y1 b_lo b_hi)))
  | _ => none
theorem Gm : ∀ args p v, QL args = some (p, v) → p → Contract P 54 args [] v [] ∧ noref v = true ∧ No99 v := by
  intro args p v h1 h2
  unfold QL at h1
  split at h1
  · rename_i b_x0 b_y0 b_x1 b_y1 b_lo b_hi
    cases h1
    obtain ⟨_, HP⟩ := h2
    have := Qic (Blk.mk b_x0 b_y0 b_x1 b_y1 b_lo b_hi) _ _ _ HP.choose_spec.choose_spec.choose_spec.1 HP.choose_spec.choose_spec.choose_spec.2
    exact ⟨by simpa only [Blk.row] using this, rfl, trivial⟩
  · cases h1
theorem Qgl {t : Int} (h : 1 ≤ t ∧ t ≤ 8) : ∃ rest, List.drop (t.toNat * 2) Zv = .int .i64 (dX t) :: .int .i64 (dY t) :: rest := by
  have hc : t = 1 ∨ t = 2 ∨ t = 3 ∨ t = 4 ∨ t = 5 ∨ t = 6 ∨ t = 7 ∨ t = 8 := by omega
  rcases hc with rfl | rfl | rfl | rfl | rfl | rfl | rfl | rfl <;> exact ⟨_, rfl⟩
theorem Qid (s : Sky) (r : Rw) (hd : KY s.w s.h s.lv) : Contract P 55 [.agg (s.row 0), .agg r.row] [] (.bool (decide (r.ok s.w s.h))) [] := by
  obtain ⟨nm, x, y, tn⟩ := r
  have hx := Qk7 tn
  have hy := Qk8 tn
  by_cases ht : 1 ≤ tn ∧ tn ≤ 8
  · obtain ⟨rest, e⟩ := Qgl ht
    simp only [Sky.row, Rw.row]
    refine Qs (((Env.nil P).add 48 QG Kh).add 50 QX Gr) hm GG (Nat.le_of_ble_eq_true rfl) rfl ?_; unfold KD; simp (config := { maxSteps := 2000000 }) only [bitvec_to_nat, reduceIte, Nat.reduceEqDiff, Nat.reduceAdd, Nat.reduceLeDiff, reduceCtorEq, Nat.reduceBEq, Nat.reduceLT, Nat.reduceMod, List.forall_mem_cons, QG, QX, Qh, Qj, Qa, QN, Qg, List.take_length, List.length_cons, List.length_nil, Nat.zero_add, QF, QS, QQ, QU, Zone.row, Qe, Qo, Pt.row, Qi, Qu, Aw.row, Qm, QA, Blk.row, Qb, Qk, Sec.row, Qc, Ql, Rw.row, Qn, QB, Qd, gv0, e, ht, Int.toNat_one, Nat.mul_one, Nat.zero_mul, not_true_eq_false, not_false_eq_true]
    repeat' (first | with_reducible apply And.intro | with_reducible intro _)
    all_goals first | omega | exact hd | (simp only [List.length_cons]; omega) | grind [Rw.ok, J0, KY]
  · have e : True := trivial
    simp only [Sky.row, Rw.row]
    refine Qs (((Env.nil P).add 48 QG Kh).add 50 QX Gr) hm GG (Nat.le_of_ble_eq_true rfl) rfl ?_; unfold KD; simp (config := { maxSteps := 2000000 }) only [bitvec_to_nat, reduceIte, Nat.reduceEqDiff, Nat.reduceAdd, Nat.reduceLeDiff, reduceCtorEq, Nat.reduceBEq, Nat.reduceLT, Nat.reduceMod, List.forall_mem_cons, QG, QX, Qh, Qj, Qa, QN, Qg, List.take_length, List.length_cons, List.length_nil, Nat.zero_add, QF, QS, QQ, QU, Zone.row, Qe, Qo, Pt.row, Qi, Qu, Aw.row, Qm, QA, Blk.row, Qb, Qk, Sec.row, Qc, Ql, Rw.row, Qn, QB, Qd, gv0, e, ht, Int.toNat_one, Nat.mul_one, Nat.zero_mul, not_true_eq_false, not_false_eq_true]
    repeat' (first | with_reducible apply And.intro | with_reducible intro _)
    all_goals first | omega | grind [Rw.ok]
def QM : List AV → Option (Prop × AV)
  | [.agg [.int .i64 s_w, .int .i64 s_h, .int .i64 s_lv, .sl 0 3 s_pts, .sl 0 2 s_aws, .sl 0 2 s_secs, .sl 0 4 s_rws], .agg [.str r_nm, .int .i64 r_x, .int .i64 r_y, .int .i64 r_tn]] => some ((((s_pts.map QO).map Pt.row = s_pts) ∧ ((s_aws.map QR).map (Aw.row 0) = s_aws) ∧ ((s_secs.map Qv).map (Sec.row 0) = s_secs) ∧ ((s_rws.map QT).map Rw.row = s_rws)) ∧ (KY (Sky.mk s_w s_h s_lv (s_pts.map QO) (s_aws.map QR) (s_secs.map Qv) (s_rws.map QT)).w (Sky.mk s_w s_h s_lv (s_pts.map QO) (s_aws.map QR) (s_secs.map Qv) (s_rws.map QT)).h (Sky.mk s_w s_h s_lv (s_pts.map QO) (s_aws.map QR) (s_secs.map Qv) (s_rws.map QT)).lv), .bool (decide ((Rw.mk r_nm r_x r_y r_tn).ok (Sky.mk s_w s_h s_lv (s_pts.map QO) (s_aws.map QR) (s_secs.map Qv) (s_rws.map QT)).w (Sky.mk s_w s_h s_lv (s_pts.map QO) (s_aws.map QR) (s_secs.map Qv) (s_rws.map QT)).h)))
  | _ => none
theorem Gn : ∀ args p v, QM args = some (p, v) → p → Contract P 55 args [] v [] ∧ noref v = true ∧ No99 v := by
  intro args p v h1 h2
  unfold QM at h1
  split at h1
  · rename_i s_w s_h s_lv s_pts s_aws s_secs s_rws r_nm r_x r_y r_tn
    cases h1
    obtain ⟨⟨e0, e1, e2, e3⟩, HP⟩ := h2
    have := Qid (Sky.mk s_w s_h s_lv (s_pts.map QO) (s_aws.map QR) (s_secs.map Qv) (s_rws.map QT)) (Rw.mk r_nm r_x r_y r_tn) HP
    exact ⟨by simpa only [e0, e1, e2, e3, Sky.row, Rw.row] using this, rfl, trivial⟩
  · cases h1
end
end Go.Ve

namespace Go.Ve
noncomputable section
open Go.Proofs
set_option linter.unusedSimpArgs false
set_option linter.unusedVariables false
set_option maxRecDepth 100000
set_option maxHeartbeats 400000 in
theorem Ue (s : Sky) {Q : XT → St → Prop}  (hQ : ∀ bv : Bool, (bv = true ↔ ¬ (KY s.w s.h s.lv ∧ s.pts.length ≤ 16 ∧ s.aws.length ≤ 8 ∧ s.secs.length ≤ 6 ∧ s.rws.length ≤ 4)) → Q .normal ⟨[(1, .ptr 101 0), (63, .bool bv)], [(101, .box [.int .i64 s.w, .int .i64 s.h, .int .i64 s.lv, .sl 0 3 (s.pts.map Pt.row), .sl 0 2 (s.aws.map (Aw.row 0)), .sl 0 2 (s.secs.map (Sec.row 0)), .sl 0 4 (s.rws.map Rw.row)])]⟩) : SCode.wp (((((((((Env.nil P).add 48 QG Kh).add 49 QI Gg).add 50 QX Gr).add 51 QJ Gk).add 52 Q1 XN).add 53 QK Gl).add 54 QL Gm).add 55 QM Gn) Kw Q ⟨[(1, .ptr 101 0)], [(101, .box [.int .i64 s.w, .int .i64 s.h, .int .i64 s.lv, .sl 0 3 (s.pts.map Pt.row), .sl 0 2 (s.aws.map (Aw.row 0)), .sl 0 2 (s.secs.map (Sec.row 0)), .sl 0 4 (s.rws.map Rw.row)])]⟩ := by
  all_goals (unfold Kw; simp (config := { maxSteps := 2000000 }) only [bitvec_to_nat, reduceIte, Nat.reduceEqDiff, Nat.reduceAdd, Nat.reduceLeDiff, reduceCtorEq, Nat.reduceBEq, Nat.reduceLT, Nat.reduceMod, List.forall_mem_cons, QG, QI, QX, QJ, Q1, QK, QL, QM, Qh, Qj, Qa, QN, Qg, List.take_length, List.length_cons, List.length_nil, Nat.zero_add, QF, QS, QQ, QU, Zone.row, Qe, Qo, Pt.row, Qi, Qu, Aw.row, Qm, QA, Blk.row, Qb, Qk, Sec.row, Qc, Ql, Rw.row, Qn, QB, Qd, Jm, Jn, Q8, QW, Q7, QV, Jg, Q9])
  repeat' (first | with_reducible apply And.intro | with_reducible intro _)
  all_goals first
    | omega
    | (refine hQ _ ?_
       first
         | grind [KY]
         | (simp; grind [KY]))
    | grind [KY]
set_option maxHeartbeats 400000 in
theorem Uf (s : Sky) (i : Nat) (cl : List (Int × Int)) {e1 : List (AV × AV)} {w67 : AV} {w68 : AV} {w69 : AV} {Q : XT → St → Prop} (hi : i < s.pts.length) (hl : s.pts.length ≤ 1048576) (hd : KY s.w s.h s.lv) (hQ : ∀ bv : Bool, (bv = true ↔ ¬ (JJ (s.pts.getD i default).nm ∧ (0 < i → slt (s.pts.getD (i - 1) default).nm (s.pts.getD i default).nm) ∧ J0 s.w s.h (s.pts.getD i default).x (s.pts.getD i default).y ∧ ¬ QeA ((s.pts.getD i default).x, (s.pts.getD i default).y) cl)) → Q .normal ⟨[(1, .ptr 101 0), (3, .ptr 164 0), (4, .ptr 165 0), (6, .ptr 106 0), (7, .ptr 107 0), (67, w67), (68, w68), (69, w69), (112, .bool bv)], [(101, .box [.int .i64 s.w, .int .i64 s.h, .int .i64 s.lv, .sl 0 3 (s.pts.map Pt.row), .sl 0 2 (s.aws.map (Aw.row 0)), .sl 0 2 (s.secs.map (Sec.row 0)), .sl 0 4 (s.rws.map Rw.row)]), (164, .mp 0 e1), (165, .mp 2 (Xi Kj cl)), (106, .box [.str (s.pts.getD i default).nm, .int .i64 (s.pts.getD i default).x, .int .i64 (s.pts.getD i default).y]), (107, .box [.int .i64 (s.pts.getD i default).x, .int .i64 (s.pts.getD i default).y])]⟩) : SCode.wp (((((((((Env.nil P).add 48 QG Kh).add 49 QI Gg).add 50 QX Gr).add 51 QJ Gk).add 52 Q1 XN).add 53 QK Gl).add 54 QL Gm).add 55 QM Gn) Kx Q ⟨[(1, .ptr 101 0), (3, .ptr 164 0), (4, .ptr 165 0), (5, .int .i64 i), (6, .ptr 106 0), (7, .ptr 107 0), (67, w67), (68, w68), (69, w69)], [(101, .box [.int .i64 s.w, .int .i64 s.h, .int .i64 s.lv, .sl 0 3 (s.pts.map Pt.row), .sl 0 2 (s.aws.map (Aw.row 0)), .sl 0 2 (s.secs.map (Sec.row 0)), .sl 0 4 (s.rws.map Rw.row)]), (164, .mp 0 e1), (165, .mp 2 (Xi Kj cl)), (106, .box [.str (s.pts.getD i default).nm, .int .i64 (s.pts.getD i default).x, .int .i64 (s.pts.getD i default).y]), (107, .box [.int .i64 (s.pts.getD i default).x, .int .i64 (s.pts.getD i default).y])]⟩ := by
  all_goals (unfold Kx; simp (config := { maxSteps := 2000000 }) only [bitvec_to_nat, reduceIte, Nat.reduceEqDiff, Nat.reduceAdd, Nat.reduceLeDiff, reduceCtorEq, Nat.reduceBEq, Nat.reduceLT, Nat.reduceMod, List.forall_mem_cons, QG, QI, QX, QJ, Q1, QK, QL, QM, Qh, Qj, Qa, QN, Qg, List.take_length, List.length_cons, List.length_nil, Nat.zero_add, QF, QS, QQ, QU, Zone.row, Qe, Qo, Pt.row, Qi, Qu, Aw.row, Qm, QA, Blk.row, Qb, Qk, Sec.row, Qc, Ql, Rw.row, Qn, QB, Qd, Jm, Jn, Q8, QW, Q7, QV, Jg, Q9])
  repeat' (first | with_reducible apply And.intro | with_reducible intro _)
  all_goals first
    | omega
    | (refine hQ _ ?_
       first
         | grind [J0, KY]
         | (simp; grind [J0, KY]))
    | grind [J0, KY]
set_option maxHeartbeats 400000 in
theorem Ug (s : Sky) (i : Nat) {e1 e2 : List (AV × AV)} {w120 : AV} {w121 : AV} {w122 : AV} {Q : XT → St → Prop} (hi : i < s.aws.length) (hl : s.aws.length ≤ 1048576) (hQ : ∀ bv : Bool, (bv = true ↔ ¬ (JJ (s.aws.getD i default).nm ∧ (0 < i → slt (s.aws.getD (i - 1) default).nm (s.aws.getD i default).nm) ∧ 2 ≤ (s.aws.getD i default).pts.length ∧ (s.aws.getD i default).pts.length ≤ 8)) → Q .normal ⟨[(1, .ptr 101 0), (3, .ptr 164 0), (9, .ptr 109 0), (120, w120), (121, w121), (122, w122), (153, .bool bv)], [(101, .box [.int .i64 s.w, .int .i64 s.h, .int .i64 s.lv, .sl 0 3 (s.pts.map Pt.row), .sl 0 2 (s.aws.map (Aw.row 0)), .sl 0 2 (s.secs.map (Sec.row 0)), .sl 0 4 (s.rws.map Rw.row)]), (164, .mp 0 e1), (165, .mp 2 e2), (109, .box [.str (s.aws.getD i default).nm, .sl 0 1 ((s.aws.getD i default).pts.map QF)])]⟩) : SCode.wp (((((((((Env.nil P).add 48 QG Kh).add 49 QI Gg).add 50 QX Gr).add 51 QJ Gk).add 52 Q1 XN).add 53 QK Gl).add 54 QL Gm).add 55 QM Gn) Ky Q ⟨[(1, .ptr 101 0), (3, .ptr 164 0), (8, .int .i64 i), (9, .ptr 109 0), (120, w120), (121, w121), (122, w122)], [(101, .box [.int .i64 s.w, .int .i64 s.h, .int .i64 s.lv, .sl 0 3 (s.pts.map Pt.row), .sl 0 2 (s.aws.map (Aw.row 0)), .sl 0 2 (s.secs.map (Sec.row 0)), .sl 0 4 (s.rws.map Rw.row)]), (164, .mp 0 e1), (165, .mp 2 e2), (109, .box [.str (s.aws.getD i default).nm, .sl 0 1 ((s.aws.getD i default).pts.map QF)])]⟩ := by
  all_goals (unfold Ky; simp (config := { maxSteps := 2000000 }) only [bitvec_to_nat, reduceIte, Nat.reduceEqDiff, Nat.reduceAdd, Nat.reduceLeDiff, reduceCtorEq, Nat.reduceBEq, Nat.reduceLT, Nat.reduceMod, List.forall_mem_cons, QG, QI, QX, QJ, Q1, QK, QL, QM, Qh, Qj, Qa, QN, Qg, List.take_length, List.length_cons, List.length_nil, Nat.zero_add, QF, QS, QQ, QU, Zone.row, Qe, Qo, Pt.row, Qi, Qu, Aw.row, Qm, QA, Blk.row, Qb, Qk, Sec.row, Qc, Ql, Rw.row, Qn, QB, Qd, Jm, Jn, Q8, QW, Q7, QV, Jg, Q9])
  repeat' (first | with_reducible apply And.intro | with_reducible intro _)
  all_goals first
    | omega
    | (refine hQ _ ?_
       first
         | grind []
         | (simp; grind []))
    | grind []
set_option maxHeartbeats 400000 in
theorem Uh (s : Sky) (i m : Nat) {rows : List (List AV)} {e1 e2 : List (AV × AV)} {w14 : AV} {w176 : AV} {w177 : AV} {w178 : AV} {Q : XT → St → Prop} (hi : i < s.secs.length) (hl : s.secs.length ≤ 1048576) (hQ : ∀ bv : Bool, (bv = true ↔ ¬ (JJ (s.secs.getD i default).nm ∧ (0 < i → slt (s.secs.getD (i - 1) default).nm (s.secs.getD i default).nm) ∧ 1 ≤ (s.secs.getD i default).bl.length ∧ (s.secs.getD i default).bl.length ≤ 4)) → Q .normal ⟨[(1, .ptr 101 0), (13, .own 113 m 0 m), (14, w14), (16, .ptr 116 0), (176, w176), (177, w177), (178, w178), (209, .bool bv)], [(101, .box [.int .i64 s.w, .int .i64 s.h, .int .i64 s.lv, .sl 0 3 (s.pts.map Pt.row), .sl 0 2 (s.aws.map (Aw.row 0)), .sl 0 2 (s.secs.map (Sec.row 0)), .sl 0 4 (s.rws.map Rw.row)]), (164, .mp 0 e1), (165, .mp 2 e2), (113, .arr 99 m 6 rows), (116, .box [.str (s.secs.getD i default).nm, .sl 0 6 ((s.secs.getD i default).bl.map Blk.row)])]⟩) : SCode.wp (((((((((Env.nil P).add 48 QG Kh).add 49 QI Gg).add 50 QX Gr).add 51 QJ Gk).add 52 Q1 XN).add 53 QK Gl).add 54 QL Gm).add 55 QM Gn) Kz Q ⟨[(1, .ptr 101 0), (13, .own 113 m 0 m), (14, w14), (15, .int .i64 i), (16, .ptr 116 0), (176, w176), (177, w177), (178, w178)], [(101, .box [.int .i64 s.w, .int .i64 s.h, .int .i64 s.lv, .sl 0 3 (s.pts.map Pt.row), .sl 0 2 (s.aws.map (Aw.row 0)), .sl 0 2 (s.secs.map (Sec.row 0)), .sl 0 4 (s.rws.map Rw.row)]), (164, .mp 0 e1), (165, .mp 2 e2), (113, .arr 99 m 6 rows), (116, .box [.str (s.secs.getD i default).nm, .sl 0 6 ((s.secs.getD i default).bl.map Blk.row)])]⟩ := by
  all_goals (unfold Kz; simp (config := { maxSteps := 2000000 }) only [bitvec_to_nat, reduceIte, Nat.reduceEqDiff, Nat.reduceAdd, Nat.reduceLeDiff, reduceCtorEq, Nat.reduceBEq, Nat.reduceLT, Nat.reduceMod, List.forall_mem_cons, QG, QI, QX, QJ, Q1, QK, QL, QM, Qh, Qj, Qa, QN, Qg, List.take_length, List.length_cons, List.length_nil, Nat.zero_add, QF, QS, QQ, QU, Zone.row, Qe, Qo, Pt.row, Qi, Qu, Aw.row, Qm, QA, Blk.row, Qb, Qk, Sec.row, Qc, Ql, Rw.row, Qn, QB, Qd, Jm, Jn, Q8, QW, Q7, QV, Jg, Q9])
  repeat' (first | with_reducible apply And.intro | with_reducible intro _)
  all_goals first
    | omega
    | (refine hQ _ ?_
       first
         | grind []
         | (simp; grind []))
    | grind []
set_option maxHeartbeats 400000 in
theorem Ui (s : Sky) (i k m : Nat) {rows : List (List AV)} {e1 e2 : List (AV × AV)} {w14 : AV} {w176 : AV} {w177 : AV} {w178 : AV} {w211 : AV} {w212 : AV} {w213 : AV} {Q : XT → St → Prop} (hk : k < (s.secs.getD i default).bl.length) (hl : (s.secs.getD i default).bl.length ≤ 1048576) (hQ : ∀ bv : Bool, (bv = true ↔ ¬ Vb s.w s.h s.lv (s.secs.getD i default).bl k) → Q .normal ⟨[(1, .ptr 101 0), (13, .own 113 m 0 m), (14, w14), (16, .ptr 116 0), (18, .ptr 118 0), (176, w176), (177, w177), (178, w178), (211, w211), (212, w212), (213, w213), (236, .bool bv)], [(101, .box [.int .i64 s.w, .int .i64 s.h, .int .i64 s.lv, .sl 0 3 (s.pts.map Pt.row), .sl 0 2 (s.aws.map (Aw.row 0)), .sl 0 2 (s.secs.map (Sec.row 0)), .sl 0 4 (s.rws.map Rw.row)]), (164, .mp 0 e1), (165, .mp 2 e2), (113, .arr 99 m 6 rows), (116, .box [.str (s.secs.getD i default).nm, .sl 0 6 ((s.secs.getD i default).bl.map Blk.row)]), (118, .box [.int .i64 ((s.secs.getD i default).bl.getD k default).x0, .int .i64 ((s.secs.getD i default).bl.getD k default).y0, .int .i64 ((s.secs.getD i default).bl.getD k default).x1, .int .i64 ((s.secs.getD i default).bl.getD k default).y1, .int .i64 ((s.secs.getD i default).bl.getD k default).lo, .int .i64 ((s.secs.getD i default).bl.getD k default).hi])]⟩) : SCode.wp (((((((((Env.nil P).add 48 QG Kh).add 49 QI Gg).add 50 QX Gr).add 51 QJ Gk).add 52 Q1 XN).add 53 QK Gl).add 54 QL Gm).add 55 QM Gn) KA Q ⟨[(1, .ptr 101 0), (13, .own 113 m 0 m), (14, w14), (16, .ptr 116 0), (17, .int .i64 k), (18, .ptr 118 0), (176, w176), (177, w177), (178, w178), (211, w211), (212, w212), (213, w213)], [(101, .box [.int .i64 s.w, .int .i64 s.h, .int .i64 s.lv, .sl 0 3 (s.pts.map Pt.row), .sl 0 2 (s.aws.map (Aw.row 0)), .sl 0 2 (s.secs.map (Sec.row 0)), .sl 0 4 (s.rws.map Rw.row)]), (164, .mp 0 e1), (165, .mp 2 e2), (113, .arr 99 m 6 rows), (116, .box [.str (s.secs.getD i default).nm, .sl 0 6 ((s.secs.getD i default).bl.map Blk.row)]), (118, .box [.int .i64 ((s.secs.getD i default).bl.getD k default).x0, .int .i64 ((s.secs.getD i default).bl.getD k default).y0, .int .i64 ((s.secs.getD i default).bl.getD k default).x1, .int .i64 ((s.secs.getD i default).bl.getD k default).y1, .int .i64 ((s.secs.getD i default).bl.getD k default).lo, .int .i64 ((s.secs.getD i default).bl.getD k default).hi])]⟩ := by
  all_goals (unfold KA; simp (config := { maxSteps := 2000000 }) only [bitvec_to_nat, reduceIte, Nat.reduceEqDiff, Nat.reduceAdd, Nat.reduceLeDiff, reduceCtorEq, Nat.reduceBEq, Nat.reduceLT, Nat.reduceMod, List.forall_mem_cons, QG, QI, QX, QJ, Q1, QK, QL, QM, Qh, Qj, Qa, QN, Qg, List.take_length, List.length_cons, List.length_nil, Nat.zero_add, QF, QS, QQ, QU, Zone.row, Qe, Qo, Pt.row, Qi, Qu, Aw.row, Qm, QA, Blk.row, Qb, Qk, Sec.row, Qc, Ql, Rw.row, Qn, QB, Qd, Jm, Jn, Q8, QW, Q7, QV, Jg, Q9])
  repeat' (first | with_reducible apply And.intro | with_reducible intro _)
  all_goals first
    | omega
    | (refine hQ _ ?_
       first
         | grind [Vb]
         | (simp; grind [Vb]))
    | grind [Vb]
set_option maxHeartbeats 400000 in
theorem Uj (s : Sky) (n : Int) (m : Nat) {rows : List (List AV)} {e1 e2 : List (AV × AV)} {w13 : AV} {w176 : AV} {w177 : AV} {w178 : AV} {w179 : AV} {Q : XT → St → Prop} (hm : (1 ≤ s.w * s.h ∧ s.w * s.h ≤ 256) ∧ 1 ≤ s.w * s.h * s.lv ∧ s.w * s.h * s.lv ≤ 1536) (hQ : ∀ bv : Bool, (bv = true ↔ ¬ (n = s.w * s.h * s.lv)) → Q .normal ⟨[(1, .ptr 101 0), (266, .bool bv)], [(101, .box [.int .i64 s.w, .int .i64 s.h, .int .i64 s.lv, .sl 0 3 (s.pts.map Pt.row), .sl 0 2 (s.aws.map (Aw.row 0)), .sl 0 2 (s.secs.map (Sec.row 0)), .sl 0 4 (s.rws.map Rw.row)]), (164, .mp 0 e1), (165, .mp 2 e2), (113, .arr 99 m 6 rows)]⟩) : SCode.wp (((((((((Env.nil P).add 48 QG Kh).add 49 QI Gg).add 50 QX Gr).add 51 QJ Gk).add 52 Q1 XN).add 53 QK Gl).add 54 QL Gm).add 55 QM Gn) KB Q ⟨[(1, .ptr 101 0), (13, w13), (14, .int .i64 n), (176, w176), (177, w177), (178, w178), (179, w179)], [(101, .box [.int .i64 s.w, .int .i64 s.h, .int .i64 s.lv, .sl 0 3 (s.pts.map Pt.row), .sl 0 2 (s.aws.map (Aw.row 0)), .sl 0 2 (s.secs.map (Sec.row 0)), .sl 0 4 (s.rws.map Rw.row)]), (164, .mp 0 e1), (165, .mp 2 e2), (113, .arr 99 m 6 rows)]⟩ := by
  all_goals (unfold KB; simp (config := { maxSteps := 2000000 }) only [bitvec_to_nat, reduceIte, Nat.reduceEqDiff, Nat.reduceAdd, Nat.reduceLeDiff, reduceCtorEq, Nat.reduceBEq, Nat.reduceLT, Nat.reduceMod, List.forall_mem_cons, QG, QI, QX, QJ, Q1, QK, QL, QM, Qh, Qj, Qa, QN, Qg, List.take_length, List.length_cons, List.length_nil, Nat.zero_add, QF, QS, QQ, QU, Zone.row, Qe, Qo, Pt.row, Qi, Qu, Aw.row, Qm, QA, Blk.row, Qb, Qk, Sec.row, Qc, Ql, Rw.row, Qn, QB, Qd, Jm, Jn, Q8, QW, Q7, QV, Jg, Q9])
  repeat' (first | with_reducible apply And.intro | with_reducible intro _)
  all_goals first
    | omega
    | (refine hQ _ ?_
       first
         | grind []
         | (simp; grind []))
    | grind []
set_option maxHeartbeats 400000 in
theorem Uk (s : Sky) (i m : Nat) (cl : List (Int × Int)) {rows : List (List AV)} {e1 e2 : List (AV × AV)} {w269 : AV} {w270 : AV} {w271 : AV} {Q : XT → St → Prop} (hi : i < s.rws.length) (hl : s.rws.length ≤ 1048576) (hd : KY s.w s.h s.lv) (hQ : ∀ bv : Bool, (bv = true ↔ ¬ (JJ (s.rws.getD i default).nm ∧ (0 < i → slt (s.rws.getD (i - 1) default).nm (s.rws.getD i default).nm) ∧ (s.rws.getD i default).ok s.w s.h ∧ ¬ QeA ((s.rws.getD i default).x, (s.rws.getD i default).y) cl)) → Q .normal ⟨[(1, .ptr 101 0), (4, .ptr 367 0), (23, .ptr 123 0), (269, w269), (270, w270), (271, w271), (311, .bool bv)], [(101, .box [.int .i64 s.w, .int .i64 s.h, .int .i64 s.lv, .sl 0 3 (s.pts.map Pt.row), .sl 0 2 (s.aws.map (Aw.row 0)), .sl 0 2 (s.secs.map (Sec.row 0)), .sl 0 4 (s.rws.map Rw.row)]), (164, .mp 0 e1), (165, .mp 2 e2), (113, .arr 99 m 6 rows), (367, .mp 2 (Xi Kj cl)), (122, .box [.str (s.rws.getD i default).nm, .int .i64 (s.rws.getD i default).x, .int .i64 (s.rws.getD i default).y, .int .i64 (s.rws.getD i default).tn]), (123, .box [.int .i64 (s.rws.getD i default).x, .int .i64 (s.rws.getD i default).y])]⟩) : SCode.wp (((((((((Env.nil P).add 48 QG Kh).add 49 QI Gg).add 50 QX Gr).add 51 QJ Gk).add 52 Q1 XN).add 53 QK Gl).add 54 QL Gm).add 55 QM Gn) KC Q ⟨[(1, .ptr 101 0), (4, .ptr 367 0), (21, .int .i64 i), (22, .ptr 122 0), (23, .ptr 123 0), (269, w269), (270, w270), (271, w271)], [(101, .box [.int .i64 s.w, .int .i64 s.h, .int .i64 s.lv, .sl 0 3 (s.pts.map Pt.row), .sl 0 2 (s.aws.map (Aw.row 0)), .sl 0 2 (s.secs.map (Sec.row 0)), .sl 0 4 (s.rws.map Rw.row)]), (164, .mp 0 e1), (165, .mp 2 e2), (113, .arr 99 m 6 rows), (367, .mp 2 (Xi Kj cl)), (122, .box [.str (s.rws.getD i default).nm, .int .i64 (s.rws.getD i default).x, .int .i64 (s.rws.getD i default).y, .int .i64 (s.rws.getD i default).tn]), (123, .box [.int .i64 (s.rws.getD i default).x, .int .i64 (s.rws.getD i default).y])]⟩ := by
  all_goals (unfold KC; simp (config := { maxSteps := 2000000 }) only [bitvec_to_nat, reduceIte, Nat.reduceEqDiff, Nat.reduceAdd, Nat.reduceLeDiff, reduceCtorEq, Nat.reduceBEq, Nat.reduceLT, Nat.reduceMod, List.forall_mem_cons, QG, QI, QX, QJ, Q1, QK, QL, QM, Qh, Qj, Qa, QN, Qg, List.take_length, List.length_cons, List.length_nil, Nat.zero_add, QF, QS, QQ, QU, Zone.row, Qe, Qo, Pt.row, Qi, Qu, Aw.row, Qm, QA, Blk.row, Qb, Qk, Sec.row, Qc, Ql, Rw.row, Qn, QB, Qd, Jm, Jn, Q8, QW, Q7, QV, Jg, Q9])
  repeat' (first | with_reducible apply And.intro | with_reducible intro _)
  all_goals first
    | omega
    | (refine hQ _ ?_
       first
         | grind [Rw.ok, J0, KY]
         | (simp; grind [Rw.ok, J0, KY]))
    | grind [Rw.ok, J0, KY]
theorem Qgm {l : List Pt} {q : ByteArray} : QeA q (l.map (·.nm)) ↔ 0 ≤ JD l q := by
  unfold QeA JD
  rw [Qjr]
  constructor
  · intro h
    have h : q ∈ (l.take l.length).map (·.nm) := by rw [List.take_length]; exact h
    obtain ⟨k, hk, e⟩ := (Gj (Nat.le_refl _)).1 h
    exact ⟨k, hk, by simpa using e⟩
  · rintro ⟨k, hk, e⟩
    have := (Gj (f := (·.nm)) (l := l) (Nat.le_refl _) (q := q)).2 ⟨k, hk, by simpa using e⟩
    rwa [List.take_length] at this
theorem Qgn {l : List ByteArray} {i : Nat} (hi : i ≤ l.length) {q : ByteArray} : QeA q (l.take i) ↔ ∃ k, k < i ∧ l.getD k default = q := by
  have := Gj (f := fun x : ByteArray => x) hi (q := q)
  rwa [List.map_id'] at this
theorem Qco {α : Type} [Inhabited α] {f : α → Int × Int} {l : List α} {i : Nat} (hi : i ≤ l.length) {q : Int × Int} : QeA q ((l.take i).map f) ↔ ∃ k, k < i ∧ f (l.getD k default) = q := Gj hi
theorem Qcp {α : Type} [Inhabited α] {l : List α} {i : Nat} (hi : i < l.length) : l.take (i + 1) = l.take i ++ [l.getD i default] := by
  have e : l.getD i default = l[i] := by simp [hi]
  rw [e, List.take_succ_eq_append_getElem hi]
end
end Go.Ve

namespace Go.Ve
noncomputable section
open Go.Proofs
set_option linter.unusedSimpArgs false
set_option linter.unusedVariables false
set_option maxRecDepth 100000
def pre (l : List Sec) (i k : Nat) : List Blk := Q6 (l.take i) ++ (l.getD i default).bl.take k
theorem QeC {l : List Sec} {i : Nat} : pre l i 0 = Q6 (l.take i) := by simp [pre]
theorem QeD {l : List Sec} {i k : Nat} (hk : k < (l.getD i default).bl.length) : pre l i (k + 1) = pre l i k ++ [(l.getD i default).bl.getD k default] := by
  unfold pre; rw [Qcp hk, List.append_assoc]
theorem QjI {l : List Sec} {i : Nat} (hi : i < l.length) : pre l i (l.getD i default).bl.length = Q6 (l.take (i + 1)) := by
  unfold pre; rw [List.take_length, YL hi]
theorem QjJ {l : List Sec} {i k : Nat} (hi : i < l.length) : (pre l i k).Sublist (Q6 l) := by
  have h1 : (pre l i k).Sublist (Q6 (l.take (i + 1))) := by
    rw [YL hi]; exact List.Sublist.append (List.Sublist.refl _) (List.take_sublist _ _)
  have h2 : (Q6 (l.take (i + 1))).Sublist (Q6 l) := by
    have : Q6 l = Q6 (l.take (i + 1)) ++ Q6 (l.drop (i + 1)) := by
      have h := List.take_append_drop (i + 1) l
      conv => lhs; rw [← h]
      simp only [Q6, List.flatMap_append]
    rw [this]; exact List.sublist_append_left _ _
  exact h1.trans h2
theorem Wp {l : List Sec} : ∀ {i : Nat}, i ≤ l.length → (∀ j, j < i → (l.getD j default).bl.length ≤ 4) → (Q6 (l.take i)).length ≤ 4 * i
  | 0, _, _ => by simp [Q6]
  | i + 1, hi, h => by
    rw [YL (by omega), List.length_append]
    have := Wp (l := l) (i := i) (by omega) fun j hj => h j (by omega)
    have := h i (by omega); omega
theorem Qie {l : List Blk} {b : Blk} : Qew (l ++ [b]) = Qew l + b.vol := by simp [Qew]
theorem Qla {w h lv : Int} {l : List Sec} {i k : Nat} (hi : i < l.length) (h1 : ∀ j, j < i → Qcj w h lv l j) (hk : k ≤ (l.getD i default).bl.length) (h2 : ∀ j, j < k → Vb w h lv (l.getD i default).bl j) : ∀ b ∈ pre l i k, b.ok w h lv := by
  intro b hb
  unfold pre at hb
  rw [List.mem_append] at hb
  rcases hb with hb | hb
  · simp only [Q6, List.mem_flatMap] at hb
    obtain ⟨x, hx, hb⟩ := hb
    obtain ⟨j, hj, rfl⟩ := List.mem_iff_getElem.1 hx
    rw [List.length_take] at hj
    rw [List.getElem_take] at hb
    obtain ⟨q, hq, rfl⟩ := List.mem_iff_getElem.1 hb
    have := ((h1 j (by omega)).2.2.2 q (by simpa [show j < l.length by omega] using hq)).1
    simpa [show j < l.length by omega, hq] using this
  · obtain ⟨q, hq, rfl⟩ := List.mem_iff_getElem.1 hb
    rw [List.length_take] at hq
    rw [List.getElem_take]
    have := (h2 q (by omega)).1
    rwa [List.getD_eq_getElem?_getD, List.getElem?_eq_getElem (by omega)] at this
def Wq (l : List Blk) : Prop := l.Pairwise fun a b => ¬ a.meet b
theorem Qcq {l : List Blk} : (∀ i, i < l.length → QaZ l i) ↔ Wq l := by
  unfold Wq QaZ
  rw [List.pairwise_iff_getElem]
  constructor
  · intro h i j hi hj hij
    have := h j hj i hij
    simpa [hi, hj] using this
  · intro h i hi k hk
    have := h k i (by omega) hi hk
    simpa [hi, show k < l.length by omega] using this
theorem W1 {l : List Blk} {b : Blk} : Wq (l ++ [b]) ↔ Wq l ∧ ∀ k, k < l.length → ¬ (l.getD k default).meet b := by
  unfold Wq
  rw [List.pairwise_append]
  constructor
  · rintro ⟨h1, _, h3⟩
    exact ⟨h1, fun k hk => h3 _ (Qa7 hk) b (by simp)⟩
  · rintro ⟨h1, h2⟩
    refine ⟨h1, List.pairwise_singleton _ _, fun a ha b' hb' => ?_⟩
    obtain ⟨k, hk, rfl⟩ := List.mem_iff_getElem.1 ha
    have := h2 k hk
    simp only [List.mem_singleton] at hb'
    subst hb'
    simpa [hk] using this
set_option maxHeartbeats 2000000 in
theorem Qdl (s : Sky) (hs : s.small) (hf : s.fitp) : Contract P 25 [.agg (s.row 0)] [] (.bool (decide s.valid)) [] := by
  have hs1 := hs.1; have hs2 := hs.2.1.1; have hs3 := hs.2.2.1.1; have hs4 := hs.2.2.2
  simp only [Sky.row]
  refine Qs (((((((((Env.nil P).add 48 QG Kh).add 49 QI Gg).add 50 QX Gr).add 51 QJ Gk).add 52 Q1 XN).add 53 QK Gl).add 54 QL Gm).add 55 QM Gn) hm Wa (Nat.le_of_ble_eq_true rfl) rfl ?_; unfold Xu; simp (config := { maxSteps := 2000000 }) only [bitvec_to_nat, reduceIte, Nat.reduceEqDiff, Nat.reduceAdd, Nat.reduceLeDiff, reduceCtorEq, Nat.reduceBEq, Nat.reduceLT, Nat.reduceMod, List.forall_mem_cons, QG, QI, QX, QJ, Q1, QK, QL, QM, Qh, Qj, Qa, QN, Qg, List.take_length, List.length_cons, List.length_nil, Nat.zero_add, QF, QS, QQ, QU, Zone.row, Qe, Qo, Pt.row, Qi, Qu, Aw.row, Qm, QA, Blk.row, Qb, Qk, Sec.row, Qc, Ql, Rw.row, Qn, QB, Qd, Jm, Jn, Q8, QW, Q7, QV, Jg, Q9]
  refine Ue s fun bv hbv => ?_
  cases bv
  case true =>
    simp (config := { maxSteps := 2000000 }) only [bitvec_to_nat, reduceIte, Nat.reduceEqDiff, Nat.reduceAdd, Nat.reduceLeDiff, reduceCtorEq, Nat.reduceBEq, Nat.reduceLT, Nat.reduceMod, List.forall_mem_cons, QG, QI, QX, QJ, Q1, QK, QL, QM, Qh, Qj, Qa, QN, Qg, List.take_length, List.length_cons, List.length_nil, Nat.zero_add, QF, QS, QQ, QU, Zone.row, Qe, Qo, Pt.row, Qi, Qu, Aw.row, Qm, QA, Blk.row, Qb, Qk, Sec.row, Qc, Ql, Rw.row, Qn, QB, Qd, Jm, Jn, Q8, QW, Q7, QV, Jg, Q9]
    exact fun hv => (hbv.1 rfl) ⟨hv.1, hv.2.1.1, hv.2.2.1.1, hv.2.2.2.1.1, hv.2.2.2.2.2.1⟩
  have o0 := Classical.not_not.1 fun h => Bool.noConfusion (hbv.2 h)
  obtain ⟨hd, l1, l2, l3, l4⟩ := o0
  have hmul := Qey hd
  simp (config := { maxSteps := 2000000 }) only [bitvec_to_nat, reduceIte, Nat.reduceEqDiff, Nat.reduceAdd, Nat.reduceLeDiff, reduceCtorEq, Nat.reduceBEq, Nat.reduceLT, Nat.reduceMod, List.forall_mem_cons, QG, QI, QX, QJ, Q1, QK, QL, QM, Qh, Qj, Qa, QN, Qg, List.take_length, List.length_cons, List.length_nil, Nat.zero_add, QF, QS, QQ, QU, Zone.row, Qe, Qo, Pt.row, Qi, Qu, Aw.row, Qm, QA, Blk.row, Qb, Qk, Sec.row, Qc, Ql, Rw.row, Qn, QB, Qd, Jm, Jn, Q8, QW, Q7, QV, Jg, Q9]
  -- points
  refine QP (fun i : Nat => [(69, .int .i64 i)]) (fun i => [(164, .mp 0 (Xi AV.str ((s.pts.take i).map (·.nm)))), (165, .mp 2 (Xi Kj ((s.pts.take i).map fun p => (p.x, p.y))))]) (fun i => i ≤ s.pts.length ∧ ∀ j, j < i → QjC s.w s.h s.pts j) (fun i => s.pts.length - i) (0) (by simp only [Jz, JA, JB, JC, Qw, Qx, Qy, Qz, reduceIte, Nat.reduceEqDiff]; exact ⟨by repeat' (first | exact trivial | refine ⟨.inr rfl, ?_⟩), by repeat' (first | exact trivial | refine ⟨rfl, ?_⟩), by first | rfl | simp [closedB, Qr, Qp, Qt, dom, Qf, *], by first | rfl | simp [keepB, dom]⟩) ?_ ?_
  · exact ⟨Nat.zero_le _, by intro j hj; omega⟩
  intro i hi NX hN
  unfold Gx; simp (config := { maxSteps := 2000000 }) only [bitvec_to_nat, reduceIte, Nat.reduceEqDiff, Nat.reduceAdd, Nat.reduceLeDiff, reduceCtorEq, Nat.reduceBEq, Nat.reduceLT, Nat.reduceMod, List.forall_mem_cons, QG, QI, QX, QJ, Q1, QK, QL, QM, Qh, Qj, Qa, QN, Qg, List.take_length, List.length_cons, List.length_nil, Nat.zero_add, QF, QS, QQ, QU, Zone.row, Qe, Qo, Pt.row, Qi, Qu, Aw.row, Qm, QA, Blk.row, Qb, Qk, Sec.row, Qc, Ql, Rw.row, Qn, QB, Qd, Jm, Jn, Q8, QW, Q7, QV, Jg, Q9]
  refine ⟨fun g1 => ⟨by omega, by omega, ?_⟩, fun g1 => ?_⟩
  · have A : s.valid → QjC s.w s.h s.pts i := fun h => h.2.1.2 i (by omega)
    unfold QjC at A
    have hc := Qco (f := fun p : Pt => (p.x, p.y)) (l := s.pts) (i := i) (by omega) (q := ((s.pts.getD i default).x, (s.pts.getD i default).y))
    refine Uf s i _ (by omega) hs1 hd fun bv hbv => ?_
    cases bv
    case true =>
      simp (config := { maxSteps := 2000000 }) only [bitvec_to_nat, reduceIte, Nat.reduceEqDiff, Nat.reduceAdd, Nat.reduceLeDiff, reduceCtorEq, Nat.reduceBEq, Nat.reduceLT, Nat.reduceMod, List.forall_mem_cons, QG, QI, QX, QJ, Q1, QK, QL, QM, Qh, Qj, Qa, QN, Qg, List.take_length, List.length_cons, List.length_nil, Nat.zero_add, QF, QS, QQ, QU, Zone.row, Qe, Qo, Pt.row, Qi, Qu, Aw.row, Qm, QA, Blk.row, Qb, Qk, Sec.row, Qc, Ql, Rw.row, Qn, QB, Qd, Jm, Jn, Q8, QW, Q7, QV, Jg, Q9]
      refine fun hv => (hbv.1 rfl) ⟨(A hv).1, (A hv).2.1, (A hv).2.2.1, fun h => ?_⟩
      obtain ⟨k, hk, e⟩ := hc.1 h
      simp only [Prod.mk.injEq] at e
      exact (A hv).2.2.2 k hk e
    have o1 := Classical.not_not.1 fun h => Bool.noConfusion (hbv.2 h)
    simp (config := { maxSteps := 2000000 }) only [bitvec_to_nat, reduceIte, Nat.reduceEqDiff, Nat.reduceAdd, Nat.reduceLeDiff, reduceCtorEq, Nat.reduceBEq, Nat.reduceLT, Nat.reduceMod, List.forall_mem_cons, QG, QI, QX, QJ, Q1, QK, QL, QM, Qh, Qj, Qa, QN, Qg, List.take_length, List.length_cons, List.length_nil, Nat.zero_add, QF, QS, QQ, QU, Zone.row, Qe, Qo, Pt.row, Qi, Qu, Aw.row, Qm, QA, Blk.row, Qb, Qk, Sec.row, Qc, Ql, Rw.row, Qn, QB, Qd, Jm, Jn, Q8, QW, Q7, QV, Jg, Q9]
    have e1 := G1 (f := fun p : Pt => p.nm) (l := s.pts) (i := i) (by omega)
    have e2 := G1 (f := fun p : Pt => (p.x, p.y)) (l := s.pts) (i := i) (by omega)
    have hb := o1.2.2.1
    unfold J0 at hb; unfold KY at hd
    have hn := o1.1.1
    refine ⟨by omega, by omega, by omega, ?_⟩
    refine hN (i + 1) _ (by simp only [e1, e2, List.length_append, List.length_cons, List.length_nil, Nat.zero_add, List.map_append, List.map_cons, List.map_nil, Jz, JA, JB, JC, Qw, Qx, Qy, Qz, reduceIte, Nat.reduceEqDiff]; exact ⟨by repeat' (first | exact trivial | refine ⟨.inr rfl, ?_⟩), by repeat' (first | exact trivial | refine ⟨rfl, ?_⟩), by first | rfl | simp [closedB, Qr, Qp, Qt, dom, Qf, *], by first | rfl | simp [keepB, dom]⟩) ?_ ?_
    · refine ⟨by omega, Ja hi.2 ⟨o1.1, o1.2.1, o1.2.2.1, fun k hk e => o1.2.2.2 (hc.2 ⟨k, hk, by rw [e.1, e.2]⟩)⟩⟩
    · omega
  -- airways
  have e : i = s.pts.length := by omega
  subst e
  have hpts := hi.2
  clear hi hN NX
  simp only [List.take_length]
  refine QP (fun i : Nat => [(122, .int .i64 i)]) (fun _ => []) (fun i => i ≤ s.aws.length ∧ ∀ j, j < i → QjD s.pts s.aws j) (fun i => s.aws.length - i) (0) (by simp only [Jz, JA, JB, JC, Qw, Qx, Qy, Qz, reduceIte, Nat.reduceEqDiff]; exact ⟨by repeat' (first | exact trivial | refine ⟨.inr rfl, ?_⟩), by repeat' (first | exact trivial | refine ⟨rfl, ?_⟩), by first | rfl | simp [closedB, Qr, Qp, Qt, dom, Qf, *], by first | rfl | simp [keepB, dom]⟩) ?_ ?_
  · exact ⟨Nat.zero_le _, by intro j hj; omega⟩
  intro i hi NX hN
  unfold Gz; simp (config := { maxSteps := 2000000 }) only [bitvec_to_nat, reduceIte, Nat.reduceEqDiff, Nat.reduceAdd, Nat.reduceLeDiff, reduceCtorEq, Nat.reduceBEq, Nat.reduceLT, Nat.reduceMod, List.forall_mem_cons, QG, QI, QX, QJ, Q1, QK, QL, QM, Qh, Qj, Qa, QN, Qg, List.take_length, List.length_cons, List.length_nil, Nat.zero_add, QF, QS, QQ, QU, Zone.row, Qe, Qo, Pt.row, Qi, Qu, Aw.row, Qm, QA, Blk.row, Qb, Qk, Sec.row, Qc, Ql, Rw.row, Qn, QB, Qd, Jm, Jn, Q8, QW, Q7, QV, Jg, Q9]
  refine ⟨fun g1 => ⟨by omega, by omega, ?_⟩, fun g1 => ?_⟩
  · have A : s.valid → QjD s.pts s.aws i := fun h => h.2.2.1.2 i (by omega)
    unfold QjD at A
    have hq4 := Sky.small_aw hs (i := i) (by omega)
    have hff : (s.aws.getD i default).fitp := hf.2.1.2 _ (Qa7 (by omega))
    refine Ug s i (by omega) hs2 fun bv hbv => ?_
    cases bv
    case true =>
      simp (config := { maxSteps := 2000000 }) only [bitvec_to_nat, reduceIte, Nat.reduceEqDiff, Nat.reduceAdd, Nat.reduceLeDiff, reduceCtorEq, Nat.reduceBEq, Nat.reduceLT, Nat.reduceMod, List.forall_mem_cons, QG, QI, QX, QJ, Q1, QK, QL, QM, Qh, Qj, Qa, QN, Qg, List.take_length, List.length_cons, List.length_nil, Nat.zero_add, QF, QS, QQ, QU, Zone.row, Qe, Qo, Pt.row, Qi, Qu, Aw.row, Qm, QA, Blk.row, Qb, Qk, Sec.row, Qc, Ql, Rw.row, Qn, QB, Qd, Jm, Jn, Q8, QW, Q7, QV, Jg, Q9]
      exact fun hv => (hbv.1 rfl) ⟨(A hv).1, (A hv).2.1, (A hv).2.2.1⟩
    have o1 := Classical.not_not.1 fun h => Bool.noConfusion (hbv.2 h)
    simp (config := { maxSteps := 2000000 }) only [bitvec_to_nat, reduceIte, Nat.reduceEqDiff, Nat.reduceAdd, Nat.reduceLeDiff, reduceCtorEq, Nat.reduceBEq, Nat.reduceLT, Nat.reduceMod, List.forall_mem_cons, QG, QI, QX, QJ, Q1, QK, QL, QM, Qh, Qj, Qa, QN, Qg, List.take_length, List.length_cons, List.length_nil, Nat.zero_add, QF, QS, QQ, QU, Zone.row, Qe, Qo, Pt.row, Qi, Qu, Aw.row, Qm, QA, Blk.row, Qb, Qk, Sec.row, Qc, Ql, Rw.row, Qn, QB, Qd, Jm, Jn, Q8, QW, Q7, QV, Jg, Q9]
    refine QP (fun k : Nat => [(158, .int .i64 k)]) (fun k => [(254, .mp 0 (Xi AV.str ((s.aws.getD i default).pts.take k)))]) (fun k => k ≤ (s.aws.getD i default).pts.length ∧ ∀ j, j < k → Qmk s.pts (s.aws.getD i default).pts j) (fun k => (s.aws.getD i default).pts.length - k) (0) (by simp only [Jz, JA, JB, JC, Qw, Qx, Qy, Qz, reduceIte, Nat.reduceEqDiff]; exact ⟨by repeat' (first | exact trivial | refine ⟨.inr rfl, ?_⟩), by repeat' (first | exact trivial | refine ⟨rfl, ?_⟩), by first | rfl | simp [closedB, Qr, Qp, Qt, dom, Qf, *], by first | rfl | simp [keepB, dom]⟩) ?_ ?_
    · exact ⟨Nat.zero_le _, by intro j hj; omega⟩
    intro k hk NX2 hN2
    unfold Gy; simp (config := { maxSteps := 2000000 }) only [bitvec_to_nat, reduceIte, Nat.reduceEqDiff, Nat.reduceAdd, Nat.reduceLeDiff, reduceCtorEq, Nat.reduceBEq, Nat.reduceLT, Nat.reduceMod, List.forall_mem_cons, QG, QI, QX, QJ, Q1, QK, QL, QM, Qh, Qj, Qa, QN, Qg, List.take_length, List.length_cons, List.length_nil, Nat.zero_add, QF, QS, QQ, QU, Zone.row, Qe, Qo, Pt.row, Qi, Qu, Aw.row, Qm, QA, Blk.row, Qb, Qk, Sec.row, Qc, Ql, Rw.row, Qn, QB, Qd, Jm, Jn, Q8, QW, Q7, QV, Jg, Q9]
    refine ⟨fun g2 => ?_, fun g2 => ⟨by omega, ?_⟩⟩
    · have hlen := hff.2.2 _ (Qa7 (l := (s.aws.getD i default).pts) (i := k) (by omega))
      have hin := Qgn (l := (s.aws.getD i default).pts) (i := k) (by omega) (q := (s.aws.getD i default).pts.getD k default)
      refine ⟨by omega, by omega, hlen, fun g3 => ⟨hlen, fun g4 hv => ?_, fun g4 => ⟨hlen, by omega, ?_⟩⟩, fun g3 hv => ?_⟩
      · obtain ⟨j, hj, e⟩ := hin.1 g4
        exact ((A hv).2.2.2 k (by omega)).2 j hj e
      · have e1 := Qcp (l := (s.aws.getD i default).pts) (i := k) (by omega)
        refine hN2 (k + 1) _ (by simp only [e1, List.length_append, List.length_cons, List.length_nil, Nat.zero_add, List.map_append, List.map_cons, List.map_nil, Jz, JA, JB, JC, Qw, Qx, Qy, Qz, reduceIte, Nat.reduceEqDiff]; exact ⟨by repeat' (first | exact trivial | refine ⟨.inr rfl, ?_⟩), by repeat' (first | exact trivial | refine ⟨rfl, ?_⟩), by first | rfl | simp [closedB, Qr, Qp, Qt, dom, Qf, *], by first | rfl | simp [keepB, dom]⟩) ?_ ?_
        · exact ⟨by omega, Ja hk.2 ⟨Qgm.1 g3, fun j hj e => g4 (hin.2 ⟨j, hj, e⟩)⟩⟩
        · omega
      · exact g3 (Qgm.2 ((A hv).2.2.2 k (by omega)).1)
    · refine hN (i + 1) _ (by simp only [Jz, JA, JB, JC, Qw, Qx, Qy, Qz, reduceIte, Nat.reduceEqDiff]; exact ⟨by repeat' (first | exact trivial | refine ⟨.inr rfl, ?_⟩), by repeat' (first | exact trivial | refine ⟨rfl, ?_⟩), by first | rfl | simp [closedB, Qr, Qp, Qt, dom, Qf, *], by first | rfl | simp [keepB, dom]⟩) ?_ ?_
      · exact ⟨by omega, Ja hi.2 ⟨o1.1, o1.2.1, o1.2.2, fun k' hk' => hk.2 k' (by omega)⟩⟩
      · omega
  -- sectors
  have e : i = s.aws.length := by omega
  subst e
  have haws := hi.2
  clear hi hN NX
  refine QP (fun i : Nat => [(13, .own 113 (Q6 (s.secs.take i)).length 0 (Q6 (s.secs.take i)).length), (14, .int .i64 (Qew (Q6 (s.secs.take i)))), (178, .int .i64 i)]) (fun i => [(113, .arr 99 (Q6 (s.secs.take i)).length 6 ((Q6 (s.secs.take i)).map Blk.row))]) (fun i => i ≤ s.secs.length ∧ (∀ j, j < i → Qcj s.w s.h s.lv s.secs j) ∧ Wq (Q6 (s.secs.take i))) (fun i => s.secs.length - i) (0) (by simp only [Jz, JA, JB, JC, Qw, Qx, Qy, Qz, reduceIte, Nat.reduceEqDiff]; exact ⟨by repeat' (first | exact trivial | refine ⟨.inr rfl, ?_⟩), by repeat' (first | exact trivial | refine ⟨rfl, ?_⟩), by first | rfl | simp [closedB, Qr, Qp, Qt, dom, Qf, *], by first | rfl | simp [keepB, dom]⟩) ?_ ?_
  · exact ⟨Nat.zero_le _, (by intro j hj; omega), List.Pairwise.nil⟩
  intro i hi NX hN
  unfold GC; simp (config := { maxSteps := 2000000 }) only [bitvec_to_nat, reduceIte, Nat.reduceEqDiff, Nat.reduceAdd, Nat.reduceLeDiff, reduceCtorEq, Nat.reduceBEq, Nat.reduceLT, Nat.reduceMod, List.forall_mem_cons, QG, QI, QX, QJ, Q1, QK, QL, QM, Qh, Qj, Qa, QN, Qg, List.take_length, List.length_cons, List.length_nil, Nat.zero_add, QF, QS, QQ, QU, Zone.row, Qe, Qo, Pt.row, Qi, Qu, Aw.row, Qm, QA, Blk.row, Qb, Qk, Sec.row, Qc, Ql, Rw.row, Qn, QB, Qd, Jm, Jn, Q8, QW, Q7, QV, Jg, Q9]
  refine ⟨fun g1 => ⟨by omega, by omega, ?_⟩, fun g1 => ?_⟩
  · have A : s.valid → Qcj s.w s.h s.lv s.secs i := fun h => h.2.2.2.1.2 i (by omega)
    unfold Qcj at A
    have hq4 := Sky.small_sec hs (i := i) (by omega)
    have hbl := Wp (l := s.secs) (i := i) (by omega) fun j hj => (hi.2.1 j hj).2.2.1.2
    refine Uh s i _ (by omega) hs3 fun bv hbv => ?_
    cases bv
    case true =>
      simp (config := { maxSteps := 2000000 }) only [bitvec_to_nat, reduceIte, Nat.reduceEqDiff, Nat.reduceAdd, Nat.reduceLeDiff, reduceCtorEq, Nat.reduceBEq, Nat.reduceLT, Nat.reduceMod, List.forall_mem_cons, QG, QI, QX, QJ, Q1, QK, QL, QM, Qh, Qj, Qa, QN, Qg, List.take_length, List.length_cons, List.length_nil, Nat.zero_add, QF, QS, QQ, QU, Zone.row, Qe, Qo, Pt.row, Qi, Qu, Aw.row, Qm, QA, Blk.row, Qb, Qk, Sec.row, Qc, Ql, Rw.row, Qn, QB, Qd, Jm, Jn, Q8, QW, Q7, QV, Jg, Q9]
      exact fun hv => (hbv.1 rfl) ⟨(A hv).1, (A hv).2.1, (A hv).2.2.1⟩
    have o1 := Classical.not_not.1 fun h => Bool.noConfusion (hbv.2 h)
    simp (config := { maxSteps := 2000000 }) only [bitvec_to_nat, reduceIte, Nat.reduceEqDiff, Nat.reduceAdd, Nat.reduceLeDiff, reduceCtorEq, Nat.reduceBEq, Nat.reduceLT, Nat.reduceMod, List.forall_mem_cons, QG, QI, QX, QJ, Q1, QK, QL, QM, Qh, Qj, Qa, QN, Qg, List.take_length, List.length_cons, List.length_nil, Nat.zero_add, QF, QS, QQ, QU, Zone.row, Qe, Qo, Pt.row, Qi, Qu, Aw.row, Qm, QA, Blk.row, Qb, Qk, Sec.row, Qc, Ql, Rw.row, Qn, QB, Qd, Jm, Jn, Q8, QW, Q7, QV, Jg, Q9]
    rw [← QeC (l := s.secs) (i := i)]
    refine QP (fun k : Nat => [(13, .own 113 (pre s.secs i k).length 0 (pre s.secs i k).length), (14, .int .i64 (Qew (pre s.secs i k))), (213, .int .i64 k)]) (fun k => [(113, .arr 99 (pre s.secs i k).length 6 ((pre s.secs i k).map Blk.row))]) (fun k => k ≤ (s.secs.getD i default).bl.length ∧ (∀ j, j < k → Vb s.w s.h s.lv (s.secs.getD i default).bl j) ∧ Wq (pre s.secs i k)) (fun k => (s.secs.getD i default).bl.length - k) (0) (by simp only [Jz, JA, JB, JC, Qw, Qx, Qy, Qz, reduceIte, Nat.reduceEqDiff]; exact ⟨by repeat' (first | exact trivial | refine ⟨.inr rfl, ?_⟩), by repeat' (first | exact trivial | refine ⟨rfl, ?_⟩), by first | rfl | simp [closedB, Qr, Qp, Qt, dom, Qf, *], by first | rfl | simp [keepB, dom]⟩) ?_ ?_
    · exact ⟨Nat.zero_le _, (by intro j hj; omega), by rw [QeC]; exact hi.2.2⟩
    intro k hk NX2 hN2
    unfold GB; simp (config := { maxSteps := 2000000 }) only [bitvec_to_nat, reduceIte, Nat.reduceEqDiff, Nat.reduceAdd, Nat.reduceLeDiff, reduceCtorEq, Nat.reduceBEq, Nat.reduceLT, Nat.reduceMod, List.forall_mem_cons, QG, QI, QX, QJ, Q1, QK, QL, QM, Qh, Qj, Qa, QN, Qg, List.take_length, List.length_cons, List.length_nil, Nat.zero_add, QF, QS, QQ, QU, Zone.row, Qe, Qo, Pt.row, Qi, Qu, Aw.row, Qm, QA, Blk.row, Qb, Qk, Sec.row, Qc, Ql, Rw.row, Qn, QB, Qd, Jm, Jn, Q8, QW, Q7, QV, Jg, Q9]
    refine ⟨fun g2 => ⟨by omega, by omega, ?_⟩, fun g2 => ?_⟩
    · refine Ui s i k _ (by omega) hq4 fun bv hbv => ?_
      cases bv
      case true =>
        simp (config := { maxSteps := 2000000 }) only [bitvec_to_nat, reduceIte, Nat.reduceEqDiff, Nat.reduceAdd, Nat.reduceLeDiff, reduceCtorEq, Nat.reduceBEq, Nat.reduceLT, Nat.reduceMod, List.forall_mem_cons, QG, QI, QX, QJ, Q1, QK, QL, QM, Qh, Qj, Qa, QN, Qg, List.take_length, List.length_cons, List.length_nil, Nat.zero_add, QF, QS, QQ, QU, Zone.row, Qe, Qo, Pt.row, Qi, Qu, Aw.row, Qm, QA, Blk.row, Qb, Qk, Sec.row, Qc, Ql, Rw.row, Qn, QB, Qd, Jm, Jn, Q8, QW, Q7, QV, Jg, Q9]
        exact fun hv => (hbv.1 rfl) ((A hv).2.2.2 k (by omega))
      have o2 := Classical.not_not.1 fun h => Bool.noConfusion (hbv.2 h)
      have hpl : (pre s.secs i k).length ≤ 28 := by unfold pre; rw [List.length_append, List.length_take]; omega
      simp (config := { maxSteps := 2000000 }) only [bitvec_to_nat, reduceIte, Nat.reduceEqDiff, Nat.reduceAdd, Nat.reduceLeDiff, reduceCtorEq, Nat.reduceBEq, Nat.reduceLT, Nat.reduceMod, List.forall_mem_cons, QG, QI, QX, QJ, Q1, QK, QL, QM, Qh, Qj, Qa, QN, Qg, List.take_length, List.length_cons, List.length_nil, Nat.zero_add, QF, QS, QQ, QU, Zone.row, Qe, Qo, Pt.row, Qi, Qu, Aw.row, Qm, QA, Blk.row, Qb, Qk, Sec.row, Qc, Ql, Rw.row, Qn, QB, Qd, Jm, Jn, Q8, QW, Q7, QV, Jg, Q9]
      refine QP (fun j : Nat => [(239, .int .i64 j)]) (fun _ => []) (fun j => j ≤ (pre s.secs i k).length ∧ ∀ q, q < j → ¬ ((pre s.secs i k).getD q default).meet ((s.secs.getD i default).bl.getD k default)) (fun j => (pre s.secs i k).length - j) (0) (by simp only [Jz, JA, JB, JC, Qw, Qx, Qy, Qz, reduceIte, Nat.reduceEqDiff]; exact ⟨by repeat' (first | exact trivial | refine ⟨.inr rfl, ?_⟩), by repeat' (first | exact trivial | refine ⟨rfl, ?_⟩), by first | rfl | simp [closedB, Qr, Qp, Qt, dom, Qf, *], by first | rfl | simp [keepB, dom]⟩) ?_ ?_
      · exact ⟨Nat.zero_le _, by intro j hj; omega⟩
      intro j hj NX3 hN3
      unfold GA; simp (config := { maxSteps := 2000000 }) only [bitvec_to_nat, reduceIte, Nat.reduceEqDiff, Nat.reduceAdd, Nat.reduceLeDiff, reduceCtorEq, Nat.reduceBEq, Nat.reduceLT, Nat.reduceMod, List.forall_mem_cons, QG, QI, QX, QJ, Q1, QK, QL, QM, Qh, Qj, Qa, QN, Qg, List.take_length, List.length_cons, List.length_nil, Nat.zero_add, QF, QS, QQ, QU, Zone.row, Qe, Qo, Pt.row, Qi, Qu, Aw.row, Qm, QA, Blk.row, Qb, Qk, Sec.row, Qc, Ql, Rw.row, Qn, QB, Qd, Jm, Jn, Q8, QW, Q7, QV, Jg, Q9]
      refine ⟨fun g3 => ⟨⟨by omega, by omega⟩, by omega, fun g4 hv => ?_, fun g4 => ⟨by omega, ?_⟩⟩, fun g3 => ?_⟩
      · have h1 := Qcq.1 hv.2.2.2.2.1.1
        have h2 : Wq (pre s.secs i (k + 1)) := h1.sublist (QjJ (by omega))
        rw [QeD (by omega)] at h2
        exact (W1.1 h2).2 j (by omega) g4
      · refine hN3 (j + 1) _ (by simp only [Jz, JA, JB, JC, Qw, Qx, Qy, Qz, reduceIte, Nat.reduceEqDiff]; exact ⟨by repeat' (first | exact trivial | refine ⟨.inr rfl, ?_⟩), by repeat' (first | exact trivial | refine ⟨rfl, ?_⟩), by first | rfl | simp [closedB, Qr, Qp, Qt, dom, Qf, *], by first | rfl | simp [keepB, dom]⟩) ?_ ?_
        · exact ⟨by omega, Ja hj.2 g4⟩
        · omega
      · have hbo := o2.1
        have hvb := Qcm hd hbo
        have hvs := Qdi hd (Qla (l := s.secs) (i := i) (k := k) (by omega) hi.2.1 (by omega) hk.2.1)
        have e1 := QeD (l := s.secs) (i := i) (k := k) (by omega)
        refine ⟨by omega, ⟨_, _, _, hd, hbo⟩, by omega, by omega, ?_⟩
        refine hN2 (k + 1) _ (by simp only [e1, Qie, List.length_append, List.length_cons, List.length_nil, Nat.zero_add, List.map_append, List.map_cons, List.map_nil, Jz, JA, JB, JC, Qw, Qx, Qy, Qz, reduceIte, Nat.reduceEqDiff]; exact ⟨by repeat' (first | exact trivial | refine ⟨.inr rfl, ?_⟩), by repeat' (first | exact trivial | refine ⟨rfl, ?_⟩), by first | rfl | simp [closedB, Qr, Qp, Qt, dom, Qf, *], by first | rfl | simp [keepB, dom]⟩) ?_ ?_
        · exact ⟨by omega, Ja hk.2.1 o2, by rw [e1]; exact W1.2 ⟨hk.2.2, fun q hq => hj.2 q (by omega)⟩⟩
        · omega
    · have e1 : pre s.secs i k = Q6 (s.secs.take (i + 1)) := by rw [← QjI (by omega)]; congr 1; omega
      have hap := hk.2.2
      simp only [e1] at hap ⊢
      refine ⟨by omega, ?_⟩
      refine hN (i + 1) _ (by simp only [Jz, JA, JB, JC, Qw, Qx, Qy, Qz, reduceIte, Nat.reduceEqDiff]; exact ⟨by repeat' (first | exact trivial | refine ⟨.inr rfl, ?_⟩), by repeat' (first | exact trivial | refine ⟨rfl, ?_⟩), by first | rfl | simp [closedB, Qr, Qp, Qt, dom, Qf, *], by first | rfl | simp [keepB, dom]⟩) ?_ ?_
      · exact ⟨by omega, Ja hi.2.1 ⟨o1.1, o1.2.1, o1.2.2, fun k' hk' => hk.2.1 k' (by omega)⟩, hap⟩
      · omega
  -- how many places
  have e : i = s.secs.length := by omega
  subst e
  have hsecs := hi.2.1
  have hap := hi.2.2
  clear hi hN NX
  simp only [List.take_length] at hap ⊢
  refine Uj s _ _ hmul fun bv hbv => ?_
  cases bv
  case true =>
    simp (config := { maxSteps := 2000000 }) only [bitvec_to_nat, reduceIte, Nat.reduceEqDiff, Nat.reduceAdd, Nat.reduceLeDiff, reduceCtorEq, Nat.reduceBEq, Nat.reduceLT, Nat.reduceMod, List.forall_mem_cons, QG, QI, QX, QJ, Q1, QK, QL, QM, Qh, Qj, Qa, QN, Qg, List.take_length, List.length_cons, List.length_nil, Nat.zero_add, QF, QS, QQ, QU, Zone.row, Qe, Qo, Pt.row, Qi, Qu, Aw.row, Qm, QA, Blk.row, Qb, Qk, Sec.row, Qc, Ql, Rw.row, Qn, QB, Qd, Jm, Jn, Q8, QW, Q7, QV, Jg, Q9]
    exact fun hv => (hbv.1 rfl) hv.2.2.2.2.1.2
  have o5 := Classical.not_not.1 fun h => Bool.noConfusion (hbv.2 h)
  simp (config := { maxSteps := 2000000 }) only [bitvec_to_nat, reduceIte, Nat.reduceEqDiff, Nat.reduceAdd, Nat.reduceLeDiff, reduceCtorEq, Nat.reduceBEq, Nat.reduceLT, Nat.reduceMod, List.forall_mem_cons, QG, QI, QX, QJ, Q1, QK, QL, QM, Qh, Qj, Qa, QN, Qg, List.take_length, List.length_cons, List.length_nil, Nat.zero_add, QF, QS, QQ, QU, Zone.row, Qe, Qo, Pt.row, Qi, Qu, Aw.row, Qm, QA, Blk.row, Qb, Qk, Sec.row, Qc, Ql, Rw.row, Qn, QB, Qd, Jm, Jn, Q8, QW, Q7, QV, Jg, Q9]
  -- runways
  refine QP (fun i : Nat => [(271, .int .i64 i)]) (fun i => [(367, .mp 2 (Xi Kj ((s.rws.take i).map fun r => (r.x, r.y))))]) (fun i => i ≤ s.rws.length ∧ ∀ j, j < i → QjE s.w s.h s.rws j) (fun i => s.rws.length - i) (0) (by simp only [Jz, JA, JB, JC, Qw, Qx, Qy, Qz, reduceIte, Nat.reduceEqDiff]; exact ⟨by repeat' (first | exact trivial | refine ⟨.inr rfl, ?_⟩), by repeat' (first | exact trivial | refine ⟨rfl, ?_⟩), by first | rfl | simp [closedB, Qr, Qp, Qt, dom, Qf, *], by first | rfl | simp [keepB, dom]⟩) ?_ ?_
  · exact ⟨Nat.zero_le _, by intro j hj; omega⟩
  intro i hi NX hN
  unfold GD; simp (config := { maxSteps := 2000000 }) only [bitvec_to_nat, reduceIte, Nat.reduceEqDiff, Nat.reduceAdd, Nat.reduceLeDiff, reduceCtorEq, Nat.reduceBEq, Nat.reduceLT, Nat.reduceMod, List.forall_mem_cons, QG, QI, QX, QJ, Q1, QK, QL, QM, Qh, Qj, Qa, QN, Qg, List.take_length, List.length_cons, List.length_nil, Nat.zero_add, QF, QS, QQ, QU, Zone.row, Qe, Qo, Pt.row, Qi, Qu, Aw.row, Qm, QA, Blk.row, Qb, Qk, Sec.row, Qc, Ql, Rw.row, Qn, QB, Qd, Jm, Jn, Q8, QW, Q7, QV, Jg, Q9]
  refine ⟨fun g1 => ⟨by omega, by omega, ?_⟩, fun g1 => ?_⟩
  · have A : s.valid → QjE s.w s.h s.rws i := fun h => h.2.2.2.2.2.2 i (by omega)
    unfold QjE at A
    have hc := Qco (f := fun p : Rw => (p.x, p.y)) (l := s.rws) (i := i) (by omega) (q := ((s.rws.getD i default).x, (s.rws.getD i default).y))
    refine Uk s i _ _ (by omega) hs4 hd fun bv hbv => ?_
    cases bv
    case true =>
      simp (config := { maxSteps := 2000000 }) only [bitvec_to_nat, reduceIte, Nat.reduceEqDiff, Nat.reduceAdd, Nat.reduceLeDiff, reduceCtorEq, Nat.reduceBEq, Nat.reduceLT, Nat.reduceMod, List.forall_mem_cons, QG, QI, QX, QJ, Q1, QK, QL, QM, Qh, Qj, Qa, QN, Qg, List.take_length, List.length_cons, List.length_nil, Nat.zero_add, QF, QS, QQ, QU, Zone.row, Qe, Qo, Pt.row, Qi, Qu, Aw.row, Qm, QA, Blk.row, Qb, Qk, Sec.row, Qc, Ql, Rw.row, Qn, QB, Qd, Jm, Jn, Q8, QW, Q7, QV, Jg, Q9]
      refine fun hv => (hbv.1 rfl) ⟨(A hv).1, (A hv).2.1, (A hv).2.2.1, fun h => ?_⟩
      obtain ⟨k, hk, e⟩ := hc.1 h
      simp only [Prod.mk.injEq] at e
      exact (A hv).2.2.2 k hk e
    have o1 := Classical.not_not.1 fun h => Bool.noConfusion (hbv.2 h)
    simp (config := { maxSteps := 2000000 }) only [bitvec_to_nat, reduceIte, Nat.reduceEqDiff, Nat.reduceAdd, Nat.reduceLeDiff, reduceCtorEq, Nat.reduceBEq, Nat.reduceLT, Nat.reduceMod, List.forall_mem_cons, QG, QI, QX, QJ, Q1, QK, QL, QM, Qh, Qj, Qa, QN, Qg, List.take_length, List.length_cons, List.length_nil, Nat.zero_add, QF, QS, QQ, QU, Zone.row, Qe, Qo, Pt.row, Qi, Qu, Aw.row, Qm, QA, Blk.row, Qb, Qk, Sec.row, Qc, Ql, Rw.row, Qn, QB, Qd, Jm, Jn, Q8, QW, Q7, QV, Jg, Q9]
    have e2 := G1 (f := fun p : Rw => (p.x, p.y)) (l := s.rws) (i := i) (by omega)
    have hb := o1.2.2.1.2.1
    unfold J0 at hb; unfold KY at hd
    refine ⟨by omega, by omega, ?_⟩
    refine hN (i + 1) _ (by simp only [e2, List.length_append, List.length_cons, List.length_nil, Nat.zero_add, List.map_append, List.map_cons, List.map_nil, Jz, JA, JB, JC, Qw, Qx, Qy, Qz, reduceIte, Nat.reduceEqDiff]; exact ⟨by repeat' (first | exact trivial | refine ⟨.inr rfl, ?_⟩), by repeat' (first | exact trivial | refine ⟨rfl, ?_⟩), by first | rfl | simp [closedB, Qr, Qp, Qt, dom, Qf, *], by first | rfl | simp [keepB, dom]⟩) ?_ ?_
    · refine ⟨by omega, Ja hi.2 ⟨o1.1, o1.2.1, o1.2.2.1, fun k hk e => o1.2.2.2 (hc.2 ⟨k, hk, by rw [e.1, e.2]⟩)⟩⟩
    · omega
  · exact ⟨hd, ⟨l1, hpts⟩, ⟨l2, haws⟩, ⟨l3, hsecs⟩, ⟨Qcq.2 hap, o5⟩, ⟨l4, fun j hj => hi.2 j (by omega)⟩⟩
def KH : List AV → Option (Prop × AV)
  | [.agg [.int .i64 s_w, .int .i64 s_h, .int .i64 s_lv, .sl 0 3 s_pts, .sl 0 2 s_aws, .sl 0 2 s_secs, .sl 0 4 s_rws]] => some ((((s_pts.map QO).map Pt.row = s_pts) ∧ ((s_aws.map QR).map (Aw.row 0) = s_aws) ∧ ((s_secs.map Qv).map (Sec.row 0) = s_secs) ∧ ((s_rws.map QT).map Rw.row = s_rws)) ∧ ((Sky.mk s_w s_h s_lv (s_pts.map QO) (s_aws.map QR) (s_secs.map Qv) (s_rws.map QT)).small ∧ (Sky.mk s_w s_h s_lv (s_pts.map QO) (s_aws.map QR) (s_secs.map Qv) (s_rws.map QT)).fitp), .bool (decide (Sky.mk s_w s_h s_lv (s_pts.map QO) (s_aws.map QR) (s_secs.map Qv) (s_rws.map QT)).valid))
  | _ => none
theorem Qdm : ∀ args p v, KH args = some (p, v) → p → Contract P 25 args [] v [] ∧ noref v = true ∧ No99 v := by
  intro args p v h1 h2
  unfold KH at h1
  split at h1
  · rename_i s_w s_h s_lv s_pts s_aws s_secs s_rws
    cases h1
    obtain ⟨⟨e0, e1, e2, e3⟩, HP⟩ := h2
    have := Qdl (Sky.mk s_w s_h s_lv (s_pts.map QO) (s_aws.map QR) (s_secs.map Qv) (s_rws.map QT)) HP.1 HP.2
    exact ⟨by simpa only [e0, e1, e2, e3, Sky.row] using this, rfl, trivial⟩
  · cases h1
end
end Go.Ve

namespace Go.Ve
noncomputable section
open Go.Proofs
set_option linter.unusedSimpArgs false
set_option linter.unusedVariables false
set_option maxRecDepth 100000
structure Place where
  x : Int
  y : Int
  lv : Int
  deriving Inhabited, DecidableEq
def Place.row (s : Place) : List AV := [.int .i64 s.x, .int .i64 s.y, .int .i64 s.lv]
def Blk.has (b : Blk) (x y z : Int) : Prop := (b.x0 ≤ x ∧ x ≤ b.x1) ∧ (b.y0 ≤ y ∧ y ≤ b.y1) ∧ (b.lo ≤ z ∧ z ≤ b.hi)
instance (b : Blk) (x y z : Int) : Decidable (b.has x y z) := by unfold Blk.has; infer_instance
def Sec.has (c : Sec) (x y z : Int) : Prop := ∃ k, k < c.bl.length ∧ (c.bl.getD k default).has x y z
noncomputable instance (c : Sec) (x y z : Int) : Decidable (c.has x y z) := Classical.propDecidable _
/-- The sector that a WB is in, -1 if there is none. -/
def Qmw (l : List Sec) (x y z : Int) : Int := Qfa (fun c => decide (c.has x y z)) l
def vOk (s : Sky) (x y z : Int) : Prop := s.valid ∧ 0 ≤ Qmw s.secs x y z
noncomputable instance (s : Sky) (x y z : Int) : Decidable (vOk s x y z) := Classical.propDecidable _
end
end Go.Ve

namespace Go.Ve
noncomputable section
open Go.Proofs
set_option linter.unusedSimpArgs false
set_option linter.unusedVariables false
set_option maxRecDepth 100000
def Blk.touch (a b : Blk) : Prop := (a.x0 - 1 ≤ b.x1 ∧ b.x0 ≤ a.x1 + 1) ∧ (a.y0 - 1 ≤ b.y1 ∧ b.y0 ≤ a.y1 + 1) ∧ (a.lo - 1 ≤ b.hi ∧ b.lo ≤ a.hi + 1)
instance (a b : Blk) : Decidable (a.touch b) := by unfold Blk.touch; infer_instance
def Sec.touch (a b : Sec) : Prop := ∃ m, m < a.bl.length ∧ ∃ n, n < b.bl.length ∧ (a.bl.getD m default).touch (b.bl.getD n default)
def Qmm (l : List Sec) (a b : ByteArray) (i k : Nat) : Prop := ((l.getD i default).nm = a ∧ (l.getD k default).nm = b) ∧ (l.getD i default).touch (l.getD k default)
def Qif (s : Sky) (a b : ByteArray) : Prop := s.valid ∧ a ≠ b ∧ ∃ i, i < s.secs.length ∧ ∃ k, k < s.secs.length ∧ Qmm s.secs a b i k
noncomputable instance (s : Sky) (a b : ByteArray) : Decidable (Qif s a b) := Classical.propDecidable _
end
end Go.Ve

namespace Go.Ve
noncomputable section
open Go.Proofs
set_option linter.unusedSimpArgs false
set_option linter.unusedVariables false
set_option maxRecDepth 100000
theorem Qdn (t : Nat) (l : List ByteArray) (a : Int) (ha : 0 ≤ a ∧ a ≤ 1048576) (hl : l.length ≤ 9223372036854775807 ∧ ∀ y ∈ l, y.toList.length ≤ 9223372036854775807) : Contract P 74 [.sl t 1 (l.map QF), .int .i64 a] [] (.int .i64 (szS GZ l a)) [] := by
  refine Qs (Env.nil P) hm U8 (Nat.le_of_ble_eq_true rfl) rfl ?_; unfold Xb; simp (config := { maxSteps := 2000000 }) only [bitvec_to_nat, reduceIte, Nat.reduceEqDiff, Nat.reduceAdd, Nat.reduceLeDiff, reduceCtorEq, Nat.reduceBEq, Nat.reduceLT, Nat.reduceMod, List.forall_mem_cons, QF, QQ, List.take_zero, List.foldl_nil]
  have hz : Xk a l.length = if a - l.length < 0 then -1 else a - l.length := rfl
  refine ⟨by omega, fun h1 => ?_, fun h1 => ?_⟩
  · unfold szS
    rw [(Jp G0 l _ (by omega) (by omega)).2.1 (by omega)]
  have e0 : Xk a l.length = a - l.length := if_neg h1
  refine QP (fun i : Nat => [(1, .int .i64 ((l.take i).foldl (fun a x => GZ x a) (a - l.length))), (5, .int .i64 i)]) (fun _ => []) (fun i => i ≤ l.length ∧ 0 ≤ (l.take i).foldl (fun a x => GZ x a) (a - l.length)) (fun i => l.length - i) (0) (by simp only [Jz, JA, JB, JC, Qw, Qx, Qy, Qz, reduceIte, Nat.reduceEqDiff]; exact ⟨by repeat' (first | exact trivial | refine ⟨.inr rfl, ?_⟩), by repeat' (first | exact trivial | refine ⟨rfl, ?_⟩), by first | rfl | simp [closedB, Qr, Qp, Qt, dom, Qf, *], by first | rfl | simp [keepB, dom]⟩) ?_ ?_
  · simp only [List.take_zero, List.foldl_nil]; omega
  intro i hi NX hN
  unfold Ga; simp (config := { maxSteps := 2000000 }) only [bitvec_to_nat, reduceIte, Nat.reduceEqDiff, Nat.reduceAdd, Nat.reduceLeDiff, reduceCtorEq, Nat.reduceBEq, Nat.reduceLT, Nat.reduceMod, List.forall_mem_cons, QF, QQ, List.take_zero, List.foldl_nil]
  have hm := (Jp G0 (l.take i) (a - l.length) (by omega) (by omega)).2.2
  have hg : i < l.length → (l.getD i default).toList.length ≤ 9223372036854775807 := fun h => hl.2 _ (Jl h)
  have hn : i < l.length → (l.take (i + 1)).foldl (fun a x => GZ x a) (a - l.length) = GZ (l.getD i default) ((l.take i).foldl (fun a x => GZ x a) (a - l.length)) := fun h => GR h
  have hs : i < l.length → GZ (l.getD i default) ((l.take i).foldl (fun a x => GZ x a) (a - l.length)) < 0 → szS GZ l a = -1 := fun h h2 => by unfold szS; rw [e0]; exact XM G0 h (by omega) (by omega) h2
  have hd : GZ (l.getD i default) ((l.take i).foldl (fun a x => GZ x a) (a - l.length)) = if ((l.take i).foldl (fun a x => GZ x a) (a - l.length)) - ((l.getD i default).toList.length : Nat) < 0 then -1 else ((l.take i).foldl (fun a x => GZ x a) (a - l.length)) - ((l.getD i default).toList.length : Nat) := rfl
  refine ⟨fun h2 => ⟨by omega, by omega, by omega, fun h3 => by rw [hs (by omega) (by omega)], fun h3 => ⟨by omega, ?_⟩⟩, fun h2 => ?_⟩
  · have e := hn (by omega)
    rw [hd, if_neg h3] at e
    refine hN (i + 1) _ (by simp only [e, List.length_append, List.length_cons, List.length_nil, Nat.zero_add, List.map_append, List.map_cons, List.map_nil, Jz, JA, JB, JC, Qw, Qx, Qy, Qz, reduceIte, Nat.reduceEqDiff]; exact ⟨by repeat' (first | exact trivial | refine ⟨.inr rfl, ?_⟩), by repeat' (first | exact trivial | refine ⟨rfl, ?_⟩), by first | rfl | simp [closedB, Qr, Qp, Qt, dom, Qf, *], by first | rfl | simp [keepB, dom]⟩) ?_ ?_
    · exact ⟨by omega, by omega⟩
    · omega
  · have e : i = l.length := by omega
    subst e
    simp only [List.take_length]; unfold szS; rw [e0]
def G2 : List AV → Option (Prop × AV)
  | [.sl lt 1 lx, .int .i64 b] => some ((((lx.map unS).map QF = lx)) ∧ ((0 ≤ b ∧ b ≤ 1048576) ∧ ((lx.map unS).length ≤ 9223372036854775807 ∧ ∀ y ∈ (lx.map unS), y.toList.length ≤ 9223372036854775807)), .int .i64 (szS GZ (lx.map unS) b))
  | _ => none
theorem Qdo : ∀ args p v, G2 args = some (p, v) → p → Contract P 74 args [] v [] ∧ noref v = true ∧ No99 v := by
  intro args p v h1 h2
  unfold G2 at h1
  split at h1
  · rename_i lt lx b
    cases h1
    obtain ⟨e0, HP⟩ := h2
    have := Qdn lt (lx.map unS) b HP.1 HP.2
    exact ⟨by simpa only [e0] using this, rfl, trivial⟩
  · cases h1
theorem Qig (t sz : Nat) (xs : List (List AV)) (a : Int) (hp : (0 ≤ a ∧ a ≤ 1048576) ∧ xs.length ≤ 9223372036854775807) : Contract P 75 [.sl t sz xs, .int .i64 a] [] (.int .i64 (Xk a xs.length)) [] := by
  refine Qs (Env.nil P) hm Z8 (Nat.le_of_ble_eq_true rfl) rfl ?_; unfold Gb; simp (config := { maxSteps := 2000000 }) only [bitvec_to_nat, reduceIte, Nat.reduceEqDiff, Nat.reduceAdd, Nat.reduceLeDiff, reduceCtorEq, Nat.reduceBEq, Nat.reduceLT, Nat.reduceMod, List.forall_mem_cons]
  refine ⟨by omega, fun h1 => ?_, fun h1 => ?_⟩
  · unfold Xk; rw [if_pos h1]
  · unfold Xk; rw [if_neg h1]
def Vx : List AV → Option (Prop × AV)
  | [.sl t sz xs, .int .i64 a] => some ((0 ≤ a ∧ a ≤ 1048576) ∧ xs.length ≤ 9223372036854775807, .int .i64 (Xk a xs.length))
  | _ => none
theorem Qih : ∀ args p v, Vx args = some (p, v) → p → Contract P 75 args [] v [] ∧ noref v = true ∧ No99 v := by
  intro args p v h1 h2
  unfold Vx at h1
  split at h1
  · cases h1; exact ⟨Qig _ _ _ _ h2, rfl, trivial⟩
  · cases h1
theorem Qlb (s : Pt) (a : Int) (ha : 0 ≤ a ∧ a ≤ 1048576) (hs : s.fitp) : Contract P 39 [.agg s.row, .int .i64 a] [] (.int .i64 (s.sz a)) [] := by
  unfold Pt.fitp at hs
  simp only [Pt.row]
  refine Qs (Env.nil P) hm UA (Nat.le_of_ble_eq_true rfl) rfl ?_; unfold GE; simp (config := { maxSteps := 2000000 }) only [bitvec_to_nat, reduceIte, Nat.reduceEqDiff, Nat.reduceAdd, Nat.reduceLeDiff, reduceCtorEq, Nat.reduceBEq, Nat.reduceLT, Nat.reduceMod, List.forall_mem_cons, Qh, Qj, Qa, QN, Qg, List.take_length, List.length_cons, List.length_nil, Nat.zero_add, QF, QS, QQ, QU, Pt.row, Qi, Aw.row, Qm, Blk.row, Qb, Sec.row, Qc, Rw.row, Qn, Sky.row, Qd, Qu, QA, Qk, Ql, QB, Q5]
  unfold Pt.sz
  repeat' (first | with_reducible apply And.intro | with_reducible intro _)
  all_goals first | omega | (exact hs) | (exact hs.1) | (exact hs.2.1) | (exact hs.2.2) | (exact hs.2.2.1) | (exact hs.2.2.2) | (exact hs.2.2.2.1) | (exact hs.2.2.2.2) | (exact hs.1.1) | (exact hs.1.2) | (exact hs.2.1.1) | (exact hs.2.1.2) | (unfold chk; grind) | grind
def Qcr : List AV → Option (Prop × AV)
  | [.agg [.str s_nm, .int .i64 s_x, .int .i64 s_y], .int .i64 b] => some ((True) ∧ ((0 ≤ b ∧ b ≤ 1048576) ∧ (Pt.fitp (Pt.mk s_nm s_x s_y))), .int .i64 (Pt.sz (Pt.mk s_nm s_x s_y) b))
  | _ => none
theorem Qlc : ∀ args p v, Qcr args = some (p, v) → p → Contract P 39 args [] v [] ∧ noref v = true ∧ No99 v := by
  intro args p v h1 h2
  unfold Qcr at h1
  split at h1
  · rename_i s_nm s_x s_y b
    cases h1
    obtain ⟨_, HP⟩ := h2
    have := Qlb (Pt.mk s_nm s_x s_y) b HP.1 HP.2
    exact ⟨by simpa only [Pt.row] using this, rfl, trivial⟩
  · cases h1
theorem QjK (t : Nat) (l : List Pt) (a : Int) (ha : 0 ≤ a ∧ a ≤ 1048576) (hl : l.length ≤ 9223372036854775807 ∧ ∀ y ∈ l, y.fitp) : Contract P 16 [.sl t 3 (l.map Pt.row), .int .i64 a] [] (.int .i64 (szS Pt.sz l a)) [] := by
  refine Qs ((Env.nil P).add 39 Qcr Qlc) hm ZO (Nat.le_of_ble_eq_true rfl) rfl ?_; unfold YU; simp (config := { maxSteps := 2000000 }) only [bitvec_to_nat, reduceIte, Nat.reduceEqDiff, Nat.reduceAdd, Nat.reduceLeDiff, reduceCtorEq, Nat.reduceBEq, Nat.reduceLT, Nat.reduceMod, List.forall_mem_cons, Qcr, Qh, Qj, Qa, QN, Qg, List.take_length, List.length_cons, List.length_nil, Nat.zero_add, QF, QS, QQ, QU, Pt.row, Qi, Aw.row, Qm, Blk.row, Qb, Sec.row, Qc, Rw.row, Qn, Sky.row, Qd, Qu, QA, Qk, Ql, QB, Q5, List.take_zero, List.foldl_nil]
  have hz : Xk a l.length = if a - l.length < 0 then -1 else a - l.length := rfl
  refine ⟨by omega, fun h1 => ?_, fun h1 => ?_⟩
  · unfold szS
    rw [(Jp UH l _ (by omega) (by omega)).2.1 (by omega)]
  have e0 : Xk a l.length = a - l.length := if_neg h1
  refine QP (fun i : Nat => [(1, .int .i64 ((l.take i).foldl (fun a x => x.sz a) (a - l.length))), (5, .int .i64 i)]) (fun _ => []) (fun i => i ≤ l.length ∧ 0 ≤ (l.take i).foldl (fun a x => x.sz a) (a - l.length)) (fun i => l.length - i) (0) (by simp only [Jz, JA, JB, JC, Qw, Qx, Qy, Qz, reduceIte, Nat.reduceEqDiff]; exact ⟨by repeat' (first | exact trivial | refine ⟨.inr rfl, ?_⟩), by repeat' (first | exact trivial | refine ⟨rfl, ?_⟩), by first | rfl | simp [closedB, Qr, Qp, Qt, dom, Qf, *], by first | rfl | simp [keepB, dom]⟩) ?_ ?_
  · simp only [List.take_zero, List.foldl_nil]; omega
  intro i hi NX hN
  have hm := (Jp UH (l.take i) (a - l.length) (by omega) (by omega)).2.2
  have hg : i < l.length → (l.getD i default).fitp := fun h => hl.2 _ (Jl h)
  have hn : i < l.length → (l.take (i + 1)).foldl (fun a x => x.sz a) (a - l.length) = (l.getD i default).sz ((l.take i).foldl (fun a x => x.sz a) (a - l.length)) := fun h => GR (f := Pt.sz) h
  have hs : i < l.length → (l.getD i default).sz ((l.take i).foldl (fun a x => x.sz a) (a - l.length)) < 0 → szS Pt.sz l a = -1 := fun h h2 => by unfold szS; rw [e0]; exact XM UH h (by omega) (by omega) h2
  unfold K3; simp (config := { maxSteps := 2000000 }) only [bitvec_to_nat, reduceIte, Nat.reduceEqDiff, Nat.reduceAdd, Nat.reduceLeDiff, reduceCtorEq, Nat.reduceBEq, Nat.reduceLT, Nat.reduceMod, List.forall_mem_cons, Qcr, Qh, Qj, Qa, QN, Qg, List.take_length, List.length_cons, List.length_nil, Nat.zero_add, QF, QS, QQ, QU, Pt.row, Qi, Aw.row, Qm, Blk.row, Qb, Sec.row, Qc, Rw.row, Qn, Sky.row, Qd, Qu, QA, Qk, Ql, QB, Q5, List.take_zero, List.foldl_nil]
  refine ⟨fun h2 => ⟨by omega, by omega, ⟨⟨by omega, by omega⟩, hg (by omega)⟩, fun h3 => by rw [hs (by omega) h3], fun h3 => ⟨by omega, ?_⟩⟩, fun h2 => ?_⟩
  · have e := hn (by omega)
    refine hN (i + 1) _ (by simp only [e, List.length_append, List.length_cons, List.length_nil, Nat.zero_add, List.map_append, List.map_cons, List.map_nil, Jz, JA, JB, JC, Qw, Qx, Qy, Qz, reduceIte, Nat.reduceEqDiff]; exact ⟨by repeat' (first | exact trivial | refine ⟨.inr rfl, ?_⟩), by repeat' (first | exact trivial | refine ⟨rfl, ?_⟩), by first | rfl | simp [closedB, Qr, Qp, Qt, dom, Qf, *], by first | rfl | simp [keepB, dom]⟩) ?_ ?_
    · exact ⟨by omega, by rw [e]; omega⟩
    · omega
  · have e : i = l.length := by omega
    subst e
    simp only [List.take_length]; unfold szS; rw [e0]
def Qa9 : List AV → Option (Prop × AV)
  | [.sl lt 3 lx, .int .i64 b] => some ((((lx.map QO).map Pt.row = lx)) ∧ ((0 ≤ b ∧ b ≤ 1048576) ∧ ((lx.map QO).length ≤ 9223372036854775807 ∧ ∀ y ∈ (lx.map QO), Pt.fitp y)), .int .i64 (szS Pt.sz (lx.map QO) b))
  | _ => none
theorem QjL : ∀ args p v, Qa9 args = some (p, v) → p → Contract P 16 args [] v [] ∧ noref v = true ∧ No99 v := by
  intro args p v h1 h2
  unfold Qa9 at h1
  split at h1
  · rename_i lt lx b
    cases h1
    obtain ⟨e0, HP⟩ := h2
    have := QjK lt (lx.map QO) b HP.1 HP.2
    exact ⟨by simpa only [e0] using this, rfl, trivial⟩
  · cases h1
theorem Qld (s : Rw) (a : Int) (ha : 0 ≤ a ∧ a ≤ 1048576) (hs : s.fitp) : Contract P 42 [.agg s.row, .int .i64 a] [] (.int .i64 (s.sz a)) [] := by
  unfold Rw.fitp at hs
  simp only [Rw.row]
  refine Qs (Env.nil P) hm ZU (Nat.le_of_ble_eq_true rfl) rfl ?_; unfold YZ; simp (config := { maxSteps := 2000000 }) only [bitvec_to_nat, reduceIte, Nat.reduceEqDiff, Nat.reduceAdd, Nat.reduceLeDiff, reduceCtorEq, Nat.reduceBEq, Nat.reduceLT, Nat.reduceMod, List.forall_mem_cons, Qh, Qj, Qa, QN, Qg, List.take_length, List.length_cons, List.length_nil, Nat.zero_add, QF, QS, QQ, QU, Pt.row, Qi, Aw.row, Qm, Blk.row, Qb, Sec.row, Qc, Rw.row, Qn, Sky.row, Qd, Qu, QA, Qk, Ql, QB, Q5]
  unfold Rw.sz
  repeat' (first | with_reducible apply And.intro | with_reducible intro _)
  all_goals first | omega | (exact hs) | (exact hs.1) | (exact hs.2.1) | (exact hs.2.2) | (exact hs.2.2.1) | (exact hs.2.2.2) | (exact hs.2.2.2.1) | (exact hs.2.2.2.2) | (exact hs.1.1) | (exact hs.1.2) | (exact hs.2.1.1) | (exact hs.2.1.2) | (unfold chk; grind) | grind
def Qcs : List AV → Option (Prop × AV)
  | [.agg [.str s_nm, .int .i64 s_x, .int .i64 s_y, .int .i64 s_tn], .int .i64 b] => some ((True) ∧ ((0 ≤ b ∧ b ≤ 1048576) ∧ (Rw.fitp (Rw.mk s_nm s_x s_y s_tn))), .int .i64 (Rw.sz (Rw.mk s_nm s_x s_y s_tn) b))
  | _ => none
theorem Qle : ∀ args p v, Qcs args = some (p, v) → p → Contract P 42 args [] v [] ∧ noref v = true ∧ No99 v := by
  intro args p v h1 h2
  unfold Qcs at h1
  split at h1
  · rename_i s_nm s_x s_y s_tn b
    cases h1
    obtain ⟨_, HP⟩ := h2
    have := Qld (Rw.mk s_nm s_x s_y s_tn) b HP.1 HP.2
    exact ⟨by simpa only [Rw.row] using this, rfl, trivial⟩
  · cases h1
theorem QjM (t : Nat) (l : List Rw) (a : Int) (ha : 0 ≤ a ∧ a ≤ 1048576) (hl : l.length ≤ 9223372036854775807 ∧ ∀ y ∈ l, y.fitp) : Contract P 19 [.sl t 4 (l.map Rw.row), .int .i64 a] [] (.int .i64 (szS Rw.sz l a)) [] := by
  refine Qs ((Env.nil P).add 42 Qcs Qle) hm Zk (Nat.le_of_ble_eq_true rfl) rfl ?_; unfold YA; simp (config := { maxSteps := 2000000 }) only [bitvec_to_nat, reduceIte, Nat.reduceEqDiff, Nat.reduceAdd, Nat.reduceLeDiff, reduceCtorEq, Nat.reduceBEq, Nat.reduceLT, Nat.reduceMod, List.forall_mem_cons, Qcs, Qh, Qj, Qa, QN, Qg, List.take_length, List.length_cons, List.length_nil, Nat.zero_add, QF, QS, QQ, QU, Pt.row, Qi, Aw.row, Qm, Blk.row, Qb, Sec.row, Qc, Rw.row, Qn, Sky.row, Qd, Qu, QA, Qk, Ql, QB, Q5, List.take_zero, List.foldl_nil]
  have hz : Xk a l.length = if a - l.length < 0 then -1 else a - l.length := rfl
  refine ⟨by omega, fun h1 => ?_, fun h1 => ?_⟩
  · unfold szS
    rw [(Jp UI l _ (by omega) (by omega)).2.1 (by omega)]
  have e0 : Xk a l.length = a - l.length := if_neg h1
  refine QP (fun i : Nat => [(1, .int .i64 ((l.take i).foldl (fun a x => x.sz a) (a - l.length))), (5, .int .i64 i)]) (fun _ => []) (fun i => i ≤ l.length ∧ 0 ≤ (l.take i).foldl (fun a x => x.sz a) (a - l.length)) (fun i => l.length - i) (0) (by simp only [Jz, JA, JB, JC, Qw, Qx, Qy, Qz, reduceIte, Nat.reduceEqDiff]; exact ⟨by repeat' (first | exact trivial | refine ⟨.inr rfl, ?_⟩), by repeat' (first | exact trivial | refine ⟨rfl, ?_⟩), by first | rfl | simp [closedB, Qr, Qp, Qt, dom, Qf, *], by first | rfl | simp [keepB, dom]⟩) ?_ ?_
  · simp only [List.take_zero, List.foldl_nil]; omega
  intro i hi NX hN
  have hm := (Jp UI (l.take i) (a - l.length) (by omega) (by omega)).2.2
  have hg : i < l.length → (l.getD i default).fitp := fun h => hl.2 _ (Jl h)
  have hn : i < l.length → (l.take (i + 1)).foldl (fun a x => x.sz a) (a - l.length) = (l.getD i default).sz ((l.take i).foldl (fun a x => x.sz a) (a - l.length)) := fun h => GR (f := Rw.sz) h
  have hs : i < l.length → (l.getD i default).sz ((l.take i).foldl (fun a x => x.sz a) (a - l.length)) < 0 → szS Rw.sz l a = -1 := fun h h2 => by unfold szS; rw [e0]; exact XM UI h (by omega) (by omega) h2
  unfold KP; simp (config := { maxSteps := 2000000 }) only [bitvec_to_nat, reduceIte, Nat.reduceEqDiff, Nat.reduceAdd, Nat.reduceLeDiff, reduceCtorEq, Nat.reduceBEq, Nat.reduceLT, Nat.reduceMod, List.forall_mem_cons, Qcs, Qh, Qj, Qa, QN, Qg, List.take_length, List.length_cons, List.length_nil, Nat.zero_add, QF, QS, QQ, QU, Pt.row, Qi, Aw.row, Qm, Blk.row, Qb, Sec.row, Qc, Rw.row, Qn, Sky.row, Qd, Qu, QA, Qk, Ql, QB, Q5, List.take_zero, List.foldl_nil]
  refine ⟨fun h2 => ⟨by omega, by omega, ⟨⟨by omega, by omega⟩, hg (by omega)⟩, fun h3 => by rw [hs (by omega) h3], fun h3 => ⟨by omega, ?_⟩⟩, fun h2 => ?_⟩
  · have e := hn (by omega)
    refine hN (i + 1) _ (by simp only [e, List.length_append, List.length_cons, List.length_nil, Nat.zero_add, List.map_append, List.map_cons, List.map_nil, Jz, JA, JB, JC, Qw, Qx, Qy, Qz, reduceIte, Nat.reduceEqDiff]; exact ⟨by repeat' (first | exact trivial | refine ⟨.inr rfl, ?_⟩), by repeat' (first | exact trivial | refine ⟨rfl, ?_⟩), by first | rfl | simp [closedB, Qr, Qp, Qt, dom, Qf, *], by first | rfl | simp [keepB, dom]⟩) ?_ ?_
    · exact ⟨by omega, by rw [e]; omega⟩
    · omega
  · have e : i = l.length := by omega
    subst e
    simp only [List.take_length]; unfold szS; rw [e0]
def Qba : List AV → Option (Prop × AV)
  | [.sl lt 4 lx, .int .i64 b] => some ((((lx.map QT).map Rw.row = lx)) ∧ ((0 ≤ b ∧ b ≤ 1048576) ∧ ((lx.map QT).length ≤ 9223372036854775807 ∧ ∀ y ∈ (lx.map QT), Rw.fitp y)), .int .i64 (szS Rw.sz (lx.map QT) b))
  | _ => none
theorem QjN : ∀ args p v, Qba args = some (p, v) → p → Contract P 19 args [] v [] ∧ noref v = true ∧ No99 v := by
  intro args p v h1 h2
  unfold Qba at h1
  split at h1
  · rename_i lt lx b
    cases h1
    obtain ⟨e0, HP⟩ := h2
    have := QjM lt (lx.map QT) b HP.1 HP.2
    exact ⟨by simpa only [e0] using this, rfl, trivial⟩
  · cases h1
theorem Qlf (s : Aw) (a : Int) (ha : 0 ≤ a ∧ a ≤ 1048576) (hs : s.fitp) : Contract P 40 [.agg (s.row 1), .int .i64 a] [] (.int .i64 (s.sz a)) [] := by
  unfold Aw.fitp at hs
  simp only [Aw.row]
  refine Qs ((Env.nil P).add 74 G2 Qdo) hm ZS (Nat.le_of_ble_eq_true rfl) rfl ?_; unfold YX; simp (config := { maxSteps := 2000000 }) only [bitvec_to_nat, reduceIte, Nat.reduceEqDiff, Nat.reduceAdd, Nat.reduceLeDiff, reduceCtorEq, Nat.reduceBEq, Nat.reduceLT, Nat.reduceMod, List.forall_mem_cons, G2, Qh, Qj, Qa, QN, Qg, List.take_length, List.length_cons, List.length_nil, Nat.zero_add, QF, QS, QQ, QU, Pt.row, Qi, Aw.row, Qm, Blk.row, Qb, Sec.row, Qc, Rw.row, Qn, Sky.row, Qd, Qu, QA, Qk, Ql, QB, Q5]
  unfold Aw.sz
  have qpts : (szS GZ s.pts (a - (s.nm.toList.length : Nat))) ≤ max (a - (s.nm.toList.length : Nat)) (-1) := (Ki G0 s.pts (a - (s.nm.toList.length : Nat)) (by omega)).2.2
  repeat' (first | with_reducible apply And.intro | with_reducible intro _)
  all_goals first | omega | (exact hs) | (exact hs.1) | (exact hs.2.1) | (exact hs.2.2) | (exact hs.2.2.1) | (exact hs.2.2.2) | (exact hs.2.2.2.1) | (exact hs.2.2.2.2) | (exact hs.1.1) | (exact hs.1.2) | (exact hs.2.1.1) | (exact hs.2.1.2) | (unfold chk; grind) | grind
def Qct : List AV → Option (Prop × AV)
  | [.agg [.str s_nm, .sl 1 1 s_pts], .int .i64 b] => some ((((s_pts.map unS).map QF = s_pts)) ∧ ((0 ≤ b ∧ b ≤ 1048576) ∧ (Aw.fitp (Aw.mk s_nm (s_pts.map unS)))), .int .i64 (Aw.sz (Aw.mk s_nm (s_pts.map unS)) b))
  | _ => none
theorem Qlg : ∀ args p v, Qct args = some (p, v) → p → Contract P 40 args [] v [] ∧ noref v = true ∧ No99 v := by
  intro args p v h1 h2
  unfold Qct at h1
  split at h1
  · rename_i s_nm s_pts b
    cases h1
    obtain ⟨e0, HP⟩ := h2
    have := Qlf (Aw.mk s_nm (s_pts.map unS)) b HP.1 HP.2
    exact ⟨by simpa only [e0, Aw.row] using this, rfl, trivial⟩
  · cases h1
theorem QjO (t : Nat) (l : List Aw) (a : Int) (ha : 0 ≤ a ∧ a ≤ 1048576) (hl : l.length ≤ 9223372036854775807 ∧ ∀ y ∈ l, y.fitp) : Contract P 17 [.sl t 2 (l.map (Aw.row 1)), .int .i64 a] [] (.int .i64 (szS Aw.sz l a)) [] := by
  refine Qs ((Env.nil P).add 40 Qct Qlg) hm Zi (Nat.le_of_ble_eq_true rfl) rfl ?_; unfold Yy; simp (config := { maxSteps := 2000000 }) only [bitvec_to_nat, reduceIte, Nat.reduceEqDiff, Nat.reduceAdd, Nat.reduceLeDiff, reduceCtorEq, Nat.reduceBEq, Nat.reduceLT, Nat.reduceMod, List.forall_mem_cons, Qct, Qh, Qj, Qa, QN, Qg, List.take_length, List.length_cons, List.length_nil, Nat.zero_add, QF, QS, QQ, QU, Pt.row, Qi, Aw.row, Qm, Blk.row, Qb, Sec.row, Qc, Rw.row, Qn, Sky.row, Qd, Qu, QA, Qk, Ql, QB, Q5, List.take_zero, List.foldl_nil]
  have hz : Xk a l.length = if a - l.length < 0 then -1 else a - l.length := rfl
  refine ⟨by omega, fun h1 => ?_, fun h1 => ?_⟩
  · unfold szS
    rw [(Jp UJ l _ (by omega) (by omega)).2.1 (by omega)]
  have e0 : Xk a l.length = a - l.length := if_neg h1
  refine QP (fun i : Nat => [(1, .int .i64 ((l.take i).foldl (fun a x => x.sz a) (a - l.length))), (5, .int .i64 i)]) (fun _ => []) (fun i => i ≤ l.length ∧ 0 ≤ (l.take i).foldl (fun a x => x.sz a) (a - l.length)) (fun i => l.length - i) (0) (by simp only [Jz, JA, JB, JC, Qw, Qx, Qy, Qz, reduceIte, Nat.reduceEqDiff]; exact ⟨by repeat' (first | exact trivial | refine ⟨.inr rfl, ?_⟩), by repeat' (first | exact trivial | refine ⟨rfl, ?_⟩), by first | rfl | simp [closedB, Qr, Qp, Qt, dom, Qf, *], by first | rfl | simp [keepB, dom]⟩) ?_ ?_
  · simp only [List.take_zero, List.foldl_nil]; omega
  intro i hi NX hN
  have hm := (Jp UJ (l.take i) (a - l.length) (by omega) (by omega)).2.2
  have hg : i < l.length → (l.getD i default).fitp := fun h => hl.2 _ (Jl h)
  have hn : i < l.length → (l.take (i + 1)).foldl (fun a x => x.sz a) (a - l.length) = (l.getD i default).sz ((l.take i).foldl (fun a x => x.sz a) (a - l.length)) := fun h => GR (f := Aw.sz) h
  have hs : i < l.length → (l.getD i default).sz ((l.take i).foldl (fun a x => x.sz a) (a - l.length)) < 0 → szS Aw.sz l a = -1 := fun h h2 => by unfold szS; rw [e0]; exact XM UJ h (by omega) (by omega) h2
  unfold KN; simp (config := { maxSteps := 2000000 }) only [bitvec_to_nat, reduceIte, Nat.reduceEqDiff, Nat.reduceAdd, Nat.reduceLeDiff, reduceCtorEq, Nat.reduceBEq, Nat.reduceLT, Nat.reduceMod, List.forall_mem_cons, Qct, Qh, Qj, Qa, QN, Qg, List.take_length, List.length_cons, List.length_nil, Nat.zero_add, QF, QS, QQ, QU, Pt.row, Qi, Aw.row, Qm, Blk.row, Qb, Sec.row, Qc, Rw.row, Qn, Sky.row, Qd, Qu, QA, Qk, Ql, QB, Q5, List.take_zero, List.foldl_nil]
  refine ⟨fun h2 => ⟨by omega, by omega, ⟨⟨by omega, by omega⟩, hg (by omega)⟩, fun h3 => by rw [hs (by omega) h3], fun h3 => ⟨by omega, ?_⟩⟩, fun h2 => ?_⟩
  · have e := hn (by omega)
    refine hN (i + 1) _ (by simp only [e, List.length_append, List.length_cons, List.length_nil, Nat.zero_add, List.map_append, List.map_cons, List.map_nil, Jz, JA, JB, JC, Qw, Qx, Qy, Qz, reduceIte, Nat.reduceEqDiff]; exact ⟨by repeat' (first | exact trivial | refine ⟨.inr rfl, ?_⟩), by repeat' (first | exact trivial | refine ⟨rfl, ?_⟩), by first | rfl | simp [closedB, Qr, Qp, Qt, dom, Qf, *], by first | rfl | simp [keepB, dom]⟩) ?_ ?_
    · exact ⟨by omega, by rw [e]; omega⟩
    · omega
  · have e : i = l.length := by omega
    subst e
    simp only [List.take_length]; unfold szS; rw [e0]
def Qbb : List AV → Option (Prop × AV)
  | [.sl lt 2 lx, .int .i64 b] => some ((((lx.map QR).map (Aw.row 1) = lx)) ∧ ((0 ≤ b ∧ b ≤ 1048576) ∧ ((lx.map QR).length ≤ 9223372036854775807 ∧ ∀ y ∈ (lx.map QR), Aw.fitp y)), .int .i64 (szS Aw.sz (lx.map QR) b))
  | _ => none
theorem QjP : ∀ args p v, Qbb args = some (p, v) → p → Contract P 17 args [] v [] ∧ noref v = true ∧ No99 v := by
  intro args p v h1 h2
  unfold Qbb at h1
  split at h1
  · rename_i lt lx b
    cases h1
    obtain ⟨e0, HP⟩ := h2
    have := QjO lt (lx.map QR) b HP.1 HP.2
    exact ⟨by simpa only [e0] using this, rfl, trivial⟩
  · cases h1
theorem QjQ (s : Sec) (a : Int) (ha : 0 ≤ a ∧ a ≤ 1048576) (hs : s.fitp) : Contract P 41 [.agg (s.row 1), .int .i64 a] [] (.int .i64 (s.sz a)) [] := by
  unfold Sec.fitp at hs
  simp only [Sec.row]
  refine Qs ((Env.nil P).add 75 Vx Qih) hm ZT (Nat.le_of_ble_eq_true rfl) rfl ?_; unfold YY; simp (config := { maxSteps := 2000000 }) only [bitvec_to_nat, reduceIte, Nat.reduceEqDiff, Nat.reduceAdd, Nat.reduceLeDiff, reduceCtorEq, Nat.reduceBEq, Nat.reduceLT, Nat.reduceMod, List.forall_mem_cons, Vx, Qh, Qj, Qa, QN, Qg, List.take_length, List.length_cons, List.length_nil, Nat.zero_add, QF, QS, QQ, QU, Pt.row, Qi, Aw.row, Qm, Blk.row, Qb, Sec.row, Qc, Rw.row, Qn, Sky.row, Qd, Qu, QA, Qk, Ql, QB, Q5]
  unfold Sec.sz
  have qbl : (Xk (a - (s.nm.toList.length : Nat)) s.bl.length) ≤ max (a - (s.nm.toList.length : Nat)) (-1) := by unfold Xk; split <;> omega
  repeat' (first | with_reducible apply And.intro | with_reducible intro _)
  all_goals first | omega | (exact hs) | (exact hs.1) | (exact hs.2.1) | (exact hs.2.2) | (exact hs.2.2.1) | (exact hs.2.2.2) | (exact hs.2.2.2.1) | (exact hs.2.2.2.2) | (exact hs.1.1) | (exact hs.1.2) | (exact hs.2.1.1) | (exact hs.2.1.2) | (unfold chk; grind) | grind
def Wr : List AV → Option (Prop × AV)
  | [.agg [.str s_nm, .sl 1 6 s_bl], .int .i64 b] => some ((((s_bl.map Kc).map Blk.row = s_bl)) ∧ ((0 ≤ b ∧ b ≤ 1048576) ∧ (Sec.fitp (Sec.mk s_nm (s_bl.map Kc)))), .int .i64 (Sec.sz (Sec.mk s_nm (s_bl.map Kc)) b))
  | _ => none
theorem QjR : ∀ args p v, Wr args = some (p, v) → p → Contract P 41 args [] v [] ∧ noref v = true ∧ No99 v := by
  intro args p v h1 h2
  unfold Wr at h1
  split at h1
  · rename_i s_nm s_bl b
    cases h1
    obtain ⟨e0, HP⟩ := h2
    have := QjQ (Sec.mk s_nm (s_bl.map Kc)) b HP.1 HP.2
    exact ⟨by simpa only [e0, Sec.row] using this, rfl, trivial⟩
  · cases h1
theorem Qii (t : Nat) (l : List Sec) (a : Int) (ha : 0 ≤ a ∧ a ≤ 1048576) (hl : l.length ≤ 9223372036854775807 ∧ ∀ y ∈ l, y.fitp) : Contract P 18 [.sl t 2 (l.map (Sec.row 1)), .int .i64 a] [] (.int .i64 (szS Sec.sz l a)) [] := by
  refine Qs ((Env.nil P).add 41 Wr QjR) hm Zj (Nat.le_of_ble_eq_true rfl) rfl ?_; unfold Yz; simp (config := { maxSteps := 2000000 }) only [bitvec_to_nat, reduceIte, Nat.reduceEqDiff, Nat.reduceAdd, Nat.reduceLeDiff, reduceCtorEq, Nat.reduceBEq, Nat.reduceLT, Nat.reduceMod, List.forall_mem_cons, Wr, Qh, Qj, Qa, QN, Qg, List.take_length, List.length_cons, List.length_nil, Nat.zero_add, QF, QS, QQ, QU, Pt.row, Qi, Aw.row, Qm, Blk.row, Qb, Sec.row, Qc, Rw.row, Qn, Sky.row, Qd, Qu, QA, Qk, Ql, QB, Q5, List.take_zero, List.foldl_nil]
  have hz : Xk a l.length = if a - l.length < 0 then -1 else a - l.length := rfl
  refine ⟨by omega, fun h1 => ?_, fun h1 => ?_⟩
  · unfold szS
    rw [(Jp XV l _ (by omega) (by omega)).2.1 (by omega)]
  have e0 : Xk a l.length = a - l.length := if_neg h1
  refine QP (fun i : Nat => [(1, .int .i64 ((l.take i).foldl (fun a x => x.sz a) (a - l.length))), (5, .int .i64 i)]) (fun _ => []) (fun i => i ≤ l.length ∧ 0 ≤ (l.take i).foldl (fun a x => x.sz a) (a - l.length)) (fun i => l.length - i) (0) (by simp only [Jz, JA, JB, JC, Qw, Qx, Qy, Qz, reduceIte, Nat.reduceEqDiff]; exact ⟨by repeat' (first | exact trivial | refine ⟨.inr rfl, ?_⟩), by repeat' (first | exact trivial | refine ⟨rfl, ?_⟩), by first | rfl | simp [closedB, Qr, Qp, Qt, dom, Qf, *], by first | rfl | simp [keepB, dom]⟩) ?_ ?_
  · simp only [List.take_zero, List.foldl_nil]; omega
  intro i hi NX hN
  have hm := (Jp XV (l.take i) (a - l.length) (by omega) (by omega)).2.2
  have hg : i < l.length → (l.getD i default).fitp := fun h => hl.2 _ (Jl h)
  have hn : i < l.length → (l.take (i + 1)).foldl (fun a x => x.sz a) (a - l.length) = (l.getD i default).sz ((l.take i).foldl (fun a x => x.sz a) (a - l.length)) := fun h => GR (f := Sec.sz) h
  have hs : i < l.length → (l.getD i default).sz ((l.take i).foldl (fun a x => x.sz a) (a - l.length)) < 0 → szS Sec.sz l a = -1 := fun h h2 => by unfold szS; rw [e0]; exact XM XV h (by omega) (by omega) h2
  unfold KO; simp (config := { maxSteps := 2000000 }) only [bitvec_to_nat, reduceIte, Nat.reduceEqDiff, Nat.reduceAdd, Nat.reduceLeDiff, reduceCtorEq, Nat.reduceBEq, Nat.reduceLT, Nat.reduceMod, List.forall_mem_cons, Wr, Qh, Qj, Qa, QN, Qg, List.take_length, List.length_cons, List.length_nil, Nat.zero_add, QF, QS, QQ, QU, Pt.row, Qi, Aw.row, Qm, Blk.row, Qb, Sec.row, Qc, Rw.row, Qn, Sky.row, Qd, Qu, QA, Qk, Ql, QB, Q5, List.take_zero, List.foldl_nil]
  refine ⟨fun h2 => ⟨by omega, by omega, ⟨⟨by omega, by omega⟩, hg (by omega)⟩, fun h3 => by rw [hs (by omega) h3], fun h3 => ⟨by omega, ?_⟩⟩, fun h2 => ?_⟩
  · have e := hn (by omega)
    refine hN (i + 1) _ (by simp only [e, List.length_append, List.length_cons, List.length_nil, Nat.zero_add, List.map_append, List.map_cons, List.map_nil, Jz, JA, JB, JC, Qw, Qx, Qy, Qz, reduceIte, Nat.reduceEqDiff]; exact ⟨by repeat' (first | exact trivial | refine ⟨.inr rfl, ?_⟩), by repeat' (first | exact trivial | refine ⟨rfl, ?_⟩), by first | rfl | simp [closedB, Qr, Qp, Qt, dom, Qf, *], by first | rfl | simp [keepB, dom]⟩) ?_ ?_
    · exact ⟨by omega, by rw [e]; omega⟩
    · omega
  · have e : i = l.length := by omega
    subst e
    simp only [List.take_length]; unfold szS; rw [e0]
def Vy : List AV → Option (Prop × AV)
  | [.sl lt 2 lx, .int .i64 b] => some ((((lx.map Qv).map (Sec.row 1) = lx)) ∧ ((0 ≤ b ∧ b ≤ 1048576) ∧ ((lx.map Qv).length ≤ 9223372036854775807 ∧ ∀ y ∈ (lx.map Qv), Sec.fitp y)), .int .i64 (szS Sec.sz (lx.map Qv) b))
  | _ => none
theorem Qij : ∀ args p v, Vy args = some (p, v) → p → Contract P 18 args [] v [] ∧ noref v = true ∧ No99 v := by
  intro args p v h1 h2
  unfold Vy at h1
  split at h1
  · rename_i lt lx b
    cases h1
    obtain ⟨e0, HP⟩ := h2
    have := Qii lt (lx.map Qv) b HP.1 HP.2
    exact ⟨by simpa only [e0] using this, rfl, trivial⟩
  · cases h1
theorem QjS (s : Sky) (a : Int) (ha : 0 ≤ a ∧ a ≤ 1048576) (hs : s.fitp) : Contract P 5 [.agg (s.row 1), .int .i64 a] [] (.int .i64 (s.sz a)) [] := by
  unfold Sky.fitp at hs
  simp only [Sky.row]
  refine Qs (((((Env.nil P).add 17 Qbb QjP).add 16 Qa9 QjL).add 19 Qba QjN).add 18 Vy Qij) hm Qcd (Nat.le_of_ble_eq_true rfl) rfl ?_; unfold UR; simp (config := { maxSteps := 2000000 }) only [bitvec_to_nat, reduceIte, Nat.reduceEqDiff, Nat.reduceAdd, Nat.reduceLeDiff, reduceCtorEq, Nat.reduceBEq, Nat.reduceLT, Nat.reduceMod, List.forall_mem_cons, Qbb, Qa9, Qba, Vy, Qh, Qj, Qa, QN, Qg, List.take_length, List.length_cons, List.length_nil, Nat.zero_add, QF, QS, QQ, QU, Pt.row, Qi, Aw.row, Qm, Blk.row, Qb, Sec.row, Qc, Rw.row, Qn, Sky.row, Qd, Qu, QA, Qk, Ql, QB, Q5]
  unfold Sky.sz
  have qpts : (szS Pt.sz s.pts a) ≤ max a (-1) := (Ki UH s.pts a (by omega)).2.2
  have qaws : (szS Aw.sz s.aws (szS Pt.sz s.pts a)) ≤ max (szS Pt.sz s.pts a) (-1) := (Ki UJ s.aws (szS Pt.sz s.pts a) (by omega)).2.2
  have qsecs : (szS Sec.sz s.secs (szS Aw.sz s.aws (szS Pt.sz s.pts a))) ≤ max (szS Aw.sz s.aws (szS Pt.sz s.pts a)) (-1) := (Ki XV s.secs (szS Aw.sz s.aws (szS Pt.sz s.pts a)) (by omega)).2.2
  have qrws : (szS Rw.sz s.rws (szS Sec.sz s.secs (szS Aw.sz s.aws (szS Pt.sz s.pts a)))) ≤ max (szS Sec.sz s.secs (szS Aw.sz s.aws (szS Pt.sz s.pts a))) (-1) := (Ki UI s.rws (szS Sec.sz s.secs (szS Aw.sz s.aws (szS Pt.sz s.pts a))) (by omega)).2.2
  repeat' (first | with_reducible apply And.intro | with_reducible intro _)
  all_goals first | omega | (exact hs) | (exact hs.1) | (exact hs.2.1) | (exact hs.2.2) | (exact hs.2.2.1) | (exact hs.2.2.2) | (exact hs.2.2.2.1) | (exact hs.2.2.2.2) | (exact hs.1.1) | (exact hs.1.2) | (exact hs.2.1.1) | (exact hs.2.1.2) | (unfold chk; grind) | grind
def Qbc : List AV → Option (Prop × AV)
  | [.agg [.int .i64 s_w, .int .i64 s_h, .int .i64 s_lv, .sl 1 3 s_pts, .sl 1 2 s_aws, .sl 1 2 s_secs, .sl 1 4 s_rws], .int .i64 b] => some ((((s_pts.map QO).map Pt.row = s_pts) ∧ ((s_aws.map QR).map (Aw.row 1) = s_aws) ∧ ((s_secs.map Qv).map (Sec.row 1) = s_secs) ∧ ((s_rws.map QT).map Rw.row = s_rws)) ∧ ((0 ≤ b ∧ b ≤ 1048576) ∧ (Sky.fitp (Sky.mk s_w s_h s_lv (s_pts.map QO) (s_aws.map QR) (s_secs.map Qv) (s_rws.map QT)))), .int .i64 (Sky.sz (Sky.mk s_w s_h s_lv (s_pts.map QO) (s_aws.map QR) (s_secs.map Qv) (s_rws.map QT)) b))
  | _ => none
theorem QjT : ∀ args p v, Qbc args = some (p, v) → p → Contract P 5 args [] v [] ∧ noref v = true ∧ No99 v := by
  intro args p v h1 h2
  unfold Qbc at h1
  split at h1
  · rename_i s_w s_h s_lv s_pts s_aws s_secs s_rws b
    cases h1
    obtain ⟨⟨e0, e1, e2, e3⟩, HP⟩ := h2
    have := QjS (Sky.mk s_w s_h s_lv (s_pts.map QO) (s_aws.map QR) (s_secs.map Qv) (s_rws.map QT)) b HP.1 HP.2
    exact ⟨by simpa only [e0, e1, e2, e3, Sky.row] using this, rfl, trivial⟩
  · cases h1
end
end Go.Ve

namespace Go.Ve
noncomputable section
open Go.Proofs
set_option linter.unusedSimpArgs false
set_option linter.unusedVariables false
set_option maxRecDepth 100000
theorem Ul {lst : List ByteArray} {idx : Nat} {v : ByteArray} : (lst.map QF).set idx (Jc ((lst.map QF).getD idx []) 0 [.str v]) = (lst.set idx v).map QF :=
  XS (α := ByteArray) (f := QF) (fun s => v) fun x => by simp [QF, Jc]
def Jx (a : List ByteArray) (i : Nat) : List ByteArray := a.take i ++ List.replicate (a.length - i) ⟨#[]⟩
theorem Ws {a : List ByteArray} {i : Nat} (h : i < a.length) : (Jx a i).set i (a.getD i default) = Jx a (i + 1) := by
  refine List.ext_getElem (by simp [Jx]; omega) fun j h1 h2 => ?_
  by_cases e : j = i
  · subst e
    simp [Jx, List.getElem_append, h]
    intro h9; omega
  · simp only [List.getElem_set_ne (Ne.symm e)]
    simp only [Jx, List.getElem_append, List.length_take, List.getElem_take, List.getElem_replicate]
    split <;> split <;> first | rfl | omega
theorem WH (t : Nat) (a : List ByteArray) (ha : a.length ≤ 1048576) : Contract P 78 [.sl t 1 (a.map QF)] [] (.sl 0 1 (a.map QF)) [] := by
  refine Qs (Env.nil P) hm U9 (Nat.le_of_ble_eq_true rfl) rfl ?_; unfold Xc; simp (config := { maxSteps := 2000000 }) only [bitvec_to_nat, reduceIte, Nat.reduceEqDiff, Nat.reduceAdd, Nat.reduceLeDiff, reduceCtorEq, Nat.reduceBEq, Nat.reduceLT, Nat.reduceMod, List.forall_mem_cons, Qh, Qj, Qa, QN, Qg, List.take_length, List.length_cons, List.length_nil, Nat.zero_add, QF, QS, QQ, QU, Pt.row, Qi, Aw.row, Qm, Blk.row, Qb, Sec.row, Qc, Rw.row, Qn, Sky.row, Qd, Qu, QA, Qk, Ql, QB, Q5, Ul, Nat.sub_zero]
  have m0 : List.replicate a.length [.str ⟨#[]⟩] = (Jx a 0).map QF := by simp [Jx, QF]
  refine ⟨by omega, ?_⟩
  refine QP (fun i : Nat => [(4, .int .i64 i)]) (fun i => [(107, .arr 9 0 1 ((Jx a i).map QF))]) (fun i => i ≤ a.length) (fun i => a.length - i) 0 (by simp only [Jz, JA, JB, JC, Qw, Qx, Qy, Qz, reduceIte, Nat.reduceEqDiff]; exact ⟨by repeat' (first | exact trivial | refine ⟨.inr rfl, ?_⟩), ⟨congrArg (fun g => some (AObj.arr 9 0 1 g)) m0, trivial⟩, rfl, rfl⟩) (Nat.zero_le _) ?_
  intro i hi NX hN
  skip
  unfold Gc; simp (config := { maxSteps := 2000000 }) only [bitvec_to_nat, reduceIte, Nat.reduceEqDiff, Nat.reduceAdd, Nat.reduceLeDiff, reduceCtorEq, Nat.reduceBEq, Nat.reduceLT, Nat.reduceMod, List.forall_mem_cons, Qh, Qj, Qa, QN, Qg, List.take_length, List.length_cons, List.length_nil, Nat.zero_add, QF, QS, QQ, QU, Pt.row, Qi, Aw.row, Qm, Blk.row, Qb, Sec.row, Qc, Rw.row, Qn, Sky.row, Qd, Qu, QA, Qk, Ql, QB, Q5, Ul, Nat.sub_zero]
  refine ⟨fun h => ?_, fun h => ?_⟩
  · repeat' (first | with_reducible apply And.intro | with_reducible intro _)
    all_goals first
      | omega
      | rfl
      | exact hs2 (by omega)
      | (have e := Ws (a := a) (i := i) (by omega)
         try simp only [QF] at *
         refine hN (i + 1) _ ⟨by repeat' (first | exact trivial | refine ⟨.inr rfl, ?_⟩), ⟨congrArg (fun g => some (AObj.arr 9 0 1 (List.map QF g))) e, trivial⟩, rfl, rfl⟩ ?_ ?_ <;> omega)
  · have e : i = a.length := by omega
    subst e
    simp only [Jx, List.take_length, Nat.sub_self, List.replicate_zero, List.append_nil]
    try rw [List.take_of_length_le (by simp)]
def G3 : List AV → Option (Prop × AV)
  | [.sl st 1 sx] => some ((((sx.map unS).map QF = sx)) ∧ ((sx.map unS).length ≤ 1048576), .sl 0 1 ((sx.map unS).map QF))
  | _ => none
theorem Qdp : ∀ args p v, G3 args = some (p, v) → p → Contract P 78 args [] v [] ∧ noref v = true ∧ No99 v := by
  intro args p v h1 h2
  unfold G3 at h1
  split at h1
  · rename_i st sx
    cases h1
    obtain ⟨e0, HP⟩ := h2
    have := WH st (sx.map unS) HP
    exact ⟨by simpa only [e0] using this, rfl, by simp [No99, JR, J3, Xe, Jv, KE, KF, JK, JT, KG, J4, -List.map_map]⟩
  · cases h1
theorem WJ (t t' : Nat) (p q : List ByteArray) (hp : p.length ≤ 4611686018427387904) : Contract P 12 [.sl t 1 (p.map QF), .sl t' 1 (q.map QF)] [] (.bool (decide (p = q))) [] := by
  refine Qs (Env.nil P) hm U4 (Nat.le_of_ble_eq_true rfl) rfl ?_; unfold G6; simp (config := { maxSteps := 2000000 }) only [bitvec_to_nat, reduceIte, Nat.reduceEqDiff, Nat.reduceAdd, Nat.reduceLeDiff, reduceCtorEq, Nat.reduceBEq, Nat.reduceLT, Nat.reduceMod, List.forall_mem_cons, Qh, Qj, Qa, QN, Qg, List.take_length, List.length_cons, List.length_nil, Nat.zero_add, QF, QS, QQ, QU, Pt.row, Qi, Aw.row, Qm, Blk.row, Qb, Sec.row, Qc, Rw.row, Qn, Sky.row, Qd, Qu, QA, Qk, Ql, QB, Q5]
  refine ⟨fun h1 h => h1 (by rw [h]), fun h1 => ?_⟩
  refine QP (fun i : Nat => [(5, .int .i64 i)]) (fun _ => []) (fun i => i ≤ p.length ∧ ∀ j, j < i → p.getD j default = q.getD j default) (fun i => p.length - i) (0) (by simp only [Jz, JA, JB, JC, Qw, Qx, Qy, Qz, reduceIte, Nat.reduceEqDiff]; exact ⟨by repeat' (first | exact trivial | refine ⟨.inr rfl, ?_⟩), by repeat' (first | exact trivial | refine ⟨rfl, ?_⟩), by first | rfl | simp [closedB, Qr, Qp, Qt, dom, Qf, *], by first | rfl | simp [keepB, dom]⟩) ?_ ?_
  · exact ⟨Nat.zero_le _, by intro j hj; omega⟩
  intro i hi NX hN
  unfold YT; simp (config := { maxSteps := 2000000 }) only [bitvec_to_nat, reduceIte, Nat.reduceEqDiff, Nat.reduceAdd, Nat.reduceLeDiff, reduceCtorEq, Nat.reduceBEq, Nat.reduceLT, Nat.reduceMod, List.forall_mem_cons, Qh, Qj, Qa, QN, Qg, List.take_length, List.length_cons, List.length_nil, Nat.zero_add, QF, QS, QQ, QU, Pt.row, Qi, Aw.row, Qm, Blk.row, Qb, Sec.row, Qc, Rw.row, Qn, Sky.row, Qd, Qu, QA, Qk, Ql, QB, Q5]
  skip
  repeat' (first | with_reducible apply And.intro | with_reducible intro _)
  all_goals first
    | omega
    | (refine hN (i + 1) _ (by simp only [Jz, JA, JB, JC, Qw, Qx, Qy, Qz, reduceIte, Nat.reduceEqDiff]; exact ⟨by repeat' (first | exact trivial | refine ⟨.inr rfl, ?_⟩), by repeat' (first | exact trivial | refine ⟨rfl, ?_⟩), by first | rfl | simp [closedB, Qr, Qp, Qt, dom, Qf, *], by first | rfl | simp [keepB, dom]⟩) ?_ ?_
       · exact ⟨by omega, Ja hi.2 (by with_reducible assumption)⟩
       · omega)
    | (intro h; subst h; exact absurd rfl (by with_reducible assumption))
    | (exact WZ (by omega) fun j hj => hi.2 j (by omega))
    | grind
def G4 : List AV → Option (Prop × AV)
  | [.sl ct 1 cx, .sl dt 1 dx] => some ((((cx.map unS).map QF = cx) ∧ ((dx.map unS).map QF = dx)) ∧ ((cx.map unS).length ≤ 4611686018427387904), .bool (decide ((cx.map unS) = (dx.map unS))))
  | _ => none
theorem Qdq : ∀ args p v, G4 args = some (p, v) → p → Contract P 12 args [] v [] ∧ noref v = true ∧ No99 v := by
  intro args p v h1 h2
  unfold G4 at h1
  split at h1
  · rename_i ct cx dt dx
    cases h1
    obtain ⟨⟨e0, e1⟩, HP⟩ := h2
    have := WJ ct dt (cx.map unS) (dx.map unS) HP
    exact ⟨by simpa only [e0, e1] using this, rfl, trivial⟩
  · cases h1
theorem Qlh (s : Pt) : Contract P 44 [.agg (s.row)] [] (.agg (s.row)) [] := by
  simp only [Pt.row]
  refine Qs (Env.nil P) hm UB (Nat.le_of_ble_eq_true rfl) rfl ?_; unfold GF; simp (config := { maxSteps := 2000000 }) only [bitvec_to_nat, reduceIte, Nat.reduceEqDiff, Nat.reduceAdd, Nat.reduceLeDiff, reduceCtorEq, Nat.reduceBEq, Nat.reduceLT, Nat.reduceMod, List.forall_mem_cons, Qh, Qj, Qa, QN, Qg, List.take_length, List.length_cons, List.length_nil, Nat.zero_add, QF, QS, QQ, QU, Pt.row, Qi, Aw.row, Qm, Blk.row, Qb, Sec.row, Qc, Rw.row, Qn, Sky.row, Qd, Qu, QA, Qk, Ql, QB, Q5]
  all_goals trivial
def Qcu : List AV → Option (Prop × AV)
  | [.agg [.str s_nm, .int .i64 s_x, .int .i64 s_y]] => some ((True) ∧ (True), .agg (Pt.row (Pt.mk s_nm s_x s_y)))
  | _ => none
theorem Qli : ∀ args p v, Qcu args = some (p, v) → p → Contract P 44 args [] v [] ∧ noref v = true ∧ No99 v := by
  intro args p v h1 h2
  unfold Qcu at h1
  split at h1
  · rename_i s_nm s_x s_y
    cases h1
    obtain ⟨_, HP⟩ := h2
    have := Qlh (Pt.mk s_nm s_x s_y)
    exact ⟨by simpa only [Pt.row] using this, rfl, by simp [Pt.row, No99, JR, J3, Xe, Jv, KE, KF, JK, JT, KG, J4, -List.map_map]⟩
  · cases h1
theorem QiY {lst : List Pt} {idx : Nat} {vnm : ByteArray} {vx : Int} {vy : Int} : (lst.map Pt.row).set idx (Jc ((lst.map Pt.row).getD idx []) 0 [.str vnm, .int .i64 vx, .int .i64 vy]) = (lst.set idx (Pt.mk vnm vx vy)).map Pt.row :=
  XS (α := Pt) (f := Pt.row) (fun s => (Pt.mk vnm vx vy)) fun x => by simp [Pt.row, Jc]
def Qbd (a : List Pt) (i : Nat) : List Pt := a.take i ++ List.replicate (a.length - i) ⟨⟨#[]⟩, 0, 0⟩
theorem Qik {a : List Pt} {i : Nat} (h : i < a.length) : (Qbd a i).set i (a.getD i default) = Qbd a (i + 1) := by
  refine List.ext_getElem (by simp [Qbd]; omega) fun j h1 h2 => ?_
  by_cases e : j = i
  · subst e
    simp [Qbd, List.getElem_append, h]
    intro h9; omega
  · simp only [List.getElem_set_ne (Ne.symm e)]
    simp only [Qbd, List.getElem_append, List.length_take, List.getElem_take, List.getElem_replicate]
    split <;> split <;> first | rfl | omega
theorem QjU (t : Nat) (a : List Pt) (ha : a.length ≤ 1048576) : Contract P 21 [.sl t 3 (a.map Pt.row)] [] (.sl 0 3 (a.map Pt.row)) [] := by
  refine Qs ((Env.nil P).add 44 Qcu Qli) hm ZQ (Nat.le_of_ble_eq_true rfl) rfl ?_; unfold YV; simp (config := { maxSteps := 2000000 }) only [bitvec_to_nat, reduceIte, Nat.reduceEqDiff, Nat.reduceAdd, Nat.reduceLeDiff, reduceCtorEq, Nat.reduceBEq, Nat.reduceLT, Nat.reduceMod, List.forall_mem_cons, Qcu, Qh, Qj, Qa, QN, Qg, List.take_length, List.length_cons, List.length_nil, Nat.zero_add, QF, QS, QQ, QU, Pt.row, Qi, Aw.row, Qm, Blk.row, Qb, Sec.row, Qc, Rw.row, Qn, Sky.row, Qd, Qu, QA, Qk, Ql, QB, Q5, QiY, Nat.sub_zero]
  have m0 : List.replicate a.length [.str ⟨#[]⟩, .int .i64 0, .int .i64 0] = (Qbd a 0).map Pt.row := by simp [Qbd, Pt.row]
  refine ⟨by omega, ?_⟩
  refine QP (fun i : Nat => [(4, .int .i64 i)]) (fun i => [(107, .arr 82 0 3 ((Qbd a i).map Pt.row))]) (fun i => i ≤ a.length) (fun i => a.length - i) 0 (by simp only [Jz, JA, JB, JC, Qw, Qx, Qy, Qz, reduceIte, Nat.reduceEqDiff]; exact ⟨by repeat' (first | exact trivial | refine ⟨.inr rfl, ?_⟩), ⟨congrArg (fun g => some (AObj.arr 82 0 3 g)) m0, trivial⟩, rfl, rfl⟩) (Nat.zero_le _) ?_
  intro i hi NX hN
  skip
  unfold K4; simp (config := { maxSteps := 2000000 }) only [bitvec_to_nat, reduceIte, Nat.reduceEqDiff, Nat.reduceAdd, Nat.reduceLeDiff, reduceCtorEq, Nat.reduceBEq, Nat.reduceLT, Nat.reduceMod, List.forall_mem_cons, Qcu, Qh, Qj, Qa, QN, Qg, List.take_length, List.length_cons, List.length_nil, Nat.zero_add, QF, QS, QQ, QU, Pt.row, Qi, Aw.row, Qm, Blk.row, Qb, Sec.row, Qc, Rw.row, Qn, Sky.row, Qd, Qu, QA, Qk, Ql, QB, Q5, QiY, Nat.sub_zero]
  refine ⟨fun h => ?_, fun h => ?_⟩
  · repeat' (first | with_reducible apply And.intro | with_reducible intro _)
    all_goals first
      | omega
      | rfl
      | exact hs2 (by omega)
      | (have e := Qik (a := a) (i := i) (by omega)
         try simp only [Pt.row] at *
         refine hN (i + 1) _ ⟨by repeat' (first | exact trivial | refine ⟨.inr rfl, ?_⟩), ⟨congrArg (fun g => some (AObj.arr 82 0 3 (List.map Pt.row g))) e, trivial⟩, rfl, rfl⟩ ?_ ?_ <;> omega)
  · have e : i = a.length := by omega
    subst e
    simp only [Qbd, List.take_length, Nat.sub_self, List.replicate_zero, List.append_nil]
    try rw [List.take_of_length_le (by simp)]
def Qbe : List AV → Option (Prop × AV)
  | [.sl st 3 sx] => some ((((sx.map QO).map Pt.row = sx)) ∧ ((sx.map QO).length ≤ 1048576), .sl 0 3 ((sx.map QO).map Pt.row))
  | _ => none
theorem QjV : ∀ args p v, Qbe args = some (p, v) → p → Contract P 21 args [] v [] ∧ noref v = true ∧ No99 v := by
  intro args p v h1 h2
  unfold Qbe at h1
  split at h1
  · rename_i st sx
    cases h1
    obtain ⟨e0, HP⟩ := h2
    have := QjU st (sx.map QO) HP
    exact ⟨by simpa only [e0] using this, rfl, by simp [No99, JR, J3, Xe, Jv, KE, KF, JK, JT, KG, J4, -List.map_map]⟩
  · cases h1
theorem Qlj (c d : Pt)  : Contract P 61 [.agg (c.row), .agg (d.row)] [] (.bool (decide (c = d))) [] := by
  obtain ⟨c_nm, c_x, c_y⟩ := c
  obtain ⟨d_nm, d_x, d_y⟩ := d
  simp only [Pt.row]
  refine Qs (Env.nil P) hm UC (Nat.le_of_ble_eq_true rfl) rfl ?_; unfold GH; simp (config := { maxSteps := 2000000 }) only [bitvec_to_nat, reduceIte, Nat.reduceEqDiff, Nat.reduceAdd, Nat.reduceLeDiff, reduceCtorEq, Nat.reduceBEq, Nat.reduceLT, Nat.reduceMod, List.forall_mem_cons, Qh, Qj, Qa, QN, Qg, List.take_length, List.length_cons, List.length_nil, Nat.zero_add, QF, QS, QQ, QU, Pt.row, Qi, Aw.row, Qm, Blk.row, Qb, Sec.row, Qc, Rw.row, Qn, Sky.row, Qd, Qu, QA, Qk, Ql, QB, Q5]
  simp only [Pt.mk.injEq]
  repeat' (first | with_reducible apply And.intro | with_reducible intro _)
  all_goals first | omega | (simp_all; done) | grind
def Qcv : List AV → Option (Prop × AV)
  | [.agg [.str c_nm, .int .i64 c_x, .int .i64 c_y], .agg [.str d_nm, .int .i64 d_x, .int .i64 d_y]] => some ((True) ∧ (True), .bool (decide ((Pt.mk c_nm c_x c_y) = (Pt.mk d_nm d_x d_y))))
  | _ => none
theorem Qlk : ∀ args p v, Qcv args = some (p, v) → p → Contract P 61 args [] v [] ∧ noref v = true ∧ No99 v := by
  intro args p v h1 h2
  unfold Qcv at h1
  split at h1
  · rename_i c_nm c_x c_y d_nm d_x d_y
    cases h1
    obtain ⟨_, HP⟩ := h2
    have := Qlj (Pt.mk c_nm c_x c_y) (Pt.mk d_nm d_x d_y)
    exact ⟨by simpa only [Pt.row, Pt.row] using this, rfl, trivial⟩
  · cases h1
theorem QjW (t t' : Nat) (p q : List Pt) (hp : p.length ≤ 4611686018427387904) : Contract P 28 [.sl t 3 (p.map Pt.row), .sl t' 3 (q.map Pt.row)] [] (.bool (decide (p = q))) [] := by
  refine Qs ((Env.nil P).add 61 Qcv Qlk) hm ZR (Nat.le_of_ble_eq_true rfl) rfl ?_; unfold YW; simp (config := { maxSteps := 2000000 }) only [bitvec_to_nat, reduceIte, Nat.reduceEqDiff, Nat.reduceAdd, Nat.reduceLeDiff, reduceCtorEq, Nat.reduceBEq, Nat.reduceLT, Nat.reduceMod, List.forall_mem_cons, Qcv, Qh, Qj, Qa, QN, Qg, List.take_length, List.length_cons, List.length_nil, Nat.zero_add, QF, QS, QQ, QU, Pt.row, Qi, Aw.row, Qm, Blk.row, Qb, Sec.row, Qc, Rw.row, Qn, Sky.row, Qd, Qu, QA, Qk, Ql, QB, Q5]
  refine ⟨fun h1 h => h1 (by rw [h]), fun h1 => ?_⟩
  refine QP (fun i : Nat => [(5, .int .i64 i)]) (fun _ => []) (fun i => i ≤ p.length ∧ ∀ j, j < i → p.getD j default = q.getD j default) (fun i => p.length - i) (0) (by simp only [Jz, JA, JB, JC, Qw, Qx, Qy, Qz, reduceIte, Nat.reduceEqDiff]; exact ⟨by repeat' (first | exact trivial | refine ⟨.inr rfl, ?_⟩), by repeat' (first | exact trivial | refine ⟨rfl, ?_⟩), by first | rfl | simp [closedB, Qr, Qp, Qt, dom, Qf, *], by first | rfl | simp [keepB, dom]⟩) ?_ ?_
  · exact ⟨Nat.zero_le _, by intro j hj; omega⟩
  intro i hi NX hN
  unfold K5; simp (config := { maxSteps := 2000000 }) only [bitvec_to_nat, reduceIte, Nat.reduceEqDiff, Nat.reduceAdd, Nat.reduceLeDiff, reduceCtorEq, Nat.reduceBEq, Nat.reduceLT, Nat.reduceMod, List.forall_mem_cons, Qcv, Qh, Qj, Qa, QN, Qg, List.take_length, List.length_cons, List.length_nil, Nat.zero_add, QF, QS, QQ, QU, Pt.row, Qi, Aw.row, Qm, Blk.row, Qb, Sec.row, Qc, Rw.row, Qn, Sky.row, Qd, Qu, QA, Qk, Ql, QB, Q5]
  skip
  repeat' (first | with_reducible apply And.intro | with_reducible intro _)
  all_goals first
    | omega
    | (refine hN (i + 1) _ (by simp only [Jz, JA, JB, JC, Qw, Qx, Qy, Qz, reduceIte, Nat.reduceEqDiff]; exact ⟨by repeat' (first | exact trivial | refine ⟨.inr rfl, ?_⟩), by repeat' (first | exact trivial | refine ⟨rfl, ?_⟩), by first | rfl | simp [closedB, Qr, Qp, Qt, dom, Qf, *], by first | rfl | simp [keepB, dom]⟩) ?_ ?_
       · exact ⟨by omega, Ja hi.2 (by with_reducible assumption)⟩
       · omega)
    | (intro h; subst h; exact absurd rfl (by with_reducible assumption))
    | (exact WZ (by omega) fun j hj => hi.2 j (by omega))
    | grind
def Qbf : List AV → Option (Prop × AV)
  | [.sl ct 3 cx, .sl dt 3 dx] => some ((((cx.map QO).map Pt.row = cx) ∧ ((dx.map QO).map Pt.row = dx)) ∧ ((cx.map QO).length ≤ 4611686018427387904), .bool (decide ((cx.map QO) = (dx.map QO))))
  | _ => none
theorem QjX : ∀ args p v, Qbf args = some (p, v) → p → Contract P 28 args [] v [] ∧ noref v = true ∧ No99 v := by
  intro args p v h1 h2
  unfold Qbf at h1
  split at h1
  · rename_i ct cx dt dx
    cases h1
    obtain ⟨⟨e0, e1⟩, HP⟩ := h2
    have := QjW ct dt (cx.map QO) (dx.map QO) HP
    exact ⟨by simpa only [e0, e1] using this, rfl, trivial⟩
  · cases h1
theorem QjY (s : Blk) : Contract P 93 [.agg (s.row)] [] (.agg (s.row)) [] := by
  simp only [Blk.row]
  refine Qs (Env.nil P) hm UE (Nat.le_of_ble_eq_true rfl) rfl ?_; unfold GO; simp (config := { maxSteps := 2000000 }) only [bitvec_to_nat, reduceIte, Nat.reduceEqDiff, Nat.reduceAdd, Nat.reduceLeDiff, reduceCtorEq, Nat.reduceBEq, Nat.reduceLT, Nat.reduceMod, List.forall_mem_cons, Qh, Qj, Qa, QN, Qg, List.take_length, List.length_cons, List.length_nil, Nat.zero_add, QF, QS, QQ, QU, Pt.row, Qi, Aw.row, Qm, Blk.row, Qb, Sec.row, Qc, Rw.row, Qn, Sky.row, Qd, Qu, QA, Qk, Ql, QB, Q5]
  all_goals trivial
def Wt : List AV → Option (Prop × AV)
  | [.agg [.int .i64 s_x0, .int .i64 s_y0, .int .i64 s_x1, .int .i64 s_y1, .int .i64 s_lo, .int .i64 s_hi]] => some ((True) ∧ (True), .agg (Blk.row (Blk.mk s_x0 s_y0 s_x1 s_y1 s_lo s_hi)))
  | _ => none
theorem QjZ : ∀ args p v, Wt args = some (p, v) → p → Contract P 93 args [] v [] ∧ noref v = true ∧ No99 v := by
  intro args p v h1 h2
  unfold Wt at h1
  split at h1
  · rename_i s_x0 s_y0 s_x1 s_y1 s_lo s_hi
    cases h1
    obtain ⟨_, HP⟩ := h2
    have := QjY (Blk.mk s_x0 s_y0 s_x1 s_y1 s_lo s_hi)
    exact ⟨by simpa only [Blk.row] using this, rfl, by simp [Blk.row, No99, JR, J3, Xe, Jv, KE, KF, JK, JT, KG, J4, -List.map_map]⟩
  · cases h1
theorem Qgo {lst : List Blk} {idx : Nat} {vx0 : Int} {vy0 : Int} {vx1 : Int} {vy1 : Int} {vlo : Int} {vhi : Int} : (lst.map Blk.row).set idx (Jc ((lst.map Blk.row).getD idx []) 0 [.int .i64 vx0, .int .i64 vy0, .int .i64 vx1, .int .i64 vy1, .int .i64 vlo, .int .i64 vhi]) = (lst.set idx (Blk.mk vx0 vy0 vx1 vy1 vlo vhi)).map Blk.row :=
  XS (α := Blk) (f := Blk.row) (fun s => (Blk.mk vx0 vy0 vx1 vy1 vlo vhi)) fun x => by simp [Blk.row, Jc]
def Um (a : List Blk) (i : Nat) : List Blk := a.take i ++ List.replicate (a.length - i) ⟨0, 0, 0, 0, 0, 0⟩
theorem Qgp {a : List Blk} {i : Nat} (h : i < a.length) : (Um a i).set i (a.getD i default) = Um a (i + 1) := by
  refine List.ext_getElem (by simp [Um]; omega) fun j h1 h2 => ?_
  by_cases e : j = i
  · subst e
    simp [Um, List.getElem_append, h]
    intro h9; omega
  · simp only [List.getElem_set_ne (Ne.symm e)]
    simp only [Um, List.getElem_append, List.length_take, List.getElem_take, List.getElem_replicate]
    split <;> split <;> first | rfl | omega
theorem Qil (t : Nat) (a : List Blk) (ha : a.length ≤ 1048576) : Contract P 79 [.sl t 6 (a.map Blk.row)] [] (.sl 0 6 (a.map Blk.row)) [] := by
  refine Qs ((Env.nil P).add 93 Wt QjZ) hm Z9 (Nat.le_of_ble_eq_true rfl) rfl ?_; unfold Gd; simp (config := { maxSteps := 2000000 }) only [bitvec_to_nat, reduceIte, Nat.reduceEqDiff, Nat.reduceAdd, Nat.reduceLeDiff, reduceCtorEq, Nat.reduceBEq, Nat.reduceLT, Nat.reduceMod, List.forall_mem_cons, Wt, Qh, Qj, Qa, QN, Qg, List.take_length, List.length_cons, List.length_nil, Nat.zero_add, QF, QS, QQ, QU, Pt.row, Qi, Aw.row, Qm, Blk.row, Qb, Sec.row, Qc, Rw.row, Qn, Sky.row, Qd, Qu, QA, Qk, Ql, QB, Q5, Qgo, Nat.sub_zero]
  have m0 : List.replicate a.length [.int .i64 0, .int .i64 0, .int .i64 0, .int .i64 0, .int .i64 0, .int .i64 0] = (Um a 0).map Blk.row := by simp [Um, Blk.row]
  refine ⟨by omega, ?_⟩
  refine QP (fun i : Nat => [(4, .int .i64 i)]) (fun i => [(107, .arr 99 0 6 ((Um a i).map Blk.row))]) (fun i => i ≤ a.length) (fun i => a.length - i) 0 (by simp only [Jz, JA, JB, JC, Qw, Qx, Qy, Qz, reduceIte, Nat.reduceEqDiff]; exact ⟨by repeat' (first | exact trivial | refine ⟨.inr rfl, ?_⟩), ⟨congrArg (fun g => some (AObj.arr 99 0 6 g)) m0, trivial⟩, rfl, rfl⟩) (Nat.zero_le _) ?_
  intro i hi NX hN
  skip
  unfold Ye; simp (config := { maxSteps := 2000000 }) only [bitvec_to_nat, reduceIte, Nat.reduceEqDiff, Nat.reduceAdd, Nat.reduceLeDiff, reduceCtorEq, Nat.reduceBEq, Nat.reduceLT, Nat.reduceMod, List.forall_mem_cons, Wt, Qh, Qj, Qa, QN, Qg, List.take_length, List.length_cons, List.length_nil, Nat.zero_add, QF, QS, QQ, QU, Pt.row, Qi, Aw.row, Qm, Blk.row, Qb, Sec.row, Qc, Rw.row, Qn, Sky.row, Qd, Qu, QA, Qk, Ql, QB, Q5, Qgo, Nat.sub_zero]
  refine ⟨fun h => ?_, fun h => ?_⟩
  · repeat' (first | with_reducible apply And.intro | with_reducible intro _)
    all_goals first
      | omega
      | rfl
      | exact hs2 (by omega)
      | (have e := Qgp (a := a) (i := i) (by omega)
         try simp only [Blk.row] at *
         refine hN (i + 1) _ ⟨by repeat' (first | exact trivial | refine ⟨.inr rfl, ?_⟩), ⟨congrArg (fun g => some (AObj.arr 99 0 6 (List.map Blk.row g))) e, trivial⟩, rfl, rfl⟩ ?_ ?_ <;> omega)
  · have e : i = a.length := by omega
    subst e
    simp only [Um, List.take_length, Nat.sub_self, List.replicate_zero, List.append_nil]
    try rw [List.take_of_length_le (by simp)]
def Vz : List AV → Option (Prop × AV)
  | [.sl st 6 sx] => some ((((sx.map Kc).map Blk.row = sx)) ∧ ((sx.map Kc).length ≤ 1048576), .sl 0 6 ((sx.map Kc).map Blk.row))
  | _ => none
theorem Qim : ∀ args p v, Vz args = some (p, v) → p → Contract P 79 args [] v [] ∧ noref v = true ∧ No99 v := by
  intro args p v h1 h2
  unfold Vz at h1
  split at h1
  · rename_i st sx
    cases h1
    obtain ⟨e0, HP⟩ := h2
    have := Qil st (sx.map Kc) HP
    exact ⟨by simpa only [e0] using this, rfl, by simp [No99, JR, J3, Xe, Jv, KE, KF, JK, JT, KG, J4, -List.map_map]⟩
  · cases h1
theorem Qj0 (c d : Blk)  : Contract P 95 [.agg (c.row), .agg (d.row)] [] (.bool (decide (c = d))) [] := by
  obtain ⟨c_x0, c_y0, c_x1, c_y1, c_lo, c_hi⟩ := c
  obtain ⟨d_x0, d_y0, d_x1, d_y1, d_lo, d_hi⟩ := d
  simp only [Blk.row]
  refine Qs (Env.nil P) hm UF (Nat.le_of_ble_eq_true rfl) rfl ?_; unfold GP; simp (config := { maxSteps := 2000000 }) only [bitvec_to_nat, reduceIte, Nat.reduceEqDiff, Nat.reduceAdd, Nat.reduceLeDiff, reduceCtorEq, Nat.reduceBEq, Nat.reduceLT, Nat.reduceMod, List.forall_mem_cons, Qh, Qj, Qa, QN, Qg, List.take_length, List.length_cons, List.length_nil, Nat.zero_add, QF, QS, QQ, QU, Pt.row, Qi, Aw.row, Qm, Blk.row, Qb, Sec.row, Qc, Rw.row, Qn, Sky.row, Qd, Qu, QA, Qk, Ql, QB, Q5]
  simp only [Blk.mk.injEq]
  repeat' (first | with_reducible apply And.intro | with_reducible intro _)
  all_goals first | omega | (simp_all; done) | grind
def Wu : List AV → Option (Prop × AV)
  | [.agg [.int .i64 c_x0, .int .i64 c_y0, .int .i64 c_x1, .int .i64 c_y1, .int .i64 c_lo, .int .i64 c_hi], .agg [.int .i64 d_x0, .int .i64 d_y0, .int .i64 d_x1, .int .i64 d_y1, .int .i64 d_lo, .int .i64 d_hi]] => some ((True) ∧ (True), .bool (decide ((Blk.mk c_x0 c_y0 c_x1 c_y1 c_lo c_hi) = (Blk.mk d_x0 d_y0 d_x1 d_y1 d_lo d_hi))))
  | _ => none
theorem Qj1 : ∀ args p v, Wu args = some (p, v) → p → Contract P 95 args [] v [] ∧ noref v = true ∧ No99 v := by
  intro args p v h1 h2
  unfold Wu at h1
  split at h1
  · rename_i c_x0 c_y0 c_x1 c_y1 c_lo c_hi d_x0 d_y0 d_x1 d_y1 d_lo d_hi
    cases h1
    obtain ⟨_, HP⟩ := h2
    have := Qj0 (Blk.mk c_x0 c_y0 c_x1 c_y1 c_lo c_hi) (Blk.mk d_x0 d_y0 d_x1 d_y1 d_lo d_hi)
    exact ⟨by simpa only [Blk.row, Blk.row] using this, rfl, trivial⟩
  · cases h1
theorem Qin (t t' : Nat) (p q : List Blk) (hp : p.length ≤ 4611686018427387904) : Contract P 81 [.sl t 6 (p.map Blk.row), .sl t' 6 (q.map Blk.row)] [] (.bool (decide (p = q))) [] := by
  refine Qs ((Env.nil P).add 95 Wu Qj1) hm Ua (Nat.le_of_ble_eq_true rfl) rfl ?_; unfold Ge; simp (config := { maxSteps := 2000000 }) only [bitvec_to_nat, reduceIte, Nat.reduceEqDiff, Nat.reduceAdd, Nat.reduceLeDiff, reduceCtorEq, Nat.reduceBEq, Nat.reduceLT, Nat.reduceMod, List.forall_mem_cons, Wu, Qh, Qj, Qa, QN, Qg, List.take_length, List.length_cons, List.length_nil, Nat.zero_add, QF, QS, QQ, QU, Pt.row, Qi, Aw.row, Qm, Blk.row, Qb, Sec.row, Qc, Rw.row, Qn, Sky.row, Qd, Qu, QA, Qk, Ql, QB, Q5]
  refine ⟨fun h1 h => h1 (by rw [h]), fun h1 => ?_⟩
  refine QP (fun i : Nat => [(5, .int .i64 i)]) (fun _ => []) (fun i => i ≤ p.length ∧ ∀ j, j < i → p.getD j default = q.getD j default) (fun i => p.length - i) (0) (by simp only [Jz, JA, JB, JC, Qw, Qx, Qy, Qz, reduceIte, Nat.reduceEqDiff]; exact ⟨by repeat' (first | exact trivial | refine ⟨.inr rfl, ?_⟩), by repeat' (first | exact trivial | refine ⟨rfl, ?_⟩), by first | rfl | simp [closedB, Qr, Qp, Qt, dom, Qf, *], by first | rfl | simp [keepB, dom]⟩) ?_ ?_
  · exact ⟨Nat.zero_le _, by intro j hj; omega⟩
  intro i hi NX hN
  unfold Yf; simp (config := { maxSteps := 2000000 }) only [bitvec_to_nat, reduceIte, Nat.reduceEqDiff, Nat.reduceAdd, Nat.reduceLeDiff, reduceCtorEq, Nat.reduceBEq, Nat.reduceLT, Nat.reduceMod, List.forall_mem_cons, Wu, Qh, Qj, Qa, QN, Qg, List.take_length, List.length_cons, List.length_nil, Nat.zero_add, QF, QS, QQ, QU, Pt.row, Qi, Aw.row, Qm, Blk.row, Qb, Sec.row, Qc, Rw.row, Qn, Sky.row, Qd, Qu, QA, Qk, Ql, QB, Q5]
  skip
  repeat' (first | with_reducible apply And.intro | with_reducible intro _)
  all_goals first
    | omega
    | (refine hN (i + 1) _ (by simp only [Jz, JA, JB, JC, Qw, Qx, Qy, Qz, reduceIte, Nat.reduceEqDiff]; exact ⟨by repeat' (first | exact trivial | refine ⟨.inr rfl, ?_⟩), by repeat' (first | exact trivial | refine ⟨rfl, ?_⟩), by first | rfl | simp [closedB, Qr, Qp, Qt, dom, Qf, *], by first | rfl | simp [keepB, dom]⟩) ?_ ?_
       · exact ⟨by omega, Ja hi.2 (by with_reducible assumption)⟩
       · omega)
    | (intro h; subst h; exact absurd rfl (by with_reducible assumption))
    | (exact WZ (by omega) fun j hj => hi.2 j (by omega))
    | grind
def VA : List AV → Option (Prop × AV)
  | [.sl ct 6 cx, .sl dt 6 dx] => some ((((cx.map Kc).map Blk.row = cx) ∧ ((dx.map Kc).map Blk.row = dx)) ∧ ((cx.map Kc).length ≤ 4611686018427387904), .bool (decide ((cx.map Kc) = (dx.map Kc))))
  | _ => none
theorem Qio : ∀ args p v, VA args = some (p, v) → p → Contract P 81 args [] v [] ∧ noref v = true ∧ No99 v := by
  intro args p v h1 h2
  unfold VA at h1
  split at h1
  · rename_i ct cx dt dx
    cases h1
    obtain ⟨⟨e0, e1⟩, HP⟩ := h2
    have := Qin ct dt (cx.map Kc) (dx.map Kc) HP
    exact ⟨by simpa only [e0, e1] using this, rfl, trivial⟩
  · cases h1
theorem Qll (s : Rw) : Contract P 47 [.agg (s.row)] [] (.agg (s.row)) [] := by
  simp only [Rw.row]
  refine Qs (Env.nil P) hm ZY (Nat.le_of_ble_eq_true rfl) rfl ?_; unfold Y2; simp (config := { maxSteps := 2000000 }) only [bitvec_to_nat, reduceIte, Nat.reduceEqDiff, Nat.reduceAdd, Nat.reduceLeDiff, reduceCtorEq, Nat.reduceBEq, Nat.reduceLT, Nat.reduceMod, List.forall_mem_cons, Qh, Qj, Qa, QN, Qg, List.take_length, List.length_cons, List.length_nil, Nat.zero_add, QF, QS, QQ, QU, Pt.row, Qi, Aw.row, Qm, Blk.row, Qb, Sec.row, Qc, Rw.row, Qn, Sky.row, Qd, Qu, QA, Qk, Ql, QB, Q5]
  all_goals trivial
def Qcw : List AV → Option (Prop × AV)
  | [.agg [.str s_nm, .int .i64 s_x, .int .i64 s_y, .int .i64 s_tn]] => some ((True) ∧ (True), .agg (Rw.row (Rw.mk s_nm s_x s_y s_tn)))
  | _ => none
theorem Qlm : ∀ args p v, Qcw args = some (p, v) → p → Contract P 47 args [] v [] ∧ noref v = true ∧ No99 v := by
  intro args p v h1 h2
  unfold Qcw at h1
  split at h1
  · rename_i s_nm s_x s_y s_tn
    cases h1
    obtain ⟨_, HP⟩ := h2
    have := Qll (Rw.mk s_nm s_x s_y s_tn)
    exact ⟨by simpa only [Rw.row] using this, rfl, by simp [Rw.row, No99, JR, J3, Xe, Jv, KE, KF, JK, JT, KG, J4, -List.map_map]⟩
  · cases h1
theorem QiZ {lst : List Rw} {idx : Nat} {vnm : ByteArray} {vx : Int} {vy : Int} {vtn : Int} : (lst.map Rw.row).set idx (Jc ((lst.map Rw.row).getD idx []) 0 [.str vnm, .int .i64 vx, .int .i64 vy, .int .i64 vtn]) = (lst.set idx (Rw.mk vnm vx vy vtn)).map Rw.row :=
  XS (α := Rw) (f := Rw.row) (fun s => (Rw.mk vnm vx vy vtn)) fun x => by simp [Rw.row, Jc]
def Qbg (a : List Rw) (i : Nat) : List Rw := a.take i ++ List.replicate (a.length - i) ⟨⟨#[]⟩, 0, 0, 0⟩
theorem Qip {a : List Rw} {i : Nat} (h : i < a.length) : (Qbg a i).set i (a.getD i default) = Qbg a (i + 1) := by
  refine List.ext_getElem (by simp [Qbg]; omega) fun j h1 h2 => ?_
  by_cases e : j = i
  · subst e
    simp [Qbg, List.getElem_append, h]
    intro h9; omega
  · simp only [List.getElem_set_ne (Ne.symm e)]
    simp only [Qbg, List.getElem_append, List.length_take, List.getElem_take, List.getElem_replicate]
    split <;> split <;> first | rfl | omega
theorem Qj2 (t : Nat) (a : List Rw) (ha : a.length ≤ 1048576) : Contract P 24 [.sl t 4 (a.map Rw.row)] [] (.sl 0 4 (a.map Rw.row)) [] := by
  refine Qs ((Env.nil P).add 47 Qcw Qlm) hm Zn (Nat.le_of_ble_eq_true rfl) rfl ?_; unfold YD; simp (config := { maxSteps := 2000000 }) only [bitvec_to_nat, reduceIte, Nat.reduceEqDiff, Nat.reduceAdd, Nat.reduceLeDiff, reduceCtorEq, Nat.reduceBEq, Nat.reduceLT, Nat.reduceMod, List.forall_mem_cons, Qcw, Qh, Qj, Qa, QN, Qg, List.take_length, List.length_cons, List.length_nil, Nat.zero_add, QF, QS, QQ, QU, Pt.row, Qi, Aw.row, Qm, Blk.row, Qb, Sec.row, Qc, Rw.row, Qn, Sky.row, Qd, Qu, QA, Qk, Ql, QB, Q5, QiZ, Nat.sub_zero]
  have m0 : List.replicate a.length [.str ⟨#[]⟩, .int .i64 0, .int .i64 0, .int .i64 0] = (Qbg a 0).map Rw.row := by simp [Qbg, Rw.row]
  refine ⟨by omega, ?_⟩
  refine QP (fun i : Nat => [(4, .int .i64 i)]) (fun i => [(107, .arr 90 0 4 ((Qbg a i).map Rw.row))]) (fun i => i ≤ a.length) (fun i => a.length - i) 0 (by simp only [Jz, JA, JB, JC, Qw, Qx, Qy, Qz, reduceIte, Nat.reduceEqDiff]; exact ⟨by repeat' (first | exact trivial | refine ⟨.inr rfl, ?_⟩), ⟨congrArg (fun g => some (AObj.arr 90 0 4 g)) m0, trivial⟩, rfl, rfl⟩) (Nat.zero_le _) ?_
  intro i hi NX hN
  skip
  unfold KS; simp (config := { maxSteps := 2000000 }) only [bitvec_to_nat, reduceIte, Nat.reduceEqDiff, Nat.reduceAdd, Nat.reduceLeDiff, reduceCtorEq, Nat.reduceBEq, Nat.reduceLT, Nat.reduceMod, List.forall_mem_cons, Qcw, Qh, Qj, Qa, QN, Qg, List.take_length, List.length_cons, List.length_nil, Nat.zero_add, QF, QS, QQ, QU, Pt.row, Qi, Aw.row, Qm, Blk.row, Qb, Sec.row, Qc, Rw.row, Qn, Sky.row, Qd, Qu, QA, Qk, Ql, QB, Q5, QiZ, Nat.sub_zero]
  refine ⟨fun h => ?_, fun h => ?_⟩
  · repeat' (first | with_reducible apply And.intro | with_reducible intro _)
    all_goals first
      | omega
      | rfl
      | exact hs2 (by omega)
      | (have e := Qip (a := a) (i := i) (by omega)
         try simp only [Rw.row] at *
         refine hN (i + 1) _ ⟨by repeat' (first | exact trivial | refine ⟨.inr rfl, ?_⟩), ⟨congrArg (fun g => some (AObj.arr 90 0 4 (List.map Rw.row g))) e, trivial⟩, rfl, rfl⟩ ?_ ?_ <;> omega)
  · have e : i = a.length := by omega
    subst e
    simp only [Qbg, List.take_length, Nat.sub_self, List.replicate_zero, List.append_nil]
    try rw [List.take_of_length_le (by simp)]
def Qbh : List AV → Option (Prop × AV)
  | [.sl st 4 sx] => some ((((sx.map QT).map Rw.row = sx)) ∧ ((sx.map QT).length ≤ 1048576), .sl 0 4 ((sx.map QT).map Rw.row))
  | _ => none
theorem Qj3 : ∀ args p v, Qbh args = some (p, v) → p → Contract P 24 args [] v [] ∧ noref v = true ∧ No99 v := by
  intro args p v h1 h2
  unfold Qbh at h1
  split at h1
  · rename_i st sx
    cases h1
    obtain ⟨e0, HP⟩ := h2
    have := Qj2 st (sx.map QT) HP
    exact ⟨by simpa only [e0] using this, rfl, by simp [No99, JR, J3, Xe, Jv, KE, KF, JK, JT, KG, J4, -List.map_map]⟩
  · cases h1
theorem Qln (c d : Rw)  : Contract P 64 [.agg (c.row), .agg (d.row)] [] (.bool (decide (c = d))) [] := by
  obtain ⟨c_nm, c_x, c_y, c_tn⟩ := c
  obtain ⟨d_nm, d_x, d_y, d_tn⟩ := d
  simp only [Rw.row]
  refine Qs (Env.nil P) hm Z4 (Nat.le_of_ble_eq_true rfl) rfl ?_; unfold Y6; simp (config := { maxSteps := 2000000 }) only [bitvec_to_nat, reduceIte, Nat.reduceEqDiff, Nat.reduceAdd, Nat.reduceLeDiff, reduceCtorEq, Nat.reduceBEq, Nat.reduceLT, Nat.reduceMod, List.forall_mem_cons, Qh, Qj, Qa, QN, Qg, List.take_length, List.length_cons, List.length_nil, Nat.zero_add, QF, QS, QQ, QU, Pt.row, Qi, Aw.row, Qm, Blk.row, Qb, Sec.row, Qc, Rw.row, Qn, Sky.row, Qd, Qu, QA, Qk, Ql, QB, Q5]
  simp only [Rw.mk.injEq]
  repeat' (first | with_reducible apply And.intro | with_reducible intro _)
  all_goals first | omega | (simp_all; done) | grind
def Qcx : List AV → Option (Prop × AV)
  | [.agg [.str c_nm, .int .i64 c_x, .int .i64 c_y, .int .i64 c_tn], .agg [.str d_nm, .int .i64 d_x, .int .i64 d_y, .int .i64 d_tn]] => some ((True) ∧ (True), .bool (decide ((Rw.mk c_nm c_x c_y c_tn) = (Rw.mk d_nm d_x d_y d_tn))))
  | _ => none
theorem Qlo : ∀ args p v, Qcx args = some (p, v) → p → Contract P 64 args [] v [] ∧ noref v = true ∧ No99 v := by
  intro args p v h1 h2
  unfold Qcx at h1
  split at h1
  · rename_i c_nm c_x c_y c_tn d_nm d_x d_y d_tn
    cases h1
    obtain ⟨_, HP⟩ := h2
    have := Qln (Rw.mk c_nm c_x c_y c_tn) (Rw.mk d_nm d_x d_y d_tn)
    exact ⟨by simpa only [Rw.row, Rw.row] using this, rfl, trivial⟩
  · cases h1
theorem Qj4 (t t' : Nat) (p q : List Rw) (hp : p.length ≤ 4611686018427387904) : Contract P 31 [.sl t 4 (p.map Rw.row), .sl t' 4 (q.map Rw.row)] [] (.bool (decide (p = q))) [] := by
  refine Qs ((Env.nil P).add 64 Qcx Qlo) hm Zq (Nat.le_of_ble_eq_true rfl) rfl ?_; unfold YG; simp (config := { maxSteps := 2000000 }) only [bitvec_to_nat, reduceIte, Nat.reduceEqDiff, Nat.reduceAdd, Nat.reduceLeDiff, reduceCtorEq, Nat.reduceBEq, Nat.reduceLT, Nat.reduceMod, List.forall_mem_cons, Qcx, Qh, Qj, Qa, QN, Qg, List.take_length, List.length_cons, List.length_nil, Nat.zero_add, QF, QS, QQ, QU, Pt.row, Qi, Aw.row, Qm, Blk.row, Qb, Sec.row, Qc, Rw.row, Qn, Sky.row, Qd, Qu, QA, Qk, Ql, QB, Q5]
  refine ⟨fun h1 h => h1 (by rw [h]), fun h1 => ?_⟩
  refine QP (fun i : Nat => [(5, .int .i64 i)]) (fun _ => []) (fun i => i ≤ p.length ∧ ∀ j, j < i → p.getD j default = q.getD j default) (fun i => p.length - i) (0) (by simp only [Jz, JA, JB, JC, Qw, Qx, Qy, Qz, reduceIte, Nat.reduceEqDiff]; exact ⟨by repeat' (first | exact trivial | refine ⟨.inr rfl, ?_⟩), by repeat' (first | exact trivial | refine ⟨rfl, ?_⟩), by first | rfl | simp [closedB, Qr, Qp, Qt, dom, Qf, *], by first | rfl | simp [keepB, dom]⟩) ?_ ?_
  · exact ⟨Nat.zero_le _, by intro j hj; omega⟩
  intro i hi NX hN
  unfold KV; simp (config := { maxSteps := 2000000 }) only [bitvec_to_nat, reduceIte, Nat.reduceEqDiff, Nat.reduceAdd, Nat.reduceLeDiff, reduceCtorEq, Nat.reduceBEq, Nat.reduceLT, Nat.reduceMod, List.forall_mem_cons, Qcx, Qh, Qj, Qa, QN, Qg, List.take_length, List.length_cons, List.length_nil, Nat.zero_add, QF, QS, QQ, QU, Pt.row, Qi, Aw.row, Qm, Blk.row, Qb, Sec.row, Qc, Rw.row, Qn, Sky.row, Qd, Qu, QA, Qk, Ql, QB, Q5]
  skip
  repeat' (first | with_reducible apply And.intro | with_reducible intro _)
  all_goals first
    | omega
    | (refine hN (i + 1) _ (by simp only [Jz, JA, JB, JC, Qw, Qx, Qy, Qz, reduceIte, Nat.reduceEqDiff]; exact ⟨by repeat' (first | exact trivial | refine ⟨.inr rfl, ?_⟩), by repeat' (first | exact trivial | refine ⟨rfl, ?_⟩), by first | rfl | simp [closedB, Qr, Qp, Qt, dom, Qf, *], by first | rfl | simp [keepB, dom]⟩) ?_ ?_
       · exact ⟨by omega, Ja hi.2 (by with_reducible assumption)⟩
       · omega)
    | (intro h; subst h; exact absurd rfl (by with_reducible assumption))
    | (exact WZ (by omega) fun j hj => hi.2 j (by omega))
    | grind
def Qbi : List AV → Option (Prop × AV)
  | [.sl ct 4 cx, .sl dt 4 dx] => some ((((cx.map QT).map Rw.row = cx) ∧ ((dx.map QT).map Rw.row = dx)) ∧ ((cx.map QT).length ≤ 4611686018427387904), .bool (decide ((cx.map QT) = (dx.map QT))))
  | _ => none
theorem Qj5 : ∀ args p v, Qbi args = some (p, v) → p → Contract P 31 args [] v [] ∧ noref v = true ∧ No99 v := by
  intro args p v h1 h2
  unfold Qbi at h1
  split at h1
  · rename_i ct cx dt dx
    cases h1
    obtain ⟨⟨e0, e1⟩, HP⟩ := h2
    have := Qj4 ct dt (cx.map QT) (dx.map QT) HP
    exact ⟨by simpa only [e0, e1] using this, rfl, trivial⟩
  · cases h1
theorem Qlp (s : Aw) (hs : s.small) : Contract P 45 [.agg (s.row 1)] [] (.agg (s.row 0)) [] := by
  unfold Aw.small at hs
  simp only [Aw.row]
  refine Qs ((Env.nil P).add 78 G3 Qdp) hm ZW (Nat.le_of_ble_eq_true rfl) rfl ?_; unfold Y0; simp (config := { maxSteps := 2000000 }) only [bitvec_to_nat, reduceIte, Nat.reduceEqDiff, Nat.reduceAdd, Nat.reduceLeDiff, reduceCtorEq, Nat.reduceBEq, Nat.reduceLT, Nat.reduceMod, List.forall_mem_cons, G3, Qh, Qj, Qa, QN, Qg, List.take_length, List.length_cons, List.length_nil, Nat.zero_add, QF, QS, QQ, QU, Pt.row, Qi, Aw.row, Qm, Blk.row, Qb, Sec.row, Qc, Rw.row, Qn, Sky.row, Qd, Qu, QA, Qk, Ql, QB, Q5]
  repeat' (first | with_reducible apply And.intro | with_reducible intro _)
  all_goals first | omega | grind | grind [Aw.small, Sec.small, Sky.small]
def Qcy : List AV → Option (Prop × AV)
  | [.agg [.str s_nm, .sl 1 1 s_pts]] => some ((((s_pts.map unS).map QF = s_pts)) ∧ (Aw.small (Aw.mk s_nm (s_pts.map unS))), .agg (Aw.row 0 (Aw.mk s_nm (s_pts.map unS))))
  | _ => none
theorem Qlq : ∀ args p v, Qcy args = some (p, v) → p → Contract P 45 args [] v [] ∧ noref v = true ∧ No99 v := by
  intro args p v h1 h2
  unfold Qcy at h1
  split at h1
  · rename_i s_nm s_pts
    cases h1
    obtain ⟨e0, HP⟩ := h2
    have := Qlp (Aw.mk s_nm (s_pts.map unS)) HP
    exact ⟨by simpa only [e0, Aw.row] using this, rfl, by simp [Aw.row, No99, JR, J3, Xe, Jv, KE, KF, JK, JT, KG, J4, -List.map_map]⟩
  · cases h1
theorem Qi0 {lst : List Aw} {idx : Nat} {vnm : ByteArray} {vpts : List ByteArray} : (lst.map (Aw.row 0)).set idx (Jc ((lst.map (Aw.row 0)).getD idx []) 0 [.str vnm, .sl 0 1 (vpts.map QF)]) = (lst.set idx (Aw.mk vnm vpts)).map (Aw.row 0) :=
  XS (α := Aw) (f := (Aw.row 0)) (fun s => (Aw.mk vnm vpts)) fun x => by simp [Aw.row, Jc]
def Qbj (a : List Aw) (i : Nat) : List Aw := a.take i ++ List.replicate (a.length - i) ⟨⟨#[]⟩, []⟩
theorem Qiq {a : List Aw} {i : Nat} (h : i < a.length) : (Qbj a i).set i (a.getD i default) = Qbj a (i + 1) := by
  refine List.ext_getElem (by simp [Qbj]; omega) fun j h1 h2 => ?_
  by_cases e : j = i
  · subst e
    simp [Qbj, List.getElem_append, h]
    intro h9; omega
  · simp only [List.getElem_set_ne (Ne.symm e)]
    simp only [Qbj, List.getElem_append, List.length_take, List.getElem_take, List.getElem_replicate]
    split <;> split <;> first | rfl | omega
theorem Qj6 (t : Nat) (a : List Aw) (ha : a.length ≤ 1048576) (hs : ∀ x ∈ a, x.small) : Contract P 22 [.sl t 2 (a.map (Aw.row 1))] [] (.sl 0 2 (a.map (Aw.row 0))) [] := by
  refine Qs ((Env.nil P).add 45 Qcy Qlq) hm Zl (Nat.le_of_ble_eq_true rfl) rfl ?_; unfold YB; simp (config := { maxSteps := 2000000 }) only [bitvec_to_nat, reduceIte, Nat.reduceEqDiff, Nat.reduceAdd, Nat.reduceLeDiff, reduceCtorEq, Nat.reduceBEq, Nat.reduceLT, Nat.reduceMod, List.forall_mem_cons, Qcy, Qh, Qj, Qa, QN, Qg, List.take_length, List.length_cons, List.length_nil, Nat.zero_add, QF, QS, QQ, QU, Pt.row, Qi, Aw.row, Qm, Blk.row, Qb, Sec.row, Qc, Rw.row, Qn, Sky.row, Qd, Qu, QA, Qk, Ql, QB, Q5, Qi0, Nat.sub_zero]
  have m0 : List.replicate a.length [.str ⟨#[]⟩, .sl 0 1 []] = (Qbj a 0).map (Aw.row 0) := by simp [Qbj, Aw.row]
  refine ⟨by omega, ?_⟩
  refine QP (fun i : Nat => [(4, .int .i64 i)]) (fun i => [(107, .arr 84 0 2 ((Qbj a i).map (Aw.row 0)))]) (fun i => i ≤ a.length) (fun i => a.length - i) 0 (by simp only [Jz, JA, JB, JC, Qw, Qx, Qy, Qz, reduceIte, Nat.reduceEqDiff]; exact ⟨by repeat' (first | exact trivial | refine ⟨.inr rfl, ?_⟩), ⟨congrArg (fun g => some (AObj.arr 84 0 2 g)) m0, trivial⟩, rfl, rfl⟩) (Nat.zero_le _) ?_
  intro i hi NX hN
  have hs2 : i < a.length → (a.getD i default).small := fun h => hs _ (Jl h)
  unfold KQ; simp (config := { maxSteps := 2000000 }) only [bitvec_to_nat, reduceIte, Nat.reduceEqDiff, Nat.reduceAdd, Nat.reduceLeDiff, reduceCtorEq, Nat.reduceBEq, Nat.reduceLT, Nat.reduceMod, List.forall_mem_cons, Qcy, Qh, Qj, Qa, QN, Qg, List.take_length, List.length_cons, List.length_nil, Nat.zero_add, QF, QS, QQ, QU, Pt.row, Qi, Aw.row, Qm, Blk.row, Qb, Sec.row, Qc, Rw.row, Qn, Sky.row, Qd, Qu, QA, Qk, Ql, QB, Q5, Qi0, Nat.sub_zero]
  refine ⟨fun h => ?_, fun h => ?_⟩
  · repeat' (first | with_reducible apply And.intro | with_reducible intro _)
    all_goals first
      | omega
      | rfl
      | exact hs2 (by omega)
      | (have e := Qiq (a := a) (i := i) (by omega)
         try simp only [Aw.row] at *
         refine hN (i + 1) _ ⟨by repeat' (first | exact trivial | refine ⟨.inr rfl, ?_⟩), ⟨congrArg (fun g => some (AObj.arr 84 0 2 (List.map (Aw.row 0) g))) e, trivial⟩, rfl, rfl⟩ ?_ ?_ <;> omega)
  · have e : i = a.length := by omega
    subst e
    simp only [Qbj, List.take_length, Nat.sub_self, List.replicate_zero, List.append_nil]
    try rw [List.take_of_length_le (by simp)]
def Qbk : List AV → Option (Prop × AV)
  | [.sl st 2 sx] => some ((((sx.map QR).map (Aw.row 1) = sx)) ∧ ((sx.map QR).length ≤ 1048576 ∧ ∀ x ∈ (sx.map QR), x.small), .sl 0 2 ((sx.map QR).map (Aw.row 0)))
  | _ => none
theorem Qj7 : ∀ args p v, Qbk args = some (p, v) → p → Contract P 22 args [] v [] ∧ noref v = true ∧ No99 v := by
  intro args p v h1 h2
  unfold Qbk at h1
  split at h1
  · rename_i st sx
    cases h1
    obtain ⟨e0, HP⟩ := h2
    have := Qj6 st (sx.map QR) HP.1 HP.2
    exact ⟨by simpa only [e0] using this, rfl, by simp [No99, JR, J3, Xe, Jv, KE, KF, JK, JT, KG, J4, -List.map_map]⟩
  · cases h1
theorem Qlr (c d : Aw) (hl : c.pts.length ≤ 4611686018427387904) : Contract P 62 [.agg (c.row 0), .agg (d.row 0)] [] (.bool (decide (c = d))) [] := by
  obtain ⟨c_nm, c_pts⟩ := c
  obtain ⟨d_nm, d_pts⟩ := d
  simp only [Aw.row]
  refine Qs ((Env.nil P).add 12 G4 Qdq) hm Z2 (Nat.le_of_ble_eq_true rfl) rfl ?_; unfold Y4; simp (config := { maxSteps := 2000000 }) only [bitvec_to_nat, reduceIte, Nat.reduceEqDiff, Nat.reduceAdd, Nat.reduceLeDiff, reduceCtorEq, Nat.reduceBEq, Nat.reduceLT, Nat.reduceMod, List.forall_mem_cons, G4, Qh, Qj, Qa, QN, Qg, List.take_length, List.length_cons, List.length_nil, Nat.zero_add, QF, QS, QQ, QU, Pt.row, Qi, Aw.row, Qm, Blk.row, Qb, Sec.row, Qc, Rw.row, Qn, Sky.row, Qd, Qu, QA, Qk, Ql, QB, Q5]
  simp only [Aw.mk.injEq]
  repeat' (first | with_reducible apply And.intro | with_reducible intro _)
  all_goals first | omega | (simp_all; done) | grind | grind [Aw.small, Sec.small, Sky.small]
def Qcz : List AV → Option (Prop × AV)
  | [.agg [.str c_nm, .sl 0 1 c_pts], .agg [.str d_nm, .sl 0 1 d_pts]] => some ((((c_pts.map unS).map QF = c_pts) ∧ ((d_pts.map unS).map QF = d_pts)) ∧ ((Aw.mk c_nm (c_pts.map unS)).pts.length ≤ 4611686018427387904), .bool (decide ((Aw.mk c_nm (c_pts.map unS)) = (Aw.mk d_nm (d_pts.map unS)))))
  | _ => none
theorem Qls : ∀ args p v, Qcz args = some (p, v) → p → Contract P 62 args [] v [] ∧ noref v = true ∧ No99 v := by
  intro args p v h1 h2
  unfold Qcz at h1
  split at h1
  · rename_i c_nm c_pts d_nm d_pts
    cases h1
    obtain ⟨⟨e0, e1⟩, HP⟩ := h2
    have := Qlr (Aw.mk c_nm (c_pts.map unS)) (Aw.mk d_nm (d_pts.map unS)) HP
    exact ⟨by simpa only [e0, e1, Aw.row, Aw.row] using this, rfl, trivial⟩
  · cases h1
theorem Qj8 (t t' : Nat) (p q : List Aw) (hp : p.length ≤ 4611686018427387904) (hx : ∀ x ∈ p, x.pts.length ≤ 4611686018427387904) : Contract P 29 [.sl t 2 (p.map (Aw.row 0)), .sl t' 2 (q.map (Aw.row 0))] [] (.bool (decide (p = q))) [] := by
  refine Qs ((Env.nil P).add 62 Qcz Qls) hm Zo (Nat.le_of_ble_eq_true rfl) rfl ?_; unfold YE; simp (config := { maxSteps := 2000000 }) only [bitvec_to_nat, reduceIte, Nat.reduceEqDiff, Nat.reduceAdd, Nat.reduceLeDiff, reduceCtorEq, Nat.reduceBEq, Nat.reduceLT, Nat.reduceMod, List.forall_mem_cons, Qcz, Qh, Qj, Qa, QN, Qg, List.take_length, List.length_cons, List.length_nil, Nat.zero_add, QF, QS, QQ, QU, Pt.row, Qi, Aw.row, Qm, Blk.row, Qb, Sec.row, Qc, Rw.row, Qn, Sky.row, Qd, Qu, QA, Qk, Ql, QB, Q5]
  refine ⟨fun h1 h => h1 (by rw [h]), fun h1 => ?_⟩
  refine QP (fun i : Nat => [(5, .int .i64 i)]) (fun _ => []) (fun i => i ≤ p.length ∧ ∀ j, j < i → p.getD j default = q.getD j default) (fun i => p.length - i) (0) (by simp only [Jz, JA, JB, JC, Qw, Qx, Qy, Qz, reduceIte, Nat.reduceEqDiff]; exact ⟨by repeat' (first | exact trivial | refine ⟨.inr rfl, ?_⟩), by repeat' (first | exact trivial | refine ⟨rfl, ?_⟩), by first | rfl | simp [closedB, Qr, Qp, Qt, dom, Qf, *], by first | rfl | simp [keepB, dom]⟩) ?_ ?_
  · exact ⟨Nat.zero_le _, by intro j hj; omega⟩
  intro i hi NX hN
  unfold KT; simp (config := { maxSteps := 2000000 }) only [bitvec_to_nat, reduceIte, Nat.reduceEqDiff, Nat.reduceAdd, Nat.reduceLeDiff, reduceCtorEq, Nat.reduceBEq, Nat.reduceLT, Nat.reduceMod, List.forall_mem_cons, Qcz, Qh, Qj, Qa, QN, Qg, List.take_length, List.length_cons, List.length_nil, Nat.zero_add, QF, QS, QQ, QU, Pt.row, Qi, Aw.row, Qm, Blk.row, Qb, Sec.row, Qc, Rw.row, Qn, Sky.row, Qd, Qu, QA, Qk, Ql, QB, Q5]
  have hx2 : i < p.length → _ := fun h => hx _ (Jl h)
  repeat' (first | with_reducible apply And.intro | with_reducible intro _)
  all_goals first
    | omega
    | (refine hN (i + 1) _ (by simp only [Jz, JA, JB, JC, Qw, Qx, Qy, Qz, reduceIte, Nat.reduceEqDiff]; exact ⟨by repeat' (first | exact trivial | refine ⟨.inr rfl, ?_⟩), by repeat' (first | exact trivial | refine ⟨rfl, ?_⟩), by first | rfl | simp [closedB, Qr, Qp, Qt, dom, Qf, *], by first | rfl | simp [keepB, dom]⟩) ?_ ?_
       · exact ⟨by omega, Ja hi.2 (by with_reducible assumption)⟩
       · omega)
    | (intro h; subst h; exact absurd rfl (by with_reducible assumption))
    | (exact WZ (by omega) fun j hj => hi.2 j (by omega))
    | grind
def Qbl : List AV → Option (Prop × AV)
  | [.sl ct 2 cx, .sl dt 2 dx] => some ((((cx.map QR).map (Aw.row 0) = cx) ∧ ((dx.map QR).map (Aw.row 0) = dx)) ∧ ((cx.map QR).length ≤ 4611686018427387904 ∧ ∀ x ∈ (cx.map QR), x.pts.length ≤ 4611686018427387904), .bool (decide ((cx.map QR) = (dx.map QR))))
  | _ => none
theorem Qj9 : ∀ args p v, Qbl args = some (p, v) → p → Contract P 29 args [] v [] ∧ noref v = true ∧ No99 v := by
  intro args p v h1 h2
  unfold Qbl at h1
  split at h1
  · rename_i ct cx dt dx
    cases h1
    obtain ⟨⟨e0, e1⟩, HP⟩ := h2
    have := Qj8 ct dt (cx.map QR) (dx.map QR) HP.1 HP.2
    exact ⟨by simpa only [e0, e1] using this, rfl, trivial⟩
  · cases h1
theorem Qka (s : Sec) (hs : s.small) : Contract P 46 [.agg (s.row 1)] [] (.agg (s.row 0)) [] := by
  unfold Sec.small at hs
  simp only [Sec.row]
  refine Qs ((Env.nil P).add 79 Vz Qim) hm ZX (Nat.le_of_ble_eq_true rfl) rfl ?_; unfold Y1; simp (config := { maxSteps := 2000000 }) only [bitvec_to_nat, reduceIte, Nat.reduceEqDiff, Nat.reduceAdd, Nat.reduceLeDiff, reduceCtorEq, Nat.reduceBEq, Nat.reduceLT, Nat.reduceMod, List.forall_mem_cons, Vz, Qh, Qj, Qa, QN, Qg, List.take_length, List.length_cons, List.length_nil, Nat.zero_add, QF, QS, QQ, QU, Pt.row, Qi, Aw.row, Qm, Blk.row, Qb, Sec.row, Qc, Rw.row, Qn, Sky.row, Qd, Qu, QA, Qk, Ql, QB, Q5]
  repeat' (first | with_reducible apply And.intro | with_reducible intro _)
  all_goals first | omega | grind | grind [Aw.small, Sec.small, Sky.small]
def Wv : List AV → Option (Prop × AV)
  | [.agg [.str s_nm, .sl 1 6 s_bl]] => some ((((s_bl.map Kc).map Blk.row = s_bl)) ∧ (Sec.small (Sec.mk s_nm (s_bl.map Kc))), .agg (Sec.row 0 (Sec.mk s_nm (s_bl.map Kc))))
  | _ => none
theorem Qkb : ∀ args p v, Wv args = some (p, v) → p → Contract P 46 args [] v [] ∧ noref v = true ∧ No99 v := by
  intro args p v h1 h2
  unfold Wv at h1
  split at h1
  · rename_i s_nm s_bl
    cases h1
    obtain ⟨e0, HP⟩ := h2
    have := Qka (Sec.mk s_nm (s_bl.map Kc)) HP
    exact ⟨by simpa only [e0, Sec.row] using this, rfl, by simp [Sec.row, No99, JR, J3, Xe, Jv, KE, KF, JK, JT, KG, J4, -List.map_map]⟩
  · cases h1
theorem Qgq {lst : List Sec} {idx : Nat} {vnm : ByteArray} {vbl : List Blk} : (lst.map (Sec.row 0)).set idx (Jc ((lst.map (Sec.row 0)).getD idx []) 0 [.str vnm, .sl 0 6 (vbl.map Blk.row)]) = (lst.set idx (Sec.mk vnm vbl)).map (Sec.row 0) :=
  XS (α := Sec) (f := (Sec.row 0)) (fun s => (Sec.mk vnm vbl)) fun x => by simp [Sec.row, Jc]
def Un (a : List Sec) (i : Nat) : List Sec := a.take i ++ List.replicate (a.length - i) ⟨⟨#[]⟩, []⟩
theorem Qgr {a : List Sec} {i : Nat} (h : i < a.length) : (Un a i).set i (a.getD i default) = Un a (i + 1) := by
  refine List.ext_getElem (by simp [Un]; omega) fun j h1 h2 => ?_
  by_cases e : j = i
  · subst e
    simp [Un, List.getElem_append, h]
    intro h9; omega
  · simp only [List.getElem_set_ne (Ne.symm e)]
    simp only [Un, List.getElem_append, List.length_take, List.getElem_take, List.getElem_replicate]
    split <;> split <;> first | rfl | omega
theorem Qir (t : Nat) (a : List Sec) (ha : a.length ≤ 1048576) (hs : ∀ x ∈ a, x.small) : Contract P 23 [.sl t 2 (a.map (Sec.row 1))] [] (.sl 0 2 (a.map (Sec.row 0))) [] := by
  refine Qs ((Env.nil P).add 46 Wv Qkb) hm Zm (Nat.le_of_ble_eq_true rfl) rfl ?_; unfold YC; simp (config := { maxSteps := 2000000 }) only [bitvec_to_nat, reduceIte, Nat.reduceEqDiff, Nat.reduceAdd, Nat.reduceLeDiff, reduceCtorEq, Nat.reduceBEq, Nat.reduceLT, Nat.reduceMod, List.forall_mem_cons, Wv, Qh, Qj, Qa, QN, Qg, List.take_length, List.length_cons, List.length_nil, Nat.zero_add, QF, QS, QQ, QU, Pt.row, Qi, Aw.row, Qm, Blk.row, Qb, Sec.row, Qc, Rw.row, Qn, Sky.row, Qd, Qu, QA, Qk, Ql, QB, Q5, Qgq, Nat.sub_zero]
  have m0 : List.replicate a.length [.str ⟨#[]⟩, .sl 0 6 []] = (Un a 0).map (Sec.row 0) := by simp [Un, Sec.row]
  refine ⟨by omega, ?_⟩
  refine QP (fun i : Nat => [(4, .int .i64 i)]) (fun i => [(107, .arr 88 0 2 ((Un a i).map (Sec.row 0)))]) (fun i => i ≤ a.length) (fun i => a.length - i) 0 (by simp only [Jz, JA, JB, JC, Qw, Qx, Qy, Qz, reduceIte, Nat.reduceEqDiff]; exact ⟨by repeat' (first | exact trivial | refine ⟨.inr rfl, ?_⟩), ⟨congrArg (fun g => some (AObj.arr 88 0 2 g)) m0, trivial⟩, rfl, rfl⟩) (Nat.zero_le _) ?_
  intro i hi NX hN
  have hs2 : i < a.length → (a.getD i default).small := fun h => hs _ (Jl h)
  unfold KR; simp (config := { maxSteps := 2000000 }) only [bitvec_to_nat, reduceIte, Nat.reduceEqDiff, Nat.reduceAdd, Nat.reduceLeDiff, reduceCtorEq, Nat.reduceBEq, Nat.reduceLT, Nat.reduceMod, List.forall_mem_cons, Wv, Qh, Qj, Qa, QN, Qg, List.take_length, List.length_cons, List.length_nil, Nat.zero_add, QF, QS, QQ, QU, Pt.row, Qi, Aw.row, Qm, Blk.row, Qb, Sec.row, Qc, Rw.row, Qn, Sky.row, Qd, Qu, QA, Qk, Ql, QB, Q5, Qgq, Nat.sub_zero]
  refine ⟨fun h => ?_, fun h => ?_⟩
  · repeat' (first | with_reducible apply And.intro | with_reducible intro _)
    all_goals first
      | omega
      | rfl
      | exact hs2 (by omega)
      | (have e := Qgr (a := a) (i := i) (by omega)
         try simp only [Sec.row] at *
         refine hN (i + 1) _ ⟨by repeat' (first | exact trivial | refine ⟨.inr rfl, ?_⟩), ⟨congrArg (fun g => some (AObj.arr 88 0 2 (List.map (Sec.row 0) g))) e, trivial⟩, rfl, rfl⟩ ?_ ?_ <;> omega)
  · have e : i = a.length := by omega
    subst e
    simp only [Un, List.take_length, Nat.sub_self, List.replicate_zero, List.append_nil]
    try rw [List.take_of_length_le (by simp)]
def VB : List AV → Option (Prop × AV)
  | [.sl st 2 sx] => some ((((sx.map Qv).map (Sec.row 1) = sx)) ∧ ((sx.map Qv).length ≤ 1048576 ∧ ∀ x ∈ (sx.map Qv), x.small), .sl 0 2 ((sx.map Qv).map (Sec.row 0)))
  | _ => none
theorem Qis : ∀ args p v, VB args = some (p, v) → p → Contract P 23 args [] v [] ∧ noref v = true ∧ No99 v := by
  intro args p v h1 h2
  unfold VB at h1
  split at h1
  · rename_i st sx
    cases h1
    obtain ⟨e0, HP⟩ := h2
    have := Qir st (sx.map Qv) HP.1 HP.2
    exact ⟨by simpa only [e0] using this, rfl, by simp [No99, JR, J3, Xe, Jv, KE, KF, JK, JT, KG, J4, -List.map_map]⟩
  · cases h1
theorem Qkc (c d : Sec) (hl : c.bl.length ≤ 4611686018427387904) : Contract P 63 [.agg (c.row 0), .agg (d.row 0)] [] (.bool (decide (c = d))) [] := by
  obtain ⟨c_nm, c_bl⟩ := c
  obtain ⟨d_nm, d_bl⟩ := d
  simp only [Sec.row]
  refine Qs ((Env.nil P).add 81 VA Qio) hm Z3 (Nat.le_of_ble_eq_true rfl) rfl ?_; unfold Y5; simp (config := { maxSteps := 2000000 }) only [bitvec_to_nat, reduceIte, Nat.reduceEqDiff, Nat.reduceAdd, Nat.reduceLeDiff, reduceCtorEq, Nat.reduceBEq, Nat.reduceLT, Nat.reduceMod, List.forall_mem_cons, VA, Qh, Qj, Qa, QN, Qg, List.take_length, List.length_cons, List.length_nil, Nat.zero_add, QF, QS, QQ, QU, Pt.row, Qi, Aw.row, Qm, Blk.row, Qb, Sec.row, Qc, Rw.row, Qn, Sky.row, Qd, Qu, QA, Qk, Ql, QB, Q5]
  simp only [Sec.mk.injEq]
  repeat' (first | with_reducible apply And.intro | with_reducible intro _)
  all_goals first | omega | (simp_all; done) | grind | grind [Aw.small, Sec.small, Sky.small]
def Ww : List AV → Option (Prop × AV)
  | [.agg [.str c_nm, .sl 0 6 c_bl], .agg [.str d_nm, .sl 0 6 d_bl]] => some ((((c_bl.map Kc).map Blk.row = c_bl) ∧ ((d_bl.map Kc).map Blk.row = d_bl)) ∧ ((Sec.mk c_nm (c_bl.map Kc)).bl.length ≤ 4611686018427387904), .bool (decide ((Sec.mk c_nm (c_bl.map Kc)) = (Sec.mk d_nm (d_bl.map Kc)))))
  | _ => none
theorem Qkd : ∀ args p v, Ww args = some (p, v) → p → Contract P 63 args [] v [] ∧ noref v = true ∧ No99 v := by
  intro args p v h1 h2
  unfold Ww at h1
  split at h1
  · rename_i c_nm c_bl d_nm d_bl
    cases h1
    obtain ⟨⟨e0, e1⟩, HP⟩ := h2
    have := Qkc (Sec.mk c_nm (c_bl.map Kc)) (Sec.mk d_nm (d_bl.map Kc)) HP
    exact ⟨by simpa only [e0, e1, Sec.row, Sec.row] using this, rfl, trivial⟩
  · cases h1
theorem Qit (t t' : Nat) (p q : List Sec) (hp : p.length ≤ 4611686018427387904) (hx : ∀ x ∈ p, x.bl.length ≤ 4611686018427387904) : Contract P 30 [.sl t 2 (p.map (Sec.row 0)), .sl t' 2 (q.map (Sec.row 0))] [] (.bool (decide (p = q))) [] := by
  refine Qs ((Env.nil P).add 63 Ww Qkd) hm Zp (Nat.le_of_ble_eq_true rfl) rfl ?_; unfold YF; simp (config := { maxSteps := 2000000 }) only [bitvec_to_nat, reduceIte, Nat.reduceEqDiff, Nat.reduceAdd, Nat.reduceLeDiff, reduceCtorEq, Nat.reduceBEq, Nat.reduceLT, Nat.reduceMod, List.forall_mem_cons, Ww, Qh, Qj, Qa, QN, Qg, List.take_length, List.length_cons, List.length_nil, Nat.zero_add, QF, QS, QQ, QU, Pt.row, Qi, Aw.row, Qm, Blk.row, Qb, Sec.row, Qc, Rw.row, Qn, Sky.row, Qd, Qu, QA, Qk, Ql, QB, Q5]
  refine ⟨fun h1 h => h1 (by rw [h]), fun h1 => ?_⟩
  refine QP (fun i : Nat => [(5, .int .i64 i)]) (fun _ => []) (fun i => i ≤ p.length ∧ ∀ j, j < i → p.getD j default = q.getD j default) (fun i => p.length - i) (0) (by simp only [Jz, JA, JB, JC, Qw, Qx, Qy, Qz, reduceIte, Nat.reduceEqDiff]; exact ⟨by repeat' (first | exact trivial | refine ⟨.inr rfl, ?_⟩), by repeat' (first | exact trivial | refine ⟨rfl, ?_⟩), by first | rfl | simp [closedB, Qr, Qp, Qt, dom, Qf, *], by first | rfl | simp [keepB, dom]⟩) ?_ ?_
  · exact ⟨Nat.zero_le _, by intro j hj; omega⟩
  intro i hi NX hN
  unfold KU; simp (config := { maxSteps := 2000000 }) only [bitvec_to_nat, reduceIte, Nat.reduceEqDiff, Nat.reduceAdd, Nat.reduceLeDiff, reduceCtorEq, Nat.reduceBEq, Nat.reduceLT, Nat.reduceMod, List.forall_mem_cons, Ww, Qh, Qj, Qa, QN, Qg, List.take_length, List.length_cons, List.length_nil, Nat.zero_add, QF, QS, QQ, QU, Pt.row, Qi, Aw.row, Qm, Blk.row, Qb, Sec.row, Qc, Rw.row, Qn, Sky.row, Qd, Qu, QA, Qk, Ql, QB, Q5]
  have hx2 : i < p.length → _ := fun h => hx _ (Jl h)
  repeat' (first | with_reducible apply And.intro | with_reducible intro _)
  all_goals first
    | omega
    | (refine hN (i + 1) _ (by simp only [Jz, JA, JB, JC, Qw, Qx, Qy, Qz, reduceIte, Nat.reduceEqDiff]; exact ⟨by repeat' (first | exact trivial | refine ⟨.inr rfl, ?_⟩), by repeat' (first | exact trivial | refine ⟨rfl, ?_⟩), by first | rfl | simp [closedB, Qr, Qp, Qt, dom, Qf, *], by first | rfl | simp [keepB, dom]⟩) ?_ ?_
       · exact ⟨by omega, Ja hi.2 (by with_reducible assumption)⟩
       · omega)
    | (intro h; subst h; exact absurd rfl (by with_reducible assumption))
    | (exact WZ (by omega) fun j hj => hi.2 j (by omega))
    | grind
def VC : List AV → Option (Prop × AV)
  | [.sl ct 2 cx, .sl dt 2 dx] => some ((((cx.map Qv).map (Sec.row 0) = cx) ∧ ((dx.map Qv).map (Sec.row 0) = dx)) ∧ ((cx.map Qv).length ≤ 4611686018427387904 ∧ ∀ x ∈ (cx.map Qv), x.bl.length ≤ 4611686018427387904), .bool (decide ((cx.map Qv) = (dx.map Qv))))
  | _ => none
theorem Qiu : ∀ args p v, VC args = some (p, v) → p → Contract P 30 args [] v [] ∧ noref v = true ∧ No99 v := by
  intro args p v h1 h2
  unfold VC at h1
  split at h1
  · rename_i ct cx dt dx
    cases h1
    obtain ⟨⟨e0, e1⟩, HP⟩ := h2
    have := Qit ct dt (cx.map Qv) (dx.map Qv) HP.1 HP.2
    exact ⟨by simpa only [e0, e1] using this, rfl, trivial⟩
  · cases h1
theorem Qke (s : Sky) (hs : s.small) : Contract P 7 [.agg (s.row 1)] [] (.agg (s.row 0)) [] := by
  unfold Sky.small at hs
  simp only [Sky.row]
  refine Qs (((((Env.nil P).add 22 Qbk Qj7).add 21 Qbe QjV).add 24 Qbh Qj3).add 23 VB Qis) hm Qce (Nat.le_of_ble_eq_true rfl) rfl ?_; unfold US; simp (config := { maxSteps := 2000000 }) only [bitvec_to_nat, reduceIte, Nat.reduceEqDiff, Nat.reduceAdd, Nat.reduceLeDiff, reduceCtorEq, Nat.reduceBEq, Nat.reduceLT, Nat.reduceMod, List.forall_mem_cons, Qbk, Qbe, Qbh, VB, Qh, Qj, Qa, QN, Qg, List.take_length, List.length_cons, List.length_nil, Nat.zero_add, QF, QS, QQ, QU, Pt.row, Qi, Aw.row, Qm, Blk.row, Qb, Sec.row, Qc, Rw.row, Qn, Sky.row, Qd, Qu, QA, Qk, Ql, QB, Q5]
  repeat' (first | with_reducible apply And.intro | with_reducible intro _)
  all_goals first | omega | grind | grind [Aw.small, Sec.small, Sky.small]
def Qbm : List AV → Option (Prop × AV)
  | [.agg [.int .i64 s_w, .int .i64 s_h, .int .i64 s_lv, .sl 1 3 s_pts, .sl 1 2 s_aws, .sl 1 2 s_secs, .sl 1 4 s_rws]] => some ((((s_pts.map QO).map Pt.row = s_pts) ∧ ((s_aws.map QR).map (Aw.row 1) = s_aws) ∧ ((s_secs.map Qv).map (Sec.row 1) = s_secs) ∧ ((s_rws.map QT).map Rw.row = s_rws)) ∧ (Sky.small (Sky.mk s_w s_h s_lv (s_pts.map QO) (s_aws.map QR) (s_secs.map Qv) (s_rws.map QT))), .agg (Sky.row 0 (Sky.mk s_w s_h s_lv (s_pts.map QO) (s_aws.map QR) (s_secs.map Qv) (s_rws.map QT))))
  | _ => none
theorem Qkf : ∀ args p v, Qbm args = some (p, v) → p → Contract P 7 args [] v [] ∧ noref v = true ∧ No99 v := by
  intro args p v h1 h2
  unfold Qbm at h1
  split at h1
  · rename_i s_w s_h s_lv s_pts s_aws s_secs s_rws
    cases h1
    obtain ⟨⟨e0, e1, e2, e3⟩, HP⟩ := h2
    have := Qke (Sky.mk s_w s_h s_lv (s_pts.map QO) (s_aws.map QR) (s_secs.map Qv) (s_rws.map QT)) HP
    exact ⟨by simpa only [e0, e1, e2, e3, Sky.row] using this, rfl, by simp [Sky.row, No99, JR, J3, Xe, Jv, KE, KF, JK, JT, KG, J4, -List.map_map]⟩
  · cases h1
theorem Qkg (c d : Sky) (hl : c.pts.length ≤ 4611686018427387904 ∧ c.aws.length ≤ 4611686018427387904 ∧ c.secs.length ≤ 4611686018427387904 ∧ c.rws.length ≤ 4611686018427387904 ∧ (∀ x ∈ c.aws, x.small) ∧ (∀ x ∈ c.secs, x.small)) : Contract P 9 [.agg (c.row 0), .agg (d.row 0)] [] (.bool (decide (c = d))) [] := by
  obtain ⟨c_w, c_h, c_lv, c_pts, c_aws, c_secs, c_rws⟩ := c
  obtain ⟨d_w, d_h, d_lv, d_pts, d_aws, d_secs, d_rws⟩ := d
  simp only [Sky.row]
  refine Qs (((((Env.nil P).add 29 Qbl Qj9).add 28 Qbf QjX).add 31 Qbi Qj5).add 30 VC Qiu) hm Qcf (Nat.le_of_ble_eq_true rfl) rfl ?_; unfold UT; simp (config := { maxSteps := 2000000 }) only [bitvec_to_nat, reduceIte, Nat.reduceEqDiff, Nat.reduceAdd, Nat.reduceLeDiff, reduceCtorEq, Nat.reduceBEq, Nat.reduceLT, Nat.reduceMod, List.forall_mem_cons, Qbl, Qbf, Qbi, VC, Qh, Qj, Qa, QN, Qg, List.take_length, List.length_cons, List.length_nil, Nat.zero_add, QF, QS, QQ, QU, Pt.row, Qi, Aw.row, Qm, Blk.row, Qb, Sec.row, Qc, Rw.row, Qn, Sky.row, Qd, Qu, QA, Qk, Ql, QB, Q5]
  simp only [Sky.mk.injEq]
  repeat' (first | with_reducible apply And.intro | with_reducible intro _)
  all_goals first | omega | (simp_all; done) | grind | grind [Aw.small, Sec.small, Sky.small]
def Qbn : List AV → Option (Prop × AV)
  | [.agg [.int .i64 c_w, .int .i64 c_h, .int .i64 c_lv, .sl 0 3 c_pts, .sl 0 2 c_aws, .sl 0 2 c_secs, .sl 0 4 c_rws], .agg [.int .i64 d_w, .int .i64 d_h, .int .i64 d_lv, .sl 0 3 d_pts, .sl 0 2 d_aws, .sl 0 2 d_secs, .sl 0 4 d_rws]] => some ((((c_pts.map QO).map Pt.row = c_pts) ∧ ((c_aws.map QR).map (Aw.row 0) = c_aws) ∧ ((c_secs.map Qv).map (Sec.row 0) = c_secs) ∧ ((c_rws.map QT).map Rw.row = c_rws) ∧ ((d_pts.map QO).map Pt.row = d_pts) ∧ ((d_aws.map QR).map (Aw.row 0) = d_aws) ∧ ((d_secs.map Qv).map (Sec.row 0) = d_secs) ∧ ((d_rws.map QT).map Rw.row = d_rws)) ∧ ((Sky.mk c_w c_h c_lv (c_pts.map QO) (c_aws.map QR) (c_secs.map Qv) (c_rws.map QT)).pts.length ≤ 4611686018427387904 ∧ (Sky.mk c_w c_h c_lv (c_pts.map QO) (c_aws.map QR) (c_secs.map Qv) (c_rws.map QT)).aws.length ≤ 4611686018427387904 ∧ (Sky.mk c_w c_h c_lv (c_pts.map QO) (c_aws.map QR) (c_secs.map Qv) (c_rws.map QT)).secs.length ≤ 4611686018427387904 ∧ (Sky.mk c_w c_h c_lv (c_pts.map QO) (c_aws.map QR) (c_secs.map Qv) (c_rws.map QT)).rws.length ≤ 4611686018427387904 ∧ (∀ x ∈ (Sky.mk c_w c_h c_lv (c_pts.map QO) (c_aws.map QR) (c_secs.map Qv) (c_rws.map QT)).aws, x.small) ∧ (∀ x ∈ (Sky.mk c_w c_h c_lv (c_pts.map QO) (c_aws.map QR) (c_secs.map Qv) (c_rws.map QT)).secs, x.small)), .bool (decide ((Sky.mk c_w c_h c_lv (c_pts.map QO) (c_aws.map QR) (c_secs.map Qv) (c_rws.map QT)) = (Sky.mk d_w d_h d_lv (d_pts.map QO) (d_aws.map QR) (d_secs.map Qv) (d_rws.map QT)))))
  | _ => none
theorem Qkh : ∀ args p v, Qbn args = some (p, v) → p → Contract P 9 args [] v [] ∧ noref v = true ∧ No99 v := by
  intro args p v h1 h2
  unfold Qbn at h1
  split at h1
  · rename_i c_w c_h c_lv c_pts c_aws c_secs c_rws d_w d_h d_lv d_pts d_aws d_secs d_rws
    cases h1
    obtain ⟨⟨e0, e1, e2, e3, e4, e5, e6, e7⟩, HP⟩ := h2
    have := Qkg (Sky.mk c_w c_h c_lv (c_pts.map QO) (c_aws.map QR) (c_secs.map Qv) (c_rws.map QT)) (Sky.mk d_w d_h d_lv (d_pts.map QO) (d_aws.map QR) (d_secs.map Qv) (d_rws.map QT)) HP
    exact ⟨by simpa only [e0, e1, e2, e3, e4, e5, e6, e7, Sky.row, Sky.row] using this, rfl, trivial⟩
  · cases h1
end
end Go.Ve

namespace Go.Ve
noncomputable section
open Go.Proofs
set_option linter.unusedSimpArgs false
set_option linter.unusedVariables false
set_option maxRecDepth 100000
open Go.ChangeShapes Go.WideShapes
theorem QeE {α : Type} {f : α → List AV} {rs : List LSh} (h : ∀ r, JE rs r → ∃ x : α, r = f x) : ∀ {rows : List (List AV)}, (∀ r ∈ rows, JE rs r) → ∃ l : List α, rows = l.map f
  | [], _ => ⟨[], rfl⟩
  | r :: rows, k => by
    obtain ⟨x, rfl⟩ := h r (k r (by simp))
    obtain ⟨l, rfl⟩ := QeE h (rows := rows) fun r' h' => k r' (by simp [h'])
    exact ⟨x :: l, rfl⟩
def XO : List LSh := [.str]
theorem Qbo (r : List AV) (h : JE XO r) : ∃ x : ByteArray, r = QF x ∧ x.toList.length ≤ 9223372036854775807 := by
  simp only [XO, JE, Qbv] at h
  obtain ⟨_, _, rfl, ⟨n, rfl, h⟩, rfl⟩ := h
  exact ⟨n, rfl, by rw [← Js]; unfold maxLen at h; omega⟩
def Qki : List LSh := [.str, .int .i64, .int .i64]
theorem Qlt (r : List AV) (h : JE Qki r) : ∃ x : Pt, r = Pt.row x ∧ x.fitp := by
  simp only [Qki, JE, Qbv] at h
  obtain ⟨_, _, rfl, ⟨nm, rfl, h_nm⟩, _, _, rfl, ⟨x, rfl, _⟩, _, _, rfl, ⟨y, rfl, _⟩, rfl⟩ := h

  exact ⟨⟨nm, x, y⟩, rfl, (by have e := Js nm; unfold maxLen at h_nm; show nm.toList.length ≤ _; omega)⟩
def Qgs : List LSh := [.int .i64, .int .i64, .int .i64, .int .i64, .int .i64, .int .i64]
theorem Qkj (r : List AV) (h : JE Qgs r) : ∃ x : Blk, r = Blk.row x := by
  simp only [Qgs, JE, Qbv] at h
  obtain ⟨_, _, rfl, ⟨x0, rfl, _⟩, _, _, rfl, ⟨y0, rfl, _⟩, _, _, rfl, ⟨x1, rfl, _⟩, _, _, rfl, ⟨y1, rfl, _⟩, _, _, rfl, ⟨lo, rfl, _⟩, _, _, rfl, ⟨hi, rfl, _⟩, rfl⟩ := h

  exact ⟨⟨x0, y0, x1, y1, lo, hi⟩, rfl⟩
def Qkk : List LSh := [.str, .int .i64, .int .i64, .int .i64]
theorem Qlu (r : List AV) (h : JE Qkk r) : ∃ x : Rw, r = Rw.row x ∧ x.fitp := by
  simp only [Qkk, JE, Qbv] at h
  obtain ⟨_, _, rfl, ⟨nm, rfl, h_nm⟩, _, _, rfl, ⟨x, rfl, _⟩, _, _, rfl, ⟨y, rfl, _⟩, _, _, rfl, ⟨tn, rfl, _⟩, rfl⟩ := h

  exact ⟨⟨nm, x, y, tn⟩, rfl, (by have e := Js nm; unfold maxLen at h_nm; show nm.toList.length ≤ _; omega)⟩
def Qkl : List LSh := [.str, .sl XO]
theorem Qlv (r : List AV) (h : JE Qkl r) : ∃ x : Aw, r = (Aw.row 1) x ∧ x.fitp := by
  simp only [Qkl, JE, Qbv] at h
  obtain ⟨_, _, rfl, ⟨nm, rfl, h_nm⟩, _, _, rfl, ⟨pts, rfl, h_pts, r_pts⟩, rfl⟩ := h
  obtain ⟨pts, rfl, p_pts⟩ := GS Qbo r_pts
  rw [List.length_map] at h_pts
  exact ⟨⟨nm, pts⟩, rfl, ⟨(by have e := Js nm; unfold maxLen at h_nm; show nm.toList.length ≤ _; omega), ⟨(by unfold maxLen at h_pts; omega), p_pts⟩⟩⟩
def Qgt : List LSh := [.str, .sl Qgs]
theorem Qkm (r : List AV) (h : JE Qgt r) : ∃ x : Sec, r = (Sec.row 1) x ∧ x.fitp := by
  simp only [Qgt, JE, Qbv] at h
  obtain ⟨_, _, rfl, ⟨nm, rfl, h_nm⟩, _, _, rfl, ⟨bl, rfl, h_bl, r_bl⟩, rfl⟩ := h
  obtain ⟨bl, rfl⟩ := QeE Qkj r_bl
  rw [List.length_map] at h_bl
  exact ⟨⟨nm, bl⟩, rfl, ⟨(by have e := Js nm; unfold maxLen at h_nm; show nm.toList.length ≤ _; omega), (by unfold maxLen at h_bl; omega)⟩⟩
def QeF : List LSh := [.int .i64, .int .i64, .int .i64, .sl Qki, .sl Qkl, .sl Qgt, .sl Qkk]
theorem Qkn (r : List AV) (h : JE QeF r) : ∃ x : Sky, r = (Sky.row 1) x ∧ x.fitp := by
  simp only [QeF, JE, Qbv] at h
  obtain ⟨_, _, rfl, ⟨w, rfl, _⟩, _, _, rfl, ⟨h, rfl, _⟩, _, _, rfl, ⟨lv, rfl, _⟩, _, _, rfl, ⟨pts, rfl, h_pts, r_pts⟩, _, _, rfl, ⟨aws, rfl, h_aws, r_aws⟩, _, _, rfl, ⟨secs, rfl, h_secs, r_secs⟩, _, _, rfl, ⟨rws, rfl, h_rws, r_rws⟩, rfl⟩ := h
  obtain ⟨pts, rfl, p_pts⟩ := GS Qlt r_pts
  rw [List.length_map] at h_pts
  obtain ⟨aws, rfl, p_aws⟩ := GS Qlv r_aws
  rw [List.length_map] at h_aws
  obtain ⟨secs, rfl, p_secs⟩ := GS Qkm r_secs
  rw [List.length_map] at h_secs
  obtain ⟨rws, rfl, p_rws⟩ := GS Qlu r_rws
  rw [List.length_map] at h_rws
  exact ⟨⟨w, h, lv, pts, aws, secs, rws⟩, rfl, ⟨⟨(by unfold maxLen at h_pts; omega), p_pts⟩, ⟨(by unfold maxLen at h_aws; omega), p_aws⟩, ⟨(by unfold maxLen at h_secs; omega), p_secs⟩, ⟨(by unfold maxLen at h_rws; omega), p_rws⟩⟩⟩
end
end Go.Ve

namespace Go.Ve
noncomputable section
open Go.Proofs
set_option linter.unusedSimpArgs false
set_option linter.unusedVariables false
set_option maxRecDepth 100000
structure Cell where
  x : Int
  y : Int
  deriving Inhabited, DecidableEq
def Cell.row (s : Cell) : List AV := [.int .i64 s.x, .int .i64 s.y]
theorem Qko {n : Int} (h : -9223372036854775808 ≤ n ∧ n ≤ 9223372036854775807) : IntKind.i64.wrap n = n := by rw [IntKind.wrap_i64]; omega
def Qi1 (a : Int) : Int := if a < 0 then -a else a
theorem Qkp (a : Int) (ha : -1000000 ≤ a ∧ a ≤ 1000000) : Contract P 92 [.int .i64 a] [] (.int .i64 (Qi1 a)) [] := by
  refine Qs (Env.nil P) hm Qci (Nat.le_of_ble_eq_true rfl) rfl ?_; unfold UX; simp (config := { maxSteps := 2000000 }) only [bitvec_to_nat, reduceIte, Nat.reduceEqDiff, Nat.reduceAdd, Nat.reduceLeDiff, reduceCtorEq, Nat.reduceBEq, Nat.reduceLT, Nat.reduceMod, List.forall_mem_cons]
  rw [Qko (by omega)]
  unfold Qi1
  exact ⟨fun h => by rw [if_pos h]; omega, fun h => by rw [if_neg h]⟩
def Qbp : List AV → Option (Prop × AV)
  | [.int .i64 a] => some ((-1000000 ≤ a ∧ a ≤ 1000000), .int .i64 (Qi1 a))
  | _ => none
theorem Qkq : ∀ args p v, Qbp args = some (p, v) → p → Contract P 92 args [] v [] ∧ noref v = true ∧ No99 v := by
  intro args p v h1 h2
  unfold Qbp at h1
  split at h1
  · rename_i a
    cases h1
    exact ⟨Qkp a h2, rfl, trivial⟩
  · cases h1
def WK (a b : Cell) : Int := max (Qi1 (a.x - b.x)) (Qi1 (a.y - b.y))
def Cell.inn (a : Cell) : Prop := (0 ≤ a.x ∧ a.x ≤ 15) ∧ (0 ≤ a.y ∧ a.y ≤ 15)
instance (a : Cell) : Decidable a.inn := by unfold Cell.inn; infer_instance
theorem Qgu (a b : Cell) (ha : a.inn) (hb : b.inn) : Contract P 76 [.agg a.row, .agg b.row] [] (.int .i64 (WK a b)) [] := by
  unfold Cell.inn at ha hb
  refine Qs ((Env.nil P).add 92 Qbp Qkq) hm WG (Nat.le_of_ble_eq_true rfl) rfl ?_; unfold X5; simp (config := { maxSteps := 2000000 }) only [bitvec_to_nat, reduceIte, Nat.reduceEqDiff, Nat.reduceAdd, Nat.reduceLeDiff, reduceCtorEq, Nat.reduceBEq, Nat.reduceLT, Nat.reduceMod, List.forall_mem_cons, Qbp, Cell.row]
  unfold WK
  exact ⟨by omega, by omega, by omega, by omega, fun h => by omega, fun h => by omega⟩
def Uo : List AV → Option (Prop × AV)
  | [.agg [.int .i64 a_x, .int .i64 a_y], .agg [.int .i64 b_x, .int .i64 b_y]] => some ((True) ∧ (Cell.inn (Cell.mk a_x a_y) ∧ Cell.inn (Cell.mk b_x b_y)), .int .i64 (WK (Cell.mk a_x a_y) (Cell.mk b_x b_y)))
  | _ => none
theorem Qgv : ∀ args p v, Uo args = some (p, v) → p → Contract P 76 args [] v [] ∧ noref v = true ∧ No99 v := by
  intro args p v h1 h2
  unfold Uo at h1
  split at h1
  · rename_i a_x a_y b_x b_y
    cases h1
    obtain ⟨_, HP⟩ := h2
    have := Qgu (Cell.mk a_x a_y) (Cell.mk b_x b_y) HP.1 HP.2
    exact ⟨by simpa only [Cell.row, Cell.row] using this, rfl, trivial⟩
  · cases h1
theorem WL (g : FuncId) (hg : Uy P g = true) (ls : List AV) (hls : Q0 ls = true) (p : Pt → Bool) (t : Nat) (zs : List Pt) (hl : zs.length ≤ 4611686018427387904)
    (hC : ∀ z, Contract P g (.agg (Pt.row z) :: [.ptr 3 0]) [(3, .box ls)] (.bool (p z)) [(3, .box ls)]) : Contract P 56 [.sl t 3 (zs.map Pt.row), .fn g [] [.ptr 3 0]] [(3, .box ls)] (.int .i64 (Qfa p zs)) [(3, .box ls)] := by
  refine Qs (Env.nil P) hm YH (Nat.le_of_ble_eq_true rfl) rfl ?_; unfold JP; simp (config := { maxSteps := 2000000 }) only [bitvec_to_nat, reduceIte, Nat.reduceEqDiff, Nat.reduceAdd, Nat.reduceLeDiff, reduceCtorEq, Nat.reduceBEq, Nat.reduceLT, Nat.reduceMod, List.forall_mem_cons, Q4, Jd, Q3, JG, keepB, Je, Kb, Xr]
  refine QP (fun i : Nat => [(8, .int .i64 i)]) (fun _ => []) (fun i => i ≤ zs.length ∧ ∀ j, j < i → p (zs.getD j default) = false) (fun i => zs.length - i) (0) (by simp only [Jz, JA, JB, JC, Qw, Qx, Qy, Qz, reduceIte, Nat.reduceEqDiff]; exact ⟨by repeat' (first | exact trivial | refine ⟨.inr rfl, ?_⟩), by repeat' (first | exact trivial | refine ⟨rfl, ?_⟩), by first | rfl | simp [closedB, Qr, Qp, Qt, dom, Qf, *], by first | rfl | simp [keepB, dom]⟩) ?_ ?_
  · exact ⟨Nat.zero_le _, by intro j hj; omega⟩
  intro i hi NX hN
  unfold JH; simp (config := { maxSteps := 2000000 }) only [bitvec_to_nat, reduceIte, Nat.reduceEqDiff, Nat.reduceAdd, Nat.reduceLeDiff, reduceCtorEq, Nat.reduceBEq, Nat.reduceLT, Nat.reduceMod, List.forall_mem_cons, Q4, Jd, Q3, JG, keepB, Je, Kb, Xr, Qk6, QjA]
  refine ⟨fun h1 => ⟨by omega, by omega, hg, _, _, .inl ⟨[(3, .box ls)], hC (zs.getD i default), ?_, ?_, ?_, ?_, ?_, rfl, ?_⟩, ?_⟩, fun h1 => ?_⟩
  · simp [getM]
  · intro q hq; left; revert q; simp [dom]
  · simp [dom]
  · simp [Qp, Qr, dom, Qf, Qmj]
  · simp [Qt, Qf, *]
  · simp [Qt, Qf, *]
  · simp (config := { maxSteps := 2000000 }) only [bitvec_to_nat, reduceIte, Nat.reduceEqDiff, Nat.reduceAdd, Nat.reduceLeDiff, reduceCtorEq, Nat.reduceBEq, Nat.reduceLT, Nat.reduceMod, List.forall_mem_cons, Q4, Jd, Q3, JG, keepB, Je, Kb, Xr]
    refine ⟨fun h2 => ?_, fun h2 => ?_⟩
    · simp (config := { maxSteps := 2000000 }) only [bitvec_to_nat, reduceIte, Nat.reduceEqDiff, Nat.reduceAdd, Nat.reduceLeDiff, reduceCtorEq, Nat.reduceBEq, Nat.reduceLT, Nat.reduceMod, List.forall_mem_cons, Q4, Jd, Q3, JG, keepB, Je, Kb, Xr]
      rw [QfX (by omega) h2 hi.2]
      simp [dom, Qf, *]
    · simp (config := { maxSteps := 2000000 }) only [bitvec_to_nat, reduceIte, Nat.reduceEqDiff, Nat.reduceAdd, Nat.reduceLeDiff, reduceCtorEq, Nat.reduceBEq, Nat.reduceLT, Nat.reduceMod, List.forall_mem_cons, Q4, Jd, Q3, JG, keepB, Je, Kb, Xr]
      refine ⟨by omega, ?_⟩
      refine hN (i + 1) _ (by simp only [Jz, JA, JB, JC, Qw, Qx, Qy, Qz, reduceIte, Nat.reduceEqDiff]; exact ⟨by repeat' (first | exact trivial | refine ⟨.inr rfl, ?_⟩), by repeat' (first | exact trivial | refine ⟨rfl, ?_⟩), by first | rfl | simp [closedB, Qr, Qp, Qt, dom, Qf, *], by first | rfl | simp [keepB, dom]⟩) ?_ ?_
      · exact ⟨by omega, Ja hi.2 h2⟩
      · omega
  · rw [Qb0 fun j hj => hi.2 j (by omega)]
    simp [dom, Qf, *]
theorem Qiv (z : Pt) (s : ByteArray) : Contract P 57 [.agg z.row, .ptr 3 0] [(3, .box [.str s])] (.bool (decide (z.nm = s))) [(3, .box [.str s])] := by
  simp only [Pt.row]
  refine Qs (Env.nil P) hm Z1 (Nat.le_of_ble_eq_true rfl) rfl ?_; unfold Y3; simp (config := { maxSteps := 2000000 }) only [bitvec_to_nat, reduceIte, Nat.reduceEqDiff, Nat.reduceAdd, Nat.reduceLeDiff, reduceCtorEq, Nat.reduceBEq, Nat.reduceLT, Nat.reduceMod, List.forall_mem_cons, Q4, Jd, Q3, JG, keepB, Je, Kb, Qi]
  all_goals simp [dom]
def VD : RTab
  | [.sl zt 3 zx, .fn 57 [] [.ptr ob off]], M => match M ob with
    | some (.box [.str s]) => some ⟨off = 0 ∧ (zx.map QO).map Pt.row = zx ∧ (zx.map QO).length ≤ 4611686018427387904, fun _ : Unit => True, fun _ => .int .i64 (Qfa (fun z => decide (z.nm = s)) (zx.map QO)), fun _ => [(ob, .box [.str s])]⟩
    | _ => none
  | _, _ => none
theorem Qiw : okTab P 56 VD := by
  intro args M o h hp
  unfold VD at h
  split at h
  · rename_i zt zx ob off
    split at h
    · rename_i s hM
      cases h
      obtain ⟨rfl, e0, HP⟩ := hp
      have hC := WL 57 (by kernel_rfl) _ rfl (fun z => decide (z.nm = s)) zt (zx.map QO) HP fun z => Qiv z s
      simp only [e0, decide_eq_true_eq] at hC
      exact ⟨(), trivial, QfZ _ hC (by simp [Q0, noref]) rfl (by assumption) (by simp [U2, ren, swp]) (by simp [Qp, Qr, noref])⟩
    · cases h
  · cases h
theorem Qix (s : Sky) (nm : ByteArray) (hs : s.small) : Contract P 26 [.agg (s.row 0), .str nm] [] (.int .i64 (JD s.pts nm)) [] := by
  unfold Sky.small at hs
  refine Qs ((Env.nil P).addR 56 VD Qiw) hm U5 (Nat.le_of_ble_eq_true rfl) rfl ?_; unfold G7; simp (config := { maxSteps := 2000000 }) only [bitvec_to_nat, reduceIte, Nat.reduceEqDiff, Nat.reduceAdd, Nat.reduceLeDiff, reduceCtorEq, Nat.reduceBEq, Nat.reduceLT, Nat.reduceMod, List.forall_mem_cons, Q4, Jd, Q3, JG, keepB, Je, Kb, VD, Qu, Sky.row]
  exact ⟨by omega, fun _ => rfl⟩
theorem Gs {l : List Pt} {nm : ByteArray} (h : 0 ≤ JD l nm) : (JD l nm).toNat < l.length ∧ (l.getD (JD l nm).toNat default).nm = nm ∧ JD l nm < l.length := by
  unfold JD at *
  rcases V4 (fun p : Pt => decide (p.nm = nm)) l with ⟨h1, h2⟩ | ⟨i, h1, h2, h3, _⟩
  · omega
  · rw [h1]; exact ⟨by simpa using h2, by simpa using h3, by omega⟩
def ptC (s : Sky) (nm : ByteArray) : Cell := ⟨(s.pts.getD (JD s.pts nm).toNat default).x, (s.pts.getD (JD s.pts nm).toNat default).y⟩
theorem Zs {s : Sky} (hv : s.valid) {nm : ByteArray} (h : 0 ≤ JD s.pts nm) : (ptC s nm).inn := by
  obtain ⟨h1, _, _⟩ := Gs h
  have h2 := (hv.2.1.2 _ h1).2.2.1
  have h3 := hv.1
  unfold J0 at h2
  unfold KY at h3
  simp only [Cell.inn, ptC]
  omega
def Jo : List AV → Option (Prop × AV)
  | [.agg [.int .i64 s_w, .int .i64 s_h, .int .i64 s_lv, .sl 0 3 s_pts, .sl 0 2 s_aws, .sl 0 2 s_secs, .sl 0 4 s_rws], .str nm] => some ((((s_pts.map QO).map Pt.row = s_pts) ∧ ((s_aws.map QR).map (Aw.row 0) = s_aws) ∧ ((s_secs.map Qv).map (Sec.row 0) = s_secs) ∧ ((s_rws.map QT).map Rw.row = s_rws)) ∧ (Sky.small (Sky.mk s_w s_h s_lv (s_pts.map QO) (s_aws.map QR) (s_secs.map Qv) (s_rws.map QT))), .int .i64 (JD (Sky.pts (Sky.mk s_w s_h s_lv (s_pts.map QO) (s_aws.map QR) (s_secs.map Qv) (s_rws.map QT))) nm))
  | _ => none
theorem QeG : ∀ args p v, Jo args = some (p, v) → p → Contract P 26 args [] v [] ∧ noref v = true ∧ No99 v := by
  intro args p v h1 h2
  unfold Jo at h1
  split at h1
  · rename_i s_w s_h s_lv s_pts s_aws s_secs s_rws nm
    cases h1
    obtain ⟨⟨e0, e1, e2, e3⟩, HP⟩ := h2
    have := Qix (Sky.mk s_w s_h s_lv (s_pts.map QO) (s_aws.map QR) (s_secs.map Qv) (s_rws.map QT)) nm HP
    exact ⟨by simpa only [e0, e1, e2, e3, Sky.row] using this, rfl, trivial⟩
  · cases h1
theorem Qlw (s : Sky) (nm : ByteArray) (hs : s.small) (h : 0 ≤ JD s.pts nm) : Contract P 77 [.agg (s.row 0), .str nm] [] (.agg (ptC s nm).row) [] := by
  unfold Sky.small at hs
  obtain ⟨h1, h2, h3⟩ := Gs h
  refine Qs ((Env.nil P).add 71 Q2 GQ) hm Qde (Nat.le_of_ble_eq_true rfl) rfl ?_; unfold Wg; simp (config := { maxSteps := 2000000 }) only [bitvec_to_nat, reduceIte, Nat.reduceEqDiff, Nat.reduceAdd, Nat.reduceLeDiff, reduceCtorEq, Nat.reduceBEq, Nat.reduceLT, Nat.reduceMod, List.forall_mem_cons, Q2, Pt.row, Qi, Qu, Qh, Qj, Qa, Int.toNat_natCast, Nat.sub_zero, Nat.zero_add, List.length_map, Sky.row, Qh]
  exact ⟨by omega, h, h3, rfl, rfl⟩
def QeH : List AV → Option (Prop × AV)
  | [.agg [.int .i64 s_w, .int .i64 s_h, .int .i64 s_lv, .sl 0 3 s_pts, .sl 0 2 s_aws, .sl 0 2 s_secs, .sl 0 4 s_rws], .str nm] => some ((((s_pts.map QO).map Pt.row = s_pts) ∧ ((s_aws.map QR).map (Aw.row 0) = s_aws) ∧ ((s_secs.map Qv).map (Sec.row 0) = s_secs) ∧ ((s_rws.map QT).map Rw.row = s_rws)) ∧ (Sky.small (Sky.mk s_w s_h s_lv (s_pts.map QO) (s_aws.map QR) (s_secs.map Qv) (s_rws.map QT)) ∧ 0 ≤ JD (Sky.pts (Sky.mk s_w s_h s_lv (s_pts.map QO) (s_aws.map QR) (s_secs.map Qv) (s_rws.map QT))) nm), .agg (ptC (Sky.mk s_w s_h s_lv (s_pts.map QO) (s_aws.map QR) (s_secs.map Qv) (s_rws.map QT)) nm).row)
  | _ => none
theorem Qlx : ∀ args p v, QeH args = some (p, v) → p → Contract P 77 args [] v [] ∧ noref v = true ∧ No99 v := by
  intro args p v h1 h2
  unfold QeH at h1
  split at h1
  · rename_i s_w s_h s_lv s_pts s_aws s_secs s_rws nm
    cases h1
    obtain ⟨⟨e0, e1, e2, e3⟩, HP⟩ := h2
    have := Qlw (Sky.mk s_w s_h s_lv (s_pts.map QO) (s_aws.map QR) (s_secs.map Qv) (s_rws.map QT)) nm HP.1 HP.2
    exact ⟨by simpa only [e0, e1, e2, e3, Sky.row] using this, rfl, by simp [Cell.row, No99, JR]⟩
  · cases h1
def YN (s : Sky) (a b : Nm) : Prop := ∃ i, i < s.aws.length ∧ ∃ k, k < (s.aws.getD i default).pts.length ∧ 0 < k ∧ ((s.aws.getD i default).pts.getD (k - 1) default = a ∧ (s.aws.getD i default).pts.getD k default = b ∨ (s.aws.getD i default).pts.getD (k - 1) default = b ∧ (s.aws.getD i default).pts.getD k default = a)
noncomputable instance (s : Sky) (a b : Nm) : Decidable (YN s a b) := Classical.propDecidable _
def dS (s : Sky) (a b : Nm) : Int := WK (ptC s a) (ptC s b)
def Jj (s : Sky) : List Nm := s.pts.map (·.nm)
theorem Qiy (s : Sky) (a b : Nm) : 0 ≤ dS s a b := by unfold dS WK Qi1; omega
theorem Up {s : Sky} {a : Nm} (h : 0 ≤ JD s.pts a) : a ∈ Jj s := by
  obtain ⟨h1, h2, _⟩ := Gs h
  refine List.mem_map.2 ⟨s.pts.getD (JD s.pts a).toNat default, Jl h1, h2⟩
theorem Wx {s : Sky} {a : Nm} (h : a ∈ Jj s) : 0 ≤ JD s.pts a := by
  obtain ⟨p, hp, rfl⟩ := List.mem_map.1 h
  obtain ⟨i, hi, rfl⟩ := List.mem_iff_getElem.1 hp
  unfold JD
  rcases V4 (fun q : Pt => decide (q.nm = s.pts[i].nm)) s.pts with ⟨h1, h2⟩ | ⟨j, h1, _⟩
  · have := h2 i hi; simp [hi] at this
  · rw [h1]; omega
theorem Qgw {s : Sky} (hv : s.valid) {a b : Nm} (h : YN s a b) : 0 ≤ JD s.pts a ∧ 0 ≤ JD s.pts b := by
  obtain ⟨i, hi, k, hk, h0, h⟩ := h
  have hw := (hv.2.2.1.2 i hi).2.2.2
  have h1 := (hw k hk).1
  have h2 := (hw (k - 1) (by omega)).1
  rcases h with ⟨rfl, rfl⟩ | ⟨rfl, rfl⟩
  · exact ⟨h2, h1⟩
  · exact ⟨h1, h2⟩
theorem XP {s : Sky} (hv : s.valid) {a b : Nm} (h : YN s a b) : b ∈ Jj s := Up (Qgw hv h).2
end
end Go.Ve

namespace Go.Ve
open Go.Proofs
set_option maxRecDepth 100000
def KZ : SCode := (.seq (.seq (.rg [⟨some 36, .mv (.v 8), none, []⟩, ⟨some 37, .faddr 3 (.v 2), none, []⟩, ⟨some 38, .load1 (.v 37), none, [37]⟩, ⟨some 39, .lenL (.v 38), none, [38]⟩, ⟨some 40, .bin .lss (.v 36) (.v 39), none, [36, 39]⟩] [2, 5, 6, 7, 8, 40]) (.cond (.v 40) .skip (.exit 4))) (.seq (.block 5 (.seq (.seq (.rgd [⟨some 43, .mv (.v 5), none, []⟩, ⟨some 44, .mv (.v 8), none, []⟩, ⟨some 45, .iaddr 1 (.v 43) (.v 44), none, []⟩, ⟨some 46, .load1 (.v 45), none, []⟩, ⟨some 47, .lenL (.v 46), none, []⟩, ⟨some 48, .bin .eql (.v 47) (.c (.int .i64 0)), none, []⟩, ⟨some 49, .mv (.v 48), none, []⟩, ⟨some 50, .loadN 7 (.v 2), some (49, false), []⟩, ⟨some 51, .faddr 3 (.v 2), some (49, false), []⟩, ⟨some 52, .load1 (.v 51), some (49, false), []⟩, ⟨some 53, .mv (.v 7), some (49, false), []⟩, ⟨some 54, .iaddr 3 (.v 52) (.v 53), some (49, false), []⟩, ⟨some 55, .faddr 0 (.v 54), some (49, false), []⟩, ⟨some 56, .load1 (.v 55), some (49, false), []⟩, ⟨some 57, .faddr 3 (.v 2), some (49, false), []⟩, ⟨some 58, .load1 (.v 57), some (49, false), []⟩, ⟨some 59, .mv (.v 8), some (49, false), []⟩, ⟨some 60, .iaddr 3 (.v 58) (.v 59), some (49, false), []⟩, ⟨some 61, .faddr 0 (.v 60), some (49, false), []⟩, ⟨some 62, .load1 (.v 61), some (49, false), []⟩, ⟨some 63, .call 89 [.v 50, .v 56, .v 62], some (49, false), []⟩, ⟨some 64, .not (.v 63), some (49, false), []⟩, ⟨some 65, .pick (.v 49) (.c (.bool true)) (.v 64), none, []⟩, ⟨some 66, .mv (.v 65), none, []⟩, ⟨some 67, .mv (.v 5), some (66, false), []⟩, ⟨some 68, .mv (.v 8), some (66, false), []⟩, ⟨some 69, .iaddr 1 (.v 67) (.v 68), some (66, false), []⟩, ⟨some 70, .load1 (.v 69), some (66, false), []⟩, ⟨some 71, .faddr 3 (.v 2), some (66, false), []⟩, ⟨some 72, .load1 (.v 71), some (66, false), []⟩, ⟨some 73, .mv (.v 7), some (66, false), []⟩, ⟨some 74, .iaddr 3 (.v 72) (.v 73), some (66, false), []⟩, ⟨some 75, .faddr 0 (.v 74), some (66, false), []⟩, ⟨some 76, .load1 (.v 75), some (66, false), []⟩, ⟨some 77, .call 90 [.v 70, .v 76], some (66, false), []⟩, ⟨some 78, .pick (.v 66) (.c (.bool true)) (.v 77), none, []⟩] [2, 5, 6, 7, 8, 78] [none, none, none, none, none, none, none, none, none, none, none, none, none, none, none, none, none, none, none, none, none, none, none, none, none, none, none, none, none, none, none, none, none, none, none, none]) (.cond (.v 78) (.exit 5) .skip)) (.seq (.rgd [⟨some 79, .faddr 3 (.v 2), none, []⟩, ⟨some 80, .load1 (.v 79), none, []⟩, ⟨some 81, .mv (.v 7), none, []⟩, ⟨some 82, .iaddr 3 (.v 80) (.v 81), none, []⟩, ⟨some 83, .faddr 0 (.v 82), none, []⟩, ⟨some 84, .load1 (.v 83), none, []⟩, ⟨some 85, .litOwn 185 9 1 [.v 84], none, []⟩, ⟨some 86, .mv (.v 5), none, []⟩, ⟨some 87, .mv (.v 8), none, []⟩, ⟨some 88, .iaddr 1 (.v 86) (.v 87), none, []⟩, ⟨some 89, .load1 (.v 88), none, []⟩, ⟨some 90, .app 185 9 1 (.v 85) (.v 89), none, []⟩, ⟨some 9, .mv (.v 90), none, []⟩] [2, 5, 6, 7, 8, 9] [none, none, none, none, none, none, some [], none, none, some [2], some [3], none, none]) (.gh (.frzE 9) (.seq (.rgd [⟨some 91, .loadN 7 (.v 2), none, []⟩, ⟨some 92, .mv (.v 9), none, []⟩, ⟨some 93, .mv (.v 5), none, []⟩, ⟨some 94, .mv (.v 7), none, []⟩, ⟨some 95, .iaddr 1 (.v 93) (.v 94), none, []⟩, ⟨some 96, .load1 (.v 95), none, []⟩, ⟨some 97, .call 91 [.v 91, .v 92, .v 96], none, []⟩] [2, 5, 6, 7, 8, 9, 97] [none, none, none, none, none, none, none]) (.cond (.v 97) (.rg [⟨some 98, .mv (.v 5), none, []⟩, ⟨some 99, .mv (.v 7), none, []⟩, ⟨some 100, .mv (.v 9), none, [9]⟩, ⟨some 101, .iaddr 1 (.v 98) (.v 99), none, [98, 99]⟩, ⟨none, .store 1 (.v 101) (.v 100), none, [100, 101]⟩] [2, 5, 6, 7, 8]) .skip)))))) (.rg [⟨some 41, .mv (.v 8), none, [8]⟩, ⟨some 42, .binN .add (.v 41) (.c (.int .i64 1)), none, [41]⟩, ⟨some 8, .mv (.v 42), none, [42]⟩] [2, 5, 6, 7, 8])))
def K0 : SCode := (.seq (.seq (.rg [⟨some 29, .mv (.v 7), none, []⟩, ⟨some 30, .faddr 3 (.v 2), none, []⟩, ⟨some 31, .load1 (.v 30), none, [30]⟩, ⟨some 32, .lenL (.v 31), none, [31]⟩, ⟨some 33, .bin .lss (.v 29) (.v 32), none, [29, 32]⟩] [2, 5, 6, 7, 33]) (.cond (.v 33) .skip (.exit 2))) (.seq (.block 3 (.seq (.rg [⟨some 8, .mv (.c (.int .i64 0)), none, []⟩] [2, 5, 6, 7, 8]) (.block 4 (.loop KZ)))) (.rg [⟨some 34, .mv (.v 7), none, [7]⟩, ⟨some 35, .binN .add (.v 34) (.c (.int .i64 1)), none, [34]⟩, ⟨some 7, .mv (.v 35), none, [35]⟩] [2, 5, 6, 7])))
def K1 : SCode := (.seq (.seq (.rg [⟨some 22, .mv (.v 6), none, []⟩, ⟨some 23, .faddr 3 (.v 2), none, []⟩, ⟨some 24, .load1 (.v 23), none, [23]⟩, ⟨some 25, .lenL (.v 24), none, [24]⟩, ⟨some 26, .bin .lss (.v 22) (.v 25), none, [22, 25]⟩] [2, 5, 6, 26]) (.cond (.v 26) .skip (.exit 0))) (.seq (.block 1 (.seq (.rg [⟨some 7, .mv (.c (.int .i64 0)), none, []⟩] [2, 5, 6, 7]) (.block 2 (.loop K0)))) (.rg [⟨some 27, .mv (.v 6), none, [6]⟩, ⟨some 28, .binN .add (.v 27) (.c (.int .i64 1)), none, [27]⟩, ⟨some 6, .mv (.v 28), none, [28]⟩] [2, 5, 6])))
/-- spec.l7Ways: function 72 -/
def X8 : SFun := { n := 103, res := [.t 4], body := (.seq (.rg [⟨some 2, .box 102 (.v 0), none, [0]⟩, ⟨some 4, .mv (.c (.sl 0 1 [])), none, [4]⟩] [1, 2]) (.seq (.rg [⟨some 10, .faddr 3 (.v 2), none, []⟩, ⟨some 11, .load1 (.v 10), none, [10]⟩, ⟨some 12, .lenL (.v 11), none, [11]⟩, ⟨some 13, .mk 113 39 1 [.sl 0 1 []] (.v 12), none, [12]⟩, ⟨some 5, .mv (.v 13), none, [13]⟩] [1, 2, 5]) (.seq (.rg [⟨some 14, .mv (.v 5), none, []⟩, ⟨some 15, .faddr 3 (.v 2), none, []⟩, ⟨some 16, .load1 (.v 15), none, [15]⟩, ⟨some 17, .mv (.v 1), none, []⟩, ⟨some 18, .call 71 [.v 16, .v 17], none, [16, 17]⟩, ⟨some 19, .mv (.v 1), none, [1]⟩, ⟨some 20, .lit 9 1 [.v 19], none, [19]⟩, ⟨some 21, .iaddr 1 (.v 14) (.v 18), none, [14, 18]⟩, ⟨none, .store 1 (.v 21) (.v 20), none, [20, 21]⟩] [2, 5]) (.seq (.seq (.rg [⟨some 6, .mv (.c (.int .i64 0)), none, []⟩] [2, 5, 6]) (.block 0 (.loop K1))) (.seq (.rg [⟨some 102, .mv (.v 5), none, [5]⟩, ⟨some 4, .mv (.v 102), none, [102]⟩] [4]) (.gh (.frzE 4) .ret)))))) }
theorem WM : QY Go.Proofs.Tryd.prog 72 X8 = true := by kernel_rfl
def JM : SCode := (.seq (.rg [⟨some 67, .bin .lss (.v 66) (.v 65), none, []⟩] [2, 5, 6, 8, 9, 27, 28, 29, 64, 65, 66, 67]) (.seq (.cond (.v 67) .skip (.exit 6)) (.seq (.block 7 (.seq (.rg [⟨some 68, .iaddr 2 (.v 64) (.v 66), none, []⟩, ⟨some 69, .loadN 2 (.v 68), none, [68]⟩, ⟨some 11, .alloc 111 [.str ⟨#[]⟩, .str ⟨#[]⟩], none, []⟩, ⟨none, .store 2 (.v 11) (.v 69), none, [69]⟩] [2, 5, 6, 8, 9, 11, 27, 28, 29, 64, 65, 66]) (.seq (.rg [⟨some 71, .mv (.v 5), none, []⟩, ⟨some 72, .iaddrA 2 1 (.v 11) (.c (.int .i64 0)), none, []⟩, ⟨some 73, .load1 (.v 72), none, [72]⟩, ⟨some 74, .look true 0 (.agg [.int .i64 0, .sl 0 1 []]) (.v 71) (.v 73), none, [71, 73]⟩, ⟨some 70, .mv (.v 74), none, [74]⟩, ⟨some 75, .ext 0 (.v 70), none, []⟩, ⟨some 76, .ext 1 (.v 70), none, [70]⟩, ⟨some 12, .alloc 112 [.int .i64 0, .sl 0 1 []], none, []⟩, ⟨none, .store 2 (.v 12) (.v 75), none, [75]⟩, ⟨some 13, .mv (.v 76), none, [76]⟩] [2, 5, 6, 8, 9, 11, 12, 13, 27, 28, 29, 64, 65, 66]) (.seq (.seq (.rg [⟨some 77, .mv (.v 13), none, [13]⟩, ⟨some 78, .not (.v 77), none, [77]⟩] [2, 5, 6, 8, 9, 11, 12, 27, 28, 29, 64, 65, 66, 78]) (.cond (.v 78) (.exit 7) .skip)) (.seq (.rgd [⟨some 79, .faddr 3 (.v 2), none, []⟩, ⟨some 80, .load1 (.v 79), none, []⟩, ⟨some 81, .loadN 7 (.v 2), none, []⟩, ⟨some 82, .iaddrA 2 1 (.v 11) (.c (.int .i64 0)), none, []⟩, ⟨some 83, .load1 (.v 82), none, []⟩, ⟨some 84, .call 26 [.v 81, .v 83], none, []⟩, ⟨some 85, .iaddr 3 (.v 80) (.v 84), none, []⟩, ⟨some 86, .loadN 3 (.v 85), none, []⟩, ⟨some 87, .faddr 3 (.v 2), none, []⟩, ⟨some 88, .load1 (.v 87), none, []⟩, ⟨some 89, .loadN 7 (.v 2), none, []⟩, ⟨some 90, .iaddrA 2 1 (.v 11) (.c (.int .i64 1)), none, []⟩, ⟨some 91, .load1 (.v 90), none, []⟩, ⟨some 92, .call 26 [.v 89, .v 91], none, []⟩, ⟨some 93, .iaddr 3 (.v 88) (.v 92), none, []⟩, ⟨some 94, .loadN 3 (.v 93), none, []⟩, ⟨some 14, .alloc 114 [.str ⟨#[]⟩, .int .i64 0, .int .i64 0], none, []⟩, ⟨some 15, .alloc 115 [.str ⟨#[]⟩, .int .i64 0, .int .i64 0], none, []⟩, ⟨none, .store 3 (.v 14) (.v 86), none, []⟩, ⟨none, .store 3 (.v 15) (.v 94), none, []⟩] [2, 5, 6, 8, 9, 11, 12, 14, 15, 27, 28, 29, 64, 65, 66] [some [], some [], some [], some [], some [], some [4, 3], some [], some [], some [2], some [3], some [4], some [5], some [6], some [12, 11, 6, 5, 4, 3], some [], some [], some [15, 14, 13, 12, 11, 10, 9, 8, 7, 6, 5, 4, 3, 2, 1, 0], some [16, 15, 14, 13, 12, 11, 10, 9, 8, 7, 6, 5, 4, 3, 2, 1, 0], some [9, 8, 3, 2], none]) (.seq (.rgd [⟨some 95, .faddr 0 (.v 12), none, []⟩, ⟨some 96, .load1 (.v 95), none, []⟩, ⟨some 97, .faddr 1 (.v 14), none, []⟩, ⟨some 98, .load1 (.v 97), none, []⟩, ⟨some 99, .faddr 1 (.v 15), none, []⟩, ⟨some 100, .load1 (.v 99), none, []⟩, ⟨some 101, .call 58 [.v 98, .v 100], none, []⟩, ⟨some 102, .faddr 2 (.v 14), none, []⟩, ⟨some 103, .load1 (.v 102), none, []⟩, ⟨some 104, .faddr 2 (.v 15), none, []⟩, ⟨some 105, .load1 (.v 104), none, []⟩, ⟨some 106, .call 58 [.v 103, .v 105], none, []⟩, ⟨some 107, .mx (.v 101) (.v 106), none, []⟩, ⟨some 108, .binN .add (.v 96) (.v 107), none, []⟩, ⟨some 109, .faddr 1 (.v 12), none, []⟩, ⟨some 110, .load1 (.v 109), none, []⟩, ⟨some 111, .call 59 [.v 110], none, []⟩, ⟨some 112, .iaddrA 2 1 (.v 11) (.c (.int .i64 1)), none, []⟩, ⟨some 113, .load1 (.v 112), none, []⟩, ⟨some 114, .lit 9 1 [.v 113], none, []⟩, ⟨some 115, .app 215 9 1 (.v 111) (.v 114), none, []⟩, ⟨some 116, .build [.int .i64 0, .sl 0 1 []] [(0, 1, .v 108), (1, 1, .v 115)], none, []⟩, ⟨some 16, .alloc 116 [.int .i64 0, .sl 0 1 []], none, []⟩, ⟨none, .store 2 (.v 16) (.v 116), none, []⟩] [2, 5, 6, 8, 9, 11, 16, 27, 28, 29, 64, 65, 66] [some [], some [], some [], some [], some [], some [], some [5, 4], some [0], some [1], some [2], some [3], some [10, 9], none, none, some [7, 2], some [8, 3], some [15, 14], some [10, 5, 0], some [11, 6, 1], none, some [19, 18], none, some [21, 20, 19, 18, 17, 16, 15, 14, 13, 12, 11, 10, 7, 6, 5, 4, 3, 1], none]) (.gh (.frzB 116 1) (.seq (.rg [⟨some 118, .mv (.v 5), none, []⟩, ⟨some 119, .iaddrA 2 1 (.v 11) (.c (.int .i64 1)), none, []⟩, ⟨some 120, .load1 (.v 119), none, [119]⟩, ⟨some 121, .look true 0 (.agg [.int .i64 0, .sl 0 1 []]) (.v 118) (.v 120), none, [118, 120]⟩, ⟨some 117, .mv (.v 121), none, [121]⟩, ⟨some 122, .ext 0 (.v 117), none, []⟩, ⟨some 123, .ext 1 (.v 117), none, [117]⟩, ⟨some 17, .alloc 117 [.int .i64 0, .sl 0 1 []], none, []⟩, ⟨none, .store 2 (.v 17) (.v 122), none, [122]⟩, ⟨some 18, .mv (.v 123), none, [123]⟩] [2, 5, 6, 8, 9, 11, 16, 17, 18, 27, 28, 29, 64, 65, 66]) (.seq (.rg [⟨some 124, .mv (.v 18), none, [18]⟩, ⟨some 125, .not (.v 124), none, [124]⟩, ⟨some 126, .mv (.v 125), none, [125]⟩, ⟨some 127, .loadN 2 (.v 16), some (126, false), []⟩, ⟨some 128, .loadN 2 (.v 17), some (126, false), [17]⟩, ⟨some 129, .call 60 [.v 127, .v 128], some (126, false), [127, 128]⟩, ⟨some 130, .pick (.v 126) (.c (.bool true)) (.v 129), none, [126, 129]⟩] [2, 5, 6, 8, 9, 11, 16, 27, 28, 29, 64, 65, 66, 130]) (.cond (.v 130) (.seq (.rg [⟨some 131, .mv (.v 5), none, []⟩, ⟨some 132, .iaddrA 2 1 (.v 11) (.c (.int .i64 1)), none, [11]⟩, ⟨some 133, .load1 (.v 132), none, [132]⟩, ⟨some 134, .loadN 2 (.v 16), none, [16]⟩, ⟨none, .mset 0 (.v 131) (.v 133) (.v 134), none, [131, 133, 134]⟩] [2, 5, 8, 9, 27, 28, 29, 64, 65, 66]) (.rg [⟨some 6, .mv (.c (.bool true)), none, []⟩] [2, 5, 6, 8, 9, 27, 28, 29, 64, 65, 66])) .skip)))))))))) (.rg [⟨some 135, .binN .add (.v 66) (.c (.int .i64 1)), none, [66]⟩, ⟨some 66, .mv (.v 135), none, [135]⟩] [2, 5, 6, 8, 9, 27, 28, 29, 64, 65, 66]))))
def Kk : SCode := (.seq (.seq (.rg [⟨some 33, .mv (.v 9), none, []⟩, ⟨some 34, .faddr 1 (.v 8), none, []⟩, ⟨some 35, .load1 (.v 34), none, [34]⟩, ⟨some 36, .lenL (.v 35), none, [35]⟩, ⟨some 37, .bin .lss (.v 33) (.v 36), none, [33, 36]⟩] [2, 5, 6, 8, 9, 27, 28, 29, 37]) (.cond (.v 37) .skip (.exit 4))) (.seq (.block 5 (.seq (.rgd [⟨some 40, .faddr 1 (.v 8), none, []⟩, ⟨some 41, .load1 (.v 40), none, []⟩, ⟨some 42, .mv (.v 9), none, []⟩, ⟨some 43, .binN .sub (.v 42) (.c (.int .i64 1)), none, []⟩, ⟨some 44, .iaddr 1 (.v 41) (.v 43), none, []⟩, ⟨some 45, .load1 (.v 44), none, []⟩, ⟨some 46, .faddr 1 (.v 8), none, []⟩, ⟨some 47, .load1 (.v 46), none, []⟩, ⟨some 48, .mv (.v 9), none, []⟩, ⟨some 49, .iaddr 1 (.v 47) (.v 48), none, []⟩, ⟨some 50, .load1 (.v 49), none, []⟩, ⟨some 51, .build [.str ⟨#[]⟩, .str ⟨#[]⟩] [(0, 1, .v 45), (1, 1, .v 50)], none, []⟩, ⟨some 52, .faddr 1 (.v 8), none, []⟩, ⟨some 53, .load1 (.v 52), none, []⟩, ⟨some 54, .mv (.v 9), none, []⟩, ⟨some 55, .iaddr 1 (.v 53) (.v 54), none, []⟩, ⟨some 56, .load1 (.v 55), none, []⟩, ⟨some 57, .faddr 1 (.v 8), none, []⟩, ⟨some 58, .load1 (.v 57), none, []⟩, ⟨some 59, .mv (.v 9), none, []⟩, ⟨some 60, .binN .sub (.v 59) (.c (.int .i64 1)), none, []⟩, ⟨some 61, .iaddr 1 (.v 58) (.v 60), none, []⟩, ⟨some 62, .load1 (.v 61), none, []⟩, ⟨some 63, .build [.str ⟨#[]⟩, .str ⟨#[]⟩] [(0, 1, .v 56), (1, 1, .v 62)], none, []⟩, ⟨some 64, .lit 106 2 [.v 51, .v 63], none, []⟩, ⟨some 65, .lenL (.v 64), none, []⟩, ⟨some 66, .mv (.c (.int .i64 0)), none, []⟩] [2, 5, 6, 8, 9, 27, 28, 29, 64, 65, 66] [none, none, none, none, none, none, none, none, none, none, none, none, none, none, none, none, none, none, none, none, none, none, none, none, none, none, none]) (.block 6 (.loop JM)))) (.rg [⟨some 38, .mv (.v 9), none, [9]⟩, ⟨some 39, .binN .add (.v 38) (.c (.int .i64 1)), none, [38]⟩, ⟨some 9, .mv (.v 39), none, [39]⟩] [2, 5, 6, 8, 9, 27, 28, 29])))
def Kl : SCode := (.seq (.rg [⟨some 30, .bin .lss (.v 29) (.v 28), none, []⟩] [2, 5, 6, 27, 28, 29, 30]) (.seq (.cond (.v 30) .skip (.exit 2)) (.seq (.block 3 (.seq (.rg [⟨some 31, .iaddr 2 (.v 27) (.v 29), none, []⟩, ⟨some 32, .loadN 2 (.v 31), none, [31]⟩, ⟨some 8, .alloc 108 [.str ⟨#[]⟩, .sl 0 1 []], none, []⟩, ⟨none, .store 2 (.v 8) (.v 32), none, [32]⟩] [2, 5, 6, 8, 27, 28, 29]) (.seq (.rg [⟨some 9, .mv (.c (.int .i64 1)), none, []⟩] [2, 5, 6, 8, 9, 27, 28, 29]) (.block 4 (.loop Kk))))) (.rg [⟨some 136, .binN .add (.v 29) (.c (.int .i64 1)), none, [29]⟩, ⟨some 29, .mv (.v 136), none, [136]⟩] [2, 5, 6, 27, 28, 29]))))
def Km : SCode := (.seq (.seq (.rg [⟨some 25, .mv (.v 6), none, [6]⟩] [2, 5, 25]) (.cond (.v 25) .skip (.exit 0))) (.block 1 (.seq (.rg [⟨some 6, .mv (.c (.bool false)), none, []⟩] [2, 5, 6]) (.seq (.rg [⟨some 26, .faddr 4 (.v 2), none, []⟩, ⟨some 27, .load1 (.v 26), none, [26]⟩, ⟨some 28, .lenL (.v 27), none, []⟩, ⟨some 29, .mv (.c (.int .i64 0)), none, []⟩] [2, 5, 6, 27, 28, 29]) (.block 2 (.loop Kl))))))
/-- impl.Sky).ways: function 27 -/
def Xf : SFun := { n := 138, res := [.t 4], body := (.seq (.rg [⟨some 2, .box 102 (.v 0), none, [0]⟩, ⟨some 4, .mv (.c (.junk)), none, [4]⟩] [1, 2]) (.seq (.rg [⟨some 19, .mkmap 119 0, none, []⟩, ⟨some 20, .mv (.v 1), none, []⟩, ⟨some 21, .mv (.v 1), none, [1]⟩, ⟨some 22, .lit 9 1 [.v 21], none, [21]⟩, ⟨some 23, .build [.int .i64 0, .sl 0 1 []] [(0, 1, .c (.int .i64 0)), (1, 1, .v 22)], none, [22]⟩, ⟨none, .mset 0 (.v 19) (.v 20) (.v 23), none, [20, 23]⟩, ⟨some 24, .mv (.v 19), none, [19]⟩, ⟨some 5, .mv (.v 24), none, [24]⟩] [2, 5]) (.seq (.seq (.rg [⟨some 6, .mv (.c (.bool true)), none, []⟩] [2, 5, 6]) (.block 0 (.loop Km))) (.seq (.rg [⟨some 137, .mv (.v 5), none, [5]⟩, ⟨some 4, .mv (.v 137), none, [137]⟩] [4]) .ret)))) }
theorem Vc : QY Go.Proofs.Tryd.prog 27 Xf = true := by kernel_rfl
/-- slices.Clone[[]string,string]: function 59 -/
def Ks : SFun := { n := 8, res := [.t 2], body := (.seq (.rg [⟨some 2, .mv (.c (.sl 0 1 [])), none, [2]⟩] [0]) (.seq (.seq (.rg [⟨some 3, .mv (.v 0), none, []⟩, ⟨some 4, .isnil false (.v 3), none, [3]⟩] [0, 4]) (.cond (.v 4) (.seq (.rg [⟨some 2, .mv (.c (.sl 0 1 [])), none, []⟩] [2]) .ret) .skip)) (.seq (.rg [⟨some 5, .litOwn 105 9 1 [], none, []⟩, ⟨some 6, .mv (.v 0), none, [0]⟩, ⟨some 7, .app 105 9 1 (.v 5) (.v 6), none, [5, 6]⟩, ⟨some 2, .mv (.v 7), none, [7]⟩] [2]) .ret))) }
theorem Xj : QY Go.Proofs.Tryd.prog 59 Ks = true := by kernel_rfl
end Go.Ve

namespace Go.Ve
noncomputable section
open Go.Proofs
set_option linter.unusedSimpArgs false
set_option linter.unusedVariables false
set_option maxRecDepth 100000
noncomputable instance (a : Nm) (l : List Nm) : Decidable (a ∈ l) := Classical.propDecidable _
theorem Qkr (t : Nat) (l : List Nm) (a : Nm) (hl : l.length ≤ 4294967296) : Contract P 90 [.sl t 1 (l.map QF), .str a] [] (.bool (decide (a ∈ l))) [] := by
  refine Qs (Env.nil P) hm Qch (Nat.le_of_ble_eq_true rfl) rfl ?_; unfold UW; simp (config := { maxSteps := 2000000 }) only [bitvec_to_nat, reduceIte, Nat.reduceEqDiff, Nat.reduceAdd, Nat.reduceLeDiff, reduceCtorEq, Nat.reduceBEq, Nat.reduceLT, Nat.reduceMod, List.forall_mem_cons, Qh, Qj, Qa, QN, Qg, List.take_length, List.length_cons, List.length_nil, Nat.zero_add, QF, QS, QQ, QU, Zone.row, Qe, Qo, Pt.row, Qi, Qu, Aw.row, Qm, QA, Blk.row, Qb, Qk, Sec.row, Qc, Ql, Rw.row, Qn, QB, Qd, Int.toNat_natCast, Nat.sub_zero, List.length_map]
  refine QP (fun i : Nat => [(5, .int .i64 i)]) (fun _ => []) (fun i => i ≤ l.length ∧ ∀ j, j < i → l.getD j default ≠ a) (fun i => l.length - i) 0 (by simp only [Jz, JA, JB, JC, Qw, Qx, Qy, Qz, reduceIte, Nat.reduceEqDiff]; exact ⟨by repeat' (first | exact trivial | refine ⟨.inr rfl, ?_⟩), by repeat' (first | exact trivial | refine ⟨rfl, ?_⟩), by first | rfl | simp [closedB, Qr, Qp, Qt, dom, Qf, *], by first | rfl | simp [keepB, dom]⟩) ⟨Nat.zero_le _, by intro j hj; omega⟩ ?_
  intro i hi NX hN
  unfold X6; simp (config := { maxSteps := 2000000 }) only [bitvec_to_nat, reduceIte, Nat.reduceEqDiff, Nat.reduceAdd, Nat.reduceLeDiff, reduceCtorEq, Nat.reduceBEq, Nat.reduceLT, Nat.reduceMod, List.forall_mem_cons, Qh, Qj, Qa, QN, Qg, List.take_length, List.length_cons, List.length_nil, Nat.zero_add, QF, QS, QQ, QU, Zone.row, Qe, Qo, Pt.row, Qi, Qu, Aw.row, Qm, QA, Blk.row, Qb, Qk, Sec.row, Qc, Ql, Rw.row, Qn, QB, Qd, Int.toNat_natCast, Nat.sub_zero, List.length_map]
  repeat' (first | with_reducible apply And.intro | with_reducible intro _)
  all_goals first
    | omega
    | (rename_i h1 h2; rw [← h2]; exact Jl (by omega))
    | (intro hm; obtain ⟨j, hj, e⟩ := List.mem_iff_getElem.1 hm; exact hi.2 j (by omega) (by simp [hj, e]))
    | (refine hN (i + 1) _ (by simp only [Jz, JA, JB, JC, Qw, Qx, Qy, Qz, reduceIte, Nat.reduceEqDiff]; exact ⟨by repeat' (first | exact trivial | refine ⟨.inr rfl, ?_⟩), by repeat' (first | exact trivial | refine ⟨rfl, ?_⟩), by first | rfl | simp [closedB, Qr, Qp, Qt, dom, Qf, *], by first | rfl | simp [keepB, dom]⟩) ?_ ?_
       · exact ⟨by omega, fun j hj => (Nat.lt_or_ge j i).elim (fun q => hi.2 j q) fun q => by rw [show j = i from by omega]; assumption⟩
       · omega)
    | trace_state
def Gt : List AV → Option (Prop × AV)
  | [.sl lt 1 lx, .str a] => some ((((lx.map unS).map QF = lx)) ∧ ((lx.map unS).length ≤ 4294967296), .bool (decide (a ∈ (lx.map unS))))
  | _ => none
theorem Qks : ∀ args p v, Gt args = some (p, v) → p → Contract P 90 args [] v [] ∧ noref v = true ∧ No99 v := by
  intro args p v h1 h2
  unfold Gt at h1
  split at h1
  · rename_i lt lx a
    cases h1
    obtain ⟨e0, HP⟩ := h2
    have := Qkr lt (lx.map unS) a HP
    exact ⟨by simpa only [e0] using this, rfl, trivial⟩
  · cases h1
theorem QeI {a b : Cell} (ha : a.inn) (hb : b.inn) : 0 ≤ WK a b ∧ WK a b ≤ 15 := by
  unfold Cell.inn at ha hb
  unfold WK Qi1
  split <;> split <;> omega
theorem Qiz (s : Sky) (a b : Nm) (hs : s.small) (hv : s.valid) (ha : 0 ≤ JD s.pts a) (hb : 0 ≤ JD s.pts b) : Contract P 43 [.agg (s.row 0), .str a, .str b] [] (.int .i64 (dS s a b)) [] := by
  refine Qs (((Env.nil P).add 77 QeH Qlx).add 76 Uo Qgv) hm QaU (Nat.le_of_ble_eq_true rfl) rfl ?_; unfold ZV; simp (config := { maxSteps := 2000000 }) only [bitvec_to_nat, reduceIte, Nat.reduceEqDiff, Nat.reduceAdd, Nat.reduceLeDiff, reduceCtorEq, Nat.reduceBEq, Nat.reduceLT, Nat.reduceMod, List.forall_mem_cons, QeH, Uo, Qh, Qj, Qa, QN, Qg, List.take_length, List.length_cons, List.length_nil, Nat.zero_add, QF, QS, QQ, QU, Zone.row, Qe, Qo, Pt.row, Qi, Qu, Aw.row, Qm, QA, Blk.row, Qb, Qk, Sec.row, Qc, Ql, Rw.row, Qn, QB, Qd, Int.toNat_natCast, Nat.sub_zero, List.length_map, Sky.row, Cell.row]
  exact ⟨⟨hs, ha⟩, ⟨hs, hb⟩, ⟨Zs hv ha, Zs hv hb⟩, rfl⟩
def Uq : List AV → Option (Prop × AV)
  | [.agg [.int .i64 s_w, .int .i64 s_h, .int .i64 s_lv, .sl 0 3 s_pts, .sl 0 2 s_aws, .sl 0 2 s_secs, .sl 0 4 s_rws], .str a, .str b] => some ((((s_pts.map QO).map Pt.row = s_pts) ∧ ((s_aws.map QR).map (Aw.row 0) = s_aws) ∧ ((s_secs.map Qv).map (Sec.row 0) = s_secs) ∧ ((s_rws.map QT).map Rw.row = s_rws)) ∧ (Sky.small (Sky.mk s_w s_h s_lv (s_pts.map QO) (s_aws.map QR) (s_secs.map Qv) (s_rws.map QT)) ∧ Sky.valid (Sky.mk s_w s_h s_lv (s_pts.map QO) (s_aws.map QR) (s_secs.map Qv) (s_rws.map QT)) ∧ 0 ≤ JD (Sky.pts (Sky.mk s_w s_h s_lv (s_pts.map QO) (s_aws.map QR) (s_secs.map Qv) (s_rws.map QT))) a ∧ 0 ≤ JD (Sky.pts (Sky.mk s_w s_h s_lv (s_pts.map QO) (s_aws.map QR) (s_secs.map Qv) (s_rws.map QT))) b), .int .i64 (dS (Sky.mk s_w s_h s_lv (s_pts.map QO) (s_aws.map QR) (s_secs.map Qv) (s_rws.map QT)) a b))
  | _ => none
theorem QiA : ∀ args p v, Uq args = some (p, v) → p → Contract P 43 args [] v [] ∧ noref v = true ∧ No99 v := by
  intro args p v h1 h2
  unfold Uq at h1
  split at h1
  · rename_i s_w s_h s_lv s_pts s_aws s_secs s_rws a b
    cases h1
    obtain ⟨⟨e0, e1, e2, e3⟩, HP⟩ := h2
    have := Qiz (Sky.mk s_w s_h s_lv (s_pts.map QO) (s_aws.map QR) (s_secs.map Qv) (s_rws.map QT)) a b HP.1 HP.2.1 HP.2.2.1 HP.2.2.2
    exact ⟨by simpa only [e0, e1, e2, e3, Sky.row] using this, rfl, trivial⟩
  · cases h1
def Qly (l : List Nm) (a b : Nm) (k : Nat) : Prop := l.getD (k - 1) default = a ∧ l.getD k default = b ∨ l.getD (k - 1) default = b ∧ l.getD k default = a
theorem QiB (s : Sky) (a b : Nm) (hs : s.small) : Contract P 89 [.agg (s.row 0), .str a, .str b] [] (.bool (decide (YN s a b))) [] := by
  have hs' := hs
  unfold Sky.small at hs
  refine Qs (Env.nil P) hm QaY (Nat.le_of_ble_eq_true rfl) rfl ?_; unfold Uc; simp (config := { maxSteps := 2000000 }) only [bitvec_to_nat, reduceIte, Nat.reduceEqDiff, Nat.reduceAdd, Nat.reduceLeDiff, reduceCtorEq, Nat.reduceBEq, Nat.reduceLT, Nat.reduceMod, List.forall_mem_cons, Qh, Qj, Qa, QN, Qg, List.take_length, List.length_cons, List.length_nil, Nat.zero_add, QF, QS, QQ, QU, Zone.row, Qe, Qo, Pt.row, Qi, Qu, Aw.row, Qm, QA, Blk.row, Qb, Qk, Sec.row, Qc, Ql, Rw.row, Qn, QB, Qd, Int.toNat_natCast, Nat.sub_zero, List.length_map, Sky.row]
  refine QP (fun i : Nat => [(7, .int .i64 i)]) (fun _ => []) (fun i => i ≤ s.aws.length ∧ ∀ j, j < i → ∀ k, k < (s.aws.getD j default).pts.length → 0 < k → ¬ Qly (s.aws.getD j default).pts a b k) (fun i => s.aws.length - i) 0 (by simp only [Jz, JA, JB, JC, Qw, Qx, Qy, Qz, reduceIte, Nat.reduceEqDiff]; exact ⟨by repeat' (first | exact trivial | refine ⟨.inr rfl, ?_⟩), by repeat' (first | exact trivial | refine ⟨rfl, ?_⟩), by first | rfl | simp [closedB, Qr, Qp, Qt, dom, Qf, *], by first | rfl | simp [keepB, dom]⟩) ⟨Nat.zero_le _, by intro j hj; omega⟩ ?_
  intro i hi NX hN
  unfold XE; simp (config := { maxSteps := 2000000 }) only [bitvec_to_nat, reduceIte, Nat.reduceEqDiff, Nat.reduceAdd, Nat.reduceLeDiff, reduceCtorEq, Nat.reduceBEq, Nat.reduceLT, Nat.reduceMod, List.forall_mem_cons, Qh, Qj, Qa, QN, Qg, List.take_length, List.length_cons, List.length_nil, Nat.zero_add, QF, QS, QQ, QU, Zone.row, Qe, Qo, Pt.row, Qi, Qu, Aw.row, Qm, QA, Blk.row, Qb, Qk, Sec.row, Qc, Ql, Rw.row, Qn, QB, Qd, Int.toNat_natCast, Nat.sub_zero, List.length_map, Sky.row]
  refine ⟨fun h => ⟨by omega, h, ?_⟩, fun h => ?_⟩
  · have hl := Sky.small_aw hs' (i := i) (by omega)
    generalize hL : (s.aws.getD i default).pts = L at hl
    refine QP (fun k : Nat => [(9, .int .i64 k)]) (fun _ => []) (fun k => 1 ≤ k ∧ k ≤ L.length + 1 ∧ ∀ k', k' < k → k' < L.length → 0 < k' → ¬ Qly L a b k') (fun k => L.length + 1 - k) 1 (by simp only [Jz, JA, JB, JC, Qw, Qx, Qy, Qz, reduceIte, Nat.reduceEqDiff]; exact ⟨by repeat' (first | exact trivial | refine ⟨.inr rfl, ?_⟩), by repeat' (first | exact trivial | refine ⟨rfl, ?_⟩), by first | rfl | simp [closedB, Qr, Qp, Qt, dom, Qf, *], by first | rfl | simp [keepB, dom]⟩) ⟨by omega, by omega, by intro k' h1 _ h2; omega⟩ ?_
    intro k hk NX2 hN2
    have t1 : ((k : Int) - 1).toNat = k - 1 := by omega
    unfold XD; simp (config := { maxSteps := 2000000 }) only [bitvec_to_nat, reduceIte, Nat.reduceEqDiff, Nat.reduceAdd, Nat.reduceLeDiff, reduceCtorEq, Nat.reduceBEq, Nat.reduceLT, Nat.reduceMod, List.forall_mem_cons, Qh, Qj, Qa, QN, Qg, List.take_length, List.length_cons, List.length_nil, Nat.zero_add, QF, QS, QQ, QU, Zone.row, Qe, Qo, Pt.row, Qi, Qu, Aw.row, Qm, QA, Blk.row, Qb, Qk, Sec.row, Qc, Ql, Rw.row, Qn, QB, Qd, Int.toNat_natCast, Nat.sub_zero, List.length_map, Sky.row, t1]
    have adj : Qly L a b k → k < L.length → YN s a b := fun he hl => ⟨i, by omega, k, by rw [hL]; exact hl, by omega, by rw [hL]; exact he⟩
    repeat' (first | with_reducible apply And.intro | with_reducible intro _)
    all_goals first
      | omega
      | exact adj (.inl ⟨by assumption, by assumption⟩) (by omega)
      | exact adj (.inr ⟨by assumption, by assumption⟩) (by omega)
      | (refine hN2 (k + 1) _ (by simp only [Jz, JA, JB, JC, Qw, Qx, Qy, Qz, reduceIte, Nat.reduceEqDiff]; exact ⟨by repeat' (first | exact trivial | refine ⟨.inr rfl, ?_⟩), by repeat' (first | exact trivial | refine ⟨rfl, ?_⟩), by first | rfl | simp [closedB, Qr, Qp, Qt, dom, Qf, *], by first | rfl | simp [keepB, dom]⟩) ?_ ?_
         · refine ⟨by omega, by omega, fun k' h1 h2 h3 => ?_⟩
           rcases Nat.lt_or_ge k' k with q | q
           · exact hk.2.2 k' q h2 h3
           · rw [show k' = k from by omega]; rintro (⟨h1, h2⟩ | ⟨h1, h2⟩) <;> contradiction
         · omega)
      | (refine hN (i + 1) _ (by simp only [Jz, JA, JB, JC, Qw, Qx, Qy, Qz, reduceIte, Nat.reduceEqDiff]; exact ⟨by repeat' (first | exact trivial | refine ⟨.inr rfl, ?_⟩), by repeat' (first | exact trivial | refine ⟨rfl, ?_⟩), by first | rfl | simp [closedB, Qr, Qp, Qt, dom, Qf, *], by first | rfl | simp [keepB, dom]⟩) ?_ ?_
         · refine ⟨by omega, fun j hj k' h1 h2 => ?_⟩
           rcases Nat.lt_or_ge j i with q | q
           · exact hi.2 j q k' h1 h2
           · rw [show j = i from by omega, hL] at h1 ⊢; exact hk.2.2 k' (by omega) h1 h2
         · omega)
      | trace_state
  · rintro ⟨j, hj, k, hk, h0, he⟩
    exact hi.2 j (by omega) k hk h0 he
def KK : List AV → Option (Prop × AV)
  | [.agg [.int .i64 s_w, .int .i64 s_h, .int .i64 s_lv, .sl 0 3 s_pts, .sl 0 2 s_aws, .sl 0 2 s_secs, .sl 0 4 s_rws], .str a, .str b] => some ((((s_pts.map QO).map Pt.row = s_pts) ∧ ((s_aws.map QR).map (Aw.row 0) = s_aws) ∧ ((s_secs.map Qv).map (Sec.row 0) = s_secs) ∧ ((s_rws.map QT).map Rw.row = s_rws)) ∧ (Sky.small (Sky.mk s_w s_h s_lv (s_pts.map QO) (s_aws.map QR) (s_secs.map Qv) (s_rws.map QT))), .bool (decide (YN (Sky.mk s_w s_h s_lv (s_pts.map QO) (s_aws.map QR) (s_secs.map Qv) (s_rws.map QT)) a b)))
  | _ => none
theorem QiC : ∀ args p v, KK args = some (p, v) → p → Contract P 89 args [] v [] ∧ noref v = true ∧ No99 v := by
  intro args p v h1 h2
  unfold KK at h1
  split at h1
  · rename_i s_w s_h s_lv s_pts s_aws s_secs s_rws a b
    cases h1
    obtain ⟨⟨e0, e1, e2, e3⟩, HP⟩ := h2
    have := QiB (Sky.mk s_w s_h s_lv (s_pts.map QO) (s_aws.map QR) (s_secs.map Qv) (s_rws.map QT)) a b HP
    exact ⟨by simpa only [e0, e1, e2, e3, Sky.row] using this, rfl, trivial⟩
  · cases h1
theorem Qgx {d : Nm → Nm → Int} (h : ∀ a b, 0 ≤ d a b ∧ d a b ≤ 15) : ∀ w : List Nm, 0 ≤ KX d w ∧ KX d w ≤ 15 * w.length
  | [] => by simp [KX]
  | [x] => by simp [KX]
  | x :: y :: r => by have := Qgx h (y :: r); have := h x y; simp only [KX, List.length_cons] at *; omega
theorem QcA {d : Nm → Nm → Int} : ∀ {w : List Nm} {i : Nat}, 0 < i → i < w.length → KX d (w.take (i + 1)) = KX d (w.take i) + d (w.getD (i - 1) default) (w.getD i default)
  | [], i, h0, h => by simp at h
  | [x], i, h0, h => by simp at h; omega
  | x :: y :: r, 1, h0, h => by simp [KX]
  | x :: y :: r, i + 2, h0, h => by
    have ih := QcA (d := d) (w := y :: r) (i := i + 1) (by omega) (by simpa using h)
    simp only [List.take_succ_cons] at ih ⊢
    simp only [KX]
    rw [ih]
    simp
    omega
theorem QiD (s : Sky) (t : Nat) (w : List Nm) (hs : s.small) (hv : s.valid) (hw : ∀ z ∈ w, 0 ≤ JD s.pts z) (hl : w.length ≤ 1048576) : Contract P 20 [.agg (s.row 0), .sl t 1 (w.map QF)] [] (.int .i64 (KX (dS s) w)) [] := by
  have hd : ∀ i, 0 < i → i < w.length → 0 ≤ dS s (w.getD (i - 1) default) (w.getD i default) ∧ dS s (w.getD (i - 1) default) (w.getD i default) ≤ 15 := fun i h0 hi => by
    have := QeI (Zs hv (hw _ (Jl (show i - 1 < w.length by omega)))) (Zs hv (hw _ (Jl hi)))
    exact this
  have e0 : KX (dS s) (w.take 1) = 0 := by cases w <;> simp [KX]
  refine Qs ((Env.nil P).add 43 Uq QiA) hm QaT (Nat.le_of_ble_eq_true rfl) rfl ?_; unfold ZP; simp (config := { maxSteps := 2000000 }) only [bitvec_to_nat, reduceIte, Nat.reduceEqDiff, Nat.reduceAdd, Nat.reduceLeDiff, reduceCtorEq, Nat.reduceBEq, Nat.reduceLT, Nat.reduceMod, List.forall_mem_cons, Uq, Qh, Qj, Qa, QN, Qg, List.take_length, List.length_cons, List.length_nil, Nat.zero_add, QF, QS, QQ, QU, Zone.row, Qe, Qo, Pt.row, Qi, Qu, Aw.row, Qm, QA, Blk.row, Qb, Qk, Sec.row, Qc, Ql, Rw.row, Qn, QB, Qd, Int.toNat_natCast, Nat.sub_zero, List.length_map, Sky.row]
  refine QP (fun i : Nat => [(5, .int .i64 (KX (dS s) (w.take i))), (6, .int .i64 i)]) (fun _ => []) (fun i => 1 ≤ i ∧ i ≤ w.length + 1 ∧ 0 ≤ KX (dS s) (w.take i) ∧ KX (dS s) (w.take i) ≤ 15 * i) (fun i => w.length + 1 - i) 1 (by simp only [e0]; simp only [Jz, JA, JB, JC, Qw, Qx, Qy, Qz, reduceIte, Nat.reduceEqDiff]; exact ⟨by repeat' (first | exact trivial | refine ⟨.inr rfl, ?_⟩), by repeat' (first | exact trivial | refine ⟨rfl, ?_⟩), by first | rfl | simp [closedB, Qr, Qp, Qt, dom, Qf, *], by first | rfl | simp [keepB, dom]⟩) ⟨by omega, by omega, by rw [e0]; omega, by rw [e0]; omega⟩ ?_
  intro i hi NX hN
  have t1 : ((i : Int) - 1).toNat = i - 1 := by omega
  unfold Xt; simp (config := { maxSteps := 2000000 }) only [bitvec_to_nat, reduceIte, Nat.reduceEqDiff, Nat.reduceAdd, Nat.reduceLeDiff, reduceCtorEq, Nat.reduceBEq, Nat.reduceLT, Nat.reduceMod, List.forall_mem_cons, Uq, Qh, Qj, Qa, QN, Qg, List.take_length, List.length_cons, List.length_nil, Nat.zero_add, QF, QS, QQ, QU, Zone.row, Qe, Qo, Pt.row, Qi, Qu, Aw.row, Qm, QA, Blk.row, Qb, Qk, Sec.row, Qc, Ql, Rw.row, Qn, QB, Qd, Int.toNat_natCast, Nat.sub_zero, List.length_map, Sky.row, t1]
  refine ⟨fun h => ?_, fun h => ?_⟩
  · have h1 := hd i (by omega) (by omega)
    have h2 := QcA (d := dS s) (w := w) (i := i) (by omega) (by omega)
    refine ⟨by omega, by omega, by omega, by omega, by omega, ⟨⟨hs, hv, hw _ (Jl (by omega)), hw _ (Jl (by omega))⟩, ⟨by omega, by omega⟩, ⟨by omega, by omega⟩, ?_⟩⟩
    refine hN (i + 1) _ (by simp only [h2]; simp only [Jz, JA, JB, JC, Qw, Qx, Qy, Qz, reduceIte, Nat.reduceEqDiff]; exact ⟨by repeat' (first | exact trivial | refine ⟨.inr rfl, ?_⟩), by repeat' (first | exact trivial | refine ⟨rfl, ?_⟩), by first | rfl | simp [closedB, Qr, Qp, Qt, dom, Qf, *], by first | rfl | simp [keepB, dom]⟩) ⟨by omega, by omega, by omega, by omega⟩ (by omega)
  · have e : i = w.length ∨ w.take i = w := by
      rcases Nat.lt_or_ge w.length i with q | q
      · exact .inr (List.take_of_length_le (by omega))
      · exact .inl (by omega)
    have e2 : w.take i = w := e.elim (fun e => by rw [e, List.take_length]) id
    rw [e2]
end
end Go.Ve

namespace Go.Ve
noncomputable section
open Go.Proofs
set_option linter.unusedSimpArgs false
set_option linter.unusedVariables false
set_option maxRecDepth 100000
def G5 : List AV → Option (Prop × AV)
  | [.agg [.int .i64 s_w, .int .i64 s_h, .int .i64 s_lv, .sl 0 3 s_pts, .sl 0 2 s_aws, .sl 0 2 s_secs, .sl 0 4 s_rws], .sl wt 1 wx] => some ((((s_pts.map QO).map Pt.row = s_pts) ∧ ((s_aws.map QR).map (Aw.row 0) = s_aws) ∧ ((s_secs.map Qv).map (Sec.row 0) = s_secs) ∧ ((s_rws.map QT).map Rw.row = s_rws) ∧ ((wx.map unS).map QF = wx)) ∧ (Sky.small (Sky.mk s_w s_h s_lv (s_pts.map QO) (s_aws.map QR) (s_secs.map Qv) (s_rws.map QT)) ∧ Sky.valid (Sky.mk s_w s_h s_lv (s_pts.map QO) (s_aws.map QR) (s_secs.map Qv) (s_rws.map QT)) ∧ (∀ z ∈ (wx.map unS), 0 ≤ JD (Sky.pts (Sky.mk s_w s_h s_lv (s_pts.map QO) (s_aws.map QR) (s_secs.map Qv) (s_rws.map QT))) z) ∧ (wx.map unS).length ≤ 1048576), .int .i64 (KX (dS (Sky.mk s_w s_h s_lv (s_pts.map QO) (s_aws.map QR) (s_secs.map Qv) (s_rws.map QT))) (wx.map unS)))
  | _ => none
theorem QeJ : ∀ args p v, G5 args = some (p, v) → p → Contract P 20 args [] v [] ∧ noref v = true ∧ No99 v := by
  intro args p v h1 h2
  unfold G5 at h1
  split at h1
  · rename_i s_w s_h s_lv s_pts s_aws s_secs s_rws wt wx
    cases h1
    obtain ⟨⟨e0, e1, e2, e3, e4⟩, HP⟩ := h2
    have := QiD (Sky.mk s_w s_h s_lv (s_pts.map QO) (s_aws.map QR) (s_secs.map Qv) (s_rws.map QT)) wt (wx.map unS) HP.1 HP.2.1 HP.2.2.1 HP.2.2.2
    exact ⟨by simpa only [e0, e1, e2, e3, e4, Sky.row] using this, rfl, trivial⟩
  · cases h1
theorem Qlz : ∀ {a b : List Nm} {i : Nat}, a.length = b.length → i < a.length → (∀ j, j < i → a.getD j default = b.getD j default) → a.getD i default ≠ b.getD i default → (lx a b ↔ slt (a.getD i default) (b.getD i default))
  | [], _, i, _, h, _, _ => by simp at h
  | _ :: _, [], i, h, _, _, _ => by simp at h
  | x :: a, y :: b, 0, h, hi, k, n => by
    simp only [List.getD_cons_zero] at n ⊢
    simp only [lx, n, false_and, or_false]
  | x :: a, y :: b, i + 1, h, hi, k, n => by
    have e := k 0 (by omega)
    simp only [List.getD_cons_zero] at e
    subst e
    have ih := Qlz (a := a) (b := b) (i := i) (by simpa using h) (by simpa using hi) (fun j hj => by simpa using k (j + 1) (by omega)) (by simpa using n)
    simp only [lx, Jw, false_or, true_and, List.getD_cons_succ, ih]
theorem Qi2 {a b : List Nm} (h : a.length = b.length) (k : ∀ j, j < a.length → a.getD j default = b.getD j default) : a = b := List.ext_getElem h fun i h1 h2 => by have := k i h1; simpa [h1, h2] using this
noncomputable instance (d : Nm → Nm → Int) (a b : List Nm) : Decidable (bt d a b) := Classical.propDecidable _
noncomputable instance (d : Nm → Nm → Int) (a b : List Nm) : Decidable (b = [] ∨ bt d a b) := Classical.propDecidable _
set_option maxHeartbeats 1000000 in
theorem Qfl (s : Sky) (t t' : Nat) (a b : List Nm) (hs : s.small) (hv : s.valid) (ha : ∀ z ∈ a, 0 ≤ JD s.pts z) (hb : ∀ z ∈ b, 0 ≤ JD s.pts z) (hla : a.length ≤ 1048576) (hlb : b.length ≤ 1048576) : Contract P 91 [.agg (s.row 0), .sl t 1 (a.map QF), .sl t' 1 (b.map QF)] [] (.bool (decide (b = [] ∨ bt (dS s) a b))) [] := by
  refine Qs ((Env.nil P).add 20 G5 QeJ) hm Wn (Nat.le_of_ble_eq_true rfl) rfl ?_; unfold XF; simp (config := { maxSteps := 2000000 }) only [bitvec_to_nat, reduceIte, Nat.reduceEqDiff, Nat.reduceAdd, Nat.reduceLeDiff, reduceCtorEq, Nat.reduceBEq, Nat.reduceLT, Nat.reduceMod, List.forall_mem_cons, G5, Qh, Qj, Qa, QN, Qg, List.take_length, List.length_cons, List.length_nil, Nat.zero_add, QF, QS, QQ, QU, Zone.row, Qe, Qo, Pt.row, Qi, Qu, Aw.row, Qm, QA, Blk.row, Qb, Qk, Sec.row, Qc, Ql, Rw.row, Qn, QB, Qd, Int.toNat_natCast, Nat.sub_zero, List.length_map, Sky.row]
  refine ⟨fun h => ?_, fun h => ⟨⟨hs, hv, ha, hla⟩, ⟨hs, hv, hb, hlb⟩, fun h2 => ?_, fun h2 => ⟨fun h3 => ?_, fun h3 => ?_⟩⟩⟩
  · left; exact List.length_eq_zero_iff.1 (by omega)
  · refine ⟨⟨hs, hv, ha, hla⟩, ⟨hs, hv, hb, hlb⟩, ?_⟩
    have hne : b ≠ [] := fun e => h (by rw [e]; rfl)
    rw [decide_eq_decide]
    unfold bt
    exact ⟨fun q => .inr (.inl q), fun q => (q.resolve_left hne).elim id fun q => absurd q.1 h2⟩
  · have hne : b ≠ [] := fun e => h (by rw [e]; rfl)
    rw [decide_eq_decide]
    unfold bt
    exact ⟨fun q => .inr (.inr ⟨h2, .inl (by omega)⟩), fun q => (q.resolve_left hne).elim (fun q => by omega) fun q => q.2.elim (fun q => by omega) fun q => by omega⟩
  · have hl : a.length = b.length := by omega
    refine QP (fun i : Nat => [(7, .int .i64 i)]) (fun _ => []) (fun i => i ≤ a.length ∧ ∀ j, j < i → a.getD j default = b.getD j default) (fun i => a.length - i) 0 (by simp only [Jz, JA, JB, JC, Qw, Qx, Qy, Qz, reduceIte, Nat.reduceEqDiff]; exact ⟨by repeat' (first | exact trivial | refine ⟨.inr rfl, ?_⟩), by repeat' (first | exact trivial | refine ⟨rfl, ?_⟩), by first | rfl | simp [closedB, Qr, Qp, Qt, dom, Qf, *], by first | rfl | simp [keepB, dom]⟩) ⟨Nat.zero_le _, by intro j hj; omega⟩ ?_
    intro i hi NX hN
    unfold GN; simp (config := { maxSteps := 2000000 }) only [bitvec_to_nat, reduceIte, Nat.reduceEqDiff, Nat.reduceAdd, Nat.reduceLeDiff, reduceCtorEq, Nat.reduceBEq, Nat.reduceLT, Nat.reduceMod, List.forall_mem_cons, G5, Qh, Qj, Qa, QN, Qg, List.take_length, List.length_cons, List.length_nil, Nat.zero_add, QF, QS, QQ, QU, Zone.row, Qe, Qo, Pt.row, Qi, Qu, Aw.row, Qm, QA, Blk.row, Qb, Qk, Sec.row, Qc, Ql, Rw.row, Qn, QB, Qd, Int.toNat_natCast, Nat.sub_zero, List.length_map, Sky.row]
    have hne : b ≠ [] := fun e => h (by rw [e]; rfl)
    have hbt : (b = [] ∨ bt (dS s) a b) ↔ lx a b := by
      unfold bt
      exact ⟨fun q => (q.resolve_left hne).elim (fun q => by omega) fun q => q.2.elim (fun q => by omega) fun q => q.2, fun q => .inr (.inr ⟨h2, .inr ⟨hl, q⟩⟩)⟩
    refine ⟨fun q => ⟨by omega, q, by omega, by omega, fun e => ⟨by omega, ?_⟩, fun e => ⟨by omega, q, by omega, by omega, ?_⟩⟩, fun q => ?_⟩
    · refine hN (i + 1) _ (by simp only [Jz, JA, JB, JC, Qw, Qx, Qy, Qz, reduceIte, Nat.reduceEqDiff]; exact ⟨by repeat' (first | exact trivial | refine ⟨.inr rfl, ?_⟩), by repeat' (first | exact trivial | refine ⟨rfl, ?_⟩), by first | rfl | simp [closedB, Qr, Qp, Qt, dom, Qf, *], by first | rfl | simp [keepB, dom]⟩) ?_ ?_
      · refine ⟨by omega, fun j hj => ?_⟩
        rcases Nat.lt_or_ge j i with q2 | q2
        · exact hi.2 j q2
        · rw [show j = i from by omega]; exact e
      · omega
    · rw [decide_eq_decide, hbt, Qlz hl (by omega) hi.2 e]
    · rw [hbt, Qi2 hl fun j hj => hi.2 j (by omega)]; exact V8 _
def JI : List AV → Option (Prop × AV)
  | [.agg [.int .i64 s_w, .int .i64 s_h, .int .i64 s_lv, .sl 0 3 s_pts, .sl 0 2 s_aws, .sl 0 2 s_secs, .sl 0 4 s_rws], .sl ut 1 ux, .sl vt 1 vx] => some ((((s_pts.map QO).map Pt.row = s_pts) ∧ ((s_aws.map QR).map (Aw.row 0) = s_aws) ∧ ((s_secs.map Qv).map (Sec.row 0) = s_secs) ∧ ((s_rws.map QT).map Rw.row = s_rws) ∧ ((ux.map unS).map QF = ux) ∧ ((vx.map unS).map QF = vx)) ∧ (Sky.small (Sky.mk s_w s_h s_lv (s_pts.map QO) (s_aws.map QR) (s_secs.map Qv) (s_rws.map QT)) ∧ Sky.valid (Sky.mk s_w s_h s_lv (s_pts.map QO) (s_aws.map QR) (s_secs.map Qv) (s_rws.map QT)) ∧ (∀ z ∈ (ux.map unS), 0 ≤ JD (Sky.pts (Sky.mk s_w s_h s_lv (s_pts.map QO) (s_aws.map QR) (s_secs.map Qv) (s_rws.map QT))) z) ∧ (∀ z ∈ (vx.map unS), 0 ≤ JD (Sky.pts (Sky.mk s_w s_h s_lv (s_pts.map QO) (s_aws.map QR) (s_secs.map Qv) (s_rws.map QT))) z) ∧ (ux.map unS).length ≤ 1048576 ∧ (vx.map unS).length ≤ 1048576), .bool (decide ((vx.map unS) = [] ∨ bt (dS (Sky.mk s_w s_h s_lv (s_pts.map QO) (s_aws.map QR) (s_secs.map Qv) (s_rws.map QT))) (ux.map unS) (vx.map unS))))
  | _ => none
theorem Qfm : ∀ args p v, JI args = some (p, v) → p → Contract P 91 args [] v [] ∧ noref v = true ∧ No99 v := by
  intro args p v h1 h2
  unfold JI at h1
  split at h1
  · rename_i s_w s_h s_lv s_pts s_aws s_secs s_rws ut ux vt vx
    cases h1
    obtain ⟨⟨e0, e1, e2, e3, e4, e5⟩, HP⟩ := h2
    have := Qfl (Sky.mk s_w s_h s_lv (s_pts.map QO) (s_aws.map QR) (s_secs.map Qv) (s_rws.map QT)) ut vt (ux.map unS) (vx.map unS) HP.1 HP.2.1 HP.2.2.1 HP.2.2.2.1 HP.2.2.2.2.1 HP.2.2.2.2.2
    exact ⟨by simpa only [e0, e1, e2, e3, e4, e5, Sky.row] using this, rfl, trivial⟩
  · cases h1
end
end Go.Ve

namespace Go.Ve
noncomputable section
open Go.Proofs
set_option linter.unusedSimpArgs false
set_option linter.unusedVariables false
set_option maxRecDepth 100000
def UZ (l : List Nm) : List AV := [.sl 0 1 (l.map QF)]
theorem Ji (s : Sky) : (Jj s).length = s.pts.length := List.length_map ..
theorem GT {s : Sky} {i : Nat} (h : i < s.pts.length) : (Jj s).getD i default = (s.pts.getD i default).nm := by simp [Jj, h]
theorem Wy {α : Type} (F : α → St) (good : α → Prop) (μ : α → Nat) (a0 : α) {body : (XT → St → Prop) → St → Prop} {Q : XT → St → Prop} {st : St}
    (h0 : Wk st (F a0)) (g0 : good a0)
    (step : ∀ a, good a → ∀ NX : St → Prop, (∀ a' st', Wk st' (F a') → good a' → μ a' < μ a → NX st') → body (ZE NX Q) (F a)) : VY body Q st :=
  QfV F good μ a0 h0 g0 fun a ga => step a ga _ fun a' st' h1 h2 h3 => ⟨μ a', _, h1, ⟨a', rfl, h2, rfl⟩, h3⟩
theorem Qkt {f : Nat → Nm} {n : Nat} (h : ∀ i, 0 < i → i < n → slt (f (i - 1)) (f i)) : ∀ j i, j < i → i < n → slt (f j) (f i) := by
  intro j i
  induction i with
  | zero => intro h1; omega
  | succ i ih =>
    intro h1 h2
    have q := h (i + 1) (by omega) h2
    rw [Nat.add_sub_cancel] at q
    rcases Nat.lt_or_ge j i with q1 | q1
    · exact QbZ (ih q1 (by omega)) q
    · rw [show j = i from by omega]; exact q
theorem Qgy {s : Sky} (hv : s.valid) {i j : Nat} (hi : i < s.pts.length) (hj : j < s.pts.length) (e : (s.pts.getD i default).nm = (s.pts.getD j default).nm) : i = j := by
  have hm := Qkt (f := fun i => (s.pts.getD i default).nm) (n := s.pts.length) fun i h0 hi => (hv.2.1.2 i hi).2.1 h0
  rcases Nat.lt_trichotomy i j with q | q | q
  · have := hm i j q hj; simp only [e] at this; exact absurd this (Jw _)
  · exact q
  · have := hm j i q hi; simp only [e] at this; exact absurd this (Jw _)
/-- What spec's list of ways keeps to. -/
def WI (s : Sky) (to : Nm) (B : List (List Nm)) : Prop := Qma (YN s) (Jj s) to B ∧ ∀ i, i < s.pts.length → (B.getD i []).Nodup
theorem WI.nm {s : Sky} {to : Nm} {B : List (List Nm)} (hv : s.valid) (h : WI s to B) {i : Nat} (hi : i < s.pts.length) : ∀ z ∈ B.getD i [], 0 ≤ JD s.pts z := fun z hz => by
  have hw := h.1.2 i (by rw [Ji]; exact hi) (fun e => by rw [e] at hz; cases hz)
  refine Wx (QaP (fun a b h => XP hv h) hw ?_ z hz)
  rw [GT hi]
  exact List.mem_map.2 ⟨_, Jl hi, rfl⟩
theorem WI.len {s : Sky} {to : Nm} {B : List (List Nm)} (hv : s.valid) (h : WI s to B) {i : Nat} (hi : i < s.pts.length) : (B.getD i []).length ≤ 16 := by
  have := Gw (h.2 i hi) fun z hz => Up (h.nm hv hi z hz)
  rw [Ji] at this
  exact Nat.le_trans this hv.2.1.1
theorem WI.start {s : Sky} {to : Nm} (hv : s.valid) (ht : 0 ≤ JD s.pts to) : WI s to ((List.replicate s.pts.length []).set (JD s.pts to).toNat [to]) ∧ Dn (YN s) (dS s) (Jj s) to ((List.replicate s.pts.length []).set (JD s.pts to).toNat [to]) s.pts.length 1 := by
  obtain ⟨p1, p2, p3⟩ := Gs ht
  generalize (JD s.pts to).toNat = p at p1 p2
  have g1 : ((List.replicate s.pts.length ([] : List Nm)).set p [to]).getD p [] = [to] := by simp [List.getD_eq_getElem?_getD, p1]
  have g2 : ∀ i, i ≠ p → ((List.replicate s.pts.length ([] : List Nm)).set p [to]).getD i [] = [] := fun i hi => by
    rw [List.getD_eq_getElem?_getD, List.getElem?_set_ne (Ne.symm hi), List.getElem?_replicate]; split <;> rfl
  refine ⟨⟨⟨by simp [Ji], fun i hi hne => ?_⟩, fun i hi => ?_⟩, fun i hi m hm hl => ?_⟩
  · by_cases e : i = p
    · subst e; rw [g1, GT (by rwa [Ji] at hi)]; exact ⟨p2.symm, rfl⟩
    · exact absurd (g2 i e) hne
  · by_cases e : i = p
    · subst e; rw [g1]; simp
    · rw [g2 i e]; simp
  · match m, hm, hl with
    | [], hm, _ => exact hm.1.elim
    | [x], hm, _ =>
      obtain ⟨h1, h2⟩ := hm.1
      rw [GT hi] at h1
      have e : i = p := Qgy hv hi p1 (by rw [← h1, h2, p2])
      rw [e, g1, ← h2]
    | x :: y :: t, _, hl => simp at hl
def Qgz (s : Sky) (to : Nm) (B : List (List Nm)) : Prop := Qma (YN s) (Jj s) to B ∧ Dn (YN s) (dS s) (Jj s) to B s.pts.length s.pts.length ∧ ∀ i, i < s.pts.length → (B.getD i []).length ≤ 16
set_option maxHeartbeats 4000000 in
theorem QiE (s : Sky) (to : Nm) (hs : s.small) (hv : s.valid) (ht : 0 ≤ JD s.pts to) : ∃ B, Qgz s to B ∧ Contract P 72 [.agg (s.row 0), .str to] [] (.sl 0 1 (B.map UZ)) [] := by
  obtain ⟨p1, p2, p3⟩ := Gs ht
  have tkw : True := trivial
  have el_w1 : True := trivial
  have tk1 : ∀ (a : Nm) (l : List Nm), List.take (1 + l.length) ([AV.str a] :: l.map QF) = (a :: l).map QF := fun a l => List.take_of_length_le (by simp; omega)
  have hs' := hs
  unfold Sky.small at hs'
  refine QbW (((((Env.nil P).add 71 Q2 GQ).add 89 KK QiC).add 90 Gt Qks).add 91 JI Qfm) Go.Ve.hm WM (Nat.le_of_ble_eq_true rfl) rfl (Qgz s to) (fun B => .sl 0 1 (B.map UZ)) (fun _ => []) ?_
  unfold X8
  simp only [Sky.row]
  simp (config := { maxSteps := 2000000 }) only [bitvec_to_nat, reduceIte, Nat.reduceEqDiff, Nat.reduceAdd, Nat.reduceLeDiff, reduceCtorEq, Nat.reduceBEq, Nat.reduceLT, Nat.reduceMod, List.forall_mem_cons, Q4, Jd, Q3, JG, keepB, Je, Kb, Q2, KK, Gt, JI, Qh, Qj, Qa, QN, Qg, List.take_length, List.length_cons, List.length_nil, Nat.zero_add, QF, QS, QQ, QU, Zone.row, Qe, Qo, Pt.row, Qi, Qu, Aw.row, Qm, QA, Blk.row, Qb, Qk, Sec.row, Qc, Ql, Rw.row, Qn, QB, Qd, Int.toNat_natCast, Nat.sub_zero, List.length_map, UZ, tkw, el_w1, List.append_nil]
  obtain ⟨w0, d0⟩ := WI.start hv ht
  have eS : (List.replicate s.pts.length [AV.sl 0 1 []]).set (JD s.pts to).toNat (Jc ((List.replicate s.pts.length [AV.sl 0 1 []]).getD (JD s.pts to).toNat []) 0 [AV.sl 0 1 [[AV.str to]]]) = ((List.replicate s.pts.length []).set (JD s.pts to).toNat [to]).map UZ := by
    rw [List.map_set, List.map_replicate]
    have : (List.replicate s.pts.length [AV.sl 0 1 []]).getD (JD s.pts to).toNat [] = [AV.sl 0 1 []] := by simp [p1]
    rw [this]
    rfl
  rw [eS]
  refine ⟨⟨by omega, by omega⟩, by omega, ⟨by omega, by omega⟩, ?_⟩
  have hN : ∀ a b, YN s a b → b ∈ Jj s := fun a b h => XP hv h
  have cl : ∀ (E : List (Nat × AV)) (B : List (List Nm)), (E.all fun q => Qr [102, 113] q.2) = true → closedB ⟨E, [(102, .box [.int .i64 s.w, .int .i64 s.h, .int .i64 s.lv, .sl 0 3 (s.pts.map Pt.row), .sl 0 2 (s.aws.map (Aw.row 0)), .sl 0 2 (s.secs.map (Sec.row 0)), .sl 0 4 (s.rws.map Rw.row)]), (113, .arr 39 0 1 ((B).map UZ))]⟩ = true := fun E B hE => by
    simp only [closedB, Bool.and_eq_true]
    exact ⟨hE, by simp [Qt, Qp, Qr]⟩
  refine Wy (fun a : Nat × List (List Nm) => ⟨[(2, .ptr 102 0), (5, .own 113 0 0 s.pts.length), (6, .int .i64 (a.1 : Nat))], [(102, .box [.int .i64 s.w, .int .i64 s.h, .int .i64 s.lv, .sl 0 3 (s.pts.map Pt.row), .sl 0 2 (s.aws.map (Aw.row 0)), .sl 0 2 (s.secs.map (Sec.row 0)), .sl 0 4 (s.rws.map Rw.row)]), (113, .arr 39 0 1 ((a.2).map UZ))]⟩) (fun a => a.1 ≤ s.pts.length ∧ WI s to a.2 ∧ Dn (YN s) (dS s) (Jj s) to a.2 s.pts.length (a.1 + 1)) (fun a => s.pts.length - a.1) (0, (List.replicate s.pts.length []).set (JD s.pts to).toNat [to]) ?_ ⟨Nat.zero_le _, w0, d0⟩ ?_
  · exact ⟨by repeat' (first | exact trivial | refine ⟨.inr rfl, ?_⟩), ⟨rfl, rfl, trivial⟩, cl _ _ (by simp [Qr]), by simp [keepB, dom]⟩
  rintro ⟨n, B⟩ ⟨hn, hw, hd⟩ NX hN1
  simp only at hn hw hd ⊢
  have hW := hw
  by_cases hlt : n < s.pts.length
  · unfold K1; simp (config := { maxSteps := 2000000 }) only [bitvec_to_nat, reduceIte, Nat.reduceEqDiff, Nat.reduceAdd, Nat.reduceLeDiff, reduceCtorEq, Nat.reduceBEq, Nat.reduceLT, Nat.reduceMod, List.forall_mem_cons, Q4, Jd, Q3, JG, keepB, Je, Kb, Q2, KK, Gt, JI, Qh, Qj, Qa, QN, Qg, List.take_length, List.length_cons, List.length_nil, Nat.zero_add, QF, QS, QQ, QU, Zone.row, Qe, Qo, Pt.row, Qi, Qu, Aw.row, Qm, QA, Blk.row, Qb, Qk, Sec.row, Qc, Ql, Rw.row, Qn, QB, Qd, Int.toNat_natCast, Nat.sub_zero, List.length_map, UZ, tkw, el_w1, List.append_nil]
    refine ⟨fun _ => ?_, fun h => absurd (by omega) h⟩
    refine Wy (fun a : Nat × List (List Nm) => ⟨[(2, .ptr 102 0), (5, .own 113 0 0 s.pts.length), (6, .int .i64 (n : Nat)), (7, .int .i64 (a.1 : Nat))], [(102, .box [.int .i64 s.w, .int .i64 s.h, .int .i64 s.lv, .sl 0 3 (s.pts.map Pt.row), .sl 0 2 (s.aws.map (Aw.row 0)), .sl 0 2 (s.secs.map (Sec.row 0)), .sl 0 4 (s.rws.map Rw.row)]), (113, .arr 39 0 1 ((a.2).map UZ))]⟩) (fun a => a.1 ≤ s.pts.length ∧ WI s to a.2 ∧ Dn (YN s) (dS s) (Jj s) to a.2 s.pts.length (n + 1) ∧ Dn (YN s) (dS s) (Jj s) to a.2 a.1 (n + 2)) (fun a => s.pts.length - a.1) (0, B) ?_ ⟨Nat.zero_le _, hw, hd, fun i hi => absurd hi (by omega)⟩ ?_
    · exact ⟨by repeat' (first | exact trivial | refine ⟨.inr rfl, ?_⟩), ⟨rfl, rfl, trivial⟩, cl _ _ (by simp [Qr]), by simp [keepB, dom]⟩
    clear hW hw hd
    rintro ⟨i, B⟩ ⟨hi, hw, hd, hI⟩ NX2 hN2
    simp only at hi hw hd hI ⊢
    by_cases hil : i < s.pts.length
    · unfold K0; simp (config := { maxSteps := 2000000 }) only [bitvec_to_nat, reduceIte, Nat.reduceEqDiff, Nat.reduceAdd, Nat.reduceLeDiff, reduceCtorEq, Nat.reduceBEq, Nat.reduceLT, Nat.reduceMod, List.forall_mem_cons, Q4, Jd, Q3, JG, keepB, Je, Kb, Q2, KK, Gt, JI, Qh, Qj, Qa, QN, Qg, List.take_length, List.length_cons, List.length_nil, Nat.zero_add, QF, QS, QQ, QU, Zone.row, Qe, Qo, Pt.row, Qi, Qu, Aw.row, Qm, QA, Blk.row, Qb, Qk, Sec.row, Qc, Ql, Rw.row, Qn, QB, Qd, Int.toNat_natCast, Nat.sub_zero, List.length_map, UZ, tkw, el_w1, List.append_nil]
      refine ⟨fun _ => ?_, fun h => absurd (by omega) h⟩
      refine Wy (fun a : Nat × List (List Nm) => ⟨[(2, .ptr 102 0), (5, .own 113 0 0 s.pts.length), (6, .int .i64 (n : Nat)), (7, .int .i64 (i : Nat)), (8, .int .i64 (a.1 : Nat))], [(102, .box [.int .i64 s.w, .int .i64 s.h, .int .i64 s.lv, .sl 0 3 (s.pts.map Pt.row), .sl 0 2 (s.aws.map (Aw.row 0)), .sl 0 2 (s.secs.map (Sec.row 0)), .sl 0 4 (s.rws.map Rw.row)]), (113, .arr 39 0 1 ((a.2).map UZ))]⟩) (fun a => a.1 ≤ s.pts.length ∧ WI s to a.2 ∧ Dn (YN s) (dS s) (Jj s) to a.2 s.pts.length (n + 1) ∧ Dn (YN s) (dS s) (Jj s) to a.2 i (n + 2) ∧ Kn (YN s) (dS s) (Jj s) to a.2 i a.1 (n + 1)) (fun a => s.pts.length - a.1) (0, B) ?_ ⟨Nat.zero_le _, hw, hd, hI, fun k hk => absurd hk (by omega)⟩ ?_
      · exact ⟨by repeat' (first | exact trivial | refine ⟨.inr rfl, ?_⟩), ⟨rfl, rfl, trivial⟩, cl _ _ (by simp [Qr]), by simp [keepB, dom]⟩
      clear hw hd hI
      rintro ⟨k, B⟩ ⟨hk, hw, hd, hI, hK⟩ NX3 hN3
      simp only at hk hw hd hI hK ⊢
      have hBl : B.length = s.pts.length := by rw [hw.1.1, Ji]
      by_cases hkl : k < s.pts.length
      · unfold KZ; simp (config := { maxSteps := 2000000 }) only [bitvec_to_nat, reduceIte, Nat.reduceEqDiff, Nat.reduceAdd, Nat.reduceLeDiff, reduceCtorEq, Nat.reduceBEq, Nat.reduceLT, Nat.reduceMod, List.forall_mem_cons, Q4, Jd, Q3, JG, keepB, Je, Kb, Q2, KK, Gt, JI, Qh, Qj, Qa, QN, Qg, List.take_length, List.length_cons, List.length_nil, Nat.zero_add, QF, QS, QQ, QU, Zone.row, Qe, Qo, Pt.row, Qi, Qu, Aw.row, Qm, QA, Blk.row, Qb, Qk, Sec.row, Qc, Ql, Rw.row, Qn, QB, Qd, Int.toNat_natCast, Nat.sub_zero, List.length_map, UZ, tkw, el_w1, List.append_nil]
        simp only [show (default : List Nm) = [] from rfl, tk1, QQ]
        have hi' : i < (Jj s).length := by rw [Ji]; exact hil
        have hk' : k < (Jj s).length := by rw [Ji]; exact hkl
        have hd' : Dn (YN s) (dS s) (Jj s) to B (Jj s).length (n + 1) := by rw [Ji]; exact hd
        have eni := GT hil
        have enk := GT hkl
        have sk : (B.getD k [] = [] ∨ ¬ YN s (s.pts.getD i default).nm (s.pts.getD k default).nm ∨ (s.pts.getD i default).nm ∈ B.getD k []) → Kn (YN s) (dS s) (Jj s) to B i (k + 1) (n + 1) := fun h => Qf7 (Qiy s) hi' hk' hd' hK (by rw [eni, enk]; exact h)
        have skN : (B.getD k [] = [] ∨ ¬ YN s (s.pts.getD i default).nm (s.pts.getD k default).nm ∨ (s.pts.getD i default).nm ∈ B.getD k []) → NX3 ⟨[(2, .ptr 102 0), (5, .own 113 0 0 s.pts.length), (6, .int .i64 (n : Nat)), (7, .int .i64 (i : Nat)), (8, .int .i64 ((k : Nat) + 1))], [(102, .box [.int .i64 s.w, .int .i64 s.h, .int .i64 s.lv, .sl 0 3 (s.pts.map Pt.row), .sl 0 2 (s.aws.map (Aw.row 0)), .sl 0 2 (s.secs.map (Sec.row 0)), .sl 0 4 (s.rws.map Rw.row)]), (113, .arr 39 0 1 ((B).map UZ))]⟩ := fun h =>
          hN3 (k + 1, B) _ ⟨by repeat' (first | exact trivial | refine ⟨.inr rfl, ?_⟩), ⟨rfl, rfl, trivial⟩, cl _ _ (by simp [Qr]), by simp [keepB, dom]⟩ ⟨by simp only; omega, hw, hd, hI, sk h⟩ (by simp only; omega)
        refine ⟨fun _ => ⟨⟨by omega, by omega⟩, by omega, fun h1 => ⟨by omega, skN (.inl (List.length_eq_zero_iff.1 (by omega)))⟩, fun h1 => ⟨by omega, by omega, by omega, by omega, hs, fun h2 => ⟨⟨by omega, by omega⟩, by omega, by omega, by omega, by have := hw.len hv hkl; omega, fun h3 => ⟨by omega, skN (.inr (.inr h3))⟩, fun h3 => ?_⟩, fun h2 => ⟨by omega, skN (.inr (.inl h2))⟩⟩⟩, fun h => absurd (by omega) h⟩
        have hne : B.getD k [] ≠ [] := fun e => h1 (by rw [e]; rfl)
        have hlk := hw.len hv hkl
        have hli := hw.len hv hil
        have eR : ∀ w : List Nm, (B.map UZ).set i (Jc ((B.map UZ).getD i []) 0 [AV.sl 0 1 (w.map QF)]) = (B.set i w).map UZ := fun w => by
          rw [List.map_set]
          have : (B.map UZ).getD i [] = UZ (B.getD i []) := by simp [hBl, hil]
          rw [this]; rfl
        have step := fun B' => Qh0 (d := dS s) (to := to) (B := B) (B' := B') (r := n + 1) (r2 := n + 2) hi' hk' hw.1 hne (by rw [eni, enk]; exact h2) hd' hI hK
        rw [eni, Ji] at step
        have nd : ∀ j, j < s.pts.length → ((B.set i ((s.pts.getD i default).nm :: B.getD k [])).getD j []).Nodup := fun j hj => by
          by_cases e : j = i
          · subst e
            rw [show (B.set j ((s.pts.getD j default).nm :: B.getD k [])).getD j [] = (s.pts.getD j default).nm :: B.getD k [] from by simp [List.getD_eq_getElem?_getD, hBl, hil]]
            exact List.nodup_cons.2 ⟨h3, hw.2 k hkl⟩
          · rw [show (B.set i ((s.pts.getD i default).nm :: B.getD k [])).getD j [] = B.getD j [] from by simp [List.getD_eq_getElem?_getD, List.getElem?_set_ne (Ne.symm e)]]
            exact hw.2 j hj
        refine ⟨by omega, by omega, ⟨by omega, by omega⟩, by omega, by omega, ⟨by omega, by omega⟩, by omega, ⟨trivial, hs, hv, fun z hz => ?_, hw.nm hv hil, by omega, by omega⟩, fun h4 => ⟨⟨by omega, by omega⟩, by omega, ?_⟩, fun h4 => ⟨by omega, ?_⟩⟩
        · rcases List.mem_cons.1 hz with rfl | hz
          · exact Wx (List.mem_map.2 ⟨_, Jl hil, rfl⟩)
          · exact hw.nm hv hkl z hz
        · rw [eR]
          obtain ⟨g1, g2, g3, g4⟩ := step _ (.inl ⟨h4, rfl⟩)
          exact hN3 (k + 1, B.set i ((s.pts.getD i default).nm :: B.getD k [])) _ ⟨by repeat' (first | exact trivial | refine ⟨.inr rfl, ?_⟩), ⟨rfl, rfl, trivial⟩, cl _ _ (by simp [Qr]), by simp [keepB, dom]⟩ ⟨by simp only; omega, ⟨g1, nd⟩, g2, g3, g4⟩ (by simp only; omega)
        · obtain ⟨g1, g2, g3, g4⟩ := step _ (.inr ⟨h4, rfl⟩)
          exact hN3 (k + 1, B) _ ⟨by repeat' (first | exact trivial | refine ⟨.inr rfl, ?_⟩), ⟨rfl, rfl, trivial⟩, cl _ _ (by simp [Qr]), by simp [keepB, dom]⟩ ⟨by simp only; omega, hw, g2, g3, g4⟩ (by simp only; omega)
      · have ek : k = s.pts.length := by omega
        subst ek
        unfold KZ; simp (config := { maxSteps := 2000000 }) only [bitvec_to_nat, reduceIte, Nat.reduceEqDiff, Nat.reduceAdd, Nat.reduceLeDiff, reduceCtorEq, Nat.reduceBEq, Nat.reduceLT, Nat.reduceMod, List.forall_mem_cons, Q4, Jd, Q3, JG, keepB, Je, Kb, Q2, KK, Gt, JI, Qh, Qj, Qa, QN, Qg, List.take_length, List.length_cons, List.length_nil, Nat.zero_add, QF, QS, QQ, QU, Zone.row, Qe, Qo, Pt.row, Qi, Qu, Aw.row, Qm, QA, Blk.row, Qb, Qk, Sec.row, Qc, Ql, Rw.row, Qn, QB, Qd, Int.toNat_natCast, Nat.sub_zero, List.length_map, UZ, tkw, el_w1, List.append_nil]
        refine ⟨fun h => absurd h (by omega), fun _ => ⟨by omega, ?_⟩⟩
        have hi' : i < (Jj s).length := by rw [Ji]; exact hil
        have re := Qjx (d := dS s) hN hi' (show 1 ≤ n + 1 by omega) (by rw [Ji]; exact hd) hI (by rw [Ji]; exact hK)
        exact hN2 (i + 1, B) _ ⟨by repeat' (first | exact trivial | refine ⟨.inr rfl, ?_⟩), ⟨rfl, rfl, trivial⟩, cl _ _ (by simp [Qr]), by simp [keepB, dom]⟩ ⟨by simp only; omega, hw, hd, re⟩ (by simp only; omega)
    · have ei : i = s.pts.length := by omega
      subst ei
      unfold K0; simp (config := { maxSteps := 2000000 }) only [bitvec_to_nat, reduceIte, Nat.reduceEqDiff, Nat.reduceAdd, Nat.reduceLeDiff, reduceCtorEq, Nat.reduceBEq, Nat.reduceLT, Nat.reduceMod, List.forall_mem_cons, Q4, Jd, Q3, JG, keepB, Je, Kb, Q2, KK, Gt, JI, Qh, Qj, Qa, QN, Qg, List.take_length, List.length_cons, List.length_nil, Nat.zero_add, QF, QS, QQ, QU, Zone.row, Qe, Qo, Pt.row, Qi, Qu, Aw.row, Qm, QA, Blk.row, Qb, Qk, Sec.row, Qc, Ql, Rw.row, Qn, QB, Qd, Int.toNat_natCast, Nat.sub_zero, List.length_map, UZ, tkw, el_w1, List.append_nil]
      refine ⟨fun h => absurd h (by omega), fun _ => ⟨by omega, ?_⟩⟩
      exact hN1 (n + 1, B) _ ⟨by repeat' (first | exact trivial | refine ⟨.inr rfl, ?_⟩), ⟨rfl, rfl, trivial⟩, cl _ _ (by simp [Qr]), by simp [keepB, dom]⟩ ⟨by simp only; omega, hw, hI⟩ (by simp only; omega)
  · have en : n = s.pts.length := by omega
    subst en
    unfold K1; simp (config := { maxSteps := 2000000 }) only [bitvec_to_nat, reduceIte, Nat.reduceEqDiff, Nat.reduceAdd, Nat.reduceLeDiff, reduceCtorEq, Nat.reduceBEq, Nat.reduceLT, Nat.reduceMod, List.forall_mem_cons, Q4, Jd, Q3, JG, keepB, Je, Kb, Q2, KK, Gt, JI, Qh, Qj, Qa, QN, Qg, List.take_length, List.length_cons, List.length_nil, Nat.zero_add, QF, QS, QQ, QU, Zone.row, Qe, Qo, Pt.row, Qi, Qu, Aw.row, Qm, QA, Blk.row, Qb, Qk, Sec.row, Qc, Ql, Rw.row, Qn, QB, Qd, Int.toNat_natCast, Nat.sub_zero, List.length_map, UZ, tkw, el_w1, List.append_nil]
    refine ⟨fun h => absurd h (by omega), fun _ => ?_⟩
    exact ⟨B, ⟨hw.1, fun i hi m hm hl => hd i hi m hm (by omega), fun i hi => hw.len hv hi⟩, by rw [List.take_of_length_le (by rw [hw.1.1, Ji]; omega)]⟩
end
end Go.Ve

