/- Part 6 of the proof: laws and contracts of functions, each proved; they are joined in the last part. No conditions beyond those that the theorems state. -/
import Derived.Test.YtagikldfacbonaaGreatDoorSi5
set_option linter.all false
namespace Go.Ve
noncomputable section
open Go.Proofs
set_option linter.unusedSimpArgs false
set_option linter.unusedVariables false
set_option maxRecDepth 100000
open Go.ChangeShapes Go.WideShapes
theorem Qt1 (c d : Run)  : Contract P 109 [.agg (c.row), .agg (d.row)] [] (.bool (decide (c = d))) [] := by
  obtain ⟨c_fr, c_to, c_nm⟩ := c
  obtain ⟨d_fr, d_to, d_nm⟩ := d
  simp only [Run.row]
  refine Qt (Env.nil P) hm QeO (Nat.le_of_ble_eq_true rfl) rfl ?_; unfold WC; simp (config := { maxSteps := 2000000 }) only [bitvec_to_nat, reduceIte, Nat.reduceEqDiff, Nat.reduceAdd, Nat.reduceLeDiff, reduceCtorEq, Nat.reduceBEq, Nat.reduceLT, Nat.reduceMod, List.forall_mem_cons, Qk, Qm, Qa, Q3, Qh, List.take_length, List.length_cons, List.length_nil, Nat.zero_add, QH, QX, Q4, Q6, Zone.row, Qf, Qs, Word.row, Je, Own.row, Jy, Part.row, Jf, Seen.row, Jg, Book.row, Jh, Sector.row, QR, HCraft.row, QS, World.row, Q2, Pt.row, Ql, Aw.row, Qo, Blk.row, Qb, Sec.row, Qc, Rw.row, Qp, Sky.row, Qd, Place.row, QG, Run.row, QJ, SRow.row, QL, Hop.row, QM, Jx, JS, Jn, Jo, Jz, QY, QZ, Ji, QA, QB, Qj, Qn, QD, QO, QQ, Q5, QW, Q7]
  simp only [Run.mk.injEq]
  repeat' (first | with_reducible apply And.intro | with_reducible intro _)
  all_goals first | omega | (simp_all; done) | grind
def Qfb : List AV → Option (Prop × AV)
  | [.agg [.int .i64 c_fr, .int .i64 c_to, .str c_nm], .agg [.int .i64 d_fr, .int .i64 d_to, .str d_nm]] => some ((True) ∧ (True), .bool (decide ((Run.mk c_fr c_to c_nm) = (Run.mk d_fr d_to d_nm))))
  | _ => none
theorem Qt2 : ∀ args p v, Qfb args = some (p, v) → p → Contract P 109 args [] v [] ∧ noref v = true ∧ No99 v := by
  intro args p v h1 h2
  unfold Qfb at h1
  split at h1
  · rename_i c_fr c_to c_nm d_fr d_to d_nm
    cases h1
    obtain ⟨_, HP⟩ := h2
    have := Qt1 (Run.mk c_fr c_to c_nm) (Run.mk d_fr d_to d_nm)
    exact ⟨by simpa only [Run.row, Run.row] using this, rfl, trivial⟩
  · cases h1
theorem QrC (t t' : Nat) (p q : List Run) (hp : p.length ≤ 4611686018427387904) : Contract P 103 [.sl t 3 (p.map Run.row), .sl t' 3 (q.map Run.row)] [] (.bool (decide (p = q))) [] := by
  refine Qt ((Env.nil P).add 109 Qfb Qt2) hm Qdd (Nat.le_of_ble_eq_true rfl) rfl ?_; unfold VR; simp (config := { maxSteps := 2000000 }) only [bitvec_to_nat, reduceIte, Nat.reduceEqDiff, Nat.reduceAdd, Nat.reduceLeDiff, reduceCtorEq, Nat.reduceBEq, Nat.reduceLT, Nat.reduceMod, List.forall_mem_cons, Qfb, Qk, Qm, Qa, Q3, Qh, List.take_length, List.length_cons, List.length_nil, Nat.zero_add, QH, QX, Q4, Q6, Zone.row, Qf, Qs, Word.row, Je, Own.row, Jy, Part.row, Jf, Seen.row, Jg, Book.row, Jh, Sector.row, QR, HCraft.row, QS, World.row, Q2, Pt.row, Ql, Aw.row, Qo, Blk.row, Qb, Sec.row, Qc, Rw.row, Qp, Sky.row, Qd, Place.row, QG, Run.row, QJ, SRow.row, QL, Hop.row, QM, Jx, JS, Jn, Jo, Jz, QY, QZ, Ji, QA, QB, Qj, Qn, QD, QO, QQ, Q5, QW, Q7]
  refine ⟨fun h1 h => h1 (by rw [h]), fun h1 => ?_⟩
  refine QV (fun i : Nat => [(5, .int .i64 i)]) (fun _ => []) (fun i => i ≤ p.length ∧ ∀ j, j < i → p.getD j default = q.getD j default) (fun i => p.length - i) (0) (by simp only [JX, JY, JZ, J0, Qw, Qx, Qy, Qz, reduceIte, Nat.reduceEqDiff]; exact ⟨by repeat' (first | exact trivial | refine ⟨.inr rfl, ?_⟩), by repeat' (first | exact trivial | refine ⟨rfl, ?_⟩), by first | rfl | simp [closedB, Qr, Qg, Qi, dom, Qe, *], by first | rfl | simp [keepB, dom]⟩) ?_ ?_
  · exact ⟨Nat.zero_le _, by intro j hj; omega⟩
  intro i hi NX hN
  unfold Ul; simp (config := { maxSteps := 2000000 }) only [bitvec_to_nat, reduceIte, Nat.reduceEqDiff, Nat.reduceAdd, Nat.reduceLeDiff, reduceCtorEq, Nat.reduceBEq, Nat.reduceLT, Nat.reduceMod, List.forall_mem_cons, Qfb, Qk, Qm, Qa, Q3, Qh, List.take_length, List.length_cons, List.length_nil, Nat.zero_add, QH, QX, Q4, Q6, Zone.row, Qf, Qs, Word.row, Je, Own.row, Jy, Part.row, Jf, Seen.row, Jg, Book.row, Jh, Sector.row, QR, HCraft.row, QS, World.row, Q2, Pt.row, Ql, Aw.row, Qo, Blk.row, Qb, Sec.row, Qc, Rw.row, Qp, Sky.row, Qd, Place.row, QG, Run.row, QJ, SRow.row, QL, Hop.row, QM, Jx, JS, Jn, Jo, Jz, QY, QZ, Ji, QA, QB, Qj, Qn, QD, QO, QQ, Q5, QW, Q7]
  skip
  repeat' (first | with_reducible apply And.intro | with_reducible intro _)
  all_goals first
    | omega
    | (refine hN (i + 1) _ (by simp only [JX, JY, JZ, J0, Qw, Qx, Qy, Qz, reduceIte, Nat.reduceEqDiff]; exact ⟨by repeat' (first | exact trivial | refine ⟨.inr rfl, ?_⟩), by repeat' (first | exact trivial | refine ⟨rfl, ?_⟩), by first | rfl | simp [closedB, Qr, Qg, Qi, dom, Qe, *], by first | rfl | simp [keepB, dom]⟩) ?_ ?_
       · exact ⟨by omega, JB hi.2 (by with_reducible assumption)⟩
       · omega)
    | (intro h; subst h; exact absurd rfl (by with_reducible assumption))
    | (exact XR (by omega) fun j hj => hi.2 j (by omega))
    | grind
def QdR : List AV → Option (Prop × AV)
  | [.sl ct 3 cx, .sl dt 3 dx] => some ((((cx.map V2).map Run.row = cx) ∧ ((dx.map V2).map Run.row = dx)) ∧ ((cx.map V2).length ≤ 4611686018427387904), .bool (decide ((cx.map V2) = (dx.map V2))))
  | _ => none
theorem QrD : ∀ args p v, QdR args = some (p, v) → p → Contract P 103 args [] v [] ∧ noref v = true ∧ No99 v := by
  intro args p v h1 h2
  unfold QdR at h1
  split at h1
  · rename_i ct cx dt dx
    cases h1
    obtain ⟨⟨e0, e1⟩, HP⟩ := h2
    have := QrC ct dt (cx.map V2) (dx.map V2) HP
    exact ⟨by simpa only [e0, e1] using this, rfl, trivial⟩
  · cases h1
def Qjg (k : Int) : Run := ⟨k, k + 1, mtx (k + 1 + 1)⟩
def Qar (k : Int) (n : Nat) : List Run := (List.range n).map fun j : Nat => Qjg (k + 3 * (j : Int))
theorem Kb {k : Int} {n : Nat} : (Qar k n).length = n := by simp [Qar]
theorem Qf0 {k : Int} {n j : Nat} (h : j < n) : (Qar k n).getD j default = Qjg (k + 3 * (j : Int)) := by simp [Qar, h]
theorem Qfc {l : List Run} {i : Nat} {v : Int} : (l.map Run.row).set i (QT ((l.map Run.row).getD i []) 0 [.int .i64 v]) = (l.set i { l.getD i default with fr := v }).map Run.row :=
  JR (α := Run) (f := Run.row) (fun s => { s with fr := v }) fun x => by simp [Run.row, QT]
theorem Qfd {l : List Run} {i : Nat} {v : Int} : (l.map Run.row).set i (QT ((l.map Run.row).getD i []) 1 [.int .i64 v]) = (l.set i { l.getD i default with to := v }).map Run.row :=
  JR (α := Run) (f := Run.row) (fun s => { s with to := v }) fun x => by simp [Run.row, QT]
theorem Qfe {l : List Run} {i : Nat} {v : ByteArray} : (l.map Run.row).set i (QT ((l.map Run.row).getD i []) 2 [.str v]) = (l.set i { l.getD i default with nm := v }).map Run.row :=
  JR (α := Run) (f := Run.row) (fun s => { s with nm := v }) fun x => by simp [Run.row, QT]
set_option maxHeartbeats 1000000 in
theorem QmU (v : Nat) (k : Int) (a : List Run) (ha : a.length ≤ 1048577) (hk : 0 ≤ k ∧ k ≤ 1125899906842624) : Contract P 81 [.own 3 v 0 a.length, .int .i64 k] [(3, .arr 71 v 3 (a.map Run.row))] (.int .i64 (k + 3 * a.length)) [(3, .arr 71 v 3 ((Qar k a.length).map Run.row))] := by
  have hz : ((0 : Nat) : Int) = 0 := rfl
  have gs : True := trivial
  refine Qt ((Env.nil P).add 78 Q0 Ys) hm QbP (Nat.le_of_ble_eq_true rfl) rfl ?_; unfold Ue; simp (config := { maxSteps := 2000000 }) only [bitvec_to_nat, reduceIte, Nat.reduceEqDiff, Nat.reduceAdd, Nat.reduceLeDiff, reduceCtorEq, Nat.reduceBEq, Nat.reduceLT, Nat.reduceMod, List.forall_mem_cons, Qv, QE, Qu, Q9, keepB, QF, Jc, Q0, Qfc, Qfd, Qfe, List.set_set, gs, Run.row, QX, QH, Int.toNat_natCast, List.length_map, List.length_set, Nat.sub_zero, Nat.zero_add, hz]
  refine QV (fun b : Nat × List Run => [(1, .int .i64 (k + 3 * b.1)), (5, .int .i64 b.1)]) (fun b => [(3, .arr 71 v 3 (b.2.map Run.row))]) (fun b => b.2.length = a.length ∧ b.1 ≤ a.length ∧ ∀ j, j < b.1 → b.2.getD j default = Qjg (k + 3 * (j : Int))) (fun b => a.length - b.1) (0, a) ?_ ⟨rfl, Nat.zero_le _, fun j hj => absurd hj (Nat.not_lt_zero _)⟩ ?_
  · have e0 : k + 3 * ((0 : Nat) : Int) = k := by omega
    simp only [e0]
    simp only [JX, JY, JZ, J0, Qw, Qx, Qy, Qz, reduceIte, Nat.reduceEqDiff]; exact ⟨by repeat' (first | exact trivial | refine ⟨.inr rfl, ?_⟩), by repeat' (first | exact trivial | refine ⟨rfl, ?_⟩), by first | rfl | simp [closedB, Qr, Qg, Qi, dom, Qe, *], by first | rfl | simp [keepB, dom]⟩
  rintro ⟨i, l⟩ ⟨h1, h2, h3⟩ NX hN
  simp only at h1 h2 h3
  have gs : i < a.length → ∀ x : Run, (l.set i x).getD i default = x := fun h x => J3 (by omega)
  by_cases hi : i < a.length
  · have gs := gs hi
    have e5 : k + 3 * ((i + 1 : Nat) : Int) = k + 3 * (i : Int) + 1 + 1 + 1 := by omega
    unfold YN; simp (config := { maxSteps := 2000000 }) only [bitvec_to_nat, reduceIte, Nat.reduceEqDiff, Nat.reduceAdd, Nat.reduceLeDiff, reduceCtorEq, Nat.reduceBEq, Nat.reduceLT, Nat.reduceMod, List.forall_mem_cons, Qv, QE, Qu, Q9, keepB, QF, Jc, Q0, Qfc, Qfd, Qfe, List.set_set, gs, Run.row, QX, QH, Int.toNat_natCast, List.length_map, List.length_set, Nat.sub_zero, Nat.zero_add, hz]
    repeat' (first | with_reducible apply And.intro | with_reducible intro _)
    all_goals first
      | omega
      | (refine hN (i + 1, l.set i (Qjg (k + 3 * (i : Int)))) _ (by simp only [e5]; simp only [JX, JY, JZ, J0, Qw, Qx, Qy, Qz, reduceIte, Nat.reduceEqDiff]; exact ⟨by repeat' (first | exact trivial | refine ⟨.inr rfl, ?_⟩), by repeat' (first | exact trivial | refine ⟨rfl, ?_⟩), by first | rfl | simp [closedB, Qr, Qg, Qi, dom, Qe, *], by first | rfl | simp [keepB, dom]⟩) ⟨by simp only [List.length_set]; exact h1, hi, fun j hj => ?_⟩ (by simp only; omega)
         simp only at hj ⊢
         by_cases e : j = i
         · subst e; exact J3 (by omega)
         · rw [Kj (Ne.symm e)]; exact h3 j (by omega))
      | (exfalso; omega)
  · have hl : l = Qar k a.length := XR (by rw [Kb]; exact h1) fun j hj => by rw [Qf0 (by omega)]; exact h3 j (by omega)
    have hi' : ¬ (i : Int) < a.length := by omega
    unfold YN; simp (config := { maxSteps := 2000000 }) only [bitvec_to_nat, reduceIte, Nat.reduceEqDiff, Nat.reduceAdd, Nat.reduceLeDiff, reduceCtorEq, Nat.reduceBEq, Nat.reduceLT, Nat.reduceMod, List.forall_mem_cons, Qv, QE, Qu, Q9, keepB, QF, Jc, Q0, Qfc, Qfd, Qfe, List.set_set, gs, Run.row, QX, QH, Int.toNat_natCast, List.length_map, List.length_set, Nat.sub_zero, Nat.zero_add, hz, hi']
    refine ⟨by omega, ?_⟩
    rw [hl]
set_option maxHeartbeats 1000000 in
theorem QmV (t : Nat) (k : Int) (n : Nat) (ha : n ≤ 1048577) (hk : 0 ≤ k ∧ k ≤ 1125899906842624) : Contract P 82 [.sl t 3 ((Qar k n).map Run.row), .int .i64 k] [] (.int .i64 (k + 3 * n)) [] := by
  have hz : ((0 : Nat) : Int) = 0 := rfl
  refine Qt ((Env.nil P).add 78 Q0 Ys) hm QbQ (Nat.le_of_ble_eq_true rfl) rfl ?_; unfold Uf; simp (config := { maxSteps := 2000000 }) only [bitvec_to_nat, reduceIte, Nat.reduceEqDiff, Nat.reduceAdd, Nat.reduceLeDiff, reduceCtorEq, Nat.reduceBEq, Nat.reduceLT, Nat.reduceMod, List.forall_mem_cons, Q0, Run.row, QJ, QX, QH, Int.toNat_natCast, List.length_map, Nat.sub_zero, Nat.zero_add, hz, eq_self, Kb]
  refine QV (fun i : Nat => [(1, .int .i64 (k + 3 * i)), (5, .int .i64 i)]) (fun _ => []) (fun i => i ≤ n) (fun i => n - i) 0 ?_ (Nat.zero_le _) ?_
  · have e0 : k + 3 * ((0 : Nat) : Int) = k := by omega
    simp only [e0]
    simp only [JX, JY, JZ, J0, Qw, Qx, Qy, Qz, reduceIte, Nat.reduceEqDiff]; exact ⟨by repeat' (first | exact trivial | refine ⟨.inr rfl, ?_⟩), by repeat' (first | exact trivial | refine ⟨rfl, ?_⟩), by first | rfl | simp [closedB, Qr, Qg, Qi, dom, Qe, *], by first | rfl | simp [keepB, dom]⟩
  intro i hi NX hN
  have e5 : k + 3 * ((i + 1 : Nat) : Int) = k + 3 * (i : Int) + 1 + 1 + 1 := by omega
  by_cases h : i < n
  · have hg := Qf0 (k := k) h
    have h' : (i : Int) < n := by omega
    unfold YO; simp (config := { maxSteps := 2000000 }) only [bitvec_to_nat, reduceIte, Nat.reduceEqDiff, Nat.reduceAdd, Nat.reduceLeDiff, reduceCtorEq, Nat.reduceBEq, Nat.reduceLT, Nat.reduceMod, List.forall_mem_cons, Q0, Run.row, QJ, QX, QH, Int.toNat_natCast, List.length_map, Nat.sub_zero, Nat.zero_add, hz, eq_self, Kb, h', hg, Qjg, not_true_eq_false, ne_eq, bne_self_eq_false]
    repeat' (first | with_reducible apply And.intro | with_reducible intro _)
    all_goals first
      | omega
      | rfl
      | (rename_i h; exact absurd rfl h)
      | (refine hN (i + 1) _ (by simp only [e5]; simp only [JX, JY, JZ, J0, Qw, Qx, Qy, Qz, reduceIte, Nat.reduceEqDiff]; exact ⟨by repeat' (first | exact trivial | refine ⟨.inr rfl, ?_⟩), by repeat' (first | exact trivial | refine ⟨rfl, ?_⟩), by first | rfl | simp [closedB, Qr, Qg, Qi, dom, Qe, *], by first | rfl | simp [keepB, dom]⟩) ?_ ?_ <;> omega)
  · have h' : ¬ (i : Int) < n := by omega
    unfold YO; simp (config := { maxSteps := 2000000 }) only [bitvec_to_nat, reduceIte, Nat.reduceEqDiff, Nat.reduceAdd, Nat.reduceLeDiff, reduceCtorEq, Nat.reduceBEq, Nat.reduceLT, Nat.reduceMod, List.forall_mem_cons, Q0, Run.row, QJ, QX, QH, Int.toNat_natCast, List.length_map, Nat.sub_zero, Nat.zero_add, hz, eq_self, Kb, h']
    omega
def Zb : List AV → Option (Prop × AV)
  | [.sl _ 3 zx, .int .i64 k] => some (zx = (Qar k zx.length).map Run.row ∧ zx.length ≤ 1048577 ∧ (0 ≤ k ∧ k ≤ 1125899906842624), .int .i64 (k + 3 * (zx.length : Nat)))
  | _ => none
theorem QmW : ∀ args p v, Zb args = some (p, v) → p → Contract P 82 args [] v [] ∧ noref v = true ∧ No99 v := by
  intro args p v h1 h2
  unfold Zb at h1
  split at h1
  · rename_i t zx k
    cases h1
    obtain ⟨e1, h3, h4⟩ := h2
    have := QmV t k zx.length h3 h4
    rw [← e1] at this
    exact ⟨this, rfl, trivial⟩
  · cases h1
theorem Qt3 (c d : Hop)  : Contract P 73 [.agg (c.row), .agg (d.row)] [] (.bool (decide (c = d))) [] := by
  obtain ⟨c_fr, c_to, c_far, c_nx⟩ := c
  obtain ⟨d_fr, d_to, d_far, d_nx⟩ := d
  simp only [Hop.row]
  refine Qt (Env.nil P) hm QeE (Nat.le_of_ble_eq_true rfl) rfl ?_; unfold Wu; simp (config := { maxSteps := 2000000 }) only [bitvec_to_nat, reduceIte, Nat.reduceEqDiff, Nat.reduceAdd, Nat.reduceLeDiff, reduceCtorEq, Nat.reduceBEq, Nat.reduceLT, Nat.reduceMod, List.forall_mem_cons, Qk, Qm, Qa, Q3, Qh, List.take_length, List.length_cons, List.length_nil, Nat.zero_add, QH, QX, Q4, Q6, Zone.row, Qf, Qs, Word.row, Je, Own.row, Jy, Part.row, Jf, Seen.row, Jg, Book.row, Jh, Sector.row, QR, HCraft.row, QS, World.row, Q2, Pt.row, Ql, Aw.row, Qo, Blk.row, Qb, Sec.row, Qc, Rw.row, Qp, Sky.row, Qd, Place.row, QG, Run.row, QJ, SRow.row, QL, Hop.row, QM, Jx, JS, Jn, Jo, Jz, QY, QZ, Ji, QA, QB, Qj, Qn, QD, QO, QQ, Q5, QW, Q7]
  simp only [Hop.mk.injEq]
  repeat' (first | with_reducible apply And.intro | with_reducible intro _)
  all_goals first | omega | (simp_all; done) | grind
def Qff : List AV → Option (Prop × AV)
  | [.agg [.str c_fr, .str c_to, .int .i64 c_far, .str c_nx], .agg [.str d_fr, .str d_to, .int .i64 d_far, .str d_nx]] => some ((True) ∧ (True), .bool (decide ((Hop.mk c_fr c_to c_far c_nx) = (Hop.mk d_fr d_to d_far d_nx))))
  | _ => none
theorem Qt4 : ∀ args p v, Qff args = some (p, v) → p → Contract P 73 args [] v [] ∧ noref v = true ∧ No99 v := by
  intro args p v h1 h2
  unfold Qff at h1
  split at h1
  · rename_i c_fr c_to c_far c_nx d_fr d_to d_far d_nx
    cases h1
    obtain ⟨_, HP⟩ := h2
    have := Qt3 (Hop.mk c_fr c_to c_far c_nx) (Hop.mk d_fr d_to d_far d_nx)
    exact ⟨by simpa only [Hop.row, Hop.row] using this, rfl, trivial⟩
  · cases h1
theorem QrE (t t' : Nat) (p q : List Hop) (hp : p.length ≤ 4611686018427387904) : Contract P 29 [.sl t 4 (p.map Hop.row), .sl t' 4 (q.map Hop.row)] [] (.bool (decide (p = q))) [] := by
  refine Qt ((Env.nil P).add 73 Qff Qt4) hm Qc6 (Nat.le_of_ble_eq_true rfl) rfl ?_; unfold VH; simp (config := { maxSteps := 2000000 }) only [bitvec_to_nat, reduceIte, Nat.reduceEqDiff, Nat.reduceAdd, Nat.reduceLeDiff, reduceCtorEq, Nat.reduceBEq, Nat.reduceLT, Nat.reduceMod, List.forall_mem_cons, Qff, Qk, Qm, Qa, Q3, Qh, List.take_length, List.length_cons, List.length_nil, Nat.zero_add, QH, QX, Q4, Q6, Zone.row, Qf, Qs, Word.row, Je, Own.row, Jy, Part.row, Jf, Seen.row, Jg, Book.row, Jh, Sector.row, QR, HCraft.row, QS, World.row, Q2, Pt.row, Ql, Aw.row, Qo, Blk.row, Qb, Sec.row, Qc, Rw.row, Qp, Sky.row, Qd, Place.row, QG, Run.row, QJ, SRow.row, QL, Hop.row, QM, Jx, JS, Jn, Jo, Jz, QY, QZ, Ji, QA, QB, Qj, Qn, QD, QO, QQ, Q5, QW, Q7]
  refine ⟨fun h1 h => h1 (by rw [h]), fun h1 => ?_⟩
  refine QV (fun i : Nat => [(5, .int .i64 i)]) (fun _ => []) (fun i => i ≤ p.length ∧ ∀ j, j < i → p.getD j default = q.getD j default) (fun i => p.length - i) (0) (by simp only [JX, JY, JZ, J0, Qw, Qx, Qy, Qz, reduceIte, Nat.reduceEqDiff]; exact ⟨by repeat' (first | exact trivial | refine ⟨.inr rfl, ?_⟩), by repeat' (first | exact trivial | refine ⟨rfl, ?_⟩), by first | rfl | simp [closedB, Qr, Qg, Qi, dom, Qe, *], by first | rfl | simp [keepB, dom]⟩) ?_ ?_
  · exact ⟨Nat.zero_le _, by intro j hj; omega⟩
  intro i hi NX hN
  unfold ZV; simp (config := { maxSteps := 2000000 }) only [bitvec_to_nat, reduceIte, Nat.reduceEqDiff, Nat.reduceAdd, Nat.reduceLeDiff, reduceCtorEq, Nat.reduceBEq, Nat.reduceLT, Nat.reduceMod, List.forall_mem_cons, Qff, Qk, Qm, Qa, Q3, Qh, List.take_length, List.length_cons, List.length_nil, Nat.zero_add, QH, QX, Q4, Q6, Zone.row, Qf, Qs, Word.row, Je, Own.row, Jy, Part.row, Jf, Seen.row, Jg, Book.row, Jh, Sector.row, QR, HCraft.row, QS, World.row, Q2, Pt.row, Ql, Aw.row, Qo, Blk.row, Qb, Sec.row, Qc, Rw.row, Qp, Sky.row, Qd, Place.row, QG, Run.row, QJ, SRow.row, QL, Hop.row, QM, Jx, JS, Jn, Jo, Jz, QY, QZ, Ji, QA, QB, Qj, Qn, QD, QO, QQ, Q5, QW, Q7]
  skip
  repeat' (first | with_reducible apply And.intro | with_reducible intro _)
  all_goals first
    | omega
    | (refine hN (i + 1) _ (by simp only [JX, JY, JZ, J0, Qw, Qx, Qy, Qz, reduceIte, Nat.reduceEqDiff]; exact ⟨by repeat' (first | exact trivial | refine ⟨.inr rfl, ?_⟩), by repeat' (first | exact trivial | refine ⟨rfl, ?_⟩), by first | rfl | simp [closedB, Qr, Qg, Qi, dom, Qe, *], by first | rfl | simp [keepB, dom]⟩) ?_ ?_
       · exact ⟨by omega, JB hi.2 (by with_reducible assumption)⟩
       · omega)
    | (intro h; subst h; exact absurd rfl (by with_reducible assumption))
    | (exact XR (by omega) fun j hj => hi.2 j (by omega))
    | grind
def QdS : List AV → Option (Prop × AV)
  | [.sl ct 4 cx, .sl dt 4 dx] => some ((((cx.map QeY).map Hop.row = cx) ∧ ((dx.map QeY).map Hop.row = dx)) ∧ ((cx.map QeY).length ≤ 4611686018427387904), .bool (decide ((cx.map QeY) = (dx.map QeY))))
  | _ => none
theorem QrF : ∀ args p v, QdS args = some (p, v) → p → Contract P 29 args [] v [] ∧ noref v = true ∧ No99 v := by
  intro args p v h1 h2
  unfold QdS at h1
  split at h1
  · rename_i ct cx dt dx
    cases h1
    obtain ⟨⟨e0, e1⟩, HP⟩ := h2
    have := QrE ct dt (cx.map QeY) (dx.map QeY) HP
    exact ⟨by simpa only [e0, e1] using this, rfl, trivial⟩
  · cases h1
def Qjh (k : Int) : Hop := ⟨mtx (k), mtx (k + 1), k + 1 + 1, mtx (k + 1 + 1 + 1)⟩
def Gk (k : Int) (n : Nat) : List Hop := (List.range n).map fun j : Nat => Qjh (k + 4 * (j : Int))
theorem Kc {k : Int} {n : Nat} : (Gk k n).length = n := by simp [Gk]
theorem Qf1 {k : Int} {n j : Nat} (h : j < n) : (Gk k n).getD j default = Qjh (k + 4 * (j : Int)) := by simp [Gk, h]
theorem Qfg {l : List Hop} {i : Nat} {v : ByteArray} : (l.map Hop.row).set i (QT ((l.map Hop.row).getD i []) 0 [.str v]) = (l.set i { l.getD i default with fr := v }).map Hop.row :=
  JR (α := Hop) (f := Hop.row) (fun s => { s with fr := v }) fun x => by simp [Hop.row, QT]
theorem Qfh {l : List Hop} {i : Nat} {v : ByteArray} : (l.map Hop.row).set i (QT ((l.map Hop.row).getD i []) 1 [.str v]) = (l.set i { l.getD i default with to := v }).map Hop.row :=
  JR (α := Hop) (f := Hop.row) (fun s => { s with to := v }) fun x => by simp [Hop.row, QT]
theorem Qfi {l : List Hop} {i : Nat} {v : Int} : (l.map Hop.row).set i (QT ((l.map Hop.row).getD i []) 2 [.int .i64 v]) = (l.set i { l.getD i default with far := v }).map Hop.row :=
  JR (α := Hop) (f := Hop.row) (fun s => { s with far := v }) fun x => by simp [Hop.row, QT]
theorem Qfj {l : List Hop} {i : Nat} {v : ByteArray} : (l.map Hop.row).set i (QT ((l.map Hop.row).getD i []) 3 [.str v]) = (l.set i { l.getD i default with nx := v }).map Hop.row :=
  JR (α := Hop) (f := Hop.row) (fun s => { s with nx := v }) fun x => by simp [Hop.row, QT]
set_option maxHeartbeats 1000000 in
theorem QmX (v : Nat) (k : Int) (a : List Hop) (ha : a.length ≤ 1048577) (hk : 0 ≤ k ∧ k ≤ 1125899906842624) : Contract P 39 [.own 3 v 0 a.length, .int .i64 k] [(3, .arr 61 v 4 (a.map Hop.row))] (.int .i64 (k + 4 * a.length)) [(3, .arr 61 v 4 ((Gk k a.length).map Hop.row))] := by
  have hz : ((0 : Nat) : Int) = 0 := rfl
  have gs : True := trivial
  refine Qt ((Env.nil P).add 78 Q0 Ys) hm Qby (Nat.le_of_ble_eq_true rfl) rfl ?_; unfold ZY; simp (config := { maxSteps := 2000000 }) only [bitvec_to_nat, reduceIte, Nat.reduceEqDiff, Nat.reduceAdd, Nat.reduceLeDiff, reduceCtorEq, Nat.reduceBEq, Nat.reduceLT, Nat.reduceMod, List.forall_mem_cons, Qv, QE, Qu, Q9, keepB, QF, Jc, Q0, Qfg, Qfh, Qfi, Qfj, List.set_set, gs, Hop.row, QX, QH, Int.toNat_natCast, List.length_map, List.length_set, Nat.sub_zero, Nat.zero_add, hz]
  refine QV (fun b : Nat × List Hop => [(1, .int .i64 (k + 4 * b.1)), (5, .int .i64 b.1)]) (fun b => [(3, .arr 61 v 4 (b.2.map Hop.row))]) (fun b => b.2.length = a.length ∧ b.1 ≤ a.length ∧ ∀ j, j < b.1 → b.2.getD j default = Qjh (k + 4 * (j : Int))) (fun b => a.length - b.1) (0, a) ?_ ⟨rfl, Nat.zero_le _, fun j hj => absurd hj (Nat.not_lt_zero _)⟩ ?_
  · have e0 : k + 4 * ((0 : Nat) : Int) = k := by omega
    simp only [e0]
    simp only [JX, JY, JZ, J0, Qw, Qx, Qy, Qz, reduceIte, Nat.reduceEqDiff]; exact ⟨by repeat' (first | exact trivial | refine ⟨.inr rfl, ?_⟩), by repeat' (first | exact trivial | refine ⟨rfl, ?_⟩), by first | rfl | simp [closedB, Qr, Qg, Qi, dom, Qe, *], by first | rfl | simp [keepB, dom]⟩
  rintro ⟨i, l⟩ ⟨h1, h2, h3⟩ NX hN
  simp only at h1 h2 h3
  have gs : i < a.length → ∀ x : Hop, (l.set i x).getD i default = x := fun h x => J3 (by omega)
  by_cases hi : i < a.length
  · have gs := gs hi
    have e5 : k + 4 * ((i + 1 : Nat) : Int) = k + 4 * (i : Int) + 1 + 1 + 1 + 1 := by omega
    unfold YD; simp (config := { maxSteps := 2000000 }) only [bitvec_to_nat, reduceIte, Nat.reduceEqDiff, Nat.reduceAdd, Nat.reduceLeDiff, reduceCtorEq, Nat.reduceBEq, Nat.reduceLT, Nat.reduceMod, List.forall_mem_cons, Qv, QE, Qu, Q9, keepB, QF, Jc, Q0, Qfg, Qfh, Qfi, Qfj, List.set_set, gs, Hop.row, QX, QH, Int.toNat_natCast, List.length_map, List.length_set, Nat.sub_zero, Nat.zero_add, hz]
    repeat' (first | with_reducible apply And.intro | with_reducible intro _)
    all_goals first
      | omega
      | (refine hN (i + 1, l.set i (Qjh (k + 4 * (i : Int)))) _ (by simp only [e5]; simp only [JX, JY, JZ, J0, Qw, Qx, Qy, Qz, reduceIte, Nat.reduceEqDiff]; exact ⟨by repeat' (first | exact trivial | refine ⟨.inr rfl, ?_⟩), by repeat' (first | exact trivial | refine ⟨rfl, ?_⟩), by first | rfl | simp [closedB, Qr, Qg, Qi, dom, Qe, *], by first | rfl | simp [keepB, dom]⟩) ⟨by simp only [List.length_set]; exact h1, hi, fun j hj => ?_⟩ (by simp only; omega)
         simp only at hj ⊢
         by_cases e : j = i
         · subst e; exact J3 (by omega)
         · rw [Kj (Ne.symm e)]; exact h3 j (by omega))
      | (exfalso; omega)
  · have hl : l = Gk k a.length := XR (by rw [Kc]; exact h1) fun j hj => by rw [Qf1 (by omega)]; exact h3 j (by omega)
    have hi' : ¬ (i : Int) < a.length := by omega
    unfold YD; simp (config := { maxSteps := 2000000 }) only [bitvec_to_nat, reduceIte, Nat.reduceEqDiff, Nat.reduceAdd, Nat.reduceLeDiff, reduceCtorEq, Nat.reduceBEq, Nat.reduceLT, Nat.reduceMod, List.forall_mem_cons, Qv, QE, Qu, Q9, keepB, QF, Jc, Q0, Qfg, Qfh, Qfi, Qfj, List.set_set, gs, Hop.row, QX, QH, Int.toNat_natCast, List.length_map, List.length_set, Nat.sub_zero, Nat.zero_add, hz, hi']
    refine ⟨by omega, ?_⟩
    rw [hl]
set_option maxHeartbeats 1000000 in
theorem QmY (t : Nat) (k : Int) (n : Nat) (ha : n ≤ 1048577) (hk : 0 ≤ k ∧ k ≤ 1125899906842624) : Contract P 41 [.sl t 4 ((Gk k n).map Hop.row), .int .i64 k] [] (.int .i64 (k + 4 * n)) [] := by
  have hz : ((0 : Nat) : Int) = 0 := rfl
  refine Qt ((Env.nil P).add 78 Q0 Ys) hm QbA (Nat.le_of_ble_eq_true rfl) rfl ?_; unfold Z0; simp (config := { maxSteps := 2000000 }) only [bitvec_to_nat, reduceIte, Nat.reduceEqDiff, Nat.reduceAdd, Nat.reduceLeDiff, reduceCtorEq, Nat.reduceBEq, Nat.reduceLT, Nat.reduceMod, List.forall_mem_cons, Q0, Hop.row, QM, QX, QH, Int.toNat_natCast, List.length_map, Nat.sub_zero, Nat.zero_add, hz, eq_self, Kc]
  refine QV (fun i : Nat => [(1, .int .i64 (k + 4 * i)), (5, .int .i64 i)]) (fun _ => []) (fun i => i ≤ n) (fun i => n - i) 0 ?_ (Nat.zero_le _) ?_
  · have e0 : k + 4 * ((0 : Nat) : Int) = k := by omega
    simp only [e0]
    simp only [JX, JY, JZ, J0, Qw, Qx, Qy, Qz, reduceIte, Nat.reduceEqDiff]; exact ⟨by repeat' (first | exact trivial | refine ⟨.inr rfl, ?_⟩), by repeat' (first | exact trivial | refine ⟨rfl, ?_⟩), by first | rfl | simp [closedB, Qr, Qg, Qi, dom, Qe, *], by first | rfl | simp [keepB, dom]⟩
  intro i hi NX hN
  have e5 : k + 4 * ((i + 1 : Nat) : Int) = k + 4 * (i : Int) + 1 + 1 + 1 + 1 := by omega
  by_cases h : i < n
  · have hg := Qf1 (k := k) h
    have h' : (i : Int) < n := by omega
    unfold YF; simp (config := { maxSteps := 2000000 }) only [bitvec_to_nat, reduceIte, Nat.reduceEqDiff, Nat.reduceAdd, Nat.reduceLeDiff, reduceCtorEq, Nat.reduceBEq, Nat.reduceLT, Nat.reduceMod, List.forall_mem_cons, Q0, Hop.row, QM, QX, QH, Int.toNat_natCast, List.length_map, Nat.sub_zero, Nat.zero_add, hz, eq_self, Kc, h', hg, Qjh, not_true_eq_false, ne_eq, bne_self_eq_false]
    repeat' (first | with_reducible apply And.intro | with_reducible intro _)
    all_goals first
      | omega
      | rfl
      | (rename_i h; exact absurd rfl h)
      | (refine hN (i + 1) _ (by simp only [e5]; simp only [JX, JY, JZ, J0, Qw, Qx, Qy, Qz, reduceIte, Nat.reduceEqDiff]; exact ⟨by repeat' (first | exact trivial | refine ⟨.inr rfl, ?_⟩), by repeat' (first | exact trivial | refine ⟨rfl, ?_⟩), by first | rfl | simp [closedB, Qr, Qg, Qi, dom, Qe, *], by first | rfl | simp [keepB, dom]⟩) ?_ ?_ <;> omega)
  · have h' : ¬ (i : Int) < n := by omega
    unfold YF; simp (config := { maxSteps := 2000000 }) only [bitvec_to_nat, reduceIte, Nat.reduceEqDiff, Nat.reduceAdd, Nat.reduceLeDiff, reduceCtorEq, Nat.reduceBEq, Nat.reduceLT, Nat.reduceMod, List.forall_mem_cons, Q0, Hop.row, QM, QX, QH, Int.toNat_natCast, List.length_map, Nat.sub_zero, Nat.zero_add, hz, eq_self, Kc, h']
    omega
def Vm : List AV → Option (Prop × AV)
  | [.sl _ 4 zx, .int .i64 k] => some (zx = (Gk k zx.length).map Hop.row ∧ zx.length ≤ 1048577 ∧ (0 ≤ k ∧ k ≤ 1125899906842624), .int .i64 (k + 4 * (zx.length : Nat)))
  | _ => none
theorem QmZ : ∀ args p v, Vm args = some (p, v) → p → Contract P 41 args [] v [] ∧ noref v = true ∧ No99 v := by
  intro args p v h1 h2
  unfold Vm at h1
  split at h1
  · rename_i t zx k
    cases h1
    obtain ⟨e1, h3, h4⟩ := h2
    have := QmY t k zx.length h3 h4
    rw [← e1] at this
    exact ⟨this, rfl, trivial⟩
  · cases h1
theorem QrG (c d : SRow) (hl : c.rs.length ≤ 4611686018427387904) : Contract P 72 [.agg (c.row 0), .agg (d.row 0)] [] (.bool (decide (c = d))) [] := by
  obtain ⟨c_lv, c_y, c_rs⟩ := c
  obtain ⟨d_lv, d_y, d_rs⟩ := d
  simp only [SRow.row]
  refine Qt ((Env.nil P).add 103 QdR QrD) hm QeD (Nat.le_of_ble_eq_true rfl) rfl ?_; unfold Wt; simp (config := { maxSteps := 2000000 }) only [bitvec_to_nat, reduceIte, Nat.reduceEqDiff, Nat.reduceAdd, Nat.reduceLeDiff, reduceCtorEq, Nat.reduceBEq, Nat.reduceLT, Nat.reduceMod, List.forall_mem_cons, QdR, Qk, Qm, Qa, Q3, Qh, List.take_length, List.length_cons, List.length_nil, Nat.zero_add, QH, QX, Q4, Q6, Zone.row, Qf, Qs, Word.row, Je, Own.row, Jy, Part.row, Jf, Seen.row, Jg, Book.row, Jh, Sector.row, QR, HCraft.row, QS, World.row, Q2, Pt.row, Ql, Aw.row, Qo, Blk.row, Qb, Sec.row, Qc, Rw.row, Qp, Sky.row, Qd, Place.row, QG, Run.row, QJ, SRow.row, QL, Hop.row, QM, Jx, JS, Jn, Jo, Jz, QY, QZ, Ji, QA, QB, Qj, Qn, QD, QO, QQ, Q5, QW, Q7]
  simp only [SRow.mk.injEq]
  repeat' (first | with_reducible apply And.intro | with_reducible intro _)
  all_goals first | omega | (simp_all; done) | grind | grind [Word.small, Own.small, Part.small, Book.small, Sector.small, HCraft.small, World.small, Aw.small, Sec.small, Sky.small, SRow.small]
def Qcj : List AV → Option (Prop × AV)
  | [.agg [.int .i64 c_lv, .int .i64 c_y, .sl 0 3 c_rs], .agg [.int .i64 d_lv, .int .i64 d_y, .sl 0 3 d_rs]] => some ((((c_rs.map V2).map Run.row = c_rs) ∧ ((d_rs.map V2).map Run.row = d_rs)) ∧ ((SRow.mk c_lv c_y (c_rs.map V2)).rs.length ≤ 4611686018427387904), .bool (decide ((SRow.mk c_lv c_y (c_rs.map V2)) = (SRow.mk d_lv d_y (d_rs.map V2)))))
  | _ => none
theorem QrH : ∀ args p v, Qcj args = some (p, v) → p → Contract P 72 args [] v [] ∧ noref v = true ∧ No99 v := by
  intro args p v h1 h2
  unfold Qcj at h1
  split at h1
  · rename_i c_lv c_y c_rs d_lv d_y d_rs
    cases h1
    obtain ⟨⟨e0, e1⟩, HP⟩ := h2
    have := QrG (SRow.mk c_lv c_y (c_rs.map V2)) (SRow.mk d_lv d_y (d_rs.map V2)) HP
    exact ⟨by simpa only [e0, e1, SRow.row, SRow.row] using this, rfl, trivial⟩
  · cases h1
theorem Qo0 (t t' : Nat) (p q : List SRow) (hp : p.length ≤ 4611686018427387904) (hx : ∀ x ∈ p, x.rs.length ≤ 4611686018427387904) : Contract P 28 [.sl t 3 (p.map (SRow.row 0)), .sl t' 3 (q.map (SRow.row 0))] [] (.bool (decide (p = q))) [] := by
  refine Qt ((Env.nil P).add 72 Qcj QrH) hm Qc5 (Nat.le_of_ble_eq_true rfl) rfl ?_; unfold VG; simp (config := { maxSteps := 2000000 }) only [bitvec_to_nat, reduceIte, Nat.reduceEqDiff, Nat.reduceAdd, Nat.reduceLeDiff, reduceCtorEq, Nat.reduceBEq, Nat.reduceLT, Nat.reduceMod, List.forall_mem_cons, Qcj, Qk, Qm, Qa, Q3, Qh, List.take_length, List.length_cons, List.length_nil, Nat.zero_add, QH, QX, Q4, Q6, Zone.row, Qf, Qs, Word.row, Je, Own.row, Jy, Part.row, Jf, Seen.row, Jg, Book.row, Jh, Sector.row, QR, HCraft.row, QS, World.row, Q2, Pt.row, Ql, Aw.row, Qo, Blk.row, Qb, Sec.row, Qc, Rw.row, Qp, Sky.row, Qd, Place.row, QG, Run.row, QJ, SRow.row, QL, Hop.row, QM, Jx, JS, Jn, Jo, Jz, QY, QZ, Ji, QA, QB, Qj, Qn, QD, QO, QQ, Q5, QW, Q7]
  refine ⟨fun h1 h => h1 (by rw [h]), fun h1 => ?_⟩
  refine QV (fun i : Nat => [(5, .int .i64 i)]) (fun _ => []) (fun i => i ≤ p.length ∧ ∀ j, j < i → p.getD j default = q.getD j default) (fun i => p.length - i) (0) (by simp only [JX, JY, JZ, J0, Qw, Qx, Qy, Qz, reduceIte, Nat.reduceEqDiff]; exact ⟨by repeat' (first | exact trivial | refine ⟨.inr rfl, ?_⟩), by repeat' (first | exact trivial | refine ⟨rfl, ?_⟩), by first | rfl | simp [closedB, Qr, Qg, Qi, dom, Qe, *], by first | rfl | simp [keepB, dom]⟩) ?_ ?_
  · exact ⟨Nat.zero_le _, by intro j hj; omega⟩
  intro i hi NX hN
  unfold ZU; simp (config := { maxSteps := 2000000 }) only [bitvec_to_nat, reduceIte, Nat.reduceEqDiff, Nat.reduceAdd, Nat.reduceLeDiff, reduceCtorEq, Nat.reduceBEq, Nat.reduceLT, Nat.reduceMod, List.forall_mem_cons, Qcj, Qk, Qm, Qa, Q3, Qh, List.take_length, List.length_cons, List.length_nil, Nat.zero_add, QH, QX, Q4, Q6, Zone.row, Qf, Qs, Word.row, Je, Own.row, Jy, Part.row, Jf, Seen.row, Jg, Book.row, Jh, Sector.row, QR, HCraft.row, QS, World.row, Q2, Pt.row, Ql, Aw.row, Qo, Blk.row, Qb, Sec.row, Qc, Rw.row, Qp, Sky.row, Qd, Place.row, QG, Run.row, QJ, SRow.row, QL, Hop.row, QM, Jx, JS, Jn, Jo, Jz, QY, QZ, Ji, QA, QB, Qj, Qn, QD, QO, QQ, Q5, QW, Q7]
  have hx2 : i < p.length → _ := fun h => hx _ (JD h)
  repeat' (first | with_reducible apply And.intro | with_reducible intro _)
  all_goals first
    | omega
    | (refine hN (i + 1) _ (by simp only [JX, JY, JZ, J0, Qw, Qx, Qy, Qz, reduceIte, Nat.reduceEqDiff]; exact ⟨by repeat' (first | exact trivial | refine ⟨.inr rfl, ?_⟩), by repeat' (first | exact trivial | refine ⟨rfl, ?_⟩), by first | rfl | simp [closedB, Qr, Qg, Qi, dom, Qe, *], by first | rfl | simp [keepB, dom]⟩) ?_ ?_
       · exact ⟨by omega, JB hi.2 (by with_reducible assumption)⟩
       · omega)
    | (intro h; subst h; exact absurd rfl (by with_reducible assumption))
    | (exact XR (by omega) fun j hj => hi.2 j (by omega))
    | grind
def Qck : List AV → Option (Prop × AV)
  | [.sl ct 3 cx, .sl dt 3 dx] => some ((((cx.map VU).map (SRow.row 0) = cx) ∧ ((dx.map VU).map (SRow.row 0) = dx)) ∧ ((cx.map VU).length ≤ 4611686018427387904 ∧ ∀ x ∈ (cx.map VU), x.rs.length ≤ 4611686018427387904), .bool (decide ((cx.map VU) = (dx.map VU))))
  | _ => none
theorem Qo1 : ∀ args p v, Qck args = some (p, v) → p → Contract P 28 args [] v [] ∧ noref v = true ∧ No99 v := by
  intro args p v h1 h2
  unfold Qck at h1
  split at h1
  · rename_i ct cx dt dx
    cases h1
    obtain ⟨⟨e0, e1⟩, HP⟩ := h2
    have := Qo0 ct dt (cx.map VU) (dx.map VU) HP.1 HP.2
    exact ⟨by simpa only [e0, e1] using this, rfl, trivial⟩
  · cases h1
def RO (o v k : Nat) (l : List SRow) : List (Nat × AObj) := (o, .arr (1000000 + 53) v 3 (J7 k l)) :: QI (Xw k l)
theorem QhM {o v k : Nat} {l : List SRow} : ((RO o v k l).all fun p => Qi (dom (RO o v k l)) p.2) = true := by
  simp only [RO, List.all_cons, Bool.and_eq_true]
  refine ⟨?_, Qcf⟩
  simp only [Qi]
  rw [if_neg (by omega)]
  exact W4 fun i hi => List.mem_cons_of_mem _ (QdQ hi)
theorem Qfk {o v k : Nat} {l : List SRow} (ho : o < 1000) : ∀ p ∈ RO o v k l, getM (RO o v k l) p.1 = some p.2 := fun p hp => by
  simp only [RO, List.mem_cons] at hp ⊢
  rcases hp with rfl | hp
  · simp only [getM, if_true]
  · obtain ⟨i, hi, rfl⟩ := ZB hp
    simp only [getM, Jm ho, if_false, W3 hi]
theorem Qvg {o v k : Nat} {l : List SRow} (ho : o % 1000 < 100) (hk : k < 100) : (dom (RO o v k l)).all (decide <| · % 1000 < 100) = true := by
  rw [List.all_eq_true]
  intro q hq
  simp only [RO, dom, List.map_cons, List.mem_cons] at hq
  rcases hq with rfl | hq
  · simpa using ho
  · obtain ⟨p, hp, rfl⟩ := List.mem_map.1 hq
    obtain ⟨i, _, rfl⟩ := ZB hp
    simp only [decide_eq_true_eq, Vr (show k < 1000 by omega)]; exact hk
def Qas (k : Int) (x : SRow) : SRow := ⟨k, k + 1, Qar (k + 2) x.rs.length⟩
def cr (l : List SRow) (i : Nat) : Nat := ((l.take i).map fun x => 2 + 3 * x.rs.length).sum
theorem Qkd {l : List SRow} {i : Nat} (h : i < l.length) : cr l (i + 1) = cr l i + (2 + 3 * (l.getD i default).rs.length) := by
  unfold cr
  rw [List.take_succ_eq_append_getElem h, List.map_append, List.sum_append]; simp [h]
theorem Qo2 {l : List SRow} (hs : ∀ x ∈ l, x.rs.length ≤ 1048577) {i : Nat} (h : i ≤ l.length) : cr l i ≤ i * 3145733 := by
  induction i with
  | zero => simp [cr]
  | succ i ih =>
    have h' := ih (by omega)
    have := hs _ (JD (show i < l.length from h))
    rw [Qkd h]; omega
def mrL (k : Int) (l : List SRow) : List SRow := l.mapIdx fun i x => Qas (k + (cr l i : Nat)) x
theorem Ge {k : Int} {l : List SRow} : (mrL k l).length = l.length := by simp [mrL]
theorem Qo3 {k : Int} {l : List SRow} {i : Nat} (h : i < l.length) : (mrL k l).getD i default = Qas (k + (cr l i : Nat)) (l.getD i default) := by simp [mrL, h]
theorem Qji {k i : Nat} {l : List SRow} {q : Nat} {v : List AV} {x : SRow} (h : i < l.length → x.own (fam k i) = QT ((l.getD i default).own (fam k i)) q v) : (J7 k l).set i (QT ((J7 k l).getD i []) q v) = J7 k (l.set i x) := by
  refine List.ext_getElem (by simp [J7]) fun j h1 h2 => ?_
  have hj : j < l.length := by simpa [J7] using h2
  by_cases e : j = i
  · subst e
    rw [List.getElem_set_self, Qce hj, ← h hj]
    simp [J7]
  · rw [List.getElem_set_ne (Ne.symm e)]
    simp [J7, List.getElem_set_ne (Ne.symm e)]
theorem QrI {k i : Nat} {l : List SRow} {x : SRow} (hi : i < l.length) : KD (QI (Xw k l)) (fam k i) x.ob = QI (Xw k (l.set i x)) := by
  have e := QgR (k := k) (l := Xw k l) (i := i) (x := x.ob) QhB (by rw [VC]; exact hi)
  rw [e]
  refine List.ext_getElem (by simp [QI, Xw]) fun j h1 h2 => ?_
  have hj : j < l.length := by simpa [QI, Xw] using h2
  by_cases e : j = i
  · subst e
    simp [QI, Xw, List.getElem_set_self, hj]
  · simp [QI, Xw, List.getElem_set_ne (Ne.symm e), hj]
theorem Qo4 {k i : Nat} {l : List SRow} {x y : SRow} (h : x.own (fam k i) = y.own (fam k i)) : J7 k (l.set i x) = J7 k (l.set i y) := by
  refine List.ext_getElem (by simp [J7]) fun j h1 h2 => ?_
  by_cases e : j = i
  · subst e; simp [J7, h]
  · simp [J7, List.getElem_set_ne (Ne.symm e)]
theorem Qwc {k i q : Nat} {l : List SRow} {x y : SRow} {v : List AV} (h : y.own (fam k i) = QT (x.own (fam k i)) q v) : (J7 k (l.set i x)).set i (QT (x.own (fam k i)) q v) = J7 k (l.set i y) := by
  by_cases hi : i < l.length
  · have e : (J7 k (l.set i x)).getD i [] = x.own (fam k i) := by rw [Qce (by rw [List.length_set]; exact hi), J3 hi]
    rw [← e, Qji (x := y) (fun _ => by rw [J3 hi]; exact h), List.set_set]
  · rw [List.set_eq_of_length_le (by rw [Y1, List.length_set]; omega), List.set_eq_of_length_le (by omega), List.set_eq_of_length_le (by omega)]
theorem QrJ {e cv sz ver k i : Nat} {l : List SRow} {K : AV → List (Nat × AObj) → Prop} : GM (QsC (some (.arr e cv sz (J7 k l))) ver i 2 Xy) K = (ver = cv ∧ i < l.length ∧ K (.own (fam k i) (l.getD i default).rs.length 0 (l.getD i default).rs.length) []) := by
  simp only [GM, QsC, and_assoc]
  by_cases h : i < l.length
  · rw [Qce h]; simp [SRow.own, Xy, ok1, h]
  · simp [h, J7, QrY]
theorem Qo5 {k : Int} {x : SRow} : (Qas k x).rs.length = x.rs.length := Kb
theorem QrK {x : SRow} {o : Nat} {d : AV} : (x.own o).getD 2 d = .own o x.rs.length 0 x.rs.length := rfl
theorem QdT {x : SRow} {o : Nat} : (x.own o).length = 3 := rfl
theorem QlU {k i : Nat} {l : List SRow} {v : Int} : (J7 k l).set i (QT ((J7 k l).getD i []) 0 [.int .i64 v]) = J7 k (l.set i { l.getD i default with lv := v }) := Qji fun _ => by simp [SRow.own, QT]
theorem QlV {k i : Nat} {l : List SRow} {v : Int} {x : SRow} : (J7 k (l.set i x)).set i (QT (x.own (fam k i)) 1 [.int .i64 v]) = J7 k (l.set i { x with y := v }) := Qwc (by simp [SRow.own, QT])
set_option maxHeartbeats 4000000 in
theorem Qm0 (v : Nat) (k : Int) (a : List SRow) (ha : a.length ≤ 1048577) (hs : ∀ x ∈ a, x.rs.length ≤ 1048577) (hk : 0 ≤ k ∧ k ≤ 35184372088832) : Contract P 38 [.own 3 v 0 a.length, .int .i64 k] (RO 3 v 7 a) (.int .i64 (k + (cr a a.length : Nat))) (RO 3 v 7 (mrL k a)) := by
  have gs : True := trivial
  have gf : True := trivial
  have hli : True := trivial
  have hgm : True := trivial
  have hrw : True := trivial
  have hs1 : True := trivial
  have cl : ∀ (l : List SRow) (kk : Int) (i : Nat), closedB ⟨[(0, .own 3 v 0 a.length), (1, .int .i64 kk), (5, .int .i64 i)], RO 3 v 7 l⟩ = true := fun l kk i => by
    simp only [closedB, List.all_cons, Bool.and_eq_true]
    exact ⟨⟨by simp [Qr, dom, RO], rfl, rfl, rfl⟩, QhM⟩
  refine Qt (Env.nil P) Go.Ve.hm Qbx (Nat.le_of_ble_eq_true rfl) (Qvg (by omega) (by omega)) ?_; unfold ZX
  simp (config := { maxSteps := 2000000 }) only [bitvec_to_nat, reduceIte, Nat.reduceEqDiff, Nat.reduceAdd, Nat.reduceLeDiff, reduceCtorEq, Nat.reduceBEq, Nat.reduceLT, Nat.reduceMod, List.forall_mem_cons, Qv, QE, Qu, Q9, keepB, QF, Jc, QlU, QlV, QrK, QdT, QrJ, Qo5, gs, gf, hli, hgm, hrw, Int.toNat_natCast, List.length_map, List.length_set, Y1, Nat.sub_zero, Nat.zero_add, Jm, JK, hs1, List.set_set]
  refine Xo (fun b : Nat × List SRow => ⟨[(0, .own 3 v 0 a.length), (1, .int .i64 (k + (cr a b.1 : Nat))), (5, .int .i64 b.1)], RO 3 v 7 b.2⟩)
    (fun b => b.1 ≤ a.length ∧ b.2.length = a.length ∧ (∀ j, j < b.1 → b.2.getD j default = Qas (k + (cr a j : Nat)) (a.getD j default)) ∧ ∀ j, b.1 ≤ j → j < a.length → b.2.getD j default = a.getD j default)
    (fun b => a.length - b.1) (0, a) ?_ ⟨Nat.zero_le _, rfl, fun j hj => absurd hj (Nat.not_lt_zero _), fun j _ _ => rfl⟩ ?_
  · have e0 : k + ((cr a 0 : Nat) : Int) = k := by simp [cr]
    simp only [e0]
    exact ⟨by repeat' (first | exact trivial | refine ⟨.inr rfl, ?_⟩), ZO (Qfk (by omega)), cl _ _ _, GI⟩
  rintro ⟨i, l⟩ ⟨h1, h2, h3, h4⟩ NX hN
  simp only at h1 h2 h3 h4
  have hct := Qo2 hs h1
  by_cases hi : i < a.length
  · have hli := h4 i (Nat.le_refl _) hi
    have hil : i < l.length := by omega
    have hx := hs _ (JD hi)
    have hgm : getM (QI (Xw 7 l)) (fam 7 i) = some (.arr 71 (a.getD i default).rs.length 3 ((a.getD i default).rs.map Run.row)) := by rw [W3 hil, hli]; rfl
    have gs : ∀ x : SRow, (l.set i x).getD i default = x := fun x => J3 hil
    have gf : ∀ x : SRow, (J7 7 (l.set i x)).getD i [] = x.own (fam 7 i) := fun x => by rw [Qce (by rw [List.length_set]; exact hil), gs]
    simp only [RO]
    have hM := (QmU (a.getD i default).rs.length (k + (cr a i : Nat) + 1 + 1) (a.getD i default).rs hx (by omega)).ren (swp 3 (fam 7 i)) (J8 _ _)
    simp only [X7, ren, X8, renO, swp, reduceIte, Nat.reduceLT] at hM
    have hs1 : KD (QI (Xw 7 l)) (fam 7 i) (.arr 71 (a.getD i default).rs.length 3 ((Qar (k + (cr a i : Nat) + 1 + 1) (a.getD i default).rs.length).map Run.row)) = QI (Xw 7 (l.set i (Qas (k + (cr a i : Nat)) (a.getD i default)))) := by
      have h := QrI (k := 7) (x := Qas (k + (cr a i : Nat)) (a.getD i default)) hil
      simp only [SRow.ob, Qo5] at h
      rw [show k + (cr a i : Nat) + 1 + 1 = k + (cr a i : Nat) + 2 from by omega]
      exact h
    have hrw : J7 7 (l.set i ⟨k + (cr a i : Nat), k + (cr a i : Nat) + 1, (a.getD i default).rs⟩) = J7 7 (l.set i (Qas (k + (cr a i : Nat)) (a.getD i default))) :=
      Qo4 (by simp [SRow.own, Qas, Kb])
    have e5 : k + ((cr a (i + 1) : Nat) : Int) = k + (cr a i : Int) + 1 + 1 + 3 * ((a.getD i default).rs.length : Nat) := by rw [Qkd hi]; omega
    unfold YC; simp (config := { maxSteps := 2000000 }) only [bitvec_to_nat, reduceIte, Nat.reduceEqDiff, Nat.reduceAdd, Nat.reduceLeDiff, reduceCtorEq, Nat.reduceBEq, Nat.reduceLT, Nat.reduceMod, List.forall_mem_cons, Qv, QE, Qu, Q9, keepB, QF, Jc, QlU, QlV, QrK, QdT, QrJ, Qo5, gs, gf, hli, hgm, hrw, Int.toNat_natCast, List.length_map, List.length_set, Y1, Nat.sub_zero, Nat.zero_add, Jm, JK, hs1, List.set_set]
    refine ⟨fun _ => ⟨⟨by omega, by omega⟩, ⟨by omega, by omega⟩, ⟨by omega, by omega⟩, ⟨by omega, by omega⟩, ⟨by omega, by omega⟩, hil, ?_⟩, fun h => absurd (by omega) h⟩
    refine ⟨_, _, .inl ⟨_, hM, by simp [getM, Jm, hgm], by simp [dom], by simp [dom], by simp [Qg, Qr, dom], by simp [Qi], rfl, by simp [Qi]⟩, ?_⟩
    simp (config := { maxSteps := 2000000 }) only [bitvec_to_nat, reduceIte, Nat.reduceEqDiff, Nat.reduceAdd, Nat.reduceLeDiff, reduceCtorEq, Nat.reduceBEq, Nat.reduceLT, Nat.reduceMod, List.forall_mem_cons, Qv, QE, Qu, Q9, keepB, QF, Jc, QlU, QlV, QrK, QdT, QrJ, Qo5, gs, gf, hli, hgm, hrw, Int.toNat_natCast, List.length_map, List.length_set, Y1, Nat.sub_zero, Nat.zero_add, Jm, JK, hs1, List.set_set]
    trace_state
    rw [← e5]
    refine ⟨⟨by omega, by omega⟩, hN (i + 1, l.set i (Qas (k + (cr a i : Nat)) (a.getD i default))) _ ⟨by repeat' (first | exact trivial | refine ⟨.inr rfl, ?_⟩), ?_, cl _ _ _, GI⟩ ⟨hi, by rw [List.length_set]; exact h2, fun j hj => ?_, fun j h6 h7 => ?_⟩ (by simp only; omega)⟩
    · exact ZO (Qfk (by omega))
    · simp only at hj ⊢
      by_cases e : j = i
      · subst e; exact gs _
      · rw [Kj (Ne.symm e)]; exact h3 j (by omega)
    · simp only at h6 ⊢
      rw [Kj (by omega)]; exact h4 j (by omega) h7
  · have hl : l = mrL k a := XR (by rw [Ge]; exact h2) fun j hj => by rw [Qo3 (by omega)]; exact h3 j (by omega)
    have e : i = a.length := by omega
    subst hl
    subst e
    simp only [RO]
    unfold YC; simp (config := { maxSteps := 2000000 }) only [bitvec_to_nat, reduceIte, Nat.reduceEqDiff, Nat.reduceAdd, Nat.reduceLeDiff, reduceCtorEq, Nat.reduceBEq, Nat.reduceLT, Nat.reduceMod, List.forall_mem_cons, Qv, QE, Qu, Q9, keepB, QF, Jc, QlU, QlV, QrK, QdT, QrJ, Qo5, gs, gf, hli, hgm, hrw, Int.toNat_natCast, List.length_map, List.length_set, Y1, Nat.sub_zero, Nat.zero_add, Jm, JK, hs1, List.set_set]
    exact ⟨fun h => absurd h (by omega), fun _ => ⟨ZO fun p hp => Qfk (o := 3) (v := v) (by omega) p (List.mem_cons_of_mem _ hp), QhM (o := 3) (v := v), GI (M := RO 3 v 7 (mrL k a))⟩⟩
end
end Go.Ve

namespace Go.Ve
noncomputable section
open Go.Proofs
set_option linter.unusedSimpArgs false
set_option linter.unusedVariables false
set_option maxRecDepth 100000
open Go.ChangeShapes Go.WideShapes
set_option maxHeartbeats 4000000 in
theorem Qm1 (t : Nat) (k : Int) (a : List SRow) (ha : a.length ≤ 1048577) (hs : ∀ x ∈ a, x.rs.length ≤ 1048577) (hk : 0 ≤ k ∧ k ≤ 35184372088832) : Contract P 40 [.sl t 3 ((mrL k a).map (SRow.row 0)), .int .i64 k] [] (.int .i64 (k + (cr a a.length : Nat))) [] := by
  refine Qt ((Env.nil P).add 82 Zb QmW) hm Qbz (Nat.le_of_ble_eq_true rfl) rfl ?_; unfold ZZ; simp (config := { maxSteps := 2000000 }) only [bitvec_to_nat, reduceIte, Nat.reduceEqDiff, Nat.reduceAdd, Nat.reduceLeDiff, reduceCtorEq, Nat.reduceBEq, Nat.reduceLT, Nat.reduceMod, List.forall_mem_cons, Zb, Qk, Qm, Qa, Q3, Qh, List.take_length, List.length_cons, List.length_nil, Nat.zero_add, QH, QX, Q4, Q6, Zone.row, Qf, Qs, Word.row, Je, Own.row, Jy, Part.row, Jf, Seen.row, Jg, Book.row, Jh, Sector.row, QR, HCraft.row, QS, World.row, Q2, Pt.row, Ql, Aw.row, Qo, Blk.row, Qb, Sec.row, Qc, Rw.row, Qp, Sky.row, Qd, Place.row, QG, Run.row, QJ, SRow.row, QL, Hop.row, QM, Jx, JS, Jn, Jo, Jz, QY, QZ, Ji, QA, QB, Qj, Qn, QD, QO, QQ, Q5, QW, Q7, Int.toNat_natCast, List.length_map, Nat.sub_zero, Nat.zero_add, Ge, Kb, Kc]
  refine QV (fun i : Nat => [(1, .int .i64 (k + (cr a i : Nat))), (5, .int .i64 i)]) (fun _ => []) (fun i => i ≤ a.length) (fun i => a.length - i) 0 ?_ (Nat.zero_le _) ?_
  · have e0 : k + ((cr a 0 : Nat) : Int) = k := by simp [cr]
    simp only [e0]
    simp only [JX, JY, JZ, J0, Qw, Qx, Qy, Qz, reduceIte, Nat.reduceEqDiff]; exact ⟨by repeat' (first | exact trivial | refine ⟨.inr rfl, ?_⟩), by repeat' (first | exact trivial | refine ⟨rfl, ?_⟩), by first | rfl | simp [closedB, Qr, Qg, Qi, dom, Qe, *], by first | rfl | simp [keepB, dom]⟩
  intro i hi NX hN
  have hct := Qo2 hs hi
  by_cases h : i < a.length
  · have hg := Qo3 (k := k) h
    have hx := hs _ (JD h)
    have hq2 : k + (cr a i : Nat) + 1 + 1 = k + (cr a i : Nat) + 2 := by omega
    have e5 : k + ((cr a (i + 1) : Nat) : Int) = k + (cr a i : Int) + 2 + 3 * ((a.getD i default).rs.length : Nat) := by rw [Qkd h]; omega
    unfold YE; simp (config := { maxSteps := 2000000 }) only [bitvec_to_nat, reduceIte, Nat.reduceEqDiff, Nat.reduceAdd, Nat.reduceLeDiff, reduceCtorEq, Nat.reduceBEq, Nat.reduceLT, Nat.reduceMod, List.forall_mem_cons, Zb, Qk, Qm, Qa, Q3, Qh, List.take_length, List.length_cons, List.length_nil, Nat.zero_add, QH, QX, Q4, Q6, Zone.row, Qf, Qs, Word.row, Je, Own.row, Jy, Part.row, Jf, Seen.row, Jg, Book.row, Jh, Sector.row, QR, HCraft.row, QS, World.row, Q2, Pt.row, Ql, Aw.row, Qo, Blk.row, Qb, Sec.row, Qc, Rw.row, Qp, Sky.row, Qd, Place.row, QG, Run.row, QJ, SRow.row, QL, Hop.row, QM, Jx, JS, Jn, Jo, Jz, QY, QZ, Ji, QA, QB, Qj, Qn, QD, QO, QQ, Q5, QW, Q7, Int.toNat_natCast, List.length_map, Nat.sub_zero, Nat.zero_add, Ge, Kb, Kc, hg, Qas, not_true_eq_false, ne_eq, bne_self_eq_false, hq2]
    repeat' (first | with_reducible apply And.intro | with_reducible intro _)
    all_goals first
      | omega
      | rfl
      | (rename_i h; exact absurd rfl h)
      | (refine hN (i + 1) _ (by simp only [e5]; simp only [JX, JY, JZ, J0, Qw, Qx, Qy, Qz, reduceIte, Nat.reduceEqDiff]; exact ⟨by repeat' (first | exact trivial | refine ⟨.inr rfl, ?_⟩), by repeat' (first | exact trivial | refine ⟨rfl, ?_⟩), by first | rfl | simp [closedB, Qr, Qg, Qi, dom, Qe, *], by first | rfl | simp [keepB, dom]⟩) ?_ ?_ <;> omega)
      | trace_state
  · have e : i = a.length := by omega
    subst e
    unfold YE; simp (config := { maxSteps := 2000000 }) only [bitvec_to_nat, reduceIte, Nat.reduceEqDiff, Nat.reduceAdd, Nat.reduceLeDiff, reduceCtorEq, Nat.reduceBEq, Nat.reduceLT, Nat.reduceMod, List.forall_mem_cons, Zb, Qk, Qm, Qa, Q3, Qh, List.take_length, List.length_cons, List.length_nil, Nat.zero_add, QH, QX, Q4, Q6, Zone.row, Qf, Qs, Word.row, Je, Own.row, Jy, Part.row, Jf, Seen.row, Jg, Book.row, Jh, Sector.row, QR, HCraft.row, QS, World.row, Q2, Pt.row, Ql, Aw.row, Qo, Blk.row, Qb, Sec.row, Qc, Rw.row, Qp, Sky.row, Qd, Place.row, QG, Run.row, QJ, SRow.row, QL, Hop.row, QM, Jx, JS, Jn, Jo, Jz, QY, QZ, Ji, QA, QB, Qj, Qn, QD, QO, QQ, Q5, QW, Q7, Int.toNat_natCast, List.length_map, Nat.sub_zero, Nat.zero_add, Ge, Kb, Kc]
    repeat' (first | with_reducible apply And.intro | with_reducible intro _)
    all_goals first
      | omega
      | rfl
      | (exfalso; omega)
      | trace_state
theorem Qo6 (t t' : Nat) (k : Int) (a : List SRow) (m : Nat) (ha : a.length ≤ 1000) (hs : ∀ x ∈ a, x.rs.length ≤ 1000) (hmm : m ≤ 1000) (hk : 0 ≤ k ∧ k ≤ 1000000) : Contract P 12 [.agg [.sl t 3 ((mrL k a).map (SRow.row 0)), .sl t' 4 ((Gk (k + (cr a a.length : Nat)) m).map Hop.row)], .int .i64 k] [] (.int .i64 (k + (cr a a.length : Nat) + 4 * (m : Nat))) [] := by
  have hct := Qo2 (l := a) (fun x hx => by have := hs x hx; omega) (Nat.le_refl _)
  have hC := Qm1 t k a (by omega) (fun x hx => by have := hs x hx; omega) (by omega)
  refine Qt ((Env.nil P).add 41 Vm QmZ) hm QaG (Nat.le_of_ble_eq_true rfl) rfl ?_; unfold Zl; simp (config := { maxSteps := 2000000 }) only [bitvec_to_nat, reduceIte, Nat.reduceEqDiff, Nat.reduceAdd, Nat.reduceLeDiff, reduceCtorEq, Nat.reduceBEq, Nat.reduceLT, Nat.reduceMod, List.forall_mem_cons, Vm, Qk, Qm, Qa, Q3, Qh, List.take_length, List.length_cons, List.length_nil, Nat.zero_add, QH, QX, Q4, Q6, Zone.row, Qf, Qs, Word.row, Je, Own.row, Jy, Part.row, Jf, Seen.row, Jg, Book.row, Jh, Sector.row, QR, HCraft.row, QS, World.row, Q2, Pt.row, Ql, Aw.row, Qo, Blk.row, Qb, Sec.row, Qc, Rw.row, Qp, Sky.row, Qd, Place.row, QG, Run.row, QJ, SRow.row, QL, Hop.row, QM, Jx, JS, Jn, Jo, Jz, QY, QZ, Ji, QA, QB, Qj, Qn, QD, QO, QQ, Q5, QW, Q7, Int.toNat_natCast, List.length_map, Nat.sub_zero, Nat.zero_add, Ge, Kb, Kc]
  refine ⟨_, _, .inr (.inl ⟨rfl, _, rfl, hC, rfl, trivial⟩), ?_⟩
  simp (config := { maxSteps := 2000000 }) only [bitvec_to_nat, reduceIte, Nat.reduceEqDiff, Nat.reduceAdd, Nat.reduceLeDiff, reduceCtorEq, Nat.reduceBEq, Nat.reduceLT, Nat.reduceMod, List.forall_mem_cons, Vm, Qk, Qm, Qa, Q3, Qh, List.take_length, List.length_cons, List.length_nil, Nat.zero_add, QH, QX, Q4, Q6, Zone.row, Qf, Qs, Word.row, Je, Own.row, Jy, Part.row, Jf, Seen.row, Jg, Book.row, Jh, Sector.row, QR, HCraft.row, QS, World.row, Q2, Pt.row, Ql, Aw.row, Qo, Blk.row, Qb, Sec.row, Qc, Rw.row, Qp, Sky.row, Qd, Place.row, QG, Run.row, QJ, SRow.row, QL, Hop.row, QM, Jx, JS, Jn, Jo, Jz, QY, QZ, Ji, QA, QB, Qj, Qn, QD, QO, QQ, Q5, QW, Q7, Int.toNat_natCast, List.length_map, Nat.sub_zero, Nat.zero_add, Ge, Kb, Kc]
  repeat' (first | with_reducible apply And.intro | with_reducible intro _)
  all_goals first | omega | rfl | trace_state
theorem Qt5 (t t' t2 t3 : Nat) (a : List SRow) (H : List Hop) (ha : a.length ≤ 1048577) (hs : ∀ x ∈ a, x.rs.length ≤ 1048577) (hmm : H.length ≤ 1048577) : Contract P 8 [.agg [.sl t 3 (a.map (SRow.row 0)), .sl t' 4 (H.map Hop.row)], .agg [.sl t2 3 (a.map (SRow.row 0)), .sl t3 4 (H.map Hop.row)]] [] (.bool true) [] := by
  have hx : ∀ x ∈ a, x.rs.length ≤ 4611686018427387904 := fun x hx => by have := hs x hx; omega
  refine Qt (((Env.nil P).add 28 Qck Qo1).add 29 QdS QrF) hm Qcv (Nat.le_of_ble_eq_true rfl) rfl ?_; unfold US; simp (config := { maxSteps := 2000000 }) only [bitvec_to_nat, reduceIte, Nat.reduceEqDiff, Nat.reduceAdd, Nat.reduceLeDiff, reduceCtorEq, Nat.reduceBEq, Nat.reduceLT, Nat.reduceMod, List.forall_mem_cons, Qck, QdS, Qk, Qm, Qa, Q3, Qh, List.take_length, List.length_cons, List.length_nil, Nat.zero_add, QH, QX, Q4, Q6, Zone.row, Qf, Qs, Word.row, Je, Own.row, Jy, Part.row, Jf, Seen.row, Jg, Book.row, Jh, Sector.row, QR, HCraft.row, QS, World.row, Q2, Pt.row, Ql, Aw.row, Qo, Blk.row, Qb, Sec.row, Qc, Rw.row, Qp, Sky.row, Qd, Place.row, QG, Run.row, QJ, SRow.row, QL, Hop.row, QM, Jx, JS, Jn, Jo, Jz, QY, QZ, Ji, QA, QB, Qj, Qn, QD, QO, QQ, Q5, QW, Q7, Int.toNat_natCast, List.length_map, Nat.sub_zero, Nat.zero_add, Ge, Kb, Kc]
  repeat' (first | with_reducible apply And.intro | with_reducible intro _)
  all_goals first | omega | rfl | trivial | exact hx _ (by assumption) | (exfalso; simp_all; done) | trace_state
def IX (o v k o2 w : Nat) (l : List SRow) (H : List Hop) : List (Nat × AObj) := RO o v k l ++ [(o2, .arr 61 w 4 (H.map Hop.row))]
theorem Qwd {o v k o2 w : Nat} {l : List SRow} {H : List Hop} (ho : o % 1000 < 100) (ho2 : o2 % 1000 < 100) (hk : k < 100) : (dom (IX o v k o2 w l H)).all (decide <| · % 1000 < 100) = true := by
  rw [IX, QjP, List.all_append, Qvg ho hk, Bool.true_and]
  simp [dom, ho2]
theorem Qo7 {o v k : Nat} {l : List SRow} {p : Nat × AObj} (h : p ∈ RO o v k l) : p.1 = o ∨ ∃ i, p.1 = fam k i := by
  simp only [RO, List.mem_cons] at h
  rcases h with rfl | h
  · exact .inl rfl
  · obtain ⟨i, _, rfl⟩ := ZB h
    exact .inr ⟨i, rfl⟩
theorem Qo8 {o v k : Nat} {l : List SRow} (ho : o < 1000) : uniq (RO o v k l) := by
  unfold uniq RO
  rw [List.pairwise_cons]
  refine ⟨fun p hp => ?_, QtL⟩
  have := ZC p hp
  (try simp only); omega
theorem QlW {o v k o2 w : Nat} {l : List SRow} {H : List Hop} {p : Nat × AObj} (h : p ∈ IX o v k o2 w l H) : p.1 = o ∨ p.1 = o2 ∨ ∃ i, p.1 = fam k i := by
  rcases List.mem_append.1 h with h | h
  · rcases Qo7 h with h | h
    · exact .inl h
    · exact .inr (.inr h)
  · rw [List.mem_singleton.1 h]; exact .inr (.inl rfl)
theorem Qo9 {o v k o2 w : Nat} {l : List SRow} {H : List Hop} (ho : o < 1000) (ho2 : o2 < 1000) (hn : o ≠ o2) : uniq (IX o v k o2 w l H) := by
  unfold uniq IX
  rw [List.pairwise_append]
  refine ⟨Qo8 ho, by simp, fun p hp q hq e => ?_⟩
  rw [List.mem_singleton.1 hq] at e
  rcases Qo7 hp with h | ⟨i, h⟩
  · rw [h] at e; exact hn e
  · rw [h] at e; (try simp only at e); unfold fam at e; omega
theorem QhN {o v k o2 w q : Nat} {l : List SRow} {H : List Hop} (h : q ≠ o) (h2 : q ≠ o2) (hq : q < 1000) : QgU (IX o v k o2 w l H) q := fun p hp e => by
  rcases QlW hp with h1 | h1 | ⟨i, h1⟩
  · omega
  · omega
  · rw [h1] at e; unfold fam at e; omega
theorem Qpa {o v v' k o2 w w' : Nat} {l l' : List SRow} {H H' : List Hop} (h : l.length = l'.length) : dom (IX o v k o2 w l H) = dom (IX o v' k o2 w' l' H') := by
  simp only [IX, RO, dom, List.map_cons, List.map_append, List.cons_append, List.cons.injEq, true_and]
  congr 1
  refine List.ext_getElem (by simp [QI, Xw, h]) fun i h1 h2 => ?_
  simp [QI, Xw]
theorem QlX {o v k o2 w : Nat} {l : List SRow} {H : List Hop} {D : List Nat} (h : ∀ q ∈ dom (IX o v k o2 w l H), q ∈ D) : ((IX o v k o2 w l H).all fun p => Qi D p.2) = true := by
  simp only [IX, RO, List.cons_append, List.all_cons, List.all_append, Bool.and_eq_true]
  refine ⟨?_, Qcf, by simp [Qi]⟩
  simp only [Qi]
  rw [if_neg (by omega)]
  exact W4 fun i hi => h _ (by
    rw [IX, QjP]
    exact List.mem_append_left _ (List.mem_cons_of_mem _ (QdQ hi)))
theorem Qke {o v k o2 w : Nat} {l : List SRow} {H : List Hop} : ((IX o v k o2 w l H).all fun p => Qi (dom (IX o v k o2 w l H)) p.2) = true := QlX fun q h => h
theorem Qvh {o v k o2 w : Nat} {l : List SRow} {H : List Hop} : ∀ p ∈ IX o v k o2 w l H, VW p.2 := fun p hp => by
  rcases List.mem_append.1 hp with hp | hp
  · simp only [RO, List.mem_cons] at hp
    rcases hp with rfl | hp
    · simp only [VW]
      have : ∀ (l : List (List AV)), (∀ r ∈ l, Ko r) → JW l := fun l h => by
        induction l with
        | nil => simp [JW]
        | cons x l ih => simp only [JW]; exact ⟨h x (by simp), ih fun r hr => h r (by simp [hr])⟩
      refine this _ fun r hr => ?_
      obtain ⟨i, hi, rfl⟩ := List.mem_iff_getElem.1 hr
      simp [J7, SRow.own, Ko, No99]
    · obtain ⟨i, hi, rfl⟩ := ZB hp
      exact Qhy _
  · rw [List.mem_singleton.1 hp]; exact QlN _
theorem Qpb {o v k o2 w : Nat} {l : List SRow} {H : List Hop} (ho : 100 ≤ o % 1000) (ho2 : 100 ≤ o2 % 1000) (hk : 100 ≤ k) (hk2 : k < 1000) : Yz (IX o v k o2 w l H) := UN (Jj ho (VD hk2 hk)) (Jj ho2 GT)
theorem Qt6 {o v k o2 w : Nat} {l : List SRow} {H : List Hop} (ho : o < 1000) (ho2 : o2 < 1000) (hn : o ≠ o2) : getM (IX o v k o2 w l H) = getM (IO o v k o2 w l H) := funext fun q => by
  simp only [IX, IO, RO, List.cons_append, getM]
  by_cases h1 : o = q
  · simp [h1]
  · have h1' : ¬ q = o := fun e => h1 e.symm
    simp only [h1', if_false]
    by_cases h2 : o2 = q
    · subst h2
      rw [Kq (gB0 ZC ho2)]
      simp [getM]
    · have h2' : ¬ q = o2 := fun e => h2 e.symm
      simp only [h2', if_false]
      cases hg : getM (QI (Xw k l)) q with
      | none => rw [Kq hg]; simp [getM, h2']
      | some x => exact KP hg
theorem Qpc (v w : Nat) (k : Int) (a : List SRow) (H : List Hop) (ha : a.length ≤ 1000) (hs : ∀ x ∈ a, x.rs.length ≤ 1000) (hmm : H.length ≤ 1000) (hk : 0 ≤ k ∧ k ≤ 1000000) : Contract P 11 [.agg [.own 3 v 0 a.length, .own 4 w 0 H.length], .int .i64 k] (IX 3 v 7 4 w a H) (.int .i64 (k + (cr a a.length : Nat) + 4 * (H.length : Nat))) (IX 3 v 7 4 w (mrL k a) (Gk (k + (cr a a.length : Nat)) H.length)) := by
  have hct := Qo2 (l := a) (fun x hx => by have := hs x hx; omega) (Nat.le_refl _)
  have m1 := Qm0 v k a (by omega) (fun x hx => by have := hs x hx; omega) (by omega)
  have m2 := (QmX w (k + (cr a a.length : Nat)) H (by omega) (by omega)).ren (swp 3 4) (J8 _ _)
  simp only [X7, ren, X8, renO, swp, reduceIte, Nat.reduceEqDiff, Nat.reduceLT] at m2
  have of : ∀ q l, q ≠ 3 → q < 1000 → QgU (RO 3 v 7 l) q := fun q l h h2 p hp e => by
    rcases Qo7 hp with h1 | ⟨i, h1⟩
    · omega
    · rw [h1] at e; unfold fam at e; omega
  have g102 : ∀ l B, getM (RO 3 v 7 l ++ B) 102 = getM B 102 := fun l B => Kf (of 102 l (by omega) (by omega))
  have g4 : ∀ l B, getM (RO 3 v 7 l ++ B) 4 = getM B 4 := fun l B => Kf (of 4 l (by omega) (by omega))
  have s102 : ∀ l B x, KD (RO 3 v 7 l ++ B) 102 x = RO 3 v 7 l ++ KD B 102 x := fun l B x => Kg (of 102 l (by omega) (by omega))
  have ap1 : ∀ B, Jb (RO 3 v 7 a ++ B) (RO 3 v 7 (mrL k a)) = RO 3 v 7 (mrL k a) ++ B := fun B => QgZ (Qo8 (by omega)) (by
    simp only [RO, dom, List.map_cons, List.cons.injEq, true_and]
    refine List.ext_getElem (by simp [QI, Xw, mrL]) fun i h1 h2 => ?_
    simp [QI, Xw])
  have ap2 : True := trivial
  have s4 : ∀ l B x, KD (RO 3 v 7 l ++ B) 4 x = RO 3 v 7 l ++ KD B 4 x := fun l B x => Kg (of 4 l (by omega) (by omega))
  have hdm : dom (RO 3 v 7 (mrL k a)) = dom (RO 3 v 7 a) := by
    simp only [RO, dom, List.map_cons, List.cons.injEq, true_and]
    refine List.ext_getElem (by simp [QI, Xw, mrL]) fun i h1 h2 => ?_
    simp [QI, Xw]
  have g3 : ∀ l B, getM (RO 3 v 7 l ++ B) 3 = some (.arr 1000053 v 3 (J7 7 l)) := fun l B => rfl
  refine Qt (Env.nil P) Go.Ve.hm QaF (Nat.le_of_ble_eq_true rfl) (Qwd (by omega) (by omega) (by omega)) ?_; unfold Zk
  simp (config := { maxSteps := 2000000 }) only [bitvec_to_nat, reduceIte, Nat.reduceEqDiff, Nat.reduceAdd, Nat.reduceLeDiff, reduceCtorEq, Nat.reduceBEq, Nat.reduceLT, Nat.reduceMod, List.forall_mem_cons, Qv, QE, Qu, Q9, keepB, QF, Jc, Qk, Qm, Qa, Q3, Qh, List.take_length, List.length_cons, List.length_nil, Nat.zero_add, QH, QX, Q4, Q6, Zone.row, Qf, Qs, Word.row, Je, Own.row, Jy, Part.row, Jf, Seen.row, Jg, Book.row, Jh, Sector.row, QR, HCraft.row, QS, World.row, Q2, Pt.row, Ql, Aw.row, Qo, Blk.row, Qb, Sec.row, Qc, Rw.row, Qp, Sky.row, Qd, Place.row, QG, Run.row, QJ, SRow.row, QL, Hop.row, QM, Jx, JS, Jn, Jo, Jz, QY, QZ, Ji, QA, QB, Qj, Qn, QD, QO, QQ, Q5, QW, Q7, Int.toNat_natCast, List.length_map, Nat.sub_zero, Nat.zero_add, Ge, Kb, Kc, g102, s102, g4, g3, s4, ap1, ap2, IX, List.append_assoc, List.cons_append, List.nil_append]
  refine ⟨_, _, QfR m1 hdm (fun p hp => KP (Qfk (by omega) p hp)) (by simp [Qg, Qr, RO, dom]) QhM rfl QhM, ?_⟩
  simp (config := { maxSteps := 2000000 }) only [bitvec_to_nat, reduceIte, Nat.reduceEqDiff, Nat.reduceAdd, Nat.reduceLeDiff, reduceCtorEq, Nat.reduceBEq, Nat.reduceLT, Nat.reduceMod, List.forall_mem_cons, Qv, QE, Qu, Q9, keepB, QF, Jc, Qk, Qm, Qa, Q3, Qh, List.take_length, List.length_cons, List.length_nil, Nat.zero_add, QH, QX, Q4, Q6, Zone.row, Qf, Qs, Word.row, Je, Own.row, Jy, Part.row, Jf, Seen.row, Jg, Book.row, Jh, Sector.row, QR, HCraft.row, QS, World.row, Q2, Pt.row, Ql, Aw.row, Qo, Blk.row, Qb, Sec.row, Qc, Rw.row, Qp, Sky.row, Qd, Place.row, QG, Run.row, QJ, SRow.row, QL, Hop.row, QM, Jx, JS, Jn, Jo, Jz, QY, QZ, Ji, QA, QB, Qj, Qn, QD, QO, QQ, Q5, QW, Q7, Int.toNat_natCast, List.length_map, Nat.sub_zero, Nat.zero_add, Ge, Kb, Kc, g102, s102, g4, g3, s4, ap1, ap2, IX, List.append_assoc, List.cons_append, List.nil_append]
  refine ⟨_, _, .inl ⟨_, m2, fun p hp => by rw [List.mem_singleton.1 hp, g4]; rfl, by simp [dom], rfl, rfl, rfl, rfl, rfl⟩, ?_⟩
  simp (config := { maxSteps := 2000000 }) only [bitvec_to_nat, reduceIte, Nat.reduceEqDiff, Nat.reduceAdd, Nat.reduceLeDiff, reduceCtorEq, Nat.reduceBEq, Nat.reduceLT, Nat.reduceMod, List.forall_mem_cons, Qv, QE, Qu, Q9, keepB, QF, Jc, Qk, Qm, Qa, Q3, Qh, List.take_length, List.length_cons, List.length_nil, Nat.zero_add, QH, QX, Q4, Q6, Zone.row, Qf, Qs, Word.row, Je, Own.row, Jy, Part.row, Jf, Seen.row, Jg, Book.row, Jh, Sector.row, QR, HCraft.row, QS, World.row, Q2, Pt.row, Ql, Aw.row, Qo, Blk.row, Qb, Sec.row, Qc, Rw.row, Qp, Sky.row, Qd, Place.row, QG, Run.row, QJ, SRow.row, QL, Hop.row, QM, Jx, JS, Jn, Jo, Jz, QY, QZ, Ji, QA, QB, Qj, Qn, QD, QO, QQ, Q5, QW, Q7, Int.toNat_natCast, List.length_map, Nat.sub_zero, Nat.zero_add, Ge, Kb, Kc, g102, s102, g4, g3, s4, ap1, ap2, IX, List.append_assoc, List.cons_append, List.nil_append]
  refine ⟨QnK.2 ⟨ZO fun p hp => KP (Qfk (by omega) p hp), by rw [g4]; rfl, trivial⟩, Qke (o := 3) (v := v) (k := 7) (o2 := 4) (w := w) (l := mrL k a) (H := Gk (k + (cr a a.length : Nat)) H.length), ?_⟩
  rw [List.all_eq_true]
  intro o ho
  simp only [List.map_append, List.mem_append, List.map_cons, List.map_nil, List.mem_cons, List.not_mem_nil, or_false] at ho
  simp only [Bool.or_eq_true, decide_eq_true_eq, List.contains_iff_mem, List.map_append, List.mem_append, List.map_cons, List.map_nil, List.mem_cons, List.not_mem_nil, or_false]
  rcases ho with ho | ho | ho
  · exact .inr (.inl ho)
  · exact .inr (.inr ho)
  · left; rw [ho]; omega
end
end Go.Ve

namespace Go.Ve
noncomputable section
open Go.Proofs
set_option linter.unusedSimpArgs false
set_option linter.unusedVariables false
set_option maxRecDepth 100000
open Go.ChangeShapes Go.WideShapes
theorem Qpd (s : Sky) (hs : s.small) (hf : s.fitp) (hv : ¬ s.valid) : Contract P 7 [.agg (s.row 0)] [] (.agg [.own 187 (WT s).length 0 (WT s).length, .own 236 (W2 s).length 0 (W2 s).length]) (IO 187 (WT s).length 181 236 (W2 s).length (WT s) (W2 s)) := by
  rw [WT, W2, if_neg hv, if_neg hv]
  refine Qt ((Env.nil P).add 25 JM QeT) hm Ux (Nat.le_of_ble_eq_true rfl) rfl ?_; unfold GH; simp (config := { maxSteps := 2000000 }) only [bitvec_to_nat, reduceIte, Nat.reduceEqDiff, Nat.reduceAdd, Nat.reduceLeDiff, reduceCtorEq, Nat.reduceBEq, Nat.reduceLT, Nat.reduceMod, List.forall_mem_cons, Qv, QE, Qu, Q9, keepB, QF, Jc, JM, Qk, Qm, Qa, Q3, Qh, List.take_length, List.length_cons, List.length_nil, Nat.zero_add, QH, QX, Q4, Q6, Zone.row, Qf, Qs, Word.row, Je, Own.row, Jy, Part.row, Jf, Seen.row, Jg, Book.row, Jh, Sector.row, QR, HCraft.row, QS, World.row, Q2, Pt.row, Ql, Aw.row, Qo, Blk.row, Qb, Sec.row, Qc, Rw.row, Qp, Sky.row, Qd, Place.row, QG, Run.row, QJ, SRow.row, QL, Hop.row, QM, Jx, JS, Jn, Jo, Jz, QY, QZ, Ji, QA, QB, Qj, Qn, QD, QO, QQ, Q5, QW, Q7, Sky.row, KE]
  refine ⟨⟨hs, hf⟩, fun h => absurd h hv, fun _ => ⟨⟨rfl, rfl, trivial⟩, rfl, by simp [Qr, IO, Xw, QI], rfl⟩⟩
theorem Qjj (s : Sky) (hs : s.small) (hf : s.fitp) : Contract P 7 [.agg (s.row 0)] [] (.agg [.own 187 (WT s).length 0 (WT s).length, .own 236 (W2 s).length 0 (W2 s).length]) (IX 187 (WT s).length 181 236 (W2 s).length (WT s) (W2 s)) := by
  have h : Contract P 7 [.agg (s.row 0)] [] (.agg [.own 187 (WT s).length 0 (WT s).length, .own 236 (W2 s).length 0 (W2 s).length]) (IO 187 (WT s).length 181 236 (W2 s).length (WT s) (W2 s)) := by
    by_cases hv : s.valid
    · exact Qrl s hs hf hv
    · exact Qpd s hs hf hv
  exact h.post_eq (Qt6 (by omega) (by omega) (by omega))
theorem QrL (s : Sky) (hw : s.w ≤ 16) (lv y : Int) : (KM s lv y s.w.toNat).length ≤ 16 := Nat.le_trans (Qcb _) (by omega)
theorem Qvi (s : Sky) : (WT s).length ≤ 1000 ∧ (∀ x ∈ WT s, x.rs.length ≤ 1000) ∧ (W2 s).length ≤ 1000 := by
  by_cases hv : s.valid
  · have hd := hv.1
    unfold G7 at hd
    rw [WT, W2, if_pos hv, if_pos hv]
    refine ⟨?_, fun x hx => ?_, ?_⟩
    · have := Qcd (s := s) (a := s.lv.toNat) (b := 0) (by omega) (by omega) (by omega)
      rw [QdP] at this; omega
    · unfold X3 Qka at hx
      obtain ⟨l, _, hx⟩ := List.mem_flatMap.1 hx
      obtain ⟨y, _, rfl⟩ := List.mem_map.1 hx
      have := QrL s (by omega) ((l : Int) + 1) y
      simp only; omega
    · have := QcH (s := s) (i := s.pts.length) (k := 0) hv.2.1.1 hv.2.1.1 (by omega)
      rw [QhA] at this; omega
  · rw [WT, W2, if_neg hv, if_neg hv]; simp
theorem VV {o v k k' o2 w : Nat} {l : List SRow} {H : List Hop} {σ : Nat → Nat} (hA : ∀ i, σ (fam k i) = fam k' i) : X8 σ (IX o v k o2 w l H) = IX (σ o) v k' (σ o2) w l H := by
  have eA : (Xw k l).map (NRow.ren σ) = Xw k' l := by
    refine List.ext_getElem (by simp [Xw]) fun i h1 h2 => ?_
    simp [Xw, NRow.ren, hA, renO, SRow.ob]
  have eB : (J7 k l).map (X7 σ) = J7 k' l := by
    refine List.ext_getElem (by simp [J7]) fun i h1 h2 => ?_
    simp [J7, SRow.own, X7, ren, hA]
  simp only [IX, RO, List.cons_append, X8, QgT, renO, Yo, eA, eB]
  rw [if_neg (by omega), if_pos (by omega)]
theorem Qpe {o v k o2 w : Nat} {l : List SRow} {H : List Hop} {B : List (Nat × AObj)} (ho : 100 ≤ o % 1000) (ho2 : 100 ≤ o2 % 1000) (hk : 100 ≤ k) (hk2 : k < 1000) : keepB (IX o v k o2 w l H ++ B) [] = keepB B [] := Qet (Gt (Qpb ho ho2 hk hk2))
theorem XX {o v k o2 w : Nat} {l : List SRow} {H : List Hop} : getM (IX o v k o2 w l H) o = some (.arr (1000000 + 53) v 3 (J7 k l)) := by simp only [IX, RO, List.cons_append, getM, if_true]
theorem Gf {o v k o2 w : Nat} {l : List SRow} {H : List Hop} {B : List (Nat × AObj)} : getM (IX o v k o2 w l H ++ B) o = some (.arr (1000000 + 53) v 3 (J7 k l)) := KP XX
theorem Qvj {o v k o2 w o' v' k' o2' w' : Nat} {l l' : List SRow} {H H' : List Hop} (h : ∀ x ∈ [o, o2], ∀ y ∈ [o', o2'], x ≠ y) (hl : ∀ x ∈ [o, o2, o', o2'], x < 1000) (hk : k < 1000) (hk' : k' < 1000) (hn : k ≠ k') : dis (IX o v k o2 w l H) (IX o' v' k' o2' w' l' H') := fun p hp q hq e => by
  simp at h hl
  rcases QlW hp with h1 | h1 | ⟨i, h1⟩ <;> rcases QlW hq with h2 | h2 | ⟨j, h2⟩ <;> rw [h1, h2] at e <;> (try unfold fam at e) <;> omega
theorem QlY (K : Nat → Option AObj) : ∀ {l : List SRow} {f : Nat → Nat}, (∀ i, i < l.length → K (f i) = some (l.getD i default).ob) → W9 K (l.mapIdx fun i x => x.own (f i)) = some (l.map (SRow.row 99))
  | [], f, _ => rfl
  | x :: l, f, h => by
    have h0 := h 0 (by simp)
    have ih := QlY K (l := l) (f := fun i => f (i + 1)) fun i hi => by simpa using h (i + 1) (by simpa using hi)
    have ht : (x.rs.map Run.row).take x.rs.length = x.rs.map Run.row := List.take_of_length_le (by simp)
    simp only [List.getD_cons_zero, SRow.ob] at h0
    have hp : Qng K (x.own (f 0)) = some (SRow.row 99 x) := by
      simp only [SRow.own, Qng, h0, Nat.reduceLT, if_true, JN, noref, Bool.and_self, List.drop_zero, ht, SRow.row]
    simp only [List.mapIdx_cons, W9, ih, hp, List.map_cons]
theorem Qfl {M K : Nat → Option AObj} {o v k o2 w n m : Nat} {l : List SRow} {H : List Hop} (hn : n = l.length) (hm : m = H.length) (hM : ∀ p ∈ IX o v k o2 w l H, M p.1 = some p.2) (hK : ∀ p ∈ IX o v k o2 w l H, K p.1 = some p.2) : Wa M K (.agg [.own o v 0 n, .own o2 w 0 m]) = some (.agg [.sl 99 3 (l.map (SRow.row 99)), .sl 99 4 (H.map Hop.row)]) := by
  have h1 := hM (o, .arr (1000000 + 53) v 3 (J7 k l)) (by simp [IX, RO])
  have h2 := hM (o2, .arr 61 w 4 (H.map Hop.row)) (by simp [IX])
  simp only at h1 h2
  have hA := QlY K (l := l) (f := fam k) fun i hi => hK (fam k i, (l.getD i default).ob) (by simp only [IX, RO]; exact List.mem_append_left _ (List.mem_cons_of_mem _ (QoD hi)))
  have t1 : (J7 k l).take n = J7 k l := List.take_of_length_le (by rw [Y1, hn]; exact Nat.le_refl _)
  have t2 : (H.map Hop.row).take m = H.map Hop.row := List.take_of_length_le (by simp [hm])
  have f2 : W9 K (H.map Hop.row) = some (H.map Hop.row) := WY K fun r hr => by obtain ⟨x, _, rfl⟩ := List.mem_map.1 hr; rfl
  have hA' : W9 K (J7 k l) = _ := hA
  simp only [Wa, UE, h1, h2, if_true, List.drop_zero, t1, t2, f2, hA', Option.map_some]
theorem Qcl {t : Nat} {l : List SRow} : UO (l.map (SRow.row t)) = l.map (SRow.row 0) := QgV (f := SRow.row) (fun x => by simp only [SRow.row, Y7, tag0]; rw [WZ (f := Run.row) fun _ => rfl]) l
theorem Qcm {l : List Hop} : UO (l.map Hop.row) = l.map Hop.row := WZ (fun _ => rfl) l
theorem Qjk {t s : Nat} {xs : List (List AV)} : tag0 (.sl t s xs) = .sl 0 s (UO xs) := rfl
theorem Qfm {k : IntKind} {n : Int} : tag0 (.int k n) = .int k n := rfl
theorem Qfn {l : List AV} : tag0 (.agg l) = .agg (Y7 l) := rfl
theorem Y2 {t : Nat} (ht : t ≠ 98) {l : List SRow} : QcS (l.map (SRow.row t)) = true := Gu (f := SRow.row t) (fun x => by simp only [SRow.row, Zi, QiB]; rw [Gu (f := Run.row) fun _ => rfl]; simp [ht]) l
theorem WU {l : List Hop} : QcS (l.map Hop.row) = true := Gu (f := Hop.row) (fun _ => rfl) l
theorem QrM {o v k o2 w : Nat} {l : List SRow} {H : List Hop} : ((IX o v k o2 w l H).reverse.all fun p => Qes p.2) = true := by
  rw [List.all_reverse, List.all_eq_true]
  intro p hp
  rcases List.mem_append.1 hp with hp | hp
  · simp only [RO, List.mem_cons] at hp
    rcases hp with rfl | hp
    · simp only [Qes]
      rw [List.all_eq_true]
      intro r hr
      obtain ⟨i, hi, rfl⟩ := List.mem_iff_getElem.1 hr
      simp [J7, SRow.own, Wg, VE]
    · obtain ⟨i, hi, rfl⟩ := ZB hp
      simp [Qes, SRow.ob, Run.row, Wg, VE]
  · rw [List.mem_singleton.1 hp]; simp [Qes, Hop.row, Wg, VE]
theorem Qpf {o v k o2 w n m : Nat} {l : List SRow} {H : List Hop} : Qr (dom (IX o v k o2 w l H).reverse) (.agg [.own o v 0 n, .own o2 w 0 m]) = true := by
  simp [IX, RO, dom, Qr, Qg]
theorem Qpg {o v k o2 w : Nat} {l : List SRow} {H : List Hop} : ((IX o v k o2 w l H).reverse.all fun p => Qi (dom (IX o v k o2 w l H).reverse) p.2) = true := by
  rw [List.all_reverse]
  exact QlX fun q hq => by rw [QjR]; simpa using hq
theorem Ju (s : Sky) : uniq (K0 s) := Qvd s
theorem Yt {s : Sky} {q : Nat} (h : q < 611) : QgU (K0 s) q := fun p hp e => by have := QoZ s p hp; omega
theorem Yu {s : Sky} {q : Nat} (h : 614 < q) (h2 : q < 1000) : QgU (K0 s) q := fun p hp e => by have := QoZ s p hp; omega
theorem Qsf {s : Sky} {p : Nat × AObj} (h : p ∈ K0 s) : p.1 < 1000 ∧ 611 ≤ p.1 ∧ p.1 ≤ 614 ∨ ∃ i, p.1 = fam 107 i ∨ p.1 = fam 108 i := by
  simp only [K0, Vn, List.mem_cons, List.mem_append] at h
  rcases h with rfl | rfl | rfl | rfl | h | h
  · simp
  · simp
  · simp
  · simp
  · obtain ⟨i, _, rfl⟩ := Yh h; exact .inr ⟨i, .inl rfl⟩
  · obtain ⟨i, _, rfl⟩ := Yh h; exact .inr ⟨i, .inr rfl⟩
theorem QlZ (s : Sky) : Yz (K0 s) := fun p hp => by
  rcases Qsf hp with ⟨h1, h2, h3⟩ | ⟨i, h | h⟩
  · omega
  · rw [h, Vr (by omega)]; omega
  · rw [h, Vr (by omega)]; omega
theorem Qkf {s : Sky} {B : List (Nat × AObj)} : keepB (gone (K0 s) ++ B) [] = keepB B [] := Qet (Gt (Qeu (QlZ s)))
theorem QaX {s : Sky} : keepB (gone (K0 s)) [] = true := Gt (Qeu (QlZ s))
theorem QaY {s : Sky} {B : List (Nat × AObj)} : keepB (K0 s ++ B) [] = keepB B [] := Qet (Gt (QlZ s))
theorem ZG {s : Sky} : keepB (K0 s) [] = true := Gt (QlZ s)
theorem Qvk {s : Sky} {o v k o2 w : Nat} {l : List SRow} {H : List Hop} (h1 : 614 < o) (h2 : 614 < o2) (ho : o < 1000) (ho2 : o2 < 1000) (hk : k < 107) : dis (K0 s) (IX o v k o2 w l H) := fun p hp q hq e => by
  rcases Qsf hp with ⟨h3, h4, h5⟩ | ⟨i, h3 | h3⟩ <;> rcases QlW hq with h6 | h6 | ⟨j, h6⟩ <;> rw [h6] at e <;> (try unfold fam at h3) <;> (try unfold fam at e) <;> omega
abbrev RA (v w : Nat) (l : List SRow) (H : List Hop) : List (Nat × AObj) := IX 731 v 104 732 w l H
theorem Jk {v w : Nat} {l : List SRow} {H : List Hop} : uniq (RA v w l H) := Qo9 (by omega) (by omega) (by omega)
theorem Yv {v w q : Nat} {l : List SRow} {H : List Hop} (h : q < 731) : QgU (RA v w l H) q := QhN (by omega) (by omega) (by omega)
theorem Yw {v w q : Nat} {l : List SRow} {H : List Hop} (h : 732 < q) (h2 : q < 1000) : QgU (RA v w l H) q := QhN (by omega) (by omega) (by omega)
theorem Qkg {v w : Nat} {l : List SRow} {H : List Hop} {B : List (Nat × AObj)} : keepB (RA v w l H ++ B) [] = keepB B [] := Qpe (by omega) (by omega) (by omega) (by omega)
theorem QaZ {v w : Nat} {l : List SRow} {H : List Hop} : keepB (RA v w l H) [] = true := Gt (Qpb (by omega) (by omega) (by omega) (by omega))
theorem Qa0 {v w : Nat} {k q : Int} {n : Nat} {l : List SRow} {H : List Hop} {B : List (Nat × AObj)} : Jb (RA v w l H ++ B) (RA v w (mrL k l) (Gk q n)) = RA v w (mrL k l) (Gk q n) ++ B := QgZ Jk (Qpa Ge)
theorem ZH {v w : Nat} {k q : Int} {n : Nat} {l : List SRow} {H : List Hop} : Jb (RA v w l H) (RA v w (mrL k l) (Gk q n)) = RA v w (mrL k l) (Gk q n) := Qqx Jk (Qpa Ge)
theorem Gm {s : Sky} {v w : Nat} {l : List SRow} {H : List Hop} : dis (K0 s) (RA v w l H) := Qvk (by omega) (by omega) (by omega) (by omega) (by omega)
theorem V4 {s : Sky} {v w : Nat} {l : List SRow} {H : List Hop} : dis (RA v w l H) (K0 s) := Qbs Gm
theorem Qvl {v w : Nat} {l : List SRow} {H : List Hop} : ∀ p ∈ (RA v w l H).reverse, VW p.2 := fun p hp => Qvh p (List.mem_reverse.1 hp)
theorem Qvm (s : Sky) (hs : s.small) (hf : s.fitp) : Contract P 7 [.agg (s.row 0)] [] (.agg [.own 731 (WT s).length 0 (WT s).length, .own 732 (W2 s).length 0 (W2 s).length]) (RA (WT s).length (W2 s).length (WT s) (W2 s)).reverse := by
  have h := (((Qjj s hs hf).ren (swp 187 731) (J8 _ _)).ren (swp 236 732) (J8 _ _)).ren (QhQ 181 104) (Zh (by omega) (by omega))
  rw [VV (k' := 181) (fun i => Yg (by omega) (by omega)), VV (k' := 181) (fun i => Yg (by omega) (by omega)), VV (k' := 104) (fun i => Vs (by omega))] at h
  exact h.post_eq (funext fun o => QdE Jk o)
abbrev RB (v w : Nat) (l : List SRow) (H : List Hop) : List (Nat × AObj) := IX 741 v 105 742 w l H
theorem Jv {v w : Nat} {l : List SRow} {H : List Hop} : uniq (RB v w l H) := Qo9 (by omega) (by omega) (by omega)
theorem Yx {v w q : Nat} {l : List SRow} {H : List Hop} (h : q < 741) : QgU (RB v w l H) q := QhN (by omega) (by omega) (by omega)
theorem Yy {v w q : Nat} {l : List SRow} {H : List Hop} (h : 742 < q) (h2 : q < 1000) : QgU (RB v w l H) q := QhN (by omega) (by omega) (by omega)
theorem Qkh {v w : Nat} {l : List SRow} {H : List Hop} {B : List (Nat × AObj)} : keepB (RB v w l H ++ B) [] = keepB B [] := Qpe (by omega) (by omega) (by omega) (by omega)
theorem Qa1 {v w : Nat} {l : List SRow} {H : List Hop} : keepB (RB v w l H) [] = true := Gt (Qpb (by omega) (by omega) (by omega) (by omega))
theorem Gn {s : Sky} {v w : Nat} {l : List SRow} {H : List Hop} : dis (K0 s) (RB v w l H) := Qvk (by omega) (by omega) (by omega) (by omega) (by omega)
theorem V5 {s : Sky} {v w : Nat} {l : List SRow} {H : List Hop} : dis (RB v w l H) (K0 s) := Qbs Gn
theorem Qvn {v w : Nat} {l : List SRow} {H : List Hop} : ∀ p ∈ (RB v w l H).reverse, VW p.2 := fun p hp => Qvh p (List.mem_reverse.1 hp)
theorem Qvo (s : Sky) (hs : s.small) (hf : s.fitp) : Contract P 7 [.agg (s.row 0)] [] (.agg [.own 741 (WT s).length 0 (WT s).length, .own 742 (W2 s).length 0 (W2 s).length]) (RB (WT s).length (W2 s).length (WT s) (W2 s)).reverse := by
  have h := (((Qjj s hs hf).ren (swp 187 741) (J8 _ _)).ren (swp 236 742) (J8 _ _)).ren (QhQ 181 105) (Zh (by omega) (by omega))
  rw [VV (k' := 181) (fun i => Yg (by omega) (by omega)), VV (k' := 181) (fun i => Yg (by omega) (by omega)), VV (k' := 105) (fun i => Vs (by omega))] at h
  exact h.post_eq (funext fun o => QdE Jv o)
theorem RAB {v w v' w' : Nat} {l l' : List SRow} {H H' : List Hop} : dis (RA v w l H) (RB v' w' l' H') := Qvj (by simp) (by simp) (by omega) (by omega) (by omega)
theorem RBA {v w v' w' : Nat} {l l' : List SRow} {H H' : List Hop} : dis (RB v' w' l' H') (RA v w l H) := Qbs RAB
theorem Qvp (v w : Nat) (k : Int) (a : List SRow) (H : List Hop) (ha : a.length ≤ 1000) (hs : ∀ x ∈ a, x.rs.length ≤ 1000) (hm : H.length ≤ 1000) (hk : 0 ≤ k ∧ k ≤ 1000000) : Contract P 11 [.agg [.own 731 v 0 a.length, .own 732 w 0 H.length], .int .i64 k] (RA v w a H) (.int .i64 (k + (cr a a.length : Nat) + 4 * (H.length : Nat))) (RA v w (mrL k a) (Gk (k + (cr a a.length : Nat)) H.length)) := by
  have h := (((Qpc v w k a H ha hs hm hk).ren (swp 3 731) (J8 _ _)).ren (swp 4 732) (J8 _ _)).ren (QhQ 7 104) (Zh (by omega) (by omega))
  rw [VV (k' := 7) (fun i => Yg (by omega) (by omega)), VV (k' := 7) (fun i => Yg (by omega) (by omega)), VV (k' := 104) (fun i => Vs (by omega)), VV (k' := 7) (fun i => Yg (by omega) (by omega)), VV (k' := 7) (fun i => Yg (by omega) (by omega)), VV (k' := 104) (fun i => Vs (by omega))] at h
  exact h
end
end Go.Ve

namespace Go.Ve
noncomputable section
open Go.Proofs
set_option linter.unusedSimpArgs false
set_option linter.unusedVariables false
set_option maxRecDepth 100000
open Go.ChangeShapes Go.WideShapes
set_option maxHeartbeats 8000000 in
theorem Qa2 (s : Sky) (hf : s.fitp) : Contract P 3 [.agg (s.row 1)] [] (.bool true) [] := by
  have hR : True := trivial
  have hH : True := trivial
  have hn1 : True := trivial
  have z2 : Sky.sz s 1048576 ≤ 1048576 := by have := (QqH s 1048576 (by omega)).2.2; omega
  simp only [Sky.row]
  refine Qt (((Env.nil P).add 4 K6 Qs5).add 5 Kw Qrh) hm UR (Nat.le_of_ble_eq_true rfl) rfl ?_; unfold Gi; simp (config := { maxSteps := 2000000, maxDischargeDepth := 8 }) only [bitvec_to_nat, reduceIte, Nat.reduceEqDiff, Nat.reduceAdd, Nat.reduceLeDiff, reduceCtorEq, Nat.reduceBEq, Nat.reduceLT, Nat.reduceMod, List.forall_mem_cons, K6, Kw, Qk, Qm, Qa, Q3, Qh, List.take_length, List.length_cons, List.length_nil, Nat.zero_add, QH, QX, Q4, Q6, Zone.row, Qf, Qs, Pt.row, Ql, QA, Aw.row, Qo, QB, Blk.row, Qb, Qj, Sec.row, Qc, Qn, Rw.row, Qp, QD, Qd, Sky.row, QL, QW, Run.row, QJ, Q5, Hop.row, QM, Q7, V3, List.length_map, Int.toNat_natCast, Nat.sub_zero, and_self, eq_self, not_true_eq_false, ne_eq, bne_self_eq_false, hn1, hR, hH, List.nil_append, Kf, Kr, Kg, KS, K3, YA, KT, YB, KU, Y8, KV, Zj, Y9, Yt, Yu, Yv, Yw, Yx, Yy, Jk, Jv, Qkg, QaZ, Qkh, Qa1, Qa0, ZH, XX, Gf, Gm, V4, Gn, V5, RAB, RBA, Ku, KQ, QK, Kv, KR, Ju, Qkf, QaX, QaY, ZG, List.cons_append, List.nil_append, List.append_assoc]
  refine ⟨⟨by omega, hf⟩, fun g1 => ?_⟩
  have hs : s.small := Sky.sz_ok (a := 1048576) (by omega) (by omega)
  have hT := Qtp s hs
  have n9T : No99 (.agg (s.row 0)) := by simp [Sky.row, No99, Ko, Gc, G4, Yq, Gd]
  have hTO := Qve s hs
  have hEq := Qvf s hs
  have hMk := QrB 1 s hs (by omega)
  have hct1 := QhK hs.2.1.2 (Nat.le_refl _)
  have hct2 := Qe9 hs.2.2.1.2 (Nat.le_refl _)
  have hsm := hs
  unfold Sky.small at hsm
  have hcs : Qjf s ≤ 100000000000000 := by unfold Qjf; omega
  obtain ⟨l1, l2, l3⟩ := Qvi s
  have hI1 := Qvm s hs hf
  have hI2 := Qvo s hs hf
  generalize hR0 : WT s = R at *
  generalize hH0 : W2 s = H at *
  have hR := hR0
  have hH := hH0
  have hcr := Qo2 (l := R) (fun x hx => by have := l2 x hx; omega) (Nat.le_refl _)
  have eqX := Qt5 0 0 0 0 R H (by omega) (fun x hx => by have := l2 x hx; omega) (by omega)
  have hHd := Qo6 0 0 1 R H.length l1 l2 l3 (by omega)
  have hZ := Qvp R.length H.length 1 R H l1 l2 l3 (by omega)
  simp only [Sky.row] at hT n9T hTO
  refine ⟨_, _, .inr (.inl ⟨rfl, _, rfl, hT, rfl, n9T⟩), ?_⟩
  simp (config := { maxSteps := 2000000, maxDischargeDepth := 8 }) only [bitvec_to_nat, reduceIte, Nat.reduceEqDiff, Nat.reduceAdd, Nat.reduceLeDiff, reduceCtorEq, Nat.reduceBEq, Nat.reduceLT, Nat.reduceMod, List.forall_mem_cons, K6, Kw, Qk, Qm, Qa, Q3, Qh, List.take_length, List.length_cons, List.length_nil, Nat.zero_add, QH, QX, Q4, Q6, Zone.row, Qf, Qs, Pt.row, Ql, QA, Aw.row, Qo, QB, Blk.row, Qb, Qj, Sec.row, Qc, Qn, Rw.row, Qp, QD, Qd, Sky.row, QL, QW, Run.row, QJ, Q5, Hop.row, QM, Q7, V3, List.length_map, Int.toNat_natCast, Nat.sub_zero, and_self, eq_self, not_true_eq_false, ne_eq, bne_self_eq_false, hn1, hR, hH, List.nil_append, Kf, Kr, Kg, KS, K3, YA, KT, YB, KU, Y8, KV, Zj, Y9, Yt, Yu, Yv, Yw, Yx, Yy, Jk, Jv, Qkg, QaZ, Qkh, Qa1, Qa0, ZH, XX, Gf, Gm, V4, Gn, V5, RAB, RBA, Ku, KQ, QK, Kv, KR, Ju, Qkf, QaX, QaY, ZG, List.cons_append, List.nil_append, List.append_assoc]
  refine ⟨hs, _, _, .inr (.inr (.inl ⟨_, rfl, hTO, (QgY (by repeat' (first | exact QgX | exact Qew (by first | exact Gm | exact V4 | exact QK Gm | exact Gn | exact V5 | exact QK Gn | exact RAB | exact RBA) | refine QgW (by first | exact Gm | exact V4 | exact QK Gm | exact Gn | exact V5 | exact QK Gn | exact RAB | exact RBA) ?_ | refine Qev (by first | exact Yt (by omega) | exact Yu (by omega) (by omega) | exact Yv (by omega) | exact Yw (by omega) (by omega) | exact Yx (by omega) | exact Yy (by omega) (by omega)) ?_))), Qrz, QrA, by simp [V3, No99, Ko], Qwb⟩)), ?_⟩
  simp (config := { maxSteps := 2000000, maxDischargeDepth := 8 }) only [bitvec_to_nat, reduceIte, Nat.reduceEqDiff, Nat.reduceAdd, Nat.reduceLeDiff, reduceCtorEq, Nat.reduceBEq, Nat.reduceLT, Nat.reduceMod, List.forall_mem_cons, K6, Kw, Qk, Qm, Qa, Q3, Qh, List.take_length, List.length_cons, List.length_nil, Nat.zero_add, QH, QX, Q4, Q6, Zone.row, Qf, Qs, Pt.row, Ql, QA, Aw.row, Qo, QB, Blk.row, Qb, Qj, Sec.row, Qc, Qn, Rw.row, Qp, QD, Qd, Sky.row, QL, QW, Run.row, QJ, Q5, Hop.row, QM, Q7, V3, List.length_map, Int.toNat_natCast, Nat.sub_zero, and_self, eq_self, not_true_eq_false, ne_eq, bne_self_eq_false, hn1, hR, hH, List.nil_append, Kf, Kr, Kg, KS, K3, YA, KT, YB, KU, Y8, KV, Zj, Y9, Yt, Yu, Yv, Yw, Yx, Yy, Jk, Jv, Qkg, QaZ, Qkh, Qa1, Qa0, ZH, XX, Gf, Gm, V4, Gn, V5, RAB, RBA, Ku, KQ, QK, Kv, KR, Ju, Qkf, QaX, QaY, ZG, List.cons_append, List.nil_append, List.append_assoc]
  refine ⟨_, _, GV (news := (RA R.length H.length R H).reverse) (keep := K0 s) (args' := [.agg (s.row 99)]) (by simp only [Y7, QoY]; exact hI1) (by repeat' (first | exact QU (Ju _) | exact QN (Ju _) | exact QN Jk | exact QN Jv | exact QU Jk | exact QU Jv | refine KH (by first | exact Gm | exact V4 | exact QK Gm | exact Gn | exact V5 | exact QK Gn | exact RAB | exact RBA) ?_ | refine Kk (by first | exact Yt (by omega) | exact Yu (by omega) (by omega) | exact Yv (by omega) | exact Yw (by omega) (by omega) | exact Yx (by omega) | exact Yy (by omega) (by omega)) ?_)) (GU (QlT (by repeat' (first | exact QU (Ju _) | exact QN (Ju _) | exact QN Jk | exact QN Jv | exact QU Jk | exact QU Jv | refine KH (by first | exact Gm | exact V4 | exact QK Gm | exact Gn | exact V5 | exact QK Gn | exact RAB | exact RBA) ?_ | refine Kk (by first | exact Yt (by omega) | exact Yu (by omega) (by omega) | exact Yv (by omega) | exact Yw (by omega) (by omega) | exact Yx (by omega) | exact Yy (by omega) (by omega)) ?_)) (QN (Ju s))) rfl) (by simp only [Zi, QhL 99 (by omega), Bool.and_self]) rfl QrM (QgY (by repeat' (first | exact QgX | exact Qew (by first | exact Gm | exact V4 | exact QK Gm | exact Gn | exact V5 | exact QK Gn | exact RAB | exact RBA) | refine QgW (by first | exact Gm | exact V4 | exact QK Gm | exact Gn | exact V5 | exact QK Gn | exact RAB | exact RBA) ?_ | refine Qev (by first | exact Yt (by omega) | exact Yu (by omega) (by omega) | exact Yv (by omega) | exact Yw (by omega) (by omega) | exact Yx (by omega) | exact Yy (by omega) (by omega)) ?_))) Qpf Qpg (by simp [No99, Ko]) Qvl, ?_⟩
  simp (config := { maxSteps := 2000000, maxDischargeDepth := 8 }) only [bitvec_to_nat, reduceIte, Nat.reduceEqDiff, Nat.reduceAdd, Nat.reduceLeDiff, reduceCtorEq, Nat.reduceBEq, Nat.reduceLT, Nat.reduceMod, List.forall_mem_cons, K6, Kw, Qk, Qm, Qa, Q3, Qh, List.take_length, List.length_cons, List.length_nil, Nat.zero_add, QH, QX, Q4, Q6, Zone.row, Qf, Qs, Pt.row, Ql, QA, Aw.row, Qo, QB, Blk.row, Qb, Qj, Sec.row, Qc, Qn, Rw.row, Qp, QD, Qd, Sky.row, QL, QW, Run.row, QJ, Q5, Hop.row, QM, Q7, V3, List.length_map, Int.toNat_natCast, Nat.sub_zero, and_self, eq_self, not_true_eq_false, ne_eq, bne_self_eq_false, hn1, hR, hH, List.nil_append, Kf, Kr, Kg, KS, K3, YA, KT, YB, KU, Y8, KV, Zj, Y9, Yt, Yu, Yv, Yw, Yx, Yy, Jk, Jv, Qkg, QaZ, Qkh, Qa1, Qa0, ZH, XX, Gf, Gm, V4, Gn, V5, RAB, RBA, Ku, KQ, QK, Kv, KR, Ju, Qkf, QaX, QaY, ZG, List.cons_append, List.nil_append, List.append_assoc]
  refine ⟨_, _, GV (r := .bool true) (news := []) (keep := RA R.length H.length R H) (args' := [.agg [.sl 99 3 (R.map (SRow.row 99)), .sl 99 4 (H.map Hop.row)], .agg [.sl 0 3 (R.map (SRow.row 0)), .sl 0 4 (H.map Hop.row)]]) (by simp only [Y7, Qfn, Qjk, Qfm, Qcl, Qcm]; exact eqX) (by repeat' (first | exact QU (Ju _) | exact QN (Ju _) | exact QN Jk | exact QN Jv | exact QU Jk | exact QU Jv | refine KH (by first | exact Gm | exact V4 | exact QK Gm | exact Gn | exact V5 | exact QK Gn | exact RAB | exact RBA) ?_ | refine Kk (by first | exact Yt (by omega) | exact Yu (by omega) (by omega) | exact Yv (by omega) | exact Yw (by omega) (by omega) | exact Yx (by omega) | exact Yy (by omega) (by omega)) ?_)) (GU (Qfl rfl rfl (by repeat' (first | exact QU (Ju _) | exact QN (Ju _) | exact QN Jk | exact QN Jv | exact QU Jk | exact QU Jv | refine KH (by first | exact Gm | exact V4 | exact QK Gm | exact Gn | exact V5 | exact QK Gn | exact RAB | exact RBA) ?_ | refine Kk (by first | exact Yt (by omega) | exact Yu (by omega) (by omega) | exact Yv (by omega) | exact Yw (by omega) (by omega) | exact Yx (by omega) | exact Yy (by omega) (by omega)) ?_)) (QN Jk)) rfl) (by simp only [Zi, QiB, Y2 (show (99 : Nat) ≠ 98 by omega), Y2 (show (0 : Nat) ≠ 98 by omega), WU]; rfl) rfl rfl (by simp) rfl rfl trivial (by simp), ?_⟩
  simp (config := { maxSteps := 2000000, maxDischargeDepth := 8 }) only [bitvec_to_nat, reduceIte, Nat.reduceEqDiff, Nat.reduceAdd, Nat.reduceLeDiff, reduceCtorEq, Nat.reduceBEq, Nat.reduceLT, Nat.reduceMod, List.forall_mem_cons, K6, Kw, Qk, Qm, Qa, Q3, Qh, List.take_length, List.length_cons, List.length_nil, Nat.zero_add, QH, QX, Q4, Q6, Zone.row, Qf, Qs, Pt.row, Ql, QA, Aw.row, Qo, QB, Blk.row, Qb, Qj, Sec.row, Qc, Qn, Rw.row, Qp, QD, Qd, Sky.row, QL, QW, Run.row, QJ, Q5, Hop.row, QM, Q7, V3, List.length_map, Int.toNat_natCast, Nat.sub_zero, and_self, eq_self, not_true_eq_false, ne_eq, bne_self_eq_false, hn1, hR, hH, List.nil_append, Kf, Kr, Kg, KS, K3, YA, KT, YB, KU, Y8, KV, Zj, Y9, Yt, Yu, Yv, Yw, Yx, Yy, Jk, Jv, Qkg, QaZ, Qkh, Qa1, Qa0, ZH, XX, Gf, Gm, V4, Gn, V5, RAB, RBA, Ku, KQ, QK, Kv, KR, Ju, Qkf, QaX, QaY, ZG, List.cons_append, List.nil_append, List.append_assoc]
  refine ⟨_, _, .inr (.inl ⟨rfl, _, rfl, hT, rfl, n9T⟩), ?_⟩
  simp (config := { maxSteps := 2000000, maxDischargeDepth := 8 }) only [bitvec_to_nat, reduceIte, Nat.reduceEqDiff, Nat.reduceAdd, Nat.reduceLeDiff, reduceCtorEq, Nat.reduceBEq, Nat.reduceLT, Nat.reduceMod, List.forall_mem_cons, K6, Kw, Qk, Qm, Qa, Q3, Qh, List.take_length, List.length_cons, List.length_nil, Nat.zero_add, QH, QX, Q4, Q6, Zone.row, Qf, Qs, Pt.row, Ql, QA, Aw.row, Qo, QB, Blk.row, Qb, Qj, Sec.row, Qc, Qn, Rw.row, Qp, QD, Qd, Sky.row, QL, QW, Run.row, QJ, Q5, Hop.row, QM, Q7, V3, List.length_map, Int.toNat_natCast, Nat.sub_zero, and_self, eq_self, not_true_eq_false, ne_eq, bne_self_eq_false, hn1, hR, hH, List.nil_append, Kf, Kr, Kg, KS, K3, YA, KT, YB, KU, Y8, KV, Zj, Y9, Yt, Yu, Yv, Yw, Yx, Yy, Jk, Jv, Qkg, QaZ, Qkh, Qa1, Qa0, ZH, XX, Gf, Gm, V4, Gn, V5, RAB, RBA, Ku, KQ, QK, Kv, KR, Ju, Qkf, QaX, QaY, ZG, List.cons_append, List.nil_append, List.append_assoc]
  refine ⟨_, _, GV (r := .bool true) (news := []) (keep := K0 s) (args' := [.agg (s.row 99), .agg (s.row 0)]) (by simp only [Y7, QoY]; exact hEq) (by repeat' (first | exact QU (Ju _) | exact QN (Ju _) | exact QN Jk | exact QN Jv | exact QU Jk | exact QU Jv | refine KH (by first | exact Gm | exact V4 | exact QK Gm | exact Gn | exact V5 | exact QK Gn | exact RAB | exact RBA) ?_ | refine Kk (by first | exact Yt (by omega) | exact Yu (by omega) (by omega) | exact Yv (by omega) | exact Yw (by omega) (by omega) | exact Yx (by omega) | exact Yy (by omega) (by omega)) ?_)) (GU (QlT (by repeat' (first | exact QU (Ju _) | exact QN (Ju _) | exact QN Jk | exact QN Jv | exact QU Jk | exact QU Jv | refine KH (by first | exact Gm | exact V4 | exact QK Gm | exact Gn | exact V5 | exact QK Gn | exact RAB | exact RBA) ?_ | refine Kk (by first | exact Yt (by omega) | exact Yu (by omega) (by omega) | exact Yv (by omega) | exact Yw (by omega) (by omega) | exact Yx (by omega) | exact Yy (by omega) (by omega)) ?_)) (QN (Ju s))) rfl) (by simp only [Zi, QhL 99 (by omega), QhL 0 (by omega), Bool.and_self]) rfl rfl (by simp) rfl rfl trivial (by simp), ?_⟩
  simp (config := { maxSteps := 2000000, maxDischargeDepth := 8 }) only [bitvec_to_nat, reduceIte, Nat.reduceEqDiff, Nat.reduceAdd, Nat.reduceLeDiff, reduceCtorEq, Nat.reduceBEq, Nat.reduceLT, Nat.reduceMod, List.forall_mem_cons, K6, Kw, Qk, Qm, Qa, Q3, Qh, List.take_length, List.length_cons, List.length_nil, Nat.zero_add, QH, QX, Q4, Q6, Zone.row, Qf, Qs, Pt.row, Ql, QA, Aw.row, Qo, QB, Blk.row, Qb, Qj, Sec.row, Qc, Qn, Rw.row, Qp, QD, Qd, Sky.row, QL, QW, Run.row, QJ, Q5, Hop.row, QM, Q7, V3, List.length_map, Int.toNat_natCast, Nat.sub_zero, and_self, eq_self, not_true_eq_false, ne_eq, bne_self_eq_false, hn1, hR, hH, List.nil_append, Kf, Kr, Kg, KS, K3, YA, KT, YB, KU, Y8, KV, Zj, Y9, Yt, Yu, Yv, Yw, Yx, Yy, Jk, Jv, Qkg, QaZ, Qkh, Qa1, Qa0, ZH, XX, Gf, Gm, V4, Gn, V5, RAB, RBA, Ku, KQ, QK, Kv, KR, Ju, Qkf, QaX, QaY, ZG, List.cons_append, List.nil_append, List.append_assoc]
  refine ⟨_, _, UQ hMk (by repeat' (first | exact QU (Ju _) | exact QN (Ju _) | exact QN Jk | exact QN Jv | exact QU Jk | exact QU Jv | refine KH (by first | exact Gm | exact V4 | exact QK Gm | exact Gn | exact V5 | exact QK Gn | exact RAB | exact RBA) ?_ | refine Kk (by first | exact Yt (by omega) | exact Yu (by omega) (by omega) | exact Yv (by omega) | exact Yw (by omega) (by omega) | exact Yx (by omega) | exact Yy (by omega) (by omega)) ?_)) Qt0 QlQ rfl, ?_⟩
  simp (config := { maxSteps := 2000000, maxDischargeDepth := 8 }) only [bitvec_to_nat, reduceIte, Nat.reduceEqDiff, Nat.reduceAdd, Nat.reduceLeDiff, reduceCtorEq, Nat.reduceBEq, Nat.reduceLT, Nat.reduceMod, List.forall_mem_cons, K6, Kw, Qk, Qm, Qa, Q3, Qh, List.take_length, List.length_cons, List.length_nil, Nat.zero_add, QH, QX, Q4, Q6, Zone.row, Qf, Qs, Pt.row, Ql, QA, Aw.row, Qo, QB, Blk.row, Qb, Qj, Sec.row, Qc, Qn, Rw.row, Qp, QD, Qd, Sky.row, QL, QW, Run.row, QJ, Q5, Hop.row, QM, Q7, V3, List.length_map, Int.toNat_natCast, Nat.sub_zero, and_self, eq_self, not_true_eq_false, ne_eq, bne_self_eq_false, hn1, hR, hH, List.nil_append, Kf, Kr, Kg, KS, K3, YA, KT, YB, KU, Y8, KV, Zj, Y9, Yt, Yu, Yv, Yw, Yx, Yy, Jk, Jv, Qkg, QaZ, Qkh, Qa1, Qa0, ZH, XX, Gf, Gm, V4, Gn, V5, RAB, RBA, Ku, KQ, QK, Kv, KR, Ju, Qkf, QaX, QaY, ZG, List.cons_append, List.nil_append, List.append_assoc]
  refine ⟨fun h => by omega, fun _ => ⟨_, _, GV (r := .bool true) (news := []) (keep := RA R.length H.length R H) (args' := [.agg [.sl 99 3 (R.map (SRow.row 99)), .sl 99 4 (H.map Hop.row)], .agg [.sl 0 3 (R.map (SRow.row 0)), .sl 0 4 (H.map Hop.row)]]) (by simp only [Y7, Qfn, Qjk, Qfm, Qcl, Qcm]; exact eqX) (by repeat' (first | exact QU (Ju _) | exact QN (Ju _) | exact QN Jk | exact QN Jv | exact QU Jk | exact QU Jv | refine KH (by first | exact Gm | exact V4 | exact QK Gm | exact Gn | exact V5 | exact QK Gn | exact RAB | exact RBA) ?_ | refine Kk (by first | exact Yt (by omega) | exact Yu (by omega) (by omega) | exact Yv (by omega) | exact Yw (by omega) (by omega) | exact Yx (by omega) | exact Yy (by omega) (by omega)) ?_)) (GU (Qfl rfl rfl (by repeat' (first | exact QU (Ju _) | exact QN (Ju _) | exact QN Jk | exact QN Jv | exact QU Jk | exact QU Jv | refine KH (by first | exact Gm | exact V4 | exact QK Gm | exact Gn | exact V5 | exact QK Gn | exact RAB | exact RBA) ?_ | refine Kk (by first | exact Yt (by omega) | exact Yu (by omega) (by omega) | exact Yv (by omega) | exact Yw (by omega) (by omega) | exact Yx (by omega) | exact Yy (by omega) (by omega)) ?_)) (QN Jk)) rfl) (by simp only [Zi, QiB, Y2 (show (99 : Nat) ≠ 98 by omega), Y2 (show (0 : Nat) ≠ 98 by omega), WU]; rfl) rfl rfl (by simp) rfl rfl trivial (by simp), ?_⟩⟩
  simp (config := { maxSteps := 2000000, maxDischargeDepth := 8 }) only [bitvec_to_nat, reduceIte, Nat.reduceEqDiff, Nat.reduceAdd, Nat.reduceLeDiff, reduceCtorEq, Nat.reduceBEq, Nat.reduceLT, Nat.reduceMod, List.forall_mem_cons, K6, Kw, Qk, Qm, Qa, Q3, Qh, List.take_length, List.length_cons, List.length_nil, Nat.zero_add, QH, QX, Q4, Q6, Zone.row, Qf, Qs, Pt.row, Ql, QA, Aw.row, Qo, QB, Blk.row, Qb, Qj, Sec.row, Qc, Qn, Rw.row, Qp, QD, Qd, Sky.row, QL, QW, Run.row, QJ, Q5, Hop.row, QM, Q7, V3, List.length_map, Int.toNat_natCast, Nat.sub_zero, and_self, eq_self, not_true_eq_false, ne_eq, bne_self_eq_false, hn1, hR, hH, List.nil_append, Kf, Kr, Kg, KS, K3, YA, KT, YB, KU, Y8, KV, Zj, Y9, Yt, Yu, Yv, Yw, Yx, Yy, Jk, Jv, Qkg, QaZ, Qkh, Qa1, Qa0, ZH, XX, Gf, Gm, V4, Gn, V5, RAB, RBA, Ku, KQ, QK, Kv, KR, Ju, Qkf, QaX, QaY, ZG, List.cons_append, List.nil_append, List.append_assoc]
  refine ⟨_, _, QfR hZ (Qpa Ge) (by repeat' (first | exact QU (Ju _) | exact QN (Ju _) | exact QN Jk | exact QN Jv | exact QU Jk | exact QU Jv | refine KH (by first | exact Gm | exact V4 | exact QK Gm | exact Gn | exact V5 | exact QK Gn | exact RAB | exact RBA) ?_ | refine Kk (by first | exact Yt (by omega) | exact Yu (by omega) (by omega) | exact Yv (by omega) | exact Yw (by omega) (by omega) | exact Yx (by omega) | exact Yy (by omega) (by omega)) ?_)) (by simp [Qg, Qr, IX, RO, dom]) Qke rfl Qke, ?_⟩
  simp (config := { maxSteps := 2000000, maxDischargeDepth := 8 }) only [bitvec_to_nat, reduceIte, Nat.reduceEqDiff, Nat.reduceAdd, Nat.reduceLeDiff, reduceCtorEq, Nat.reduceBEq, Nat.reduceLT, Nat.reduceMod, List.forall_mem_cons, K6, Kw, Qk, Qm, Qa, Q3, Qh, List.take_length, List.length_cons, List.length_nil, Nat.zero_add, QH, QX, Q4, Q6, Zone.row, Qf, Qs, Pt.row, Ql, QA, Aw.row, Qo, QB, Blk.row, Qb, Qj, Sec.row, Qc, Qn, Rw.row, Qp, QD, Qd, Sky.row, QL, QW, Run.row, QJ, Q5, Hop.row, QM, Q7, V3, List.length_map, Int.toNat_natCast, Nat.sub_zero, and_self, eq_self, not_true_eq_false, ne_eq, bne_self_eq_false, hn1, hR, hH, List.nil_append, Kf, Kr, Kg, KS, K3, YA, KT, YB, KU, Y8, KV, Zj, Y9, Yt, Yu, Yv, Yw, Yx, Yy, Jk, Jv, Qkg, QaZ, Qkh, Qa1, Qa0, ZH, XX, Gf, Gm, V4, Gn, V5, RAB, RBA, Ku, KQ, QK, Kv, KR, Ju, Qkf, QaX, QaY, ZG, List.cons_append, List.nil_append, List.append_assoc]
  refine ⟨_, _, GV (r := .int .i64 (1 + (cr R R.length : Nat) + 4 * (H.length : Nat))) (news := []) (keep := RA R.length H.length (mrL 1 R) (Gk (1 + (cr R R.length : Nat)) H.length)) (args' := [.agg [.sl 99 3 ((mrL 1 R).map (SRow.row 99)), .sl 99 4 ((Gk (1 + (cr R R.length : Nat)) H.length).map Hop.row)], .int .i64 1]) (by simp only [Y7, Qfn, Qjk, Qfm, Qcl, Qcm]; exact hHd) (by repeat' (first | exact QU (Ju _) | exact QN (Ju _) | exact QN Jk | exact QN Jv | exact QU Jk | exact QU Jv | refine KH (by first | exact Gm | exact V4 | exact QK Gm | exact Gn | exact V5 | exact QK Gn | exact RAB | exact RBA) ?_ | refine Kk (by first | exact Yt (by omega) | exact Yu (by omega) (by omega) | exact Yv (by omega) | exact Yw (by omega) (by omega) | exact Yx (by omega) | exact Yy (by omega) (by omega)) ?_)) (GU (Qfl Ge.symm Kc.symm (by repeat' (first | exact QU (Ju _) | exact QN (Ju _) | exact QN Jk | exact QN Jv | exact QU Jk | exact QU Jv | refine KH (by first | exact Gm | exact V4 | exact QK Gm | exact Gn | exact V5 | exact QK Gn | exact RAB | exact RBA) ?_ | refine Kk (by first | exact Yt (by omega) | exact Yu (by omega) (by omega) | exact Yv (by omega) | exact Yw (by omega) (by omega) | exact Yx (by omega) | exact Yy (by omega) (by omega)) ?_)) (QN Jk)) rfl) (by simp only [Zi, QiB, Y2 (show (99 : Nat) ≠ 98 by omega), Y2 (show (0 : Nat) ≠ 98 by omega), WU]; rfl) rfl rfl (by simp) rfl rfl trivial (by simp), ?_⟩
  simp (config := { maxSteps := 2000000, maxDischargeDepth := 8 }) only [bitvec_to_nat, reduceIte, Nat.reduceEqDiff, Nat.reduceAdd, Nat.reduceLeDiff, reduceCtorEq, Nat.reduceBEq, Nat.reduceLT, Nat.reduceMod, List.forall_mem_cons, K6, Kw, Qk, Qm, Qa, Q3, Qh, List.take_length, List.length_cons, List.length_nil, Nat.zero_add, QH, QX, Q4, Q6, Zone.row, Qf, Qs, Pt.row, Ql, QA, Aw.row, Qo, QB, Blk.row, Qb, Qj, Sec.row, Qc, Qn, Rw.row, Qp, QD, Qd, Sky.row, QL, QW, Run.row, QJ, Q5, Hop.row, QM, Q7, V3, List.length_map, Int.toNat_natCast, Nat.sub_zero, and_self, eq_self, not_true_eq_false, ne_eq, bne_self_eq_false, hn1, hR, hH, List.nil_append, Kf, Kr, Kg, KS, K3, YA, KT, YB, KU, Y8, KV, Zj, Y9, Yt, Yu, Yv, Yw, Yx, Yy, Jk, Jv, Qkg, QaZ, Qkh, Qa1, Qa0, ZH, XX, Gf, Gm, V4, Gn, V5, RAB, RBA, Ku, KQ, QK, Kv, KR, Ju, Qkf, QaX, QaY, ZG, List.cons_append, List.nil_append, List.append_assoc]
  refine ⟨fun h => by omega, fun _ => ⟨_, _, .inr (.inl ⟨rfl, _, rfl, hT, rfl, n9T⟩), ?_⟩⟩
  simp (config := { maxSteps := 2000000, maxDischargeDepth := 8 }) only [bitvec_to_nat, reduceIte, Nat.reduceEqDiff, Nat.reduceAdd, Nat.reduceLeDiff, reduceCtorEq, Nat.reduceBEq, Nat.reduceLT, Nat.reduceMod, List.forall_mem_cons, K6, Kw, Qk, Qm, Qa, Q3, Qh, List.take_length, List.length_cons, List.length_nil, Nat.zero_add, QH, QX, Q4, Q6, Zone.row, Qf, Qs, Pt.row, Ql, QA, Aw.row, Qo, QB, Blk.row, Qb, Qj, Sec.row, Qc, Qn, Rw.row, Qp, QD, Qd, Sky.row, QL, QW, Run.row, QJ, Q5, Hop.row, QM, Q7, V3, List.length_map, Int.toNat_natCast, Nat.sub_zero, and_self, eq_self, not_true_eq_false, ne_eq, bne_self_eq_false, hn1, hR, hH, List.nil_append, Kf, Kr, Kg, KS, K3, YA, KT, YB, KU, Y8, KV, Zj, Y9, Yt, Yu, Yv, Yw, Yx, Yy, Jk, Jv, Qkg, QaZ, Qkh, Qa1, Qa0, ZH, XX, Gf, Gm, V4, Gn, V5, RAB, RBA, Ku, KQ, QK, Kv, KR, Ju, Qkf, QaX, QaY, ZG, List.cons_append, List.nil_append, List.append_assoc]
  refine ⟨_, _, .inr (.inr (.inl ⟨_, rfl, hI2, (QgY (by repeat' (first | exact QgX | exact Qew (by first | exact Gm | exact V4 | exact QK Gm | exact Gn | exact V5 | exact QK Gn | exact RAB | exact RBA) | refine QgW (by first | exact Gm | exact V4 | exact QK Gm | exact Gn | exact V5 | exact QK Gn | exact RAB | exact RBA) ?_ | refine Qev (by first | exact Yt (by omega) | exact Yu (by omega) (by omega) | exact Yv (by omega) | exact Yw (by omega) (by omega) | exact Yx (by omega) | exact Yy (by omega) (by omega)) ?_))), Qpf, Qpg, (by simp [No99, Ko]), Qvn⟩)), ?_⟩
  simp (config := { maxSteps := 2000000, maxDischargeDepth := 8 }) only [bitvec_to_nat, reduceIte, Nat.reduceEqDiff, Nat.reduceAdd, Nat.reduceLeDiff, reduceCtorEq, Nat.reduceBEq, Nat.reduceLT, Nat.reduceMod, List.forall_mem_cons, K6, Kw, Qk, Qm, Qa, Q3, Qh, List.take_length, List.length_cons, List.length_nil, Nat.zero_add, QH, QX, Q4, Q6, Zone.row, Qf, Qs, Pt.row, Ql, QA, Aw.row, Qo, QB, Blk.row, Qb, Qj, Sec.row, Qc, Qn, Rw.row, Qp, QD, Qd, Sky.row, QL, QW, Run.row, QJ, Q5, Hop.row, QM, Q7, V3, List.length_map, Int.toNat_natCast, Nat.sub_zero, and_self, eq_self, not_true_eq_false, ne_eq, bne_self_eq_false, hn1, hR, hH, List.nil_append, Kf, Kr, Kg, KS, K3, YA, KT, YB, KU, Y8, KV, Zj, Y9, Yt, Yu, Yv, Yw, Yx, Yy, Jk, Jv, Qkg, QaZ, Qkh, Qa1, Qa0, ZH, XX, Gf, Gm, V4, Gn, V5, RAB, RBA, Ku, KQ, QK, Kv, KR, Ju, Qkf, QaX, QaY, ZG, List.cons_append, List.nil_append, List.append_assoc]
  refine ⟨_, _, GV (r := .bool true) (news := []) (keep := RB R.length H.length R H) (args' := [.agg [.sl 99 3 (R.map (SRow.row 99)), .sl 99 4 (H.map Hop.row)], .agg [.sl 0 3 (R.map (SRow.row 0)), .sl 0 4 (H.map Hop.row)]]) (by simp only [Y7, Qfn, Qjk, Qfm, Qcl, Qcm]; exact eqX) (by repeat' (first | exact QU (Ju _) | exact QN (Ju _) | exact QN Jk | exact QN Jv | exact QU Jk | exact QU Jv | refine KH (by first | exact Gm | exact V4 | exact QK Gm | exact Gn | exact V5 | exact QK Gn | exact RAB | exact RBA) ?_ | refine Kk (by first | exact Yt (by omega) | exact Yu (by omega) (by omega) | exact Yv (by omega) | exact Yw (by omega) (by omega) | exact Yx (by omega) | exact Yy (by omega) (by omega)) ?_)) (GU (Qfl rfl rfl (by repeat' (first | exact QU (Ju _) | exact QN (Ju _) | exact QN Jk | exact QN Jv | exact QU Jk | exact QU Jv | refine KH (by first | exact Gm | exact V4 | exact QK Gm | exact Gn | exact V5 | exact QK Gn | exact RAB | exact RBA) ?_ | refine Kk (by first | exact Yt (by omega) | exact Yu (by omega) (by omega) | exact Yv (by omega) | exact Yw (by omega) (by omega) | exact Yx (by omega) | exact Yy (by omega) (by omega)) ?_)) (QN Jv)) rfl) (by simp only [Zi, QiB, Y2 (show (99 : Nat) ≠ 98 by omega), Y2 (show (0 : Nat) ≠ 98 by omega), WU]; rfl) rfl rfl (by simp) rfl rfl trivial (by simp), ?_⟩
  simp (config := { maxSteps := 2000000, maxDischargeDepth := 8 }) only [bitvec_to_nat, reduceIte, Nat.reduceEqDiff, Nat.reduceAdd, Nat.reduceLeDiff, reduceCtorEq, Nat.reduceBEq, Nat.reduceLT, Nat.reduceMod, List.forall_mem_cons, K6, Kw, Qk, Qm, Qa, Q3, Qh, List.take_length, List.length_cons, List.length_nil, Nat.zero_add, QH, QX, Q4, Q6, Zone.row, Qf, Qs, Pt.row, Ql, QA, Aw.row, Qo, QB, Blk.row, Qb, Qj, Sec.row, Qc, Qn, Rw.row, Qp, QD, Qd, Sky.row, QL, QW, Run.row, QJ, Q5, Hop.row, QM, Q7, V3, List.length_map, Int.toNat_natCast, Nat.sub_zero, and_self, eq_self, not_true_eq_false, ne_eq, bne_self_eq_false, hn1, hR, hH, List.nil_append, Kf, Kr, Kg, KS, K3, YA, KT, YB, KU, Y8, KV, Zj, Y9, Yt, Yu, Yv, Yw, Yx, Yy, Jk, Jv, Qkg, QaZ, Qkh, Qa1, Qa0, ZH, XX, Gf, Gm, V4, Gn, V5, RAB, RBA, Ku, KQ, QK, Kv, KR, Ju, Qkf, QaX, QaY, ZG, List.cons_append, List.nil_append, List.append_assoc]
  refine ⟨_, _, GV (r := .int .i64 (1 + (cr R R.length : Nat) + 4 * (H.length : Nat))) (news := []) (keep := RA R.length H.length (mrL 1 R) (Gk (1 + (cr R R.length : Nat)) H.length)) (args' := [.agg [.sl 99 3 ((mrL 1 R).map (SRow.row 99)), .sl 99 4 ((Gk (1 + (cr R R.length : Nat)) H.length).map Hop.row)], .int .i64 1]) (by simp only [Y7, Qfn, Qjk, Qfm, Qcl, Qcm]; exact hHd) (by repeat' (first | exact QU (Ju _) | exact QN (Ju _) | exact QN Jk | exact QN Jv | exact QU Jk | exact QU Jv | refine KH (by first | exact Gm | exact V4 | exact QK Gm | exact Gn | exact V5 | exact QK Gn | exact RAB | exact RBA) ?_ | refine Kk (by first | exact Yt (by omega) | exact Yu (by omega) (by omega) | exact Yv (by omega) | exact Yw (by omega) (by omega) | exact Yx (by omega) | exact Yy (by omega) (by omega)) ?_)) (GU (Qfl Ge.symm Kc.symm (by repeat' (first | exact QU (Ju _) | exact QN (Ju _) | exact QN Jk | exact QN Jv | exact QU Jk | exact QU Jv | refine KH (by first | exact Gm | exact V4 | exact QK Gm | exact Gn | exact V5 | exact QK Gn | exact RAB | exact RBA) ?_ | refine Kk (by first | exact Yt (by omega) | exact Yu (by omega) (by omega) | exact Yv (by omega) | exact Yw (by omega) (by omega) | exact Yx (by omega) | exact Yy (by omega) (by omega)) ?_)) (QN Jk)) rfl) (by simp only [Zi, QiB, Y2 (show (99 : Nat) ≠ 98 by omega), Y2 (show (0 : Nat) ≠ 98 by omega), WU]; rfl) rfl rfl (by simp) rfl rfl trivial (by simp), ?_⟩
  simp (config := { maxSteps := 2000000, maxDischargeDepth := 8 }) only [bitvec_to_nat, reduceIte, Nat.reduceEqDiff, Nat.reduceAdd, Nat.reduceLeDiff, reduceCtorEq, Nat.reduceBEq, Nat.reduceLT, Nat.reduceMod, List.forall_mem_cons, K6, Kw, Qk, Qm, Qa, Q3, Qh, List.take_length, List.length_cons, List.length_nil, Nat.zero_add, QH, QX, Q4, Q6, Zone.row, Qf, Qs, Pt.row, Ql, QA, Aw.row, Qo, QB, Blk.row, Qb, Qj, Sec.row, Qc, Qn, Rw.row, Qp, QD, Qd, Sky.row, QL, QW, Run.row, QJ, Q5, Hop.row, QM, Q7, V3, List.length_map, Int.toNat_natCast, Nat.sub_zero, and_self, eq_self, not_true_eq_false, ne_eq, bne_self_eq_false, hn1, hR, hH, List.nil_append, Kf, Kr, Kg, KS, K3, YA, KT, YB, KU, Y8, KV, Zj, Y9, Yt, Yu, Yv, Yw, Yx, Yy, Jk, Jv, Qkg, QaZ, Qkh, Qa1, Qa0, ZH, XX, Gf, Gm, V4, Gn, V5, RAB, RBA, Ku, KQ, QK, Kv, KR, Ju, Qkf, QaX, QaY, ZG, List.cons_append, List.nil_append, List.append_assoc]
  trace_state
  exact fun h => by omega

end
end Go.Ve

