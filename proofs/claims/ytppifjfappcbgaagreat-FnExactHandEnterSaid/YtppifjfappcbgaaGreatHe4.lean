/- Part 4 of the proof: laws and contracts of functions, each proved; they are joined in the last part. No conditions beyond those that the theorems state. -/
import Derived.Test.YtppifjfappcbgaaGreatProg
import Derived.Test.YtppifjfappcbgaaGreatHe3
set_option linter.all false
namespace Go.Ve
noncomputable section
open Go.Proofs
set_option maxRecDepth 100000
def Box6.near (a b : Box6) : Prop := a.ok ∧ b.ok ∧ (a.i ≤ b.o ∧ b.i ≤ a.o) ∧ (a.l ≤ b.h ∧ b.l ≤ a.h) ∧ (-1 ≤ a.x - b.x ∧ a.x - b.x ≤ 1) ∧ (-1 ≤ a.y - b.y ∧ a.y - b.y ≤ 1)
instance (a b : Box6) : Decidable (a.near b) := Classical.propDecidable _
def QcM (a b : List Box6) : Prop := ∃ i, i < a.length ∧ ∃ k, k < b.length ∧ (a.getD i default).near (b.getD k default)
instance (a b : List Box6) : Decidable (QcM a b) := Classical.propDecidable _
theorem QmT (x y l h i o x' y' l' h' i' o' : Int) (hp : True) : Contract P 136 [.agg [.int .i64 x, .int .i64 y, .int .i64 l, .int .i64 h, .int .i64 i, .int .i64 o], .agg [.int .i64 x', .int .i64 y', .int .i64 l', .int .i64 h', .int .i64 i', .int .i64 o']] [] (.bool (decide (Box6.near ⟨x, y, l, h, i, o⟩ ⟨x', y', l', h', i', o'⟩))) [] := by
  refine Qg (((Env.nil P).add 80 Q2 YW).add 99 Ka Qeu) hm Qgu (nlb rfl) rfl ?_; unfold Qaz; simp (maxSteps := 2000000) only [bitvec_to_nat, reduceIte, Nat.reduceEqDiff, Nat.reduceAdd, Nat.reduceLeDiff, reduceCtorEq, Nat.reduceBEq, Nat.reduceLT, Nat.reduceMod, fmc, Q2, Ka, int_toBitVec_meta]
  simp only [Box6.near, Box6.ok]
  repeat' (first | with_reducible apply And.intro | with_reducible intro _)
  all_goals first | omega | grind
def Zh : List AV → Option (Prop × AV)
  | [.agg [.int .i64 p_x, .int .i64 p_y, .int .i64 p_l, .int .i64 p_h, .int .i64 p_i, .int .i64 p_o], .agg [.int .i64 q_x, .int .i64 q_y, .int .i64 q_l, .int .i64 q_h, .int .i64 q_i, .int .i64 q_o]] => some ((True) ∧ (True), .bool (decide ((Box6.mk p_x p_y p_l p_h p_i p_o).near (Box6.mk q_x q_y q_l q_h q_i q_o))))
  | _ => none
theorem QmU : ∀ args p v, Zh args = some (p, v) → p → Contract P 136 args [] v [] ∧ noref v = true ∧ No99 v := by
  intro args p v h1 h2
  unfold Zh at h1
  split at h1
  · rename_i p_x p_y p_l p_h p_i p_o q_x q_y q_l q_h q_i q_o
    cases h1
    obtain ⟨_, HP⟩ := h2
    have := QmT p_x p_y p_l p_h p_i p_o q_x q_y q_l q_h q_i q_o HP
    exact ⟨by simpa only [Box6.row, Box6.row] using this, rfl, trivial⟩
  · cases h1
theorem Qse (t t' : Nat) (a b : List Box6) (ha : a.length ≤ 4611686018427387904) (hb : b.length ≤ 4611686018427387904) : Contract P 109 [.sl t 6 (a.map Box6.row), .sl t' 6 (b.map Box6.row)] [] (.bool (decide (QcM a b))) [] := by
  refine Qg ((Env.nil P).add 136 Zh QmU) hm Qgp (nlb rfl) rfl ?_; unfold Qat; simp (maxSteps := 2000000) only [bitvec_to_nat, reduceIte, Nat.reduceEqDiff, Nat.reduceAdd, Nat.reduceLeDiff, reduceCtorEq, Nat.reduceBEq, Nat.reduceLT, Nat.reduceMod, fmc, Zh, int_toBitVec_meta]
  refine QE (fun i : Nat => [(5, .int .i64 i)]) (fun _ => []) (fun i => i ≤ a.length ∧ ∀ j, j < i → ¬ ∃ k, k < b.length ∧ (a.getD j default).near (b.getD k default)) (fun i => a.length - i) (0) (by simp only [Jr, Js, Jt, Ju, Qj, Qk, Ql, Qm, reduceIte, Nat.reduceEqDiff]; exact ⟨by repeat' (first | exact trivial | refine ⟨.inr rfl, ?_⟩), by repeat' (first | exact trivial | refine ⟨rfl, ?_⟩), by first | rfl | simp [closedB, Qd, Qb, Qc, dom, Qa, *], by first | rfl | simp [keepB, dom]⟩) ?_ ?_
  · exact ⟨Nat.zero_le _, by intro j hj; omega⟩
  intro i hi NX hN
  unfold V5; simp (maxSteps := 2000000) only [bitvec_to_nat, reduceIte, Nat.reduceEqDiff, Nat.reduceAdd, Nat.reduceLeDiff, reduceCtorEq, Nat.reduceBEq, Nat.reduceLT, Nat.reduceMod, fmc, Zh, int_toBitVec_meta]
  
  repeat' (first | with_reducible apply And.intro | with_reducible intro _)
  all_goals first
    | omega
    | (refine QE (fun k : Nat => [(6, .int .i64 k)]) (fun _ => []) (fun k => k ≤ b.length ∧ ∀ j, j < k → ¬ (a.getD i default).near (b.getD j default)) (fun k => b.length - k) (0) (by simp only [Jr, Js, Jt, Ju, Qj, Qk, Ql, Qm, reduceIte, Nat.reduceEqDiff]; exact ⟨by repeat' (first | exact trivial | refine ⟨.inr rfl, ?_⟩), by repeat' (first | exact trivial | refine ⟨rfl, ?_⟩), by first | rfl | simp [closedB, Qd, Qb, Qc, dom, Qa, *], by first | rfl | simp [keepB, dom]⟩) ?_ ?_
       · exact ⟨Nat.zero_le _, by intro j hj; omega⟩
       intro k hk NX2 hN2
       unfold V4; simp (maxSteps := 2000000) only [bitvec_to_nat, reduceIte, Nat.reduceEqDiff, Nat.reduceAdd, Nat.reduceLeDiff, reduceCtorEq, Nat.reduceBEq, Nat.reduceLT, Nat.reduceMod, fmc, Zh, int_toBitVec_meta]
       repeat' (first | with_reducible apply And.intro | with_reducible intro _)
       all_goals first
         | omega
         | (refine hN2 (k + 1) _ (by simp only [Jr, Js, Jt, Ju, Qj, Qk, Ql, Qm, reduceIte, Nat.reduceEqDiff]; exact ⟨by repeat' (first | exact trivial | refine ⟨.inr rfl, ?_⟩), by repeat' (first | exact trivial | refine ⟨rfl, ?_⟩), by first | rfl | simp [closedB, Qd, Qb, Qc, dom, Qa, *], by first | rfl | simp [keepB, dom]⟩) ?_ ?_
            · exact ⟨by omega, Q5 hk.2 (by assumption)⟩
            · omega)
         | (refine hN (i + 1) _ (by simp only [Jr, Js, Jt, Ju, Qj, Qk, Ql, Qm, reduceIte, Nat.reduceEqDiff]; exact ⟨by repeat' (first | exact trivial | refine ⟨.inr rfl, ?_⟩), by repeat' (first | exact trivial | refine ⟨rfl, ?_⟩), by first | rfl | simp [closedB, Qd, Qb, Qc, dom, Qa, *], by first | rfl | simp [keepB, dom]⟩) ?_ ?_
            · refine ⟨by omega, Q5 hi.2 ?_⟩
              rintro ⟨k', h1, h2⟩
              exact hk.2 k' (by omega) h2
            · omega)
         | (exact ⟨i, by omega, k, by omega, by assumption⟩))
    | (rintro ⟨j, h1, h2⟩
       exact hi.2 j (by omega) h2)
set_option maxHeartbeats 1000000 in
theorem Qte (t t' : Nat) (a b : List Box6) (ha : a.length ≤ 4611686018427387904) (hb : b.length ≤ 4611686018427387904) : Contract P 130 [.sl t 6 (a.map Box6.row), .sl t' 6 (b.map Box6.row)] [] (.bool (decide (QcM a b))) [] := by
  refine Qg (((Env.nil P).add 121 KO Qgw).add 138 QhR Qs6) hm Qgt (nlb rfl) rfl ?_; unfold Qay; simp (maxSteps := 2000000) only [bitvec_to_nat, reduceIte, Nat.reduceEqDiff, Nat.reduceAdd, Nat.reduceLeDiff, reduceCtorEq, Nat.reduceBEq, Nat.reduceLT, Nat.reduceMod, fmc, KO, QhR, int_toBitVec_meta]
  refine QE (fun i : Nat => [(11, .int .i64 i)]) (fun _ => []) (fun i => i ≤ a.length ∧ ∀ j, j < i → ¬ ∃ k, k < b.length ∧ (a.getD j default).near (b.getD k default)) (fun i => a.length - i) (0) (by simp only [Jr, Js, Jt, Ju, Qj, Qk, Ql, Qm, reduceIte, Nat.reduceEqDiff]; exact ⟨by repeat' (first | exact trivial | refine ⟨.inr rfl, ?_⟩), by repeat' (first | exact trivial | refine ⟨rfl, ?_⟩), by first | rfl | simp [closedB, Qd, Qb, Qc, dom, Qa, *], by first | rfl | simp [keepB, dom]⟩) ?_ ?_
  · exact ⟨Nat.zero_le _, by intro j hj; omega⟩
  intro i hi NX hN
  unfold V9; simp (maxSteps := 2000000) only [bitvec_to_nat, reduceIte, Nat.reduceEqDiff, Nat.reduceAdd, Nat.reduceLeDiff, reduceCtorEq, Nat.reduceBEq, Nat.reduceLT, Nat.reduceMod, fmc, KO, QhR, int_toBitVec_meta]
  
  repeat' (first | with_reducible apply And.intro | with_reducible intro _)
  all_goals first
    | omega
    | (have hx : (a.getD i default).ok := by assumption
       refine QE (fun k : Nat => [(20, .int .i64 k)]) (fun _ => []) (fun k => k ≤ b.length ∧ ∀ j, j < k → ¬ (a.getD i default).near (b.getD j default)) (fun k => b.length - k) (0) (by simp only [Jr, Js, Jt, Ju, Qj, Qk, Ql, Qm, reduceIte, Nat.reduceEqDiff]; exact ⟨by repeat' (first | exact trivial | refine ⟨.inr rfl, ?_⟩), by repeat' (first | exact trivial | refine ⟨rfl, ?_⟩), by first | rfl | simp [closedB, Qd, Qb, Qc, dom, Qa, *], by first | rfl | simp [keepB, dom]⟩) ?_ ?_
       · exact ⟨Nat.zero_le _, by intro j hj; omega⟩
       intro k hk NX2 hN2
       unfold V8; simp (maxSteps := 2000000) only [bitvec_to_nat, reduceIte, Nat.reduceEqDiff, Nat.reduceAdd, Nat.reduceLeDiff, reduceCtorEq, Nat.reduceBEq, Nat.reduceLT, Nat.reduceMod, fmc, KO, QhR, int_toBitVec_meta]
       repeat' (first | with_reducible apply And.intro | with_reducible intro _)
       all_goals first
         | omega
         | (have hy : (b.getD k default).ok := by assumption
            unfold Box6.ok at hx hy; omega)
         | (refine hN2 (k + 1) _ (by simp only [Jr, Js, Jt, Ju, Qj, Qk, Ql, Qm, reduceIte, Nat.reduceEqDiff]; exact ⟨by repeat' (first | exact trivial | refine ⟨.inr rfl, ?_⟩), by repeat' (first | exact trivial | refine ⟨rfl, ?_⟩), by first | rfl | simp [closedB, Qd, Qb, Qc, dom, Qa, *], by first | rfl | simp [keepB, dom]⟩) ?_ ?_
            · exact ⟨by omega, Q5 hk.2 (by unfold Box6.near; grind)⟩
            · omega)
         | (refine hN (i + 1) _ (by simp only [Jr, Js, Jt, Ju, Qj, Qk, Ql, Qm, reduceIte, Nat.reduceEqDiff]; exact ⟨by repeat' (first | exact trivial | refine ⟨.inr rfl, ?_⟩), by repeat' (first | exact trivial | refine ⟨rfl, ?_⟩), by first | rfl | simp [closedB, Qd, Qb, Qc, dom, Qa, *], by first | rfl | simp [keepB, dom]⟩) ?_ ?_
            · refine ⟨by omega, Q5 hi.2 ?_⟩
              rintro ⟨k', h1, h2⟩
              exact hk.2 k' (by omega) h2
            · omega)
         | (exact ⟨i, by omega, k, by omega, by unfold Box6.near; grind⟩))
    | (refine hN (i + 1) _ (by simp only [Jr, Js, Jt, Ju, Qj, Qk, Ql, Qm, reduceIte, Nat.reduceEqDiff]; exact ⟨by repeat' (first | exact trivial | refine ⟨.inr rfl, ?_⟩), by repeat' (first | exact trivial | refine ⟨rfl, ?_⟩), by first | rfl | simp [closedB, Qd, Qb, Qc, dom, Qa, *], by first | rfl | simp [keepB, dom]⟩) ?_ ?_
       · refine ⟨by omega, Q5 hi.2 ?_⟩
         rintro ⟨k', h1, h2⟩
         exact absurd h2.1 (by assumption)
       · omega)
    | (rintro ⟨j, h1, h2⟩
       exact hi.2 j (by omega) h2)
def Gk : List AV → Option (Prop × AV)
  | [.sl pt 6 px, .sl qt 6 qx] => some ((((px.map Qz).map Box6.row = px) ∧ ((qx.map Qz).map Box6.row = qx)) ∧ ((px.map Qz).length ≤ 4611686018427387904 ∧ (qx.map Qz).length ≤ 4611686018427387904), .bool (decide (QcM (px.map Qz) (qx.map Qz))))
  | _ => none
theorem Qkx : ∀ args p v, Gk args = some (p, v) → p → Contract P 109 args [] v [] ∧ noref v = true ∧ No99 v := by
  intro args p v h1 h2
  unfold Gk at h1
  split at h1
  · rename_i pt px qt qx
    cases h1
    obtain ⟨⟨e0, e1⟩, HP⟩ := h2
    have := Qse pt qt (px.map Qz) (qx.map Qz) HP.1 HP.2
    exact ⟨by simpa only [e0, e1] using this, rfl, trivial⟩
  · cases h1
def Ji : List AV → Option (Prop × AV)
  | [.sl pt 6 px, .sl qt 6 qx] => some ((((px.map Qz).map Box6.row = px) ∧ ((qx.map Qz).map Box6.row = qx)) ∧ ((px.map Qz).length ≤ 4611686018427387904 ∧ (qx.map Qz).length ≤ 4611686018427387904), .bool (decide (QcM (px.map Qz) (qx.map Qz))))
  | _ => none
theorem QaH : ∀ args p v, Ji args = some (p, v) → p → Contract P 130 args [] v [] ∧ noref v = true ∧ No99 v := by
  intro args p v h1 h2
  unfold Ji at h1
  split at h1
  · rename_i pt px qt qx
    cases h1
    obtain ⟨⟨e0, e1⟩, HP⟩ := h2
    have := Qte pt qt (px.map Qz) (qx.map Qz) HP.1 HP.2
    exact ⟨by simpa only [e0, e1] using this, rfl, trivial⟩
  · cases h1
theorem Qp7 (t : Nat) (l : List ByteArray) (v : ByteArray) (hl : l.length ≤ 4611686018427387904) : Contract P 137 [.sl t 1 (l.map Jw), .str v] [] (.int .i64 (QhI (fun s => decide (v = s)) l)) [] := by
  refine Qg (Env.nil P) hm QaA (nlb rfl) rfl ?_; unfold XA; simp (maxSteps := 2000000) only [bitvec_to_nat, reduceIte, Nat.reduceEqDiff, Nat.reduceAdd, Nat.reduceLeDiff, reduceCtorEq, Nat.reduceBEq, Nat.reduceLT, Nat.reduceMod, fmc, int_toBitVec_meta]
  refine QE (fun i : Nat => [(8, .int .i64 i)]) (fun _ => []) (fun i => i ≤ l.length ∧ ∀ j, j < i → decide (v = l.getD j default) = false) (fun i => l.length - i) (0) (by simp only [Jr, Js, Jt, Ju, Qj, Qk, Ql, Qm, reduceIte, Nat.reduceEqDiff]; exact ⟨by repeat' (first | exact trivial | refine ⟨.inr rfl, ?_⟩), by repeat' (first | exact trivial | refine ⟨rfl, ?_⟩), by first | rfl | simp [closedB, Qd, Qb, Qc, dom, Qa, *], by first | rfl | simp [keepB, dom]⟩) ?_ ?_
  · exact ⟨Nat.zero_le _, by intro j hj; omega⟩
  intro i hi NX hN
  unfold Gg; simp (maxSteps := 2000000) only [bitvec_to_nat, reduceIte, Nat.reduceEqDiff, Nat.reduceAdd, Nat.reduceLeDiff, reduceCtorEq, Nat.reduceBEq, Nat.reduceLT, Nat.reduceMod, fmc, int_toBitVec_meta]
  
  repeat' (first | with_reducible apply And.intro | with_reducible intro _)
  all_goals first
    | omega
    | (refine hN (i + 1) _ (by simp only [Jr, Js, Jt, Ju, Qj, Qk, Ql, Qm, reduceIte, Nat.reduceEqDiff]; exact ⟨by repeat' (first | exact trivial | refine ⟨.inr rfl, ?_⟩), by repeat' (first | exact trivial | refine ⟨rfl, ?_⟩), by first | rfl | simp [closedB, Qd, Qb, Qc, dom, Qa, *], by first | rfl | simp [keepB, dom]⟩) ?_ ?_
       · exact ⟨by omega, Q5 hi.2 (by simpa using ‹¬ _›)⟩
       · omega)
    | (rw [Qd5 (i := i) (by omega) (by simpa using ‹_›) hi.2])
    | (rw [VA fun j hj => hi.2 j (by omega)])
def QfH : List AV → Option (Prop × AV)
  | [.sl lt 1 lx, .str v] => some ((((lx.map unS).map Jw = lx)) ∧ ((lx.map unS).length ≤ 4611686018427387904), .int .i64 (QhI (fun s => decide (v = s)) (lx.map unS)))
  | _ => none
theorem Qp8 : ∀ args p v, QfH args = some (p, v) → p → Contract P 137 args [] v [] ∧ noref v = true ∧ No99 v := by
  intro args p v h1 h2
  unfold QfH at h1
  split at h1
  · rename_i lt lx v
    cases h1
    obtain ⟨e0, HP⟩ := h2
    have := Qp7 lt (lx.map unS) v HP
    exact ⟨by simpa only [e0] using this, rfl, trivial⟩
  · cases h1
instance (v : ByteArray) (l : List ByteArray) : Decidable (v ∈ l) := Classical.propDecidable _
theorem Qp9 {l : List ByteArray} {v : ByteArray} : 0 ≤ QhI (fun s => decide (v = s)) l ↔ v ∈ l := by
  rw [QnO]
  constructor
  · rintro ⟨i, hi, h⟩
    simp only [decide_eq_true_eq] at h
    rw [h, List.getD_eq_getElem?_getD, List.getElem?_eq_getElem hi]; simp
  · intro h
    obtain ⟨i, hi, rfl⟩ := List.mem_iff_getElem.1 h
    exact ⟨i, hi, by simp [hi]⟩
theorem Qky (t : Nat) (l : List ByteArray) (v : ByteArray) (hl : l.length ≤ 4611686018427387904) : Contract P 116 [.sl t 1 (l.map Jw), .str v] [] (.bool (decide (v ∈ l))) [] := by
  refine Qg ((Env.nil P).add 137 QfH Qp8) hm V7 (nlb rfl) rfl ?_; unfold Y2; simp (maxSteps := 2000000) only [bitvec_to_nat, reduceIte, Nat.reduceEqDiff, Nat.reduceAdd, Nat.reduceLeDiff, reduceCtorEq, Nat.reduceBEq, Nat.reduceLT, Nat.reduceMod, fmc, QfH, int_toBitVec_meta]
  simp [Qp9, hl]
def Qn : List AV → Option (Prop × AV)
  | [.sl lt 1 lx, .str v] => some ((((lx.map unS).map Jw = lx)) ∧ ((lx.map unS).length ≤ 4611686018427387904), .bool (decide (v ∈ (lx.map unS))))
  | _ => none
theorem JR : ∀ args p v, Qn args = some (p, v) → p → Contract P 116 args [] v [] ∧ noref v = true ∧ No99 v := by
  intro args p v h1 h2
  unfold Qn at h1
  split at h1
  · rename_i lt lx v
    cases h1
    obtain ⟨e0, HP⟩ := h2
    have := Qky lt (lx.map unS) v HP
    exact ⟨by simpa only [e0] using this, rfl, trivial⟩
  · cases h1
def Qhu (gr who : List ByteArray) : Prop := ∀ i, i < who.length → who.getD i default ∈ gr
instance (gr who : List ByteArray) : Decidable (Qhu gr who) := Classical.propDecidable _
theorem QtP (t t' : Nat) (gr who : List ByteArray) (hl : gr.length ≤ 4611686018427387904) (hw : who.length ≤ 4611686018427387904) : Contract P 128 [.sl t 1 (gr.map Jw), .sl t' 1 (who.map Jw)] [] (.bool (decide (Qhu gr who))) [] := by
  refine Qg ((Env.nil P).add 116 Qn JR) hm QmJ (nlb rfl) rfl ?_; unfold QhQ; simp (maxSteps := 2000000) only [bitvec_to_nat, reduceIte, Nat.reduceEqDiff, Nat.reduceAdd, Nat.reduceLeDiff, reduceCtorEq, Nat.reduceBEq, Nat.reduceLT, Nat.reduceMod, fmc, Qn, int_toBitVec_meta]
  refine QE (fun i : Nat => [(9, .int .i64 i)]) (fun _ => []) (fun i => i ≤ who.length ∧ ∀ j, j < i → who.getD j default ∈ gr) (fun i => who.length - i) (0) (by simp only [Jr, Js, Jt, Ju, Qj, Qk, Ql, Qm, reduceIte, Nat.reduceEqDiff]; exact ⟨by repeat' (first | exact trivial | refine ⟨.inr rfl, ?_⟩), by repeat' (first | exact trivial | refine ⟨rfl, ?_⟩), by first | rfl | simp [closedB, Qd, Qb, Qc, dom, Qa, *], by first | rfl | simp [keepB, dom]⟩) ?_ ?_
  · exact ⟨Nat.zero_le _, by intro j hj; omega⟩
  intro i hi NX hN
  unfold Qe1; simp (maxSteps := 2000000) only [bitvec_to_nat, reduceIte, Nat.reduceEqDiff, Nat.reduceAdd, Nat.reduceLeDiff, reduceCtorEq, Nat.reduceBEq, Nat.reduceLT, Nat.reduceMod, fmc, Qn, int_toBitVec_meta]
  repeat' (first | with_reducible apply And.intro | with_reducible intro _)
  all_goals first
    | exact trivial
    | omega
    | (refine hN (i + 1) _ (by simp only [Jr, Js, Jt, Ju, Qj, Qk, Ql, Qm, reduceIte, Nat.reduceEqDiff]; exact ⟨by repeat' (first | exact trivial | refine ⟨.inr rfl, ?_⟩), by repeat' (first | exact trivial | refine ⟨rfl, ?_⟩), by first | rfl | simp [closedB, Qd, Qb, Qc, dom, Qa, *], by first | rfl | simp [keepB, dom]⟩) ?_ ?_
       · exact ⟨by omega, Q5 hi.2 (by grind [Qhu])⟩
       · omega)
    | grind [Qhu]
def JO : List AV → Option (Prop × AV)
  | [.sl grt 1 grx, .sl wht 1 whx] => some ((((grx.map unS).map Jw = grx) ∧ ((whx.map unS).map Jw = whx)) ∧ ((grx.map unS).length ≤ 4611686018427387904 ∧ (whx.map unS).length ≤ 4611686018427387904), .bool (decide (Qhu (grx.map unS) (whx.map unS))))
  | _ => none
theorem QgC : ∀ args p v, JO args = some (p, v) → p → Contract P 128 args [] v [] ∧ noref v = true ∧ No99 v := by
  intro args p v h1 h2
  unfold JO at h1
  split at h1
  · rename_i grt grx wht whx
    cases h1
    obtain ⟨⟨e0, e1⟩, HP⟩ := h2
    have := QtP grt wht (grx.map unS) (whx.map unS) HP.1 HP.2
    exact ⟨by simpa only [e0, e1] using this, rfl, trivial⟩
  · cases h1
def QaI (l : List Seen) (f : ByteArray) : Int := if 0 ≤ QhI (fun s => decide (s.fl = f)) l then (l.getD (QhI (fun s => decide (s.fl = f)) l).toNat default).nr else 0
theorem QjC {l : List Seen} {f : ByteArray} {i : Nat} (hi : i < l.length) (h : (l.getD i default).fl = f) (k : ∀ j, j < i → (l.getD j default).fl ≠ f) : QaI l f = (l.getD i default).nr := by
  unfold QaI; rw [Qd5 hi (by simpa using h) (fun j hj => by simpa using k j hj), if_pos (by omega)]; simp
theorem QgD {l : List Seen} {f : ByteArray} (k : ∀ j, j < l.length → (l.getD j default).fl ≠ f) : QaI l f = 0 := by
  unfold QaI; rw [VA (fun j hj => by simpa using k j hj), if_neg (by omega)]
theorem Qri (b : Book) (v : ByteArray) (hl : b.seen.length ≤ 4611686018427387904) : Contract P 129 [.agg (b.row 0), .str v] [] (.int .i64 (QaI b.seen v)) [] := by
  simp only [Book.row]
  refine Qg (Env.nil P) hm Qbp (nlb rfl) rfl ?_; unfold X7; simp (maxSteps := 2000000) only [bitvec_to_nat, reduceIte, Nat.reduceEqDiff, Nat.reduceAdd, Nat.reduceLeDiff, reduceCtorEq, Nat.reduceBEq, Nat.reduceLT, Nat.reduceMod, fmc, int_toBitVec_meta, Seen.row, Qo]
  refine QE (fun i : Nat => [(10, .int .i64 i)]) (fun _ => []) (fun i => i ≤ b.seen.length ∧ ∀ j, j < i → (b.seen.getD j default).fl ≠ v) (fun i => b.seen.length - i) (0) (by simp only [Jr, Js, Jt, Ju, Qj, Qk, Ql, Qm, reduceIte, Nat.reduceEqDiff]; exact ⟨by repeat' (first | exact trivial | refine ⟨.inr rfl, ?_⟩), by repeat' (first | exact trivial | refine ⟨rfl, ?_⟩), by first | rfl | simp [closedB, Qd, Qb, Qc, dom, Qa, *], by first | rfl | simp [keepB, dom]⟩) ?_ ?_
  · exact ⟨Nat.zero_le _, by intro j hj; omega⟩
  intro i hi NX hN
  unfold Gq; simp (maxSteps := 2000000) only [bitvec_to_nat, reduceIte, Nat.reduceEqDiff, Nat.reduceAdd, Nat.reduceLeDiff, reduceCtorEq, Nat.reduceBEq, Nat.reduceLT, Nat.reduceMod, fmc, int_toBitVec_meta, Seen.row, Qo]
  
  repeat' (first | with_reducible apply And.intro | with_reducible intro _)
  all_goals first
    | omega
    | (refine hN (i + 1) _ (by simp only [Jr, Js, Jt, Ju, Qj, Qk, Ql, Qm, reduceIte, Nat.reduceEqDiff]; exact ⟨by repeat' (first | exact trivial | refine ⟨.inr rfl, ?_⟩), by repeat' (first | exact trivial | refine ⟨rfl, ?_⟩), by first | rfl | simp [closedB, Qd, Qb, Qc, dom, Qa, *], by first | rfl | simp [keepB, dom]⟩) ?_ ?_
       · exact ⟨by omega, Q5 hi.2 (by assumption)⟩
       · omega)
    | (rw [QjC (i := i) (by omega) (by assumption) hi.2])
    | (rw [QgD fun j hj => hi.2 j (by omega)])
def Jj : List AV → Option (Prop × AV)
  | [.agg [.sl 0 11 b_own, .sl 0 3 b_parts, .sl 0 2 b_seen], .str v] => some ((((b_own.map Jm).map (Own.row 0) = b_own) ∧ ((b_parts.map QX).map (Part.row 0) = b_parts) ∧ ((b_seen.map QZ).map Seen.row = b_seen)) ∧ ((Book.mk (b_own.map Jm) (b_parts.map QX) (b_seen.map QZ)).seen.length ≤ 4611686018427387904), .int .i64 (QaI (Book.mk (b_own.map Jm) (b_parts.map QX) (b_seen.map QZ)).seen v))
  | _ => none
theorem Uy : ∀ args p v, Jj args = some (p, v) → p → Contract P 129 args [] v [] ∧ noref v = true ∧ No99 v := by
  intro args p v h1 h2
  unfold Jj at h1
  split at h1
  · rename_i b_own b_parts b_seen v
    cases h1
    obtain ⟨⟨e0, e1, e2⟩, HP⟩ := h2
    have := Qri (Book.mk (b_own.map Jm) (b_parts.map QX) (b_seen.map QZ)) v HP
    exact ⟨by simpa only [e0, e1, e2, Book.row] using this, rfl, trivial⟩
  · cases h1
theorem Qsf (b : Book) (v : ByteArray) (hl : b.seen.length ≤ 4611686018427387904) : Contract P 107 [.agg (b.row 0), .str v] [] (.int .i64 (QaI b.seen v)) [] := by
  simp only [Book.row]
  refine Qg (Env.nil P) hm Qhq (nlb rfl) rfl ?_; unfold QbA; simp (maxSteps := 2000000) only [bitvec_to_nat, reduceIte, Nat.reduceEqDiff, Nat.reduceAdd, Nat.reduceLeDiff, reduceCtorEq, Nat.reduceBEq, Nat.reduceLT, Nat.reduceMod, fmc, int_toBitVec_meta, Seen.row, Qo]
  refine QE (fun i : Nat => [(5, .int .i64 i)]) (fun _ => []) (fun i => i ≤ b.seen.length ∧ ∀ j, j < i → (b.seen.getD j default).fl ≠ v) (fun i => b.seen.length - i) (0) (by simp only [Jr, Js, Jt, Ju, Qj, Qk, Ql, Qm, reduceIte, Nat.reduceEqDiff]; exact ⟨by repeat' (first | exact trivial | refine ⟨.inr rfl, ?_⟩), by repeat' (first | exact trivial | refine ⟨rfl, ?_⟩), by first | rfl | simp [closedB, Qd, Qb, Qc, dom, Qa, *], by first | rfl | simp [keepB, dom]⟩) ?_ ?_
  · exact ⟨Nat.zero_le _, by intro j hj; omega⟩
  intro i hi NX hN
  unfold WK; simp (maxSteps := 2000000) only [bitvec_to_nat, reduceIte, Nat.reduceEqDiff, Nat.reduceAdd, Nat.reduceLeDiff, reduceCtorEq, Nat.reduceBEq, Nat.reduceLT, Nat.reduceMod, fmc, int_toBitVec_meta, Seen.row, Qo]
  
  repeat' (first | with_reducible apply And.intro | with_reducible intro _)
  all_goals first
    | omega
    | (refine hN (i + 1) _ (by simp only [Jr, Js, Jt, Ju, Qj, Qk, Ql, Qm, reduceIte, Nat.reduceEqDiff]; exact ⟨by repeat' (first | exact trivial | refine ⟨.inr rfl, ?_⟩), by repeat' (first | exact trivial | refine ⟨rfl, ?_⟩), by first | rfl | simp [closedB, Qd, Qb, Qc, dom, Qa, *], by first | rfl | simp [keepB, dom]⟩) ?_ ?_
       · exact ⟨by omega, Q5 hi.2 (by assumption)⟩
       · omega)
    | (rw [QjC (i := i) (by omega) (by assumption) hi.2])
    | (rw [QgD fun j hj => hi.2 j (by omega)])
def Gl : List AV → Option (Prop × AV)
  | [.agg [.sl 0 11 b_own, .sl 0 3 b_parts, .sl 0 2 b_seen], .str v] => some ((((b_own.map Jm).map (Own.row 0) = b_own) ∧ ((b_parts.map QX).map (Part.row 0) = b_parts) ∧ ((b_seen.map QZ).map Seen.row = b_seen)) ∧ ((Book.mk (b_own.map Jm) (b_parts.map QX) (b_seen.map QZ)).seen.length ≤ 4611686018427387904), .int .i64 (QaI (Book.mk (b_own.map Jm) (b_parts.map QX) (b_seen.map QZ)).seen v))
  | _ => none
theorem Qkz : ∀ args p v, Gl args = some (p, v) → p → Contract P 107 args [] v [] ∧ noref v = true ∧ No99 v := by
  intro args p v h1 h2
  unfold Gl at h1
  split at h1
  · rename_i b_own b_parts b_seen v
    cases h1
    obtain ⟨⟨e0, e1, e2⟩, HP⟩ := h2
    have := Qsf (Book.mk (b_own.map Jm) (b_parts.map QX) (b_seen.map QZ)) v HP
    exact ⟨by simpa only [e0, e1, e2, Book.row] using this, rfl, trivial⟩
  · cases h1
end
end Go.Ve

namespace Go.Ve
noncomputable section
open Go.Proofs
set_option maxRecDepth 100000
def QaJ (zs : List Zone) (n : Int) (tu : List Box6) : Prop := (n = 0 → tu.length = 0) ∧ (n ≠ 0 → tubeOk zs tu)
instance (zs : List Zone) (n : Int) (tu : List Box6) : Decidable (QaJ zs n tu) := Classical.propDecidable _
def Qnh (wh gr : List ByteArray) (i : Nat) : Prop := gr.getD i default ∈ wh ∧ (0 < i → slt (gr.getD (i - 1) default) (gr.getD i default))
def WT (zs : List Zone) (o : Own) : Prop := Ga o.fl ∧ (1 ≤ o.st ∧ o.st ≤ 3) ∧ (1 ≤ o.tn ∧ o.tn ≤ 1000000) ∧ (0 ≤ o.la ∧ o.la ≤ 1000000) ∧ (0 ≤ o.nr ∧ o.nr ≤ o.la) ∧ (0 ≤ o.wi ∧ o.wi ≤ o.la) ∧ (o.wi ≠ 0 → o.nr < o.wi)
def Qrj (zs : List Zone) (o : Own) : Prop := (o.st = 1 ↔ o.dst = ⟨#[]⟩) ∧ (o.st ≠ 1 → 0 ≤ zAt zs o.dst) ∧ (o.st ≠ 1 → o.wi = 0) ∧ (o.st = 2 → o.nr ≠ 0)
def QcN (zs : List Zone) (o : Own) : Prop := QaJ zs o.nr o.tu ∧ QaJ zs o.wi o.nx
def QgE (zs : List Zone) (o : Own) : Prop := (∀ i, i < o.gr.length → Qnh (XI zs o.nx) o.gr i) ∧ (o.sent = true ↔ 0 < o.wi ∧ Qhu o.gr (XI zs o.nx))
def QmV (zs : List Zone) (o : Own) : Prop := WT zs o ∧ Qrj zs o ∧ QcN zs o ∧ QgE zs o
instance (zs : List Zone) (o : Own) : Decidable (QmV zs o) := Classical.propDecidable _
def QkA (zs : List Zone) (l : List Own) (i : Nat) : Prop := QmV zs (l.getD i default) ∧ (0 < i → slt (l.getD (i - 1) default).fl (l.getD i default).fl)
def QhT (zs : List Zone) (l : List Own) : Prop := l.length ≤ 6 ∧ ∀ i, i < l.length → QkA zs l i
instance (zs : List Zone) (l : List Own) : Decidable (QhT zs l) := Classical.propDecidable _
def Part.before (a p : Part) : Prop := slt a.fl p.fl ∨ (a.fl = p.fl ∧ a.nr < p.nr)
instance (a p : Part) : Decidable (a.before p) := Classical.propDecidable _
def QgF (zs : List Zone) (b : Book) (i : Nat) : Prop := Ga (b.parts.getD i default).fl ∧ (1 ≤ (b.parts.getD i default).nr ∧ (b.parts.getD i default).nr ≤ QaI b.seen (b.parts.getD i default).fl) ∧ tubeOk zs (b.parts.getD i default).bx ∧
  (0 < i → (b.parts.getD (i - 1) default).before (b.parts.getD i default)) ∧ ∀ k, k < i → (b.parts.getD k default).fl ≠ (b.parts.getD i default).fl → ¬ QcM (b.parts.getD k default).bx (b.parts.getD i default).bx
def QgG (zs : List Zone) (b : Book) : Prop := b.parts.length ≤ 16 ∧ ∀ i, i < b.parts.length → QgF zs b i
instance (zs : List Zone) (b : Book) : Decidable (QgG zs b) := Classical.propDecidable _
def QcO (l : List Seen) (i : Nat) : Prop := Ga (l.getD i default).fl ∧ (1 ≤ (l.getD i default).nr ∧ (l.getD i default).nr ≤ 1000000) ∧ (0 < i → slt (l.getD (i - 1) default).fl (l.getD i default).fl)
def Qrk (l : List Seen) : Prop := l.length ≤ 6 ∧ ∀ i, i < l.length → QcO l i
def bookOk (zs : List Zone) (b : Book) : Prop := QhT zs b.own ∧ QgG zs b ∧ Qrk b.seen
instance (zs : List Zone) (b : Book) : Decidable (bookOk zs b) := Classical.propDecidable _
/-- Lists that are not too long for a machine. -/
def Own.small (o : Own) : Prop := o.tu.length ≤ 1048576 ∧ o.nx.length ≤ 1048576 ∧ o.gr.length ≤ 1048576
def Book.small (b : Book) : Prop := (b.own.length ≤ 1048576 ∧ ∀ o ∈ b.own, o.small) ∧ (b.parts.length ≤ 1048576 ∧ ∀ p ∈ b.parts, p.bx.length ≤ 1048576) ∧ b.seen.length ≤ 1048576
theorem Book.small_own {b : Book} (h : b.small) {i : Nat} (hi : i < b.own.length) : (b.own.getD i default).small := h.1.2 _ (by simp [hi])
theorem Book.small_part {b : Book} (h : b.small) {i : Nat} (hi : i < b.parts.length) : (b.parts.getD i default).bx.length ≤ 1048576 := h.2.1.2 _ (by simp [hi])
theorem Jg : Wj P 126 = true := by kernel_rfl
theorem Qou (zs : List Zone) (tu : List Box6) : (XI zs tu).length ≤ zs.length := by
  rw [← Qot]; exact Qos zs tu _
theorem Qtf (n : Int) (t t' : Nat) (zs : List Zone) (tu : List Box6) (hz : zs.length ≤ 4611686018427387904) (hl : tu.length ≤ 4611686018427387904) : Contract P 126 [.int .i64 n, .sl t 6 (tu.map Box6.row), .ptr 3 0] [(3, .box [.sl t' 5 (zs.map Zone.row)])] (.bool (decide (QaJ zs n tu))) [(3, .box [.sl t' 5 (zs.map Zone.row)])] := by
  refine Qg ((Env.nil P).add 100 QG YO) hm Qgs (nlb rfl) rfl ?_; unfold Qax; simp (maxSteps := 2000000) only [bitvec_to_nat, reduceIte, Nat.reduceEqDiff, Nat.reduceAdd, Nat.reduceLeDiff, reduceCtorEq, Nat.reduceBEq, Nat.reduceLT, Nat.reduceMod, fmc, Qf, Qh, Qe, Qu, keepB, Qi, Qw, QG, int_toBitVec_meta, Own.row, Qy, Seen.row, Qo, Part.row, Qp, Book.row]
  refine ⟨fun h => ?_, fun h => ⟨⟨hz, hl⟩, ?_⟩⟩
  · simp [QaJ, h, Qb, Qd, dom, decide_eq_decide]
    try omega
  · simp [QaJ, h, Qb, Qd, dom]
def Jk : RTab
  | [.int .i64 n, .sl tt 6 tx, .ptr ob off], M => match M ob with
    | some (.box [.sl zt 5 zx]) => some ⟨off = 0 ∧ (tx.map Qz).map Box6.row = tx ∧ (zx.map Qx).map Zone.row = zx ∧ (zx.map Qx).length ≤ 4611686018427387904 ∧ (tx.map Qz).length ≤ 4611686018427387904, fun _ : Unit => True, fun _ => .bool (decide (QaJ (zx.map Qx) n (tx.map Qz))), fun _ => [(ob, .box [.sl zt 5 zx])]⟩
    | _ => none
  | _, _ => none
theorem QaK : okTab P 126 Jk := by
  intro args M o h hp
  unfold Jk at h
  split at h
  · rename_i n tt tx ob off
    split at h
    · rename_i zt zx hM
      cases h
      obtain ⟨rfl, e0, e1, HP⟩ := hp
      have hC := Qtf n tt zt (zx.map Qx) (tx.map Qz) HP.1 HP.2
      simp only [e0, e1] at hC
      exact ⟨(), trivial, Qce _ hC (by simp [Je, noref]) rfl (by assumption) (by simp [K8, ren, swp]) (by simp [Qb, Qd, noref])⟩
    · cases h
  · cases h
set_option maxHeartbeats 400000 in
theorem Qfk (t : Nat) (zs : List Zone) (b : Book) {Q : XT → St → Prop}  (hQ : ∀ bv : Bool, (bv = true ↔ (6 < b.own.length ∨ 16 < b.parts.length ∨ 6 < b.seen.length)) → Q .normal ⟨[(2, .ptr 102 0), (3, .ptr 103 0), (34, .bool bv)], [(102, .box [.sl t 5 (zs.map Zone.row)]), (103, .box [.sl 0 11 (b.own.map (Own.row 0)), .sl 0 3 (b.parts.map (Part.row 0)), .sl 0 2 (b.seen.map Seen.row)])]⟩) : SCode.wp ((((((((((((Env.nil P).addR 126 Jk QaK).add 120 Qt Kk).add 103 Qv K5).add 125 QN Gi).add 86 QO Gj).add 127 JN QgB).add 116 Qn JR).add 128 JO QgC).add 100 QG YO).add 129 Jj Uy).add 130 Ji QaH) ZG Q ⟨[(2, .ptr 102 0), (3, .ptr 103 0)], [(102, .box [.sl t 5 (zs.map Zone.row)]), (103, .box [.sl 0 11 (b.own.map (Own.row 0)), .sl 0 3 (b.parts.map (Part.row 0)), .sl 0 2 (b.seen.map Seen.row)])]⟩ := by
  all_goals (unfold ZG; simp (maxSteps := 2000000) only [bitvec_to_nat, reduceIte, Nat.reduceEqDiff, Nat.reduceAdd, Nat.reduceLeDiff, reduceCtorEq, Nat.reduceBEq, Nat.reduceLT, Nat.reduceMod, fmc, Qf, Qh, Qe, Qu, keepB, Qi, Qw, Qt, Qv, QN, QO, JN, Qn, JO, QG, Jj, Ji, Jk, int_toBitVec_meta, Own.row, Qy, Seen.row, Qo, Part.row, Qp, Book.row, Jg])
  repeat' (first | with_reducible apply And.intro | with_reducible intro _)
  all_goals first
    | omega
    | (refine hQ _ ?_
       first
         | grind []
         | (simp; grind []))
    | grind []
set_option maxHeartbeats 1000000 in
theorem Qfl (t : Nat) (zs : List Zone) (b : Book) (o : Own) (i : Nat) {Q : XT → St → Prop} (hi : i < b.own.length) (hl : b.own.length ≤ 1048576) (hQ : ∀ bv : Bool, (bv = true ↔ ¬ (WT zs o ∧ (0 < i → slt (b.own.getD (i - 1) default).fl o.fl))) → Q .normal ⟨[(2, .ptr 102 0), (3, .ptr 103 0), (6, .ptr 106 0), (36, .sl 0 11 (b.own.map (Own.row 0))), (37, .int .i64 b.own.length), (38, .int .i64 i), (108, .bool bv)], [(102, .box [.sl t 5 (zs.map Zone.row)]), (103, .box [.sl 0 11 (b.own.map (Own.row 0)), .sl 0 3 (b.parts.map (Part.row 0)), .sl 0 2 (b.seen.map Seen.row)]), (106, .box [.str o.fl, .int .i64 o.st, .int .i64 o.tn, .str o.dst, .int .i64 o.la, .int .i64 o.nr, .sl 0 6 (o.tu.map Box6.row), .int .i64 o.wi, .sl 0 6 (o.nx.map Box6.row), .sl 0 1 (o.gr.map Jw), .bool o.sent])]⟩) : SCode.wp ((((((((((((Env.nil P).addR 126 Jk QaK).add 120 Qt Kk).add 103 Qv K5).add 125 QN Gi).add 86 QO Gj).add 127 JN QgB).add 116 Qn JR).add 128 JO QgC).add 100 QG YO).add 129 Jj Uy).add 130 Ji QaH) ZH Q ⟨[(2, .ptr 102 0), (3, .ptr 103 0), (5, .int .i64 i), (6, .ptr 106 0), (36, .sl 0 11 (b.own.map (Own.row 0))), (37, .int .i64 b.own.length), (38, .int .i64 i)], [(102, .box [.sl t 5 (zs.map Zone.row)]), (103, .box [.sl 0 11 (b.own.map (Own.row 0)), .sl 0 3 (b.parts.map (Part.row 0)), .sl 0 2 (b.seen.map Seen.row)]), (106, .box [.str o.fl, .int .i64 o.st, .int .i64 o.tn, .str o.dst, .int .i64 o.la, .int .i64 o.nr, .sl 0 6 (o.tu.map Box6.row), .int .i64 o.wi, .sl 0 6 (o.nx.map Box6.row), .sl 0 1 (o.gr.map Jw), .bool o.sent])]⟩ := by
  all_goals (unfold ZH; simp (maxSteps := 2000000) only [bitvec_to_nat, reduceIte, Nat.reduceEqDiff, Nat.reduceAdd, Nat.reduceLeDiff, reduceCtorEq, Nat.reduceBEq, Nat.reduceLT, Nat.reduceMod, fmc, Qf, Qh, Qe, Qu, keepB, Qi, Qw, Qt, Qv, QN, QO, JN, Qn, JO, QG, Jj, Ji, Jk, int_toBitVec_meta, Own.row, Qy, Seen.row, Qo, Part.row, Qp, Book.row, Jg])
  repeat' (first | with_reducible apply And.intro | with_reducible intro _)
  all_goals first
    | omega
    | (refine hQ _ ?_
       first
         | grind [WT]
         | (simp; grind [WT]))
    | grind [WT]
set_option maxHeartbeats 400000 in
theorem Qfm (t : Nat) (zs : List Zone) (b : Book) (o : Own) (i : Nat) {Q : XT → St → Prop} (hz : zs.length ≤ 4294967295) (hQ : ∀ bv : Bool, (bv = true ↔ ¬ ((o.st = 1 ↔ o.dst = ⟨#[]⟩) ∧ (o.st ≠ 1 → 0 ≤ zAt zs o.dst) ∧ (o.st ≠ 1 → o.wi = 0))) → Q .normal ⟨[(2, .ptr 102 0), (3, .ptr 103 0), (6, .ptr 106 0), (36, .sl 0 11 (b.own.map (Own.row 0))), (37, .int .i64 b.own.length), (38, .int .i64 i), (136, .bool bv)], [(102, .box [.sl t 5 (zs.map Zone.row)]), (103, .box [.sl 0 11 (b.own.map (Own.row 0)), .sl 0 3 (b.parts.map (Part.row 0)), .sl 0 2 (b.seen.map Seen.row)]), (106, .box [.str o.fl, .int .i64 o.st, .int .i64 o.tn, .str o.dst, .int .i64 o.la, .int .i64 o.nr, .sl 0 6 (o.tu.map Box6.row), .int .i64 o.wi, .sl 0 6 (o.nx.map Box6.row), .sl 0 1 (o.gr.map Jw), .bool o.sent])]⟩) : SCode.wp ((((((((((((Env.nil P).addR 126 Jk QaK).add 120 Qt Kk).add 103 Qv K5).add 125 QN Gi).add 86 QO Gj).add 127 JN QgB).add 116 Qn JR).add 128 JO QgC).add 100 QG YO).add 129 Jj Uy).add 130 Ji QaH) ZI Q ⟨[(2, .ptr 102 0), (3, .ptr 103 0), (6, .ptr 106 0), (7, .bool (decide (o.st = 1))), (36, .sl 0 11 (b.own.map (Own.row 0))), (37, .int .i64 b.own.length), (38, .int .i64 i)], [(102, .box [.sl t 5 (zs.map Zone.row)]), (103, .box [.sl 0 11 (b.own.map (Own.row 0)), .sl 0 3 (b.parts.map (Part.row 0)), .sl 0 2 (b.seen.map Seen.row)]), (106, .box [.str o.fl, .int .i64 o.st, .int .i64 o.tn, .str o.dst, .int .i64 o.la, .int .i64 o.nr, .sl 0 6 (o.tu.map Box6.row), .int .i64 o.wi, .sl 0 6 (o.nx.map Box6.row), .sl 0 1 (o.gr.map Jw), .bool o.sent])]⟩ := by
  all_goals (unfold ZI; simp (maxSteps := 2000000) only [bitvec_to_nat, reduceIte, Nat.reduceEqDiff, Nat.reduceAdd, Nat.reduceLeDiff, reduceCtorEq, Nat.reduceBEq, Nat.reduceLT, Nat.reduceMod, fmc, Qf, Qh, Qe, Qu, keepB, Qi, Qw, Qt, Qv, QN, QO, JN, Qn, JO, QG, Jj, Ji, Jk, int_toBitVec_meta, Own.row, Qy, Seen.row, Qo, Part.row, Qp, Book.row, Jg])
  repeat' (first | with_reducible apply And.intro | with_reducible intro _)
  all_goals first
    | omega
    | (refine hQ _ ?_
       first
         | grind []
         | (simp; grind []))
    | grind []
set_option maxHeartbeats 400000 in
theorem Qfn (t : Nat) (zs : List Zone) (b : Book) (o : Own) (i : Nat) {Q : XT → St → Prop} (hz : zs.length ≤ 4294967295) (h1 : o.tu.length ≤ 1048576) (h2 : o.nx.length ≤ 1048576) (hQ : ∀ bv : Bool, (bv = true ↔ ¬ ((o.st = 2 → o.nr ≠ 0) ∧ QcN zs o)) → Q .normal ⟨[(2, .ptr 102 0), (3, .ptr 103 0), (6, .ptr 106 0), (36, .sl 0 11 (b.own.map (Own.row 0))), (37, .int .i64 b.own.length), (38, .int .i64 i), (163, .bool bv)], [(102, .box [.sl t 5 (zs.map Zone.row)]), (103, .box [.sl 0 11 (b.own.map (Own.row 0)), .sl 0 3 (b.parts.map (Part.row 0)), .sl 0 2 (b.seen.map Seen.row)]), (106, .box [.str o.fl, .int .i64 o.st, .int .i64 o.tn, .str o.dst, .int .i64 o.la, .int .i64 o.nr, .sl 0 6 (o.tu.map Box6.row), .int .i64 o.wi, .sl 0 6 (o.nx.map Box6.row), .sl 0 1 (o.gr.map Jw), .bool o.sent])]⟩) : SCode.wp ((((((((((((Env.nil P).addR 126 Jk QaK).add 120 Qt Kk).add 103 Qv K5).add 125 QN Gi).add 86 QO Gj).add 127 JN QgB).add 116 Qn JR).add 128 JO QgC).add 100 QG YO).add 129 Jj Uy).add 130 Ji QaH) ZJ Q ⟨[(2, .ptr 102 0), (3, .ptr 103 0), (6, .ptr 106 0), (8, .fn 126 [] [.ptr 102 0]), (36, .sl 0 11 (b.own.map (Own.row 0))), (37, .int .i64 b.own.length), (38, .int .i64 i)], [(102, .box [.sl t 5 (zs.map Zone.row)]), (103, .box [.sl 0 11 (b.own.map (Own.row 0)), .sl 0 3 (b.parts.map (Part.row 0)), .sl 0 2 (b.seen.map Seen.row)]), (106, .box [.str o.fl, .int .i64 o.st, .int .i64 o.tn, .str o.dst, .int .i64 o.la, .int .i64 o.nr, .sl 0 6 (o.tu.map Box6.row), .int .i64 o.wi, .sl 0 6 (o.nx.map Box6.row), .sl 0 1 (o.gr.map Jw), .bool o.sent])]⟩ := by
  all_goals (unfold ZJ; simp (maxSteps := 2000000) only [bitvec_to_nat, reduceIte, Nat.reduceEqDiff, Nat.reduceAdd, Nat.reduceLeDiff, reduceCtorEq, Nat.reduceBEq, Nat.reduceLT, Nat.reduceMod, fmc, Qf, Qh, Qe, Qu, keepB, Qi, Qw, Qt, Qv, QN, QO, JN, Qn, JO, QG, Jj, Ji, Jk, int_toBitVec_meta, Own.row, Qy, Seen.row, Qo, Part.row, Qp, Book.row, Jg])
  repeat' (first | with_reducible apply And.intro | with_reducible intro _)
  all_goals first
    | omega
    | (refine hQ _ ?_
       first
         | grind [QcN]
         | (simp; grind [QcN]))
    | grind [QcN]
set_option maxHeartbeats 400000 in
theorem Qfo (t : Nat) (zs : List Zone) (b : Book) (o : Own) (i : Nat) (wh : List ByteArray) (k : Nat) {Q : XT → St → Prop} (hw : wh.length ≤ 4294967295) (hk : k < o.gr.length) (hl : o.gr.length ≤ 1048576) (hQ : ∀ bv : Bool, (bv = true ↔ ¬ Qnh wh o.gr k) → Q .normal ⟨[(2, .ptr 102 0), (3, .ptr 103 0), (6, .ptr 106 0), (9, .sl 0 1 (wh.map Jw)), (36, .sl 0 11 (b.own.map (Own.row 0))), (37, .int .i64 b.own.length), (38, .int .i64 i), (169, .sl 0 1 (o.gr.map Jw)), (170, .int .i64 o.gr.length), (171, .int .i64 k), (193, .bool bv)], [(102, .box [.sl t 5 (zs.map Zone.row)]), (103, .box [.sl 0 11 (b.own.map (Own.row 0)), .sl 0 3 (b.parts.map (Part.row 0)), .sl 0 2 (b.seen.map Seen.row)]), (106, .box [.str o.fl, .int .i64 o.st, .int .i64 o.tn, .str o.dst, .int .i64 o.la, .int .i64 o.nr, .sl 0 6 (o.tu.map Box6.row), .int .i64 o.wi, .sl 0 6 (o.nx.map Box6.row), .sl 0 1 (o.gr.map Jw), .bool o.sent])]⟩) : SCode.wp ((((((((((((Env.nil P).addR 126 Jk QaK).add 120 Qt Kk).add 103 Qv K5).add 125 QN Gi).add 86 QO Gj).add 127 JN QgB).add 116 Qn JR).add 128 JO QgC).add 100 QG YO).add 129 Jj Uy).add 130 Ji QaH) ZK Q ⟨[(2, .ptr 102 0), (3, .ptr 103 0), (6, .ptr 106 0), (9, .sl 0 1 (wh.map Jw)), (10, .int .i64 k), (11, .str (o.gr.getD k default)), (36, .sl 0 11 (b.own.map (Own.row 0))), (37, .int .i64 b.own.length), (38, .int .i64 i), (169, .sl 0 1 (o.gr.map Jw)), (170, .int .i64 o.gr.length), (171, .int .i64 k)], [(102, .box [.sl t 5 (zs.map Zone.row)]), (103, .box [.sl 0 11 (b.own.map (Own.row 0)), .sl 0 3 (b.parts.map (Part.row 0)), .sl 0 2 (b.seen.map Seen.row)]), (106, .box [.str o.fl, .int .i64 o.st, .int .i64 o.tn, .str o.dst, .int .i64 o.la, .int .i64 o.nr, .sl 0 6 (o.tu.map Box6.row), .int .i64 o.wi, .sl 0 6 (o.nx.map Box6.row), .sl 0 1 (o.gr.map Jw), .bool o.sent])]⟩ := by
  all_goals (unfold ZK; simp (maxSteps := 2000000) only [bitvec_to_nat, reduceIte, Nat.reduceEqDiff, Nat.reduceAdd, Nat.reduceLeDiff, reduceCtorEq, Nat.reduceBEq, Nat.reduceLT, Nat.reduceMod, fmc, Qf, Qh, Qe, Qu, keepB, Qi, Qw, Qt, Qv, QN, QO, JN, Qn, JO, QG, Jj, Ji, Jk, int_toBitVec_meta, Own.row, Qy, Seen.row, Qo, Part.row, Qp, Book.row, Jg])
  repeat' (first | with_reducible apply And.intro | with_reducible intro _)
  all_goals first
    | omega
    | (refine hQ _ ?_
       first
         | grind [Qnh]
         | (simp; grind [Qnh]))
    | grind [Qnh]
set_option maxHeartbeats 400000 in
theorem Qfp (t : Nat) (zs : List Zone) (b : Book) (o : Own) (i : Nat) (wh : List ByteArray) (k : Nat) {w172 : AV} {Q : XT → St → Prop} (hw : wh.length ≤ 4294967295) (hl : o.gr.length ≤ 1048576) (hQ : ∀ bv : Bool, (bv = true ↔ ¬ (o.sent = true ↔ 0 < o.wi ∧ Qhu o.gr wh)) → Q .normal ⟨[(2, .ptr 102 0), (3, .ptr 103 0), (36, .sl 0 11 (b.own.map (Own.row 0))), (37, .int .i64 b.own.length), (38, .int .i64 i), (206, .bool bv)], [(102, .box [.sl t 5 (zs.map Zone.row)]), (103, .box [.sl 0 11 (b.own.map (Own.row 0)), .sl 0 3 (b.parts.map (Part.row 0)), .sl 0 2 (b.seen.map Seen.row)]), (106, .box [.str o.fl, .int .i64 o.st, .int .i64 o.tn, .str o.dst, .int .i64 o.la, .int .i64 o.nr, .sl 0 6 (o.tu.map Box6.row), .int .i64 o.wi, .sl 0 6 (o.nx.map Box6.row), .sl 0 1 (o.gr.map Jw), .bool o.sent])]⟩) : SCode.wp ((((((((((((Env.nil P).addR 126 Jk QaK).add 120 Qt Kk).add 103 Qv K5).add 125 QN Gi).add 86 QO Gj).add 127 JN QgB).add 116 Qn JR).add 128 JO QgC).add 100 QG YO).add 129 Jj Uy).add 130 Ji QaH) ZL Q ⟨[(2, .ptr 102 0), (3, .ptr 103 0), (6, .ptr 106 0), (9, .sl 0 1 (wh.map Jw)), (36, .sl 0 11 (b.own.map (Own.row 0))), (37, .int .i64 b.own.length), (38, .int .i64 i), (169, .sl 0 1 (o.gr.map Jw)), (170, .int .i64 o.gr.length), (171, .int .i64 k), (172, w172)], [(102, .box [.sl t 5 (zs.map Zone.row)]), (103, .box [.sl 0 11 (b.own.map (Own.row 0)), .sl 0 3 (b.parts.map (Part.row 0)), .sl 0 2 (b.seen.map Seen.row)]), (106, .box [.str o.fl, .int .i64 o.st, .int .i64 o.tn, .str o.dst, .int .i64 o.la, .int .i64 o.nr, .sl 0 6 (o.tu.map Box6.row), .int .i64 o.wi, .sl 0 6 (o.nx.map Box6.row), .sl 0 1 (o.gr.map Jw), .bool o.sent])]⟩ := by
  all_goals (unfold ZL; simp (maxSteps := 2000000) only [bitvec_to_nat, reduceIte, Nat.reduceEqDiff, Nat.reduceAdd, Nat.reduceLeDiff, reduceCtorEq, Nat.reduceBEq, Nat.reduceLT, Nat.reduceMod, fmc, Qf, Qh, Qe, Qu, keepB, Qi, Qw, Qt, Qv, QN, QO, JN, Qn, JO, QG, Jj, Ji, Jk, int_toBitVec_meta, Own.row, Qy, Seen.row, Qo, Part.row, Qp, Book.row, Jg])
  repeat' (first | with_reducible apply And.intro | with_reducible intro _)
  all_goals first
    | omega
    | (refine hQ _ ?_
       first
         | grind []
         | (simp; grind []))
    | grind []
set_option maxHeartbeats 400000 in
theorem Qfq (t : Nat) (zs : List Zone) (b : Book) (i : Nat) {Q : XT → St → Prop} (hi : i < b.seen.length) (hl : b.seen.length ≤ 1048576) (hQ : ∀ bv : Bool, (bv = true ↔ ¬ QcO b.seen i) → Q .normal ⟨[(2, .ptr 102 0), (3, .ptr 103 0), (209, .sl 0 2 (b.seen.map Seen.row)), (210, .int .i64 b.seen.length), (211, .int .i64 i), (241, .bool bv)], [(102, .box [.sl t 5 (zs.map Zone.row)]), (103, .box [.sl 0 11 (b.own.map (Own.row 0)), .sl 0 3 (b.parts.map (Part.row 0)), .sl 0 2 (b.seen.map Seen.row)]), (113, .box [.str (b.seen.getD i default).fl, .int .i64 (b.seen.getD i default).nr])]⟩) : SCode.wp ((((((((((((Env.nil P).addR 126 Jk QaK).add 120 Qt Kk).add 103 Qv K5).add 125 QN Gi).add 86 QO Gj).add 127 JN QgB).add 116 Qn JR).add 128 JO QgC).add 100 QG YO).add 129 Jj Uy).add 130 Ji QaH) ZM Q ⟨[(2, .ptr 102 0), (3, .ptr 103 0), (12, .int .i64 i), (13, .ptr 113 0), (209, .sl 0 2 (b.seen.map Seen.row)), (210, .int .i64 b.seen.length), (211, .int .i64 i)], [(102, .box [.sl t 5 (zs.map Zone.row)]), (103, .box [.sl 0 11 (b.own.map (Own.row 0)), .sl 0 3 (b.parts.map (Part.row 0)), .sl 0 2 (b.seen.map Seen.row)]), (113, .box [.str (b.seen.getD i default).fl, .int .i64 (b.seen.getD i default).nr])]⟩ := by
  all_goals (unfold ZM; simp (maxSteps := 2000000) only [bitvec_to_nat, reduceIte, Nat.reduceEqDiff, Nat.reduceAdd, Nat.reduceLeDiff, reduceCtorEq, Nat.reduceBEq, Nat.reduceLT, Nat.reduceMod, fmc, Qf, Qh, Qe, Qu, keepB, Qi, Qw, Qt, Qv, QN, QO, JN, Qn, JO, QG, Jj, Ji, Jk, int_toBitVec_meta, Own.row, Qy, Seen.row, Qo, Part.row, Qp, Book.row, Jg])
  repeat' (first | with_reducible apply And.intro | with_reducible intro _)
  all_goals first
    | omega
    | (refine hQ _ ?_
       first
         | grind [QcO]
         | (simp; grind [QcO]))
    | grind [QcO]
set_option maxHeartbeats 400000 in
theorem Qfr (t : Nat) (zs : List Zone) (b : Book) (p : Part) (i : Nat) {Q : XT → St → Prop} (hz : zs.length ≤ 4294967295) (hs : b.seen.length ≤ 1048576) (hl : p.bx.length ≤ 1048576) (hQ : ∀ bv : Bool, (bv = true ↔ ¬ (Ga p.fl ∧ (1 ≤ p.nr ∧ p.nr ≤ QaI b.seen p.fl) ∧ tubeOk zs p.bx)) → Q .normal ⟨[(2, .ptr 102 0), (3, .ptr 103 0), (14, .int .i64 i), (15, .ptr 115 0), (244, .sl 0 3 (b.parts.map (Part.row 0))), (245, .int .i64 b.parts.length), (246, .int .i64 i), (271, .bool bv)], [(102, .box [.sl t 5 (zs.map Zone.row)]), (103, .box [.sl 0 11 (b.own.map (Own.row 0)), .sl 0 3 (b.parts.map (Part.row 0)), .sl 0 2 (b.seen.map Seen.row)]), (115, .box [.str p.fl, .int .i64 p.nr, .sl 0 6 (p.bx.map Box6.row)])]⟩) : SCode.wp ((((((((((((Env.nil P).addR 126 Jk QaK).add 120 Qt Kk).add 103 Qv K5).add 125 QN Gi).add 86 QO Gj).add 127 JN QgB).add 116 Qn JR).add 128 JO QgC).add 100 QG YO).add 129 Jj Uy).add 130 Ji QaH) ZN Q ⟨[(2, .ptr 102 0), (3, .ptr 103 0), (14, .int .i64 i), (15, .ptr 115 0), (244, .sl 0 3 (b.parts.map (Part.row 0))), (245, .int .i64 b.parts.length), (246, .int .i64 i)], [(102, .box [.sl t 5 (zs.map Zone.row)]), (103, .box [.sl 0 11 (b.own.map (Own.row 0)), .sl 0 3 (b.parts.map (Part.row 0)), .sl 0 2 (b.seen.map Seen.row)]), (115, .box [.str p.fl, .int .i64 p.nr, .sl 0 6 (p.bx.map Box6.row)])]⟩ := by
  all_goals (unfold ZN; simp (maxSteps := 2000000) only [bitvec_to_nat, reduceIte, Nat.reduceEqDiff, Nat.reduceAdd, Nat.reduceLeDiff, reduceCtorEq, Nat.reduceBEq, Nat.reduceLT, Nat.reduceMod, fmc, Qf, Qh, Qe, Qu, keepB, Qi, Qw, Qt, Qv, QN, QO, JN, Qn, JO, QG, Jj, Ji, Jk, int_toBitVec_meta, Own.row, Qy, Seen.row, Qo, Part.row, Qp, Book.row, Jg])
  repeat' (first | with_reducible apply And.intro | with_reducible intro _)
  all_goals first
    | omega
    | (refine hQ _ ?_
       first
         | grind []
         | (simp; grind []))
    | grind []
set_option maxHeartbeats 400000 in
theorem Qfs (t : Nat) (zs : List Zone) (b : Book) (p a : Part) (i : Nat) {Q : XT → St → Prop} (ht : slt a.fl p.fl ∨ a.fl = p.fl ∨ slt p.fl a.fl) (hn : slt a.fl p.fl → ¬ slt p.fl a.fl) (he : a.fl = p.fl → ¬ slt p.fl a.fl) (hQ : ∀ bv : Bool, (bv = true ↔ ¬ a.before p) → Q .normal ⟨[(2, .ptr 102 0), (3, .ptr 103 0), (14, .int .i64 i), (15, .ptr 115 0), (244, .sl 0 3 (b.parts.map (Part.row 0))), (245, .int .i64 b.parts.length), (246, .int .i64 i), (298, .bool bv)], [(102, .box [.sl t 5 (zs.map Zone.row)]), (103, .box [.sl 0 11 (b.own.map (Own.row 0)), .sl 0 3 (b.parts.map (Part.row 0)), .sl 0 2 (b.seen.map Seen.row)]), (115, .box [.str p.fl, .int .i64 p.nr, .sl 0 6 (p.bx.map Box6.row)]), (116, .box [.str a.fl, .int .i64 a.nr, .sl 0 6 (a.bx.map Box6.row)])]⟩) : SCode.wp ((((((((((((Env.nil P).addR 126 Jk QaK).add 120 Qt Kk).add 103 Qv K5).add 125 QN Gi).add 86 QO Gj).add 127 JN QgB).add 116 Qn JR).add 128 JO QgC).add 100 QG YO).add 129 Jj Uy).add 130 Ji QaH) ZO Q ⟨[(2, .ptr 102 0), (3, .ptr 103 0), (14, .int .i64 i), (15, .ptr 115 0), (16, .ptr 116 0), (244, .sl 0 3 (b.parts.map (Part.row 0))), (245, .int .i64 b.parts.length), (246, .int .i64 i)], [(102, .box [.sl t 5 (zs.map Zone.row)]), (103, .box [.sl 0 11 (b.own.map (Own.row 0)), .sl 0 3 (b.parts.map (Part.row 0)), .sl 0 2 (b.seen.map Seen.row)]), (115, .box [.str p.fl, .int .i64 p.nr, .sl 0 6 (p.bx.map Box6.row)]), (116, .box [.str a.fl, .int .i64 a.nr, .sl 0 6 (a.bx.map Box6.row)])]⟩ := by
  all_goals (unfold ZO; simp (maxSteps := 2000000) only [bitvec_to_nat, reduceIte, Nat.reduceEqDiff, Nat.reduceAdd, Nat.reduceLeDiff, reduceCtorEq, Nat.reduceBEq, Nat.reduceLT, Nat.reduceMod, fmc, Qf, Qh, Qe, Qu, keepB, Qi, Qw, Qt, Qv, QN, QO, JN, Qn, JO, QG, Jj, Ji, Jk, int_toBitVec_meta, Own.row, Qy, Seen.row, Qo, Part.row, Qp, Book.row, Jg])
  repeat' (first | with_reducible apply And.intro | with_reducible intro _)
  all_goals first
    | omega
    | (refine hQ _ ?_
       first
         | grind [Part.before]
         | (simp; grind [Part.before]))
    | grind [Part.before]
set_option maxHeartbeats 400000 in
theorem WU (t : Nat) (zs : List Zone) (b : Book) (p a : Part) (i k : Nat) {Q : XT → St → Prop} (h1 : a.bx.length ≤ 1048576) (h2 : p.bx.length ≤ 1048576) (hQ : ∀ bv : Bool, (bv = true ↔ (a.fl ≠ p.fl ∧ QcM a.bx p.bx)) → Q .normal ⟨[(2, .ptr 102 0), (3, .ptr 103 0), (15, .ptr 115 0), (244, .sl 0 3 (b.parts.map (Part.row 0))), (245, .int .i64 b.parts.length), (246, .int .i64 i), (302, .sl 0 3 ((b.parts.take i).map (Part.row 0))), (303, .int .i64 (min i b.parts.length : Nat)), (304, .int .i64 k), (319, .bool bv)], [(102, .box [.sl t 5 (zs.map Zone.row)]), (103, .box [.sl 0 11 (b.own.map (Own.row 0)), .sl 0 3 (b.parts.map (Part.row 0)), .sl 0 2 (b.seen.map Seen.row)]), (115, .box [.str p.fl, .int .i64 p.nr, .sl 0 6 (p.bx.map Box6.row)]), (118, .box [.str a.fl, .int .i64 a.nr, .sl 0 6 (a.bx.map Box6.row)])]⟩) : SCode.wp ((((((((((((Env.nil P).addR 126 Jk QaK).add 120 Qt Kk).add 103 Qv K5).add 125 QN Gi).add 86 QO Gj).add 127 JN QgB).add 116 Qn JR).add 128 JO QgC).add 100 QG YO).add 129 Jj Uy).add 130 Ji QaH) ZP Q ⟨[(2, .ptr 102 0), (3, .ptr 103 0), (15, .ptr 115 0), (18, .ptr 118 0), (244, .sl 0 3 (b.parts.map (Part.row 0))), (245, .int .i64 b.parts.length), (246, .int .i64 i), (302, .sl 0 3 ((b.parts.take i).map (Part.row 0))), (303, .int .i64 (min i b.parts.length : Nat)), (304, .int .i64 k)], [(102, .box [.sl t 5 (zs.map Zone.row)]), (103, .box [.sl 0 11 (b.own.map (Own.row 0)), .sl 0 3 (b.parts.map (Part.row 0)), .sl 0 2 (b.seen.map Seen.row)]), (115, .box [.str p.fl, .int .i64 p.nr, .sl 0 6 (p.bx.map Box6.row)]), (118, .box [.str a.fl, .int .i64 a.nr, .sl 0 6 (a.bx.map Box6.row)])]⟩ := by
  all_goals (unfold ZP; simp (maxSteps := 2000000) only [bitvec_to_nat, reduceIte, Nat.reduceEqDiff, Nat.reduceAdd, Nat.reduceLeDiff, reduceCtorEq, Nat.reduceBEq, Nat.reduceLT, Nat.reduceMod, fmc, Qf, Qh, Qe, Qu, keepB, Qi, Qw, Qt, Qv, QN, QO, JN, Qn, JO, QG, Jj, Ji, Jk, int_toBitVec_meta, Own.row, Qy, Seen.row, Qo, Part.row, Qp, Book.row, Jg])
  repeat' (first | with_reducible apply And.intro | with_reducible intro _)
  all_goals first
    | omega
    | (refine hQ _ ?_
       first
         | grind []
         | (simp; grind []))
    | grind []
end
end Go.Ve

namespace Go.Ve
noncomputable section
open Go.Proofs
set_option maxRecDepth 100000
set_option maxHeartbeats 1000000 in
theorem Qqa (t : Nat) (zs : List Zone) (b : Book) (hz : zs.length ≤ 4294967295) (hb : b.small) : Contract P 102 [.sl t 5 (zs.map Zone.row), .agg (b.row 0)] [] (.bool (decide (bookOk zs b))) [] := by
  have hb1 := hb.1.1
  have hb2 := hb.2.1.1
  have hb3 := hb.2.2
  simp only [Book.row]
  refine Qg ((((((((((((Env.nil P).addR 126 Jk QaK).add 120 Qt Kk).add 103 Qv K5).add 125 QN Gi).add 86 QO Gj).add 127 JN QgB).add 116 Qn JR).add 128 JO QgC).add 100 QG YO).add 129 Jj Uy).add 130 Ji QaH) hm Qin (nlb rfl) rfl ?_; unfold QcD; simp (maxSteps := 2000000) only [bitvec_to_nat, reduceIte, Nat.reduceEqDiff, Nat.reduceAdd, Nat.reduceLeDiff, reduceCtorEq, Nat.reduceBEq, Nat.reduceLT, Nat.reduceMod, fmc, Qf, Qh, Qe, Qu, keepB, Qi, Qw, Qt, Qv, QN, QO, JN, Qn, JO, QG, Jj, Ji, Jk, int_toBitVec_meta, Own.row, Qy, Seen.row, Qo, Part.row, Qp, Book.row, Jg]
  refine Qfk t zs b fun bv hbv => ?_
  cases bv
  case true =>
    simp (maxSteps := 2000000) only [bitvec_to_nat, reduceIte, Nat.reduceEqDiff, Nat.reduceAdd, Nat.reduceLeDiff, reduceCtorEq, Nat.reduceBEq, Nat.reduceLT, Nat.reduceMod, fmc, Qf, Qh, Qe, Qu, keepB, Qi, Qw, Qt, Qv, QN, QO, JN, Qn, JO, QG, Jj, Ji, Jk, int_toBitVec_meta, Own.row, Qy, Seen.row, Qo, Part.row, Qp, Book.row, Jg]
    have : 6 < b.own.length ∨ 16 < b.parts.length ∨ 6 < b.seen.length := by simpa using hbv
    intro hq
    have h1 := hq.1.1; have h2 := hq.2.1.1; have h3 := hq.2.2.1
    omega
  have h0 : ¬ (6 < b.own.length ∨ 16 < b.parts.length ∨ 6 < b.seen.length) := by simpa using hbv
  simp (maxSteps := 2000000) only [bitvec_to_nat, reduceIte, Nat.reduceEqDiff, Nat.reduceAdd, Nat.reduceLeDiff, reduceCtorEq, Nat.reduceBEq, Nat.reduceLT, Nat.reduceMod, fmc, Qf, Qh, Qe, Qu, keepB, Qi, Qw, Qt, Qv, QN, QO, JN, Qn, JO, QG, Jj, Ji, Jk, int_toBitVec_meta, Own.row, Qy, Seen.row, Qo, Part.row, Qp, Book.row, Jg]
  -- those in hand
  refine QE (fun i : Nat => [(38, .int .i64 i)]) (fun _ => []) (fun i => i ≤ b.own.length ∧ ∀ j, j < i → QkA zs b.own j) (fun i => b.own.length - i) (0) (by simp only [Jr, Js, Jt, Ju, Qj, Qk, Ql, Qm, reduceIte, Nat.reduceEqDiff]; exact ⟨by repeat' (first | exact trivial | refine ⟨.inr rfl, ?_⟩), by repeat' (first | exact trivial | refine ⟨rfl, ?_⟩), by first | rfl | simp [closedB, Qd, Qb, Qc, dom, Qa, *], by first | rfl | simp [keepB, dom]⟩) ?_ ?_
  · exact ⟨Nat.zero_le _, by intro j hj; omega⟩
  intro i hi NX hN
  unfold Qao; simp (maxSteps := 2000000) only [bitvec_to_nat, reduceIte, Nat.reduceEqDiff, Nat.reduceAdd, Nat.reduceLeDiff, reduceCtorEq, Nat.reduceBEq, Nat.reduceLT, Nat.reduceMod, fmc, Qf, Qh, Qe, Qu, keepB, Qi, Qw, Qt, Qv, QN, QO, JN, Qn, JO, QG, Jj, Ji, Jk, int_toBitVec_meta, Own.row, Qy, Seen.row, Qo, Part.row, Qp, Book.row, Jg]
  refine ⟨fun g1 => ⟨by omega, by omega, ?_⟩, fun g1 => ?_⟩
  · have hs : (b.own.getD i default).small := Book.small_own hb (by omega)
    unfold Own.small at hs
    have hw := Qou zs (b.own.getD i default).nx
    have A : bookOk zs b → QkA zs b.own i := fun h => h.1.2 i (by omega)
    unfold QkA QmV at A
    refine Qfl t zs b (b.own.getD i default) i (by omega) hb1 fun bv hbv => ?_
    cases bv
    case true =>
      simp (maxSteps := 2000000) only [bitvec_to_nat, reduceIte, Nat.reduceEqDiff, Nat.reduceAdd, Nat.reduceLeDiff, reduceCtorEq, Nat.reduceBEq, Nat.reduceLT, Nat.reduceMod, fmc, Qf, Qh, Qe, Qu, keepB, Qi, Qw, Qt, Qv, QN, QO, JN, Qn, JO, QG, Jj, Ji, Jk, int_toBitVec_meta, Own.row, Qy, Seen.row, Qo, Part.row, Qp, Book.row, Jg]
      have : ¬ (WT zs (b.own.getD i default) ∧ (0 < i → slt (b.own.getD (i - 1) default).fl (b.own.getD i default).fl)) := by simpa using hbv
      exact fun hq => this ⟨(A hq).1.1, (A hq).2⟩
    have o1 : WT zs (b.own.getD i default) ∧ (0 < i → slt (b.own.getD (i - 1) default).fl (b.own.getD i default).fl) := by simpa using hbv
    simp (maxSteps := 2000000) only [bitvec_to_nat, reduceIte, Nat.reduceEqDiff, Nat.reduceAdd, Nat.reduceLeDiff, reduceCtorEq, Nat.reduceBEq, Nat.reduceLT, Nat.reduceMod, fmc, Qf, Qh, Qe, Qu, keepB, Qi, Qw, Qt, Qv, QN, QO, JN, Qn, JO, QG, Jj, Ji, Jk, int_toBitVec_meta, Own.row, Qy, Seen.row, Qo, Part.row, Qp, Book.row, Jg]
    refine Qfm t zs b (b.own.getD i default) i hz fun bv hbv => ?_
    cases bv
    case true =>
      simp (maxSteps := 2000000) only [bitvec_to_nat, reduceIte, Nat.reduceEqDiff, Nat.reduceAdd, Nat.reduceLeDiff, reduceCtorEq, Nat.reduceBEq, Nat.reduceLT, Nat.reduceMod, fmc, Qf, Qh, Qe, Qu, keepB, Qi, Qw, Qt, Qv, QN, QO, JN, Qn, JO, QG, Jj, Ji, Jk, int_toBitVec_meta, Own.row, Qy, Seen.row, Qo, Part.row, Qp, Book.row, Jg]
      exact fun hq => (hbv.1 rfl) ⟨(A hq).1.2.1.1, (A hq).1.2.1.2.1, (A hq).1.2.1.2.2.1⟩
    have o2 := Classical.not_not.1 fun h => Bool.noConfusion (hbv.2 h)
    simp (maxSteps := 2000000) only [bitvec_to_nat, reduceIte, Nat.reduceEqDiff, Nat.reduceAdd, Nat.reduceLeDiff, reduceCtorEq, Nat.reduceBEq, Nat.reduceLT, Nat.reduceMod, fmc, Qf, Qh, Qe, Qu, keepB, Qi, Qw, Qt, Qv, QN, QO, JN, Qn, JO, QG, Jj, Ji, Jk, int_toBitVec_meta, Own.row, Qy, Seen.row, Qo, Part.row, Qp, Book.row, Jg]
    refine Qfn t zs b (b.own.getD i default) i hz hs.1 hs.2.1 fun bv hbv => ?_
    cases bv
    case true =>
      simp (maxSteps := 2000000) only [bitvec_to_nat, reduceIte, Nat.reduceEqDiff, Nat.reduceAdd, Nat.reduceLeDiff, reduceCtorEq, Nat.reduceBEq, Nat.reduceLT, Nat.reduceMod, fmc, Qf, Qh, Qe, Qu, keepB, Qi, Qw, Qt, Qv, QN, QO, JN, Qn, JO, QG, Jj, Ji, Jk, int_toBitVec_meta, Own.row, Qy, Seen.row, Qo, Part.row, Qp, Book.row, Jg]
      exact fun hq => (hbv.1 rfl) ⟨(A hq).1.2.1.2.2.2, (A hq).1.2.2.1⟩
    have o3 := Classical.not_not.1 fun h => Bool.noConfusion (hbv.2 h)
    simp (maxSteps := 2000000) only [bitvec_to_nat, reduceIte, Nat.reduceEqDiff, Nat.reduceAdd, Nat.reduceLeDiff, reduceCtorEq, Nat.reduceBEq, Nat.reduceLT, Nat.reduceMod, fmc, Qf, Qh, Qe, Qu, keepB, Qi, Qw, Qt, Qv, QN, QO, JN, Qn, JO, QG, Jj, Ji, Jk, int_toBitVec_meta, Own.row, Qy, Seen.row, Qo, Part.row, Qp, Book.row, Jg]
    refine ⟨⟨hz, by omega⟩, ?_⟩
    refine QE (fun k : Nat => [(171, .int .i64 k)]) (fun _ => []) (fun k => k ≤ (b.own.getD i default).gr.length ∧ ∀ j, j < k → Qnh (XI zs (b.own.getD i default).nx) (b.own.getD i default).gr j) (fun k => (b.own.getD i default).gr.length - k) (0) (by simp only [Jr, Js, Jt, Ju, Qj, Qk, Ql, Qm, reduceIte, Nat.reduceEqDiff]; exact ⟨by repeat' (first | exact trivial | refine ⟨.inr rfl, ?_⟩), by repeat' (first | exact trivial | refine ⟨rfl, ?_⟩), by first | rfl | simp [closedB, Qd, Qb, Qc, dom, Qa, *], by first | rfl | simp [keepB, dom]⟩) ?_ ?_
    · exact ⟨Nat.zero_le _, by intro j hj; omega⟩
    intro k hk NX2 hN2
    unfold Qan; simp (maxSteps := 2000000) only [bitvec_to_nat, reduceIte, Nat.reduceEqDiff, Nat.reduceAdd, Nat.reduceLeDiff, reduceCtorEq, Nat.reduceBEq, Nat.reduceLT, Nat.reduceMod, fmc, Qf, Qh, Qe, Qu, keepB, Qi, Qw, Qt, Qv, QN, QO, JN, Qn, JO, QG, Jj, Ji, Jk, int_toBitVec_meta, Own.row, Qy, Seen.row, Qo, Part.row, Qp, Book.row, Jg]
    refine ⟨fun g2 => ⟨by omega, by omega, ?_⟩, fun g2 => ?_⟩
    · refine Qfo t zs b (b.own.getD i default) i (XI zs (b.own.getD i default).nx) k (by omega) (by omega) (by omega) fun bv hbv => ?_
      cases bv
      case true =>
        simp (maxSteps := 2000000) only [bitvec_to_nat, reduceIte, Nat.reduceEqDiff, Nat.reduceAdd, Nat.reduceLeDiff, reduceCtorEq, Nat.reduceBEq, Nat.reduceLT, Nat.reduceMod, fmc, Qf, Qh, Qe, Qu, keepB, Qi, Qw, Qt, Qv, QN, QO, JN, Qn, JO, QG, Jj, Ji, Jk, int_toBitVec_meta, Own.row, Qy, Seen.row, Qo, Part.row, Qp, Book.row, Jg]
        exact fun hq => (hbv.1 rfl) ((A hq).1.2.2.2.1 k (by omega))
      have o4 := Classical.not_not.1 fun h => Bool.noConfusion (hbv.2 h)
      simp (maxSteps := 2000000) only [bitvec_to_nat, reduceIte, Nat.reduceEqDiff, Nat.reduceAdd, Nat.reduceLeDiff, reduceCtorEq, Nat.reduceBEq, Nat.reduceLT, Nat.reduceMod, fmc, Qf, Qh, Qe, Qu, keepB, Qi, Qw, Qt, Qv, QN, QO, JN, Qn, JO, QG, Jj, Ji, Jk, int_toBitVec_meta, Own.row, Qy, Seen.row, Qo, Part.row, Qp, Book.row, Jg]
      refine ⟨by omega, ?_⟩
      refine hN2 (k + 1) _ (by simp only [Jr, Js, Jt, Ju, Qj, Qk, Ql, Qm, reduceIte, Nat.reduceEqDiff]; exact ⟨by repeat' (first | exact trivial | refine ⟨.inr rfl, ?_⟩), by repeat' (first | exact trivial | refine ⟨rfl, ?_⟩), by first | rfl | simp [closedB, Qd, Qb, Qc, dom, Qa, *], by first | rfl | simp [keepB, dom]⟩) ?_ ?_
      · exact ⟨by omega, Q5 hk.2 o4⟩
      · omega
    · refine Qfp t zs b (b.own.getD i default) i (XI zs (b.own.getD i default).nx) k (by omega) (by omega) fun bv hbv => ?_
      cases bv
      case true =>
        simp (maxSteps := 2000000) only [bitvec_to_nat, reduceIte, Nat.reduceEqDiff, Nat.reduceAdd, Nat.reduceLeDiff, reduceCtorEq, Nat.reduceBEq, Nat.reduceLT, Nat.reduceMod, fmc, Qf, Qh, Qe, Qu, keepB, Qi, Qw, Qt, Qv, QN, QO, JN, Qn, JO, QG, Jj, Ji, Jk, int_toBitVec_meta, Own.row, Qy, Seen.row, Qo, Part.row, Qp, Book.row, Jg]
        exact fun hq => (hbv.1 rfl) (A hq).1.2.2.2.2
      have o5 := Classical.not_not.1 fun h => Bool.noConfusion (hbv.2 h)
      simp (maxSteps := 2000000) only [bitvec_to_nat, reduceIte, Nat.reduceEqDiff, Nat.reduceAdd, Nat.reduceLeDiff, reduceCtorEq, Nat.reduceBEq, Nat.reduceLT, Nat.reduceMod, fmc, Qf, Qh, Qe, Qu, keepB, Qi, Qw, Qt, Qv, QN, QO, JN, Qn, JO, QG, Jj, Ji, Jk, int_toBitVec_meta, Own.row, Qy, Seen.row, Qo, Part.row, Qp, Book.row, Jg]
      refine ⟨by omega, ?_⟩
      refine hN (i + 1) _ (by simp only [Jr, Js, Jt, Ju, Qj, Qk, Ql, Qm, reduceIte, Nat.reduceEqDiff]; exact ⟨by repeat' (first | exact trivial | refine ⟨.inr rfl, ?_⟩), by repeat' (first | exact trivial | refine ⟨rfl, ?_⟩), by first | rfl | simp [closedB, Qd, Qb, Qc, dom, Qa, *], by first | rfl | simp [keepB, dom]⟩) ?_ ?_
      · exact ⟨by omega, Q5 hi.2 ⟨⟨o1.1, ⟨o2.1, o2.2.1, o2.2.2, o3.1⟩, o3.2, fun j hj => hk.2 j (by omega), o5⟩, o1.2⟩⟩
      · omega
  -- those that were seen
  have own : QhT zs b.own := ⟨by omega, fun j hj => hi.2 j (by omega)⟩
  clear hN hi
  refine QE (fun i : Nat => [(211, .int .i64 i)]) (fun _ => []) (fun i => i ≤ b.seen.length ∧ ∀ j, j < i → QcO b.seen j) (fun i => b.seen.length - i) (0) (by simp only [Jr, Js, Jt, Ju, Qj, Qk, Ql, Qm, reduceIte, Nat.reduceEqDiff]; exact ⟨by repeat' (first | exact trivial | refine ⟨.inr rfl, ?_⟩), by repeat' (first | exact trivial | refine ⟨rfl, ?_⟩), by first | rfl | simp [closedB, Qd, Qb, Qc, dom, Qa, *], by first | rfl | simp [keepB, dom]⟩) ?_ ?_
  · exact ⟨Nat.zero_le _, by intro j hj; omega⟩
  intro i hi NX hN
  unfold Qap; simp (maxSteps := 2000000) only [bitvec_to_nat, reduceIte, Nat.reduceEqDiff, Nat.reduceAdd, Nat.reduceLeDiff, reduceCtorEq, Nat.reduceBEq, Nat.reduceLT, Nat.reduceMod, fmc, Qf, Qh, Qe, Qu, keepB, Qi, Qw, Qt, Qv, QN, QO, JN, Qn, JO, QG, Jj, Ji, Jk, int_toBitVec_meta, Own.row, Qy, Seen.row, Qo, Part.row, Qp, Book.row, Jg]
  refine ⟨fun g1 => ⟨by omega, by omega, ?_⟩, fun g1 => ?_⟩
  · refine Qfq t zs b i (by omega) hb3 fun bv hbv => ?_
    cases bv
    case true =>
      simp (maxSteps := 2000000) only [bitvec_to_nat, reduceIte, Nat.reduceEqDiff, Nat.reduceAdd, Nat.reduceLeDiff, reduceCtorEq, Nat.reduceBEq, Nat.reduceLT, Nat.reduceMod, fmc, Qf, Qh, Qe, Qu, keepB, Qi, Qw, Qt, Qv, QN, QO, JN, Qn, JO, QG, Jj, Ji, Jk, int_toBitVec_meta, Own.row, Qy, Seen.row, Qo, Part.row, Qp, Book.row, Jg]
      exact fun hq => (hbv.1 rfl) (hq.2.2.2 i (by omega))
    have o1 := Classical.not_not.1 fun h => Bool.noConfusion (hbv.2 h)
    simp (maxSteps := 2000000) only [bitvec_to_nat, reduceIte, Nat.reduceEqDiff, Nat.reduceAdd, Nat.reduceLeDiff, reduceCtorEq, Nat.reduceBEq, Nat.reduceLT, Nat.reduceMod, fmc, Qf, Qh, Qe, Qu, keepB, Qi, Qw, Qt, Qv, QN, QO, JN, Qn, JO, QG, Jj, Ji, Jk, int_toBitVec_meta, Own.row, Qy, Seen.row, Qo, Part.row, Qp, Book.row, Jg]
    refine ⟨by omega, ?_⟩
    refine hN (i + 1) _ (by simp only [Jr, Js, Jt, Ju, Qj, Qk, Ql, Qm, reduceIte, Nat.reduceEqDiff]; exact ⟨by repeat' (first | exact trivial | refine ⟨.inr rfl, ?_⟩), by repeat' (first | exact trivial | refine ⟨rfl, ?_⟩), by first | rfl | simp [closedB, Qd, Qb, Qc, dom, Qa, *], by first | rfl | simp [keepB, dom]⟩) ?_ ?_
    · exact ⟨by omega, Q5 hi.2 o1⟩
    · omega
  -- the parts
  have seen : Qrk b.seen := ⟨by omega, fun j hj => hi.2 j (by omega)⟩
  clear hN hi
  refine QE (fun i : Nat => [(246, .int .i64 i)]) (fun _ => []) (fun i => i ≤ b.parts.length ∧ ∀ j, j < i → QgF zs b j) (fun i => b.parts.length - i) (0) (by simp only [Jr, Js, Jt, Ju, Qj, Qk, Ql, Qm, reduceIte, Nat.reduceEqDiff]; exact ⟨by repeat' (first | exact trivial | refine ⟨.inr rfl, ?_⟩), by repeat' (first | exact trivial | refine ⟨rfl, ?_⟩), by first | rfl | simp [closedB, Qd, Qb, Qc, dom, Qa, *], by first | rfl | simp [keepB, dom]⟩) ?_ ?_
  · exact ⟨Nat.zero_le _, by intro j hj; omega⟩
  intro i hi NX hN
  unfold Qaq; simp (maxSteps := 2000000) only [bitvec_to_nat, reduceIte, Nat.reduceEqDiff, Nat.reduceAdd, Nat.reduceLeDiff, reduceCtorEq, Nat.reduceBEq, Nat.reduceLT, Nat.reduceMod, fmc, Qf, Qh, Qe, Qu, keepB, Qi, Qw, Qt, Qv, QN, QO, JN, Qn, JO, QG, Jj, Ji, Jk, int_toBitVec_meta, Own.row, Qy, Seen.row, Qo, Part.row, Qp, Book.row, Jg]
  refine ⟨fun g1 => ⟨by omega, by omega, ?_⟩, fun g1 => ?_⟩
  · have hs := Book.small_part hb (i := i) (by omega)
    have A : bookOk zs b → QgF zs b i := fun h => h.2.1.2 i (by omega)
    unfold QgF at A
    refine Qfr t zs b (b.parts.getD i default) i hz hb3 hs fun bv hbv => ?_
    cases bv
    case true =>
      simp (maxSteps := 2000000) only [bitvec_to_nat, reduceIte, Nat.reduceEqDiff, Nat.reduceAdd, Nat.reduceLeDiff, reduceCtorEq, Nat.reduceBEq, Nat.reduceLT, Nat.reduceMod, fmc, Qf, Qh, Qe, Qu, keepB, Qi, Qw, Qt, Qv, QN, QO, JN, Qn, JO, QG, Jj, Ji, Jk, int_toBitVec_meta, Own.row, Qy, Seen.row, Qo, Part.row, Qp, Book.row, Jg]
      exact fun hq => (hbv.1 rfl) ⟨(A hq).1, (A hq).2.1, (A hq).2.2.1⟩
    have o1 := Classical.not_not.1 fun h => Bool.noConfusion (hbv.2 h)
    simp (maxSteps := 2000000) only [bitvec_to_nat, reduceIte, Nat.reduceEqDiff, Nat.reduceAdd, Nat.reduceLeDiff, reduceCtorEq, Nat.reduceBEq, Nat.reduceLT, Nat.reduceMod, fmc, Qf, Qh, Qe, Qu, keepB, Qi, Qw, Qt, Qv, QN, QO, JN, Qn, JO, QG, Jj, Ji, Jk, int_toBitVec_meta, Own.row, Qy, Seen.row, Qo, Part.row, Qp, Book.row, Jg]
    refine ⟨fun g3 => ⟨by omega, by omega, by omega, ?_⟩, fun g3 => ⟨by omega, ?_⟩⟩
    · refine Qfs t zs b (b.parts.getD i default) (b.parts.getD (i - 1) default) i (Qgd _ _) Qac (fun e h => Vz _ (e ▸ h)) fun bv hbv => ?_
      cases bv
      case true =>
        simp (maxSteps := 2000000) only [bitvec_to_nat, reduceIte, Nat.reduceEqDiff, Nat.reduceAdd, Nat.reduceLeDiff, reduceCtorEq, Nat.reduceBEq, Nat.reduceLT, Nat.reduceMod, fmc, Qf, Qh, Qe, Qu, keepB, Qi, Qw, Qt, Qv, QN, QO, JN, Qn, JO, QG, Jj, Ji, Jk, int_toBitVec_meta, Own.row, Qy, Seen.row, Qo, Part.row, Qp, Book.row, Jg]
        exact fun hq => (hbv.1 rfl) ((A hq).2.2.2.1 (by omega))
      have o2' := Classical.not_not.1 fun h => Bool.noConfusion (hbv.2 h)
      have o2 : 0 < i → (b.parts.getD (i - 1) default).before (b.parts.getD i default) := fun _ => o2'
      simp (maxSteps := 2000000) only [bitvec_to_nat, reduceIte, Nat.reduceEqDiff, Nat.reduceAdd, Nat.reduceLeDiff, reduceCtorEq, Nat.reduceBEq, Nat.reduceLT, Nat.reduceMod, fmc, Qf, Qh, Qe, Qu, keepB, Qi, Qw, Qt, Qv, QN, QO, JN, Qn, JO, QG, Jj, Ji, Jk, int_toBitVec_meta, Own.row, Qy, Seen.row, Qo, Part.row, Qp, Book.row, Jg]
      refine ⟨by omega, ?_⟩
      (refine QnQ (st' := ⟨[(2, .ptr 102 0), (3, .ptr 103 0), (15, .ptr 115 0), (244, .sl 0 3 (b.parts.map (Part.row 0))), (245, .int .i64 b.parts.length), (246, .int .i64 i), (302, .sl 0 3 ((b.parts.take i).map (Part.row 0))), (303, .int .i64 (min i b.parts.length : Nat)), (304, .int .i64 0)], [(102, .box [.sl t 5 (zs.map Zone.row)]), (103, .box [.sl 0 11 (b.own.map (Own.row 0)), .sl 0 3 (b.parts.map (Part.row 0)), .sl 0 2 (b.seen.map Seen.row)]), (115, .box [.str (b.parts.getD i default).fl, .int .i64 (b.parts.getD i default).nr, .sl 0 6 ((b.parts.getD i default).bx.map Box6.row)])]⟩) (by (exact ⟨by repeat' (first | exact trivial | refine ⟨.inr rfl, ?_⟩), by repeat' (first | exact trivial | refine ⟨rfl, ?_⟩), by first | rfl | simp [closedB, Qd, Qb, Qc, dom, Qa, *], by first | rfl | simp [keepB, dom]⟩)) ?_
       refine QE (fun k : Nat => [(304, .int .i64 k)]) (fun _ => []) (fun k => k ≤ i ∧ ∀ j, j < k → (b.parts.getD j default).fl ≠ (b.parts.getD i default).fl → ¬ QcM (b.parts.getD j default).bx (b.parts.getD i default).bx) (fun k => i - k) (0) (by simp only [Jr, Js, Jt, Ju, Qj, Qk, Ql, Qm, reduceIte, Nat.reduceEqDiff]; exact ⟨by repeat' (first | exact trivial | refine ⟨.inr rfl, ?_⟩), by repeat' (first | exact trivial | refine ⟨rfl, ?_⟩), by first | rfl | simp [closedB, Qd, Qb, Qc, dom, Qa, *], by first | rfl | simp [keepB, dom]⟩) ?_ ?_
       · exact ⟨Nat.zero_le _, by intro j hj; omega⟩
       intro k hk NX2 hN2
       unfold ZQ; simp (maxSteps := 2000000) only [bitvec_to_nat, reduceIte, Nat.reduceEqDiff, Nat.reduceAdd, Nat.reduceLeDiff, reduceCtorEq, Nat.reduceBEq, Nat.reduceLT, Nat.reduceMod, fmc, Qf, Qh, Qe, Qu, keepB, Qi, Qw, Qt, Qv, QN, QO, JN, Qn, JO, QG, Jj, Ji, Jk, int_toBitVec_meta, Own.row, Qy, Seen.row, Qo, Part.row, Qp, Book.row, Jg]
       refine ⟨fun g2 => ⟨by omega, by omega, ?_⟩, fun g2 => ?_⟩
       · have hk3 : k < i := by omega
         simp only [QcH hk3]
         have hs2 := Book.small_part hb (i := k) (by omega)
         refine WU t zs b (b.parts.getD i default) (b.parts.getD k default) i k hs2 hs fun bv hbv => ?_
         cases bv
         case true =>
           simp (maxSteps := 2000000) only [bitvec_to_nat, reduceIte, Nat.reduceEqDiff, Nat.reduceAdd, Nat.reduceLeDiff, reduceCtorEq, Nat.reduceBEq, Nat.reduceLT, Nat.reduceMod, fmc, Qf, Qh, Qe, Qu, keepB, Qi, Qw, Qt, Qv, QN, QO, JN, Qn, JO, QG, Jj, Ji, Jk, int_toBitVec_meta, Own.row, Qy, Seen.row, Qo, Part.row, Qp, Book.row, Jg]
           exact fun hq => (A hq).2.2.2.2 k hk3 (hbv.1 rfl).1 (hbv.1 rfl).2
         have o3 : ¬ ((b.parts.getD k default).fl ≠ (b.parts.getD i default).fl ∧ QcM (b.parts.getD k default).bx (b.parts.getD i default).bx) := by simpa using hbv
         simp (maxSteps := 2000000) only [bitvec_to_nat, reduceIte, Nat.reduceEqDiff, Nat.reduceAdd, Nat.reduceLeDiff, reduceCtorEq, Nat.reduceBEq, Nat.reduceLT, Nat.reduceMod, fmc, Qf, Qh, Qe, Qu, keepB, Qi, Qw, Qt, Qv, QN, QO, JN, Qn, JO, QG, Jj, Ji, Jk, int_toBitVec_meta, Own.row, Qy, Seen.row, Qo, Part.row, Qp, Book.row, Jg]
         refine ⟨by omega, ?_⟩
         refine hN2 (k + 1) _ (by simp only [Jr, Js, Jt, Ju, Qj, Qk, Ql, Qm, reduceIte, Nat.reduceEqDiff]; exact ⟨by repeat' (first | exact trivial | refine ⟨.inr rfl, ?_⟩), by repeat' (first | exact trivial | refine ⟨rfl, ?_⟩), by first | rfl | simp [closedB, Qd, Qb, Qc, dom, Qa, *], by first | rfl | simp [keepB, dom]⟩) ?_ ?_
         · exact ⟨by omega, Q5 hk.2 fun h1 h2 => o3 ⟨h1, h2⟩⟩
         · omega
       · refine ⟨by omega, ?_⟩
         refine hN (i + 1) _ (by simp only [Jr, Js, Jt, Ju, Qj, Qk, Ql, Qm, reduceIte, Nat.reduceEqDiff]; exact ⟨by repeat' (first | exact trivial | refine ⟨.inr rfl, ?_⟩), by repeat' (first | exact trivial | refine ⟨rfl, ?_⟩), by first | rfl | simp [closedB, Qd, Qb, Qc, dom, Qa, *], by first | rfl | simp [keepB, dom]⟩) ?_ ?_
         · exact ⟨by omega, Q5 hi.2 ⟨o1.1, o1.2.1, o1.2.2, o2, fun k' h1 => hk.2 k' (by omega)⟩⟩
         · omega)
    · have o2 : 0 < i → (b.parts.getD (i - 1) default).before (b.parts.getD i default) := fun h => absurd h (by omega)
      (refine QnQ (st' := ⟨[(2, .ptr 102 0), (3, .ptr 103 0), (15, .ptr 115 0), (244, .sl 0 3 (b.parts.map (Part.row 0))), (245, .int .i64 b.parts.length), (246, .int .i64 i), (302, .sl 0 3 ((b.parts.take i).map (Part.row 0))), (303, .int .i64 (min i b.parts.length : Nat)), (304, .int .i64 0)], [(102, .box [.sl t 5 (zs.map Zone.row)]), (103, .box [.sl 0 11 (b.own.map (Own.row 0)), .sl 0 3 (b.parts.map (Part.row 0)), .sl 0 2 (b.seen.map Seen.row)]), (115, .box [.str (b.parts.getD i default).fl, .int .i64 (b.parts.getD i default).nr, .sl 0 6 ((b.parts.getD i default).bx.map Box6.row)])]⟩) (by (exact ⟨by repeat' (first | exact trivial | refine ⟨.inr rfl, ?_⟩), by repeat' (first | exact trivial | refine ⟨rfl, ?_⟩), by first | rfl | simp [closedB, Qd, Qb, Qc, dom, Qa, *], by first | rfl | simp [keepB, dom]⟩)) ?_
       refine QE (fun k : Nat => [(304, .int .i64 k)]) (fun _ => []) (fun k => k ≤ i ∧ ∀ j, j < k → (b.parts.getD j default).fl ≠ (b.parts.getD i default).fl → ¬ QcM (b.parts.getD j default).bx (b.parts.getD i default).bx) (fun k => i - k) (0) (by simp only [Jr, Js, Jt, Ju, Qj, Qk, Ql, Qm, reduceIte, Nat.reduceEqDiff]; exact ⟨by repeat' (first | exact trivial | refine ⟨.inr rfl, ?_⟩), by repeat' (first | exact trivial | refine ⟨rfl, ?_⟩), by first | rfl | simp [closedB, Qd, Qb, Qc, dom, Qa, *], by first | rfl | simp [keepB, dom]⟩) ?_ ?_
       · exact ⟨Nat.zero_le _, by intro j hj; omega⟩
       intro k hk NX2 hN2
       unfold ZQ; simp (maxSteps := 2000000) only [bitvec_to_nat, reduceIte, Nat.reduceEqDiff, Nat.reduceAdd, Nat.reduceLeDiff, reduceCtorEq, Nat.reduceBEq, Nat.reduceLT, Nat.reduceMod, fmc, Qf, Qh, Qe, Qu, keepB, Qi, Qw, Qt, Qv, QN, QO, JN, Qn, JO, QG, Jj, Ji, Jk, int_toBitVec_meta, Own.row, Qy, Seen.row, Qo, Part.row, Qp, Book.row, Jg]
       refine ⟨fun g2 => ⟨by omega, by omega, ?_⟩, fun g2 => ?_⟩
       · have hk3 : k < i := by omega
         simp only [QcH hk3]
         have hs2 := Book.small_part hb (i := k) (by omega)
         refine WU t zs b (b.parts.getD i default) (b.parts.getD k default) i k hs2 hs fun bv hbv => ?_
         cases bv
         case true =>
           simp (maxSteps := 2000000) only [bitvec_to_nat, reduceIte, Nat.reduceEqDiff, Nat.reduceAdd, Nat.reduceLeDiff, reduceCtorEq, Nat.reduceBEq, Nat.reduceLT, Nat.reduceMod, fmc, Qf, Qh, Qe, Qu, keepB, Qi, Qw, Qt, Qv, QN, QO, JN, Qn, JO, QG, Jj, Ji, Jk, int_toBitVec_meta, Own.row, Qy, Seen.row, Qo, Part.row, Qp, Book.row, Jg]
           exact fun hq => (A hq).2.2.2.2 k hk3 (hbv.1 rfl).1 (hbv.1 rfl).2
         have o3 : ¬ ((b.parts.getD k default).fl ≠ (b.parts.getD i default).fl ∧ QcM (b.parts.getD k default).bx (b.parts.getD i default).bx) := by simpa using hbv
         simp (maxSteps := 2000000) only [bitvec_to_nat, reduceIte, Nat.reduceEqDiff, Nat.reduceAdd, Nat.reduceLeDiff, reduceCtorEq, Nat.reduceBEq, Nat.reduceLT, Nat.reduceMod, fmc, Qf, Qh, Qe, Qu, keepB, Qi, Qw, Qt, Qv, QN, QO, JN, Qn, JO, QG, Jj, Ji, Jk, int_toBitVec_meta, Own.row, Qy, Seen.row, Qo, Part.row, Qp, Book.row, Jg]
         refine ⟨by omega, ?_⟩
         refine hN2 (k + 1) _ (by simp only [Jr, Js, Jt, Ju, Qj, Qk, Ql, Qm, reduceIte, Nat.reduceEqDiff]; exact ⟨by repeat' (first | exact trivial | refine ⟨.inr rfl, ?_⟩), by repeat' (first | exact trivial | refine ⟨rfl, ?_⟩), by first | rfl | simp [closedB, Qd, Qb, Qc, dom, Qa, *], by first | rfl | simp [keepB, dom]⟩) ?_ ?_
         · exact ⟨by omega, Q5 hk.2 fun h1 h2 => o3 ⟨h1, h2⟩⟩
         · omega
       · refine ⟨by omega, ?_⟩
         refine hN (i + 1) _ (by simp only [Jr, Js, Jt, Ju, Qj, Qk, Ql, Qm, reduceIte, Nat.reduceEqDiff]; exact ⟨by repeat' (first | exact trivial | refine ⟨.inr rfl, ?_⟩), by repeat' (first | exact trivial | refine ⟨rfl, ?_⟩), by first | rfl | simp [closedB, Qd, Qb, Qc, dom, Qa, *], by first | rfl | simp [keepB, dom]⟩) ?_ ?_
         · exact ⟨by omega, Q5 hi.2 ⟨o1.1, o1.2.1, o1.2.2, o2, fun k' h1 => hk.2 k' (by omega)⟩⟩
         · omega)
  · exact ⟨own, ⟨by omega, fun j hj => hi.2 j (by omega)⟩, seen⟩
end
end Go.Ve

namespace Go.Ve
noncomputable section
open Go.Proofs
set_option maxRecDepth 100000
theorem Qov {α : Type} [Inhabited α] {R : α → α → Prop} (tr : ∀ a b c, R a b → R b c → R a c) {l : List α} (h : ∀ i, 0 < i → i < l.length → R (l.getD (i - 1) default) (l.getD i default)) : l.Pairwise R := by
  have key : ∀ j i, i < j → j < l.length → R (l.getD i default) (l.getD j default) := by
    intro j
    induction j with
    | zero => intro i h1; omega
    | succ j ih =>
      intro i h1 h2
      have h3 := h (j + 1) (by omega) h2
      simp only [Nat.add_sub_cancel] at h3
      by_cases e : i = j
      · subst e; exact h3
      · exact tr _ _ _ (ih i (by omega) (by omega)) h3
  rw [List.pairwise_iff_getElem]
  intro i j hi hj hij
  have := key j i hij hj
  simpa [hi, hj] using this
theorem Qly : ∀ {a b : List ByteArray}, a.Pairwise (· ≠ ·) → (∀ x ∈ a, x ∈ b) → a.length ≤ b.length
  | [], _, _, _ => Nat.zero_le _
  | x :: a, b, ha, h => by
    obtain ⟨h1, h2⟩ := List.pairwise_cons.1 ha
    have ih := Qly (b := b.filter fun y => decide (¬ y = x)) h2 fun y hy => by
      rw [List.mem_filter]
      exact ⟨h y (by simp [hy]), by simpa using (h1 y hy).symm⟩
    have hx : x ∈ b := h x (by simp)
    have : (b.filter fun y => decide (¬ y = x)).length < b.length := by
      refine List.length_filter_lt_length_iff_exists.2 ⟨x, hx, by simp⟩
    simp only [List.length_cons]; omega
theorem Qtg {wh gr : List ByteArray} (h : ∀ i, i < gr.length → Qnh wh gr i) : gr.Pairwise (· ≠ ·) :=
  (Qov (R := slt) (fun _ _ _ => Qcd) fun i h0 hi => (h i hi).2 h0).imp fun {a b} (h : slt a b) (e : a = b) => by subst e; exact Vz _ h
theorem Qsg {zs : List Zone} (h : Q3 zs) : zs.Pairwise fun a b => slt a.nm b.nm :=
  Qov (R := fun a b : Zone => slt a.nm b.nm) (fun _ _ _ => Qcd) fun i h0 hi => (h.2 i hi).2.1 h0
theorem Qth {zs : List Zone} (h : Q3 zs) (tu : List Box6) : (XI zs tu).Pairwise (· ≠ ·) := by
  unfold XI
  rw [List.pairwise_map]
  exact ((Qsg h).filter _).imp fun {a b} (h : slt a.nm b.nm) (e : a.nm = b.nm) => by rw [e] at h; exact Vz _ h
theorem Qrl {wh gr : List ByteArray} (h : ∀ i, i < gr.length → Qnh wh gr i) : ∀ x ∈ gr, x ∈ wh := by
  intro x hx
  obtain ⟨i, hi, rfl⟩ := List.mem_iff_getElem.1 hx
  have := (h i hi).1
  simpa [hi] using this
theorem Qow {gr wh : List ByteArray} : Qhu gr wh ↔ ∀ x ∈ wh, x ∈ gr := by
  unfold Qhu
  constructor
  · intro h x hx
    obtain ⟨i, hi, rfl⟩ := List.mem_iff_getElem.1 hx
    have := h i hi
    simpa [hi] using this
  · intro h i hi
    exact h _ (by simp [hi])
theorem Qti {wh gr : List ByteArray} (hw : wh.Pairwise (· ≠ ·)) (h : ∀ i, i < gr.length → Qnh wh gr i) : gr.length = wh.length ↔ Qhu gr wh := by
  have h1 := Qly (Qtg h) (Qrl h)
  rw [Qow]
  constructor
  · intro e x hx
    refine Classical.byContradiction fun hn => ?_
    have := Qly (a := x :: gr) (b := wh) (List.pairwise_cons.2 ⟨fun y hy e => hn (e ▸ hy), Qtg h⟩) (fun y hy => by
      rcases List.mem_cons.1 hy with rfl | hy
      · exact hx
      · exact Qrl h y hy)
    simp only [List.length_cons] at this; omega
  · intro k
    have := Qly hw k
    omega
instance (zs : List Zone) (o : Own) : Decidable (QgE zs o) := Classical.propDecidable _
theorem Qsh (t t' : Nat) (zs : List Zone) (n : Int) (tu : List Box6) (hq : Q3 zs) (hz : zs.length ≤ 4611686018427387904) (hl : tu.length ≤ 4611686018427387904) : Contract P 134 [.sl t 5 (zs.map Zone.row), .int .i64 n, .sl t' 6 (tu.map Box6.row)] [] (.bool (decide (QaJ zs n tu))) [] := by
  refine Qg ((Env.nil P).add 65 JU QcK) hm Qfj (nlb rfl) rfl ?_; unfold WQ; simp (maxSteps := 2000000) only [bitvec_to_nat, reduceIte, Nat.reduceEqDiff, Nat.reduceAdd, Nat.reduceLeDiff, reduceCtorEq, Nat.reduceBEq, Nat.reduceLT, Nat.reduceMod, fmc, JU, int_toBitVec_meta, Own.row, Qy, Seen.row, Qo, Part.row, Qp, Book.row]
  refine ⟨fun h => ?_, fun h => ⟨⟨hz, hl⟩, ?_⟩⟩
  · rw [decide_eq_decide]; unfold QaJ; constructor
    · intro h2; exact ⟨fun _ => by omega, fun h3 => absurd h h3⟩
    · intro h2; have := h2.1 h; omega
  · rw [decide_eq_decide]; unfold QaJ; grind
def YX : List AV → Option (Prop × AV)
  | [.sl zst 5 zsx, .int .i64 n, .sl tut 6 tux] => some ((((zsx.map Qx).map Zone.row = zsx) ∧ ((tux.map Qz).map Box6.row = tux)) ∧ (Q3 (zsx.map Qx) ∧ (zsx.map Qx).length ≤ 4611686018427387904 ∧ (tux.map Qz).length ≤ 4611686018427387904), .bool (decide (QaJ (zsx.map Qx) n (tux.map Qz))))
  | _ => none
theorem Qit : ∀ args p v, YX args = some (p, v) → p → Contract P 134 args [] v [] ∧ noref v = true ∧ No99 v := by
  intro args p v h1 h2
  unfold YX at h1
  split at h1
  · rename_i zst zsx n tut tux
    cases h1
    obtain ⟨⟨e0, e1⟩, HP⟩ := h2
    have := Qsh zst tut (zsx.map Qx) n (tux.map Qz) HP.1 HP.2.1 HP.2.2
    exact ⟨by simpa only [e0, e1] using this, rfl, trivial⟩
  · cases h1
set_option maxHeartbeats 400000 in
theorem W1 (o : Own) (wh : List ByteArray) (i k : Nat) (c : Bool) {w23 : AV} {Q : XT → St → Prop} (hi : i < o.gr.length) (hk : k < wh.length) (hQ : ∀ bv : Bool, (bv = true ↔ (c = true ∨ wh.getD k default = o.gr.getD i default)) → Q .normal ⟨[(3, .ptr 103 0), (5, .sl 0 1 (wh.map Jw)), (6, .int .i64 i), (7, .bool bv), (8, .int .i64 k)], [(103, .box [.str o.fl, .int .i64 o.st, .int .i64 o.tn, .str o.dst, .int .i64 o.la, .int .i64 o.nr, .sl 0 6 (o.tu.map Box6.row), .int .i64 o.wi, .sl 0 6 (o.nx.map Box6.row), .sl 0 1 (o.gr.map Jw), .bool o.sent])]⟩) : SCode.wp ((Env.nil P).add 81 X8 Qlx) Yh Q ⟨[(3, .ptr 103 0), (5, .sl 0 1 (wh.map Jw)), (6, .int .i64 i), (7, .bool c), (8, .int .i64 k), (23, w23)], [(103, .box [.str o.fl, .int .i64 o.st, .int .i64 o.tn, .str o.dst, .int .i64 o.la, .int .i64 o.nr, .sl 0 6 (o.tu.map Box6.row), .int .i64 o.wi, .sl 0 6 (o.nx.map Box6.row), .sl 0 1 (o.gr.map Jw), .bool o.sent])]⟩ := by
  cases c
  all_goals (unfold Yh; simp (maxSteps := 2000000) only [bitvec_to_nat, reduceIte, Nat.reduceEqDiff, Nat.reduceAdd, Nat.reduceLeDiff, reduceCtorEq, Nat.reduceBEq, Nat.reduceLT, Nat.reduceMod, fmc, X8, int_toBitVec_meta, Own.row, Qy, Seen.row, Qo, Part.row, Qp, Book.row])
  repeat' (first | with_reducible apply And.intro | with_reducible intro _)
  all_goals first
    | omega
    | (refine hQ _ ?_
       first
         | grind []
         | (simp; grind []))
    | grind []
set_option maxHeartbeats 400000 in
theorem W2 (o : Own) (wh : List ByteArray) (i k : Nat) (c : Bool) {w23 : AV} {Q : XT → St → Prop} (hi : i < o.gr.length) (hl : o.gr.length ≤ 1048576) (hQ : ∀ bv : Bool, (bv = true ↔ ¬ (c = true ∧ (0 < i → slt (o.gr.getD (i - 1) default) (o.gr.getD i default)))) → Q .normal ⟨[(3, .ptr 103 0), (5, .sl 0 1 (wh.map Jw)), (6, .int .i64 i), (58, .bool bv)], [(103, .box [.str o.fl, .int .i64 o.st, .int .i64 o.tn, .str o.dst, .int .i64 o.la, .int .i64 o.nr, .sl 0 6 (o.tu.map Box6.row), .int .i64 o.wi, .sl 0 6 (o.nx.map Box6.row), .sl 0 1 (o.gr.map Jw), .bool o.sent])]⟩) : SCode.wp ((Env.nil P).add 81 X8 Qlx) Yi Q ⟨[(3, .ptr 103 0), (5, .sl 0 1 (wh.map Jw)), (6, .int .i64 i), (7, .bool c), (8, .int .i64 k), (23, w23)], [(103, .box [.str o.fl, .int .i64 o.st, .int .i64 o.tn, .str o.dst, .int .i64 o.la, .int .i64 o.nr, .sl 0 6 (o.tu.map Box6.row), .int .i64 o.wi, .sl 0 6 (o.nx.map Box6.row), .sl 0 1 (o.gr.map Jw), .bool o.sent])]⟩ := by
  cases c
  all_goals (unfold Yi; simp (maxSteps := 2000000) only [bitvec_to_nat, reduceIte, Nat.reduceEqDiff, Nat.reduceAdd, Nat.reduceLeDiff, reduceCtorEq, Nat.reduceBEq, Nat.reduceLT, Nat.reduceMod, fmc, X8, int_toBitVec_meta, Own.row, Qy, Seen.row, Qo, Part.row, Qp, Book.row])
  repeat' (first | with_reducible apply And.intro | with_reducible intro _)
  all_goals first
    | omega
    | (refine hQ _ ?_
       first
         | grind []
         | (simp; grind []))
    | grind []
set_option maxHeartbeats 400000 in
theorem W3 (o : Own) (wh : List ByteArray) (i k : Nat) (c : Bool) {w17 : AV} {Q : XT → St → Prop}  (hQ : ∀ bv : Bool, (bv = true ↔ (o.sent = true ↔ 0 < o.wi ∧ o.gr.length = wh.length)) → Q .normal ⟨[(4, .bool bv)], [(103, .box [.str o.fl, .int .i64 o.st, .int .i64 o.tn, .str o.dst, .int .i64 o.la, .int .i64 o.nr, .sl 0 6 (o.tu.map Box6.row), .int .i64 o.wi, .sl 0 6 (o.nx.map Box6.row), .sl 0 1 (o.gr.map Jw), .bool o.sent])]⟩) : SCode.wp ((Env.nil P).add 81 X8 Qlx) Yj Q ⟨[(3, .ptr 103 0), (5, .sl 0 1 (wh.map Jw)), (6, .int .i64 i), (17, w17)], [(103, .box [.str o.fl, .int .i64 o.st, .int .i64 o.tn, .str o.dst, .int .i64 o.la, .int .i64 o.nr, .sl 0 6 (o.tu.map Box6.row), .int .i64 o.wi, .sl 0 6 (o.nx.map Box6.row), .sl 0 1 (o.gr.map Jw), .bool o.sent])]⟩ := by
  all_goals (unfold Yj; simp (maxSteps := 2000000) only [bitvec_to_nat, reduceIte, Nat.reduceEqDiff, Nat.reduceAdd, Nat.reduceLeDiff, reduceCtorEq, Nat.reduceBEq, Nat.reduceLT, Nat.reduceMod, fmc, X8, int_toBitVec_meta, Own.row, Qy, Seen.row, Qo, Part.row, Qp, Book.row])
  repeat' (first | with_reducible apply And.intro | with_reducible intro _)
  all_goals first
    | omega
    | (refine hQ _ ?_
       first
         | grind []
         | (simp; grind []))
    | grind []
theorem QmW (t : Nat) (zs : List Zone) (o : Own) (hq : Q3 zs) (ho : o.small) (hz : zs.length ≤ 4294967295) : Contract P 135 [.sl t 5 (zs.map Zone.row), .agg (o.row 0)] [] (.bool (decide (QgE zs o))) [] := by
  unfold Own.small at ho
  have hw := Qou zs o.nx
  simp only [Own.row]
  refine Qg ((Env.nil P).add 81 X8 Qlx) hm QbW (nlb rfl) rfl ?_; unfold ZT; simp (maxSteps := 2000000) only [bitvec_to_nat, reduceIte, Nat.reduceEqDiff, Nat.reduceAdd, Nat.reduceLeDiff, reduceCtorEq, Nat.reduceBEq, Nat.reduceLT, Nat.reduceMod, fmc, X8, int_toBitVec_meta, Own.row, Qy, Seen.row, Qo, Part.row, Qp, Book.row]
  refine ⟨⟨hz, by omega⟩, ?_⟩
  refine QE (fun i : Nat => [(6, .int .i64 i)]) (fun _ => []) (fun i => i ≤ o.gr.length ∧ ∀ j, j < i → Qnh (XI zs o.nx) o.gr j) (fun i => o.gr.length - i) (0) (by simp only [Jr, Js, Jt, Ju, Qj, Qk, Ql, Qm, reduceIte, Nat.reduceEqDiff]; exact ⟨by repeat' (first | exact trivial | refine ⟨.inr rfl, ?_⟩), by repeat' (first | exact trivial | refine ⟨rfl, ?_⟩), by first | rfl | simp [closedB, Qd, Qb, Qc, dom, Qa, *], by first | rfl | simp [keepB, dom]⟩) ?_ ?_
  · exact ⟨Nat.zero_le _, by intro j hj; omega⟩
  intro i hi NX hN
  unfold Xz; simp (maxSteps := 2000000) only [bitvec_to_nat, reduceIte, Nat.reduceEqDiff, Nat.reduceAdd, Nat.reduceLeDiff, reduceCtorEq, Nat.reduceBEq, Nat.reduceLT, Nat.reduceMod, fmc, X8, int_toBitVec_meta, Own.row, Qy, Seen.row, Qo, Part.row, Qp, Book.row]
  refine ⟨fun g1 => ?_, fun g1 => ?_⟩
  · refine QE (fun a : Nat × Bool => [(7, .bool a.2), (8, .int .i64 a.1)]) (fun _ => []) (fun a => a.1 ≤ (XI zs o.nx).length ∧ (a.2 = true ↔ ∃ k, k < a.1 ∧ (XI zs o.nx).getD k default = o.gr.getD i default)) (fun a => (XI zs o.nx).length - a.1) ((0, false)) (by simp only [Jr, Js, Jt, Ju, Qj, Qk, Ql, Qm, reduceIte, Nat.reduceEqDiff]; exact ⟨by repeat' (first | exact trivial | refine ⟨.inr rfl, ?_⟩), by repeat' (first | exact trivial | refine ⟨rfl, ?_⟩), by first | rfl | simp [closedB, Qd, Qb, Qc, dom, Qa, *], by first | rfl | simp [keepB, dom]⟩) ?_ ?_
    · exact ⟨Nat.zero_le _, by simp⟩
    rintro ⟨k, c⟩ hk NX2 hN2
    unfold Xy; simp (maxSteps := 2000000) only [bitvec_to_nat, reduceIte, Nat.reduceEqDiff, Nat.reduceAdd, Nat.reduceLeDiff, reduceCtorEq, Nat.reduceBEq, Nat.reduceLT, Nat.reduceMod, fmc, X8, int_toBitVec_meta, Own.row, Qy, Seen.row, Qo, Part.row, Qp, Book.row]
    simp only at hk
    refine ⟨fun g2 => ?_, fun g2 => ?_⟩
    · refine W1 o (XI zs o.nx) i k c (by omega) (by omega) fun bv hbv => ?_
      simp (maxSteps := 2000000) only [bitvec_to_nat, reduceIte, Nat.reduceEqDiff, Nat.reduceAdd, Nat.reduceLeDiff, reduceCtorEq, Nat.reduceBEq, Nat.reduceLT, Nat.reduceMod, fmc, X8, int_toBitVec_meta, Own.row, Qy, Seen.row, Qo, Part.row, Qp, Book.row]
      refine ⟨by omega, ?_⟩
      refine hN2 ((k + 1, bv)) _ (by simp only [Jr, Js, Jt, Ju, Qj, Qk, Ql, Qm, reduceIte, Nat.reduceEqDiff]; exact ⟨by repeat' (first | exact trivial | refine ⟨.inr rfl, ?_⟩), by repeat' (first | exact trivial | refine ⟨rfl, ?_⟩), by first | rfl | simp [closedB, Qd, Qb, Qc, dom, Qa, *], by first | rfl | simp [keepB, dom]⟩) ?_ ?_
      · refine ⟨by simp only; omega, ?_⟩
        rw [hbv, hk.2]
        constructor
        · rintro (⟨j, h1, h2⟩ | h)
          · exact ⟨j, by simp only; omega, h2⟩
          · exact ⟨k, by simp only; omega, h⟩
        · rintro ⟨j, h1, h2⟩
          simp only at h1
          by_cases e : j = k
          · subst e; exact .inr h2
          · exact .inl ⟨j, by omega, h2⟩
      · simp only; omega
    · have hc : c = true ↔ o.gr.getD i default ∈ XI zs o.nx := by
        rw [hk.2]
        constructor
        · rintro ⟨j, h1, h2⟩
          rw [← h2]
          have h3 : j < (XI zs o.nx).length := by omega
          rw [List.getD_eq_getElem?_getD, List.getElem?_eq_getElem h3]; simp
        · intro h
          obtain ⟨j, h1, h2⟩ := List.mem_iff_getElem.1 h
          exact ⟨j, by omega, by simp [h1, h2]⟩
      refine W2 o (XI zs o.nx) i k c (by omega) (by omega) fun bv hbv => ?_
      rw [hc] at hbv
      cases bv
      case true =>
        simp (maxSteps := 2000000) only [bitvec_to_nat, reduceIte, Nat.reduceEqDiff, Nat.reduceAdd, Nat.reduceLeDiff, reduceCtorEq, Nat.reduceBEq, Nat.reduceLT, Nat.reduceMod, fmc, X8, int_toBitVec_meta, Own.row, Qy, Seen.row, Qo, Part.row, Qp, Book.row]
        exact fun hq => (hbv.1 rfl) (hq.1 i (by omega))
      have o1 : Qnh (XI zs o.nx) o.gr i := Classical.not_not.1 fun h => Bool.noConfusion (hbv.2 h)
      simp (maxSteps := 2000000) only [bitvec_to_nat, reduceIte, Nat.reduceEqDiff, Nat.reduceAdd, Nat.reduceLeDiff, reduceCtorEq, Nat.reduceBEq, Nat.reduceLT, Nat.reduceMod, fmc, X8, int_toBitVec_meta, Own.row, Qy, Seen.row, Qo, Part.row, Qp, Book.row]
      refine ⟨by omega, ?_⟩
      refine hN (i + 1) _ (by simp only [Jr, Js, Jt, Ju, Qj, Qk, Ql, Qm, reduceIte, Nat.reduceEqDiff]; exact ⟨by repeat' (first | exact trivial | refine ⟨.inr rfl, ?_⟩), by repeat' (first | exact trivial | refine ⟨rfl, ?_⟩), by first | rfl | simp [closedB, Qd, Qb, Qc, dom, Qa, *], by first | rfl | simp [keepB, dom]⟩) ?_ ?_
      · exact ⟨by omega, Q5 hi.2 o1⟩
      · omega
  · have hall : ∀ j, j < o.gr.length → Qnh (XI zs o.nx) o.gr j := fun j hj => hi.2 j (by omega)
    refine W3 o (XI zs o.nx) i 0 false fun bv hbv => ?_
    rw [Qti (Qth hq o.nx) hall] at hbv
    simp (maxSteps := 2000000) only [bitvec_to_nat, reduceIte, Nat.reduceEqDiff, Nat.reduceAdd, Nat.reduceLeDiff, reduceCtorEq, Nat.reduceBEq, Nat.reduceLT, Nat.reduceMod, fmc, X8, int_toBitVec_meta, Own.row, Qy, Seen.row, Qo, Part.row, Qp, Book.row]
    have : (QgE zs o ↔ bv = true) := by
      rw [hbv]; unfold QgE
      exact ⟨fun h => h.2, fun h => ⟨hall, h⟩⟩
    simp [this]
def JL : List AV → Option (Prop × AV)
  | [.sl zst 5 zsx, .agg [.str o_fl, .int .i64 o_st, .int .i64 o_tn, .str o_dst, .int .i64 o_la, .int .i64 o_nr, .sl 0 6 o_tu, .int .i64 o_wi, .sl 0 6 o_nx, .sl 0 1 o_gr, .bool o_sent]] => some ((((zsx.map Qx).map Zone.row = zsx) ∧ ((o_tu.map Qz).map Box6.row = o_tu) ∧ ((o_nx.map Qz).map Box6.row = o_nx) ∧ ((o_gr.map unS).map Jw = o_gr)) ∧ (Q3 (zsx.map Qx) ∧ Own.small (Own.mk o_fl o_st o_tn o_dst o_la o_nr (o_tu.map Qz) o_wi (o_nx.map Qz) (o_gr.map unS) o_sent) ∧ (zsx.map Qx).length ≤ 4294967295), .bool (decide (QgE (zsx.map Qx) (Own.mk o_fl o_st o_tn o_dst o_la o_nr (o_tu.map Qz) o_wi (o_nx.map Qz) (o_gr.map unS) o_sent))))
  | _ => none
theorem Qbc : ∀ args p v, JL args = some (p, v) → p → Contract P 135 args [] v [] ∧ noref v = true ∧ No99 v := by
  intro args p v h1 h2
  unfold JL at h1
  split at h1
  · rename_i zst zsx o_fl o_st o_tn o_dst o_la o_nr o_tu o_wi o_nx o_gr o_sent
    cases h1
    obtain ⟨⟨e0, e1, e2, e3⟩, HP⟩ := h2
    have := QmW zst (zsx.map Qx) (Own.mk o_fl o_st o_tn o_dst o_la o_nr (o_tu.map Qz) o_wi (o_nx.map Qz) (o_gr.map unS) o_sent) HP.1 HP.2.1 HP.2.2
    exact ⟨by simpa only [e0, e1, e2, e3, Own.row] using this, rfl, trivial⟩
  · cases h1
end
end Go.Ve

namespace Go.Ve
noncomputable section
open Go.Proofs
set_option maxRecDepth 100000
set_option maxHeartbeats 400000 in
theorem QcP (t : Nat) (zs : List Zone) (o : Own) {Q : XT → St → Prop}  (hQ : ∀ bv : Bool, (bv = true ↔ ¬ WT zs o) → Q .normal ⟨[(0, .sl t 5 (zs.map Zone.row)), (3, .ptr 103 0), (54, .bool bv)], [(103, .box [.str o.fl, .int .i64 o.st, .int .i64 o.tn, .str o.dst, .int .i64 o.la, .int .i64 o.nr, .sl 0 6 (o.tu.map Box6.row), .int .i64 o.wi, .sl 0 6 (o.nx.map Box6.row), .sl 0 1 (o.gr.map Jw), .bool o.sent])]⟩) : SCode.wp ((((((Env.nil P).add 70 QB Kp).add 80 Q2 YW).add 36 J2 QcJ).add 134 YX Qit).add 135 JL Qbc) Xc Q ⟨[(0, .sl t 5 (zs.map Zone.row)), (3, .ptr 103 0)], [(103, .box [.str o.fl, .int .i64 o.st, .int .i64 o.tn, .str o.dst, .int .i64 o.la, .int .i64 o.nr, .sl 0 6 (o.tu.map Box6.row), .int .i64 o.wi, .sl 0 6 (o.nx.map Box6.row), .sl 0 1 (o.gr.map Jw), .bool o.sent])]⟩ := by
  all_goals (unfold Xc; simp (maxSteps := 2000000) only [bitvec_to_nat, reduceIte, Nat.reduceEqDiff, Nat.reduceAdd, Nat.reduceLeDiff, reduceCtorEq, Nat.reduceBEq, Nat.reduceLT, Nat.reduceMod, fmc, QB, Q2, J2, YX, JL, int_toBitVec_meta, Own.row, Qy, Seen.row, Qo, Part.row, Qp, Book.row])
  repeat' (first | with_reducible apply And.intro | with_reducible intro _)
  all_goals first
    | omega
    | (refine hQ _ ?_
       first
         | grind [WT]
         | (simp; grind [WT]))
    | grind [WT]
set_option maxHeartbeats 400000 in
theorem QcQ (t : Nat) (zs : List Zone) (o : Own) {w54 : AV} {Q : XT → St → Prop} (hz : zs.length ≤ 4294967295) (hw : 0 ≤ o.wi) (hQ : ∀ bv : Bool, (bv = true ↔ ¬ ((o.st = 1 ↔ o.dst = ⟨#[]⟩) ∧ (o.st ≠ 1 → 0 ≤ zAt zs o.dst) ∧ (o.st ≠ 1 → o.wi = 0) ∧ (o.st = 2 → o.nr ≠ 0))) → Q .normal ⟨[(0, .sl t 5 (zs.map Zone.row)), (3, .ptr 103 0), (93, .bool bv)], [(103, .box [.str o.fl, .int .i64 o.st, .int .i64 o.tn, .str o.dst, .int .i64 o.la, .int .i64 o.nr, .sl 0 6 (o.tu.map Box6.row), .int .i64 o.wi, .sl 0 6 (o.nx.map Box6.row), .sl 0 1 (o.gr.map Jw), .bool o.sent])]⟩) : SCode.wp ((((((Env.nil P).add 70 QB Kp).add 80 Q2 YW).add 36 J2 QcJ).add 134 YX Qit).add 135 JL Qbc) Xd Q ⟨[(0, .sl t 5 (zs.map Zone.row)), (3, .ptr 103 0), (54, w54)], [(103, .box [.str o.fl, .int .i64 o.st, .int .i64 o.tn, .str o.dst, .int .i64 o.la, .int .i64 o.nr, .sl 0 6 (o.tu.map Box6.row), .int .i64 o.wi, .sl 0 6 (o.nx.map Box6.row), .sl 0 1 (o.gr.map Jw), .bool o.sent])]⟩ := by
  all_goals (unfold Xd; simp (maxSteps := 2000000) only [bitvec_to_nat, reduceIte, Nat.reduceEqDiff, Nat.reduceAdd, Nat.reduceLeDiff, reduceCtorEq, Nat.reduceBEq, Nat.reduceLT, Nat.reduceMod, fmc, QB, Q2, J2, YX, JL, int_toBitVec_meta, Own.row, Qy, Seen.row, Qo, Part.row, Qp, Book.row])
  repeat' (first | with_reducible apply And.intro | with_reducible intro _)
  all_goals first
    | omega
    | (refine hQ _ ?_
       first
         | grind []
         | (simp; grind []))
    | grind []
set_option maxHeartbeats 400000 in
theorem QcR (t : Nat) (zs : List Zone) (o : Own) {w93 : AV} {Q : XT → St → Prop} (hq : Q3 zs) (hz : zs.length ≤ 4294967295) (h1 : o.tu.length ≤ 1048576) (h2 : o.nx.length ≤ 1048576) (h3 : o.small) (hQ : ∀ bv : Bool, (bv = true ↔ (QcN zs o ∧ QgE zs o)) → Q .normal ⟨[(4, .bool bv)], [(103, .box [.str o.fl, .int .i64 o.st, .int .i64 o.tn, .str o.dst, .int .i64 o.la, .int .i64 o.nr, .sl 0 6 (o.tu.map Box6.row), .int .i64 o.wi, .sl 0 6 (o.nx.map Box6.row), .sl 0 1 (o.gr.map Jw), .bool o.sent])]⟩) : SCode.wp ((((((Env.nil P).add 70 QB Kp).add 80 Q2 YW).add 36 J2 QcJ).add 134 YX Qit).add 135 JL Qbc) Xe Q ⟨[(0, .sl t 5 (zs.map Zone.row)), (3, .ptr 103 0), (93, w93)], [(103, .box [.str o.fl, .int .i64 o.st, .int .i64 o.tn, .str o.dst, .int .i64 o.la, .int .i64 o.nr, .sl 0 6 (o.tu.map Box6.row), .int .i64 o.wi, .sl 0 6 (o.nx.map Box6.row), .sl 0 1 (o.gr.map Jw), .bool o.sent])]⟩ := by
  all_goals (unfold Xe; simp (maxSteps := 2000000) only [bitvec_to_nat, reduceIte, Nat.reduceEqDiff, Nat.reduceAdd, Nat.reduceLeDiff, reduceCtorEq, Nat.reduceBEq, Nat.reduceLT, Nat.reduceMod, fmc, QB, Q2, J2, YX, JL, int_toBitVec_meta, Own.row, Qy, Seen.row, Qo, Part.row, Qp, Book.row])
  repeat' (first | with_reducible apply And.intro | with_reducible intro _)
  all_goals first
    | omega
    | (refine hQ _ ?_
       first
         | grind [QcN]
         | (simp; grind [QcN]))
    | grind [QcN]
theorem Qqb (t : Nat) (zs : List Zone) (o : Own) (hq : Q3 zs) (ho : o.small) (hz : zs.length ≤ 4294967295) : Contract P 106 [.sl t 5 (zs.map Zone.row), .agg (o.row 0)] [] (.bool (decide (QmV zs o))) [] := by
  have ho' := ho
  unfold Own.small at ho
  simp only [Own.row]
  refine Qg ((((((Env.nil P).add 70 QB Kp).add 80 Q2 YW).add 36 J2 QcJ).add 134 YX Qit).add 135 JL Qbc) hm Qgo (nlb rfl) rfl ?_; unfold Qas; simp (maxSteps := 2000000) only [bitvec_to_nat, reduceIte, Nat.reduceEqDiff, Nat.reduceAdd, Nat.reduceLeDiff, reduceCtorEq, Nat.reduceBEq, Nat.reduceLT, Nat.reduceMod, fmc, QB, Q2, J2, YX, JL, int_toBitVec_meta, Own.row, Qy, Seen.row, Qo, Part.row, Qp, Book.row]
  refine QcP t zs o fun bv hbv => ?_
  cases bv
  case true =>
    simp (maxSteps := 2000000) only [bitvec_to_nat, reduceIte, Nat.reduceEqDiff, Nat.reduceAdd, Nat.reduceLeDiff, reduceCtorEq, Nat.reduceBEq, Nat.reduceLT, Nat.reduceMod, fmc, QB, Q2, J2, YX, JL, int_toBitVec_meta, Own.row, Qy, Seen.row, Qo, Part.row, Qp, Book.row]
    exact fun h => (hbv.1 rfl) h.1
  have o1 := Classical.not_not.1 fun h => Bool.noConfusion (hbv.2 h)
  simp (maxSteps := 2000000) only [bitvec_to_nat, reduceIte, Nat.reduceEqDiff, Nat.reduceAdd, Nat.reduceLeDiff, reduceCtorEq, Nat.reduceBEq, Nat.reduceLT, Nat.reduceMod, fmc, QB, Q2, J2, YX, JL, int_toBitVec_meta, Own.row, Qy, Seen.row, Qo, Part.row, Qp, Book.row]
  refine QcQ t zs o hz (by unfold WT at o1; omega) fun bv hbv => ?_
  cases bv
  case true =>
    simp (maxSteps := 2000000) only [bitvec_to_nat, reduceIte, Nat.reduceEqDiff, Nat.reduceAdd, Nat.reduceLeDiff, reduceCtorEq, Nat.reduceBEq, Nat.reduceLT, Nat.reduceMod, fmc, QB, Q2, J2, YX, JL, int_toBitVec_meta, Own.row, Qy, Seen.row, Qo, Part.row, Qp, Book.row]
    exact fun h => (hbv.1 rfl) h.2.1
  have o2 : Qrj zs o := Classical.not_not.1 fun h => Bool.noConfusion (hbv.2 h)
  simp (maxSteps := 2000000) only [bitvec_to_nat, reduceIte, Nat.reduceEqDiff, Nat.reduceAdd, Nat.reduceLeDiff, reduceCtorEq, Nat.reduceBEq, Nat.reduceLT, Nat.reduceMod, fmc, QB, Q2, J2, YX, JL, int_toBitVec_meta, Own.row, Qy, Seen.row, Qo, Part.row, Qp, Book.row]
  refine QcR t zs o hq hz ho.1 ho.2.1 ho' fun bv hbv => ?_
  simp (maxSteps := 2000000) only [bitvec_to_nat, reduceIte, Nat.reduceEqDiff, Nat.reduceAdd, Nat.reduceLeDiff, reduceCtorEq, Nat.reduceBEq, Nat.reduceLT, Nat.reduceMod, fmc, QB, Q2, J2, YX, JL, int_toBitVec_meta, Own.row, Qy, Seen.row, Qo, Part.row, Qp, Book.row]
  have : QmV zs o ↔ bv = true := by rw [hbv]; exact ⟨fun h => h.2.2, fun h => ⟨o1, o2, h⟩⟩
  simp [this]
def QcS : List AV → Option (Prop × AV)
  | [.sl zst 5 zsx, .agg [.str o_fl, .int .i64 o_st, .int .i64 o_tn, .str o_dst, .int .i64 o_la, .int .i64 o_nr, .sl 0 6 o_tu, .int .i64 o_wi, .sl 0 6 o_nx, .sl 0 1 o_gr, .bool o_sent]] => some ((((zsx.map Qx).map Zone.row = zsx) ∧ ((o_tu.map Qz).map Box6.row = o_tu) ∧ ((o_nx.map Qz).map Box6.row = o_nx) ∧ ((o_gr.map unS).map Jw = o_gr)) ∧ (Q3 (zsx.map Qx) ∧ Own.small (Own.mk o_fl o_st o_tn o_dst o_la o_nr (o_tu.map Qz) o_wi (o_nx.map Qz) (o_gr.map unS) o_sent) ∧ (zsx.map Qx).length ≤ 4294967295), .bool (decide (QmV (zsx.map Qx) (Own.mk o_fl o_st o_tn o_dst o_la o_nr (o_tu.map Qz) o_wi (o_nx.map Qz) (o_gr.map unS) o_sent))))
  | _ => none
theorem Qqc : ∀ args p v, QcS args = some (p, v) → p → Contract P 106 args [] v [] ∧ noref v = true ∧ No99 v := by
  intro args p v h1 h2
  unfold QcS at h1
  split at h1
  · rename_i zst zsx o_fl o_st o_tn o_dst o_la o_nr o_tu o_wi o_nx o_gr o_sent
    cases h1
    obtain ⟨⟨e0, e1, e2, e3⟩, HP⟩ := h2
    have := Qqb zst (zsx.map Qx) (Own.mk o_fl o_st o_tn o_dst o_la o_nr (o_tu.map Qz) o_wi (o_nx.map Qz) (o_gr.map unS) o_sent) HP.1 HP.2.1 HP.2.2
    exact ⟨by simpa only [e0, e1, e2, e3, Own.row] using this, rfl, trivial⟩
  · cases h1
theorem Qox (t : Nat) (zs : List Zone) (b : Book) (hq : Q3 zs) (hb : b.small) (hz : zs.length ≤ 4294967295) : Contract P 78 [.sl t 5 (zs.map Zone.row), .agg (b.row 0)] [] (.bool (decide (QhT zs b.own))) [] := by
  have hb1 := hb.1.1
  simp only [Book.row]
  refine Qg ((Env.nil P).add 106 QcS Qqc) hm Qfc (nlb rfl) rfl ?_; unfold WF; simp (maxSteps := 2000000) only [bitvec_to_nat, reduceIte, Nat.reduceEqDiff, Nat.reduceAdd, Nat.reduceLeDiff, reduceCtorEq, Nat.reduceBEq, Nat.reduceLT, Nat.reduceMod, fmc, QcS, int_toBitVec_meta, Own.row, Qy, Seen.row, Qo, Part.row, Qp, Book.row]
  refine ⟨fun h1 h => by have := h.1; omega, fun h1 => ?_⟩
  · refine QE (fun i : Nat => [(5, .int .i64 i)]) (fun _ => []) (fun i => i ≤ b.own.length ∧ ∀ j, j < i → QkA zs b.own j) (fun i => b.own.length - i) (0) (by simp only [Jr, Js, Jt, Ju, Qj, Qk, Ql, Qm, reduceIte, Nat.reduceEqDiff]; exact ⟨by repeat' (first | exact trivial | refine ⟨.inr rfl, ?_⟩), by repeat' (first | exact trivial | refine ⟨rfl, ?_⟩), by first | rfl | simp [closedB, Qd, Qb, Qc, dom, Qa, *], by first | rfl | simp [keepB, dom]⟩) ?_ ?_
    · exact ⟨Nat.zero_le _, by intro j hj; omega⟩
    intro i hi NX hN
    unfold Up; simp (maxSteps := 2000000) only [bitvec_to_nat, reduceIte, Nat.reduceEqDiff, Nat.reduceAdd, Nat.reduceLeDiff, reduceCtorEq, Nat.reduceBEq, Nat.reduceLT, Nat.reduceMod, fmc, QcS, int_toBitVec_meta, Own.row, Qy, Seen.row, Qo, Part.row, Qp, Book.row]
    have hs : i < b.own.length → (b.own.getD i default).small := fun h => Book.small_own hb h
    have A : QhT zs b.own → i < b.own.length → QkA zs b.own i := fun h h2 => h.2 i h2
    unfold QkA at A
    repeat' (first | with_reducible apply And.intro | with_reducible intro _)
    all_goals first
      | with_reducible assumption
      | omega
      | (exact hs (by omega))
      | (refine hN (i + 1) _ (by simp only [Jr, Js, Jt, Ju, Qj, Qk, Ql, Qm, reduceIte, Nat.reduceEqDiff]; exact ⟨by repeat' (first | exact trivial | refine ⟨.inr rfl, ?_⟩), by repeat' (first | exact trivial | refine ⟨rfl, ?_⟩), by first | rfl | simp [closedB, Qd, Qb, Qc, dom, Qa, *], by first | rfl | simp [keepB, dom]⟩) ?_ ?_
         · exact ⟨by omega, Q5 hi.2 ⟨by assumption, fun _ => by first | assumption | omega⟩⟩
         · omega)
      | (intro hq2; have := A hq2 (by omega); grind)
      | exact ⟨by omega, fun j hj => hi.2 j (by omega)⟩
def QaL : List AV → Option (Prop × AV)
  | [.sl zst 5 zsx, .agg [.sl 0 11 b_own, .sl 0 3 b_parts, .sl 0 2 b_seen]] => some ((((zsx.map Qx).map Zone.row = zsx) ∧ ((b_own.map Jm).map (Own.row 0) = b_own) ∧ ((b_parts.map QX).map (Part.row 0) = b_parts) ∧ ((b_seen.map QZ).map Seen.row = b_seen)) ∧ (Q3 (zsx.map Qx) ∧ Book.small (Book.mk (b_own.map Jm) (b_parts.map QX) (b_seen.map QZ)) ∧ (zsx.map Qx).length ≤ 4294967295), .bool (decide (QhT (zsx.map Qx) (Book.mk (b_own.map Jm) (b_parts.map QX) (b_seen.map QZ)).own)))
  | _ => none
theorem Qoy : ∀ args p v, QaL args = some (p, v) → p → Contract P 78 args [] v [] ∧ noref v = true ∧ No99 v := by
  intro args p v h1 h2
  unfold QaL at h1
  split at h1
  · rename_i zst zsx b_own b_parts b_seen
    cases h1
    obtain ⟨⟨e0, e1, e2, e3⟩, HP⟩ := h2
    have := Qox zst (zsx.map Qx) (Book.mk (b_own.map Jm) (b_parts.map QX) (b_seen.map QZ)) HP.1 HP.2.1 HP.2.2
    exact ⟨by simpa only [e0, e1, e2, e3, Book.row] using this, rfl, trivial⟩
  · cases h1
theorem Qoz (a p : Part) (hp : True) : Contract P 108 [.agg (a.row 0), .agg (p.row 0)] [] (.bool (decide (a.before p))) [] := by
  simp only [Part.row]
  refine Qg (Env.nil P) hm Qff (nlb rfl) rfl ?_; unfold WL; simp (maxSteps := 2000000) only [bitvec_to_nat, reduceIte, Nat.reduceEqDiff, Nat.reduceAdd, Nat.reduceLeDiff, reduceCtorEq, Nat.reduceBEq, Nat.reduceLT, Nat.reduceMod, fmc, int_toBitVec_meta, Own.row, Qy, Seen.row, Qo, Part.row, Qp, Book.row]
  simp only [Part.before]
  repeat' (first | with_reducible apply And.intro | with_reducible intro _)
  all_goals first | omega | grind
def Kl : List AV → Option (Prop × AV)
  | [.agg [.str c_fl, .int .i64 c_nr, .sl 0 6 c_bx], .agg [.str d_fl, .int .i64 d_nr, .sl 0 6 d_bx]] => some ((((c_bx.map Qz).map Box6.row = c_bx) ∧ ((d_bx.map Qz).map Box6.row = d_bx)) ∧ (True), .bool (decide (Part.before (Part.mk c_fl c_nr (c_bx.map Qz)) (Part.mk d_fl d_nr (d_bx.map Qz)))))
  | _ => none
theorem QgH : ∀ args p v, Kl args = some (p, v) → p → Contract P 108 args [] v [] ∧ noref v = true ∧ No99 v := by
  intro args p v h1 h2
  unfold Kl at h1
  split at h1
  · rename_i c_fl c_nr c_bx d_fl d_nr d_bx
    cases h1
    obtain ⟨⟨e0, e1⟩, HP⟩ := h2
    have := Qoz (Part.mk c_fl c_nr (c_bx.map Qz)) (Part.mk d_fl d_nr (d_bx.map Qz)) HP
    exact ⟨by simpa only [e0, e1, Part.row, Part.row] using this, rfl, trivial⟩
  · cases h1
set_option maxHeartbeats 1000000 in
theorem Qbq (t : Nat) (zs : List Zone) (b : Book) (p : Part) (i k : Nat) {Q : XT → St → Prop} (hq : Q3 zs) (hz : zs.length ≤ 4294967295) (hs : b.seen.length ≤ 1048576) (hl : p.bx.length ≤ 1048576) (hi : i < b.parts.length) (hp : b.parts.length ≤ 1048576) (hQ : ∀ bv : Bool, (bv = true ↔ ¬ (Ga p.fl ∧ (1 ≤ p.nr ∧ p.nr ≤ QaI b.seen p.fl) ∧ tubeOk zs p.bx ∧ (0 < i → (b.parts.getD (i - 1) default).before p))) → Q .normal ⟨[(0, .sl t 5 (zs.map Zone.row)), (3, .ptr 103 0), (5, .int .i64 i), (6, .ptr 106 0), (59, .bool bv)], [(103, .box [.sl 0 11 (b.own.map (Own.row 0)), .sl 0 3 (b.parts.map (Part.row 0)), .sl 0 2 (b.seen.map Seen.row)]), (106, .box [.str p.fl, .int .i64 p.nr, .sl 0 6 (p.bx.map Box6.row)])]⟩) : SCode.wp (((((((Env.nil P).add 70 QB Kp).add 80 Q2 YW).add 65 JU QcK).add 107 Gl Qkz).add 108 Kl QgH).add 109 Gk Qkx) YU Q ⟨[(0, .sl t 5 (zs.map Zone.row)), (3, .ptr 103 0), (5, .int .i64 i), (6, .ptr 106 0)], [(103, .box [.sl 0 11 (b.own.map (Own.row 0)), .sl 0 3 (b.parts.map (Part.row 0)), .sl 0 2 (b.seen.map Seen.row)]), (106, .box [.str p.fl, .int .i64 p.nr, .sl 0 6 (p.bx.map Box6.row)])]⟩ := by
  all_goals (unfold YU; simp (maxSteps := 2000000) only [bitvec_to_nat, reduceIte, Nat.reduceEqDiff, Nat.reduceAdd, Nat.reduceLeDiff, reduceCtorEq, Nat.reduceBEq, Nat.reduceLT, Nat.reduceMod, fmc, QB, Q2, JU, Gl, Kl, Gk, int_toBitVec_meta, Own.row, Qy, Seen.row, Qo, Part.row, Qp, Book.row])
  repeat' (first | with_reducible apply And.intro | with_reducible intro _)
  all_goals first
    | omega
    | (refine hQ _ ?_
       first
         | grind []
         | (simp; grind []))
    | grind []
set_option maxHeartbeats 400000 in
theorem Qbr (t : Nat) (zs : List Zone) (b : Book) (p : Part) (i k : Nat) {w62 : AV} {Q : XT → St → Prop} (hk : k < b.parts.length) (hl : p.bx.length ≤ 1048576) (hl2 : (b.parts.getD k default).bx.length ≤ 1048576) (hQ : ∀ bv : Bool, (bv = true ↔ ((b.parts.getD k default).fl ≠ p.fl ∧ QcM (b.parts.getD k default).bx p.bx)) → Q .normal ⟨[(0, .sl t 5 (zs.map Zone.row)), (3, .ptr 103 0), (5, .int .i64 i), (6, .ptr 106 0), (7, .int .i64 k), (84, .bool bv)], [(103, .box [.sl 0 11 (b.own.map (Own.row 0)), .sl 0 3 (b.parts.map (Part.row 0)), .sl 0 2 (b.seen.map Seen.row)]), (106, .box [.str p.fl, .int .i64 p.nr, .sl 0 6 (p.bx.map Box6.row)])]⟩) : SCode.wp (((((((Env.nil P).add 70 QB Kp).add 80 Q2 YW).add 65 JU QcK).add 107 Gl Qkz).add 108 Kl QgH).add 109 Gk Qkx) YV Q ⟨[(0, .sl t 5 (zs.map Zone.row)), (3, .ptr 103 0), (5, .int .i64 i), (6, .ptr 106 0), (7, .int .i64 k), (62, w62)], [(103, .box [.sl 0 11 (b.own.map (Own.row 0)), .sl 0 3 (b.parts.map (Part.row 0)), .sl 0 2 (b.seen.map Seen.row)]), (106, .box [.str p.fl, .int .i64 p.nr, .sl 0 6 (p.bx.map Box6.row)])]⟩ := by
  all_goals (unfold YV; simp (maxSteps := 2000000) only [bitvec_to_nat, reduceIte, Nat.reduceEqDiff, Nat.reduceAdd, Nat.reduceLeDiff, reduceCtorEq, Nat.reduceBEq, Nat.reduceLT, Nat.reduceMod, fmc, QB, Q2, JU, Gl, Kl, Gk, int_toBitVec_meta, Own.row, Qy, Seen.row, Qo, Part.row, Qp, Book.row])
  repeat' (first | with_reducible apply And.intro | with_reducible intro _)
  all_goals first
    | omega
    | (refine hQ _ ?_
       first
         | grind []
         | (simp; grind []))
    | grind []
theorem QmX (t : Nat) (zs : List Zone) (b : Book) (hq : Q3 zs) (hb : b.small) (hz : zs.length ≤ 4294967295) : Contract P 79 [.sl t 5 (zs.map Zone.row), .agg (b.row 0)] [] (.bool (decide (QgG zs b))) [] := by
  have hb2 := hb.2.1.1
  have hb3 := hb.2.2
  simp only [Book.row]
  refine Qg (((((((Env.nil P).add 70 QB Kp).add 80 Q2 YW).add 65 JU QcK).add 107 Gl Qkz).add 108 Kl QgH).add 109 Gk Qkx) hm Qeo (nlb rfl) rfl ?_; unfold VY; simp (maxSteps := 2000000) only [bitvec_to_nat, reduceIte, Nat.reduceEqDiff, Nat.reduceAdd, Nat.reduceLeDiff, reduceCtorEq, Nat.reduceBEq, Nat.reduceLT, Nat.reduceMod, fmc, QB, Q2, JU, Gl, Kl, Gk, int_toBitVec_meta, Own.row, Qy, Seen.row, Qo, Part.row, Qp, Book.row]
  refine ⟨fun h1 h => by have := h.1; omega, fun h1 => ?_⟩
  · refine QE (fun i : Nat => [(5, .int .i64 i)]) (fun _ => []) (fun i => i ≤ b.parts.length ∧ ∀ j, j < i → QgF zs b j) (fun i => b.parts.length - i) (0) (by simp only [Jr, Js, Jt, Ju, Qj, Qk, Ql, Qm, reduceIte, Nat.reduceEqDiff]; exact ⟨by repeat' (first | exact trivial | refine ⟨.inr rfl, ?_⟩), by repeat' (first | exact trivial | refine ⟨rfl, ?_⟩), by first | rfl | simp [closedB, Qd, Qb, Qc, dom, Qa, *], by first | rfl | simp [keepB, dom]⟩) ?_ ?_
    · exact ⟨Nat.zero_le _, by intro j hj; omega⟩
    intro i hi NX hN
    unfold ZD; simp (maxSteps := 2000000) only [bitvec_to_nat, reduceIte, Nat.reduceEqDiff, Nat.reduceAdd, Nat.reduceLeDiff, reduceCtorEq, Nat.reduceBEq, Nat.reduceLT, Nat.reduceMod, fmc, QB, Q2, JU, Gl, Kl, Gk, int_toBitVec_meta, Own.row, Qy, Seen.row, Qo, Part.row, Qp, Book.row]
    refine ⟨fun g1 => ⟨by omega, by omega, ?_⟩, fun g1 => ?_⟩
    · have hs := Book.small_part hb (i := i) (by omega)
      have A : QgG zs b → QgF zs b i := fun h => h.2 i (by omega)
      unfold QgF at A
      refine Qbq t zs b (b.parts.getD i default) i 0 hq hz hb3 hs (by omega) hb2 fun bv hbv => ?_
      cases bv
      case true =>
        simp (maxSteps := 2000000) only [bitvec_to_nat, reduceIte, Nat.reduceEqDiff, Nat.reduceAdd, Nat.reduceLeDiff, reduceCtorEq, Nat.reduceBEq, Nat.reduceLT, Nat.reduceMod, fmc, QB, Q2, JU, Gl, Kl, Gk, int_toBitVec_meta, Own.row, Qy, Seen.row, Qo, Part.row, Qp, Book.row]
        exact fun hq => (hbv.1 rfl) ⟨(A hq).1, (A hq).2.1, (A hq).2.2.1, (A hq).2.2.2.1⟩
      have o1 := Classical.not_not.1 fun h => Bool.noConfusion (hbv.2 h)
      simp (maxSteps := 2000000) only [bitvec_to_nat, reduceIte, Nat.reduceEqDiff, Nat.reduceAdd, Nat.reduceLeDiff, reduceCtorEq, Nat.reduceBEq, Nat.reduceLT, Nat.reduceMod, fmc, QB, Q2, JU, Gl, Kl, Gk, int_toBitVec_meta, Own.row, Qy, Seen.row, Qo, Part.row, Qp, Book.row]
      refine QE (fun k : Nat => [(7, .int .i64 k)]) (fun _ => []) (fun k => k ≤ i ∧ ∀ j, j < k → (b.parts.getD j default).fl ≠ (b.parts.getD i default).fl → ¬ QcM (b.parts.getD j default).bx (b.parts.getD i default).bx) (fun k => i - k) (0) (by simp only [Jr, Js, Jt, Ju, Qj, Qk, Ql, Qm, reduceIte, Nat.reduceEqDiff]; exact ⟨by repeat' (first | exact trivial | refine ⟨.inr rfl, ?_⟩), by repeat' (first | exact trivial | refine ⟨rfl, ?_⟩), by first | rfl | simp [closedB, Qd, Qb, Qc, dom, Qa, *], by first | rfl | simp [keepB, dom]⟩) ?_ ?_
      · exact ⟨Nat.zero_le _, by intro j hj; omega⟩
      intro k hk NX2 hN2
      unfold ZC; simp (maxSteps := 2000000) only [bitvec_to_nat, reduceIte, Nat.reduceEqDiff, Nat.reduceAdd, Nat.reduceLeDiff, reduceCtorEq, Nat.reduceBEq, Nat.reduceLT, Nat.reduceMod, fmc, QB, Q2, JU, Gl, Kl, Gk, int_toBitVec_meta, Own.row, Qy, Seen.row, Qo, Part.row, Qp, Book.row]
      refine ⟨fun g2 => ?_, fun g2 => ?_⟩
      · have hs2 := Book.small_part hb (i := k) (by omega)
        refine Qbr t zs b (b.parts.getD i default) i k (by omega) hs hs2 fun bv hbv => ?_
        cases bv
        case true =>
          simp (maxSteps := 2000000) only [bitvec_to_nat, reduceIte, Nat.reduceEqDiff, Nat.reduceAdd, Nat.reduceLeDiff, reduceCtorEq, Nat.reduceBEq, Nat.reduceLT, Nat.reduceMod, fmc, QB, Q2, JU, Gl, Kl, Gk, int_toBitVec_meta, Own.row, Qy, Seen.row, Qo, Part.row, Qp, Book.row]
          exact fun hq => (A hq).2.2.2.2 k (by omega) (hbv.1 rfl).1 (hbv.1 rfl).2
        have o3 : ¬ ((b.parts.getD k default).fl ≠ (b.parts.getD i default).fl ∧ QcM (b.parts.getD k default).bx (b.parts.getD i default).bx) := by simpa using hbv
        simp (maxSteps := 2000000) only [bitvec_to_nat, reduceIte, Nat.reduceEqDiff, Nat.reduceAdd, Nat.reduceLeDiff, reduceCtorEq, Nat.reduceBEq, Nat.reduceLT, Nat.reduceMod, fmc, QB, Q2, JU, Gl, Kl, Gk, int_toBitVec_meta, Own.row, Qy, Seen.row, Qo, Part.row, Qp, Book.row]
        refine ⟨by omega, ?_⟩
        refine hN2 (k + 1) _ (by simp only [Jr, Js, Jt, Ju, Qj, Qk, Ql, Qm, reduceIte, Nat.reduceEqDiff]; exact ⟨by repeat' (first | exact trivial | refine ⟨.inr rfl, ?_⟩), by repeat' (first | exact trivial | refine ⟨rfl, ?_⟩), by first | rfl | simp [closedB, Qd, Qb, Qc, dom, Qa, *], by first | rfl | simp [keepB, dom]⟩) ?_ ?_
        · exact ⟨by omega, Q5 hk.2 fun h1 h2 => o3 ⟨h1, h2⟩⟩
        · omega
      · refine ⟨by omega, ?_⟩
        refine hN (i + 1) _ (by simp only [Jr, Js, Jt, Ju, Qj, Qk, Ql, Qm, reduceIte, Nat.reduceEqDiff]; exact ⟨by repeat' (first | exact trivial | refine ⟨.inr rfl, ?_⟩), by repeat' (first | exact trivial | refine ⟨rfl, ?_⟩), by first | rfl | simp [closedB, Qd, Qb, Qc, dom, Qa, *], by first | rfl | simp [keepB, dom]⟩) ?_ ?_
        · exact ⟨by omega, Q5 hi.2 ⟨o1.1, o1.2.1, o1.2.2.1, o1.2.2.2, fun k' h1 => hk.2 k' (by omega)⟩⟩
        · omega
    · exact ⟨by omega, fun j hj => hi.2 j (by omega)⟩
def Wa : List AV → Option (Prop × AV)
  | [.sl zst 5 zsx, .agg [.sl 0 11 b_own, .sl 0 3 b_parts, .sl 0 2 b_seen]] => some ((((zsx.map Qx).map Zone.row = zsx) ∧ ((b_own.map Jm).map (Own.row 0) = b_own) ∧ ((b_parts.map QX).map (Part.row 0) = b_parts) ∧ ((b_seen.map QZ).map Seen.row = b_seen)) ∧ (Q3 (zsx.map Qx) ∧ Book.small (Book.mk (b_own.map Jm) (b_parts.map QX) (b_seen.map QZ)) ∧ (zsx.map Qx).length ≤ 4294967295), .bool (decide (QgG (zsx.map Qx) (Book.mk (b_own.map Jm) (b_parts.map QX) (b_seen.map QZ)))))
  | _ => none
theorem QmY : ∀ args p v, Wa args = some (p, v) → p → Contract P 79 args [] v [] ∧ noref v = true ∧ No99 v := by
  intro args p v h1 h2
  unfold Wa at h1
  split at h1
  · rename_i zst zsx b_own b_parts b_seen
    cases h1
    obtain ⟨⟨e0, e1, e2, e3⟩, HP⟩ := h2
    have := QmX zst (zsx.map Qx) (Book.mk (b_own.map Jm) (b_parts.map QX) (b_seen.map QZ)) HP.1 HP.2.1 HP.2.2
    exact ⟨by simpa only [e0, e1, e2, e3, Book.row] using this, rfl, trivial⟩
  · cases h1
theorem QoA (t : Nat) (zs : List Zone) (b : Book) (hb : b.small) (hz : zs.length ≤ 4294967295) : Contract P 35 [.sl t 5 (zs.map Zone.row), .agg (b.row 0)] [] (.bool (decide (Q3 zs ∧ bookOk zs b))) [] := by
  have hb3 := hb.2.2
  simp only [Book.row]
  refine Qg ((((((Env.nil P).add 77 J0 Qev).add 78 QaL Qoy).add 79 Wa QmY).add 70 QB Kp).add 80 Q2 YW) hm Qef (nlb rfl) rfl ?_; unfold VN; simp (maxSteps := 2000000) only [bitvec_to_nat, reduceIte, Nat.reduceEqDiff, Nat.reduceAdd, Nat.reduceLeDiff, reduceCtorEq, Nat.reduceBEq, Nat.reduceLT, Nat.reduceMod, fmc, J0, QaL, Wa, QB, Q2, int_toBitVec_meta, Own.row, Qy, Seen.row, Qo, Part.row, Qp, Book.row]
  refine ⟨by omega, fun h1 => ⟨⟨h1, hb, hz⟩, fun h2 => ⟨⟨h1, hb, hz⟩, fun h3 => ⟨fun h4 h => by have := h.2.2.2.1; omega, fun h4 => ?_⟩, fun h3 h => h3 h.2.2.1⟩, fun h2 h => h2 h.2.1⟩, fun h1 h => h1 h.1⟩
  · refine QE (fun i : Nat => [(5, .int .i64 i)]) (fun _ => []) (fun i => i ≤ b.seen.length ∧ ∀ j, j < i → QcO b.seen j) (fun i => b.seen.length - i) (0) (by simp only [Jr, Js, Jt, Ju, Qj, Qk, Ql, Qm, reduceIte, Nat.reduceEqDiff]; exact ⟨by repeat' (first | exact trivial | refine ⟨.inr rfl, ?_⟩), by repeat' (first | exact trivial | refine ⟨rfl, ?_⟩), by first | rfl | simp [closedB, Qd, Qb, Qc, dom, Qa, *], by first | rfl | simp [keepB, dom]⟩) ?_ ?_
    · exact ⟨Nat.zero_le _, by intro j hj; omega⟩
    intro i hi NX hN
    unfold Zu; simp (maxSteps := 2000000) only [bitvec_to_nat, reduceIte, Nat.reduceEqDiff, Nat.reduceAdd, Nat.reduceLeDiff, reduceCtorEq, Nat.reduceBEq, Nat.reduceLT, Nat.reduceMod, fmc, J0, QaL, Wa, QB, Q2, int_toBitVec_meta, Own.row, Qy, Seen.row, Qo, Part.row, Qp, Book.row]
    have A : Q3 zs ∧ bookOk zs b → i < b.seen.length → QcO b.seen i := fun h h2 => h.2.2.2.2 i h2
    unfold QcO at A
    repeat' (first | with_reducible apply And.intro | with_reducible intro _)
    all_goals first
      | with_reducible assumption
      | omega
      | (refine hN (i + 1) _ (by simp only [Jr, Js, Jt, Ju, Qj, Qk, Ql, Qm, reduceIte, Nat.reduceEqDiff]; exact ⟨by repeat' (first | exact trivial | refine ⟨.inr rfl, ?_⟩), by repeat' (first | exact trivial | refine ⟨rfl, ?_⟩), by first | rfl | simp [closedB, Qd, Qb, Qc, dom, Qa, *], by first | rfl | simp [keepB, dom]⟩) ?_ ?_
         · exact ⟨by omega, Q5 hi.2 ⟨by assumption, by assumption, fun _ => by first | assumption | omega⟩⟩
         · omega)
      | (intro hq2; have := A hq2 (by omega); grind)
      | (exact ⟨h2, h3, by omega, fun j hj => hi.2 j (by omega)⟩)
def QcT : List AV → Option (Prop × AV)
  | [.sl zst 5 zsx, .agg [.sl 0 11 b_own, .sl 0 3 b_parts, .sl 0 2 b_seen]] => some ((((zsx.map Qx).map Zone.row = zsx) ∧ ((b_own.map Jm).map (Own.row 0) = b_own) ∧ ((b_parts.map QX).map (Part.row 0) = b_parts) ∧ ((b_seen.map QZ).map Seen.row = b_seen)) ∧ (Book.small (Book.mk (b_own.map Jm) (b_parts.map QX) (b_seen.map QZ)) ∧ (zsx.map Qx).length ≤ 4294967295), .bool (decide (Q3 (zsx.map Qx) ∧ bookOk (zsx.map Qx) (Book.mk (b_own.map Jm) (b_parts.map QX) (b_seen.map QZ)))))
  | _ => none
theorem QoB : ∀ args p v, QcT args = some (p, v) → p → Contract P 35 args [] v [] ∧ noref v = true ∧ No99 v := by
  intro args p v h1 h2
  unfold QcT at h1
  split at h1
  · rename_i zst zsx b_own b_parts b_seen
    cases h1
    obtain ⟨⟨e0, e1, e2, e3⟩, HP⟩ := h2
    have := QoA zst (zsx.map Qx) (Book.mk (b_own.map Jm) (b_parts.map QX) (b_seen.map QZ)) HP.1 HP.2
    exact ⟨by simpa only [e0, e1, e2, e3, Book.row] using this, rfl, trivial⟩
  · cases h1
def QfI : List AV → Option (Prop × AV)
  | [.sl zst 5 zsx, .agg [.sl 0 11 b_own, .sl 0 3 b_parts, .sl 0 2 b_seen]] => some ((((zsx.map Qx).map Zone.row = zsx) ∧ ((b_own.map Jm).map (Own.row 0) = b_own) ∧ ((b_parts.map QX).map (Part.row 0) = b_parts) ∧ ((b_seen.map QZ).map Seen.row = b_seen)) ∧ (Book.small (Book.mk (b_own.map Jm) (b_parts.map QX) (b_seen.map QZ)) ∧ (zsx.map Qx).length ≤ 4294967295), .bool (decide (bookOk (zsx.map Qx) (Book.mk (b_own.map Jm) (b_parts.map QX) (b_seen.map QZ)))))
  | _ => none
theorem Qqd : ∀ args p v, QfI args = some (p, v) → p → Contract P 102 args [] v [] ∧ noref v = true ∧ No99 v := by
  intro args p v h1 h2
  unfold QfI at h1
  split at h1
  · rename_i zst zsx b_own b_parts b_seen
    cases h1
    obtain ⟨⟨e0, e1, e2, e3⟩, HP⟩ := h2
    have := Qqa zst (zsx.map Qx) (Book.mk (b_own.map Jm) (b_parts.map QX) (b_seen.map QZ)) HP.2 HP.1
    exact ⟨by simpa only [e0, e1, e2, e3, Book.row] using this, rfl, trivial⟩
  · cases h1
theorem QoC (t : Nat) (zs : List Zone) (b : Book) (hb : b.small) (hz : zs.length ≤ 4294967295) : Contract P 72 [.sl t 5 (zs.map Zone.row), .agg (b.row 0)] [] (.bool (decide (Q3 zs ∧ bookOk zs b))) [] := by
  simp only [Book.row]
  refine Qg (((Env.nil P).add 101 ZU QjB).add 102 QfI Qqd) hm Qel (nlb rfl) rfl ?_; unfold VU; simp (maxSteps := 2000000) only [bitvec_to_nat, reduceIte, Nat.reduceEqDiff, Nat.reduceAdd, Nat.reduceLeDiff, reduceCtorEq, Nat.reduceBEq, Nat.reduceLT, Nat.reduceMod, fmc, ZU, QfI, int_toBitVec_meta, Own.row, Qy, Seen.row, Qo, Part.row, Qp, Book.row]
  refine ⟨by omega, fun h => ⟨⟨hb, hz⟩, ?_⟩, fun h h2 => h h2.1⟩
  rw [decide_eq_decide]
  exact ⟨fun h2 => ⟨h, h2⟩, fun h2 => h2.2⟩
def KP : List AV → Option (Prop × AV)
  | [.sl zst 5 zsx, .agg [.sl 0 11 b_own, .sl 0 3 b_parts, .sl 0 2 b_seen]] => some ((((zsx.map Qx).map Zone.row = zsx) ∧ ((b_own.map Jm).map (Own.row 0) = b_own) ∧ ((b_parts.map QX).map (Part.row 0) = b_parts) ∧ ((b_seen.map QZ).map Seen.row = b_seen)) ∧ (Book.small (Book.mk (b_own.map Jm) (b_parts.map QX) (b_seen.map QZ)) ∧ (zsx.map Qx).length ≤ 4294967295), .bool (decide (Q3 (zsx.map Qx) ∧ bookOk (zsx.map Qx) (Book.mk (b_own.map Jm) (b_parts.map QX) (b_seen.map QZ)))))
  | _ => none
theorem QgI : ∀ args p v, KP args = some (p, v) → p → Contract P 72 args [] v [] ∧ noref v = true ∧ No99 v := by
  intro args p v h1 h2
  unfold KP at h1
  split at h1
  · rename_i zst zsx b_own b_parts b_seen
    cases h1
    obtain ⟨⟨e0, e1, e2, e3⟩, HP⟩ := h2
    have := QoC zst (zsx.map Qx) (Book.mk (b_own.map Jm) (b_parts.map QX) (b_seen.map QZ)) HP.1 HP.2
    exact ⟨by simpa only [e0, e1, e2, e3, Book.row] using this, rfl, trivial⟩
  · cases h1
end
end Go.Ve

namespace Go.Ve
noncomputable section
open Go.Proofs
set_option maxRecDepth 100000
open Go.ChangeShapes Go.WideShapes
/-- What is left when a list is counted, and each of its parts. -/
def szS {α : Type} (f : α → Int → Int) (l : List α) (a : Int) : Int := l.foldl (fun a x => f x a) (Gp a l.length)
def Wp (s : ByteArray) (a : Int) : Int := Gp a s.toList.length
def QmZ {α : Type} (f : α → Int → Int) : Prop := ∀ x a, a ≤ 1048576 → (f x a = -1 ∨ 0 ≤ f x a) ∧ (a < 0 → f x a = -1) ∧ f x a ≤ max a (-1)
def chk (x : Int) (k : Int → Int) : Int := if x < 0 then -1 else k x
def Meas1 (g : Int → Int) : Prop := ∀ a, a ≤ 1048576 → (g a = -1 ∨ 0 ≤ g a) ∧ (a < 0 → g a = -1) ∧ g a ≤ max a (-1)
def Qqe (g : Int → Int) : Prop := ∀ a, 0 ≤ a → a ≤ 1048576 → (g a = -1 ∨ 0 ≤ g a) ∧ g a ≤ a
theorem Meas1.p {g : Int → Int} (h : Meas1 g) : Qqe g := fun a h0 h1 => ⟨(h a h1).1, by have := (h a h1).2.2; omega⟩
theorem QcU : Qqe fun z => z := fun a h0 h1 => ⟨.inr h0, Int.le_refl a⟩
theorem QgJ {k : Int → Int} (n : Nat) (h : Qqe k) : Meas1 fun a => chk (a - n) k := fun a ha => by
  simp only [chk]
  split
  · exact ⟨.inl rfl, fun _ => rfl, by omega⟩
  · rename_i h1
    have := h (a - n) (by omega) (by omega)
    exact ⟨this.1, fun _ => by omega, by omega⟩
theorem QkB {g k : Int → Int} (hg : Meas1 g) (h : Qqe k) : Meas1 fun a => chk (g a) k := fun a ha => by
  have m := hg a ha
  simp only [chk]
  split
  · exact ⟨.inl rfl, fun _ => rfl, by omega⟩
  · rename_i h1
    have := h (g a) (by omega) (by omega)
    exact ⟨this.1, fun h2 => by have := m.2.1 h2; omega, by omega⟩
theorem QbE {x : Int} {k : Int → Int} (h : 0 ≤ chk x k) : 0 ≤ x ∧ 0 ≤ k x := by
  unfold chk at h; split at h
  · omega
  · exact ⟨by omega, h⟩
theorem Wq : QmZ Wp := fun x a _ => by unfold Wp Gp; split <;> omega
theorem Qbd {α : Type} : QmZ (fun (l : List α) a => Gp a l.length) := fun x a _ => by simp only; unfold Gp; split <;> omega
theorem JV {α : Type} {f : α → Int → Int} (h : QmZ f) : ∀ (l : List α) (a : Int), a ≤ 1048576 → (a = -1 ∨ 0 ≤ a) → (l.foldl (fun a x => f x a) a = -1 ∨ 0 ≤ l.foldl (fun a x => f x a) a) ∧ (a < 0 → l.foldl (fun a x => f x a) a = -1) ∧ l.foldl (fun a x => f x a) a ≤ max a (-1)
  | [], a, h1, h2 => ⟨h2, fun h3 => by simp only [List.foldl_nil]; omega, by simp only [List.foldl_nil]; omega⟩
  | x :: l, a, h1, h2 => by
    obtain ⟨k1, k2, k3⟩ := h x a h1
    obtain ⟨i1, i2, i3⟩ := JV h l (f x a) (by omega) k1
    simp only [List.foldl_cons]
    exact ⟨i1, fun h3 => i2 (by have := k2 h3; omega), by omega⟩
theorem K6 {α : Type} {f : α → Int → Int} (h : QmZ f) : QmZ (szS f) := fun l a ha => by
  unfold szS
  have h0 : (Gp a l.length = -1 ∨ 0 ≤ Gp a l.length) ∧ (a < 0 → Gp a l.length = -1) ∧ Gp a l.length ≤ max a (-1) := by unfold Gp; split <;> omega
  obtain ⟨i1, i2, i3⟩ := JV h l (Gp a l.length) (by omega) h0.1
  exact ⟨i1, fun h3 => i2 (by have := h0.2.1 h3; omega), by omega⟩
/-- A list that was counted is small, and so are its parts. -/
theorem QoD {α : Type} {f : α → Int → Int} {p : α → Prop} (h : QmZ f) (hp : ∀ x a, a ≤ 1048576 → 0 ≤ f x a → p x) : ∀ (l : List α) (a : Int), a ≤ 1048576 → (a = -1 ∨ 0 ≤ a) → 0 ≤ l.foldl (fun a x => f x a) a → ∀ x ∈ l, p x
  | [], _, _, _, _, x, hx => by simp at hx
  | y :: l, a, h1, h2, h3, x, hx => by
    simp only [List.foldl_cons] at h3
    obtain ⟨k1, k2, k3⟩ := h y a h1
    have hy : 0 ≤ f y a := by
      rcases k1 with k1 | k1
      · have := (JV h l (f y a) (by omega) (.inl k1)).2.1 (by omega); omega
      · exact k1
    rcases List.mem_cons.1 hx with rfl | hx
    · exact hp _ a h1 hy
    · exact QoD h hp l (f y a) (by omega) (.inr hy) h3 x hx
theorem QhU {α : Type} {f : α → Int → Int} {p : α → Prop} (h : QmZ f) (hp : ∀ x a, a ≤ 1048576 → 0 ≤ f x a → p x) {l : List α} {a : Int} (ha : a ≤ 1048576) (h0 : 0 ≤ szS f l a) : l.length ≤ 1048576 ∧ ∀ x ∈ l, p x := by
  unfold szS at h0
  have hs : (Gp a l.length = -1 ∨ 0 ≤ Gp a l.length) ∧ Gp a l.length ≤ 1048576 := by unfold Gp; split <;> omega
  refine ⟨?_, QoD h hp l _ hs.2 hs.1 h0⟩
  rcases hs.1 with e | e
  · have := (JV h l _ hs.2 (.inl e)).2.1 (by omega); omega
  · unfold Gp at e; split at e <;> omega
theorem QkC {a : Int} {n : Nat} (ha : a ≤ 1048576) (h0 : 0 ≤ Gp a n) : n ≤ 1048576 := by unfold Gp at h0; split at h0 <;> omega
/-- One more part of a list. -/
theorem Wb {α : Type} [Inhabited α] {f : α → Int → Int} {l : List α} {i : Nat} {a : Int} (hi : i < l.length) : (l.take (i + 1)).foldl (fun a x => f x a) a = f (l.getD i default) ((l.take i).foldl (fun a x => f x a) a) := by
  have e : l.getD i default = l[i] := by simp [hi]
  rw [e, List.take_succ_eq_append_getElem hi, List.foldl_append]; rfl
theorem QaM {α : Type} [Inhabited α] {f : α → Int → Int} (h : QmZ f) {l : List α} {i : Nat} {a : Int} (hi : i < l.length) (ha : a ≤ 1048576) (h0 : a = -1 ∨ 0 ≤ a) (hn : f (l.getD i default) ((l.take i).foldl (fun a x => f x a) a) < 0) : l.foldl (fun a x => f x a) a = -1 := by
  rw [← Wb (f := f) hi] at hn
  have e : l.foldl (fun a x => f x a) a = (l.drop (i + 1)).foldl (fun a x => f x a) ((l.take (i + 1)).foldl (fun a x => f x a) a) := by
    rw [← List.foldl_append, List.take_append_drop]
  rw [e]
  have k := JV h (l.take (i + 1)) a ha h0
  exact (JV h _ _ (by omega) k.1).2.1 hn
theorem Wc {α : Type} {f : α → List AV} {p : α → Prop} {rs : List LSh} (h : ∀ r, Kt rs r → ∃ x : α, r = f x ∧ p x) : ∀ {rows : List (List AV)}, (∀ r ∈ rows, Kt rs r) → ∃ l : List α, rows = l.map f ∧ ∀ x ∈ l, p x
  | [], _ => ⟨[], rfl, by simp⟩
  | r :: rows, k => by
    obtain ⟨x, rfl, hx⟩ := h r (k r (by simp))
    obtain ⟨l, rfl, hl⟩ := Wc h (rows := rows) fun r' h' => k r' (by simp [h'])
    exact ⟨x :: l, rfl, by simpa using ⟨hx, hl⟩⟩
theorem Jy {α : Type} [Inhabited α] {l : List α} {i : Nat} (h : i < l.length) : l.getD i default ∈ l := by simp [h]
def Zone.fitp (s : Zone) : Prop := s.nm.toList.length ≤ 9223372036854775807
def Zone.sz (s : Zone) (z0 : Int) : Int := chk (z0 - (s.nm.toList.length : Nat)) (fun z1 => z1)
theorem ZW : QmZ Zone.sz := fun s => QgJ _ (QcU)
def Seen.fitp (s : Seen) : Prop := s.fl.toList.length ≤ 9223372036854775807
def Seen.sz (s : Seen) (z0 : Int) : Int := chk (z0 - (s.fl.toList.length : Nat)) (fun z1 => z1)
theorem ZX : QmZ Seen.sz := fun s => QgJ _ (QcU)
def Own.fitp (s : Own) : Prop := s.fl.toList.length ≤ 9223372036854775807 ∧ s.dst.toList.length ≤ 9223372036854775807 ∧ s.tu.length ≤ 9223372036854775807 ∧ s.nx.length ≤ 9223372036854775807 ∧ (s.gr.length ≤ 9223372036854775807 ∧ ∀ y ∈ s.gr, y.toList.length ≤ 9223372036854775807)
def Own.sz (s : Own) (z0 : Int) : Int := chk (z0 - (s.fl.toList.length : Nat)) (fun z1 => chk (z1 - (s.dst.toList.length : Nat)) (fun z2 => chk (Gp z2 s.tu.length) (fun z3 => chk (Gp z3 s.nx.length) (fun z4 => chk (szS Wp s.gr z4) (fun z5 => z5)))))
theorem Wr : QmZ Own.sz := fun s => QgJ _ (Meas1.p (QgJ _ (Meas1.p (QkB (fun a => Qbd s.tu a) (Meas1.p (QkB (fun a => Qbd s.nx a) (Meas1.p (QkB (fun a => K6 Wq s.gr a) (QcU)))))))))
theorem Own.sz_ok {s : Own} {a : Int} (ha : a ≤ 1048576) (h : 0 ≤ s.sz a) : s.small := by
  unfold Own.sz at h
  have b0 : a ≤ 1048576 := ha
  obtain ⟨p0, h⟩ := QbE h
  have b1 : (a) - (s.fl.toList.length : Nat) ≤ 1048576 := by omega
  obtain ⟨p1, h⟩ := QbE h
  have b2 : ((a) - (s.fl.toList.length : Nat)) - (s.dst.toList.length : Nat) ≤ 1048576 := by omega
  obtain ⟨p2, h⟩ := QbE h
  have b3 : Gp (((a) - (s.fl.toList.length : Nat)) - (s.dst.toList.length : Nat)) s.tu.length ≤ 1048576 := by have := (Qbd s.tu (((a) - (s.fl.toList.length : Nat)) - (s.dst.toList.length : Nat)) b2).2.2; simp only at this; omega
  have k2 := QkC b2 p2
  obtain ⟨p3, h⟩ := QbE h
  have b4 : Gp (Gp (((a) - (s.fl.toList.length : Nat)) - (s.dst.toList.length : Nat)) s.tu.length) s.nx.length ≤ 1048576 := by have := (Qbd s.nx (Gp (((a) - (s.fl.toList.length : Nat)) - (s.dst.toList.length : Nat)) s.tu.length) b3).2.2; simp only at this; omega
  have k3 := QkC b3 p3
  obtain ⟨p4, h⟩ := QbE h
  have b5 : szS Wp s.gr (Gp (Gp (((a) - (s.fl.toList.length : Nat)) - (s.dst.toList.length : Nat)) s.tu.length) s.nx.length) ≤ 1048576 := by have := (K6 Wq s.gr (Gp (Gp (((a) - (s.fl.toList.length : Nat)) - (s.dst.toList.length : Nat)) s.tu.length) s.nx.length) b4).2.2; omega
  have k4 := QhU (p := fun _ => True) Wq (fun _ _ _ _ => trivial) b4 p4
  exact ⟨k2, k3, k4.1⟩
def Part.fitp (s : Part) : Prop := s.fl.toList.length ≤ 9223372036854775807 ∧ s.bx.length ≤ 9223372036854775807
def Part.small (s : Part) : Prop := s.bx.length ≤ 1048576
def Part.sz (s : Part) (z0 : Int) : Int := chk (z0 - (s.fl.toList.length : Nat)) (fun z1 => chk (Gp z1 s.bx.length) (fun z2 => z2))
theorem ZY : QmZ Part.sz := fun s => QgJ _ (Meas1.p (QkB (fun a => Qbd s.bx a) (QcU)))
theorem Part.sz_ok {s : Part} {a : Int} (ha : a ≤ 1048576) (h : 0 ≤ s.sz a) : s.small := by
  unfold Part.sz at h
  have b0 : a ≤ 1048576 := ha
  obtain ⟨p0, h⟩ := QbE h
  have b1 : (a) - (s.fl.toList.length : Nat) ≤ 1048576 := by omega
  obtain ⟨p1, h⟩ := QbE h
  have b2 : Gp ((a) - (s.fl.toList.length : Nat)) s.bx.length ≤ 1048576 := by have := (Qbd s.bx ((a) - (s.fl.toList.length : Nat)) b1).2.2; simp only at this; omega
  have k1 := QkC b1 p1
  exact k1
def Book.fitp (s : Book) : Prop := (s.own.length ≤ 9223372036854775807 ∧ ∀ y ∈ s.own, y.fitp) ∧ (s.parts.length ≤ 9223372036854775807 ∧ ∀ y ∈ s.parts, y.fitp) ∧ (s.seen.length ≤ 9223372036854775807 ∧ ∀ y ∈ s.seen, y.fitp)
def Book.sz (s : Book) (z0 : Int) : Int := chk (szS Own.sz s.own z0) (fun z1 => chk (szS Part.sz s.parts z1) (fun z2 => chk (szS Seen.sz s.seen z2) (fun z3 => z3)))
theorem QjD : QmZ Book.sz := fun s => QkB (fun a => K6 Wr s.own a) (Meas1.p (QkB (fun a => K6 ZY s.parts a) (Meas1.p (QkB (fun a => K6 ZX s.seen a) (QcU)))))
theorem Book.sz_ok {s : Book} {a : Int} (ha : a ≤ 1048576) (h : 0 ≤ s.sz a) : s.small := by
  unfold Book.sz at h
  have b0 : a ≤ 1048576 := ha
  obtain ⟨p0, h⟩ := QbE h
  have b1 : szS Own.sz s.own (a) ≤ 1048576 := by have := (K6 Wr s.own (a) b0).2.2; omega
  have k0 := QhU (p := fun y => Own.small y) Wr (fun x a h1 h2 => Own.sz_ok h1 h2) b0 p0
  obtain ⟨p1, h⟩ := QbE h
  have b2 : szS Part.sz s.parts (szS Own.sz s.own (a)) ≤ 1048576 := by have := (K6 ZY s.parts (szS Own.sz s.own (a)) b1).2.2; omega
  have k1 := QhU (p := fun y => Part.small y) ZY (fun x a h1 h2 => Part.sz_ok h1 h2) b1 p1
  obtain ⟨p2, h⟩ := QbE h
  have b3 : szS Seen.sz s.seen (szS Part.sz s.parts (szS Own.sz s.own (a))) ≤ 1048576 := by have := (K6 ZX s.seen (szS Part.sz s.parts (szS Own.sz s.own (a))) b2).2.2; omega
  have k2 := QhU (p := fun _ => True) ZX (fun _ _ _ _ => trivial) b2 p2
  exact ⟨k0, k1, k2.1⟩
theorem QkD (t : Nat) (l : List ByteArray) (a : Int) (ha : 0 ≤ a ∧ a ≤ 1048576) (hl : l.length ≤ 9223372036854775807 ∧ ∀ y ∈ l, y.toList.length ≤ 9223372036854775807) : Contract P 105 [.sl t 1 (l.map Jw), .int .i64 a] [] (.int .i64 (szS Wp l a)) [] := by
  refine Qg (Env.nil P) hm Qfe (nlb rfl) rfl ?_; unfold WJ; simp (maxSteps := 2000000) only [bitvec_to_nat, reduceIte, Nat.reduceEqDiff, Nat.reduceAdd, Nat.reduceLeDiff, reduceCtorEq, Nat.reduceBEq, Nat.reduceLT, Nat.reduceMod, fmc, Jw, QsM, List.take_zero, List.foldl_nil]
  have hz : Gp a l.length = if a - l.length < 0 then -1 else a - l.length := rfl
  refine ⟨by omega, fun h1 => ?_, fun h1 => ?_⟩
  · unfold szS
    rw [(JV Wq l _ (by omega) (by omega)).2.1 (by omega)]
  have e0 : Gp a l.length = a - l.length := if_neg h1
  refine QE (fun i : Nat => [(1, .int .i64 ((l.take i).foldl (fun a x => Wp x a) (a - l.length))), (5, .int .i64 i)]) (fun _ => []) (fun i => i ≤ l.length ∧ 0 ≤ (l.take i).foldl (fun a x => Wp x a) (a - l.length)) (fun i => l.length - i) (0) (by simp only [Jr, Js, Jt, Ju, Qj, Qk, Ql, Qm, reduceIte, Nat.reduceEqDiff]; exact ⟨by repeat' (first | exact trivial | refine ⟨.inr rfl, ?_⟩), by repeat' (first | exact trivial | refine ⟨rfl, ?_⟩), by first | rfl | simp [closedB, Qd, Qb, Qc, dom, Qa, *], by first | rfl | simp [keepB, dom]⟩) ?_ ?_
  · simp only [List.take_zero, List.foldl_nil]; omega
  intro i hi NX hN
  unfold Ut; simp (maxSteps := 2000000) only [bitvec_to_nat, reduceIte, Nat.reduceEqDiff, Nat.reduceAdd, Nat.reduceLeDiff, reduceCtorEq, Nat.reduceBEq, Nat.reduceLT, Nat.reduceMod, fmc, Jw, QsM, List.take_zero, List.foldl_nil]
  have hm := (JV Wq (l.take i) (a - l.length) (by omega) (by omega)).2.2
  have hg : i < l.length → (l.getD i default).toList.length ≤ 9223372036854775807 := fun h => hl.2 _ (Jy h)
  have hn : i < l.length → (l.take (i + 1)).foldl (fun a x => Wp x a) (a - l.length) = Wp (l.getD i default) ((l.take i).foldl (fun a x => Wp x a) (a - l.length)) := fun h => Wb h
  have hs : i < l.length → Wp (l.getD i default) ((l.take i).foldl (fun a x => Wp x a) (a - l.length)) < 0 → szS Wp l a = -1 := fun h h2 => by unfold szS; rw [e0]; exact QaM Wq h (by omega) (by omega) h2
  have hd : Wp (l.getD i default) ((l.take i).foldl (fun a x => Wp x a) (a - l.length)) = if ((l.take i).foldl (fun a x => Wp x a) (a - l.length)) - ((l.getD i default).toList.length : Nat) < 0 then -1 else ((l.take i).foldl (fun a x => Wp x a) (a - l.length)) - ((l.getD i default).toList.length : Nat) := rfl
  refine ⟨fun h2 => ⟨by omega, by omega, by omega, fun h3 => by rw [hs (by omega) (by omega)], fun h3 => ⟨by omega, ?_⟩⟩, fun h2 => ?_⟩
  · have e := hn (by omega)
    rw [hd, if_neg h3] at e
    refine hN (i + 1) _ (by simp only [e, List.length_append, List.length_cons, List.length_nil, Nat.zero_add, List.map_append, List.map_cons, List.map_nil, Jr, Js, Jt, Ju, Qj, Qk, Ql, Qm, reduceIte, Nat.reduceEqDiff]; exact ⟨by repeat' (first | exact trivial | refine ⟨.inr rfl, ?_⟩), by repeat' (first | exact trivial | refine ⟨rfl, ?_⟩), by first | rfl | simp [closedB, Qd, Qb, Qc, dom, Qa, *], by first | rfl | simp [keepB, dom]⟩) ?_ ?_
    · exact ⟨by omega, by omega⟩
    · omega
  · have e : i = l.length := by omega
    subst e
    simp only [List.take_length]; unfold szS; rw [e0]
def Ws : List AV → Option (Prop × AV)
  | [.sl lt 1 lx, .int .i64 b] => some ((((lx.map unS).map Jw = lx)) ∧ ((0 ≤ b ∧ b ≤ 1048576) ∧ ((lx.map unS).length ≤ 9223372036854775807 ∧ ∀ y ∈ (lx.map unS), y.toList.length ≤ 9223372036854775807)), .int .i64 (szS Wp (lx.map unS) b))
  | _ => none
theorem QkE : ∀ args p v, Ws args = some (p, v) → p → Contract P 105 args [] v [] ∧ noref v = true ∧ No99 v := by
  intro args p v h1 h2
  unfold Ws at h1
  split at h1
  · rename_i lt lx b
    cases h1
    obtain ⟨e0, HP⟩ := h2
    have := QkD lt (lx.map unS) b HP.1 HP.2
    exact ⟨by simpa only [e0] using this, rfl, trivial⟩
  · cases h1
theorem Qqf (s : Zone) (a : Int) (ha : 0 ≤ a ∧ a ≤ 1048576) (hs : s.fitp) : Contract P 31 [.agg s.row, .int .i64 a] [] (.int .i64 (s.sz a)) [] := by
  unfold Zone.fitp at hs
  simp only [Zone.row]
  refine Qg (Env.nil P) hm Qed (nlb rfl) rfl ?_; unfold VL; simp (maxSteps := 2000000) only [bitvec_to_nat, reduceIte, Nat.reduceEqDiff, Nat.reduceAdd, Nat.reduceLeDiff, reduceCtorEq, Nat.reduceBEq, Nat.reduceLT, Nat.reduceMod, fmc, int_toBitVec_meta, method_specs_simp]
  unfold Zone.sz
  repeat' (first | with_reducible apply And.intro | with_reducible intro _)
  all_goals first | omega | (exact hs) | (exact hs.1) | (exact hs.2.1) | (exact hs.2.2) | (exact hs.2.2.1) | (exact hs.2.2.2) | (exact hs.2.2.2.1) | (exact hs.2.2.2.2) | (exact hs.1.1) | (exact hs.1.2) | (exact hs.2.1.1) | (exact hs.2.1.2) | (unfold chk; grind) | grind
def QcV : List AV → Option (Prop × AV)
  | [.agg [.str s_nm, .int .i64 s_x0, .int .i64 s_y0, .int .i64 s_x1, .int .i64 s_y1], .int .i64 b] => some ((True) ∧ ((0 ≤ b ∧ b ≤ 1048576) ∧ (Zone.fitp (Zone.mk s_nm s_x0 s_y0 s_x1 s_y1))), .int .i64 (Zone.sz (Zone.mk s_nm s_x0 s_y0 s_x1 s_y1) b))
  | _ => none
theorem Qqg : ∀ args p v, QcV args = some (p, v) → p → Contract P 31 args [] v [] ∧ noref v = true ∧ No99 v := by
  intro args p v h1 h2
  unfold QcV at h1
  split at h1
  · rename_i s_nm s_x0 s_y0 s_x1 s_y1 b
    cases h1
    obtain ⟨_, HP⟩ := h2
    have := Qqf (Zone.mk s_nm s_x0 s_y0 s_x1 s_y1) b HP.1 HP.2
    exact ⟨by simpa only [Zone.row] using this, rfl, trivial⟩
  · cases h1
theorem QoE (t : Nat) (l : List Zone) (a : Int) (ha : 0 ≤ a ∧ a ≤ 1048576) (hl : l.length ≤ 9223372036854775807 ∧ ∀ y ∈ l, y.fitp) : Contract P 7 [.sl t 5 (l.map Zone.row), .int .i64 a] [] (.int .i64 (szS Zone.sz l a)) [] := by
  refine Qg ((Env.nil P).add 31 QcV Qqg) hm Qco (nlb rfl) rfl ?_; unfold Ue; simp (maxSteps := 2000000) only [bitvec_to_nat, reduceIte, Nat.reduceEqDiff, Nat.reduceAdd, Nat.reduceLeDiff, reduceCtorEq, Nat.reduceBEq, Nat.reduceLT, Nat.reduceMod, fmc, QcV, int_toBitVec_meta, method_specs_simp, List.take_zero, List.foldl_nil]
  have hz : Gp a l.length = if a - l.length < 0 then -1 else a - l.length := rfl
  refine ⟨by omega, fun h1 => ?_, fun h1 => ?_⟩
  · unfold szS
    rw [(JV ZW l _ (by omega) (by omega)).2.1 (by omega)]
  have e0 : Gp a l.length = a - l.length := if_neg h1
  refine QE (fun i : Nat => [(1, .int .i64 ((l.take i).foldl (fun a x => x.sz a) (a - l.length))), (5, .int .i64 i)]) (fun _ => []) (fun i => i ≤ l.length ∧ 0 ≤ (l.take i).foldl (fun a x => x.sz a) (a - l.length)) (fun i => l.length - i) (0) (by simp only [Jr, Js, Jt, Ju, Qj, Qk, Ql, Qm, reduceIte, Nat.reduceEqDiff]; exact ⟨by repeat' (first | exact trivial | refine ⟨.inr rfl, ?_⟩), by repeat' (first | exact trivial | refine ⟨rfl, ?_⟩), by first | rfl | simp [closedB, Qd, Qb, Qc, dom, Qa, *], by first | rfl | simp [keepB, dom]⟩) ?_ ?_
  · simp only [List.take_zero, List.foldl_nil]; omega
  intro i hi NX hN
  have hm := (JV ZW (l.take i) (a - l.length) (by omega) (by omega)).2.2
  have hg : i < l.length → (l.getD i default).fitp := fun h => hl.2 _ (Jy h)
  have hn : i < l.length → (l.take (i + 1)).foldl (fun a x => x.sz a) (a - l.length) = (l.getD i default).sz ((l.take i).foldl (fun a x => x.sz a) (a - l.length)) := fun h => Wb (f := Zone.sz) h
  have hs : i < l.length → (l.getD i default).sz ((l.take i).foldl (fun a x => x.sz a) (a - l.length)) < 0 → szS Zone.sz l a = -1 := fun h h2 => by unfold szS; rw [e0]; exact QaM ZW h (by omega) (by omega) h2
  unfold XN; simp (maxSteps := 2000000) only [bitvec_to_nat, reduceIte, Nat.reduceEqDiff, Nat.reduceAdd, Nat.reduceLeDiff, reduceCtorEq, Nat.reduceBEq, Nat.reduceLT, Nat.reduceMod, fmc, QcV, int_toBitVec_meta, method_specs_simp, List.take_zero, List.foldl_nil]
  refine ⟨fun h2 => ⟨by omega, by omega, ⟨⟨by omega, by omega⟩, hg (by omega)⟩, fun h3 => by rw [hs (by omega) h3], fun h3 => ⟨by omega, ?_⟩⟩, fun h2 => ?_⟩
  · have e := hn (by omega)
    refine hN (i + 1) _ (by simp only [e, List.length_append, List.length_cons, List.length_nil, Nat.zero_add, List.map_append, List.map_cons, List.map_nil, Jr, Js, Jt, Ju, Qj, Qk, Ql, Qm, reduceIte, Nat.reduceEqDiff]; exact ⟨by repeat' (first | exact trivial | refine ⟨.inr rfl, ?_⟩), by repeat' (first | exact trivial | refine ⟨rfl, ?_⟩), by first | rfl | simp [closedB, Qd, Qb, Qc, dom, Qa, *], by first | rfl | simp [keepB, dom]⟩) ?_ ?_
    · exact ⟨by omega, by rw [e]; omega⟩
    · omega
  · have e : i = l.length := by omega
    subst e
    simp only [List.take_length]; unfold szS; rw [e0]
def QK : List AV → Option (Prop × AV)
  | [.sl lt 5 lx, .int .i64 b] => some ((((lx.map Qx).map Zone.row = lx)) ∧ ((0 ≤ b ∧ b ≤ 1048576) ∧ ((lx.map Qx).length ≤ 9223372036854775807 ∧ ∀ y ∈ (lx.map Qx), Zone.fitp y)), .int .i64 (szS Zone.sz (lx.map Qx) b))
  | _ => none
theorem QjE : ∀ args p v, QK args = some (p, v) → p → Contract P 7 args [] v [] ∧ noref v = true ∧ No99 v := by
  intro args p v h1 h2
  unfold QK at h1
  split at h1
  · rename_i lt lx b
    cases h1
    obtain ⟨e0, HP⟩ := h2
    have := QoE lt (lx.map Qx) b HP.1 HP.2
    exact ⟨by simpa only [e0] using this, rfl, trivial⟩
  · cases h1
theorem Qqh (s : Seen) (a : Int) (ha : 0 ≤ a ∧ a ≤ 1048576) (hs : s.fitp) : Contract P 76 [.agg s.row, .int .i64 a] [] (.int .i64 (s.sz a)) [] := by
  unfold Seen.fitp at hs
  simp only [Seen.row]
  refine Qg (Env.nil P) hm Qen (nlb rfl) rfl ?_; unfold VX; simp (maxSteps := 2000000) only [bitvec_to_nat, reduceIte, Nat.reduceEqDiff, Nat.reduceAdd, Nat.reduceLeDiff, reduceCtorEq, Nat.reduceBEq, Nat.reduceLT, Nat.reduceMod, fmc, int_toBitVec_meta, method_specs_simp]
  unfold Seen.sz
  repeat' (first | with_reducible apply And.intro | with_reducible intro _)
  all_goals first | omega | (exact hs) | (exact hs.1) | (exact hs.2.1) | (exact hs.2.2) | (exact hs.2.2.1) | (exact hs.2.2.2) | (exact hs.2.2.2.1) | (exact hs.2.2.2.2) | (exact hs.1.1) | (exact hs.1.2) | (exact hs.2.1.1) | (exact hs.2.1.2) | (unfold chk; grind) | grind
def QcW : List AV → Option (Prop × AV)
  | [.agg [.str s_fl, .int .i64 s_nr], .int .i64 b] => some ((True) ∧ ((0 ≤ b ∧ b ≤ 1048576) ∧ (Seen.fitp (Seen.mk s_fl s_nr))), .int .i64 (Seen.sz (Seen.mk s_fl s_nr) b))
  | _ => none
theorem Qqi : ∀ args p v, QcW args = some (p, v) → p → Contract P 76 args [] v [] ∧ noref v = true ∧ No99 v := by
  intro args p v h1 h2
  unfold QcW at h1
  split at h1
  · rename_i s_fl s_nr b
    cases h1
    obtain ⟨_, HP⟩ := h2
    have := Qqh (Seen.mk s_fl s_nr) b HP.1 HP.2
    exact ⟨by simpa only [Seen.row] using this, rfl, trivial⟩
  · cases h1
theorem QoF (t : Nat) (l : List Seen) (a : Int) (ha : 0 ≤ a ∧ a ≤ 1048576) (hl : l.length ≤ 9223372036854775807 ∧ ∀ y ∈ l, y.fitp) : Contract P 34 [.sl t 2 (l.map Seen.row), .int .i64 a] [] (.int .i64 (szS Seen.sz l a)) [] := by
  refine Qg ((Env.nil P).add 76 QcW Qqi) hm Qcs (nlb rfl) rfl ?_; unfold Ui; simp (maxSteps := 2000000) only [bitvec_to_nat, reduceIte, Nat.reduceEqDiff, Nat.reduceAdd, Nat.reduceLeDiff, reduceCtorEq, Nat.reduceBEq, Nat.reduceLT, Nat.reduceMod, fmc, QcW, int_toBitVec_meta, method_specs_simp, List.take_zero, List.foldl_nil]
  have hz : Gp a l.length = if a - l.length < 0 then -1 else a - l.length := rfl
  refine ⟨by omega, fun h1 => ?_, fun h1 => ?_⟩
  · unfold szS
    rw [(JV ZX l _ (by omega) (by omega)).2.1 (by omega)]
  have e0 : Gp a l.length = a - l.length := if_neg h1
  refine QE (fun i : Nat => [(1, .int .i64 ((l.take i).foldl (fun a x => x.sz a) (a - l.length))), (5, .int .i64 i)]) (fun _ => []) (fun i => i ≤ l.length ∧ 0 ≤ (l.take i).foldl (fun a x => x.sz a) (a - l.length)) (fun i => l.length - i) (0) (by simp only [Jr, Js, Jt, Ju, Qj, Qk, Ql, Qm, reduceIte, Nat.reduceEqDiff]; exact ⟨by repeat' (first | exact trivial | refine ⟨.inr rfl, ?_⟩), by repeat' (first | exact trivial | refine ⟨rfl, ?_⟩), by first | rfl | simp [closedB, Qd, Qb, Qc, dom, Qa, *], by first | rfl | simp [keepB, dom]⟩) ?_ ?_
  · simp only [List.take_zero, List.foldl_nil]; omega
  intro i hi NX hN
  have hm := (JV ZX (l.take i) (a - l.length) (by omega) (by omega)).2.2
  have hg : i < l.length → (l.getD i default).fitp := fun h => hl.2 _ (Jy h)
  have hn : i < l.length → (l.take (i + 1)).foldl (fun a x => x.sz a) (a - l.length) = (l.getD i default).sz ((l.take i).foldl (fun a x => x.sz a) (a - l.length)) := fun h => Wb (f := Seen.sz) h
  have hs : i < l.length → (l.getD i default).sz ((l.take i).foldl (fun a x => x.sz a) (a - l.length)) < 0 → szS Seen.sz l a = -1 := fun h h2 => by unfold szS; rw [e0]; exact QaM ZX h (by omega) (by omega) h2
  unfold XS; simp (maxSteps := 2000000) only [bitvec_to_nat, reduceIte, Nat.reduceEqDiff, Nat.reduceAdd, Nat.reduceLeDiff, reduceCtorEq, Nat.reduceBEq, Nat.reduceLT, Nat.reduceMod, fmc, QcW, int_toBitVec_meta, method_specs_simp, List.take_zero, List.foldl_nil]
  refine ⟨fun h2 => ⟨by omega, by omega, ⟨⟨by omega, by omega⟩, hg (by omega)⟩, fun h3 => by rw [hs (by omega) h3], fun h3 => ⟨by omega, ?_⟩⟩, fun h2 => ?_⟩
  · have e := hn (by omega)
    refine hN (i + 1) _ (by simp only [e, List.length_append, List.length_cons, List.length_nil, Nat.zero_add, List.map_append, List.map_cons, List.map_nil, Jr, Js, Jt, Ju, Qj, Qk, Ql, Qm, reduceIte, Nat.reduceEqDiff]; exact ⟨by repeat' (first | exact trivial | refine ⟨.inr rfl, ?_⟩), by repeat' (first | exact trivial | refine ⟨rfl, ?_⟩), by first | rfl | simp [closedB, Qd, Qb, Qc, dom, Qa, *], by first | rfl | simp [keepB, dom]⟩) ?_ ?_
    · exact ⟨by omega, by rw [e]; omega⟩
    · omega
  · have e : i = l.length := by omega
    subst e
    simp only [List.take_length]; unfold szS; rw [e0]
def QcX : List AV → Option (Prop × AV)
  | [.sl lt 2 lx, .int .i64 b] => some ((((lx.map QZ).map Seen.row = lx)) ∧ ((0 ≤ b ∧ b ≤ 1048576) ∧ ((lx.map QZ).length ≤ 9223372036854775807 ∧ ∀ y ∈ (lx.map QZ), Seen.fitp y)), .int .i64 (szS Seen.sz (lx.map QZ) b))
  | _ => none
theorem QoG : ∀ args p v, QcX args = some (p, v) → p → Contract P 34 args [] v [] ∧ noref v = true ∧ No99 v := by
  intro args p v h1 h2
  unfold QcX at h1
  split at h1
  · rename_i lt lx b
    cases h1
    obtain ⟨e0, HP⟩ := h2
    have := QoF lt (lx.map QZ) b HP.1 HP.2
    exact ⟨by simpa only [e0] using this, rfl, trivial⟩
  · cases h1
theorem Qqj (s : Part) (a : Int) (ha : 0 ≤ a ∧ a ≤ 1048576) (hs : s.fitp) : Contract P 75 [.agg (s.row 1), .int .i64 a] [] (.int .i64 (s.sz a)) [] := by
  unfold Part.fitp at hs
  simp only [Part.row]
  refine Qg ((Env.nil P).add 23 Qa9 Qlq) hm Qem (nlb rfl) rfl ?_; unfold VV; simp (maxSteps := 2000000) only [bitvec_to_nat, reduceIte, Nat.reduceEqDiff, Nat.reduceAdd, Nat.reduceLeDiff, reduceCtorEq, Nat.reduceBEq, Nat.reduceLT, Nat.reduceMod, fmc, Qa9, int_toBitVec_meta, method_specs_simp]
  unfold Part.sz
  have qbx : (Gp (a - (s.fl.toList.length : Nat)) s.bx.length) ≤ max (a - (s.fl.toList.length : Nat)) (-1) := by unfold Gp; split <;> omega
  repeat' (first | with_reducible apply And.intro | with_reducible intro _)
  all_goals first | omega | (exact hs) | (exact hs.1) | (exact hs.2.1) | (exact hs.2.2) | (exact hs.2.2.1) | (exact hs.2.2.2) | (exact hs.2.2.2.1) | (exact hs.2.2.2.2) | (exact hs.1.1) | (exact hs.1.2) | (exact hs.2.1.1) | (exact hs.2.1.2) | (unfold chk; grind) | grind
def QcY : List AV → Option (Prop × AV)
  | [.agg [.str s_fl, .int .i64 s_nr, .sl 1 6 s_bx], .int .i64 b] => some ((((s_bx.map Qz).map Box6.row = s_bx)) ∧ ((0 ≤ b ∧ b ≤ 1048576) ∧ (Part.fitp (Part.mk s_fl s_nr (s_bx.map Qz)))), .int .i64 (Part.sz (Part.mk s_fl s_nr (s_bx.map Qz)) b))
  | _ => none
theorem Qqk : ∀ args p v, QcY args = some (p, v) → p → Contract P 75 args [] v [] ∧ noref v = true ∧ No99 v := by
  intro args p v h1 h2
  unfold QcY at h1
  split at h1
  · rename_i s_fl s_nr s_bx b
    cases h1
    obtain ⟨e0, HP⟩ := h2
    have := Qqj (Part.mk s_fl s_nr (s_bx.map Qz)) b HP.1 HP.2
    exact ⟨by simpa only [e0, Part.row] using this, rfl, trivial⟩
  · cases h1
theorem QoH (t : Nat) (l : List Part) (a : Int) (ha : 0 ≤ a ∧ a ≤ 1048576) (hl : l.length ≤ 9223372036854775807 ∧ ∀ y ∈ l, y.fitp) : Contract P 33 [.sl t 3 (l.map (Part.row 1)), .int .i64 a] [] (.int .i64 (szS Part.sz l a)) [] := by
  refine Qg ((Env.nil P).add 75 QcY Qqk) hm Qcr (nlb rfl) rfl ?_; unfold Uh; simp (maxSteps := 2000000) only [bitvec_to_nat, reduceIte, Nat.reduceEqDiff, Nat.reduceAdd, Nat.reduceLeDiff, reduceCtorEq, Nat.reduceBEq, Nat.reduceLT, Nat.reduceMod, fmc, QcY, int_toBitVec_meta, method_specs_simp, List.take_zero, List.foldl_nil]
  have hz : Gp a l.length = if a - l.length < 0 then -1 else a - l.length := rfl
  refine ⟨by omega, fun h1 => ?_, fun h1 => ?_⟩
  · unfold szS
    rw [(JV ZY l _ (by omega) (by omega)).2.1 (by omega)]
  have e0 : Gp a l.length = a - l.length := if_neg h1
  refine QE (fun i : Nat => [(1, .int .i64 ((l.take i).foldl (fun a x => x.sz a) (a - l.length))), (5, .int .i64 i)]) (fun _ => []) (fun i => i ≤ l.length ∧ 0 ≤ (l.take i).foldl (fun a x => x.sz a) (a - l.length)) (fun i => l.length - i) (0) (by simp only [Jr, Js, Jt, Ju, Qj, Qk, Ql, Qm, reduceIte, Nat.reduceEqDiff]; exact ⟨by repeat' (first | exact trivial | refine ⟨.inr rfl, ?_⟩), by repeat' (first | exact trivial | refine ⟨rfl, ?_⟩), by first | rfl | simp [closedB, Qd, Qb, Qc, dom, Qa, *], by first | rfl | simp [keepB, dom]⟩) ?_ ?_
  · simp only [List.take_zero, List.foldl_nil]; omega
  intro i hi NX hN
  have hm := (JV ZY (l.take i) (a - l.length) (by omega) (by omega)).2.2
  have hg : i < l.length → (l.getD i default).fitp := fun h => hl.2 _ (Jy h)
  have hn : i < l.length → (l.take (i + 1)).foldl (fun a x => x.sz a) (a - l.length) = (l.getD i default).sz ((l.take i).foldl (fun a x => x.sz a) (a - l.length)) := fun h => Wb (f := Part.sz) h
  have hs : i < l.length → (l.getD i default).sz ((l.take i).foldl (fun a x => x.sz a) (a - l.length)) < 0 → szS Part.sz l a = -1 := fun h h2 => by unfold szS; rw [e0]; exact QaM ZY h (by omega) (by omega) h2
  unfold XR; simp (maxSteps := 2000000) only [bitvec_to_nat, reduceIte, Nat.reduceEqDiff, Nat.reduceAdd, Nat.reduceLeDiff, reduceCtorEq, Nat.reduceBEq, Nat.reduceLT, Nat.reduceMod, fmc, QcY, int_toBitVec_meta, method_specs_simp, List.take_zero, List.foldl_nil]
  refine ⟨fun h2 => ⟨by omega, by omega, ⟨⟨by omega, by omega⟩, hg (by omega)⟩, fun h3 => by rw [hs (by omega) h3], fun h3 => ⟨by omega, ?_⟩⟩, fun h2 => ?_⟩
  · have e := hn (by omega)
    refine hN (i + 1) _ (by simp only [e, List.length_append, List.length_cons, List.length_nil, Nat.zero_add, List.map_append, List.map_cons, List.map_nil, Jr, Js, Jt, Ju, Qj, Qk, Ql, Qm, reduceIte, Nat.reduceEqDiff]; exact ⟨by repeat' (first | exact trivial | refine ⟨.inr rfl, ?_⟩), by repeat' (first | exact trivial | refine ⟨rfl, ?_⟩), by first | rfl | simp [closedB, Qd, Qb, Qc, dom, Qa, *], by first | rfl | simp [keepB, dom]⟩) ?_ ?_
    · exact ⟨by omega, by rw [e]; omega⟩
    · omega
  · have e : i = l.length := by omega
    subst e
    simp only [List.take_length]; unfold szS; rw [e0]
def QcZ : List AV → Option (Prop × AV)
  | [.sl lt 3 lx, .int .i64 b] => some ((((lx.map QX).map (Part.row 1) = lx)) ∧ ((0 ≤ b ∧ b ≤ 1048576) ∧ ((lx.map QX).length ≤ 9223372036854775807 ∧ ∀ y ∈ (lx.map QX), Part.fitp y)), .int .i64 (szS Part.sz (lx.map QX) b))
  | _ => none
theorem QoI : ∀ args p v, QcZ args = some (p, v) → p → Contract P 33 args [] v [] ∧ noref v = true ∧ No99 v := by
  intro args p v h1 h2
  unfold QcZ at h1
  split at h1
  · rename_i lt lx b
    cases h1
    obtain ⟨e0, HP⟩ := h2
    have := QoH lt (lx.map QX) b HP.1 HP.2
    exact ⟨by simpa only [e0] using this, rfl, trivial⟩
  · cases h1
theorem Qsi (s : Own) (a : Int) (ha : 0 ≤ a ∧ a ≤ 1048576) (hs : s.fitp) : Contract P 74 [.agg (s.row 1), .int .i64 a] [] (.int .i64 (s.sz a)) [] := by
  unfold Own.fitp at hs
  simp only [Own.row]
  refine Qg (((Env.nil P).add 23 Qa9 Qlq).add 105 Ws QkE) hm Qfb (nlb rfl) rfl ?_; unfold WE; simp (maxSteps := 2000000) only [bitvec_to_nat, reduceIte, Nat.reduceEqDiff, Nat.reduceAdd, Nat.reduceLeDiff, reduceCtorEq, Nat.reduceBEq, Nat.reduceLT, Nat.reduceMod, fmc, Qa9, Ws, int_toBitVec_meta, method_specs_simp]
  unfold Own.sz
  have qtu : (Gp ((a - (s.fl.toList.length : Nat)) - (s.dst.toList.length : Nat)) s.tu.length) ≤ max ((a - (s.fl.toList.length : Nat)) - (s.dst.toList.length : Nat)) (-1) := by unfold Gp; split <;> omega
  have qnx : (Gp (Gp ((a - (s.fl.toList.length : Nat)) - (s.dst.toList.length : Nat)) s.tu.length) s.nx.length) ≤ max (Gp ((a - (s.fl.toList.length : Nat)) - (s.dst.toList.length : Nat)) s.tu.length) (-1) := by unfold Gp; split <;> omega
  have qgr : (szS Wp s.gr (Gp (Gp ((a - (s.fl.toList.length : Nat)) - (s.dst.toList.length : Nat)) s.tu.length) s.nx.length)) ≤ max (Gp (Gp ((a - (s.fl.toList.length : Nat)) - (s.dst.toList.length : Nat)) s.tu.length) s.nx.length) (-1) := (K6 Wq s.gr (Gp (Gp ((a - (s.fl.toList.length : Nat)) - (s.dst.toList.length : Nat)) s.tu.length) s.nx.length) (by omega)).2.2
  repeat' (first | with_reducible apply And.intro | with_reducible intro _)
  all_goals first | omega | (exact hs) | (exact hs.1) | (exact hs.2.1) | (exact hs.2.2) | (exact hs.2.2.1) | (exact hs.2.2.2) | (exact hs.2.2.2.1) | (exact hs.2.2.2.2) | (exact hs.1.1) | (exact hs.1.2) | (exact hs.2.1.1) | (exact hs.2.1.2) | (unfold chk; grind) | grind
def QgK : List AV → Option (Prop × AV)
  | [.agg [.str s_fl, .int .i64 s_st, .int .i64 s_tn, .str s_dst, .int .i64 s_la, .int .i64 s_nr, .sl 1 6 s_tu, .int .i64 s_wi, .sl 1 6 s_nx, .sl 1 1 s_gr, .bool s_sent], .int .i64 b] => some ((((s_tu.map Qz).map Box6.row = s_tu) ∧ ((s_nx.map Qz).map Box6.row = s_nx) ∧ ((s_gr.map unS).map Jw = s_gr)) ∧ ((0 ≤ b ∧ b ≤ 1048576) ∧ (Own.fitp (Own.mk s_fl s_st s_tn s_dst s_la s_nr (s_tu.map Qz) s_wi (s_nx.map Qz) (s_gr.map unS) s_sent))), .int .i64 (Own.sz (Own.mk s_fl s_st s_tn s_dst s_la s_nr (s_tu.map Qz) s_wi (s_nx.map Qz) (s_gr.map unS) s_sent) b))
  | _ => none
theorem Qsj : ∀ args p v, QgK args = some (p, v) → p → Contract P 74 args [] v [] ∧ noref v = true ∧ No99 v := by
  intro args p v h1 h2
  unfold QgK at h1
  split at h1
  · rename_i s_fl s_st s_tn s_dst s_la s_nr s_tu s_wi s_nx s_gr s_sent b
    cases h1
    obtain ⟨⟨e0, e1, e2⟩, HP⟩ := h2
    have := Qsi (Own.mk s_fl s_st s_tn s_dst s_la s_nr (s_tu.map Qz) s_wi (s_nx.map Qz) (s_gr.map unS) s_sent) b HP.1 HP.2
    exact ⟨by simpa only [e0, e1, e2, Own.row] using this, rfl, trivial⟩
  · cases h1
theorem Qql (t : Nat) (l : List Own) (a : Int) (ha : 0 ≤ a ∧ a ≤ 1048576) (hl : l.length ≤ 9223372036854775807 ∧ ∀ y ∈ l, y.fitp) : Contract P 32 [.sl t 11 (l.map (Own.row 1)), .int .i64 a] [] (.int .i64 (szS Own.sz l a)) [] := by
  refine Qg ((Env.nil P).add 74 QgK Qsj) hm Qee (nlb rfl) rfl ?_; unfold VM; simp (maxSteps := 2000000) only [bitvec_to_nat, reduceIte, Nat.reduceEqDiff, Nat.reduceAdd, Nat.reduceLeDiff, reduceCtorEq, Nat.reduceBEq, Nat.reduceLT, Nat.reduceMod, fmc, QgK, int_toBitVec_meta, method_specs_simp, List.take_zero, List.foldl_nil]
  have hz : Gp a l.length = if a - l.length < 0 then -1 else a - l.length := rfl
  refine ⟨by omega, fun h1 => ?_, fun h1 => ?_⟩
  · unfold szS
    rw [(JV Wr l _ (by omega) (by omega)).2.1 (by omega)]
  have e0 : Gp a l.length = a - l.length := if_neg h1
  refine QE (fun i : Nat => [(1, .int .i64 ((l.take i).foldl (fun a x => x.sz a) (a - l.length))), (5, .int .i64 i)]) (fun _ => []) (fun i => i ≤ l.length ∧ 0 ≤ (l.take i).foldl (fun a x => x.sz a) (a - l.length)) (fun i => l.length - i) (0) (by simp only [Jr, Js, Jt, Ju, Qj, Qk, Ql, Qm, reduceIte, Nat.reduceEqDiff]; exact ⟨by repeat' (first | exact trivial | refine ⟨.inr rfl, ?_⟩), by repeat' (first | exact trivial | refine ⟨rfl, ?_⟩), by first | rfl | simp [closedB, Qd, Qb, Qc, dom, Qa, *], by first | rfl | simp [keepB, dom]⟩) ?_ ?_
  · simp only [List.take_zero, List.foldl_nil]; omega
  intro i hi NX hN
  have hm := (JV Wr (l.take i) (a - l.length) (by omega) (by omega)).2.2
  have hg : i < l.length → (l.getD i default).fitp := fun h => hl.2 _ (Jy h)
  have hn : i < l.length → (l.take (i + 1)).foldl (fun a x => x.sz a) (a - l.length) = (l.getD i default).sz ((l.take i).foldl (fun a x => x.sz a) (a - l.length)) := fun h => Wb (f := Own.sz) h
  have hs : i < l.length → (l.getD i default).sz ((l.take i).foldl (fun a x => x.sz a) (a - l.length)) < 0 → szS Own.sz l a = -1 := fun h h2 => by unfold szS; rw [e0]; exact QaM Wr h (by omega) (by omega) h2
  unfold Zt; simp (maxSteps := 2000000) only [bitvec_to_nat, reduceIte, Nat.reduceEqDiff, Nat.reduceAdd, Nat.reduceLeDiff, reduceCtorEq, Nat.reduceBEq, Nat.reduceLT, Nat.reduceMod, fmc, QgK, int_toBitVec_meta, method_specs_simp, List.take_zero, List.foldl_nil]
  refine ⟨fun h2 => ⟨by omega, by omega, ⟨⟨by omega, by omega⟩, hg (by omega)⟩, fun h3 => by rw [hs (by omega) h3], fun h3 => ⟨by omega, ?_⟩⟩, fun h2 => ?_⟩
  · have e := hn (by omega)
    refine hN (i + 1) _ (by simp only [e, List.length_append, List.length_cons, List.length_nil, Nat.zero_add, List.map_append, List.map_cons, List.map_nil, Jr, Js, Jt, Ju, Qj, Qk, Ql, Qm, reduceIte, Nat.reduceEqDiff]; exact ⟨by repeat' (first | exact trivial | refine ⟨.inr rfl, ?_⟩), by repeat' (first | exact trivial | refine ⟨rfl, ?_⟩), by first | rfl | simp [closedB, Qd, Qb, Qc, dom, Qa, *], by first | rfl | simp [keepB, dom]⟩) ?_ ?_
    · exact ⟨by omega, by rw [e]; omega⟩
    · omega
  · have e : i = l.length := by omega
    subst e
    simp only [List.take_length]; unfold szS; rw [e0]
def QfJ : List AV → Option (Prop × AV)
  | [.sl lt 11 lx, .int .i64 b] => some ((((lx.map Jm).map (Own.row 1) = lx)) ∧ ((0 ≤ b ∧ b ≤ 1048576) ∧ ((lx.map Jm).length ≤ 9223372036854775807 ∧ ∀ y ∈ (lx.map Jm), Own.fitp y)), .int .i64 (szS Own.sz (lx.map Jm) b))
  | _ => none
theorem Qqm : ∀ args p v, QfJ args = some (p, v) → p → Contract P 32 args [] v [] ∧ noref v = true ∧ No99 v := by
  intro args p v h1 h2
  unfold QfJ at h1
  split at h1
  · rename_i lt lx b
    cases h1
    obtain ⟨e0, HP⟩ := h2
    have := Qql lt (lx.map Jm) b HP.1 HP.2
    exact ⟨by simpa only [e0] using this, rfl, trivial⟩
  · cases h1
theorem Qqn (s : Book) (a : Int) (ha : 0 ≤ a ∧ a ≤ 1048576) (hs : s.fitp) : Contract P 8 [.agg (s.row 1), .int .i64 a] [] (.int .i64 (s.sz a)) [] := by
  unfold Book.fitp at hs
  simp only [Book.row]
  refine Qg ((((Env.nil P).add 32 QfJ Qqm).add 33 QcZ QoI).add 34 QcX QoG) hm Qd9 (nlb rfl) rfl ?_; unfold VF; simp (maxSteps := 2000000) only [bitvec_to_nat, reduceIte, Nat.reduceEqDiff, Nat.reduceAdd, Nat.reduceLeDiff, reduceCtorEq, Nat.reduceBEq, Nat.reduceLT, Nat.reduceMod, fmc, QfJ, QcZ, QcX, int_toBitVec_meta, method_specs_simp]
  unfold Book.sz
  have qown : (szS Own.sz s.own a) ≤ max a (-1) := (K6 Wr s.own a (by omega)).2.2
  have qparts : (szS Part.sz s.parts (szS Own.sz s.own a)) ≤ max (szS Own.sz s.own a) (-1) := (K6 ZY s.parts (szS Own.sz s.own a) (by omega)).2.2
  have qseen : (szS Seen.sz s.seen (szS Part.sz s.parts (szS Own.sz s.own a))) ≤ max (szS Part.sz s.parts (szS Own.sz s.own a)) (-1) := (K6 ZX s.seen (szS Part.sz s.parts (szS Own.sz s.own a)) (by omega)).2.2
  repeat' (first | with_reducible apply And.intro | with_reducible intro _)
  all_goals first | omega | (exact hs) | (exact hs.1) | (exact hs.2.1) | (exact hs.2.2) | (exact hs.2.2.1) | (exact hs.2.2.2) | (exact hs.2.2.2.1) | (exact hs.2.2.2.2) | (exact hs.1.1) | (exact hs.1.2) | (exact hs.2.1.1) | (exact hs.2.1.2) | (unfold chk; grind) | grind
def QV : List AV → Option (Prop × AV)
  | [.agg [.sl 1 11 s_own, .sl 1 3 s_parts, .sl 1 2 s_seen], .int .i64 b] => some ((((s_own.map Jm).map (Own.row 1) = s_own) ∧ ((s_parts.map QX).map (Part.row 1) = s_parts) ∧ ((s_seen.map QZ).map Seen.row = s_seen)) ∧ ((0 ≤ b ∧ b ≤ 1048576) ∧ (Book.fitp (Book.mk (s_own.map Jm) (s_parts.map QX) (s_seen.map QZ)))), .int .i64 (Book.sz (Book.mk (s_own.map Jm) (s_parts.map QX) (s_seen.map QZ)) b))
  | _ => none
theorem Qlz : ∀ args p v, QV args = some (p, v) → p → Contract P 8 args [] v [] ∧ noref v = true ∧ No99 v := by
  intro args p v h1 h2
  unfold QV at h1
  split at h1
  · rename_i s_own s_parts s_seen b
    cases h1
    obtain ⟨⟨e0, e1, e2⟩, HP⟩ := h2
    have := Qqn (Book.mk (s_own.map Jm) (s_parts.map QX) (s_seen.map QZ)) b HP.1 HP.2
    exact ⟨by simpa only [e0, e1, e2, Book.row] using this, rfl, trivial⟩
  · cases h1
end
end Go.Ve

namespace Go.Ve
noncomputable section
open Go.Proofs
set_option maxRecDepth 100000
theorem Zd {lst : List ByteArray} {idx : Nat} {v : ByteArray} : (lst.map Jw).set idx (QU ((lst.map Jw).getD idx []) 0 [.str v]) = (lst.set idx v).map Jw :=
  JQ (α := ByteArray) (f := Jw) (fun s => v) fun x => by simp [Jw, QU]
def JC (a : List ByteArray) (i : Nat) : List ByteArray := a.take i ++ List.replicate (a.length - i) ⟨#[]⟩
theorem QaN {a : List ByteArray} {i : Nat} (h : i < a.length) : (JC a i).set i (a.getD i default) = JC a (i + 1) := by
  refine List.ext_getElem (by simp [JC]; omega) fun j h1 h2 => ?_
  by_cases e : j = i
  · subst e
    simp [JC, List.getElem_append, h]
    intro h9; omega
  · simp only [List.getElem_set_ne (Ne.symm e)]
    simp only [JC, List.getElem_append, List.length_take, List.getElem_take, List.getElem_replicate]
    split <;> split <;> first | rfl | omega
theorem Qhv (t : Nat) (a : List ByteArray) (ha : a.length ≤ 1048576) : Contract P 112 [.sl t 1 (a.map Jw)] [] (.sl 0 1 (a.map Jw)) [] := by
  refine Qg (Env.nil P) hm Qfh (nlb rfl) rfl ?_; unfold WN; simp (maxSteps := 2000000) only [bitvec_to_nat, reduceIte, Nat.reduceEqDiff, Nat.reduceAdd, Nat.reduceLeDiff, reduceCtorEq, Nat.reduceBEq, Nat.reduceLT, Nat.reduceMod, fmc, int_toBitVec_meta, method_specs_simp, Zd, Nat.sub_zero]
  have m0 : List.replicate a.length [.str ⟨#[]⟩] = (JC a 0).map Jw := by simp [JC, Jw]
  refine ⟨by omega, ?_⟩
  refine QE (fun i : Nat => [(4, .int .i64 i)]) (fun i => [(107, .arr 9 0 1 ((JC a i).map Jw))]) (fun i => i ≤ a.length) (fun i => a.length - i) 0 (by simp only [Jr, Js, Jt, Ju, Qj, Qk, Ql, Qm, reduceIte, Nat.reduceEqDiff]; exact ⟨by repeat' (first | exact trivial | refine ⟨.inr rfl, ?_⟩), ⟨congrArg (fun g => some (AObj.arr 9 0 1 g)) m0, trivial⟩, rfl, rfl⟩) (Nat.zero_le _) ?_
  intro i hi NX hN
  skip
  unfold Uu; simp (maxSteps := 2000000) only [bitvec_to_nat, reduceIte, Nat.reduceEqDiff, Nat.reduceAdd, Nat.reduceLeDiff, reduceCtorEq, Nat.reduceBEq, Nat.reduceLT, Nat.reduceMod, fmc, int_toBitVec_meta, method_specs_simp, Zd, Nat.sub_zero]
  refine ⟨fun h => ?_, fun h => ?_⟩
  · repeat' (first | with_reducible apply And.intro | with_reducible intro _)
    all_goals first
      | omega
      | rfl
      | exact hs2 (by omega)
      | (have e := QaN (a := a) (i := i) (by omega)
         try simp only [Jw] at *
         refine hN (i + 1) _ ⟨by repeat' (first | exact trivial | refine ⟨.inr rfl, ?_⟩), ⟨congrArg (fun g => some (AObj.arr 9 0 1 (List.map Jw g))) e, trivial⟩, rfl, rfl⟩ ?_ ?_ <;> omega)
  · have e : i = a.length := by omega
    subst e
    simp only [JC, List.take_length, Nat.sub_self, List.replicate_zero, List.append_nil]
    try rw [List.take_of_length_le (by simp)]
def Wt : List AV → Option (Prop × AV)
  | [.sl st 1 sx] => some ((((sx.map unS).map Jw = sx)) ∧ ((sx.map unS).length ≤ 1048576), .sl 0 1 ((sx.map unS).map Jw))
  | _ => none
theorem QkF : ∀ args p v, Wt args = some (p, v) → p → Contract P 112 args [] v [] ∧ noref v = true ∧ No99 v := by
  intro args p v h1 h2
  unfold Wt at h1
  split at h1
  · rename_i st sx
    cases h1
    obtain ⟨e0, HP⟩ := h2
    have := Qhv st (sx.map unS) HP
    exact ⟨by simpa only [e0] using this, rfl, by simp [No99, JI, Jv, Qe2, J4, KE, YM, Kv, JT, JJ, XB, KJ, KK, Y3, -List.map_map]⟩
  · cases h1
theorem Qhw (t t' : Nat) (p q : List ByteArray) (hp : p.length ≤ 4611686018427387904) : Contract P 117 [.sl t 1 (p.map Jw), .sl t' 1 (q.map Jw)] [] (.bool (decide (p = q))) [] := by
  refine Qg (Env.nil P) hm Qfi (nlb rfl) rfl ?_; unfold WO; simp (maxSteps := 2000000) only [bitvec_to_nat, reduceIte, Nat.reduceEqDiff, Nat.reduceAdd, Nat.reduceLeDiff, reduceCtorEq, Nat.reduceBEq, Nat.reduceLT, Nat.reduceMod, fmc, int_toBitVec_meta, method_specs_simp]
  refine ⟨fun h1 h => h1 (by rw [h]), fun h1 => ?_⟩
  refine QE (fun i : Nat => [(5, .int .i64 i)]) (fun _ => []) (fun i => i ≤ p.length ∧ ∀ j, j < i → p.getD j default = q.getD j default) (fun i => p.length - i) (0) (by simp only [Jr, Js, Jt, Ju, Qj, Qk, Ql, Qm, reduceIte, Nat.reduceEqDiff]; exact ⟨by repeat' (first | exact trivial | refine ⟨.inr rfl, ?_⟩), by repeat' (first | exact trivial | refine ⟨rfl, ?_⟩), by first | rfl | simp [closedB, Qd, Qb, Qc, dom, Qa, *], by first | rfl | simp [keepB, dom]⟩) ?_ ?_
  · exact ⟨Nat.zero_le _, by intro j hj; omega⟩
  intro i hi NX hN
  unfold Uv; simp (maxSteps := 2000000) only [bitvec_to_nat, reduceIte, Nat.reduceEqDiff, Nat.reduceAdd, Nat.reduceLeDiff, reduceCtorEq, Nat.reduceBEq, Nat.reduceLT, Nat.reduceMod, fmc, int_toBitVec_meta, method_specs_simp]
  skip
  repeat' (first | with_reducible apply And.intro | with_reducible intro _)
  all_goals first
    | omega
    | (refine hN (i + 1) _ (by simp only [Jr, Js, Jt, Ju, Qj, Qk, Ql, Qm, reduceIte, Nat.reduceEqDiff]; exact ⟨by repeat' (first | exact trivial | refine ⟨.inr rfl, ?_⟩), by repeat' (first | exact trivial | refine ⟨rfl, ?_⟩), by first | rfl | simp [closedB, Qd, Qb, Qc, dom, Qa, *], by first | rfl | simp [keepB, dom]⟩) ?_ ?_
       · exact ⟨by omega, Q5 hi.2 (by with_reducible assumption)⟩
       · omega)
    | (intro h; subst h; exact absurd rfl (by with_reducible assumption))
    | (exact WR (by omega) fun j hj => hi.2 j (by omega))
    | grind
def Wu : List AV → Option (Prop × AV)
  | [.sl ct 1 cx, .sl dt 1 dx] => some ((((cx.map unS).map Jw = cx) ∧ ((dx.map unS).map Jw = dx)) ∧ ((cx.map unS).length ≤ 4611686018427387904), .bool (decide ((cx.map unS) = (dx.map unS))))
  | _ => none
theorem QkG : ∀ args p v, Wu args = some (p, v) → p → Contract P 117 args [] v [] ∧ noref v = true ∧ No99 v := by
  intro args p v h1 h2
  unfold Wu at h1
  split at h1
  · rename_i ct cx dt dx
    cases h1
    obtain ⟨⟨e0, e1⟩, HP⟩ := h2
    have := Qhw ct dt (cx.map unS) (dx.map unS) HP
    exact ⟨by simpa only [e0, e1] using this, rfl, trivial⟩
  · cases h1
theorem Qqo (s : Zone) : Contract P 41 [.agg (s.row)] [] (.agg (s.row)) [] := by
  simp only [Zone.row]
  refine Qg (Env.nil P) hm Qeg (nlb rfl) rfl ?_; unfold VO; simp (maxSteps := 2000000) only [bitvec_to_nat, reduceIte, Nat.reduceEqDiff, Nat.reduceAdd, Nat.reduceLeDiff, reduceCtorEq, Nat.reduceBEq, Nat.reduceLT, Nat.reduceMod, fmc, int_toBitVec_meta, method_specs_simp]
  all_goals trivial
def Uz : List AV → Option (Prop × AV)
  | [.agg [.str s_nm, .int .i64 s_x0, .int .i64 s_y0, .int .i64 s_x1, .int .i64 s_y1]] => some ((True) ∧ (True), .agg (Zone.row (Zone.mk s_nm s_x0 s_y0 s_x1 s_y1)))
  | _ => none
theorem QlA : ∀ args p v, Uz args = some (p, v) → p → Contract P 41 args [] v [] ∧ noref v = true ∧ No99 v := by
  intro args p v h1 h2
  unfold Uz at h1
  split at h1
  · rename_i s_nm s_x0 s_y0 s_x1 s_y1
    cases h1
    obtain ⟨_, HP⟩ := h2
    have := Qqo (Zone.mk s_nm s_x0 s_y0 s_x1 s_y1)
    exact ⟨by simpa only [Zone.row] using this, rfl, by simp [Zone.row, No99, JI, Jv, Qe2, J4, KE, YM, Kv, JT, JJ, XB, KJ, KK, Y3, -List.map_map]⟩
  · cases h1
theorem QfK {lst : List Zone} {idx : Nat} {vnm : ByteArray} {vx0 : Int} {vy0 : Int} {vx1 : Int} {vy1 : Int} : (lst.map Zone.row).set idx (QU ((lst.map Zone.row).getD idx []) 0 [.str vnm, .int .i64 vx0, .int .i64 vy0, .int .i64 vx1, .int .i64 vy1]) = (lst.set idx (Zone.mk vnm vx0 vy0 vx1 vy1)).map Zone.row :=
  JQ (α := Zone) (f := Zone.row) (fun s => (Zone.mk vnm vx0 vy0 vx1 vy1)) fun x => by simp [Zone.row, QU]
def Xg (a : List Zone) (i : Nat) : List Zone := a.take i ++ List.replicate (a.length - i) ⟨⟨#[]⟩, 0, 0, 0, 0⟩
theorem QhV {a : List Zone} {i : Nat} (h : i < a.length) : (Xg a i).set i (a.getD i default) = Xg a (i + 1) := by
  refine List.ext_getElem (by simp [Xg]; omega) fun j h1 h2 => ?_
  by_cases e : j = i
  · subst e
    simp [Xg, List.getElem_append, h]
    intro h9; omega
  · simp only [List.getElem_set_ne (Ne.symm e)]
    simp only [Xg, List.getElem_append, List.length_take, List.getElem_take, List.getElem_replicate]
    split <;> split <;> first | rfl | omega
theorem QjF (t : Nat) (a : List Zone) (ha : a.length ≤ 1048576) : Contract P 10 [.sl t 5 (a.map Zone.row)] [] (.sl 0 5 (a.map Zone.row)) [] := by
  refine Qg ((Env.nil P).add 41 Uz QlA) hm Qcp (nlb rfl) rfl ?_; unfold Uf; simp (maxSteps := 2000000) only [bitvec_to_nat, reduceIte, Nat.reduceEqDiff, Nat.reduceAdd, Nat.reduceLeDiff, reduceCtorEq, Nat.reduceBEq, Nat.reduceLT, Nat.reduceMod, fmc, Uz, int_toBitVec_meta, method_specs_simp, QfK, Nat.sub_zero]
  have m0 : List.replicate a.length [.str ⟨#[]⟩, .int .i64 0, .int .i64 0, .int .i64 0, .int .i64 0] = (Xg a 0).map Zone.row := by simp [Xg, Zone.row]
  refine ⟨by omega, ?_⟩
  refine QE (fun i : Nat => [(4, .int .i64 i)]) (fun i => [(107, .arr 76 0 5 ((Xg a i).map Zone.row))]) (fun i => i ≤ a.length) (fun i => a.length - i) 0 (by simp only [Jr, Js, Jt, Ju, Qj, Qk, Ql, Qm, reduceIte, Nat.reduceEqDiff]; exact ⟨by repeat' (first | exact trivial | refine ⟨.inr rfl, ?_⟩), ⟨congrArg (fun g => some (AObj.arr 76 0 5 g)) m0, trivial⟩, rfl, rfl⟩) (Nat.zero_le _) ?_
  intro i hi NX hN
  skip
  unfold XO; simp (maxSteps := 2000000) only [bitvec_to_nat, reduceIte, Nat.reduceEqDiff, Nat.reduceAdd, Nat.reduceLeDiff, reduceCtorEq, Nat.reduceBEq, Nat.reduceLT, Nat.reduceMod, fmc, Uz, int_toBitVec_meta, method_specs_simp, QfK, Nat.sub_zero]
  refine ⟨fun h => ?_, fun h => ?_⟩
  · repeat' (first | with_reducible apply And.intro | with_reducible intro _)
    all_goals first
      | omega
      | rfl
      | exact hs2 (by omega)
      | (have e := QhV (a := a) (i := i) (by omega)
         try simp only [Zone.row] at *
         refine hN (i + 1) _ ⟨by repeat' (first | exact trivial | refine ⟨.inr rfl, ?_⟩), ⟨congrArg (fun g => some (AObj.arr 76 0 5 (List.map Zone.row g))) e, trivial⟩, rfl, rfl⟩ ?_ ?_ <;> omega)
  · have e : i = a.length := by omega
    subst e
    simp only [Xg, List.take_length, Nat.sub_self, List.replicate_zero, List.append_nil]
    try rw [List.take_of_length_le (by simp)]
theorem Qqp (c d : Zone)  : Contract P 48 [.agg (c.row), .agg (d.row)] [] (.bool (decide (c = d))) [] := by
  obtain ⟨c_nm, c_x0, c_y0, c_x1, c_y1⟩ := c
  obtain ⟨d_nm, d_x0, d_y0, d_x1, d_y1⟩ := d
  simp only [Zone.row]
  refine Qg (Env.nil P) hm Qei (nlb rfl) rfl ?_; unfold VQ; simp (maxSteps := 2000000) only [bitvec_to_nat, reduceIte, Nat.reduceEqDiff, Nat.reduceAdd, Nat.reduceLeDiff, reduceCtorEq, Nat.reduceBEq, Nat.reduceLT, Nat.reduceMod, fmc, int_toBitVec_meta, method_specs_simp]
  simp only [Zone.mk.injEq]
  repeat' (first | with_reducible apply And.intro | with_reducible intro _)
  all_goals first | omega | (simp_all; done) | grind
def Qc0 : List AV → Option (Prop × AV)
  | [.agg [.str c_nm, .int .i64 c_x0, .int .i64 c_y0, .int .i64 c_x1, .int .i64 c_y1], .agg [.str d_nm, .int .i64 d_x0, .int .i64 d_y0, .int .i64 d_x1, .int .i64 d_y1]] => some ((True) ∧ (True), .bool (decide ((Zone.mk c_nm c_x0 c_y0 c_x1 c_y1) = (Zone.mk d_nm d_x0 d_y0 d_x1 d_y1))))
  | _ => none
theorem Qqq : ∀ args p v, Qc0 args = some (p, v) → p → Contract P 48 args [] v [] ∧ noref v = true ∧ No99 v := by
  intro args p v h1 h2
  unfold Qc0 at h1
  split at h1
  · rename_i c_nm c_x0 c_y0 c_x1 c_y1 d_nm d_x0 d_y0 d_x1 d_y1
    cases h1
    obtain ⟨_, HP⟩ := h2
    have := Qqp (Zone.mk c_nm c_x0 c_y0 c_x1 c_y1) (Zone.mk d_nm d_x0 d_y0 d_x1 d_y1)
    exact ⟨by simpa only [Zone.row, Zone.row] using this, rfl, trivial⟩
  · cases h1
theorem QoJ (t t' : Nat) (p q : List Zone) (hp : p.length ≤ 4611686018427387904) : Contract P 14 [.sl t 5 (p.map Zone.row), .sl t' 5 (q.map Zone.row)] [] (.bool (decide (p = q))) [] := by
  refine Qg ((Env.nil P).add 48 Qc0 Qqq) hm Qcq (nlb rfl) rfl ?_; unfold Ug; simp (maxSteps := 2000000) only [bitvec_to_nat, reduceIte, Nat.reduceEqDiff, Nat.reduceAdd, Nat.reduceLeDiff, reduceCtorEq, Nat.reduceBEq, Nat.reduceLT, Nat.reduceMod, fmc, Qc0, int_toBitVec_meta, method_specs_simp]
  refine ⟨fun h1 h => h1 (by rw [h]), fun h1 => ?_⟩
  refine QE (fun i : Nat => [(5, .int .i64 i)]) (fun _ => []) (fun i => i ≤ p.length ∧ ∀ j, j < i → p.getD j default = q.getD j default) (fun i => p.length - i) (0) (by simp only [Jr, Js, Jt, Ju, Qj, Qk, Ql, Qm, reduceIte, Nat.reduceEqDiff]; exact ⟨by repeat' (first | exact trivial | refine ⟨.inr rfl, ?_⟩), by repeat' (first | exact trivial | refine ⟨rfl, ?_⟩), by first | rfl | simp [closedB, Qd, Qb, Qc, dom, Qa, *], by first | rfl | simp [keepB, dom]⟩) ?_ ?_
  · exact ⟨Nat.zero_le _, by intro j hj; omega⟩
  intro i hi NX hN
  unfold XP; simp (maxSteps := 2000000) only [bitvec_to_nat, reduceIte, Nat.reduceEqDiff, Nat.reduceAdd, Nat.reduceLeDiff, reduceCtorEq, Nat.reduceBEq, Nat.reduceLT, Nat.reduceMod, fmc, Qc0, int_toBitVec_meta, method_specs_simp]
  skip
  repeat' (first | with_reducible apply And.intro | with_reducible intro _)
  all_goals first
    | omega
    | (refine hN (i + 1) _ (by simp only [Jr, Js, Jt, Ju, Qj, Qk, Ql, Qm, reduceIte, Nat.reduceEqDiff]; exact ⟨by repeat' (first | exact trivial | refine ⟨.inr rfl, ?_⟩), by repeat' (first | exact trivial | refine ⟨rfl, ?_⟩), by first | rfl | simp [closedB, Qd, Qb, Qc, dom, Qa, *], by first | rfl | simp [keepB, dom]⟩) ?_ ?_
       · exact ⟨by omega, Q5 hi.2 (by with_reducible assumption)⟩
       · omega)
    | (intro h; subst h; exact absurd rfl (by with_reducible assumption))
    | (exact WR (by omega) fun j hj => hi.2 j (by omega))
    | grind
def QL : List AV → Option (Prop × AV)
  | [.sl ct 5 cx, .sl dt 5 dx] => some ((((cx.map Qx).map Zone.row = cx) ∧ ((dx.map Qx).map Zone.row = dx)) ∧ ((cx.map Qx).length ≤ 4611686018427387904), .bool (decide ((cx.map Qx) = (dx.map Qx))))
  | _ => none
theorem QjG : ∀ args p v, QL args = some (p, v) → p → Contract P 14 args [] v [] ∧ noref v = true ∧ No99 v := by
  intro args p v h1 h2
  unfold QL at h1
  split at h1
  · rename_i ct cx dt dx
    cases h1
    obtain ⟨⟨e0, e1⟩, HP⟩ := h2
    have := QoJ ct dt (cx.map Qx) (dx.map Qx) HP
    exact ⟨by simpa only [e0, e1] using this, rfl, trivial⟩
  · cases h1
theorem Qqr (s : Seen) : Contract P 85 [.agg (s.row)] [] (.agg (s.row)) [] := by
  simp only [Seen.row]
  refine Qg (Env.nil P) hm Qeq (nlb rfl) rfl ?_; unfold V1; simp (maxSteps := 2000000) only [bitvec_to_nat, reduceIte, Nat.reduceEqDiff, Nat.reduceAdd, Nat.reduceLeDiff, reduceCtorEq, Nat.reduceBEq, Nat.reduceLT, Nat.reduceMod, fmc, int_toBitVec_meta, method_specs_simp]
  all_goals trivial
def UA : List AV → Option (Prop × AV)
  | [.agg [.str s_fl, .int .i64 s_nr]] => some ((True) ∧ (True), .agg (Seen.row (Seen.mk s_fl s_nr)))
  | _ => none
theorem QlB : ∀ args p v, UA args = some (p, v) → p → Contract P 85 args [] v [] ∧ noref v = true ∧ No99 v := by
  intro args p v h1 h2
  unfold UA at h1
  split at h1
  · rename_i s_fl s_nr
    cases h1
    obtain ⟨_, HP⟩ := h2
    have := Qqr (Seen.mk s_fl s_nr)
    exact ⟨by simpa only [Seen.row] using this, rfl, by simp [Seen.row, No99, JI, Jv, Qe2, J4, KE, YM, Kv, JT, JJ, XB, KJ, KK, Y3, -List.map_map]⟩
  · cases h1
theorem QfL {lst : List Seen} {idx : Nat} {vfl : ByteArray} {vnr : Int} : (lst.map Seen.row).set idx (QU ((lst.map Seen.row).getD idx []) 0 [.str vfl, .int .i64 vnr]) = (lst.set idx (Seen.mk vfl vnr)).map Seen.row :=
  JQ (α := Seen) (f := Seen.row) (fun s => (Seen.mk vfl vnr)) fun x => by simp [Seen.row, QU]
def Xh (a : List Seen) (i : Nat) : List Seen := a.take i ++ List.replicate (a.length - i) ⟨⟨#[]⟩, 0⟩
theorem QhW {a : List Seen} {i : Nat} (h : i < a.length) : (Xh a i).set i (a.getD i default) = Xh a (i + 1) := by
  refine List.ext_getElem (by simp [Xh]; omega) fun j h1 h2 => ?_
  by_cases e : j = i
  · subst e
    simp [Xh, List.getElem_append, h]
    intro h9; omega
  · simp only [List.getElem_set_ne (Ne.symm e)]
    simp only [Xh, List.getElem_append, List.length_take, List.getElem_take, List.getElem_replicate]
    split <;> split <;> first | rfl | omega
theorem QoK (t : Nat) (a : List Seen) (ha : a.length ≤ 1048576) : Contract P 44 [.sl t 2 (a.map Seen.row)] [] (.sl 0 2 (a.map Seen.row)) [] := by
  refine Qg ((Env.nil P).add 85 UA QlB) hm Qcu (nlb rfl) rfl ?_; unfold Uk; simp (maxSteps := 2000000) only [bitvec_to_nat, reduceIte, Nat.reduceEqDiff, Nat.reduceAdd, Nat.reduceLeDiff, reduceCtorEq, Nat.reduceBEq, Nat.reduceLT, Nat.reduceMod, fmc, UA, int_toBitVec_meta, method_specs_simp, QfL, Nat.sub_zero]
  have m0 : List.replicate a.length [.str ⟨#[]⟩, .int .i64 0] = (Xh a 0).map Seen.row := by simp [Xh, Seen.row]
  refine ⟨by omega, ?_⟩
  refine QE (fun i : Nat => [(4, .int .i64 i)]) (fun i => [(107, .arr 118 0 2 ((Xh a i).map Seen.row))]) (fun i => i ≤ a.length) (fun i => a.length - i) 0 (by simp only [Jr, Js, Jt, Ju, Qj, Qk, Ql, Qm, reduceIte, Nat.reduceEqDiff]; exact ⟨by repeat' (first | exact trivial | refine ⟨.inr rfl, ?_⟩), ⟨congrArg (fun g => some (AObj.arr 118 0 2 g)) m0, trivial⟩, rfl, rfl⟩) (Nat.zero_le _) ?_
  intro i hi NX hN
  skip
  unfold XV; simp (maxSteps := 2000000) only [bitvec_to_nat, reduceIte, Nat.reduceEqDiff, Nat.reduceAdd, Nat.reduceLeDiff, reduceCtorEq, Nat.reduceBEq, Nat.reduceLT, Nat.reduceMod, fmc, UA, int_toBitVec_meta, method_specs_simp, QfL, Nat.sub_zero]
  refine ⟨fun h => ?_, fun h => ?_⟩
  · repeat' (first | with_reducible apply And.intro | with_reducible intro _)
    all_goals first
      | omega
      | rfl
      | exact hs2 (by omega)
      | (have e := QhW (a := a) (i := i) (by omega)
         try simp only [Seen.row] at *
         refine hN (i + 1) _ ⟨by repeat' (first | exact trivial | refine ⟨.inr rfl, ?_⟩), ⟨congrArg (fun g => some (AObj.arr 118 0 2 (List.map Seen.row g))) e, trivial⟩, rfl, rfl⟩ ?_ ?_ <;> omega)
  · have e : i = a.length := by omega
    subst e
    simp only [Xh, List.take_length, Nat.sub_self, List.replicate_zero, List.append_nil]
    try rw [List.take_of_length_le (by simp)]
def Qc1 : List AV → Option (Prop × AV)
  | [.sl st 2 sx] => some ((((sx.map QZ).map Seen.row = sx)) ∧ ((sx.map QZ).length ≤ 1048576), .sl 0 2 ((sx.map QZ).map Seen.row))
  | _ => none
theorem QoL : ∀ args p v, Qc1 args = some (p, v) → p → Contract P 44 args [] v [] ∧ noref v = true ∧ No99 v := by
  intro args p v h1 h2
  unfold Qc1 at h1
  split at h1
  · rename_i st sx
    cases h1
    obtain ⟨e0, HP⟩ := h2
    have := QoK st (sx.map QZ) HP
    exact ⟨by simpa only [e0] using this, rfl, by simp [No99, JI, Jv, Qe2, J4, KE, YM, Kv, JT, JJ, XB, KJ, KK, Y3, -List.map_map]⟩
  · cases h1
theorem Qqs (c d : Seen)  : Contract P 93 [.agg (c.row), .agg (d.row)] [] (.bool (decide (c = d))) [] := by
  obtain ⟨c_fl, c_nr⟩ := c
  obtain ⟨d_fl, d_nr⟩ := d
  simp only [Seen.row]
  refine Qg (Env.nil P) hm Qes (nlb rfl) rfl ?_; unfold V3; simp (maxSteps := 2000000) only [bitvec_to_nat, reduceIte, Nat.reduceEqDiff, Nat.reduceAdd, Nat.reduceLeDiff, reduceCtorEq, Nat.reduceBEq, Nat.reduceLT, Nat.reduceMod, fmc, int_toBitVec_meta, method_specs_simp]
  simp only [Seen.mk.injEq]
  repeat' (first | with_reducible apply And.intro | with_reducible intro _)
  all_goals first | omega | (simp_all; done) | grind
def Qc2 : List AV → Option (Prop × AV)
  | [.agg [.str c_fl, .int .i64 c_nr], .agg [.str d_fl, .int .i64 d_nr]] => some ((True) ∧ (True), .bool (decide ((Seen.mk c_fl c_nr) = (Seen.mk d_fl d_nr))))
  | _ => none
theorem Qqt : ∀ args p v, Qc2 args = some (p, v) → p → Contract P 93 args [] v [] ∧ noref v = true ∧ No99 v := by
  intro args p v h1 h2
  unfold Qc2 at h1
  split at h1
  · rename_i c_fl c_nr d_fl d_nr
    cases h1
    obtain ⟨_, HP⟩ := h2
    have := Qqs (Seen.mk c_fl c_nr) (Seen.mk d_fl d_nr)
    exact ⟨by simpa only [Seen.row, Seen.row] using this, rfl, trivial⟩
  · cases h1
theorem QoM (t t' : Nat) (p q : List Seen) (hp : p.length ≤ 4611686018427387904) : Contract P 51 [.sl t 2 (p.map Seen.row), .sl t' 2 (q.map Seen.row)] [] (.bool (decide (p = q))) [] := by
  refine Qg ((Env.nil P).add 93 Qc2 Qqt) hm Qcw (nlb rfl) rfl ?_; unfold Um; simp (maxSteps := 2000000) only [bitvec_to_nat, reduceIte, Nat.reduceEqDiff, Nat.reduceAdd, Nat.reduceLeDiff, reduceCtorEq, Nat.reduceBEq, Nat.reduceLT, Nat.reduceMod, fmc, Qc2, int_toBitVec_meta, method_specs_simp]
  refine ⟨fun h1 h => h1 (by rw [h]), fun h1 => ?_⟩
  refine QE (fun i : Nat => [(5, .int .i64 i)]) (fun _ => []) (fun i => i ≤ p.length ∧ ∀ j, j < i → p.getD j default = q.getD j default) (fun i => p.length - i) (0) (by simp only [Jr, Js, Jt, Ju, Qj, Qk, Ql, Qm, reduceIte, Nat.reduceEqDiff]; exact ⟨by repeat' (first | exact trivial | refine ⟨.inr rfl, ?_⟩), by repeat' (first | exact trivial | refine ⟨rfl, ?_⟩), by first | rfl | simp [closedB, Qd, Qb, Qc, dom, Qa, *], by first | rfl | simp [keepB, dom]⟩) ?_ ?_
  · exact ⟨Nat.zero_le _, by intro j hj; omega⟩
  intro i hi NX hN
  unfold XX; simp (maxSteps := 2000000) only [bitvec_to_nat, reduceIte, Nat.reduceEqDiff, Nat.reduceAdd, Nat.reduceLeDiff, reduceCtorEq, Nat.reduceBEq, Nat.reduceLT, Nat.reduceMod, fmc, Qc2, int_toBitVec_meta, method_specs_simp]
  skip
  repeat' (first | with_reducible apply And.intro | with_reducible intro _)
  all_goals first
    | omega
    | (refine hN (i + 1) _ (by simp only [Jr, Js, Jt, Ju, Qj, Qk, Ql, Qm, reduceIte, Nat.reduceEqDiff]; exact ⟨by repeat' (first | exact trivial | refine ⟨.inr rfl, ?_⟩), by repeat' (first | exact trivial | refine ⟨rfl, ?_⟩), by first | rfl | simp [closedB, Qd, Qb, Qc, dom, Qa, *], by first | rfl | simp [keepB, dom]⟩) ?_ ?_
       · exact ⟨by omega, Q5 hi.2 (by with_reducible assumption)⟩
       · omega)
    | (intro h; subst h; exact absurd rfl (by with_reducible assumption))
    | (exact WR (by omega) fun j hj => hi.2 j (by omega))
    | grind
def Wd : List AV → Option (Prop × AV)
  | [.sl ct 2 cx, .sl dt 2 dx] => some ((((cx.map QZ).map Seen.row = cx) ∧ ((dx.map QZ).map Seen.row = dx)) ∧ ((cx.map QZ).length ≤ 4611686018427387904), .bool (decide ((cx.map QZ) = (dx.map QZ))))
  | _ => none
theorem QjH : ∀ args p v, Wd args = some (p, v) → p → Contract P 51 args [] v [] ∧ noref v = true ∧ No99 v := by
  intro args p v h1 h2
  unfold Wd at h1
  split at h1
  · rename_i ct cx dt dx
    cases h1
    obtain ⟨⟨e0, e1⟩, HP⟩ := h2
    have := QoM ct dt (cx.map QZ) (dx.map QZ) HP
    exact ⟨by simpa only [e0, e1] using this, rfl, trivial⟩
  · cases h1
theorem Qqu (s : Part) (hs : s.small) : Contract P 84 [.agg (s.row 1)] [] (.agg (s.row 0)) [] := by
  unfold Part.small at hs
  simp only [Part.row]
  refine Qg ((Env.nil P).add 25 Qbb Qlu) hm V0 (nlb rfl) rfl ?_; unfold Xb; simp (maxSteps := 2000000) only [bitvec_to_nat, reduceIte, Nat.reduceEqDiff, Nat.reduceAdd, Nat.reduceLeDiff, reduceCtorEq, Nat.reduceBEq, Nat.reduceLT, Nat.reduceMod, fmc, Qbb, int_toBitVec_meta, method_specs_simp]
  repeat' (first | with_reducible apply And.intro | with_reducible intro _)
  all_goals first | omega | grind | grind [Word.small, Own.small, Part.small, Book.small, Sector.small, HCraft.small, World.small]
def Qc3 : List AV → Option (Prop × AV)
  | [.agg [.str s_fl, .int .i64 s_nr, .sl 1 6 s_bx]] => some ((((s_bx.map Qz).map Box6.row = s_bx)) ∧ (Part.small (Part.mk s_fl s_nr (s_bx.map Qz))), .agg (Part.row 0 (Part.mk s_fl s_nr (s_bx.map Qz))))
  | _ => none
theorem Qqv : ∀ args p v, Qc3 args = some (p, v) → p → Contract P 84 args [] v [] ∧ noref v = true ∧ No99 v := by
  intro args p v h1 h2
  unfold Qc3 at h1
  split at h1
  · rename_i s_fl s_nr s_bx
    cases h1
    obtain ⟨e0, HP⟩ := h2
    have := Qqu (Part.mk s_fl s_nr (s_bx.map Qz)) HP
    exact ⟨by simpa only [e0, Part.row] using this, rfl, by simp [Part.row, No99, JI, Jv, Qe2, J4, KE, YM, Kv, JT, JJ, XB, KJ, KK, Y3, -List.map_map]⟩
  · cases h1
theorem QlC {lst : List Part} {idx : Nat} {vfl : ByteArray} {vnr : Int} {vbx : List Box6} : (lst.map (Part.row 0)).set idx (QU ((lst.map (Part.row 0)).getD idx []) 0 [.str vfl, .int .i64 vnr, .sl 0 6 (vbx.map Box6.row)]) = (lst.set idx (Part.mk vfl vnr vbx)).map (Part.row 0) :=
  JQ (α := Part) (f := (Part.row 0)) (fun s => (Part.mk vfl vnr vbx)) fun x => by simp [Part.row, QU]
def Wv (a : List Part) (i : Nat) : List Part := a.take i ++ List.replicate (a.length - i) ⟨⟨#[]⟩, 0, []⟩
theorem Qm0 {a : List Part} {i : Nat} (h : i < a.length) : (Wv a i).set i (a.getD i default) = Wv a (i + 1) := by
  refine List.ext_getElem (by simp [Wv]; omega) fun j h1 h2 => ?_
  by_cases e : j = i
  · subst e
    simp [Wv, List.getElem_append, h]
    intro h9; omega
  · simp only [List.getElem_set_ne (Ne.symm e)]
    simp only [Wv, List.getElem_append, List.length_take, List.getElem_take, List.getElem_replicate]
    split <;> split <;> first | rfl | omega
theorem QoN (t : Nat) (a : List Part) (ha : a.length ≤ 1048576) (hs : ∀ x ∈ a, x.small) : Contract P 43 [.sl t 3 (a.map (Part.row 1))] [] (.sl 0 3 (a.map (Part.row 0))) [] := by
  refine Qg ((Env.nil P).add 84 Qc3 Qqv) hm Qct (nlb rfl) rfl ?_; unfold Uj; simp (maxSteps := 2000000) only [bitvec_to_nat, reduceIte, Nat.reduceEqDiff, Nat.reduceAdd, Nat.reduceLeDiff, reduceCtorEq, Nat.reduceBEq, Nat.reduceLT, Nat.reduceMod, fmc, Qc3, int_toBitVec_meta, method_specs_simp, QlC, Nat.sub_zero]
  have m0 : List.replicate a.length [.str ⟨#[]⟩, .int .i64 0, .sl 0 6 []] = (Wv a 0).map (Part.row 0) := by simp [Wv, Part.row]
  refine ⟨by omega, ?_⟩
  refine QE (fun i : Nat => [(4, .int .i64 i)]) (fun i => [(107, .arr 124 0 3 ((Wv a i).map (Part.row 0)))]) (fun i => i ≤ a.length) (fun i => a.length - i) 0 (by simp only [Jr, Js, Jt, Ju, Qj, Qk, Ql, Qm, reduceIte, Nat.reduceEqDiff]; exact ⟨by repeat' (first | exact trivial | refine ⟨.inr rfl, ?_⟩), ⟨congrArg (fun g => some (AObj.arr 124 0 3 g)) m0, trivial⟩, rfl, rfl⟩) (Nat.zero_le _) ?_
  intro i hi NX hN
  have hs2 : i < a.length → (a.getD i default).small := fun h => hs _ (Jy h)
  unfold XU; simp (maxSteps := 2000000) only [bitvec_to_nat, reduceIte, Nat.reduceEqDiff, Nat.reduceAdd, Nat.reduceLeDiff, reduceCtorEq, Nat.reduceBEq, Nat.reduceLT, Nat.reduceMod, fmc, Qc3, int_toBitVec_meta, method_specs_simp, QlC, Nat.sub_zero]
  refine ⟨fun h => ?_, fun h => ?_⟩
  · repeat' (first | with_reducible apply And.intro | with_reducible intro _)
    all_goals first
      | omega
      | rfl
      | exact hs2 (by omega)
      | (have e := Qm0 (a := a) (i := i) (by omega)
         try simp only [Part.row] at *
         refine hN (i + 1) _ ⟨by repeat' (first | exact trivial | refine ⟨.inr rfl, ?_⟩), ⟨congrArg (fun g => some (AObj.arr 124 0 3 (List.map (Part.row 0) g))) e, trivial⟩, rfl, rfl⟩ ?_ ?_ <;> omega)
  · have e : i = a.length := by omega
    subst e
    simp only [Wv, List.take_length, Nat.sub_self, List.replicate_zero, List.append_nil]
    try rw [List.take_of_length_le (by simp)]
def Qc4 : List AV → Option (Prop × AV)
  | [.sl st 3 sx] => some ((((sx.map QX).map (Part.row 1) = sx)) ∧ ((sx.map QX).length ≤ 1048576 ∧ ∀ x ∈ (sx.map QX), x.small), .sl 0 3 ((sx.map QX).map (Part.row 0)))
  | _ => none
theorem QoO : ∀ args p v, Qc4 args = some (p, v) → p → Contract P 43 args [] v [] ∧ noref v = true ∧ No99 v := by
  intro args p v h1 h2
  unfold Qc4 at h1
  split at h1
  · rename_i st sx
    cases h1
    obtain ⟨e0, HP⟩ := h2
    have := QoN st (sx.map QX) HP.1 HP.2
    exact ⟨by simpa only [e0] using this, rfl, by simp [No99, JI, Jv, Qe2, J4, KE, YM, Kv, JT, JJ, XB, KJ, KK, Y3, -List.map_map]⟩
  · cases h1
theorem Qqw (c d : Part) (hl : c.bx.length ≤ 4611686018427387904) : Contract P 92 [.agg (c.row 0), .agg (d.row 0)] [] (.bool (decide (c = d))) [] := by
  obtain ⟨c_fl, c_nr, c_bx⟩ := c
  obtain ⟨d_fl, d_nr, d_bx⟩ := d
  simp only [Part.row]
  refine Qg ((Env.nil P).add 27 Qba Qlt) hm Qer (nlb rfl) rfl ?_; unfold V2; simp (maxSteps := 2000000) only [bitvec_to_nat, reduceIte, Nat.reduceEqDiff, Nat.reduceAdd, Nat.reduceLeDiff, reduceCtorEq, Nat.reduceBEq, Nat.reduceLT, Nat.reduceMod, fmc, Qba, int_toBitVec_meta, method_specs_simp]
  simp only [Part.mk.injEq]
  repeat' (first | with_reducible apply And.intro | with_reducible intro _)
  all_goals first | omega | (simp_all; done) | grind | grind [Word.small, Own.small, Part.small, Book.small, Sector.small, HCraft.small, World.small]
def Qc5 : List AV → Option (Prop × AV)
  | [.agg [.str c_fl, .int .i64 c_nr, .sl 0 6 c_bx], .agg [.str d_fl, .int .i64 d_nr, .sl 0 6 d_bx]] => some ((((c_bx.map Qz).map Box6.row = c_bx) ∧ ((d_bx.map Qz).map Box6.row = d_bx)) ∧ ((Part.mk c_fl c_nr (c_bx.map Qz)).bx.length ≤ 4611686018427387904), .bool (decide ((Part.mk c_fl c_nr (c_bx.map Qz)) = (Part.mk d_fl d_nr (d_bx.map Qz)))))
  | _ => none
theorem Qqx : ∀ args p v, Qc5 args = some (p, v) → p → Contract P 92 args [] v [] ∧ noref v = true ∧ No99 v := by
  intro args p v h1 h2
  unfold Qc5 at h1
  split at h1
  · rename_i c_fl c_nr c_bx d_fl d_nr d_bx
    cases h1
    obtain ⟨⟨e0, e1⟩, HP⟩ := h2
    have := Qqw (Part.mk c_fl c_nr (c_bx.map Qz)) (Part.mk d_fl d_nr (d_bx.map Qz)) HP
    exact ⟨by simpa only [e0, e1, Part.row, Part.row] using this, rfl, trivial⟩
  · cases h1
theorem QoP (t t' : Nat) (p q : List Part) (hp : p.length ≤ 4611686018427387904) (hx : ∀ x ∈ p, x.bx.length ≤ 4611686018427387904) : Contract P 50 [.sl t 3 (p.map (Part.row 0)), .sl t' 3 (q.map (Part.row 0))] [] (.bool (decide (p = q))) [] := by
  refine Qg ((Env.nil P).add 92 Qc5 Qqx) hm Qcv (nlb rfl) rfl ?_; unfold Ul; simp (maxSteps := 2000000) only [bitvec_to_nat, reduceIte, Nat.reduceEqDiff, Nat.reduceAdd, Nat.reduceLeDiff, reduceCtorEq, Nat.reduceBEq, Nat.reduceLT, Nat.reduceMod, fmc, Qc5, int_toBitVec_meta, method_specs_simp]
  refine ⟨fun h1 h => h1 (by rw [h]), fun h1 => ?_⟩
  refine QE (fun i : Nat => [(5, .int .i64 i)]) (fun _ => []) (fun i => i ≤ p.length ∧ ∀ j, j < i → p.getD j default = q.getD j default) (fun i => p.length - i) (0) (by simp only [Jr, Js, Jt, Ju, Qj, Qk, Ql, Qm, reduceIte, Nat.reduceEqDiff]; exact ⟨by repeat' (first | exact trivial | refine ⟨.inr rfl, ?_⟩), by repeat' (first | exact trivial | refine ⟨rfl, ?_⟩), by first | rfl | simp [closedB, Qd, Qb, Qc, dom, Qa, *], by first | rfl | simp [keepB, dom]⟩) ?_ ?_
  · exact ⟨Nat.zero_le _, by intro j hj; omega⟩
  intro i hi NX hN
  unfold XW; simp (maxSteps := 2000000) only [bitvec_to_nat, reduceIte, Nat.reduceEqDiff, Nat.reduceAdd, Nat.reduceLeDiff, reduceCtorEq, Nat.reduceBEq, Nat.reduceLT, Nat.reduceMod, fmc, Qc5, int_toBitVec_meta, method_specs_simp]
  have hx2 : i < p.length → _ := fun h => hx _ (Jy h)
  repeat' (first | with_reducible apply And.intro | with_reducible intro _)
  all_goals first
    | omega
    | (refine hN (i + 1) _ (by simp only [Jr, Js, Jt, Ju, Qj, Qk, Ql, Qm, reduceIte, Nat.reduceEqDiff]; exact ⟨by repeat' (first | exact trivial | refine ⟨.inr rfl, ?_⟩), by repeat' (first | exact trivial | refine ⟨rfl, ?_⟩), by first | rfl | simp [closedB, Qd, Qb, Qc, dom, Qa, *], by first | rfl | simp [keepB, dom]⟩) ?_ ?_
       · exact ⟨by omega, Q5 hi.2 (by with_reducible assumption)⟩
       · omega)
    | (intro h; subst h; exact absurd rfl (by with_reducible assumption))
    | (exact WR (by omega) fun j hj => hi.2 j (by omega))
    | grind
def We : List AV → Option (Prop × AV)
  | [.sl ct 3 cx, .sl dt 3 dx] => some ((((cx.map QX).map (Part.row 0) = cx) ∧ ((dx.map QX).map (Part.row 0) = dx)) ∧ ((cx.map QX).length ≤ 4611686018427387904 ∧ ∀ x ∈ (cx.map QX), x.bx.length ≤ 4611686018427387904), .bool (decide ((cx.map QX) = (dx.map QX))))
  | _ => none
theorem QjI : ∀ args p v, We args = some (p, v) → p → Contract P 50 args [] v [] ∧ noref v = true ∧ No99 v := by
  intro args p v h1 h2
  unfold We at h1
  split at h1
  · rename_i ct cx dt dx
    cases h1
    obtain ⟨⟨e0, e1⟩, HP⟩ := h2
    have := QoP ct dt (cx.map QX) (dx.map QX) HP.1 HP.2
    exact ⟨by simpa only [e0, e1] using this, rfl, trivial⟩
  · cases h1
theorem Qsk (s : Own) (hs : s.small) : Contract P 83 [.agg (s.row 1)] [] (.agg (s.row 0)) [] := by
  unfold Own.small at hs
  simp only [Own.row]
  refine Qg (((Env.nil P).add 25 Qbb Qlu).add 112 Wt QkF) hm WH (nlb rfl) rfl ?_; unfold XH; simp (maxSteps := 2000000) only [bitvec_to_nat, reduceIte, Nat.reduceEqDiff, Nat.reduceAdd, Nat.reduceLeDiff, reduceCtorEq, Nat.reduceBEq, Nat.reduceLT, Nat.reduceMod, fmc, Qbb, Wt, int_toBitVec_meta, method_specs_simp]
  repeat' (first | with_reducible apply And.intro | with_reducible intro _)
  all_goals first | omega | grind | grind [Word.small, Own.small, Part.small, Book.small, Sector.small, HCraft.small, World.small]
def QgL : List AV → Option (Prop × AV)
  | [.agg [.str s_fl, .int .i64 s_st, .int .i64 s_tn, .str s_dst, .int .i64 s_la, .int .i64 s_nr, .sl 1 6 s_tu, .int .i64 s_wi, .sl 1 6 s_nx, .sl 1 1 s_gr, .bool s_sent]] => some ((((s_tu.map Qz).map Box6.row = s_tu) ∧ ((s_nx.map Qz).map Box6.row = s_nx) ∧ ((s_gr.map unS).map Jw = s_gr)) ∧ (Own.small (Own.mk s_fl s_st s_tn s_dst s_la s_nr (s_tu.map Qz) s_wi (s_nx.map Qz) (s_gr.map unS) s_sent)), .agg (Own.row 0 (Own.mk s_fl s_st s_tn s_dst s_la s_nr (s_tu.map Qz) s_wi (s_nx.map Qz) (s_gr.map unS) s_sent)))
  | _ => none
theorem Qsl : ∀ args p v, QgL args = some (p, v) → p → Contract P 83 args [] v [] ∧ noref v = true ∧ No99 v := by
  intro args p v h1 h2
  unfold QgL at h1
  split at h1
  · rename_i s_fl s_st s_tn s_dst s_la s_nr s_tu s_wi s_nx s_gr s_sent
    cases h1
    obtain ⟨⟨e0, e1, e2⟩, HP⟩ := h2
    have := Qsk (Own.mk s_fl s_st s_tn s_dst s_la s_nr (s_tu.map Qz) s_wi (s_nx.map Qz) (s_gr.map unS) s_sent) HP
    exact ⟨by simpa only [e0, e1, e2, Own.row] using this, rfl, by simp [Own.row, No99, JI, Jv, Qe2, J4, KE, YM, Kv, JT, JJ, XB, KJ, KK, Y3, -List.map_map]⟩
  · cases h1
theorem QoQ {lst : List Own} {idx : Nat} {vfl : ByteArray} {vst : Int} {vtn : Int} {vdst : ByteArray} {vla : Int} {vnr : Int} {vtu : List Box6} {vwi : Int} {vnx : List Box6} {vgr : List ByteArray} {vsent : Bool} : (lst.map (Own.row 0)).set idx (QU ((lst.map (Own.row 0)).getD idx []) 0 [.str vfl, .int .i64 vst, .int .i64 vtn, .str vdst, .int .i64 vla, .int .i64 vnr, .sl 0 6 (vtu.map Box6.row), .int .i64 vwi, .sl 0 6 (vnx.map Box6.row), .sl 0 1 (vgr.map Jw), .bool vsent]) = (lst.set idx (Own.mk vfl vst vtn vdst vla vnr vtu vwi vnx vgr vsent)).map (Own.row 0) :=
  JQ (α := Own) (f := (Own.row 0)) (fun s => (Own.mk vfl vst vtn vdst vla vnr vtu vwi vnx vgr vsent)) fun x => by simp [Own.row, QU]
def Qc6 (a : List Own) (i : Nat) : List Own := a.take i ++ List.replicate (a.length - i) ⟨⟨#[]⟩, 0, 0, ⟨#[]⟩, 0, 0, [], 0, [], [], false⟩
theorem QoR {a : List Own} {i : Nat} (h : i < a.length) : (Qc6 a i).set i (a.getD i default) = Qc6 a (i + 1) := by
  refine List.ext_getElem (by simp [Qc6]; omega) fun j h1 h2 => ?_
  by_cases e : j = i
  · subst e
    simp [Qc6, List.getElem_append, h]
    intro h9; omega
  · simp only [List.getElem_set_ne (Ne.symm e)]
    simp only [Qc6, List.getElem_append, List.length_take, List.getElem_take, List.getElem_replicate]
    split <;> split <;> first | rfl | omega
theorem Qqy (t : Nat) (a : List Own) (ha : a.length ≤ 1048576) (hs : ∀ x ∈ a, x.small) : Contract P 42 [.sl t 11 (a.map (Own.row 1))] [] (.sl 0 11 (a.map (Own.row 0))) [] := by
  refine Qg ((Env.nil P).add 83 QgL Qsl) hm Qeh (nlb rfl) rfl ?_; unfold VP; simp (maxSteps := 2000000) only [bitvec_to_nat, reduceIte, Nat.reduceEqDiff, Nat.reduceAdd, Nat.reduceLeDiff, reduceCtorEq, Nat.reduceBEq, Nat.reduceLT, Nat.reduceMod, fmc, QgL, int_toBitVec_meta, method_specs_simp, QoQ, Nat.sub_zero]
  have m0 : List.replicate a.length [.str ⟨#[]⟩, .int .i64 0, .int .i64 0, .str ⟨#[]⟩, .int .i64 0, .int .i64 0, .sl 0 6 [], .int .i64 0, .sl 0 6 [], .sl 0 1 [], .bool false] = (Qc6 a 0).map (Own.row 0) := by simp [Qc6, Own.row]
  refine ⟨by omega, ?_⟩
  refine QE (fun i : Nat => [(4, .int .i64 i)]) (fun i => [(107, .arr 71 0 11 ((Qc6 a i).map (Own.row 0)))]) (fun i => i ≤ a.length) (fun i => a.length - i) 0 (by simp only [Jr, Js, Jt, Ju, Qj, Qk, Ql, Qm, reduceIte, Nat.reduceEqDiff]; exact ⟨by repeat' (first | exact trivial | refine ⟨.inr rfl, ?_⟩), ⟨congrArg (fun g => some (AObj.arr 71 0 11 g)) m0, trivial⟩, rfl, rfl⟩) (Nat.zero_le _) ?_
  intro i hi NX hN
  have hs2 : i < a.length → (a.getD i default).small := fun h => hs _ (Jy h)
  unfold Zv; simp (maxSteps := 2000000) only [bitvec_to_nat, reduceIte, Nat.reduceEqDiff, Nat.reduceAdd, Nat.reduceLeDiff, reduceCtorEq, Nat.reduceBEq, Nat.reduceLT, Nat.reduceMod, fmc, QgL, int_toBitVec_meta, method_specs_simp, QoQ, Nat.sub_zero]
  refine ⟨fun h => ?_, fun h => ?_⟩
  · repeat' (first | with_reducible apply And.intro | with_reducible intro _)
    all_goals first
      | omega
      | rfl
      | exact hs2 (by omega)
      | (have e := QoR (a := a) (i := i) (by omega)
         try simp only [Own.row] at *
         refine hN (i + 1) _ ⟨by repeat' (first | exact trivial | refine ⟨.inr rfl, ?_⟩), ⟨congrArg (fun g => some (AObj.arr 71 0 11 (List.map (Own.row 0) g))) e, trivial⟩, rfl, rfl⟩ ?_ ?_ <;> omega)
  · have e : i = a.length := by omega
    subst e
    simp only [Qc6, List.take_length, Nat.sub_self, List.replicate_zero, List.append_nil]
    try rw [List.take_of_length_le (by simp)]
def QfM : List AV → Option (Prop × AV)
  | [.sl st 11 sx] => some ((((sx.map Jm).map (Own.row 1) = sx)) ∧ ((sx.map Jm).length ≤ 1048576 ∧ ∀ x ∈ (sx.map Jm), x.small), .sl 0 11 ((sx.map Jm).map (Own.row 0)))
  | _ => none
theorem Qqz : ∀ args p v, QfM args = some (p, v) → p → Contract P 42 args [] v [] ∧ noref v = true ∧ No99 v := by
  intro args p v h1 h2
  unfold QfM at h1
  split at h1
  · rename_i st sx
    cases h1
    obtain ⟨e0, HP⟩ := h2
    have := Qqy st (sx.map Jm) HP.1 HP.2
    exact ⟨by simpa only [e0] using this, rfl, by simp [No99, JI, Jv, Qe2, J4, KE, YM, Kv, JT, JJ, XB, KJ, KK, Y3, -List.map_map]⟩
  · cases h1
theorem Qsm (c d : Own) (hl : c.tu.length ≤ 4611686018427387904 ∧ c.nx.length ≤ 4611686018427387904 ∧ c.gr.length ≤ 4611686018427387904) : Contract P 91 [.agg (c.row 0), .agg (d.row 0)] [] (.bool (decide (c = d))) [] := by
  obtain ⟨c_fl, c_st, c_tn, c_dst, c_la, c_nr, c_tu, c_wi, c_nx, c_gr, c_sent⟩ := c
  obtain ⟨d_fl, d_st, d_tn, d_dst, d_la, d_nr, d_tu, d_wi, d_nx, d_gr, d_sent⟩ := d
  simp only [Own.row]
  refine Qg (((Env.nil P).add 27 Qba Qlt).add 117 Wu QkG) hm Qfd (nlb rfl) rfl ?_; unfold WI; simp (maxSteps := 2000000) only [bitvec_to_nat, reduceIte, Nat.reduceEqDiff, Nat.reduceAdd, Nat.reduceLeDiff, reduceCtorEq, Nat.reduceBEq, Nat.reduceLT, Nat.reduceMod, fmc, Qba, Wu, int_toBitVec_meta, method_specs_simp]
  simp only [Own.mk.injEq]
  repeat' (first | with_reducible apply And.intro | with_reducible intro _)
  all_goals first | omega | (simp_all; done) | grind | grind [Word.small, Own.small, Part.small, Book.small, Sector.small, HCraft.small, World.small]
def QgM : List AV → Option (Prop × AV)
  | [.agg [.str c_fl, .int .i64 c_st, .int .i64 c_tn, .str c_dst, .int .i64 c_la, .int .i64 c_nr, .sl 0 6 c_tu, .int .i64 c_wi, .sl 0 6 c_nx, .sl 0 1 c_gr, .bool c_sent], .agg [.str d_fl, .int .i64 d_st, .int .i64 d_tn, .str d_dst, .int .i64 d_la, .int .i64 d_nr, .sl 0 6 d_tu, .int .i64 d_wi, .sl 0 6 d_nx, .sl 0 1 d_gr, .bool d_sent]] => some ((((c_tu.map Qz).map Box6.row = c_tu) ∧ ((c_nx.map Qz).map Box6.row = c_nx) ∧ ((c_gr.map unS).map Jw = c_gr) ∧ ((d_tu.map Qz).map Box6.row = d_tu) ∧ ((d_nx.map Qz).map Box6.row = d_nx) ∧ ((d_gr.map unS).map Jw = d_gr)) ∧ ((Own.mk c_fl c_st c_tn c_dst c_la c_nr (c_tu.map Qz) c_wi (c_nx.map Qz) (c_gr.map unS) c_sent).tu.length ≤ 4611686018427387904 ∧ (Own.mk c_fl c_st c_tn c_dst c_la c_nr (c_tu.map Qz) c_wi (c_nx.map Qz) (c_gr.map unS) c_sent).nx.length ≤ 4611686018427387904 ∧ (Own.mk c_fl c_st c_tn c_dst c_la c_nr (c_tu.map Qz) c_wi (c_nx.map Qz) (c_gr.map unS) c_sent).gr.length ≤ 4611686018427387904), .bool (decide ((Own.mk c_fl c_st c_tn c_dst c_la c_nr (c_tu.map Qz) c_wi (c_nx.map Qz) (c_gr.map unS) c_sent) = (Own.mk d_fl d_st d_tn d_dst d_la d_nr (d_tu.map Qz) d_wi (d_nx.map Qz) (d_gr.map unS) d_sent))))
  | _ => none
theorem Qsn : ∀ args p v, QgM args = some (p, v) → p → Contract P 91 args [] v [] ∧ noref v = true ∧ No99 v := by
  intro args p v h1 h2
  unfold QgM at h1
  split at h1
  · rename_i c_fl c_st c_tn c_dst c_la c_nr c_tu c_wi c_nx c_gr c_sent d_fl d_st d_tn d_dst d_la d_nr d_tu d_wi d_nx d_gr d_sent
    cases h1
    obtain ⟨⟨e0, e1, e2, e3, e4, e5⟩, HP⟩ := h2
    have := Qsm (Own.mk c_fl c_st c_tn c_dst c_la c_nr (c_tu.map Qz) c_wi (c_nx.map Qz) (c_gr.map unS) c_sent) (Own.mk d_fl d_st d_tn d_dst d_la d_nr (d_tu.map Qz) d_wi (d_nx.map Qz) (d_gr.map unS) d_sent) HP
    exact ⟨by simpa only [e0, e1, e2, e3, e4, e5, Own.row, Own.row] using this, rfl, trivial⟩
  · cases h1
theorem QqA (t t' : Nat) (p q : List Own) (hp : p.length ≤ 4611686018427387904) (hx : ∀ x ∈ p, x.tu.length ≤ 4611686018427387904 ∧ x.nx.length ≤ 4611686018427387904 ∧ x.gr.length ≤ 4611686018427387904) : Contract P 49 [.sl t 11 (p.map (Own.row 0)), .sl t' 11 (q.map (Own.row 0))] [] (.bool (decide (p = q))) [] := by
  refine Qg ((Env.nil P).add 91 QgM Qsn) hm Qej (nlb rfl) rfl ?_; unfold VR; simp (maxSteps := 2000000) only [bitvec_to_nat, reduceIte, Nat.reduceEqDiff, Nat.reduceAdd, Nat.reduceLeDiff, reduceCtorEq, Nat.reduceBEq, Nat.reduceLT, Nat.reduceMod, fmc, QgM, int_toBitVec_meta, method_specs_simp]
  refine ⟨fun h1 h => h1 (by rw [h]), fun h1 => ?_⟩
  refine QE (fun i : Nat => [(5, .int .i64 i)]) (fun _ => []) (fun i => i ≤ p.length ∧ ∀ j, j < i → p.getD j default = q.getD j default) (fun i => p.length - i) (0) (by simp only [Jr, Js, Jt, Ju, Qj, Qk, Ql, Qm, reduceIte, Nat.reduceEqDiff]; exact ⟨by repeat' (first | exact trivial | refine ⟨.inr rfl, ?_⟩), by repeat' (first | exact trivial | refine ⟨rfl, ?_⟩), by first | rfl | simp [closedB, Qd, Qb, Qc, dom, Qa, *], by first | rfl | simp [keepB, dom]⟩) ?_ ?_
  · exact ⟨Nat.zero_le _, by intro j hj; omega⟩
  intro i hi NX hN
  unfold Zw; simp (maxSteps := 2000000) only [bitvec_to_nat, reduceIte, Nat.reduceEqDiff, Nat.reduceAdd, Nat.reduceLeDiff, reduceCtorEq, Nat.reduceBEq, Nat.reduceLT, Nat.reduceMod, fmc, QgM, int_toBitVec_meta, method_specs_simp]
  have hx2 : i < p.length → _ := fun h => hx _ (Jy h)
  repeat' (first | with_reducible apply And.intro | with_reducible intro _)
  all_goals first
    | omega
    | (refine hN (i + 1) _ (by simp only [Jr, Js, Jt, Ju, Qj, Qk, Ql, Qm, reduceIte, Nat.reduceEqDiff]; exact ⟨by repeat' (first | exact trivial | refine ⟨.inr rfl, ?_⟩), by repeat' (first | exact trivial | refine ⟨rfl, ?_⟩), by first | rfl | simp [closedB, Qd, Qb, Qc, dom, Qa, *], by first | rfl | simp [keepB, dom]⟩) ?_ ?_
       · exact ⟨by omega, Q5 hi.2 (by with_reducible assumption)⟩
       · omega)
    | (intro h; subst h; exact absurd rfl (by with_reducible assumption))
    | (exact WR (by omega) fun j hj => hi.2 j (by omega))
    | grind
def Qbe : List AV → Option (Prop × AV)
  | [.sl ct 11 cx, .sl dt 11 dx] => some ((((cx.map Jm).map (Own.row 0) = cx) ∧ ((dx.map Jm).map (Own.row 0) = dx)) ∧ ((cx.map Jm).length ≤ 4611686018427387904 ∧ ∀ x ∈ (cx.map Jm), x.tu.length ≤ 4611686018427387904 ∧ x.nx.length ≤ 4611686018427387904 ∧ x.gr.length ≤ 4611686018427387904), .bool (decide ((cx.map Jm) = (dx.map Jm))))
  | _ => none
theorem QlD : ∀ args p v, Qbe args = some (p, v) → p → Contract P 49 args [] v [] ∧ noref v = true ∧ No99 v := by
  intro args p v h1 h2
  unfold Qbe at h1
  split at h1
  · rename_i ct cx dt dx
    cases h1
    obtain ⟨⟨e0, e1⟩, HP⟩ := h2
    have := QqA ct dt (cx.map Jm) (dx.map Jm) HP.1 HP.2
    exact ⟨by simpa only [e0, e1] using this, rfl, trivial⟩
  · cases h1
theorem QlE (s : Book) (hs : s.small) : Contract P 11 [.agg (s.row 1)] [] (.agg (s.row 0)) [] := by
  unfold Book.small at hs
  simp only [Book.row]
  refine Qg ((((Env.nil P).add 42 QfM Qqz).add 43 Qc4 QoO).add 44 Qc1 QoL) hm VG (nlb rfl) rfl ?_; unfold G9; simp (maxSteps := 2000000) only [bitvec_to_nat, reduceIte, Nat.reduceEqDiff, Nat.reduceAdd, Nat.reduceLeDiff, reduceCtorEq, Nat.reduceBEq, Nat.reduceLT, Nat.reduceMod, fmc, QfM, Qc4, Qc1, int_toBitVec_meta, Own.row, Qy, Part.row, Qp, Seen.row, Qo, Book.row, Qis, Qe3, QbX, QbY, Qkr]
  repeat' (first | with_reducible apply And.intro | with_reducible intro _)
  all_goals first | omega | grind | grind [Own.small, Part.small, Book.small]
theorem QlF (c d : Book) (hl : c.own.length ≤ 4611686018427387904 ∧ c.parts.length ≤ 4611686018427387904 ∧ c.seen.length ≤ 4611686018427387904 ∧ (∀ x ∈ c.own, x.small) ∧ (∀ x ∈ c.parts, x.small)) : Contract P 15 [.agg (c.row 0), .agg (d.row 0)] [] (.bool (decide (c = d))) [] := by
  obtain ⟨c_own, c_parts, Qri⟩ := c
  obtain ⟨d_own, d_parts, d_seen⟩ := d
  simp only [Book.row]
  refine Qg ((((Env.nil P).add 49 Qbe QlD).add 50 We QjI).add 51 Wd QjH) hm VH (nlb rfl) rfl ?_; unfold Xa; simp (maxSteps := 2000000) only [bitvec_to_nat, reduceIte, Nat.reduceEqDiff, Nat.reduceAdd, Nat.reduceLeDiff, reduceCtorEq, Nat.reduceBEq, Nat.reduceLT, Nat.reduceMod, fmc, Qbe, We, Wd, int_toBitVec_meta, Own.row, Qy, Part.row, Qp, Seen.row, Qo, Book.row, Qis, Qe3, QbX, QbY, Qkr]
  simp only [Book.mk.injEq]
  repeat' (first | with_reducible apply And.intro | with_reducible intro _)
  all_goals first | omega | (simp_all; done) | grind | grind [Own.small, Part.small, Book.small]
end
end Go.Ve

namespace Go.Ve
open Go.Proofs
set_option maxRecDepth 100000
def X9 : SCode := (.seq (jq [jm 8 4 [],jm 9 0 [],jn 10 (.lenL (.v 9)) [9],jb 11 .lss 8 10 [8,10]] [0,3,4,11] (.cond (.v 11) .skip (.exit 0))) (.seq (.block 1 (.rg [jm 14 3 [],jm 15 4 [],jm 16 0 [],jm 17 4 [],ja 18 6 16 17 [16,17],jL 19 6 18 [18],jn 20 (.call 67 [.v 19]) [19],ja 21 6 14 15 [14,15],⟨none,.store 6 (.v 21) (.v 20),none,[20,21]⟩] [0,3,4])) (.rg [jm 12 4 [4],jn 13 (.binN .add (.v 12) (ci 1)) [12],jm 4 13 [13]] [0,3,4])))
/-- laws.toHandBoxS: function 25 -/
def UB : SFun := { n := 23,res := [.t 2],body := (jq [jn 2 (.mv (.c (.sl 0 6 []))) [2]] [0] (jq [jm 5 0 [],jn 6 (.lenL (.v 5)) [5],jn 7 (.mk 107 100 6 [.int .i64 0,.int .i64 0,.int .i64 0,.int .i64 0,.int .i64 0,.int .i64 0] (.v 6)) [6],jm 3 7 [7]] [0,3] (.seq (jq [jI 4 0 []] [0,3,4] (.block 0 (.loop X9))) (jq [jm 22 3 [3],jm 2 22 [22]] [2] .ret)))) }
theorem Qc7 : QS Go.Proofs.Tryz.prog 25 UB = true := by kernel_rfl
def XC : SCode := (.seq (jq [jm 8 4 [],jm 9 0 [],jn 10 (.lenL (.v 9)) [9],jb 11 .lss 8 10 [8,10]] [0,3,4,11] (.cond (.v 11) .skip (.exit 0))) (.seq (.block 1 (.rg [jm 14 3 [],jm 15 4 [],jm 16 0 [],jm 17 4 [],ja 18 5 16 17 [16,17],jL 19 5 18 [18],jn 20 (.call 41 [.v 19]) [19],ja 21 5 14 15 [14,15],⟨none,.store 5 (.v 21) (.v 20),none,[20,21]⟩] [0,3,4])) (.rg [jm 12 4 [4],jn 13 (.binN .add (.v 12) (ci 1)) [12],jm 4 13 [13]] [0,3,4])))
/-- laws.toHandZoneS: function 10 -/
def ZZ : SFun := { n := 23,res := [.t 2],body := (jq [jn 2 (.mv (.c (.sl 0 5 []))) [2]] [0] (jq [jm 5 0 [],jn 6 (.lenL (.v 5)) [5],⟨some 7,.mk 107 76 5 [.str ⟨#[]⟩,.int .i64 0,.int .i64 0,.int .i64 0,.int .i64 0] (.v 6),none,[6]⟩,jm 3 7 [7]] [0,3] (.seq (jq [jI 4 0 []] [0,3,4] (.block 0 (.loop XC))) (jq [jm 22 3 [3],jm 2 22 [22]] [2] .ret)))) }
theorem Qb0 : QS Go.Proofs.Tryz.prog 10 ZZ = true := by kernel_rfl
def Z0 : SCode := (.seq (jq [jm 8 4 [],jm 9 0 [],jn 10 (.lenL (.v 9)) [9],jb 11 .lss 8 10 [8,10]] [0,3,4,11] (.cond (.v 11) .skip (.exit 0))) (.seq (.block 1 (.rg [jm 14 3 [],jm 15 4 [],jm 16 0 [],jm 17 4 [],ja 18 1 16 17 [16,17],jl 19 18 [18],ja 20 1 14 15 [14,15],⟨none,.store 1 (.v 20) (.v 19),none,[19,20]⟩] [0,3,4])) (.rg [jm 12 4 [4],jn 13 (.binN .add (.v 12) (ci 1)) [12],jm 4 13 [13]] [0,3,4])))
/-- laws.toStringS: function 112 -/
def Wf : SFun := { n := 22,res := [.t 2],body := (jq [jn 2 (.mv (.c (.sl 0 1 []))) [2]] [0] (jq [jm 5 0 [],jn 6 (.lenL (.v 5)) [5],⟨some 7,.mk 107 9 1 [.str ⟨#[]⟩] (.v 6),none,[6]⟩,jm 3 7 [7]] [0,3] (.seq (jq [jI 4 0 []] [0,3,4] (.block 0 (.loop Z0))) (jq [jm 21 3 [3],jm 2 21 [21]] [2] .ret)))) }
theorem Qew : QS Go.Proofs.Tryz.prog 112 Wf = true := by kernel_rfl
def XD : SCode := (.seq (jq [jm 8 4 [],jm 9 0 [],jn 10 (.lenL (.v 9)) [9],jb 11 .lss 8 10 [8,10]] [0,3,4,11] (.cond (.v 11) .skip (.exit 0))) (.seq (.block 1 (.rg [jm 14 3 [],jm 15 4 [],jm 16 0 [],jm 17 4 [],ja 18 2 16 17 [16,17],jL 19 2 18 [18],jn 20 (.call 85 [.v 19]) [19],ja 21 2 14 15 [14,15],⟨none,.store 2 (.v 21) (.v 20),none,[20,21]⟩] [0,3,4])) (.rg [jm 12 4 [4],jn 13 (.binN .add (.v 12) (ci 1)) [12],jm 4 13 [13]] [0,3,4])))
/-- laws.toHandSeenS: function 44 -/
def Z1 : SFun := { n := 23,res := [.t 2],body := (jq [jn 2 (.mv (.c (.sl 0 2 []))) [2]] [0] (jq [jm 5 0 [],jn 6 (.lenL (.v 5)) [5],⟨some 7,.mk 107 118 2 [.str ⟨#[]⟩,.int .i64 0] (.v 6),none,[6]⟩,jm 3 7 [7]] [0,3] (.seq (jq [jI 4 0 []] [0,3,4] (.block 0 (.loop XD))) (jq [jm 22 3 [3],jm 2 22 [22]] [2] .ret)))) }
theorem Qb1 : QS Go.Proofs.Tryz.prog 44 Z1 = true := by kernel_rfl
def YG : SCode := (.seq (jq [jm 8 4 [],jm 9 0 [],jn 10 (.lenL (.v 9)) [9],jb 11 .lss 8 10 [8,10]] [0,3,4,11] (.cond (.v 11) .skip (.exit 0))) (.seq (.block 1 (.rg [jm 14 3 [],jm 15 4 [],jm 16 0 [],jm 17 4 [],ja 18 11 16 17 [16,17],jL 19 11 18 [18],jn 20 (.call 83 [.v 19]) [19],ja 21 11 14 15 [14,15],⟨none,.store 11 (.v 21) (.v 20),none,[20,21]⟩] [0,3,4])) (.rg [jm 12 4 [4],jn 13 (.binN .add (.v 12) (ci 1)) [12],jm 4 13 [13]] [0,3,4])))
/-- laws.toHandOwnS: function 42 -/
def UC : SFun := { n := 23,res := [.t 2],body := (jq [jn 2 (.mv (.c (.sl 0 11 []))) [2]] [0] (jq [jm 5 0 [],jn 6 (.lenL (.v 5)) [5],⟨some 7,.mk 107 1000071 11 [.str ⟨#[]⟩,.int .i64 0,.int .i64 0,.str ⟨#[]⟩,.int .i64 0,.int .i64 0,.sl 0 6 [],.int .i64 0,.sl 0 6 [],.sl 0 1 [],.bool false] (.v 6),none,[6]⟩,jm 3 7 [7]] [0,3] (.seq (jq [jI 4 0 []] [0,3,4] (.block 0 (.loop YG))) (jq [jm 22 3 [3],jm 2 22 [22]] [2] .ret)))) }
theorem Qc8 : QS Go.Proofs.Tryz.prog 42 UC = true := by kernel_rfl
def Yk : SCode := (.seq (jq [jm 8 4 [],jm 9 0 [],jn 10 (.lenL (.v 9)) [9],jb 11 .lss 8 10 [8,10]] [0,3,4,11] (.cond (.v 11) .skip (.exit 0))) (.seq (.block 1 (.rg [jm 14 3 [],jm 15 4 [],jm 16 0 [],jm 17 4 [],ja 18 3 16 17 [16,17],jL 19 3 18 [18],jn 20 (.call 84 [.v 19]) [19],ja 21 3 14 15 [14,15],⟨none,.store 3 (.v 21) (.v 20),none,[20,21]⟩] [0,3,4])) (.rg [jm 12 4 [4],jn 13 (.binN .add (.v 12) (ci 1)) [12],jm 4 13 [13]] [0,3,4])))
/-- laws.toHandPartS: function 43 -/
def Z2 : SFun := { n := 23,res := [.t 2],body := (jq [jn 2 (.mv (.c (.sl 0 3 []))) [2]] [0] (jq [jm 5 0 [],jn 6 (.lenL (.v 5)) [5],⟨some 7,.mk 107 1000124 3 [.str ⟨#[]⟩,.int .i64 0,.sl 0 6 []] (.v 6),none,[6]⟩,jm 3 7 [7]] [0,3] (.seq (jq [jI 4 0 []] [0,3,4] (.block 0 (.loop Yk))) (jq [jm 22 3 [3],jm 2 22 [22]] [2] .ret)))) }
theorem Qb2 : QS Go.Proofs.Tryz.prog 43 Z2 = true := by kernel_rfl
/-- impl.ownBoxes: function 95 -/
def WV : SFun := { n := 5,res := [.t 2],body := (jq [jn 2 (.mv (.c (.sl 98 6 []))) [2]] [0] (jq [jm 3 0 [0],jn 4 (.app 104 100 6 (.c (.sl 0 6 [])) (.v 3)) [3],jm 2 4 [4]] [2] .ret)) }
theorem Qft : QS Go.Proofs.Tryz.prog 95 WV = true := by kernel_rfl
def Xi : SCode := (jq [jb 12 .lss 11 10 []] [1,2,3,9,10,11,12] (.seq (.cond (.v 12) .skip (.exit 0)) (.seq (.block 1 (jq [ja 13 11 9 11 [],jL 14 11 13 [13],jn 5 (.alloc 105 [.str ⟨#[]⟩,.int .i64 0,.int .i64 0,.str ⟨#[]⟩,.int .i64 0,.int .i64 0,.sl 0 6 [],.int .i64 0,.sl 0 6 [],.sl 0 1 [],.bool false]) [],⟨none,.store 11 (.v 5) (.v 14),none,[14]⟩] [1,2,3,5,9,10,11] (.seq (.rgd [jf 15 6 5 [],jl 16 15 [],jn 17 (.call 95 [.v 16]) [],jf 18 8 5 [],jl 19 18 [],jn 20 (.call 95 [.v 19]) [],jf 21 9 5 [],jl 22 21 [],jn 23 (.app 123 9 1 (.c (.sl 0 1 [])) (.v 22)) [],jf 24 6 5 [],⟨none,.store 1 (.v 24) (.v 17),none,[]⟩,jf 25 8 5 [],⟨none,.store 1 (.v 25) (.v 20),none,[]⟩,jf 26 9 5 [],⟨none,.store 1 (.v 26) (.v 23),none,[]⟩] [1,2,3,5,9,10,11] [none,none,some [],some [0],some [1],some [],some [3,0],some [4,1],some [],some [3,0],none,none,none,none,none]) (.rg [jf 27 0 3 [],jl 28 27 [27],jL 29 11 5 [5],jn 30 (.litOwn 130 1000071 11 [.v 29]) [29],jn 31 (.appN 131 1000071 11 (.v 28) (.v 30)) [28,30],jf 32 0 3 [],⟨none,.store 1 (.v 32) (.v 31),none,[31,32]⟩] [1,2,3,9,10,11])))) (.gh .wk (.rg [jn 33 (.binN .add (.v 11) (ci 1)) [11],jm 11 33 [33]] [1,2,3,9,10,11])))))
def Xj : SCode := (jq [jb 38 .lss 37 36 []] [1,2,3,35,36,37,38] (.seq (.cond (.v 38) .skip (.exit 2)) (.seq (.block 3 (jq [ja 39 3 35 37 [],jL 40 3 39 [39],jn 7 (.alloc 107 [.str ⟨#[]⟩,.int .i64 0,.sl 0 6 []]) [],⟨none,.store 3 (.v 7) (.v 40),none,[40]⟩] [1,2,3,7,35,36,37] (jq [jf 41 2 7 [],jl 42 41 [41],jn 43 (.call 95 [.v 42]) [42],jf 44 2 7 [],⟨none,.store 1 (.v 44) (.v 43),none,[43,44]⟩] [1,2,3,7,35,36,37] (.rg [jf 45 1 3 [],jl 46 45 [45],jL 47 3 7 [7],jn 48 (.litOwn 148 1000124 3 [.v 47]) [47],jn 49 (.appN 149 1000124 3 (.v 46) (.v 48)) [46,48],jf 50 1 3 [],⟨none,.store 1 (.v 50) (.v 49),none,[49,50]⟩] [1,2,3,35,36,37])))) (.rg [jn 51 (.binN .add (.v 37) (ci 1)) [37],jm 37 51 [51]] [1,2,3,35,36,37]))))
/-- impl.ownBook: function 60 -/
def QaO : SFun := { n := 57,res := [.cN 2 3],body := (jq [jn 1 (.box 101 (.v 0)) [0],jn 2 (.alloc 102 [.sl 0 11 [],.sl 0 3 [],.sl 0 2 []]) []] [1,2] (jq [jn 3 (.alloc 103 [.sl 98 11 [],.sl 98 3 [],.sl 98 2 []]) []] [1,2,3] (.seq (jq [jf 8 0 1 [],jl 9 8 [8],jn 10 (.lenL (.v 9)) [],jI 11 0 []] [1,2,3,9,10,11] (.block 0 (.gh (.nilB 103 0 131 1000071) (.loop Xi)))) (.seq (jq [jf 34 1 1 [],jl 35 34 [34],jn 36 (.lenL (.v 35)) [],jI 37 0 []] [1,2,3,35,36,37] (.block 2 (.gh (.nilB 103 1 149 1000124) (.loop Xj)))) (jq [jf 52 2 1 [1],jl 53 52 [52],jn 54 (.app 154 118 2 (.c (.sl 0 2 [])) (.v 53)) [53],jf 55 2 3 [],⟨none,.store 1 (.v 55) (.v 54),none,[54,55]⟩] [2,3] (jq [jL 56 3 3 [3],⟨none,.store 3 (.v 2) (.v 56),none,[56]⟩] [2] .ret)))))) }
theorem QgN : QS Go.Proofs.Tryz.prog 60 QaO = true := by kernel_rfl
end Go.Ve

namespace Go.Ve
noncomputable section
open Go.Proofs
set_option maxRecDepth 100000
open Go.ChangeShapes Go.WideShapes
theorem KS {α : Type} {l : List α} {i : Nat} {x d : α} (h : i < l.length) : (l.set i x).getD i d = x := by simp [h]
theorem Y4 {α : Type} {l : List α} {i j : Nat} {x d : α} (h : i ≠ j) : (l.set i x).getD j d = l.getD j d := by simp [List.getElem?_set_ne h]
theorem Qc9 {M : List (Nat × AObj)} : keepB M M = true := by
  unfold keepB
  rw [List.all_eq_true]
  intro o ho
  simp only [Bool.or_eq_true]
  right; simpa using ho
theorem QbF {α : Type} (F : α → St) (good : α → Prop) (μ : α → Nat) (a0 : α) {body : (XT → St → Prop) → St → Prop} {Q : XT → St → Prop} {st : St}
    (h0 : Wk st (F a0)) (g0 : good a0)
    (step : ∀ a, good a → ∀ NX : St → Prop, (∀ a' st', Wk st' (F a') → good a' → μ a' < μ a → NX st') → body (Qhh NX Q) (F a)) : Qgb body Q st :=
  Qig F good μ a0 h0 g0 fun a ga => step a ga _ fun a' st' h1 h2 h3 => ⟨μ a', _, h1, ⟨a', rfl, h2, rfl⟩, h3⟩
theorem Q8 {a b i : Nat} : (fam a i = fam b i) = (a = b) := by unfold fam; simp
theorem Gm {a i j : Nat} : (fam a i = fam a j) = (i = j) := propext ⟨fun h => by unfold fam at h; omega, fun h => by rw [h]⟩
theorem Qiu (s : Box6) : (Box6.mk s.x s.y s.l s.h s.i s.o) = s := (rfl)
theorem Qm1 (l : List ByteArray) : ((l.map Jw).all fun r => r.all Qai) = true := by simp [Jw, Qai]
theorem QgO (l : List Box6) : ((l.map Box6.row).all fun r => r.all Qai) = true := by simp [Box6.row, Qai]
def QW (c : Nat) : Nat := if c = 9 then 9 else 100
def Jo (_ : Nat) : Nat := 100
def QoS (_ : Nat) : Nat := 100
theorem KZ : ∀ c, QW c < 1000000 := fun c => by unfold QW; split <;> omega
theorem J8 : ∀ c, Jo c < 1000000 := fun c => by unfold Jo; omega
def Qus (w : Word) : Nat := if w.kd = 1 then w.tu.length else 0
def Word.rowO (w : Word) : List AV := [.int .i64 w.kd, .str w.fr, .str w.dst, .str w.fl, .int .i64 w.nr, .int .i64 w.la, .int .i64 w.tn, .sl (Qus w) 6 (w.tu.map Box6.row)]
theorem QJ : RowOk 11 (Own.row 0) := ⟨fun x => rfl, fun x => by simp only [Own.row, List.all_cons, simpleV, QgO, Qm1, List.all_nil, Bool.and_self]⟩
theorem QH : RowOk 3 (Part.row 0) := ⟨fun x => rfl, fun x => by simp only [Part.row, List.all_cons, simpleV, QgO, List.all_nil, Bool.and_self]⟩
theorem Qrm {t s : Nat} {xs : List (List AV)} : tag0 (.sl t s xs) = .sl 0 s (Zm xs) := rfl
theorem QoT {k : IntKind} {n : Int} : tag0 (.int k n) = .int k n := rfl
theorem QqB {t : Nat} {l : List Own} : Zm (l.map (Own.row t)) = l.map (Own.row 0) := Qlj (f := Own.row) (fun x => by simp only [Own.row, Yz, tag0]; rw [Wm (f := Box6.row) fun _ => rfl, Wm (f := Box6.row) fun _ => rfl, Wm (f := Jw) fun _ => rfl]) l
theorem QoU {t : Nat} {l : List Part} : Zm (l.map (Part.row t)) = l.map (Part.row 0) := Qlj (f := Part.row) (fun x => by simp only [Part.row, Yz, tag0]; rw [Wm (f := Box6.row) fun _ => rfl]) l
theorem QoV {t : Nat} (ht : t ≠ 98) {l : List Own} : Qag (l.map (Own.row t)) = true := Gc (f := Own.row t) (fun x => by simp only [Own.row, Xv, QmD]; rw [Gc (f := Box6.row) fun _ => rfl, Gc (f := Box6.row) fun _ => rfl, Gc (f := Jw) fun _ => rfl]; simp [ht]) l
theorem Qm2 {t : Nat} (ht : t ≠ 98) {l : List Part} : Qag (l.map (Part.row t)) = true := Gc (f := Part.row t) (fun x => by simp only [Part.row, Xv, QmD]; rw [Gc (f := Box6.row) fun _ => rfl]; simp [ht]) l
theorem Qm3 {a : List Box6} {i : Nat} (h : i < a.length) : (KY a i).set i (a.getD i default) = KY a (i + 1) := by
  refine List.ext_getElem (by simp [KY]; omega) fun j h1 h2 => ?_
  by_cases e : j = i
  · subst e
    simp [KY, List.getElem_append, h]
    intro h9; omega
  · simp only [List.getElem_set_ne (Ne.symm e)]
    simp only [KY, List.getElem_append, List.length_take, List.getElem_take, List.getElem_replicate]
    split <;> split <;> first | rfl | omega
theorem QgP (t : Nat) (a : List ByteArray) (ha : a.length ≤ 1048576) : Contract P 112 [.sl t 1 (a.map Jw)] [] (.own 107 0 0 a.length) [(107, .arr 9 0 1 (a.map Jw))] := by
  have tkA : List.take a.length (a.map Jw) = a.map Jw := List.take_of_length_le (by simp)
  refine Qg (Env.nil P) hm Qew (nlb rfl) rfl ?_; unfold Wf; simp (maxSteps := 2000000) only [bitvec_to_nat, reduceIte, Nat.reduceEqDiff, Nat.reduceAdd, Nat.reduceLeDiff, reduceCtorEq, Nat.reduceBEq, Nat.reduceLT, Nat.reduceMod, fmc, Qf, Qh, Qe, Qu, keepB, Qi, Qw, int_toBitVec_meta, method_specs_simp, Zd, Nat.sub_zero]
  have m0 : List.replicate a.length [.str ⟨#[]⟩] = (JC a 0).map Jw := by simp [JC, Jw]
  refine ⟨by omega, ?_⟩
  refine QE (fun i : Nat => [(4, .int .i64 i)]) (fun i => [(107, .arr 9 0 1 ((JC a i).map Jw))]) (fun i => i ≤ a.length) (fun i => a.length - i) 0 (by simp only [Jr, Js, Jt, Ju, Qj, Qk, Ql, Qm, reduceIte, Nat.reduceEqDiff]; exact ⟨by repeat' (first | exact trivial | refine ⟨.inr rfl, ?_⟩), ⟨congrArg (fun g => some (AObj.arr 9 0 1 g)) m0, trivial⟩, rfl, rfl⟩) (Nat.zero_le _) ?_
  intro i hi NX hN
  unfold Z0; simp (maxSteps := 2000000) only [bitvec_to_nat, reduceIte, Nat.reduceEqDiff, Nat.reduceAdd, Nat.reduceLeDiff, reduceCtorEq, Nat.reduceBEq, Nat.reduceLT, Nat.reduceMod, fmc, Qf, Qh, Qe, Qu, keepB, Qi, Qw, int_toBitVec_meta, method_specs_simp, Zd, Nat.sub_zero]
  refine ⟨fun h => ?_, fun h => ?_⟩
  · repeat' (first | with_reducible apply And.intro | with_reducible intro _)
    all_goals first
      | omega
      | rfl
      | (have e := QaN (a := a) (i := i) (by omega)
         try simp only [Jw] at *
         refine hN (i + 1) _ ⟨by repeat' (first | exact trivial | refine ⟨.inr rfl, ?_⟩), ⟨congrArg (fun g => some (AObj.arr 9 0 1 (List.map Jw g))) e, trivial⟩, rfl, rfl⟩ ?_ ?_ <;> omega)
  · have e : i = a.length := by omega
    subst e
    simp only [JC, List.take_length, Nat.sub_self, List.replicate_zero, List.append_nil]
    exact ⟨trivial, rfl, rfl⟩
theorem Qex (t : Nat) (a : List Box6) (ha : a.length ≤ 1048576) : Contract P 25 [.sl t 6 (a.map Box6.row)] [] (.own 107 0 0 a.length) [(107, .arr 100 0 6 (a.map Box6.row))] := by
  have tkA : List.take a.length (a.map Box6.row) = a.map Box6.row := List.take_of_length_le (by simp)
  refine Qg ((Env.nil P).add 67 QaB Qoa) hm Qc7 (nlb rfl) rfl ?_; unfold UB; simp (maxSteps := 2000000) only [bitvec_to_nat, reduceIte, Nat.reduceEqDiff, Nat.reduceAdd, Nat.reduceLeDiff, reduceCtorEq, Nat.reduceBEq, Nat.reduceLT, Nat.reduceMod, fmc, Qf, Qh, Qe, Qu, keepB, Qi, Qw, QaB, int_toBitVec_meta, method_specs_simp, QfE, Nat.sub_zero]
  have m0 : List.replicate a.length [.int .i64 0, .int .i64 0, .int .i64 0, .int .i64 0, .int .i64 0, .int .i64 0] = (KY a 0).map Box6.row := by simp [KY, Box6.row]
  refine ⟨by omega, ?_⟩
  refine QE (fun i : Nat => [(4, .int .i64 i)]) (fun i => [(107, .arr 100 0 6 ((KY a i).map Box6.row))]) (fun i => i ≤ a.length) (fun i => a.length - i) 0 (by simp only [Jr, Js, Jt, Ju, Qj, Qk, Ql, Qm, reduceIte, Nat.reduceEqDiff]; exact ⟨by repeat' (first | exact trivial | refine ⟨.inr rfl, ?_⟩), ⟨congrArg (fun g => some (AObj.arr 100 0 6 g)) m0, trivial⟩, rfl, rfl⟩) (Nat.zero_le _) ?_
  intro i hi NX hN
  unfold X9; simp (maxSteps := 2000000) only [bitvec_to_nat, reduceIte, Nat.reduceEqDiff, Nat.reduceAdd, Nat.reduceLeDiff, reduceCtorEq, Nat.reduceBEq, Nat.reduceLT, Nat.reduceMod, fmc, Qf, Qh, Qe, Qu, keepB, Qi, Qw, QaB, int_toBitVec_meta, method_specs_simp, QfE, Nat.sub_zero]
  refine ⟨fun h => ?_, fun h => ?_⟩
  · repeat' (first | with_reducible apply And.intro | with_reducible intro _)
    all_goals first
      | omega
      | rfl
      | (have e := Qm3 (a := a) (i := i) (by omega)
         try simp only [Box6.row] at *
         refine hN (i + 1) _ ⟨by repeat' (first | exact trivial | refine ⟨.inr rfl, ?_⟩), ⟨congrArg (fun g => some (AObj.arr 100 0 6 (List.map Box6.row g))) e, trivial⟩, rfl, rfl⟩ ?_ ?_ <;> omega)
  · have e : i = a.length := by omega
    subst e
    simp only [KY, List.take_length, Nat.sub_self, List.replicate_zero, List.append_nil]
    exact ⟨trivial, rfl, rfl⟩
theorem Qm4 (t : Nat) (a : List Seen) (ha : a.length ≤ 1048576) : Contract P 44 [.sl t 2 (a.map Seen.row)] [] (.own 107 0 0 a.length) [(107, .arr 118 0 2 (a.map Seen.row))] := by
  have tkA : List.take a.length (a.map Seen.row) = a.map Seen.row := List.take_of_length_le (by simp)
  refine Qg ((Env.nil P).add 85 UA QlB) hm Qb1 (nlb rfl) rfl ?_; unfold Z1; simp (maxSteps := 2000000) only [bitvec_to_nat, reduceIte, Nat.reduceEqDiff, Nat.reduceAdd, Nat.reduceLeDiff, reduceCtorEq, Nat.reduceBEq, Nat.reduceLT, Nat.reduceMod, fmc, Qf, Qh, Qe, Qu, keepB, Qi, Qw, UA, int_toBitVec_meta, method_specs_simp, QfL, Nat.sub_zero]
  have m0 : List.replicate a.length [.str ⟨#[]⟩, .int .i64 0] = (Xh a 0).map Seen.row := by simp [Xh, Seen.row]
  refine ⟨by omega, ?_⟩
  refine QE (fun i : Nat => [(4, .int .i64 i)]) (fun i => [(107, .arr 118 0 2 ((Xh a i).map Seen.row))]) (fun i => i ≤ a.length) (fun i => a.length - i) 0 (by simp only [Jr, Js, Jt, Ju, Qj, Qk, Ql, Qm, reduceIte, Nat.reduceEqDiff]; exact ⟨by repeat' (first | exact trivial | refine ⟨.inr rfl, ?_⟩), ⟨congrArg (fun g => some (AObj.arr 118 0 2 g)) m0, trivial⟩, rfl, rfl⟩) (Nat.zero_le _) ?_
  intro i hi NX hN
  unfold XD; simp (maxSteps := 2000000) only [bitvec_to_nat, reduceIte, Nat.reduceEqDiff, Nat.reduceAdd, Nat.reduceLeDiff, reduceCtorEq, Nat.reduceBEq, Nat.reduceLT, Nat.reduceMod, fmc, Qf, Qh, Qe, Qu, keepB, Qi, Qw, UA, int_toBitVec_meta, method_specs_simp, QfL, Nat.sub_zero]
  refine ⟨fun h => ?_, fun h => ?_⟩
  · repeat' (first | with_reducible apply And.intro | with_reducible intro _)
    all_goals first
      | omega
      | rfl
      | (have e := QhW (a := a) (i := i) (by omega)
         try simp only [Seen.row] at *
         refine hN (i + 1) _ ⟨by repeat' (first | exact trivial | refine ⟨.inr rfl, ?_⟩), ⟨congrArg (fun g => some (AObj.arr 118 0 2 (List.map Seen.row g))) e, trivial⟩, rfl, rfl⟩ ?_ ?_ <;> omega)
  · have e : i = a.length := by omega
    subst e
    simp only [Xh, List.take_length, Nat.sub_self, List.replicate_zero, List.append_nil]
    exact ⟨trivial, rfl, rfl⟩
theorem Qm5 (t : Nat) (a : List Zone) (ha : a.length ≤ 1048576) : Contract P 10 [.sl t 5 (a.map Zone.row)] [] (.own 107 0 0 a.length) [(107, .arr 76 0 5 (a.map Zone.row))] := by
  have tkA : List.take a.length (a.map Zone.row) = a.map Zone.row := List.take_of_length_le (by simp)
  refine Qg ((Env.nil P).add 41 Uz QlA) hm Qb0 (nlb rfl) rfl ?_; unfold ZZ; simp (maxSteps := 2000000) only [bitvec_to_nat, reduceIte, Nat.reduceEqDiff, Nat.reduceAdd, Nat.reduceLeDiff, reduceCtorEq, Nat.reduceBEq, Nat.reduceLT, Nat.reduceMod, fmc, Qf, Qh, Qe, Qu, keepB, Qi, Qw, Uz, int_toBitVec_meta, method_specs_simp, QfK, Nat.sub_zero]
  have m0 : List.replicate a.length [.str ⟨#[]⟩, .int .i64 0, .int .i64 0, .int .i64 0, .int .i64 0] = (Xg a 0).map Zone.row := by simp [Xg, Zone.row]
  refine ⟨by omega, ?_⟩
  refine QE (fun i : Nat => [(4, .int .i64 i)]) (fun i => [(107, .arr 76 0 5 ((Xg a i).map Zone.row))]) (fun i => i ≤ a.length) (fun i => a.length - i) 0 (by simp only [Jr, Js, Jt, Ju, Qj, Qk, Ql, Qm, reduceIte, Nat.reduceEqDiff]; exact ⟨by repeat' (first | exact trivial | refine ⟨.inr rfl, ?_⟩), ⟨congrArg (fun g => some (AObj.arr 76 0 5 g)) m0, trivial⟩, rfl, rfl⟩) (Nat.zero_le _) ?_
  intro i hi NX hN
  unfold XC; simp (maxSteps := 2000000) only [bitvec_to_nat, reduceIte, Nat.reduceEqDiff, Nat.reduceAdd, Nat.reduceLeDiff, reduceCtorEq, Nat.reduceBEq, Nat.reduceLT, Nat.reduceMod, fmc, Qf, Qh, Qe, Qu, keepB, Qi, Qw, Uz, int_toBitVec_meta, method_specs_simp, QfK, Nat.sub_zero]
  refine ⟨fun h => ?_, fun h => ?_⟩
  · repeat' (first | with_reducible apply And.intro | with_reducible intro _)
    all_goals first
      | omega
      | rfl
      | (have e := QhV (a := a) (i := i) (by omega)
         try simp only [Zone.row] at *
         refine hN (i + 1) _ ⟨by repeat' (first | exact trivial | refine ⟨.inr rfl, ?_⟩), ⟨congrArg (fun g => some (AObj.arr 76 0 5 (List.map Zone.row g))) e, trivial⟩, rfl, rfl⟩ ?_ ?_ <;> omega)
  · have e : i = a.length := by omega
    subst e
    simp only [Xg, List.take_length, Nat.sub_self, List.replicate_zero, List.append_nil]
    exact ⟨trivial, rfl, rfl⟩
def dch (i : Nat) : ByteArray := ⟨#[Qk1 [AV.int .u8 (IntKind.u8.wrap (48 + (i : Int) % 10))]]⟩
theorem Qrn (i : Nat) : QfV [[AV.int .u8 (IntKind.u8.wrap (48 + (i : Int) % 10))]] = dch i := rfl
def dg (k : Nat) (o : ByteArray) : ByteArray := if h : k = 0 then o else dg (k / 10) (dch k ++ o)
termination_by k
decreasing_by omega
theorem Qso (o : ByteArray) : dg 0 o = o := by rw [dg]; simp
theorem Qsp {k : Nat} (o : ByteArray) (h : 0 < k) : dg k o = dg (k / 10) (dch k ++ o) := by rw [dg]; simp [show k ≠ 0 by omega]
def mtx (k : Int) : ByteArray := if k ≤ 0 then ⟨#[109, 48]⟩ else ⟨#[109]⟩ ++ dg k.toNat ⟨#[]⟩
theorem Qsq (i : Nat) : (dch i).toList.length = 1 := by rw [← JD]; rfl
theorem Qsr (a b : ByteArray) : (a ++ b).toList.length = a.toList.length + b.toList.length := by simp only [← JD, ByteArray.size_append]
theorem Qss (w : Int) : QiM [AV.int .u8 (IntKind.u8.wrap w)] = true := by
  simp [QiM, IntKind.wrap, IntKind.bits, IntKind.signed]
  try omega
theorem QtQ : (⟨#[109]⟩ : ByteArray).toList.length = 1 := by rw [← JD]; rfl
theorem QtR : (⟨#[]⟩ : ByteArray).toList.length = 0 := by rw [← JD]; rfl
theorem Qm6 (k : Int) (hk : 0 ≤ k ∧ k ≤ 1152921504606846976) : Contract P 52 [.int .i64 k] [] (.str (mtx k)) [] := by
  refine Qg (Env.nil P) hm Qgm (nlb rfl) rfl ?_; unfold Qak; simp (maxSteps := 2000000) only [bitvec_to_nat, reduceIte, Nat.reduceEqDiff, Nat.reduceAdd, Nat.reduceLeDiff, reduceCtorEq, Nat.reduceBEq, Nat.reduceLT, Nat.reduceMod, fmc, Nat.zero_add, QsM, List.map_cons, List.map_nil, Y0, Qrn]
  refine ⟨fun h => by rw [mtx, if_pos h], fun hp => ?_⟩
  have hkk : ((k.toNat : Nat) : Int) = k := by omega
  refine QE (fun a : Nat × ByteArray => [(0, .int .i64 a.1), (3, .str a.2)]) (fun _ => []) (fun a => dg a.1 a.2 = dg k.toNat ⟨#[]⟩ ∧ a.2.toList.length + a.1 ≤ 1152921504606846976) (fun a => a.1) (k.toNat, ⟨#[]⟩) (by simp only [hkk]; simp only [Jr, Js, Jt, Ju, Qj, Qk, Ql, Qm, reduceIte, Nat.reduceEqDiff]; exact ⟨by repeat' (first | exact trivial | refine ⟨.inr rfl, ?_⟩), by repeat' (first | exact trivial | refine ⟨rfl, ?_⟩), by first | rfl | simp [closedB, Qd, Qb, Qc, dom, Qa, *], by first | rfl | simp [keepB, dom]⟩) ⟨rfl, by simp only [QtR]; omega⟩ ?_
  rintro ⟨i, s⟩ ⟨h1, h2⟩ NX hN
  simp only at h1 h2
  unfold VS; simp (maxSteps := 2000000) only [bitvec_to_nat, reduceIte, Nat.reduceEqDiff, Nat.reduceAdd, Nat.reduceLeDiff, reduceCtorEq, Nat.reduceBEq, Nat.reduceLT, Nat.reduceMod, fmc, Nat.zero_add, QsM, List.map_cons, List.map_nil, Y0, Qrn]
  refine ⟨fun g => ⟨by omega, by omega, by simp only [List.all_cons, List.all_nil, Qss, Bool.and_true], ?_⟩, fun g => ?_⟩
  · have e1 := Qsq i
    refine ⟨by rw [e1]; omega, by omega, ?_⟩
    have e2 : ((i : Int) / 10) = ((i / 10 : Nat) : Int) := by omega
    simp only [e2]
    refine hN (i / 10, dch i ++ s) _ (by simp only [Jr, Js, Jt, Ju, Qj, Qk, Ql, Qm, reduceIte, Nat.reduceEqDiff]; exact ⟨by repeat' (first | exact trivial | refine ⟨.inr rfl, ?_⟩), by repeat' (first | exact trivial | refine ⟨rfl, ?_⟩), by first | rfl | simp [closedB, Qd, Qb, Qc, dom, Qa, *], by first | rfl | simp [keepB, dom]⟩) ?_ ?_
    · exact ⟨by rw [← Qsp s (by omega)]; exact h1, by simp only [Qsr, e1]; omega⟩
    · simp only; omega
  · have e : i = 0 := by omega
    subst e
    rw [Qso] at h1
    refine ⟨by rw [QtQ]; omega, ?_⟩
    rw [mtx, if_neg hp, ← h1]
def Qr : List AV → Option (Prop × AV)
  | [.int .i64 k] => some ((True) ∧ (0 ≤ k ∧ k ≤ 1152921504606846976), .str (mtx k))
  | _ => none
theorem Kb : ∀ args p v, Qr args = some (p, v) → p → Contract P 52 args [] v [] ∧ noref v = true ∧ No99 v := by
  intro args p v h1 h2
  unfold Qr at h1
  split at h1
  · rename_i k
    cases h1
    obtain ⟨_, HP⟩ := h2
    have := Qm6 k HP
    exact ⟨this, rfl, trivial⟩
  · cases h1
def XE (k : Int) : ByteArray := mtx k
def Km (k : Int) (n : Nat) : List ByteArray := (List.range n).map fun j : Nat => XE (k + (j : Int))
theorem Q6 {k : Int} {n : Nat} : (Km k n).length = n := by simp [Km]
theorem WW {k : Int} {n j : Nat} (h : j < n) : (Km k n).getD j default = XE (k + (j : Int)) := by simp [Km, h]
theorem UK {l : List ByteArray} {i : Nat} {v : ByteArray} : (l.map Jw).set i (QU ((l.map Jw).getD i []) 0 [.str v]) = (l.set i v).map Jw :=
  JQ (α := ByteArray) (f := Jw) (fun _ => v) fun x => by simp [Jw, QU]
set_option maxHeartbeats 1000000 in
theorem Qfu (v : Nat) (k : Int) (a : List ByteArray) (ha : a.length ≤ 1048577) (hk : 0 ≤ k ∧ k ≤ 1125899906842624) : Contract P 94 [.own 3 v 0 a.length, .int .i64 k] [(3, .arr 9 v 1 (a.map Jw))] (.int .i64 (k + a.length)) [(3, .arr 9 v 1 ((Km k a.length).map Jw))] := by
  have hz : ((0 : Nat) : Int) = 0 := rfl
  have gs : True := trivial
  refine Qg ((Env.nil P).add 52 Qr Kb) hm Qcz (nlb rfl) rfl ?_; unfold Uq; simp (maxSteps := 2000000) only [bitvec_to_nat, reduceIte, Nat.reduceEqDiff, Nat.reduceAdd, Nat.reduceLeDiff, reduceCtorEq, Nat.reduceBEq, Nat.reduceLT, Nat.reduceMod, fmc, Qf, Qh, Qe, Qu, keepB, Qi, Qw, Qr, UK, List.set_set, gs, QfD, Jw, Int.toNat_natCast, List.length_map, List.length_set, Nat.sub_zero, Nat.zero_add, hz]
  refine QE (fun b : Nat × List ByteArray => [(1, .int .i64 (k + b.1)), (5, .int .i64 b.1)]) (fun b => [(3, .arr 9 v 1 (b.2.map Jw))]) (fun b => b.2.length = a.length ∧ b.1 ≤ a.length ∧ ∀ j, j < b.1 → b.2.getD j default = XE (k + (j : Int))) (fun b => a.length - b.1) (0, a) ?_ ⟨rfl, Nat.zero_le _, fun j hj => absurd hj (Nat.not_lt_zero _)⟩ ?_
  · have e0 : k + ((0 : Nat) : Int) = k := by omega
    simp only [e0]
    simp only [Jr, Js, Jt, Ju, Qj, Qk, Ql, Qm, reduceIte, Nat.reduceEqDiff]; exact ⟨by repeat' (first | exact trivial | refine ⟨.inr rfl, ?_⟩), by repeat' (first | exact trivial | refine ⟨rfl, ?_⟩), by first | rfl | simp [closedB, Qd, Qb, Qc, dom, Qa, *], by first | rfl | simp [keepB, dom]⟩
  rintro ⟨i, l⟩ ⟨h1, h2, h3⟩ NX hN
  simp only at h1 h2 h3
  have gs : i < a.length → ∀ x : ByteArray, (l.set i x).getD i default = x := fun h x => KS (by omega)
  by_cases hi : i < a.length
  · have gs := gs hi
    have e5 : k + ((i + 1 : Nat) : Int) = k + (i : Int) + 1 := by omega
    unfold YD; simp (maxSteps := 2000000) only [bitvec_to_nat, reduceIte, Nat.reduceEqDiff, Nat.reduceAdd, Nat.reduceLeDiff, reduceCtorEq, Nat.reduceBEq, Nat.reduceLT, Nat.reduceMod, fmc, Qf, Qh, Qe, Qu, keepB, Qi, Qw, Qr, UK, List.set_set, gs, QfD, Jw, Int.toNat_natCast, List.length_map, List.length_set, Nat.sub_zero, Nat.zero_add, hz]
    repeat' (first | with_reducible apply And.intro | with_reducible intro _)
    all_goals first
      | omega
      | (refine hN (i + 1, l.set i (XE (k + (i : Int)))) _ (by simp only [e5]; simp only [Jr, Js, Jt, Ju, Qj, Qk, Ql, Qm, reduceIte, Nat.reduceEqDiff]; exact ⟨by repeat' (first | exact trivial | refine ⟨.inr rfl, ?_⟩), by repeat' (first | exact trivial | refine ⟨rfl, ?_⟩), by first | rfl | simp [closedB, Qd, Qb, Qc, dom, Qa, *], by first | rfl | simp [keepB, dom]⟩) ⟨by simp only [List.length_set]; exact h1, hi, fun j hj => ?_⟩ (by simp only; omega)
         simp only at hj ⊢
         by_cases e : j = i
         · subst e; exact KS (by omega)
         · rw [Y4 (Ne.symm e)]; exact h3 j (by omega))
      | (exfalso; omega)
  · have hl : l = Km k a.length := WR (by rw [Q6]; exact h1) fun j hj => by rw [WW (by omega)]; exact h3 j (by omega)
    have hi' : ¬ (i : Int) < a.length := by omega
    unfold YD; simp (maxSteps := 2000000) only [bitvec_to_nat, reduceIte, Nat.reduceEqDiff, Nat.reduceAdd, Nat.reduceLeDiff, reduceCtorEq, Nat.reduceBEq, Nat.reduceLT, Nat.reduceMod, fmc, Qf, Qh, Qe, Qu, keepB, Qi, Qw, Qr, UK, List.set_set, gs, QfD, Jw, Int.toNat_natCast, List.length_map, List.length_set, Nat.sub_zero, Nat.zero_add, hz, hi']
    refine ⟨by omega, ?_⟩
    rw [hl]
set_option maxHeartbeats 1000000 in
theorem Qfv (t : Nat) (k : Int) (n : Nat) (ha : n ≤ 1048577) (hk : 0 ≤ k ∧ k ≤ 1125899906842624) : Contract P 97 [.sl t 1 ((Km k n).map Jw), .int .i64 k] [] (.int .i64 (k + n)) [] := by
  have hz : ((0 : Nat) : Int) = 0 := rfl
  refine Qg ((Env.nil P).add 52 Qr Kb) hm QcA (nlb rfl) rfl ?_; unfold Ur; simp (maxSteps := 2000000) only [bitvec_to_nat, reduceIte, Nat.reduceEqDiff, Nat.reduceAdd, Nat.reduceLeDiff, reduceCtorEq, Nat.reduceBEq, Nat.reduceLT, Nat.reduceMod, fmc, Qr, QfD, Jw, Int.toNat_natCast, List.length_map, Nat.sub_zero, Nat.zero_add, hz, eq_self, Q6]
  refine QE (fun i : Nat => [(1, .int .i64 (k + i)), (5, .int .i64 i)]) (fun _ => []) (fun i => i ≤ n) (fun i => n - i) 0 ?_ (Nat.zero_le _) ?_
  · have e0 : k + ((0 : Nat) : Int) = k := by omega
    simp only [e0]
    simp only [Jr, Js, Jt, Ju, Qj, Qk, Ql, Qm, reduceIte, Nat.reduceEqDiff]; exact ⟨by repeat' (first | exact trivial | refine ⟨.inr rfl, ?_⟩), by repeat' (first | exact trivial | refine ⟨rfl, ?_⟩), by first | rfl | simp [closedB, Qd, Qb, Qc, dom, Qa, *], by first | rfl | simp [keepB, dom]⟩
  intro i hi NX hN
  have e5 : k + ((i + 1 : Nat) : Int) = k + (i : Int) + 1 := by omega
  by_cases h : i < n
  · have hg := WW (k := k) h
    have h' : (i : Int) < n := by omega
    unfold YE; simp (maxSteps := 2000000) only [bitvec_to_nat, reduceIte, Nat.reduceEqDiff, Nat.reduceAdd, Nat.reduceLeDiff, reduceCtorEq, Nat.reduceBEq, Nat.reduceLT, Nat.reduceMod, fmc, Qr, QfD, Jw, Int.toNat_natCast, List.length_map, Nat.sub_zero, Nat.zero_add, hz, eq_self, Q6, h', hg, XE, not_true_eq_false, ne_eq, bne_self_eq_false]
    repeat' (first | with_reducible apply And.intro | with_reducible intro _)
    all_goals first
      | omega
      | rfl
      | (rename_i h; exact absurd rfl h)
      | (refine hN (i + 1) _ (by simp only [e5]; simp only [Jr, Js, Jt, Ju, Qj, Qk, Ql, Qm, reduceIte, Nat.reduceEqDiff]; exact ⟨by repeat' (first | exact trivial | refine ⟨.inr rfl, ?_⟩), by repeat' (first | exact trivial | refine ⟨rfl, ?_⟩), by first | rfl | simp [closedB, Qd, Qb, Qc, dom, Qa, *], by first | rfl | simp [keepB, dom]⟩) ?_ ?_ <;> omega)
  · have h' : ¬ (i : Int) < n := by omega
    unfold YE; simp (maxSteps := 2000000) only [bitvec_to_nat, reduceIte, Nat.reduceEqDiff, Nat.reduceAdd, Nat.reduceLeDiff, reduceCtorEq, Nat.reduceBEq, Nat.reduceLT, Nat.reduceMod, fmc, Qr, QfD, Jw, Int.toNat_natCast, List.length_map, Nat.sub_zero, Nat.zero_add, hz, eq_self, Q6, h']
    omega
def QgQ (k : Int) : Box6 := ⟨k, k + 1, k + 1 + 1, k + 1 + 1 + 1, k + 1 + 1 + 1 + 1, k + 1 + 1 + 1 + 1 + 1⟩
def XJ (k : Int) (n : Nat) : List Box6 := (List.range n).map fun j : Nat => QgQ (k + 6 * (j : Int))
theorem QP {k : Int} {n : Nat} : (XJ k n).length = n := by simp [XJ]
theorem QgR {k : Int} {n j : Nat} (h : j < n) : (XJ k n).getD j default = QgQ (k + 6 * (j : Int)) := by simp [XJ, h]
theorem Qey {l : List Box6} {i : Nat} {v : Int} : (l.map Box6.row).set i (QU ((l.map Box6.row).getD i []) 0 [.int .i64 v]) = (l.set i { l.getD i default with x := v }).map Box6.row :=
  JQ (α := Box6) (f := Box6.row) (fun s => { s with x := v }) fun x => by simp [Box6.row, QU]
theorem Qez {l : List Box6} {i : Nat} {v : Int} : (l.map Box6.row).set i (QU ((l.map Box6.row).getD i []) 1 [.int .i64 v]) = (l.set i { l.getD i default with y := v }).map Box6.row :=
  JQ (α := Box6) (f := Box6.row) (fun s => { s with y := v }) fun x => by simp [Box6.row, QU]
theorem QeA {l : List Box6} {i : Nat} {v : Int} : (l.map Box6.row).set i (QU ((l.map Box6.row).getD i []) 2 [.int .i64 v]) = (l.set i { l.getD i default with l := v }).map Box6.row :=
  JQ (α := Box6) (f := Box6.row) (fun s => { s with l := v }) fun x => by simp [Box6.row, QU]
theorem QeB {l : List Box6} {i : Nat} {v : Int} : (l.map Box6.row).set i (QU ((l.map Box6.row).getD i []) 3 [.int .i64 v]) = (l.set i { l.getD i default with h := v }).map Box6.row :=
  JQ (α := Box6) (f := Box6.row) (fun s => { s with h := v }) fun x => by simp [Box6.row, QU]
theorem QeC {l : List Box6} {i : Nat} {v : Int} : (l.map Box6.row).set i (QU ((l.map Box6.row).getD i []) 4 [.int .i64 v]) = (l.set i { l.getD i default with i := v }).map Box6.row :=
  JQ (α := Box6) (f := Box6.row) (fun s => { s with i := v }) fun x => by simp [Box6.row, QU]
theorem QeD {l : List Box6} {i : Nat} {v : Int} : (l.map Box6.row).set i (QU ((l.map Box6.row).getD i []) 5 [.int .i64 v]) = (l.set i { l.getD i default with o := v }).map Box6.row :=
  JQ (α := Box6) (f := Box6.row) (fun s => { s with o := v }) fun x => by simp [Box6.row, QU]
set_option maxHeartbeats 1000000 in
theorem Qb3 (v : Nat) (k : Int) (a : List Box6) (ha : a.length ≤ 1048577) (hk : 0 ≤ k ∧ k ≤ 1125899906842624) : Contract P 28 [.own 3 v 0 a.length, .int .i64 k] [(3, .arr 100 v 6 (a.map Box6.row))] (.int .i64 (k + 6 * a.length)) [(3, .arr 100 v 6 ((XJ k a.length).map Box6.row))] := by
  have hz : ((0 : Nat) : Int) = 0 := rfl
  have gs : True := trivial
  refine Qg (Env.nil P) hm QbS (nlb rfl) rfl ?_; unfold Zs; simp (maxSteps := 2000000) only [bitvec_to_nat, reduceIte, Nat.reduceEqDiff, Nat.reduceAdd, Nat.reduceLeDiff, reduceCtorEq, Nat.reduceBEq, Nat.reduceLT, Nat.reduceMod, fmc, Qf, Qh, Qe, Qu, keepB, Qi, Qw, Qey, Qez, QeA, QeB, QeC, QeD, List.set_set, gs, Box6.row, QfD, Jw, Int.toNat_natCast, List.length_map, List.length_set, Nat.sub_zero, Nat.zero_add, hz]
  refine QE (fun b : Nat × List Box6 => [(1, .int .i64 (k + 6 * b.1)), (5, .int .i64 b.1)]) (fun b => [(3, .arr 100 v 6 (b.2.map Box6.row))]) (fun b => b.2.length = a.length ∧ b.1 ≤ a.length ∧ ∀ j, j < b.1 → b.2.getD j default = QgQ (k + 6 * (j : Int))) (fun b => a.length - b.1) (0, a) ?_ ⟨rfl, Nat.zero_le _, fun j hj => absurd hj (Nat.not_lt_zero _)⟩ ?_
  · have e0 : k + 6 * ((0 : Nat) : Int) = k := by omega
    simp only [e0]
    simp only [Jr, Js, Jt, Ju, Qj, Qk, Ql, Qm, reduceIte, Nat.reduceEqDiff]; exact ⟨by repeat' (first | exact trivial | refine ⟨.inr rfl, ?_⟩), by repeat' (first | exact trivial | refine ⟨rfl, ?_⟩), by first | rfl | simp [closedB, Qd, Qb, Qc, dom, Qa, *], by first | rfl | simp [keepB, dom]⟩
  rintro ⟨i, l⟩ ⟨h1, h2, h3⟩ NX hN
  simp only at h1 h2 h3
  have gs : i < a.length → ∀ x : Box6, (l.set i x).getD i default = x := fun h x => KS (by omega)
  by_cases hi : i < a.length
  · have gs := gs hi
    have e5 : k + 6 * ((i + 1 : Nat) : Int) = k + 6 * (i : Int) + 1 + 1 + 1 + 1 + 1 + 1 := by omega
    unfold Yd; simp (maxSteps := 2000000) only [bitvec_to_nat, reduceIte, Nat.reduceEqDiff, Nat.reduceAdd, Nat.reduceLeDiff, reduceCtorEq, Nat.reduceBEq, Nat.reduceLT, Nat.reduceMod, fmc, Qf, Qh, Qe, Qu, keepB, Qi, Qw, Qey, Qez, QeA, QeB, QeC, QeD, List.set_set, gs, Box6.row, QfD, Jw, Int.toNat_natCast, List.length_map, List.length_set, Nat.sub_zero, Nat.zero_add, hz]
    repeat' (first | with_reducible apply And.intro | with_reducible intro _)
    all_goals first
      | omega
      | (refine hN (i + 1, l.set i (QgQ (k + 6 * (i : Int)))) _ (by simp only [e5]; simp only [Jr, Js, Jt, Ju, Qj, Qk, Ql, Qm, reduceIte, Nat.reduceEqDiff]; exact ⟨by repeat' (first | exact trivial | refine ⟨.inr rfl, ?_⟩), by repeat' (first | exact trivial | refine ⟨rfl, ?_⟩), by first | rfl | simp [closedB, Qd, Qb, Qc, dom, Qa, *], by first | rfl | simp [keepB, dom]⟩) ⟨by simp only [List.length_set]; exact h1, hi, fun j hj => ?_⟩ (by simp only; omega)
         simp only at hj ⊢
         by_cases e : j = i
         · subst e; exact KS (by omega)
         · rw [Y4 (Ne.symm e)]; exact h3 j (by omega))
      | (exfalso; omega)
  · have hl : l = XJ k a.length := WR (by rw [QP]; exact h1) fun j hj => by rw [QgR (by omega)]; exact h3 j (by omega)
    have hi' : ¬ (i : Int) < a.length := by omega
    unfold Yd; simp (maxSteps := 2000000) only [bitvec_to_nat, reduceIte, Nat.reduceEqDiff, Nat.reduceAdd, Nat.reduceLeDiff, reduceCtorEq, Nat.reduceBEq, Nat.reduceLT, Nat.reduceMod, fmc, Qf, Qh, Qe, Qu, keepB, Qi, Qw, Qey, Qez, QeA, QeB, QeC, QeD, List.set_set, gs, Box6.row, QfD, Jw, Int.toNat_natCast, List.length_map, List.length_set, Nat.sub_zero, Nat.zero_add, hz, hi']
    refine ⟨by omega, ?_⟩
    rw [hl]
set_option maxHeartbeats 1000000 in
theorem QkH (t : Nat) (k : Int) (n : Nat) (ha : n ≤ 1048577) (hk : 0 ≤ k ∧ k ≤ 1125899906842624) : Contract P 56 [.sl t 6 ((XJ k n).map Box6.row), .int .i64 k] [] (.int .i64 (k + 6 * n)) [] := by
  have hz : ((0 : Nat) : Int) = 0 := rfl
  refine Qg (Env.nil P) hm QbT (nlb rfl) rfl ?_; unfold Zy; simp (maxSteps := 2000000) only [bitvec_to_nat, reduceIte, Nat.reduceEqDiff, Nat.reduceAdd, Nat.reduceLeDiff, reduceCtorEq, Nat.reduceBEq, Nat.reduceLT, Nat.reduceMod, fmc, Box6.row, Qiu, QfD, Jw, Int.toNat_natCast, List.length_map, Nat.sub_zero, Nat.zero_add, hz, eq_self, QP]
  refine QE (fun i : Nat => [(1, .int .i64 (k + 6 * i)), (5, .int .i64 i)]) (fun _ => []) (fun i => i ≤ n) (fun i => n - i) 0 ?_ (Nat.zero_le _) ?_
  · have e0 : k + 6 * ((0 : Nat) : Int) = k := by omega
    simp only [e0]
    simp only [Jr, Js, Jt, Ju, Qj, Qk, Ql, Qm, reduceIte, Nat.reduceEqDiff]; exact ⟨by repeat' (first | exact trivial | refine ⟨.inr rfl, ?_⟩), by repeat' (first | exact trivial | refine ⟨rfl, ?_⟩), by first | rfl | simp [closedB, Qd, Qb, Qc, dom, Qa, *], by first | rfl | simp [keepB, dom]⟩
  intro i hi NX hN
  have e5 : k + 6 * ((i + 1 : Nat) : Int) = k + 6 * (i : Int) + 1 + 1 + 1 + 1 + 1 + 1 := by omega
  by_cases h : i < n
  · have hg := QgR (k := k) h
    have h' : (i : Int) < n := by omega
    unfold Ye; simp (maxSteps := 2000000) only [bitvec_to_nat, reduceIte, Nat.reduceEqDiff, Nat.reduceAdd, Nat.reduceLeDiff, reduceCtorEq, Nat.reduceBEq, Nat.reduceLT, Nat.reduceMod, fmc, Box6.row, Qiu, QfD, Jw, Int.toNat_natCast, List.length_map, Nat.sub_zero, Nat.zero_add, hz, eq_self, QP, h', hg, QgQ, not_true_eq_false, ne_eq, bne_self_eq_false]
    repeat' (first | with_reducible apply And.intro | with_reducible intro _)
    all_goals first
      | omega
      | rfl
      | (rename_i h; exact absurd rfl h)
      | (refine hN (i + 1) _ (by simp only [e5]; simp only [Jr, Js, Jt, Ju, Qj, Qk, Ql, Qm, reduceIte, Nat.reduceEqDiff]; exact ⟨by repeat' (first | exact trivial | refine ⟨.inr rfl, ?_⟩), by repeat' (first | exact trivial | refine ⟨rfl, ?_⟩), by first | rfl | simp [closedB, Qd, Qb, Qc, dom, Qa, *], by first | rfl | simp [keepB, dom]⟩) ?_ ?_ <;> omega)
  · have h' : ¬ (i : Int) < n := by omega
    unfold Ye; simp (maxSteps := 2000000) only [bitvec_to_nat, reduceIte, Nat.reduceEqDiff, Nat.reduceAdd, Nat.reduceLeDiff, reduceCtorEq, Nat.reduceBEq, Nat.reduceLT, Nat.reduceMod, fmc, Box6.row, Qiu, QfD, Jw, Int.toNat_natCast, List.length_map, Nat.sub_zero, Nat.zero_add, hz, eq_self, QP, h']
    omega
def QgS (k : Int) : Seen := ⟨mtx (k), k + 1⟩
def Ww (k : Int) (n : Nat) : List Seen := (List.range n).map fun j : Nat => QgS (k + 2 * (j : Int))
theorem Z3 {k : Int} {n : Nat} : (Ww k n).length = n := by simp [Ww]
theorem QgT {k : Int} {n j : Nat} (h : j < n) : (Ww k n).getD j default = QgS (k + 2 * (j : Int)) := by simp [Ww, h]
theorem QeE {l : List Seen} {i : Nat} {v : ByteArray} : (l.map Seen.row).set i (QU ((l.map Seen.row).getD i []) 0 [.str v]) = (l.set i { l.getD i default with fl := v }).map Seen.row :=
  JQ (α := Seen) (f := Seen.row) (fun s => { s with fl := v }) fun x => by simp [Seen.row, QU]
theorem QeF {l : List Seen} {i : Nat} {v : Int} : (l.map Seen.row).set i (QU ((l.map Seen.row).getD i []) 1 [.int .i64 v]) = (l.set i { l.getD i default with nr := v }).map Seen.row :=
  JQ (α := Seen) (f := Seen.row) (fun s => { s with nr := v }) fun x => by simp [Seen.row, QU]
set_option maxHeartbeats 1000000 in
theorem QkI (v : Nat) (k : Int) (a : List Seen) (ha : a.length ≤ 1048577) (hk : 0 ≤ k ∧ k ≤ 1125899906842624) : Contract P 55 [.own 3 v 0 a.length, .int .i64 k] [(3, .arr 118 v 2 (a.map Seen.row))] (.int .i64 (k + 2 * a.length)) [(3, .arr 118 v 2 ((Ww k a.length).map Seen.row))] := by
  have hz : ((0 : Nat) : Int) = 0 := rfl
  have gs : True := trivial
  refine Qg ((Env.nil P).add 52 Qr Kb) hm XZ (nlb rfl) rfl ?_; unfold YC; simp (maxSteps := 2000000) only [bitvec_to_nat, reduceIte, Nat.reduceEqDiff, Nat.reduceAdd, Nat.reduceLeDiff, reduceCtorEq, Nat.reduceBEq, Nat.reduceLT, Nat.reduceMod, fmc, Qf, Qh, Qe, Qu, keepB, Qi, Qw, Qr, QeE, QeF, List.set_set, gs, Seen.row, QfD, Jw, Int.toNat_natCast, List.length_map, List.length_set, Nat.sub_zero, Nat.zero_add, hz]
  refine QE (fun b : Nat × List Seen => [(1, .int .i64 (k + 2 * b.1)), (5, .int .i64 b.1)]) (fun b => [(3, .arr 118 v 2 (b.2.map Seen.row))]) (fun b => b.2.length = a.length ∧ b.1 ≤ a.length ∧ ∀ j, j < b.1 → b.2.getD j default = QgS (k + 2 * (j : Int))) (fun b => a.length - b.1) (0, a) ?_ ⟨rfl, Nat.zero_le _, fun j hj => absurd hj (Nat.not_lt_zero _)⟩ ?_
  · have e0 : k + 2 * ((0 : Nat) : Int) = k := by omega
    simp only [e0]
    simp only [Jr, Js, Jt, Ju, Qj, Qk, Ql, Qm, reduceIte, Nat.reduceEqDiff]; exact ⟨by repeat' (first | exact trivial | refine ⟨.inr rfl, ?_⟩), by repeat' (first | exact trivial | refine ⟨rfl, ?_⟩), by first | rfl | simp [closedB, Qd, Qb, Qc, dom, Qa, *], by first | rfl | simp [keepB, dom]⟩
  rintro ⟨i, l⟩ ⟨h1, h2, h3⟩ NX hN
  simp only at h1 h2 h3
  have gs : i < a.length → ∀ x : Seen, (l.set i x).getD i default = x := fun h x => KS (by omega)
  by_cases hi : i < a.length
  · have gs := gs hi
    have e5 : k + 2 * ((i + 1 : Nat) : Int) = k + 2 * (i : Int) + 1 + 1 := by omega
    unfold J7; simp (maxSteps := 2000000) only [bitvec_to_nat, reduceIte, Nat.reduceEqDiff, Nat.reduceAdd, Nat.reduceLeDiff, reduceCtorEq, Nat.reduceBEq, Nat.reduceLT, Nat.reduceMod, fmc, Qf, Qh, Qe, Qu, keepB, Qi, Qw, Qr, QeE, QeF, List.set_set, gs, Seen.row, QfD, Jw, Int.toNat_natCast, List.length_map, List.length_set, Nat.sub_zero, Nat.zero_add, hz]
    repeat' (first | with_reducible apply And.intro | with_reducible intro _)
    all_goals first
      | omega
      | (refine hN (i + 1, l.set i (QgS (k + 2 * (i : Int)))) _ (by simp only [e5]; simp only [Jr, Js, Jt, Ju, Qj, Qk, Ql, Qm, reduceIte, Nat.reduceEqDiff]; exact ⟨by repeat' (first | exact trivial | refine ⟨.inr rfl, ?_⟩), by repeat' (first | exact trivial | refine ⟨rfl, ?_⟩), by first | rfl | simp [closedB, Qd, Qb, Qc, dom, Qa, *], by first | rfl | simp [keepB, dom]⟩) ⟨by simp only [List.length_set]; exact h1, hi, fun j hj => ?_⟩ (by simp only; omega)
         simp only at hj ⊢
         by_cases e : j = i
         · subst e; exact KS (by omega)
         · rw [Y4 (Ne.symm e)]; exact h3 j (by omega))
      | (exfalso; omega)
  · have hl : l = Ww k a.length := WR (by rw [Z3]; exact h1) fun j hj => by rw [QgT (by omega)]; exact h3 j (by omega)
    have hi' : ¬ (i : Int) < a.length := by omega
    unfold J7; simp (maxSteps := 2000000) only [bitvec_to_nat, reduceIte, Nat.reduceEqDiff, Nat.reduceAdd, Nat.reduceLeDiff, reduceCtorEq, Nat.reduceBEq, Nat.reduceLT, Nat.reduceMod, fmc, Qf, Qh, Qe, Qu, keepB, Qi, Qw, Qr, QeE, QeF, List.set_set, gs, Seen.row, QfD, Jw, Int.toNat_natCast, List.length_map, List.length_set, Nat.sub_zero, Nat.zero_add, hz, hi']
    refine ⟨by omega, ?_⟩
    rw [hl]
set_option maxHeartbeats 1000000 in
theorem QgU (t : Nat) (k : Int) (n : Nat) (ha : n ≤ 1048577) (hk : 0 ≤ k ∧ k ≤ 1125899906842624) : Contract P 64 [.sl t 2 ((Ww k n).map Seen.row), .int .i64 k] [] (.int .i64 (k + 2 * n)) [] := by
  have hz : ((0 : Nat) : Int) = 0 := rfl
  refine Qg ((Env.nil P).add 52 Qr Kb) hm Qbn (nlb rfl) rfl ?_; unfold X1; simp (maxSteps := 2000000) only [bitvec_to_nat, reduceIte, Nat.reduceEqDiff, Nat.reduceAdd, Nat.reduceLeDiff, reduceCtorEq, Nat.reduceBEq, Nat.reduceLT, Nat.reduceMod, fmc, Qr, Seen.row, Qo, QfD, Jw, Int.toNat_natCast, List.length_map, Nat.sub_zero, Nat.zero_add, hz, eq_self, Z3]
  refine QE (fun i : Nat => [(1, .int .i64 (k + 2 * i)), (5, .int .i64 i)]) (fun _ => []) (fun i => i ≤ n) (fun i => n - i) 0 ?_ (Nat.zero_le _) ?_
  · have e0 : k + 2 * ((0 : Nat) : Int) = k := by omega
    simp only [e0]
    simp only [Jr, Js, Jt, Ju, Qj, Qk, Ql, Qm, reduceIte, Nat.reduceEqDiff]; exact ⟨by repeat' (first | exact trivial | refine ⟨.inr rfl, ?_⟩), by repeat' (first | exact trivial | refine ⟨rfl, ?_⟩), by first | rfl | simp [closedB, Qd, Qb, Qc, dom, Qa, *], by first | rfl | simp [keepB, dom]⟩
  intro i hi NX hN
  have e5 : k + 2 * ((i + 1 : Nat) : Int) = k + 2 * (i : Int) + 1 + 1 := by omega
  by_cases h : i < n
  · have hg := QgT (k := k) h
    have h' : (i : Int) < n := by omega
    unfold KX; simp (maxSteps := 2000000) only [bitvec_to_nat, reduceIte, Nat.reduceEqDiff, Nat.reduceAdd, Nat.reduceLeDiff, reduceCtorEq, Nat.reduceBEq, Nat.reduceLT, Nat.reduceMod, fmc, Qr, Seen.row, Qo, QfD, Jw, Int.toNat_natCast, List.length_map, Nat.sub_zero, Nat.zero_add, hz, eq_self, Z3, h', hg, QgS, not_true_eq_false, ne_eq, bne_self_eq_false]
    repeat' (first | with_reducible apply And.intro | with_reducible intro _)
    all_goals first
      | omega
      | rfl
      | (rename_i h; exact absurd rfl h)
      | (refine hN (i + 1) _ (by simp only [e5]; simp only [Jr, Js, Jt, Ju, Qj, Qk, Ql, Qm, reduceIte, Nat.reduceEqDiff]; exact ⟨by repeat' (first | exact trivial | refine ⟨.inr rfl, ?_⟩), by repeat' (first | exact trivial | refine ⟨rfl, ?_⟩), by first | rfl | simp [closedB, Qd, Qb, Qc, dom, Qa, *], by first | rfl | simp [keepB, dom]⟩) ?_ ?_ <;> omega)
  · have h' : ¬ (i : Int) < n := by omega
    unfold KX; simp (maxSteps := 2000000) only [bitvec_to_nat, reduceIte, Nat.reduceEqDiff, Nat.reduceAdd, Nat.reduceLeDiff, reduceCtorEq, Nat.reduceBEq, Nat.reduceLT, Nat.reduceMod, fmc, Qr, Seen.row, Qo, QfD, Jw, Int.toNat_natCast, List.length_map, Nat.sub_zero, Nat.zero_add, hz, eq_self, Z3, h']
    omega
def Qiv (k : Int) : Zone := ⟨mtx (k), k + 1, k + 1 + 1, k + 1 + 1 + 1, k + 1 + 1 + 1 + 1⟩
def Z4 (k : Int) (n : Nat) : List Zone := (List.range n).map fun j : Nat => Qiv (k + 5 * (j : Int))
theorem Qs {k : Int} {n : Nat} : (Z4 k n).length = n := by simp [Z4]
theorem QkJ {k : Int} {n j : Nat} (h : j < n) : (Z4 k n).getD j default = Qiv (k + 5 * (j : Int)) := by simp [Z4, h]
theorem QeG {l : List Zone} {i : Nat} {v : ByteArray} : (l.map Zone.row).set i (QU ((l.map Zone.row).getD i []) 0 [.str v]) = (l.set i { l.getD i default with nm := v }).map Zone.row :=
  JQ (α := Zone) (f := Zone.row) (fun s => { s with nm := v }) fun x => by simp [Zone.row, QU]
theorem QeH {l : List Zone} {i : Nat} {v : Int} : (l.map Zone.row).set i (QU ((l.map Zone.row).getD i []) 1 [.int .i64 v]) = (l.set i { l.getD i default with x0 := v }).map Zone.row :=
  JQ (α := Zone) (f := Zone.row) (fun s => { s with x0 := v }) fun x => by simp [Zone.row, QU]
theorem QeI {l : List Zone} {i : Nat} {v : Int} : (l.map Zone.row).set i (QU ((l.map Zone.row).getD i []) 2 [.int .i64 v]) = (l.set i { l.getD i default with y0 := v }).map Zone.row :=
  JQ (α := Zone) (f := Zone.row) (fun s => { s with y0 := v }) fun x => by simp [Zone.row, QU]
theorem QeJ {l : List Zone} {i : Nat} {v : Int} : (l.map Zone.row).set i (QU ((l.map Zone.row).getD i []) 3 [.int .i64 v]) = (l.set i { l.getD i default with x1 := v }).map Zone.row :=
  JQ (α := Zone) (f := Zone.row) (fun s => { s with x1 := v }) fun x => by simp [Zone.row, QU]
theorem QeK {l : List Zone} {i : Nat} {v : Int} : (l.map Zone.row).set i (QU ((l.map Zone.row).getD i []) 4 [.int .i64 v]) = (l.set i { l.getD i default with y1 := v }).map Zone.row :=
  JQ (α := Zone) (f := Zone.row) (fun s => { s with y1 := v }) fun x => by simp [Zone.row, QU]
set_option maxHeartbeats 1000000 in
theorem QkK (v : Nat) (k : Int) (a : List Zone) (ha : a.length ≤ 1048577) (hk : 0 ≤ k ∧ k ≤ 1125899906842624) : Contract P 16 [.own 3 v 0 a.length, .int .i64 k] [(3, .arr 76 v 5 (a.map Zone.row))] (.int .i64 (k + 5 * a.length)) [(3, .arr 76 v 5 ((Z4 k a.length).map Zone.row))] := by
  have hz : ((0 : Nat) : Int) = 0 := rfl
  have gs : True := trivial
  refine Qg ((Env.nil P).add 52 Qr Kb) hm Qbl (nlb rfl) rfl ?_; unfold XQ; simp (maxSteps := 2000000) only [bitvec_to_nat, reduceIte, Nat.reduceEqDiff, Nat.reduceAdd, Nat.reduceLeDiff, reduceCtorEq, Nat.reduceBEq, Nat.reduceLT, Nat.reduceMod, fmc, Qf, Qh, Qe, Qu, keepB, Qi, Qw, Qr, QeG, QeH, QeI, QeJ, QeK, List.set_set, gs, Zone.row, QfD, Jw, Int.toNat_natCast, List.length_map, List.length_set, Nat.sub_zero, Nat.zero_add, hz]
  refine QE (fun b : Nat × List Zone => [(1, .int .i64 (k + 5 * b.1)), (5, .int .i64 b.1)]) (fun b => [(3, .arr 76 v 5 (b.2.map Zone.row))]) (fun b => b.2.length = a.length ∧ b.1 ≤ a.length ∧ ∀ j, j < b.1 → b.2.getD j default = Qiv (k + 5 * (j : Int))) (fun b => a.length - b.1) (0, a) ?_ ⟨rfl, Nat.zero_le _, fun j hj => absurd hj (Nat.not_lt_zero _)⟩ ?_
  · have e0 : k + 5 * ((0 : Nat) : Int) = k := by omega
    simp only [e0]
    simp only [Jr, Js, Jt, Ju, Qj, Qk, Ql, Qm, reduceIte, Nat.reduceEqDiff]; exact ⟨by repeat' (first | exact trivial | refine ⟨.inr rfl, ?_⟩), by repeat' (first | exact trivial | refine ⟨rfl, ?_⟩), by first | rfl | simp [closedB, Qd, Qb, Qc, dom, Qa, *], by first | rfl | simp [keepB, dom]⟩
  rintro ⟨i, l⟩ ⟨h1, h2, h3⟩ NX hN
  simp only at h1 h2 h3
  have gs : i < a.length → ∀ x : Zone, (l.set i x).getD i default = x := fun h x => KS (by omega)
  by_cases hi : i < a.length
  · have gs := gs hi
    have e5 : k + 5 * ((i + 1 : Nat) : Int) = k + 5 * (i : Int) + 1 + 1 + 1 + 1 + 1 := by omega
    unfold KV; simp (maxSteps := 2000000) only [bitvec_to_nat, reduceIte, Nat.reduceEqDiff, Nat.reduceAdd, Nat.reduceLeDiff, reduceCtorEq, Nat.reduceBEq, Nat.reduceLT, Nat.reduceMod, fmc, Qf, Qh, Qe, Qu, keepB, Qi, Qw, Qr, QeG, QeH, QeI, QeJ, QeK, List.set_set, gs, Zone.row, QfD, Jw, Int.toNat_natCast, List.length_map, List.length_set, Nat.sub_zero, Nat.zero_add, hz]
    repeat' (first | with_reducible apply And.intro | with_reducible intro _)
    all_goals first
      | omega
      | (refine hN (i + 1, l.set i (Qiv (k + 5 * (i : Int)))) _ (by simp only [e5]; simp only [Jr, Js, Jt, Ju, Qj, Qk, Ql, Qm, reduceIte, Nat.reduceEqDiff]; exact ⟨by repeat' (first | exact trivial | refine ⟨.inr rfl, ?_⟩), by repeat' (first | exact trivial | refine ⟨rfl, ?_⟩), by first | rfl | simp [closedB, Qd, Qb, Qc, dom, Qa, *], by first | rfl | simp [keepB, dom]⟩) ⟨by simp only [List.length_set]; exact h1, hi, fun j hj => ?_⟩ (by simp only; omega)
         simp only at hj ⊢
         by_cases e : j = i
         · subst e; exact KS (by omega)
         · rw [Y4 (Ne.symm e)]; exact h3 j (by omega))
      | (exfalso; omega)
  · have hl : l = Z4 k a.length := WR (by rw [Qs]; exact h1) fun j hj => by rw [QkJ (by omega)]; exact h3 j (by omega)
    have hi' : ¬ (i : Int) < a.length := by omega
    unfold KV; simp (maxSteps := 2000000) only [bitvec_to_nat, reduceIte, Nat.reduceEqDiff, Nat.reduceAdd, Nat.reduceLeDiff, reduceCtorEq, Nat.reduceBEq, Nat.reduceLT, Nat.reduceMod, fmc, Qf, Qh, Qe, Qu, keepB, Qi, Qw, Qr, QeG, QeH, QeI, QeJ, QeK, List.set_set, gs, Zone.row, QfD, Jw, Int.toNat_natCast, List.length_map, List.length_set, Nat.sub_zero, Nat.zero_add, hz, hi']
    refine ⟨by omega, ?_⟩
    rw [hl]
end
end Go.Ve

