/- Part 4 of the proof: laws and contracts of functions, each proved; they are joined in the last part. No conditions beyond those that the theorems state. -/
import Derived.Test.YtppifjfappcbgaaGreatProg
import Derived.Test.YtppifjfappcbgaaGreatHw3
set_option linter.all false
namespace Go.Ve
noncomputable section
open Go.Proofs
set_option maxRecDepth 100000
def Box6.near (a b : Box6) : Prop := a.ok ∧ b.ok ∧ (a.i ≤ b.o ∧ b.i ≤ a.o) ∧ (a.l ≤ b.h ∧ b.l ≤ a.h) ∧ (-1 ≤ a.x - b.x ∧ a.x - b.x ≤ 1) ∧ (-1 ≤ a.y - b.y ∧ a.y - b.y ≤ 1)
instance (a b : Box6) : Decidable (a.near b) := Classical.propDecidable _
def Qdo (a b : List Box6) : Prop := ∃ i, i < a.length ∧ ∃ k, k < b.length ∧ (a.getD i default).near (b.getD k default)
instance (a b : List Box6) : Decidable (Qdo a b) := Classical.propDecidable _
theorem Qny (x y l h i o x' y' l' h' i' o' : Int) (hp : True) : Contract P 136 [.agg [.int .i64 x, .int .i64 y, .int .i64 l, .int .i64 h, .int .i64 i, .int .i64 o], .agg [.int .i64 x', .int .i64 y', .int .i64 l', .int .i64 h', .int .i64 i', .int .i64 o']] [] (.bool (decide (Box6.near ⟨x, y, l, h, i, o⟩ ⟨x', y', l', h', i', o'⟩))) [] := by
  refine Qh (((Env.nil P).add 80 Je Gr).add 99 KI Qe4) hm Qg8 (nlb rfl) rfl ?_; unfold Qbf; simp (maxSteps := 2000000) only [bitvec_to_nat, reduceIte, Nat.reduceEqDiff, Nat.reduceAdd, Nat.reduceLeDiff, reduceCtorEq, Nat.reduceBEq, Nat.reduceLT, Nat.reduceMod, fmc, Je, KI, int_toBitVec_meta]
  simp only [Box6.near, Box6.ok]
  repeat' (first | with_reducible apply And.intro | with_reducible intro _)
  all_goals first | omega | grind
def ZM : List AV → Option (Prop × AV)
  | [.agg [.int .i64 p_x, .int .i64 p_y, .int .i64 p_l, .int .i64 p_h, .int .i64 p_i, .int .i64 p_o], .agg [.int .i64 q_x, .int .i64 q_y, .int .i64 q_l, .int .i64 q_h, .int .i64 q_i, .int .i64 q_o]] => some ((True) ∧ (True), .bool (decide ((Box6.mk p_x p_y p_l p_h p_i p_o).near (Box6.mk q_x q_y q_l q_h q_i q_o))))
  | _ => none
theorem Qnz : ∀ args p v, ZM args = some (p, v) → p → Contract P 136 args [] v [] ∧ noref v = true ∧ No99 v := by
  intro args p v h1 h2
  unfold ZM at h1
  split at h1
  · rename_i p_x p_y p_l p_h p_i p_o q_x q_y q_l q_h q_i q_o
    cases h1
    obtain ⟨_, HP⟩ := h2
    have := Qny p_x p_y p_l p_h p_i p_o q_x q_y q_l q_h q_i q_o HP
    exact ⟨by simpa only [Box6.row, Box6.row] using this, rfl, trivial⟩
  · cases h1
theorem Qss (t t' : Nat) (a b : List Box6) (ha : a.length ≤ 4611686018427387904) (hb : b.length ≤ 4611686018427387904) : Contract P 109 [.sl t 6 (a.map Box6.row), .sl t' 6 (b.map Box6.row)] [] (.bool (decide (Qdo a b))) [] := by
  refine Qh ((Env.nil P).add 136 ZM Qnz) hm Qg3 (nlb rfl) rfl ?_; unfold Qa9; simp (maxSteps := 2000000) only [bitvec_to_nat, reduceIte, Nat.reduceEqDiff, Nat.reduceAdd, Nat.reduceLeDiff, reduceCtorEq, Nat.reduceBEq, Nat.reduceLT, Nat.reduceMod, fmc, ZM, int_toBitVec_meta]
  refine QH (fun i : Nat => [(5, .int .i64 i)]) (fun _ => []) (fun i => i ≤ a.length ∧ ∀ j, j < i → ¬ ∃ k, k < b.length ∧ (a.getD j default).near (b.getD k default)) (fun i => a.length - i) (0) (by simp only [Ju, Jv, Jw, Jx, Qi, Qj, Qk, Ql, reduceIte, Nat.reduceEqDiff]; exact ⟨by repeat' (first | exact trivial | refine ⟨.inr rfl, ?_⟩), by repeat' (first | exact trivial | refine ⟨rfl, ?_⟩), by first | rfl | simp [closedB, Qc, Qb, Qd, dom, Qa, *], by first | rfl | simp [keepB, dom]⟩) ?_ ?_
  · exact ⟨Nat.zero_le _, by intro j hj; omega⟩
  intro i hi NX hN
  unfold WO; simp (maxSteps := 2000000) only [bitvec_to_nat, reduceIte, Nat.reduceEqDiff, Nat.reduceAdd, Nat.reduceLeDiff, reduceCtorEq, Nat.reduceBEq, Nat.reduceLT, Nat.reduceMod, fmc, ZM, int_toBitVec_meta]
  
  repeat' (first | with_reducible apply And.intro | with_reducible intro _)
  all_goals first
    | omega
    | (refine QH (fun k : Nat => [(6, .int .i64 k)]) (fun _ => []) (fun k => k ≤ b.length ∧ ∀ j, j < k → ¬ (a.getD i default).near (b.getD j default)) (fun k => b.length - k) (0) (by simp only [Ju, Jv, Jw, Jx, Qi, Qj, Qk, Ql, reduceIte, Nat.reduceEqDiff]; exact ⟨by repeat' (first | exact trivial | refine ⟨.inr rfl, ?_⟩), by repeat' (first | exact trivial | refine ⟨rfl, ?_⟩), by first | rfl | simp [closedB, Qc, Qb, Qd, dom, Qa, *], by first | rfl | simp [keepB, dom]⟩) ?_ ?_
       · exact ⟨Nat.zero_le _, by intro j hj; omega⟩
       intro k hk NX2 hN2
       unfold WN; simp (maxSteps := 2000000) only [bitvec_to_nat, reduceIte, Nat.reduceEqDiff, Nat.reduceAdd, Nat.reduceLeDiff, reduceCtorEq, Nat.reduceBEq, Nat.reduceLT, Nat.reduceMod, fmc, ZM, int_toBitVec_meta]
       repeat' (first | with_reducible apply And.intro | with_reducible intro _)
       all_goals first
         | omega
         | (refine hN2 (k + 1) _ (by simp only [Ju, Jv, Jw, Jx, Qi, Qj, Qk, Ql, reduceIte, Nat.reduceEqDiff]; exact ⟨by repeat' (first | exact trivial | refine ⟨.inr rfl, ?_⟩), by repeat' (first | exact trivial | refine ⟨rfl, ?_⟩), by first | rfl | simp [closedB, Qc, Qb, Qd, dom, Qa, *], by first | rfl | simp [keepB, dom]⟩) ?_ ?_
            · exact ⟨by omega, Jf hk.2 (by assumption)⟩
            · omega)
         | (refine hN (i + 1) _ (by simp only [Ju, Jv, Jw, Jx, Qi, Qj, Qk, Ql, reduceIte, Nat.reduceEqDiff]; exact ⟨by repeat' (first | exact trivial | refine ⟨.inr rfl, ?_⟩), by repeat' (first | exact trivial | refine ⟨rfl, ?_⟩), by first | rfl | simp [closedB, Qc, Qb, Qd, dom, Qa, *], by first | rfl | simp [keepB, dom]⟩) ?_ ?_
            · refine ⟨by omega, Jf hi.2 ?_⟩
              rintro ⟨k', h1, h2⟩
              exact hk.2 k' (by omega) h2
            · omega)
         | (exact ⟨i, by omega, k, by omega, by assumption⟩))
    | (rintro ⟨j, h1, h2⟩
       exact hi.2 j (by omega) h2)
set_option maxHeartbeats 1000000 in
theorem Qts (t t' : Nat) (a b : List Box6) (ha : a.length ≤ 4611686018427387904) (hb : b.length ≤ 4611686018427387904) : Contract P 130 [.sl t 6 (a.map Box6.row), .sl t' 6 (b.map Box6.row)] [] (.bool (decide (Qdo a b))) [] := by
  refine Qh (((Env.nil P).add 121 Kx Qdi).add 138 QiG Qtl) hm Qg7 (nlb rfl) rfl ?_; unfold Qbe; simp (maxSteps := 2000000) only [bitvec_to_nat, reduceIte, Nat.reduceEqDiff, Nat.reduceAdd, Nat.reduceLeDiff, reduceCtorEq, Nat.reduceBEq, Nat.reduceLT, Nat.reduceMod, fmc, Kx, QiG, int_toBitVec_meta]
  refine QH (fun i : Nat => [(11, .int .i64 i)]) (fun _ => []) (fun i => i ≤ a.length ∧ ∀ j, j < i → ¬ ∃ k, k < b.length ∧ (a.getD j default).near (b.getD k default)) (fun i => a.length - i) (0) (by simp only [Ju, Jv, Jw, Jx, Qi, Qj, Qk, Ql, reduceIte, Nat.reduceEqDiff]; exact ⟨by repeat' (first | exact trivial | refine ⟨.inr rfl, ?_⟩), by repeat' (first | exact trivial | refine ⟨rfl, ?_⟩), by first | rfl | simp [closedB, Qc, Qb, Qd, dom, Qa, *], by first | rfl | simp [keepB, dom]⟩) ?_ ?_
  · exact ⟨Nat.zero_le _, by intro j hj; omega⟩
  intro i hi NX hN
  unfold WS; simp (maxSteps := 2000000) only [bitvec_to_nat, reduceIte, Nat.reduceEqDiff, Nat.reduceAdd, Nat.reduceLeDiff, reduceCtorEq, Nat.reduceBEq, Nat.reduceLT, Nat.reduceMod, fmc, Kx, QiG, int_toBitVec_meta]
  
  repeat' (first | with_reducible apply And.intro | with_reducible intro _)
  all_goals first
    | omega
    | (have hx : (a.getD i default).ok := by assumption
       refine QH (fun k : Nat => [(20, .int .i64 k)]) (fun _ => []) (fun k => k ≤ b.length ∧ ∀ j, j < k → ¬ (a.getD i default).near (b.getD j default)) (fun k => b.length - k) (0) (by simp only [Ju, Jv, Jw, Jx, Qi, Qj, Qk, Ql, reduceIte, Nat.reduceEqDiff]; exact ⟨by repeat' (first | exact trivial | refine ⟨.inr rfl, ?_⟩), by repeat' (first | exact trivial | refine ⟨rfl, ?_⟩), by first | rfl | simp [closedB, Qc, Qb, Qd, dom, Qa, *], by first | rfl | simp [keepB, dom]⟩) ?_ ?_
       · exact ⟨Nat.zero_le _, by intro j hj; omega⟩
       intro k hk NX2 hN2
       unfold WR; simp (maxSteps := 2000000) only [bitvec_to_nat, reduceIte, Nat.reduceEqDiff, Nat.reduceAdd, Nat.reduceLeDiff, reduceCtorEq, Nat.reduceBEq, Nat.reduceLT, Nat.reduceMod, fmc, Kx, QiG, int_toBitVec_meta]
       repeat' (first | with_reducible apply And.intro | with_reducible intro _)
       all_goals first
         | omega
         | (have hy : (b.getD k default).ok := by assumption
            unfold Box6.ok at hx hy; omega)
         | (refine hN2 (k + 1) _ (by simp only [Ju, Jv, Jw, Jx, Qi, Qj, Qk, Ql, reduceIte, Nat.reduceEqDiff]; exact ⟨by repeat' (first | exact trivial | refine ⟨.inr rfl, ?_⟩), by repeat' (first | exact trivial | refine ⟨rfl, ?_⟩), by first | rfl | simp [closedB, Qc, Qb, Qd, dom, Qa, *], by first | rfl | simp [keepB, dom]⟩) ?_ ?_
            · exact ⟨by omega, Jf hk.2 (by unfold Box6.near; grind)⟩
            · omega)
         | (refine hN (i + 1) _ (by simp only [Ju, Jv, Jw, Jx, Qi, Qj, Qk, Ql, reduceIte, Nat.reduceEqDiff]; exact ⟨by repeat' (first | exact trivial | refine ⟨.inr rfl, ?_⟩), by repeat' (first | exact trivial | refine ⟨rfl, ?_⟩), by first | rfl | simp [closedB, Qc, Qb, Qd, dom, Qa, *], by first | rfl | simp [keepB, dom]⟩) ?_ ?_
            · refine ⟨by omega, Jf hi.2 ?_⟩
              rintro ⟨k', h1, h2⟩
              exact hk.2 k' (by omega) h2
            · omega)
         | (exact ⟨i, by omega, k, by omega, by unfold Box6.near; grind⟩))
    | (refine hN (i + 1) _ (by simp only [Ju, Jv, Jw, Jx, Qi, Qj, Qk, Ql, reduceIte, Nat.reduceEqDiff]; exact ⟨by repeat' (first | exact trivial | refine ⟨.inr rfl, ?_⟩), by repeat' (first | exact trivial | refine ⟨rfl, ?_⟩), by first | rfl | simp [closedB, Qc, Qb, Qd, dom, Qa, *], by first | rfl | simp [keepB, dom]⟩) ?_ ?_
       · refine ⟨by omega, Jf hi.2 ?_⟩
         rintro ⟨k', h1, h2⟩
         exact absurd h2.1 (by assumption)
       · omega)
    | (rintro ⟨j, h1, h2⟩
       exact hi.2 j (by omega) h2)
def GM : List AV → Option (Prop × AV)
  | [.sl pt 6 px, .sl qt 6 qx] => some ((((px.map QD).map Box6.row = px) ∧ ((qx.map QD).map Box6.row = qx)) ∧ ((px.map QD).length ≤ 4611686018427387904 ∧ (qx.map QD).length ≤ 4611686018427387904), .bool (decide (Qdo (px.map QD) (qx.map QD))))
  | _ => none
theorem Qlp : ∀ args p v, GM args = some (p, v) → p → Contract P 109 args [] v [] ∧ noref v = true ∧ No99 v := by
  intro args p v h1 h2
  unfold GM at h1
  split at h1
  · rename_i pt px qt qx
    cases h1
    obtain ⟨⟨e0, e1⟩, HP⟩ := h2
    have := Qss pt qt (px.map QD) (qx.map QD) HP.1 HP.2
    exact ⟨by simpa only [e0, e1] using this, rfl, trivial⟩
  · cases h1
def Jr : List AV → Option (Prop × AV)
  | [.sl pt 6 px, .sl qt 6 qx] => some ((((px.map QD).map Box6.row = px) ∧ ((qx.map QD).map Box6.row = qx)) ∧ ((px.map QD).length ≤ 4611686018427387904 ∧ (qx.map QD).length ≤ 4611686018427387904), .bool (decide (Qdo (px.map QD) (qx.map QD))))
  | _ => none
theorem Qbm : ∀ args p v, Jr args = some (p, v) → p → Contract P 130 args [] v [] ∧ noref v = true ∧ No99 v := by
  intro args p v h1 h2
  unfold Jr at h1
  split at h1
  · rename_i pt px qt qx
    cases h1
    obtain ⟨⟨e0, e1⟩, HP⟩ := h2
    have := Qts pt qt (px.map QD) (qx.map QD) HP.1 HP.2
    exact ⟨by simpa only [e0, e1] using this, rfl, trivial⟩
  · cases h1
theorem Qqs (t : Nat) (l : List ByteArray) (v : ByteArray) (hl : l.length ≤ 4611686018427387904) : Contract P 137 [.sl t 1 (l.map JJ), .str v] [] (.int .i64 (Qiw (fun s => decide (v = s)) l)) [] := by
  refine Qh (Env.nil P) hm Qbg (nlb rfl) rfl ?_; unfold XW; simp (maxSteps := 2000000) only [bitvec_to_nat, reduceIte, Nat.reduceEqDiff, Nat.reduceAdd, Nat.reduceLeDiff, reduceCtorEq, Nat.reduceBEq, Nat.reduceLT, Nat.reduceMod, fmc, int_toBitVec_meta]
  refine QH (fun i : Nat => [(8, .int .i64 i)]) (fun _ => []) (fun i => i ≤ l.length ∧ ∀ j, j < i → decide (v = l.getD j default) = false) (fun i => l.length - i) (0) (by simp only [Ju, Jv, Jw, Jx, Qi, Qj, Qk, Ql, reduceIte, Nat.reduceEqDiff]; exact ⟨by repeat' (first | exact trivial | refine ⟨.inr rfl, ?_⟩), by repeat' (first | exact trivial | refine ⟨rfl, ?_⟩), by first | rfl | simp [closedB, Qc, Qb, Qd, dom, Qa, *], by first | rfl | simp [keepB, dom]⟩) ?_ ?_
  · exact ⟨Nat.zero_le _, by intro j hj; omega⟩
  intro i hi NX hN
  unfold GK; simp (maxSteps := 2000000) only [bitvec_to_nat, reduceIte, Nat.reduceEqDiff, Nat.reduceAdd, Nat.reduceLeDiff, reduceCtorEq, Nat.reduceBEq, Nat.reduceLT, Nat.reduceMod, fmc, int_toBitVec_meta]
  
  repeat' (first | with_reducible apply And.intro | with_reducible intro _)
  all_goals first
    | omega
    | (refine hN (i + 1) _ (by simp only [Ju, Jv, Jw, Jx, Qi, Qj, Qk, Ql, reduceIte, Nat.reduceEqDiff]; exact ⟨by repeat' (first | exact trivial | refine ⟨.inr rfl, ?_⟩), by repeat' (first | exact trivial | refine ⟨rfl, ?_⟩), by first | rfl | simp [closedB, Qc, Qb, Qd, dom, Qa, *], by first | rfl | simp [keepB, dom]⟩) ?_ ?_
       · exact ⟨by omega, Jf hi.2 (by simpa using ‹¬ _›)⟩
       · omega)
    | (rw [Qcr (i := i) (by omega) (by simpa using ‹_›) hi.2])
    | (rw [Wh fun j hj => hi.2 j (by omega)])
def Qgl : List AV → Option (Prop × AV)
  | [.sl lt 1 lx, .str v] => some ((((lx.map unS).map JJ = lx)) ∧ ((lx.map unS).length ≤ 4611686018427387904), .int .i64 (Qiw (fun s => decide (v = s)) (lx.map unS)))
  | _ => none
theorem Qqt : ∀ args p v, Qgl args = some (p, v) → p → Contract P 137 args [] v [] ∧ noref v = true ∧ No99 v := by
  intro args p v h1 h2
  unfold Qgl at h1
  split at h1
  · rename_i lt lx v
    cases h1
    obtain ⟨e0, HP⟩ := h2
    have := Qqs lt (lx.map unS) v HP
    exact ⟨by simpa only [e0] using this, rfl, trivial⟩
  · cases h1
instance (v : ByteArray) (l : List ByteArray) : Decidable (v ∈ l) := Classical.propDecidable _
theorem Qqu {l : List ByteArray} {v : ByteArray} : 0 ≤ Qiw (fun s => decide (v = s)) l ↔ v ∈ l := by
  rw [Qom]
  constructor
  · rintro ⟨i, hi, h⟩
    simp only [decide_eq_true_eq] at h
    rw [h, List.getD_eq_getElem?_getD, List.getElem?_eq_getElem hi]; simp
  · intro h
    obtain ⟨i, hi, rfl⟩ := List.mem_iff_getElem.1 h
    exact ⟨i, hi, by simp [hi]⟩
theorem Qlq (t : Nat) (l : List ByteArray) (v : ByteArray) (hl : l.length ≤ 4611686018427387904) : Contract P 116 [.sl t 1 (l.map JJ), .str v] [] (.bool (decide (v ∈ l))) [] := by
  refine Qh ((Env.nil P).add 137 Qgl Qqt) hm WQ (nlb rfl) rfl ?_; unfold Gy; simp (maxSteps := 2000000) only [bitvec_to_nat, reduceIte, Nat.reduceEqDiff, Nat.reduceAdd, Nat.reduceLeDiff, reduceCtorEq, Nat.reduceBEq, Nat.reduceLT, Nat.reduceMod, fmc, Qgl, int_toBitVec_meta]
  simp [Qqu, hl]
def Qv : List AV → Option (Prop × AV)
  | [.sl lt 1 lx, .str v] => some ((((lx.map unS).map JJ = lx)) ∧ ((lx.map unS).length ≤ 4611686018427387904), .bool (decide (v ∈ (lx.map unS))))
  | _ => none
theorem J6 : ∀ args p v, Qv args = some (p, v) → p → Contract P 116 args [] v [] ∧ noref v = true ∧ No99 v := by
  intro args p v h1 h2
  unfold Qv at h1
  split at h1
  · rename_i lt lx v
    cases h1
    obtain ⟨e0, HP⟩ := h2
    have := Qlq lt (lx.map unS) v HP
    exact ⟨by simpa only [e0] using this, rfl, trivial⟩
  · cases h1
def Qif (gr who : List ByteArray) : Prop := ∀ i, i < who.length → who.getD i default ∈ gr
instance (gr who : List ByteArray) : Decidable (Qif gr who) := Classical.propDecidable _
theorem Qt5 (t t' : Nat) (gr who : List ByteArray) (hl : gr.length ≤ 4611686018427387904) (hw : who.length ≤ 4611686018427387904) : Contract P 128 [.sl t 1 (gr.map JJ), .sl t' 1 (who.map JJ)] [] (.bool (decide (Qif gr who))) [] := by
  refine Qh ((Env.nil P).add 116 Qv J6) hm Qno (nlb rfl) rfl ?_; unfold QiF; simp (maxSteps := 2000000) only [bitvec_to_nat, reduceIte, Nat.reduceEqDiff, Nat.reduceAdd, Nat.reduceLeDiff, reduceCtorEq, Nat.reduceBEq, Nat.reduceLT, Nat.reduceMod, fmc, Qv, int_toBitVec_meta]
  refine QH (fun i : Nat => [(9, .int .i64 i)]) (fun _ => []) (fun i => i ≤ who.length ∧ ∀ j, j < i → who.getD j default ∈ gr) (fun i => who.length - i) (0) (by simp only [Ju, Jv, Jw, Jx, Qi, Qj, Qk, Ql, reduceIte, Nat.reduceEqDiff]; exact ⟨by repeat' (first | exact trivial | refine ⟨.inr rfl, ?_⟩), by repeat' (first | exact trivial | refine ⟨rfl, ?_⟩), by first | rfl | simp [closedB, Qc, Qb, Qd, dom, Qa, *], by first | rfl | simp [keepB, dom]⟩) ?_ ?_
  · exact ⟨Nat.zero_le _, by intro j hj; omega⟩
  intro i hi NX hN
  unfold QfC; simp (maxSteps := 2000000) only [bitvec_to_nat, reduceIte, Nat.reduceEqDiff, Nat.reduceAdd, Nat.reduceLeDiff, reduceCtorEq, Nat.reduceBEq, Nat.reduceLT, Nat.reduceMod, fmc, Qv, int_toBitVec_meta]
  repeat' (first | with_reducible apply And.intro | with_reducible intro _)
  all_goals first
    | exact trivial
    | omega
    | (refine hN (i + 1) _ (by simp only [Ju, Jv, Jw, Jx, Qi, Qj, Qk, Ql, reduceIte, Nat.reduceEqDiff]; exact ⟨by repeat' (first | exact trivial | refine ⟨.inr rfl, ?_⟩), by repeat' (first | exact trivial | refine ⟨rfl, ?_⟩), by first | rfl | simp [closedB, Qc, Qb, Qd, dom, Qa, *], by first | rfl | simp [keepB, dom]⟩) ?_ ?_
       · exact ⟨by omega, Jf hi.2 (by grind [Qif])⟩
       · omega)
    | grind [Qif]
def Kf : List AV → Option (Prop × AV)
  | [.sl grt 1 grx, .sl wht 1 whx] => some ((((grx.map unS).map JJ = grx) ∧ ((whx.map unS).map JJ = whx)) ∧ ((grx.map unS).length ≤ 4611686018427387904 ∧ (whx.map unS).length ≤ 4611686018427387904), .bool (decide (Qif (grx.map unS) (whx.map unS))))
  | _ => none
theorem Qhg : ∀ args p v, Kf args = some (p, v) → p → Contract P 128 args [] v [] ∧ noref v = true ∧ No99 v := by
  intro args p v h1 h2
  unfold Kf at h1
  split at h1
  · rename_i grt grx wht whx
    cases h1
    obtain ⟨⟨e0, e1⟩, HP⟩ := h2
    have := Qt5 grt wht (grx.map unS) (whx.map unS) HP.1 HP.2
    exact ⟨by simpa only [e0, e1] using this, rfl, trivial⟩
  · cases h1
def Qbn (l : List Seen) (f : ByteArray) : Int := if 0 ≤ Qiw (fun s => decide (s.fl = f)) l then (l.getD (Qiw (fun s => decide (s.fl = f)) l).toNat default).nr else 0
theorem Qky {l : List Seen} {f : ByteArray} {i : Nat} (hi : i < l.length) (h : (l.getD i default).fl = f) (k : ∀ j, j < i → (l.getD j default).fl ≠ f) : Qbn l f = (l.getD i default).nr := by
  unfold Qbn; rw [Qcr hi (by simpa using h) (fun j hj => by simpa using k j hj), if_pos (by omega)]; simp
theorem Qhh {l : List Seen} {f : ByteArray} (k : ∀ j, j < l.length → (l.getD j default).fl ≠ f) : Qbn l f = 0 := by
  unfold Qbn; rw [Wh (fun j hj => by simpa using k j hj), if_neg (by omega)]
theorem Qrz (b : Book) (v : ByteArray) (hl : b.seen.length ≤ 4611686018427387904) : Contract P 129 [.agg (b.row 0), .str v] [] (.int .i64 (Qbn b.seen v)) [] := by
  simp only [Book.row]
  refine Qh (Env.nil P) hm Qb0 (nlb rfl) rfl ?_; unfold Zz; simp (maxSteps := 2000000) only [bitvec_to_nat, reduceIte, Nat.reduceEqDiff, Nat.reduceAdd, Nat.reduceLeDiff, reduceCtorEq, Nat.reduceBEq, Nat.reduceLT, Nat.reduceMod, fmc, int_toBitVec_meta, Seen.row, Qy]
  refine QH (fun i : Nat => [(10, .int .i64 i)]) (fun _ => []) (fun i => i ≤ b.seen.length ∧ ∀ j, j < i → (b.seen.getD j default).fl ≠ v) (fun i => b.seen.length - i) (0) (by simp only [Ju, Jv, Jw, Jx, Qi, Qj, Qk, Ql, reduceIte, Nat.reduceEqDiff]; exact ⟨by repeat' (first | exact trivial | refine ⟨.inr rfl, ?_⟩), by repeat' (first | exact trivial | refine ⟨rfl, ?_⟩), by first | rfl | simp [closedB, Qc, Qb, Qd, dom, Qa, *], by first | rfl | simp [keepB, dom]⟩) ?_ ?_
  · exact ⟨Nat.zero_le _, by intro j hj; omega⟩
  intro i hi NX hN
  unfold GS; simp (maxSteps := 2000000) only [bitvec_to_nat, reduceIte, Nat.reduceEqDiff, Nat.reduceAdd, Nat.reduceLeDiff, reduceCtorEq, Nat.reduceBEq, Nat.reduceLT, Nat.reduceMod, fmc, int_toBitVec_meta, Seen.row, Qy]
  
  repeat' (first | with_reducible apply And.intro | with_reducible intro _)
  all_goals first
    | omega
    | (refine hN (i + 1) _ (by simp only [Ju, Jv, Jw, Jx, Qi, Qj, Qk, Ql, reduceIte, Nat.reduceEqDiff]; exact ⟨by repeat' (first | exact trivial | refine ⟨.inr rfl, ?_⟩), by repeat' (first | exact trivial | refine ⟨rfl, ?_⟩), by first | rfl | simp [closedB, Qc, Qb, Qd, dom, Qa, *], by first | rfl | simp [keepB, dom]⟩) ?_ ?_
       · exact ⟨by omega, Jf hi.2 (by assumption)⟩
       · omega)
    | (rw [Qky (i := i) (by omega) (by assumption) hi.2])
    | (rw [Qhh fun j hj => hi.2 j (by omega)])
def Js : List AV → Option (Prop × AV)
  | [.agg [.sl 0 11 b_own, .sl 0 3 b_parts, .sl 0 2 b_seen], .str v] => some ((((b_own.map JC).map (Own.row 0) = b_own) ∧ ((b_parts.map Q9).map (Part.row 0) = b_parts) ∧ ((b_seen.map Jc).map Seen.row = b_seen)) ∧ ((Book.mk (b_own.map JC) (b_parts.map Q9) (b_seen.map Jc)).seen.length ≤ 4611686018427387904), .int .i64 (Qbn (Book.mk (b_own.map JC) (b_parts.map Q9) (b_seen.map Jc)).seen v))
  | _ => none
theorem Vf : ∀ args p v, Js args = some (p, v) → p → Contract P 129 args [] v [] ∧ noref v = true ∧ No99 v := by
  intro args p v h1 h2
  unfold Js at h1
  split at h1
  · rename_i b_own b_parts b_seen v
    cases h1
    obtain ⟨⟨e0, e1, e2⟩, HP⟩ := h2
    have := Qrz (Book.mk (b_own.map JC) (b_parts.map Q9) (b_seen.map Jc)) v HP
    exact ⟨by simpa only [e0, e1, e2, Book.row] using this, rfl, trivial⟩
  · cases h1
theorem Qst (b : Book) (v : ByteArray) (hl : b.seen.length ≤ 4611686018427387904) : Contract P 107 [.agg (b.row 0), .str v] [] (.int .i64 (Qbn b.seen v)) [] := by
  simp only [Book.row]
  refine Qh (Env.nil P) hm Qib (nlb rfl) rfl ?_; unfold Qcd; simp (maxSteps := 2000000) only [bitvec_to_nat, reduceIte, Nat.reduceEqDiff, Nat.reduceAdd, Nat.reduceLeDiff, reduceCtorEq, Nat.reduceBEq, Nat.reduceLT, Nat.reduceMod, fmc, int_toBitVec_meta, Seen.row, Qy]
  refine QH (fun i : Nat => [(5, .int .i64 i)]) (fun _ => []) (fun i => i ≤ b.seen.length ∧ ∀ j, j < i → (b.seen.getD j default).fl ≠ v) (fun i => b.seen.length - i) (0) (by simp only [Ju, Jv, Jw, Jx, Qi, Qj, Qk, Ql, reduceIte, Nat.reduceEqDiff]; exact ⟨by repeat' (first | exact trivial | refine ⟨.inr rfl, ?_⟩), by repeat' (first | exact trivial | refine ⟨rfl, ?_⟩), by first | rfl | simp [closedB, Qc, Qb, Qd, dom, Qa, *], by first | rfl | simp [keepB, dom]⟩) ?_ ?_
  · exact ⟨Nat.zero_le _, by intro j hj; omega⟩
  intro i hi NX hN
  unfold Qat; simp (maxSteps := 2000000) only [bitvec_to_nat, reduceIte, Nat.reduceEqDiff, Nat.reduceAdd, Nat.reduceLeDiff, reduceCtorEq, Nat.reduceBEq, Nat.reduceLT, Nat.reduceMod, fmc, int_toBitVec_meta, Seen.row, Qy]
  
  repeat' (first | with_reducible apply And.intro | with_reducible intro _)
  all_goals first
    | omega
    | (refine hN (i + 1) _ (by simp only [Ju, Jv, Jw, Jx, Qi, Qj, Qk, Ql, reduceIte, Nat.reduceEqDiff]; exact ⟨by repeat' (first | exact trivial | refine ⟨.inr rfl, ?_⟩), by repeat' (first | exact trivial | refine ⟨rfl, ?_⟩), by first | rfl | simp [closedB, Qc, Qb, Qd, dom, Qa, *], by first | rfl | simp [keepB, dom]⟩) ?_ ?_
       · exact ⟨by omega, Jf hi.2 (by assumption)⟩
       · omega)
    | (rw [Qky (i := i) (by omega) (by assumption) hi.2])
    | (rw [Qhh fun j hj => hi.2 j (by omega)])
def GN : List AV → Option (Prop × AV)
  | [.agg [.sl 0 11 b_own, .sl 0 3 b_parts, .sl 0 2 b_seen], .str v] => some ((((b_own.map JC).map (Own.row 0) = b_own) ∧ ((b_parts.map Q9).map (Part.row 0) = b_parts) ∧ ((b_seen.map Jc).map Seen.row = b_seen)) ∧ ((Book.mk (b_own.map JC) (b_parts.map Q9) (b_seen.map Jc)).seen.length ≤ 4611686018427387904), .int .i64 (Qbn (Book.mk (b_own.map JC) (b_parts.map Q9) (b_seen.map Jc)).seen v))
  | _ => none
theorem Qlr : ∀ args p v, GN args = some (p, v) → p → Contract P 107 args [] v [] ∧ noref v = true ∧ No99 v := by
  intro args p v h1 h2
  unfold GN at h1
  split at h1
  · rename_i b_own b_parts b_seen v
    cases h1
    obtain ⟨⟨e0, e1, e2⟩, HP⟩ := h2
    have := Qst (Book.mk (b_own.map JC) (b_parts.map Q9) (b_seen.map Jc)) v HP
    exact ⟨by simpa only [e0, e1, e2, Book.row] using this, rfl, trivial⟩
  · cases h1
end
end Go.Ve

namespace Go.Ve
noncomputable section
open Go.Proofs
set_option maxRecDepth 100000
def Qbo (zs : List Zone) (n : Int) (tu : List Box6) : Prop := (n = 0 → tu.length = 0) ∧ (n ≠ 0 → tubeOk zs tu)
instance (zs : List Zone) (n : Int) (tu : List Box6) : Decidable (Qbo zs n tu) := Classical.propDecidable _
def QnQ (wh gr : List ByteArray) (i : Nat) : Prop := gr.getD i default ∈ wh ∧ (0 < i → slt (gr.getD (i - 1) default) (gr.getD i default))
def QaB (zs : List Zone) (o : Own) : Prop := XQ o.fl ∧ (1 ≤ o.st ∧ o.st ≤ 3) ∧ (1 ≤ o.tn ∧ o.tn ≤ 1000000) ∧ (0 ≤ o.la ∧ o.la ≤ 1000000) ∧ (0 ≤ o.nr ∧ o.nr ≤ o.la) ∧ (0 ≤ o.wi ∧ o.wi ≤ o.la) ∧ (o.wi ≠ 0 → o.nr < o.wi)
def QrA (zs : List Zone) (o : Own) : Prop := (o.st = 1 ↔ o.dst = ⟨#[]⟩) ∧ (o.st ≠ 1 → 0 ≤ zAt zs o.dst) ∧ (o.st ≠ 1 → o.wi = 0) ∧ (o.st = 2 → o.nr ≠ 0)
def Qdp (zs : List Zone) (o : Own) : Prop := Qbo zs o.nr o.tu ∧ Qbo zs o.wi o.nx
def Qhi (zs : List Zone) (o : Own) : Prop := (∀ i, i < o.gr.length → QnQ (Kd zs o.nx) o.gr i) ∧ (o.sent = true ↔ 0 < o.wi ∧ Qif o.gr (Kd zs o.nx))
def Qls (zs : List Zone) (o : Own) : Prop := QaB zs o ∧ QrA zs o ∧ Qdp zs o ∧ Qhi zs o
instance (zs : List Zone) (o : Own) : Decidable (Qls zs o) := Classical.propDecidable _
def Qlt (zs : List Zone) (l : List Own) (i : Nat) : Prop := Qls zs (l.getD i default) ∧ (0 < i → slt (l.getD (i - 1) default).fl (l.getD i default).fl)
def QiI (zs : List Zone) (l : List Own) : Prop := l.length ≤ 6 ∧ ∀ i, i < l.length → Qlt zs l i
instance (zs : List Zone) (l : List Own) : Decidable (QiI zs l) := Classical.propDecidable _
def Part.before (a p : Part) : Prop := slt a.fl p.fl ∨ (a.fl = p.fl ∧ a.nr < p.nr)
instance (a p : Part) : Decidable (a.before p) := Classical.propDecidable _
def Qhj (zs : List Zone) (b : Book) (i : Nat) : Prop := XQ (b.parts.getD i default).fl ∧ (1 ≤ (b.parts.getD i default).nr ∧ (b.parts.getD i default).nr ≤ Qbn b.seen (b.parts.getD i default).fl) ∧ tubeOk zs (b.parts.getD i default).bx ∧
  (0 < i → (b.parts.getD (i - 1) default).before (b.parts.getD i default)) ∧ ∀ k, k < i → (b.parts.getD k default).fl ≠ (b.parts.getD i default).fl → ¬ Qdo (b.parts.getD k default).bx (b.parts.getD i default).bx
def Qhk (zs : List Zone) (b : Book) : Prop := b.parts.length ≤ 16 ∧ ∀ i, i < b.parts.length → Qhj zs b i
instance (zs : List Zone) (b : Book) : Decidable (Qhk zs b) := Classical.propDecidable _
def Qdq (l : List Seen) (i : Nat) : Prop := XQ (l.getD i default).fl ∧ (1 ≤ (l.getD i default).nr ∧ (l.getD i default).nr ≤ 1000000) ∧ (0 < i → slt (l.getD (i - 1) default).fl (l.getD i default).fl)
def QrB (l : List Seen) : Prop := l.length ≤ 6 ∧ ∀ i, i < l.length → Qdq l i
def bookOk (zs : List Zone) (b : Book) : Prop := QiI zs b.own ∧ Qhk zs b ∧ QrB b.seen
instance (zs : List Zone) (b : Book) : Decidable (bookOk zs b) := Classical.propDecidable _
/-- Lists that are not too long for a machine. -/
def Own.small (o : Own) : Prop := o.tu.length ≤ 1048576 ∧ o.nx.length ≤ 1048576 ∧ o.gr.length ≤ 1048576
def Book.small (b : Book) : Prop := (b.own.length ≤ 1048576 ∧ ∀ o ∈ b.own, o.small) ∧ (b.parts.length ≤ 1048576 ∧ ∀ p ∈ b.parts, p.bx.length ≤ 1048576) ∧ b.seen.length ≤ 1048576
theorem Book.small_own {b : Book} (h : b.small) {i : Nat} (hi : i < b.own.length) : (b.own.getD i default).small := h.1.2 _ (by simp [hi])
theorem Book.small_part {b : Book} (h : b.small) {i : Nat} (hi : i < b.parts.length) : (b.parts.getD i default).bx.length ≤ 1048576 := h.2.1.2 _ (by simp [hi])
theorem Jq : W3 P 126 = true := by kernel_rfl
theorem QoZ (zs : List Zone) (tu : List Box6) : (Kd zs tu).length ≤ zs.length := by
  rw [← Qmk]; exact Qmj zs tu _
theorem Qtt (n : Int) (t t' : Nat) (zs : List Zone) (tu : List Box6) (hz : zs.length ≤ 4611686018427387904) (hl : tu.length ≤ 4611686018427387904) : Contract P 126 [.int .i64 n, .sl t 6 (tu.map Box6.row), .ptr 3 0] [(3, .box [.sl t' 5 (zs.map Zone.row)])] (.bool (decide (Qbo zs n tu))) [(3, .box [.sl t' 5 (zs.map Zone.row)])] := by
  refine Qh ((Env.nil P).add 100 QG Yu) hm Qg6 (nlb rfl) rfl ?_; unfold Qbd; simp (maxSteps := 2000000) only [bitvec_to_nat, reduceIte, Nat.reduceEqDiff, Nat.reduceAdd, Nat.reduceLeDiff, reduceCtorEq, Nat.reduceBEq, Nat.reduceLT, Nat.reduceMod, fmc, Qf, Qm, Qe, QE, keepB, Qn, QJ, QG, int_toBitVec_meta, Own.row, QK, Seen.row, Qy, Part.row, Qz, Book.row]
  refine ⟨fun h => ?_, fun h => ⟨⟨hz, hl⟩, ?_⟩⟩
  · simp [Qbo, h, Qb, Qc, dom, decide_eq_decide]
    try omega
  · simp [Qbo, h, Qb, Qc, dom]
def Jt : RTab
  | [.int .i64 n, .sl tt 6 tx, .ptr ob off], M => match M ob with
    | some (.box [.sl zt 5 zx]) => some ⟨off = 0 ∧ (tx.map QD).map Box6.row = tx ∧ (zx.map QB).map Zone.row = zx ∧ (zx.map QB).length ≤ 4611686018427387904 ∧ (tx.map QD).length ≤ 4611686018427387904, fun _ : Unit => True, fun _ => .bool (decide (Qbo (zx.map QB) n (tx.map QD))), fun _ => [(ob, .box [.sl zt 5 zx])]⟩
    | _ => none
  | _, _ => none
theorem Qbp : okTab P 126 Jt := by
  intro args M o h hp
  unfold Jt at h
  split at h
  · rename_i n tt tx ob off
    split at h
    · rename_i zt zx hM
      cases h
      obtain ⟨rfl, e0, e1, HP⟩ := hp
      have hC := Qtt n tt zt (zx.map QB) (tx.map QD) HP.1 HP.2
      simp only [e0, e1] at hC
      exact ⟨(), trivial, QcR _ hC (by simp [Jy, noref]) rfl (by assumption) (by simp [K4, ren, swp]) (by simp [Qb, Qc, noref])⟩
    · cases h
  · cases h
set_option maxHeartbeats 400000 in
theorem QfW (t : Nat) (zs : List Zone) (b : Book) {Q : XT → St → Prop}  (hQ : ∀ bv : Bool, (bv = true ↔ (6 < b.own.length ∨ 16 < b.parts.length ∨ 6 < b.seen.length)) → Q .normal ⟨[(2, .ptr 102 0), (3, .ptr 103 0), (34, .bool bv)], [(102, .box [.sl t 5 (zs.map Zone.row)]), (103, .box [.sl 0 11 (b.own.map (Own.row 0)), .sl 0 3 (b.parts.map (Part.row 0)), .sl 0 2 (b.seen.map Seen.row)])]⟩) : SCode.wp ((((((((((((Env.nil P).addR 126 Jt Qbp).add 120 QA KG).add 103 QP Gf).add 125 QU GL).add 86 QS Gg).add 127 Ke Qhf).add 116 Qv J6).add 128 Kf Qhg).add 100 QG Yu).add 129 Js Vf).add 130 Jr Qbm) Uh Q ⟨[(2, .ptr 102 0), (3, .ptr 103 0)], [(102, .box [.sl t 5 (zs.map Zone.row)]), (103, .box [.sl 0 11 (b.own.map (Own.row 0)), .sl 0 3 (b.parts.map (Part.row 0)), .sl 0 2 (b.seen.map Seen.row)])]⟩ := by
  all_goals (unfold Uh; simp (maxSteps := 2000000) only [bitvec_to_nat, reduceIte, Nat.reduceEqDiff, Nat.reduceAdd, Nat.reduceLeDiff, reduceCtorEq, Nat.reduceBEq, Nat.reduceLT, Nat.reduceMod, fmc, Qf, Qm, Qe, QE, keepB, Qn, QJ, QA, QP, QU, QS, Ke, Qv, Kf, QG, Js, Jr, Jt, int_toBitVec_meta, Own.row, QK, Seen.row, Qy, Part.row, Qz, Book.row, Jq])
  repeat' (first | with_reducible apply And.intro | with_reducible intro _)
  all_goals first
    | omega
    | (refine hQ _ ?_
       first
         | grind []
         | (simp; grind []))
    | grind []
set_option maxHeartbeats 1000000 in
theorem QfX (t : Nat) (zs : List Zone) (b : Book) (o : Own) (i : Nat) {Q : XT → St → Prop} (hi : i < b.own.length) (hl : b.own.length ≤ 1048576) (hQ : ∀ bv : Bool, (bv = true ↔ ¬ (QaB zs o ∧ (0 < i → slt (b.own.getD (i - 1) default).fl o.fl))) → Q .normal ⟨[(2, .ptr 102 0), (3, .ptr 103 0), (6, .ptr 106 0), (36, .sl 0 11 (b.own.map (Own.row 0))), (37, .int .i64 b.own.length), (38, .int .i64 i), (108, .bool bv)], [(102, .box [.sl t 5 (zs.map Zone.row)]), (103, .box [.sl 0 11 (b.own.map (Own.row 0)), .sl 0 3 (b.parts.map (Part.row 0)), .sl 0 2 (b.seen.map Seen.row)]), (106, .box [.str o.fl, .int .i64 o.st, .int .i64 o.tn, .str o.dst, .int .i64 o.la, .int .i64 o.nr, .sl 0 6 (o.tu.map Box6.row), .int .i64 o.wi, .sl 0 6 (o.nx.map Box6.row), .sl 0 1 (o.gr.map JJ), .bool o.sent])]⟩) : SCode.wp ((((((((((((Env.nil P).addR 126 Jt Qbp).add 120 QA KG).add 103 QP Gf).add 125 QU GL).add 86 QS Gg).add 127 Ke Qhf).add 116 Qv J6).add 128 Kf Qhg).add 100 QG Yu).add 129 Js Vf).add 130 Jr Qbm) Ui Q ⟨[(2, .ptr 102 0), (3, .ptr 103 0), (5, .int .i64 i), (6, .ptr 106 0), (36, .sl 0 11 (b.own.map (Own.row 0))), (37, .int .i64 b.own.length), (38, .int .i64 i)], [(102, .box [.sl t 5 (zs.map Zone.row)]), (103, .box [.sl 0 11 (b.own.map (Own.row 0)), .sl 0 3 (b.parts.map (Part.row 0)), .sl 0 2 (b.seen.map Seen.row)]), (106, .box [.str o.fl, .int .i64 o.st, .int .i64 o.tn, .str o.dst, .int .i64 o.la, .int .i64 o.nr, .sl 0 6 (o.tu.map Box6.row), .int .i64 o.wi, .sl 0 6 (o.nx.map Box6.row), .sl 0 1 (o.gr.map JJ), .bool o.sent])]⟩ := by
  all_goals (unfold Ui; simp (maxSteps := 2000000) only [bitvec_to_nat, reduceIte, Nat.reduceEqDiff, Nat.reduceAdd, Nat.reduceLeDiff, reduceCtorEq, Nat.reduceBEq, Nat.reduceLT, Nat.reduceMod, fmc, Qf, Qm, Qe, QE, keepB, Qn, QJ, QA, QP, QU, QS, Ke, Qv, Kf, QG, Js, Jr, Jt, int_toBitVec_meta, Own.row, QK, Seen.row, Qy, Part.row, Qz, Book.row, Jq])
  repeat' (first | with_reducible apply And.intro | with_reducible intro _)
  all_goals first
    | omega
    | (refine hQ _ ?_
       first
         | grind [QaB]
         | (simp; grind [QaB]))
    | grind [QaB]
set_option maxHeartbeats 400000 in
theorem QfY (t : Nat) (zs : List Zone) (b : Book) (o : Own) (i : Nat) {Q : XT → St → Prop} (hz : zs.length ≤ 4294967295) (hQ : ∀ bv : Bool, (bv = true ↔ ¬ ((o.st = 1 ↔ o.dst = ⟨#[]⟩) ∧ (o.st ≠ 1 → 0 ≤ zAt zs o.dst) ∧ (o.st ≠ 1 → o.wi = 0))) → Q .normal ⟨[(2, .ptr 102 0), (3, .ptr 103 0), (6, .ptr 106 0), (36, .sl 0 11 (b.own.map (Own.row 0))), (37, .int .i64 b.own.length), (38, .int .i64 i), (136, .bool bv)], [(102, .box [.sl t 5 (zs.map Zone.row)]), (103, .box [.sl 0 11 (b.own.map (Own.row 0)), .sl 0 3 (b.parts.map (Part.row 0)), .sl 0 2 (b.seen.map Seen.row)]), (106, .box [.str o.fl, .int .i64 o.st, .int .i64 o.tn, .str o.dst, .int .i64 o.la, .int .i64 o.nr, .sl 0 6 (o.tu.map Box6.row), .int .i64 o.wi, .sl 0 6 (o.nx.map Box6.row), .sl 0 1 (o.gr.map JJ), .bool o.sent])]⟩) : SCode.wp ((((((((((((Env.nil P).addR 126 Jt Qbp).add 120 QA KG).add 103 QP Gf).add 125 QU GL).add 86 QS Gg).add 127 Ke Qhf).add 116 Qv J6).add 128 Kf Qhg).add 100 QG Yu).add 129 Js Vf).add 130 Jr Qbm) Uj Q ⟨[(2, .ptr 102 0), (3, .ptr 103 0), (6, .ptr 106 0), (7, .bool (decide (o.st = 1))), (36, .sl 0 11 (b.own.map (Own.row 0))), (37, .int .i64 b.own.length), (38, .int .i64 i)], [(102, .box [.sl t 5 (zs.map Zone.row)]), (103, .box [.sl 0 11 (b.own.map (Own.row 0)), .sl 0 3 (b.parts.map (Part.row 0)), .sl 0 2 (b.seen.map Seen.row)]), (106, .box [.str o.fl, .int .i64 o.st, .int .i64 o.tn, .str o.dst, .int .i64 o.la, .int .i64 o.nr, .sl 0 6 (o.tu.map Box6.row), .int .i64 o.wi, .sl 0 6 (o.nx.map Box6.row), .sl 0 1 (o.gr.map JJ), .bool o.sent])]⟩ := by
  all_goals (unfold Uj; simp (maxSteps := 2000000) only [bitvec_to_nat, reduceIte, Nat.reduceEqDiff, Nat.reduceAdd, Nat.reduceLeDiff, reduceCtorEq, Nat.reduceBEq, Nat.reduceLT, Nat.reduceMod, fmc, Qf, Qm, Qe, QE, keepB, Qn, QJ, QA, QP, QU, QS, Ke, Qv, Kf, QG, Js, Jr, Jt, int_toBitVec_meta, Own.row, QK, Seen.row, Qy, Part.row, Qz, Book.row, Jq])
  repeat' (first | with_reducible apply And.intro | with_reducible intro _)
  all_goals first
    | omega
    | (refine hQ _ ?_
       first
         | grind []
         | (simp; grind []))
    | grind []
set_option maxHeartbeats 400000 in
theorem QfZ (t : Nat) (zs : List Zone) (b : Book) (o : Own) (i : Nat) {Q : XT → St → Prop} (hz : zs.length ≤ 4294967295) (h1 : o.tu.length ≤ 1048576) (h2 : o.nx.length ≤ 1048576) (hQ : ∀ bv : Bool, (bv = true ↔ ¬ ((o.st = 2 → o.nr ≠ 0) ∧ Qdp zs o)) → Q .normal ⟨[(2, .ptr 102 0), (3, .ptr 103 0), (6, .ptr 106 0), (36, .sl 0 11 (b.own.map (Own.row 0))), (37, .int .i64 b.own.length), (38, .int .i64 i), (163, .bool bv)], [(102, .box [.sl t 5 (zs.map Zone.row)]), (103, .box [.sl 0 11 (b.own.map (Own.row 0)), .sl 0 3 (b.parts.map (Part.row 0)), .sl 0 2 (b.seen.map Seen.row)]), (106, .box [.str o.fl, .int .i64 o.st, .int .i64 o.tn, .str o.dst, .int .i64 o.la, .int .i64 o.nr, .sl 0 6 (o.tu.map Box6.row), .int .i64 o.wi, .sl 0 6 (o.nx.map Box6.row), .sl 0 1 (o.gr.map JJ), .bool o.sent])]⟩) : SCode.wp ((((((((((((Env.nil P).addR 126 Jt Qbp).add 120 QA KG).add 103 QP Gf).add 125 QU GL).add 86 QS Gg).add 127 Ke Qhf).add 116 Qv J6).add 128 Kf Qhg).add 100 QG Yu).add 129 Js Vf).add 130 Jr Qbm) Uk Q ⟨[(2, .ptr 102 0), (3, .ptr 103 0), (6, .ptr 106 0), (8, .fn 126 [] [.ptr 102 0]), (36, .sl 0 11 (b.own.map (Own.row 0))), (37, .int .i64 b.own.length), (38, .int .i64 i)], [(102, .box [.sl t 5 (zs.map Zone.row)]), (103, .box [.sl 0 11 (b.own.map (Own.row 0)), .sl 0 3 (b.parts.map (Part.row 0)), .sl 0 2 (b.seen.map Seen.row)]), (106, .box [.str o.fl, .int .i64 o.st, .int .i64 o.tn, .str o.dst, .int .i64 o.la, .int .i64 o.nr, .sl 0 6 (o.tu.map Box6.row), .int .i64 o.wi, .sl 0 6 (o.nx.map Box6.row), .sl 0 1 (o.gr.map JJ), .bool o.sent])]⟩ := by
  all_goals (unfold Uk; simp (maxSteps := 2000000) only [bitvec_to_nat, reduceIte, Nat.reduceEqDiff, Nat.reduceAdd, Nat.reduceLeDiff, reduceCtorEq, Nat.reduceBEq, Nat.reduceLT, Nat.reduceMod, fmc, Qf, Qm, Qe, QE, keepB, Qn, QJ, QA, QP, QU, QS, Ke, Qv, Kf, QG, Js, Jr, Jt, int_toBitVec_meta, Own.row, QK, Seen.row, Qy, Part.row, Qz, Book.row, Jq])
  repeat' (first | with_reducible apply And.intro | with_reducible intro _)
  all_goals first
    | omega
    | (refine hQ _ ?_
       first
         | grind [Qdp]
         | (simp; grind [Qdp]))
    | grind [Qdp]
set_option maxHeartbeats 400000 in
theorem Qf0 (t : Nat) (zs : List Zone) (b : Book) (o : Own) (i : Nat) (wh : List ByteArray) (k : Nat) {Q : XT → St → Prop} (hw : wh.length ≤ 4294967295) (hk : k < o.gr.length) (hl : o.gr.length ≤ 1048576) (hQ : ∀ bv : Bool, (bv = true ↔ ¬ QnQ wh o.gr k) → Q .normal ⟨[(2, .ptr 102 0), (3, .ptr 103 0), (6, .ptr 106 0), (9, .sl 0 1 (wh.map JJ)), (36, .sl 0 11 (b.own.map (Own.row 0))), (37, .int .i64 b.own.length), (38, .int .i64 i), (169, .sl 0 1 (o.gr.map JJ)), (170, .int .i64 o.gr.length), (171, .int .i64 k), (193, .bool bv)], [(102, .box [.sl t 5 (zs.map Zone.row)]), (103, .box [.sl 0 11 (b.own.map (Own.row 0)), .sl 0 3 (b.parts.map (Part.row 0)), .sl 0 2 (b.seen.map Seen.row)]), (106, .box [.str o.fl, .int .i64 o.st, .int .i64 o.tn, .str o.dst, .int .i64 o.la, .int .i64 o.nr, .sl 0 6 (o.tu.map Box6.row), .int .i64 o.wi, .sl 0 6 (o.nx.map Box6.row), .sl 0 1 (o.gr.map JJ), .bool o.sent])]⟩) : SCode.wp ((((((((((((Env.nil P).addR 126 Jt Qbp).add 120 QA KG).add 103 QP Gf).add 125 QU GL).add 86 QS Gg).add 127 Ke Qhf).add 116 Qv J6).add 128 Kf Qhg).add 100 QG Yu).add 129 Js Vf).add 130 Jr Qbm) Ul Q ⟨[(2, .ptr 102 0), (3, .ptr 103 0), (6, .ptr 106 0), (9, .sl 0 1 (wh.map JJ)), (10, .int .i64 k), (11, .str (o.gr.getD k default)), (36, .sl 0 11 (b.own.map (Own.row 0))), (37, .int .i64 b.own.length), (38, .int .i64 i), (169, .sl 0 1 (o.gr.map JJ)), (170, .int .i64 o.gr.length), (171, .int .i64 k)], [(102, .box [.sl t 5 (zs.map Zone.row)]), (103, .box [.sl 0 11 (b.own.map (Own.row 0)), .sl 0 3 (b.parts.map (Part.row 0)), .sl 0 2 (b.seen.map Seen.row)]), (106, .box [.str o.fl, .int .i64 o.st, .int .i64 o.tn, .str o.dst, .int .i64 o.la, .int .i64 o.nr, .sl 0 6 (o.tu.map Box6.row), .int .i64 o.wi, .sl 0 6 (o.nx.map Box6.row), .sl 0 1 (o.gr.map JJ), .bool o.sent])]⟩ := by
  all_goals (unfold Ul; simp (maxSteps := 2000000) only [bitvec_to_nat, reduceIte, Nat.reduceEqDiff, Nat.reduceAdd, Nat.reduceLeDiff, reduceCtorEq, Nat.reduceBEq, Nat.reduceLT, Nat.reduceMod, fmc, Qf, Qm, Qe, QE, keepB, Qn, QJ, QA, QP, QU, QS, Ke, Qv, Kf, QG, Js, Jr, Jt, int_toBitVec_meta, Own.row, QK, Seen.row, Qy, Part.row, Qz, Book.row, Jq])
  repeat' (first | with_reducible apply And.intro | with_reducible intro _)
  all_goals first
    | omega
    | (refine hQ _ ?_
       first
         | grind [QnQ]
         | (simp; grind [QnQ]))
    | grind [QnQ]
set_option maxHeartbeats 400000 in
theorem Qf1 (t : Nat) (zs : List Zone) (b : Book) (o : Own) (i : Nat) (wh : List ByteArray) (k : Nat) {w172 : AV} {Q : XT → St → Prop} (hw : wh.length ≤ 4294967295) (hl : o.gr.length ≤ 1048576) (hQ : ∀ bv : Bool, (bv = true ↔ ¬ (o.sent = true ↔ 0 < o.wi ∧ Qif o.gr wh)) → Q .normal ⟨[(2, .ptr 102 0), (3, .ptr 103 0), (36, .sl 0 11 (b.own.map (Own.row 0))), (37, .int .i64 b.own.length), (38, .int .i64 i), (206, .bool bv)], [(102, .box [.sl t 5 (zs.map Zone.row)]), (103, .box [.sl 0 11 (b.own.map (Own.row 0)), .sl 0 3 (b.parts.map (Part.row 0)), .sl 0 2 (b.seen.map Seen.row)]), (106, .box [.str o.fl, .int .i64 o.st, .int .i64 o.tn, .str o.dst, .int .i64 o.la, .int .i64 o.nr, .sl 0 6 (o.tu.map Box6.row), .int .i64 o.wi, .sl 0 6 (o.nx.map Box6.row), .sl 0 1 (o.gr.map JJ), .bool o.sent])]⟩) : SCode.wp ((((((((((((Env.nil P).addR 126 Jt Qbp).add 120 QA KG).add 103 QP Gf).add 125 QU GL).add 86 QS Gg).add 127 Ke Qhf).add 116 Qv J6).add 128 Kf Qhg).add 100 QG Yu).add 129 Js Vf).add 130 Jr Qbm) Um Q ⟨[(2, .ptr 102 0), (3, .ptr 103 0), (6, .ptr 106 0), (9, .sl 0 1 (wh.map JJ)), (36, .sl 0 11 (b.own.map (Own.row 0))), (37, .int .i64 b.own.length), (38, .int .i64 i), (169, .sl 0 1 (o.gr.map JJ)), (170, .int .i64 o.gr.length), (171, .int .i64 k), (172, w172)], [(102, .box [.sl t 5 (zs.map Zone.row)]), (103, .box [.sl 0 11 (b.own.map (Own.row 0)), .sl 0 3 (b.parts.map (Part.row 0)), .sl 0 2 (b.seen.map Seen.row)]), (106, .box [.str o.fl, .int .i64 o.st, .int .i64 o.tn, .str o.dst, .int .i64 o.la, .int .i64 o.nr, .sl 0 6 (o.tu.map Box6.row), .int .i64 o.wi, .sl 0 6 (o.nx.map Box6.row), .sl 0 1 (o.gr.map JJ), .bool o.sent])]⟩ := by
  all_goals (unfold Um; simp (maxSteps := 2000000) only [bitvec_to_nat, reduceIte, Nat.reduceEqDiff, Nat.reduceAdd, Nat.reduceLeDiff, reduceCtorEq, Nat.reduceBEq, Nat.reduceLT, Nat.reduceMod, fmc, Qf, Qm, Qe, QE, keepB, Qn, QJ, QA, QP, QU, QS, Ke, Qv, Kf, QG, Js, Jr, Jt, int_toBitVec_meta, Own.row, QK, Seen.row, Qy, Part.row, Qz, Book.row, Jq])
  repeat' (first | with_reducible apply And.intro | with_reducible intro _)
  all_goals first
    | omega
    | (refine hQ _ ?_
       first
         | grind []
         | (simp; grind []))
    | grind []
set_option maxHeartbeats 400000 in
theorem Qf2 (t : Nat) (zs : List Zone) (b : Book) (i : Nat) {Q : XT → St → Prop} (hi : i < b.seen.length) (hl : b.seen.length ≤ 1048576) (hQ : ∀ bv : Bool, (bv = true ↔ ¬ Qdq b.seen i) → Q .normal ⟨[(2, .ptr 102 0), (3, .ptr 103 0), (209, .sl 0 2 (b.seen.map Seen.row)), (210, .int .i64 b.seen.length), (211, .int .i64 i), (241, .bool bv)], [(102, .box [.sl t 5 (zs.map Zone.row)]), (103, .box [.sl 0 11 (b.own.map (Own.row 0)), .sl 0 3 (b.parts.map (Part.row 0)), .sl 0 2 (b.seen.map Seen.row)]), (113, .box [.str (b.seen.getD i default).fl, .int .i64 (b.seen.getD i default).nr])]⟩) : SCode.wp ((((((((((((Env.nil P).addR 126 Jt Qbp).add 120 QA KG).add 103 QP Gf).add 125 QU GL).add 86 QS Gg).add 127 Ke Qhf).add 116 Qv J6).add 128 Kf Qhg).add 100 QG Yu).add 129 Js Vf).add 130 Jr Qbm) Un Q ⟨[(2, .ptr 102 0), (3, .ptr 103 0), (12, .int .i64 i), (13, .ptr 113 0), (209, .sl 0 2 (b.seen.map Seen.row)), (210, .int .i64 b.seen.length), (211, .int .i64 i)], [(102, .box [.sl t 5 (zs.map Zone.row)]), (103, .box [.sl 0 11 (b.own.map (Own.row 0)), .sl 0 3 (b.parts.map (Part.row 0)), .sl 0 2 (b.seen.map Seen.row)]), (113, .box [.str (b.seen.getD i default).fl, .int .i64 (b.seen.getD i default).nr])]⟩ := by
  all_goals (unfold Un; simp (maxSteps := 2000000) only [bitvec_to_nat, reduceIte, Nat.reduceEqDiff, Nat.reduceAdd, Nat.reduceLeDiff, reduceCtorEq, Nat.reduceBEq, Nat.reduceLT, Nat.reduceMod, fmc, Qf, Qm, Qe, QE, keepB, Qn, QJ, QA, QP, QU, QS, Ke, Qv, Kf, QG, Js, Jr, Jt, int_toBitVec_meta, Own.row, QK, Seen.row, Qy, Part.row, Qz, Book.row, Jq])
  repeat' (first | with_reducible apply And.intro | with_reducible intro _)
  all_goals first
    | omega
    | (refine hQ _ ?_
       first
         | grind [Qdq]
         | (simp; grind [Qdq]))
    | grind [Qdq]
set_option maxHeartbeats 400000 in
theorem Qf3 (t : Nat) (zs : List Zone) (b : Book) (p : Part) (i : Nat) {Q : XT → St → Prop} (hz : zs.length ≤ 4294967295) (hs : b.seen.length ≤ 1048576) (hl : p.bx.length ≤ 1048576) (hQ : ∀ bv : Bool, (bv = true ↔ ¬ (XQ p.fl ∧ (1 ≤ p.nr ∧ p.nr ≤ Qbn b.seen p.fl) ∧ tubeOk zs p.bx)) → Q .normal ⟨[(2, .ptr 102 0), (3, .ptr 103 0), (14, .int .i64 i), (15, .ptr 115 0), (244, .sl 0 3 (b.parts.map (Part.row 0))), (245, .int .i64 b.parts.length), (246, .int .i64 i), (271, .bool bv)], [(102, .box [.sl t 5 (zs.map Zone.row)]), (103, .box [.sl 0 11 (b.own.map (Own.row 0)), .sl 0 3 (b.parts.map (Part.row 0)), .sl 0 2 (b.seen.map Seen.row)]), (115, .box [.str p.fl, .int .i64 p.nr, .sl 0 6 (p.bx.map Box6.row)])]⟩) : SCode.wp ((((((((((((Env.nil P).addR 126 Jt Qbp).add 120 QA KG).add 103 QP Gf).add 125 QU GL).add 86 QS Gg).add 127 Ke Qhf).add 116 Qv J6).add 128 Kf Qhg).add 100 QG Yu).add 129 Js Vf).add 130 Jr Qbm) Uo Q ⟨[(2, .ptr 102 0), (3, .ptr 103 0), (14, .int .i64 i), (15, .ptr 115 0), (244, .sl 0 3 (b.parts.map (Part.row 0))), (245, .int .i64 b.parts.length), (246, .int .i64 i)], [(102, .box [.sl t 5 (zs.map Zone.row)]), (103, .box [.sl 0 11 (b.own.map (Own.row 0)), .sl 0 3 (b.parts.map (Part.row 0)), .sl 0 2 (b.seen.map Seen.row)]), (115, .box [.str p.fl, .int .i64 p.nr, .sl 0 6 (p.bx.map Box6.row)])]⟩ := by
  all_goals (unfold Uo; simp (maxSteps := 2000000) only [bitvec_to_nat, reduceIte, Nat.reduceEqDiff, Nat.reduceAdd, Nat.reduceLeDiff, reduceCtorEq, Nat.reduceBEq, Nat.reduceLT, Nat.reduceMod, fmc, Qf, Qm, Qe, QE, keepB, Qn, QJ, QA, QP, QU, QS, Ke, Qv, Kf, QG, Js, Jr, Jt, int_toBitVec_meta, Own.row, QK, Seen.row, Qy, Part.row, Qz, Book.row, Jq])
  repeat' (first | with_reducible apply And.intro | with_reducible intro _)
  all_goals first
    | omega
    | (refine hQ _ ?_
       first
         | grind []
         | (simp; grind []))
    | grind []
set_option maxHeartbeats 400000 in
theorem Qf4 (t : Nat) (zs : List Zone) (b : Book) (p a : Part) (i : Nat) {Q : XT → St → Prop} (ht : slt a.fl p.fl ∨ a.fl = p.fl ∨ slt p.fl a.fl) (hn : slt a.fl p.fl → ¬ slt p.fl a.fl) (he : a.fl = p.fl → ¬ slt p.fl a.fl) (hQ : ∀ bv : Bool, (bv = true ↔ ¬ a.before p) → Q .normal ⟨[(2, .ptr 102 0), (3, .ptr 103 0), (14, .int .i64 i), (15, .ptr 115 0), (244, .sl 0 3 (b.parts.map (Part.row 0))), (245, .int .i64 b.parts.length), (246, .int .i64 i), (298, .bool bv)], [(102, .box [.sl t 5 (zs.map Zone.row)]), (103, .box [.sl 0 11 (b.own.map (Own.row 0)), .sl 0 3 (b.parts.map (Part.row 0)), .sl 0 2 (b.seen.map Seen.row)]), (115, .box [.str p.fl, .int .i64 p.nr, .sl 0 6 (p.bx.map Box6.row)]), (116, .box [.str a.fl, .int .i64 a.nr, .sl 0 6 (a.bx.map Box6.row)])]⟩) : SCode.wp ((((((((((((Env.nil P).addR 126 Jt Qbp).add 120 QA KG).add 103 QP Gf).add 125 QU GL).add 86 QS Gg).add 127 Ke Qhf).add 116 Qv J6).add 128 Kf Qhg).add 100 QG Yu).add 129 Js Vf).add 130 Jr Qbm) Up Q ⟨[(2, .ptr 102 0), (3, .ptr 103 0), (14, .int .i64 i), (15, .ptr 115 0), (16, .ptr 116 0), (244, .sl 0 3 (b.parts.map (Part.row 0))), (245, .int .i64 b.parts.length), (246, .int .i64 i)], [(102, .box [.sl t 5 (zs.map Zone.row)]), (103, .box [.sl 0 11 (b.own.map (Own.row 0)), .sl 0 3 (b.parts.map (Part.row 0)), .sl 0 2 (b.seen.map Seen.row)]), (115, .box [.str p.fl, .int .i64 p.nr, .sl 0 6 (p.bx.map Box6.row)]), (116, .box [.str a.fl, .int .i64 a.nr, .sl 0 6 (a.bx.map Box6.row)])]⟩ := by
  all_goals (unfold Up; simp (maxSteps := 2000000) only [bitvec_to_nat, reduceIte, Nat.reduceEqDiff, Nat.reduceAdd, Nat.reduceLeDiff, reduceCtorEq, Nat.reduceBEq, Nat.reduceLT, Nat.reduceMod, fmc, Qf, Qm, Qe, QE, keepB, Qn, QJ, QA, QP, QU, QS, Ke, Qv, Kf, QG, Js, Jr, Jt, int_toBitVec_meta, Own.row, QK, Seen.row, Qy, Part.row, Qz, Book.row, Jq])
  repeat' (first | with_reducible apply And.intro | with_reducible intro _)
  all_goals first
    | omega
    | (refine hQ _ ?_
       first
         | grind [Part.before]
         | (simp; grind [Part.before]))
    | grind [Part.before]
set_option maxHeartbeats 400000 in
theorem QaC (t : Nat) (zs : List Zone) (b : Book) (p a : Part) (i k : Nat) {Q : XT → St → Prop} (h1 : a.bx.length ≤ 1048576) (h2 : p.bx.length ≤ 1048576) (hQ : ∀ bv : Bool, (bv = true ↔ (a.fl ≠ p.fl ∧ Qdo a.bx p.bx)) → Q .normal ⟨[(2, .ptr 102 0), (3, .ptr 103 0), (15, .ptr 115 0), (244, .sl 0 3 (b.parts.map (Part.row 0))), (245, .int .i64 b.parts.length), (246, .int .i64 i), (302, .sl 0 3 ((b.parts.take i).map (Part.row 0))), (303, .int .i64 (min i b.parts.length : Nat)), (304, .int .i64 k), (319, .bool bv)], [(102, .box [.sl t 5 (zs.map Zone.row)]), (103, .box [.sl 0 11 (b.own.map (Own.row 0)), .sl 0 3 (b.parts.map (Part.row 0)), .sl 0 2 (b.seen.map Seen.row)]), (115, .box [.str p.fl, .int .i64 p.nr, .sl 0 6 (p.bx.map Box6.row)]), (118, .box [.str a.fl, .int .i64 a.nr, .sl 0 6 (a.bx.map Box6.row)])]⟩) : SCode.wp ((((((((((((Env.nil P).addR 126 Jt Qbp).add 120 QA KG).add 103 QP Gf).add 125 QU GL).add 86 QS Gg).add 127 Ke Qhf).add 116 Qv J6).add 128 Kf Qhg).add 100 QG Yu).add 129 Js Vf).add 130 Jr Qbm) Uq Q ⟨[(2, .ptr 102 0), (3, .ptr 103 0), (15, .ptr 115 0), (18, .ptr 118 0), (244, .sl 0 3 (b.parts.map (Part.row 0))), (245, .int .i64 b.parts.length), (246, .int .i64 i), (302, .sl 0 3 ((b.parts.take i).map (Part.row 0))), (303, .int .i64 (min i b.parts.length : Nat)), (304, .int .i64 k)], [(102, .box [.sl t 5 (zs.map Zone.row)]), (103, .box [.sl 0 11 (b.own.map (Own.row 0)), .sl 0 3 (b.parts.map (Part.row 0)), .sl 0 2 (b.seen.map Seen.row)]), (115, .box [.str p.fl, .int .i64 p.nr, .sl 0 6 (p.bx.map Box6.row)]), (118, .box [.str a.fl, .int .i64 a.nr, .sl 0 6 (a.bx.map Box6.row)])]⟩ := by
  all_goals (unfold Uq; simp (maxSteps := 2000000) only [bitvec_to_nat, reduceIte, Nat.reduceEqDiff, Nat.reduceAdd, Nat.reduceLeDiff, reduceCtorEq, Nat.reduceBEq, Nat.reduceLT, Nat.reduceMod, fmc, Qf, Qm, Qe, QE, keepB, Qn, QJ, QA, QP, QU, QS, Ke, Qv, Kf, QG, Js, Jr, Jt, int_toBitVec_meta, Own.row, QK, Seen.row, Qy, Part.row, Qz, Book.row, Jq])
  repeat' (first | with_reducible apply And.intro | with_reducible intro _)
  all_goals first
    | omega
    | (refine hQ _ ?_
       first
         | grind []
         | (simp; grind []))
    | grind []
end
end Go.Ve

namespace Go.Ve
noncomputable section
open Go.Proofs
set_option maxRecDepth 100000
set_option maxHeartbeats 1000000 in
theorem Qqv (t : Nat) (zs : List Zone) (b : Book) (hz : zs.length ≤ 4294967295) (hb : b.small) : Contract P 102 [.sl t 5 (zs.map Zone.row), .agg (b.row 0)] [] (.bool (decide (bookOk zs b))) [] := by
  have hb1 := hb.1.1
  have hb2 := hb.2.1.1
  have hb3 := hb.2.2
  simp only [Book.row]
  refine Qh ((((((((((((Env.nil P).addR 126 Jt Qbp).add 120 QA KG).add 103 QP Gf).add 125 QU GL).add 86 QS Gg).add 127 Ke Qhf).add 116 Qv J6).add 128 Kf Qhg).add 100 QG Yu).add 129 Js Vf).add 130 Jr Qbm) hm Qjb (nlb rfl) rfl ?_; unfold Qde; simp (maxSteps := 2000000) only [bitvec_to_nat, reduceIte, Nat.reduceEqDiff, Nat.reduceAdd, Nat.reduceLeDiff, reduceCtorEq, Nat.reduceBEq, Nat.reduceLT, Nat.reduceMod, fmc, Qf, Qm, Qe, QE, keepB, Qn, QJ, QA, QP, QU, QS, Ke, Qv, Kf, QG, Js, Jr, Jt, int_toBitVec_meta, Own.row, QK, Seen.row, Qy, Part.row, Qz, Book.row, Jq]
  refine QfW t zs b fun bv hbv => ?_
  cases bv
  case true =>
    simp (maxSteps := 2000000) only [bitvec_to_nat, reduceIte, Nat.reduceEqDiff, Nat.reduceAdd, Nat.reduceLeDiff, reduceCtorEq, Nat.reduceBEq, Nat.reduceLT, Nat.reduceMod, fmc, Qf, Qm, Qe, QE, keepB, Qn, QJ, QA, QP, QU, QS, Ke, Qv, Kf, QG, Js, Jr, Jt, int_toBitVec_meta, Own.row, QK, Seen.row, Qy, Part.row, Qz, Book.row, Jq]
    have : 6 < b.own.length ∨ 16 < b.parts.length ∨ 6 < b.seen.length := by simpa using hbv
    intro hq
    have h1 := hq.1.1; have h2 := hq.2.1.1; have h3 := hq.2.2.1
    omega
  have h0 : ¬ (6 < b.own.length ∨ 16 < b.parts.length ∨ 6 < b.seen.length) := by simpa using hbv
  simp (maxSteps := 2000000) only [bitvec_to_nat, reduceIte, Nat.reduceEqDiff, Nat.reduceAdd, Nat.reduceLeDiff, reduceCtorEq, Nat.reduceBEq, Nat.reduceLT, Nat.reduceMod, fmc, Qf, Qm, Qe, QE, keepB, Qn, QJ, QA, QP, QU, QS, Ke, Qv, Kf, QG, Js, Jr, Jt, int_toBitVec_meta, Own.row, QK, Seen.row, Qy, Part.row, Qz, Book.row, Jq]
  -- those in hand
  refine QH (fun i : Nat => [(38, .int .i64 i)]) (fun _ => []) (fun i => i ≤ b.own.length ∧ ∀ j, j < i → Qlt zs b.own j) (fun i => b.own.length - i) (0) (by simp only [Ju, Jv, Jw, Jx, Qi, Qj, Qk, Ql, reduceIte, Nat.reduceEqDiff]; exact ⟨by repeat' (first | exact trivial | refine ⟨.inr rfl, ?_⟩), by repeat' (first | exact trivial | refine ⟨rfl, ?_⟩), by first | rfl | simp [closedB, Qc, Qb, Qd, dom, Qa, *], by first | rfl | simp [keepB, dom]⟩) ?_ ?_
  · exact ⟨Nat.zero_le _, by intro j hj; omega⟩
  intro i hi NX hN
  unfold Qa4; simp (maxSteps := 2000000) only [bitvec_to_nat, reduceIte, Nat.reduceEqDiff, Nat.reduceAdd, Nat.reduceLeDiff, reduceCtorEq, Nat.reduceBEq, Nat.reduceLT, Nat.reduceMod, fmc, Qf, Qm, Qe, QE, keepB, Qn, QJ, QA, QP, QU, QS, Ke, Qv, Kf, QG, Js, Jr, Jt, int_toBitVec_meta, Own.row, QK, Seen.row, Qy, Part.row, Qz, Book.row, Jq]
  refine ⟨fun g1 => ⟨by omega, by omega, ?_⟩, fun g1 => ?_⟩
  · have hs : (b.own.getD i default).small := Book.small_own hb (by omega)
    unfold Own.small at hs
    have hw := QoZ zs (b.own.getD i default).nx
    have A : bookOk zs b → Qlt zs b.own i := fun h => h.1.2 i (by omega)
    unfold Qlt Qls at A
    refine QfX t zs b (b.own.getD i default) i (by omega) hb1 fun bv hbv => ?_
    cases bv
    case true =>
      simp (maxSteps := 2000000) only [bitvec_to_nat, reduceIte, Nat.reduceEqDiff, Nat.reduceAdd, Nat.reduceLeDiff, reduceCtorEq, Nat.reduceBEq, Nat.reduceLT, Nat.reduceMod, fmc, Qf, Qm, Qe, QE, keepB, Qn, QJ, QA, QP, QU, QS, Ke, Qv, Kf, QG, Js, Jr, Jt, int_toBitVec_meta, Own.row, QK, Seen.row, Qy, Part.row, Qz, Book.row, Jq]
      have : ¬ (QaB zs (b.own.getD i default) ∧ (0 < i → slt (b.own.getD (i - 1) default).fl (b.own.getD i default).fl)) := by simpa using hbv
      exact fun hq => this ⟨(A hq).1.1, (A hq).2⟩
    have o1 : QaB zs (b.own.getD i default) ∧ (0 < i → slt (b.own.getD (i - 1) default).fl (b.own.getD i default).fl) := by simpa using hbv
    simp (maxSteps := 2000000) only [bitvec_to_nat, reduceIte, Nat.reduceEqDiff, Nat.reduceAdd, Nat.reduceLeDiff, reduceCtorEq, Nat.reduceBEq, Nat.reduceLT, Nat.reduceMod, fmc, Qf, Qm, Qe, QE, keepB, Qn, QJ, QA, QP, QU, QS, Ke, Qv, Kf, QG, Js, Jr, Jt, int_toBitVec_meta, Own.row, QK, Seen.row, Qy, Part.row, Qz, Book.row, Jq]
    refine QfY t zs b (b.own.getD i default) i hz fun bv hbv => ?_
    cases bv
    case true =>
      simp (maxSteps := 2000000) only [bitvec_to_nat, reduceIte, Nat.reduceEqDiff, Nat.reduceAdd, Nat.reduceLeDiff, reduceCtorEq, Nat.reduceBEq, Nat.reduceLT, Nat.reduceMod, fmc, Qf, Qm, Qe, QE, keepB, Qn, QJ, QA, QP, QU, QS, Ke, Qv, Kf, QG, Js, Jr, Jt, int_toBitVec_meta, Own.row, QK, Seen.row, Qy, Part.row, Qz, Book.row, Jq]
      exact fun hq => (hbv.1 rfl) ⟨(A hq).1.2.1.1, (A hq).1.2.1.2.1, (A hq).1.2.1.2.2.1⟩
    have o2 := Classical.not_not.1 fun h => Bool.noConfusion (hbv.2 h)
    simp (maxSteps := 2000000) only [bitvec_to_nat, reduceIte, Nat.reduceEqDiff, Nat.reduceAdd, Nat.reduceLeDiff, reduceCtorEq, Nat.reduceBEq, Nat.reduceLT, Nat.reduceMod, fmc, Qf, Qm, Qe, QE, keepB, Qn, QJ, QA, QP, QU, QS, Ke, Qv, Kf, QG, Js, Jr, Jt, int_toBitVec_meta, Own.row, QK, Seen.row, Qy, Part.row, Qz, Book.row, Jq]
    refine QfZ t zs b (b.own.getD i default) i hz hs.1 hs.2.1 fun bv hbv => ?_
    cases bv
    case true =>
      simp (maxSteps := 2000000) only [bitvec_to_nat, reduceIte, Nat.reduceEqDiff, Nat.reduceAdd, Nat.reduceLeDiff, reduceCtorEq, Nat.reduceBEq, Nat.reduceLT, Nat.reduceMod, fmc, Qf, Qm, Qe, QE, keepB, Qn, QJ, QA, QP, QU, QS, Ke, Qv, Kf, QG, Js, Jr, Jt, int_toBitVec_meta, Own.row, QK, Seen.row, Qy, Part.row, Qz, Book.row, Jq]
      exact fun hq => (hbv.1 rfl) ⟨(A hq).1.2.1.2.2.2, (A hq).1.2.2.1⟩
    have o3 := Classical.not_not.1 fun h => Bool.noConfusion (hbv.2 h)
    simp (maxSteps := 2000000) only [bitvec_to_nat, reduceIte, Nat.reduceEqDiff, Nat.reduceAdd, Nat.reduceLeDiff, reduceCtorEq, Nat.reduceBEq, Nat.reduceLT, Nat.reduceMod, fmc, Qf, Qm, Qe, QE, keepB, Qn, QJ, QA, QP, QU, QS, Ke, Qv, Kf, QG, Js, Jr, Jt, int_toBitVec_meta, Own.row, QK, Seen.row, Qy, Part.row, Qz, Book.row, Jq]
    refine ⟨⟨hz, by omega⟩, ?_⟩
    refine QH (fun k : Nat => [(171, .int .i64 k)]) (fun _ => []) (fun k => k ≤ (b.own.getD i default).gr.length ∧ ∀ j, j < k → QnQ (Kd zs (b.own.getD i default).nx) (b.own.getD i default).gr j) (fun k => (b.own.getD i default).gr.length - k) (0) (by simp only [Ju, Jv, Jw, Jx, Qi, Qj, Qk, Ql, reduceIte, Nat.reduceEqDiff]; exact ⟨by repeat' (first | exact trivial | refine ⟨.inr rfl, ?_⟩), by repeat' (first | exact trivial | refine ⟨rfl, ?_⟩), by first | rfl | simp [closedB, Qc, Qb, Qd, dom, Qa, *], by first | rfl | simp [keepB, dom]⟩) ?_ ?_
    · exact ⟨Nat.zero_le _, by intro j hj; omega⟩
    intro k hk NX2 hN2
    unfold Qa3; simp (maxSteps := 2000000) only [bitvec_to_nat, reduceIte, Nat.reduceEqDiff, Nat.reduceAdd, Nat.reduceLeDiff, reduceCtorEq, Nat.reduceBEq, Nat.reduceLT, Nat.reduceMod, fmc, Qf, Qm, Qe, QE, keepB, Qn, QJ, QA, QP, QU, QS, Ke, Qv, Kf, QG, Js, Jr, Jt, int_toBitVec_meta, Own.row, QK, Seen.row, Qy, Part.row, Qz, Book.row, Jq]
    refine ⟨fun g2 => ⟨by omega, by omega, ?_⟩, fun g2 => ?_⟩
    · refine Qf0 t zs b (b.own.getD i default) i (Kd zs (b.own.getD i default).nx) k (by omega) (by omega) (by omega) fun bv hbv => ?_
      cases bv
      case true =>
        simp (maxSteps := 2000000) only [bitvec_to_nat, reduceIte, Nat.reduceEqDiff, Nat.reduceAdd, Nat.reduceLeDiff, reduceCtorEq, Nat.reduceBEq, Nat.reduceLT, Nat.reduceMod, fmc, Qf, Qm, Qe, QE, keepB, Qn, QJ, QA, QP, QU, QS, Ke, Qv, Kf, QG, Js, Jr, Jt, int_toBitVec_meta, Own.row, QK, Seen.row, Qy, Part.row, Qz, Book.row, Jq]
        exact fun hq => (hbv.1 rfl) ((A hq).1.2.2.2.1 k (by omega))
      have o4 := Classical.not_not.1 fun h => Bool.noConfusion (hbv.2 h)
      simp (maxSteps := 2000000) only [bitvec_to_nat, reduceIte, Nat.reduceEqDiff, Nat.reduceAdd, Nat.reduceLeDiff, reduceCtorEq, Nat.reduceBEq, Nat.reduceLT, Nat.reduceMod, fmc, Qf, Qm, Qe, QE, keepB, Qn, QJ, QA, QP, QU, QS, Ke, Qv, Kf, QG, Js, Jr, Jt, int_toBitVec_meta, Own.row, QK, Seen.row, Qy, Part.row, Qz, Book.row, Jq]
      refine ⟨by omega, ?_⟩
      refine hN2 (k + 1) _ (by simp only [Ju, Jv, Jw, Jx, Qi, Qj, Qk, Ql, reduceIte, Nat.reduceEqDiff]; exact ⟨by repeat' (first | exact trivial | refine ⟨.inr rfl, ?_⟩), by repeat' (first | exact trivial | refine ⟨rfl, ?_⟩), by first | rfl | simp [closedB, Qc, Qb, Qd, dom, Qa, *], by first | rfl | simp [keepB, dom]⟩) ?_ ?_
      · exact ⟨by omega, Jf hk.2 o4⟩
      · omega
    · refine Qf1 t zs b (b.own.getD i default) i (Kd zs (b.own.getD i default).nx) k (by omega) (by omega) fun bv hbv => ?_
      cases bv
      case true =>
        simp (maxSteps := 2000000) only [bitvec_to_nat, reduceIte, Nat.reduceEqDiff, Nat.reduceAdd, Nat.reduceLeDiff, reduceCtorEq, Nat.reduceBEq, Nat.reduceLT, Nat.reduceMod, fmc, Qf, Qm, Qe, QE, keepB, Qn, QJ, QA, QP, QU, QS, Ke, Qv, Kf, QG, Js, Jr, Jt, int_toBitVec_meta, Own.row, QK, Seen.row, Qy, Part.row, Qz, Book.row, Jq]
        exact fun hq => (hbv.1 rfl) (A hq).1.2.2.2.2
      have o5 := Classical.not_not.1 fun h => Bool.noConfusion (hbv.2 h)
      simp (maxSteps := 2000000) only [bitvec_to_nat, reduceIte, Nat.reduceEqDiff, Nat.reduceAdd, Nat.reduceLeDiff, reduceCtorEq, Nat.reduceBEq, Nat.reduceLT, Nat.reduceMod, fmc, Qf, Qm, Qe, QE, keepB, Qn, QJ, QA, QP, QU, QS, Ke, Qv, Kf, QG, Js, Jr, Jt, int_toBitVec_meta, Own.row, QK, Seen.row, Qy, Part.row, Qz, Book.row, Jq]
      refine ⟨by omega, ?_⟩
      refine hN (i + 1) _ (by simp only [Ju, Jv, Jw, Jx, Qi, Qj, Qk, Ql, reduceIte, Nat.reduceEqDiff]; exact ⟨by repeat' (first | exact trivial | refine ⟨.inr rfl, ?_⟩), by repeat' (first | exact trivial | refine ⟨rfl, ?_⟩), by first | rfl | simp [closedB, Qc, Qb, Qd, dom, Qa, *], by first | rfl | simp [keepB, dom]⟩) ?_ ?_
      · exact ⟨by omega, Jf hi.2 ⟨⟨o1.1, ⟨o2.1, o2.2.1, o2.2.2, o3.1⟩, o3.2, fun j hj => hk.2 j (by omega), o5⟩, o1.2⟩⟩
      · omega
  -- those that were seen
  have own : QiI zs b.own := ⟨by omega, fun j hj => hi.2 j (by omega)⟩
  clear hN hi
  refine QH (fun i : Nat => [(211, .int .i64 i)]) (fun _ => []) (fun i => i ≤ b.seen.length ∧ ∀ j, j < i → Qdq b.seen j) (fun i => b.seen.length - i) (0) (by simp only [Ju, Jv, Jw, Jx, Qi, Qj, Qk, Ql, reduceIte, Nat.reduceEqDiff]; exact ⟨by repeat' (first | exact trivial | refine ⟨.inr rfl, ?_⟩), by repeat' (first | exact trivial | refine ⟨rfl, ?_⟩), by first | rfl | simp [closedB, Qc, Qb, Qd, dom, Qa, *], by first | rfl | simp [keepB, dom]⟩) ?_ ?_
  · exact ⟨Nat.zero_le _, by intro j hj; omega⟩
  intro i hi NX hN
  unfold Qa5; simp (maxSteps := 2000000) only [bitvec_to_nat, reduceIte, Nat.reduceEqDiff, Nat.reduceAdd, Nat.reduceLeDiff, reduceCtorEq, Nat.reduceBEq, Nat.reduceLT, Nat.reduceMod, fmc, Qf, Qm, Qe, QE, keepB, Qn, QJ, QA, QP, QU, QS, Ke, Qv, Kf, QG, Js, Jr, Jt, int_toBitVec_meta, Own.row, QK, Seen.row, Qy, Part.row, Qz, Book.row, Jq]
  refine ⟨fun g1 => ⟨by omega, by omega, ?_⟩, fun g1 => ?_⟩
  · refine Qf2 t zs b i (by omega) hb3 fun bv hbv => ?_
    cases bv
    case true =>
      simp (maxSteps := 2000000) only [bitvec_to_nat, reduceIte, Nat.reduceEqDiff, Nat.reduceAdd, Nat.reduceLeDiff, reduceCtorEq, Nat.reduceBEq, Nat.reduceLT, Nat.reduceMod, fmc, Qf, Qm, Qe, QE, keepB, Qn, QJ, QA, QP, QU, QS, Ke, Qv, Kf, QG, Js, Jr, Jt, int_toBitVec_meta, Own.row, QK, Seen.row, Qy, Part.row, Qz, Book.row, Jq]
      exact fun hq => (hbv.1 rfl) (hq.2.2.2 i (by omega))
    have o1 := Classical.not_not.1 fun h => Bool.noConfusion (hbv.2 h)
    simp (maxSteps := 2000000) only [bitvec_to_nat, reduceIte, Nat.reduceEqDiff, Nat.reduceAdd, Nat.reduceLeDiff, reduceCtorEq, Nat.reduceBEq, Nat.reduceLT, Nat.reduceMod, fmc, Qf, Qm, Qe, QE, keepB, Qn, QJ, QA, QP, QU, QS, Ke, Qv, Kf, QG, Js, Jr, Jt, int_toBitVec_meta, Own.row, QK, Seen.row, Qy, Part.row, Qz, Book.row, Jq]
    refine ⟨by omega, ?_⟩
    refine hN (i + 1) _ (by simp only [Ju, Jv, Jw, Jx, Qi, Qj, Qk, Ql, reduceIte, Nat.reduceEqDiff]; exact ⟨by repeat' (first | exact trivial | refine ⟨.inr rfl, ?_⟩), by repeat' (first | exact trivial | refine ⟨rfl, ?_⟩), by first | rfl | simp [closedB, Qc, Qb, Qd, dom, Qa, *], by first | rfl | simp [keepB, dom]⟩) ?_ ?_
    · exact ⟨by omega, Jf hi.2 o1⟩
    · omega
  -- the parts
  have seen : QrB b.seen := ⟨by omega, fun j hj => hi.2 j (by omega)⟩
  clear hN hi
  refine QH (fun i : Nat => [(246, .int .i64 i)]) (fun _ => []) (fun i => i ≤ b.parts.length ∧ ∀ j, j < i → Qhj zs b j) (fun i => b.parts.length - i) (0) (by simp only [Ju, Jv, Jw, Jx, Qi, Qj, Qk, Ql, reduceIte, Nat.reduceEqDiff]; exact ⟨by repeat' (first | exact trivial | refine ⟨.inr rfl, ?_⟩), by repeat' (first | exact trivial | refine ⟨rfl, ?_⟩), by first | rfl | simp [closedB, Qc, Qb, Qd, dom, Qa, *], by first | rfl | simp [keepB, dom]⟩) ?_ ?_
  · exact ⟨Nat.zero_le _, by intro j hj; omega⟩
  intro i hi NX hN
  unfold Qa6; simp (maxSteps := 2000000) only [bitvec_to_nat, reduceIte, Nat.reduceEqDiff, Nat.reduceAdd, Nat.reduceLeDiff, reduceCtorEq, Nat.reduceBEq, Nat.reduceLT, Nat.reduceMod, fmc, Qf, Qm, Qe, QE, keepB, Qn, QJ, QA, QP, QU, QS, Ke, Qv, Kf, QG, Js, Jr, Jt, int_toBitVec_meta, Own.row, QK, Seen.row, Qy, Part.row, Qz, Book.row, Jq]
  refine ⟨fun g1 => ⟨by omega, by omega, ?_⟩, fun g1 => ?_⟩
  · have hs := Book.small_part hb (i := i) (by omega)
    have A : bookOk zs b → Qhj zs b i := fun h => h.2.1.2 i (by omega)
    unfold Qhj at A
    refine Qf3 t zs b (b.parts.getD i default) i hz hb3 hs fun bv hbv => ?_
    cases bv
    case true =>
      simp (maxSteps := 2000000) only [bitvec_to_nat, reduceIte, Nat.reduceEqDiff, Nat.reduceAdd, Nat.reduceLeDiff, reduceCtorEq, Nat.reduceBEq, Nat.reduceLT, Nat.reduceMod, fmc, Qf, Qm, Qe, QE, keepB, Qn, QJ, QA, QP, QU, QS, Ke, Qv, Kf, QG, Js, Jr, Jt, int_toBitVec_meta, Own.row, QK, Seen.row, Qy, Part.row, Qz, Book.row, Jq]
      exact fun hq => (hbv.1 rfl) ⟨(A hq).1, (A hq).2.1, (A hq).2.2.1⟩
    have o1 := Classical.not_not.1 fun h => Bool.noConfusion (hbv.2 h)
    simp (maxSteps := 2000000) only [bitvec_to_nat, reduceIte, Nat.reduceEqDiff, Nat.reduceAdd, Nat.reduceLeDiff, reduceCtorEq, Nat.reduceBEq, Nat.reduceLT, Nat.reduceMod, fmc, Qf, Qm, Qe, QE, keepB, Qn, QJ, QA, QP, QU, QS, Ke, Qv, Kf, QG, Js, Jr, Jt, int_toBitVec_meta, Own.row, QK, Seen.row, Qy, Part.row, Qz, Book.row, Jq]
    refine ⟨fun g3 => ⟨by omega, by omega, by omega, ?_⟩, fun g3 => ⟨by omega, ?_⟩⟩
    · refine Qf4 t zs b (b.parts.getD i default) (b.parts.getD (i - 1) default) i (Qj5 _ _) QgQ (fun e h => ZL _ (e ▸ h)) fun bv hbv => ?_
      cases bv
      case true =>
        simp (maxSteps := 2000000) only [bitvec_to_nat, reduceIte, Nat.reduceEqDiff, Nat.reduceAdd, Nat.reduceLeDiff, reduceCtorEq, Nat.reduceBEq, Nat.reduceLT, Nat.reduceMod, fmc, Qf, Qm, Qe, QE, keepB, Qn, QJ, QA, QP, QU, QS, Ke, Qv, Kf, QG, Js, Jr, Jt, int_toBitVec_meta, Own.row, QK, Seen.row, Qy, Part.row, Qz, Book.row, Jq]
        exact fun hq => (hbv.1 rfl) ((A hq).2.2.2.1 (by omega))
      have o2' := Classical.not_not.1 fun h => Bool.noConfusion (hbv.2 h)
      have o2 : 0 < i → (b.parts.getD (i - 1) default).before (b.parts.getD i default) := fun _ => o2'
      simp (maxSteps := 2000000) only [bitvec_to_nat, reduceIte, Nat.reduceEqDiff, Nat.reduceAdd, Nat.reduceLeDiff, reduceCtorEq, Nat.reduceBEq, Nat.reduceLT, Nat.reduceMod, fmc, Qf, Qm, Qe, QE, keepB, Qn, QJ, QA, QP, QU, QS, Ke, Qv, Kf, QG, Js, Jr, Jt, int_toBitVec_meta, Own.row, QK, Seen.row, Qy, Part.row, Qz, Book.row, Jq]
      refine ⟨by omega, ?_⟩
      (refine Qoo (st' := ⟨[(2, .ptr 102 0), (3, .ptr 103 0), (15, .ptr 115 0), (244, .sl 0 3 (b.parts.map (Part.row 0))), (245, .int .i64 b.parts.length), (246, .int .i64 i), (302, .sl 0 3 ((b.parts.take i).map (Part.row 0))), (303, .int .i64 (min i b.parts.length : Nat)), (304, .int .i64 0)], [(102, .box [.sl t 5 (zs.map Zone.row)]), (103, .box [.sl 0 11 (b.own.map (Own.row 0)), .sl 0 3 (b.parts.map (Part.row 0)), .sl 0 2 (b.seen.map Seen.row)]), (115, .box [.str (b.parts.getD i default).fl, .int .i64 (b.parts.getD i default).nr, .sl 0 6 ((b.parts.getD i default).bx.map Box6.row)])]⟩) (by (exact ⟨by repeat' (first | exact trivial | refine ⟨.inr rfl, ?_⟩), by repeat' (first | exact trivial | refine ⟨rfl, ?_⟩), by first | rfl | simp [closedB, Qc, Qb, Qd, dom, Qa, *], by first | rfl | simp [keepB, dom]⟩)) ?_
       refine QH (fun k : Nat => [(304, .int .i64 k)]) (fun _ => []) (fun k => k ≤ i ∧ ∀ j, j < k → (b.parts.getD j default).fl ≠ (b.parts.getD i default).fl → ¬ Qdo (b.parts.getD j default).bx (b.parts.getD i default).bx) (fun k => i - k) (0) (by simp only [Ju, Jv, Jw, Jx, Qi, Qj, Qk, Ql, reduceIte, Nat.reduceEqDiff]; exact ⟨by repeat' (first | exact trivial | refine ⟨.inr rfl, ?_⟩), by repeat' (first | exact trivial | refine ⟨rfl, ?_⟩), by first | rfl | simp [closedB, Qc, Qb, Qd, dom, Qa, *], by first | rfl | simp [keepB, dom]⟩) ?_ ?_
       · exact ⟨Nat.zero_le _, by intro j hj; omega⟩
       intro k hk NX2 hN2
       unfold Ur; simp (maxSteps := 2000000) only [bitvec_to_nat, reduceIte, Nat.reduceEqDiff, Nat.reduceAdd, Nat.reduceLeDiff, reduceCtorEq, Nat.reduceBEq, Nat.reduceLT, Nat.reduceMod, fmc, Qf, Qm, Qe, QE, keepB, Qn, QJ, QA, QP, QU, QS, Ke, Qv, Kf, QG, Js, Jr, Jt, int_toBitVec_meta, Own.row, QK, Seen.row, Qy, Part.row, Qz, Book.row, Jq]
       refine ⟨fun g2 => ⟨by omega, by omega, ?_⟩, fun g2 => ?_⟩
       · have hk3 : k < i := by omega
         simp only [Qdk hk3]
         have hs2 := Book.small_part hb (i := k) (by omega)
         refine QaC t zs b (b.parts.getD i default) (b.parts.getD k default) i k hs2 hs fun bv hbv => ?_
         cases bv
         case true =>
           simp (maxSteps := 2000000) only [bitvec_to_nat, reduceIte, Nat.reduceEqDiff, Nat.reduceAdd, Nat.reduceLeDiff, reduceCtorEq, Nat.reduceBEq, Nat.reduceLT, Nat.reduceMod, fmc, Qf, Qm, Qe, QE, keepB, Qn, QJ, QA, QP, QU, QS, Ke, Qv, Kf, QG, Js, Jr, Jt, int_toBitVec_meta, Own.row, QK, Seen.row, Qy, Part.row, Qz, Book.row, Jq]
           exact fun hq => (A hq).2.2.2.2 k hk3 (hbv.1 rfl).1 (hbv.1 rfl).2
         have o3 : ¬ ((b.parts.getD k default).fl ≠ (b.parts.getD i default).fl ∧ Qdo (b.parts.getD k default).bx (b.parts.getD i default).bx) := by simpa using hbv
         simp (maxSteps := 2000000) only [bitvec_to_nat, reduceIte, Nat.reduceEqDiff, Nat.reduceAdd, Nat.reduceLeDiff, reduceCtorEq, Nat.reduceBEq, Nat.reduceLT, Nat.reduceMod, fmc, Qf, Qm, Qe, QE, keepB, Qn, QJ, QA, QP, QU, QS, Ke, Qv, Kf, QG, Js, Jr, Jt, int_toBitVec_meta, Own.row, QK, Seen.row, Qy, Part.row, Qz, Book.row, Jq]
         refine ⟨by omega, ?_⟩
         refine hN2 (k + 1) _ (by simp only [Ju, Jv, Jw, Jx, Qi, Qj, Qk, Ql, reduceIte, Nat.reduceEqDiff]; exact ⟨by repeat' (first | exact trivial | refine ⟨.inr rfl, ?_⟩), by repeat' (first | exact trivial | refine ⟨rfl, ?_⟩), by first | rfl | simp [closedB, Qc, Qb, Qd, dom, Qa, *], by first | rfl | simp [keepB, dom]⟩) ?_ ?_
         · exact ⟨by omega, Jf hk.2 fun h1 h2 => o3 ⟨h1, h2⟩⟩
         · omega
       · refine ⟨by omega, ?_⟩
         refine hN (i + 1) _ (by simp only [Ju, Jv, Jw, Jx, Qi, Qj, Qk, Ql, reduceIte, Nat.reduceEqDiff]; exact ⟨by repeat' (first | exact trivial | refine ⟨.inr rfl, ?_⟩), by repeat' (first | exact trivial | refine ⟨rfl, ?_⟩), by first | rfl | simp [closedB, Qc, Qb, Qd, dom, Qa, *], by first | rfl | simp [keepB, dom]⟩) ?_ ?_
         · exact ⟨by omega, Jf hi.2 ⟨o1.1, o1.2.1, o1.2.2, o2, fun k' h1 => hk.2 k' (by omega)⟩⟩
         · omega)
    · have o2 : 0 < i → (b.parts.getD (i - 1) default).before (b.parts.getD i default) := fun h => absurd h (by omega)
      (refine Qoo (st' := ⟨[(2, .ptr 102 0), (3, .ptr 103 0), (15, .ptr 115 0), (244, .sl 0 3 (b.parts.map (Part.row 0))), (245, .int .i64 b.parts.length), (246, .int .i64 i), (302, .sl 0 3 ((b.parts.take i).map (Part.row 0))), (303, .int .i64 (min i b.parts.length : Nat)), (304, .int .i64 0)], [(102, .box [.sl t 5 (zs.map Zone.row)]), (103, .box [.sl 0 11 (b.own.map (Own.row 0)), .sl 0 3 (b.parts.map (Part.row 0)), .sl 0 2 (b.seen.map Seen.row)]), (115, .box [.str (b.parts.getD i default).fl, .int .i64 (b.parts.getD i default).nr, .sl 0 6 ((b.parts.getD i default).bx.map Box6.row)])]⟩) (by (exact ⟨by repeat' (first | exact trivial | refine ⟨.inr rfl, ?_⟩), by repeat' (first | exact trivial | refine ⟨rfl, ?_⟩), by first | rfl | simp [closedB, Qc, Qb, Qd, dom, Qa, *], by first | rfl | simp [keepB, dom]⟩)) ?_
       refine QH (fun k : Nat => [(304, .int .i64 k)]) (fun _ => []) (fun k => k ≤ i ∧ ∀ j, j < k → (b.parts.getD j default).fl ≠ (b.parts.getD i default).fl → ¬ Qdo (b.parts.getD j default).bx (b.parts.getD i default).bx) (fun k => i - k) (0) (by simp only [Ju, Jv, Jw, Jx, Qi, Qj, Qk, Ql, reduceIte, Nat.reduceEqDiff]; exact ⟨by repeat' (first | exact trivial | refine ⟨.inr rfl, ?_⟩), by repeat' (first | exact trivial | refine ⟨rfl, ?_⟩), by first | rfl | simp [closedB, Qc, Qb, Qd, dom, Qa, *], by first | rfl | simp [keepB, dom]⟩) ?_ ?_
       · exact ⟨Nat.zero_le _, by intro j hj; omega⟩
       intro k hk NX2 hN2
       unfold Ur; simp (maxSteps := 2000000) only [bitvec_to_nat, reduceIte, Nat.reduceEqDiff, Nat.reduceAdd, Nat.reduceLeDiff, reduceCtorEq, Nat.reduceBEq, Nat.reduceLT, Nat.reduceMod, fmc, Qf, Qm, Qe, QE, keepB, Qn, QJ, QA, QP, QU, QS, Ke, Qv, Kf, QG, Js, Jr, Jt, int_toBitVec_meta, Own.row, QK, Seen.row, Qy, Part.row, Qz, Book.row, Jq]
       refine ⟨fun g2 => ⟨by omega, by omega, ?_⟩, fun g2 => ?_⟩
       · have hk3 : k < i := by omega
         simp only [Qdk hk3]
         have hs2 := Book.small_part hb (i := k) (by omega)
         refine QaC t zs b (b.parts.getD i default) (b.parts.getD k default) i k hs2 hs fun bv hbv => ?_
         cases bv
         case true =>
           simp (maxSteps := 2000000) only [bitvec_to_nat, reduceIte, Nat.reduceEqDiff, Nat.reduceAdd, Nat.reduceLeDiff, reduceCtorEq, Nat.reduceBEq, Nat.reduceLT, Nat.reduceMod, fmc, Qf, Qm, Qe, QE, keepB, Qn, QJ, QA, QP, QU, QS, Ke, Qv, Kf, QG, Js, Jr, Jt, int_toBitVec_meta, Own.row, QK, Seen.row, Qy, Part.row, Qz, Book.row, Jq]
           exact fun hq => (A hq).2.2.2.2 k hk3 (hbv.1 rfl).1 (hbv.1 rfl).2
         have o3 : ¬ ((b.parts.getD k default).fl ≠ (b.parts.getD i default).fl ∧ Qdo (b.parts.getD k default).bx (b.parts.getD i default).bx) := by simpa using hbv
         simp (maxSteps := 2000000) only [bitvec_to_nat, reduceIte, Nat.reduceEqDiff, Nat.reduceAdd, Nat.reduceLeDiff, reduceCtorEq, Nat.reduceBEq, Nat.reduceLT, Nat.reduceMod, fmc, Qf, Qm, Qe, QE, keepB, Qn, QJ, QA, QP, QU, QS, Ke, Qv, Kf, QG, Js, Jr, Jt, int_toBitVec_meta, Own.row, QK, Seen.row, Qy, Part.row, Qz, Book.row, Jq]
         refine ⟨by omega, ?_⟩
         refine hN2 (k + 1) _ (by simp only [Ju, Jv, Jw, Jx, Qi, Qj, Qk, Ql, reduceIte, Nat.reduceEqDiff]; exact ⟨by repeat' (first | exact trivial | refine ⟨.inr rfl, ?_⟩), by repeat' (first | exact trivial | refine ⟨rfl, ?_⟩), by first | rfl | simp [closedB, Qc, Qb, Qd, dom, Qa, *], by first | rfl | simp [keepB, dom]⟩) ?_ ?_
         · exact ⟨by omega, Jf hk.2 fun h1 h2 => o3 ⟨h1, h2⟩⟩
         · omega
       · refine ⟨by omega, ?_⟩
         refine hN (i + 1) _ (by simp only [Ju, Jv, Jw, Jx, Qi, Qj, Qk, Ql, reduceIte, Nat.reduceEqDiff]; exact ⟨by repeat' (first | exact trivial | refine ⟨.inr rfl, ?_⟩), by repeat' (first | exact trivial | refine ⟨rfl, ?_⟩), by first | rfl | simp [closedB, Qc, Qb, Qd, dom, Qa, *], by first | rfl | simp [keepB, dom]⟩) ?_ ?_
         · exact ⟨by omega, Jf hi.2 ⟨o1.1, o1.2.1, o1.2.2, o2, fun k' h1 => hk.2 k' (by omega)⟩⟩
         · omega)
  · exact ⟨own, ⟨by omega, fun j hj => hi.2 j (by omega)⟩, seen⟩
end
end Go.Ve

namespace Go.Ve
noncomputable section
open Go.Proofs
set_option maxRecDepth 100000
theorem Qo0 {α : Type} [Inhabited α] {R : α → α → Prop} (tr : ∀ a b c, R a b → R b c → R a c) {l : List α} (h : ∀ i, 0 < i → i < l.length → R (l.getD (i - 1) default) (l.getD i default)) : l.Pairwise R := by
  have key : ∀ j i, i < j → j < l.length → R (l.getD i default) (l.getD j default) := by
    intro j
    induction j with
    | zero => intro i h1; omega
    | succ j ih =>
      intro i h1 h2
      have h3 := h (j + 1) (by omega) h2
      simp only [Nat.add_sub_cancel] at h3
      by_cases e : i = j
      · subst e; exact h3
      · exact tr _ _ _ (ih i (by omega) (by omega)) h3
  rw [List.pairwise_iff_getElem]
  intro i j hi hj hij
  have := key j i hij hj
  simpa [hi, hj] using this
theorem Qml : ∀ {a b : List ByteArray}, a.Pairwise (· ≠ ·) → (∀ x ∈ a, x ∈ b) → a.length ≤ b.length
  | [], _, _, _ => Nat.zero_le _
  | x :: a, b, ha, h => by
    obtain ⟨h1, h2⟩ := List.pairwise_cons.1 ha
    have ih := Qml (b := b.filter fun y => decide (¬ y = x)) h2 fun y hy => by
      rw [List.mem_filter]
      exact ⟨h y (by simp [hy]), by simpa using (h1 y hy).symm⟩
    have hx : x ∈ b := h x (by simp)
    have : (b.filter fun y => decide (¬ y = x)).length < b.length := by
      refine List.length_filter_lt_length_iff_exists.2 ⟨x, hx, by simp⟩
    simp only [List.length_cons]; omega
theorem Qtu {wh gr : List ByteArray} (h : ∀ i, i < gr.length → QnQ wh gr i) : gr.Pairwise (· ≠ ·) :=
  (Qo0 (R := slt) (fun _ _ _ => QgR) fun i h0 hi => (h i hi).2 h0).imp fun {a b} (h : slt a b) (e : a = b) => by subst e; exact ZL _ h
theorem Qsu {zs : List Zone} (h : Q5 zs) : zs.Pairwise fun a b => slt a.nm b.nm :=
  Qo0 (R := fun a b : Zone => slt a.nm b.nm) (fun _ _ _ => QgR) fun i h0 hi => (h.2 i hi).2.1 h0
theorem Qtv {zs : List Zone} (h : Q5 zs) (tu : List Box6) : (Kd zs tu).Pairwise (· ≠ ·) := by
  unfold Kd
  rw [List.pairwise_map]
  exact ((Qsu h).filter _).imp fun {a b} (h : slt a.nm b.nm) (e : a.nm = b.nm) => by rw [e] at h; exact ZL _ h
theorem QrC {wh gr : List ByteArray} (h : ∀ i, i < gr.length → QnQ wh gr i) : ∀ x ∈ gr, x ∈ wh := by
  intro x hx
  obtain ⟨i, hi, rfl⟩ := List.mem_iff_getElem.1 hx
  have := (h i hi).1
  simpa [hi] using this
theorem Qo1 {gr wh : List ByteArray} : Qif gr wh ↔ ∀ x ∈ wh, x ∈ gr := by
  unfold Qif
  constructor
  · intro h x hx
    obtain ⟨i, hi, rfl⟩ := List.mem_iff_getElem.1 hx
    have := h i hi
    simpa [hi] using this
  · intro h i hi
    exact h _ (by simp [hi])
theorem Qtw {wh gr : List ByteArray} (hw : wh.Pairwise (· ≠ ·)) (h : ∀ i, i < gr.length → QnQ wh gr i) : gr.length = wh.length ↔ Qif gr wh := by
  have h1 := Qml (Qtu h) (QrC h)
  rw [Qo1]
  constructor
  · intro e x hx
    refine Classical.byContradiction fun hn => ?_
    have := Qml (a := x :: gr) (b := wh) (List.pairwise_cons.2 ⟨fun y hy e => hn (e ▸ hy), Qtu h⟩) (fun y hy => by
      rcases List.mem_cons.1 hy with rfl | hy
      · exact hx
      · exact QrC h y hy)
    simp only [List.length_cons] at this; omega
  · intro k
    have := Qml hw k
    omega
instance (zs : List Zone) (o : Own) : Decidable (Qhi zs o) := Classical.propDecidable _
theorem Qsv (t t' : Nat) (zs : List Zone) (n : Int) (tu : List Box6) (hq : Q5 zs) (hz : zs.length ≤ 4611686018427387904) (hl : tu.length ≤ 4611686018427387904) : Contract P 134 [.sl t 5 (zs.map Zone.row), .int .i64 n, .sl t' 6 (tu.map Box6.row)] [] (.bool (decide (Qbo zs n tu))) [] := by
  refine Qh ((Env.nil P).add 65 JK WT) hm QfV (nlb rfl) rfl ?_; unfold Qaz; simp (maxSteps := 2000000) only [bitvec_to_nat, reduceIte, Nat.reduceEqDiff, Nat.reduceAdd, Nat.reduceLeDiff, reduceCtorEq, Nat.reduceBEq, Nat.reduceLT, Nat.reduceMod, fmc, JK, int_toBitVec_meta, Own.row, QK, Seen.row, Qy, Part.row, Qz, Book.row]
  refine ⟨fun h => ?_, fun h => ⟨⟨hz, hl⟩, ?_⟩⟩
  · rw [decide_eq_decide]; unfold Qbo; constructor
    · intro h2; exact ⟨fun _ => by omega, fun h3 => absurd h h3⟩
    · intro h2; have := h2.1 h; omega
  · rw [decide_eq_decide]; unfold Qbo; grind
def Gs : List AV → Option (Prop × AV)
  | [.sl zst 5 zsx, .int .i64 n, .sl tut 6 tux] => some ((((zsx.map QB).map Zone.row = zsx) ∧ ((tux.map QD).map Box6.row = tux)) ∧ (Q5 (zsx.map QB) ∧ (zsx.map QB).length ≤ 4611686018427387904 ∧ (tux.map QD).length ≤ 4611686018427387904), .bool (decide (Qbo (zsx.map QB) n (tux.map QD))))
  | _ => none
theorem Qji : ∀ args p v, Gs args = some (p, v) → p → Contract P 134 args [] v [] ∧ noref v = true ∧ No99 v := by
  intro args p v h1 h2
  unfold Gs at h1
  split at h1
  · rename_i zst zsx n tut tux
    cases h1
    obtain ⟨⟨e0, e1⟩, HP⟩ := h2
    have := Qsv zst tut (zsx.map QB) n (tux.map QD) HP.1 HP.2.1 HP.2.2
    exact ⟨by simpa only [e0, e1] using this, rfl, trivial⟩
  · cases h1
set_option maxHeartbeats 400000 in
theorem QaM (o : Own) (wh : List ByteArray) (i k : Nat) (c : Bool) {w23 : AV} {Q : XT → St → Prop} (hi : i < o.gr.length) (hk : k < wh.length) (hQ : ∀ bv : Bool, (bv = true ↔ (c = true ∨ wh.getD k default = o.gr.getD i default)) → Q .normal ⟨[(3, .ptr 103 0), (5, .sl 0 1 (wh.map JJ)), (6, .int .i64 i), (7, .bool bv), (8, .int .i64 k)], [(103, .box [.str o.fl, .int .i64 o.st, .int .i64 o.tn, .str o.dst, .int .i64 o.la, .int .i64 o.nr, .sl 0 6 (o.tu.map Box6.row), .int .i64 o.wi, .sl 0 6 (o.nx.map Box6.row), .sl 0 1 (o.gr.map JJ), .bool o.sent])]⟩) : SCode.wp ((Env.nil P).add 81 Gb Qkx) YD Q ⟨[(3, .ptr 103 0), (5, .sl 0 1 (wh.map JJ)), (6, .int .i64 i), (7, .bool c), (8, .int .i64 k), (23, w23)], [(103, .box [.str o.fl, .int .i64 o.st, .int .i64 o.tn, .str o.dst, .int .i64 o.la, .int .i64 o.nr, .sl 0 6 (o.tu.map Box6.row), .int .i64 o.wi, .sl 0 6 (o.nx.map Box6.row), .sl 0 1 (o.gr.map JJ), .bool o.sent])]⟩ := by
  cases c
  all_goals (unfold YD; simp (maxSteps := 2000000) only [bitvec_to_nat, reduceIte, Nat.reduceEqDiff, Nat.reduceAdd, Nat.reduceLeDiff, reduceCtorEq, Nat.reduceBEq, Nat.reduceLT, Nat.reduceMod, fmc, Gb, int_toBitVec_meta, Own.row, QK, Seen.row, Qy, Part.row, Qz, Book.row])
  repeat' (first | with_reducible apply And.intro | with_reducible intro _)
  all_goals first
    | omega
    | (refine hQ _ ?_
       first
         | grind []
         | (simp; grind []))
    | grind []
set_option maxHeartbeats 400000 in
theorem QaN (o : Own) (wh : List ByteArray) (i k : Nat) (c : Bool) {w23 : AV} {Q : XT → St → Prop} (hi : i < o.gr.length) (hl : o.gr.length ≤ 1048576) (hQ : ∀ bv : Bool, (bv = true ↔ ¬ (c = true ∧ (0 < i → slt (o.gr.getD (i - 1) default) (o.gr.getD i default)))) → Q .normal ⟨[(3, .ptr 103 0), (5, .sl 0 1 (wh.map JJ)), (6, .int .i64 i), (58, .bool bv)], [(103, .box [.str o.fl, .int .i64 o.st, .int .i64 o.tn, .str o.dst, .int .i64 o.la, .int .i64 o.nr, .sl 0 6 (o.tu.map Box6.row), .int .i64 o.wi, .sl 0 6 (o.nx.map Box6.row), .sl 0 1 (o.gr.map JJ), .bool o.sent])]⟩) : SCode.wp ((Env.nil P).add 81 Gb Qkx) YE Q ⟨[(3, .ptr 103 0), (5, .sl 0 1 (wh.map JJ)), (6, .int .i64 i), (7, .bool c), (8, .int .i64 k), (23, w23)], [(103, .box [.str o.fl, .int .i64 o.st, .int .i64 o.tn, .str o.dst, .int .i64 o.la, .int .i64 o.nr, .sl 0 6 (o.tu.map Box6.row), .int .i64 o.wi, .sl 0 6 (o.nx.map Box6.row), .sl 0 1 (o.gr.map JJ), .bool o.sent])]⟩ := by
  cases c
  all_goals (unfold YE; simp (maxSteps := 2000000) only [bitvec_to_nat, reduceIte, Nat.reduceEqDiff, Nat.reduceAdd, Nat.reduceLeDiff, reduceCtorEq, Nat.reduceBEq, Nat.reduceLT, Nat.reduceMod, fmc, Gb, int_toBitVec_meta, Own.row, QK, Seen.row, Qy, Part.row, Qz, Book.row])
  repeat' (first | with_reducible apply And.intro | with_reducible intro _)
  all_goals first
    | omega
    | (refine hQ _ ?_
       first
         | grind []
         | (simp; grind []))
    | grind []
set_option maxHeartbeats 400000 in
theorem QaO (o : Own) (wh : List ByteArray) (i k : Nat) (c : Bool) {w17 : AV} {Q : XT → St → Prop}  (hQ : ∀ bv : Bool, (bv = true ↔ (o.sent = true ↔ 0 < o.wi ∧ o.gr.length = wh.length)) → Q .normal ⟨[(4, .bool bv)], [(103, .box [.str o.fl, .int .i64 o.st, .int .i64 o.tn, .str o.dst, .int .i64 o.la, .int .i64 o.nr, .sl 0 6 (o.tu.map Box6.row), .int .i64 o.wi, .sl 0 6 (o.nx.map Box6.row), .sl 0 1 (o.gr.map JJ), .bool o.sent])]⟩) : SCode.wp ((Env.nil P).add 81 Gb Qkx) YF Q ⟨[(3, .ptr 103 0), (5, .sl 0 1 (wh.map JJ)), (6, .int .i64 i), (17, w17)], [(103, .box [.str o.fl, .int .i64 o.st, .int .i64 o.tn, .str o.dst, .int .i64 o.la, .int .i64 o.nr, .sl 0 6 (o.tu.map Box6.row), .int .i64 o.wi, .sl 0 6 (o.nx.map Box6.row), .sl 0 1 (o.gr.map JJ), .bool o.sent])]⟩ := by
  all_goals (unfold YF; simp (maxSteps := 2000000) only [bitvec_to_nat, reduceIte, Nat.reduceEqDiff, Nat.reduceAdd, Nat.reduceLeDiff, reduceCtorEq, Nat.reduceBEq, Nat.reduceLT, Nat.reduceMod, fmc, Gb, int_toBitVec_meta, Own.row, QK, Seen.row, Qy, Part.row, Qz, Book.row])
  repeat' (first | with_reducible apply And.intro | with_reducible intro _)
  all_goals first
    | omega
    | (refine hQ _ ?_
       first
         | grind []
         | (simp; grind []))
    | grind []
theorem QnA (t : Nat) (zs : List Zone) (o : Own) (hq : Q5 zs) (ho : o.small) (hz : zs.length ≤ 4294967295) : Contract P 135 [.sl t 5 (zs.map Zone.row), .agg (o.row 0)] [] (.bool (decide (Qhi zs o))) [] := by
  unfold Own.small at ho
  have hw := QoZ zs o.nx
  simp only [Own.row]
  refine Qh ((Env.nil P).add 81 Gb Qkx) hm Qcx (nlb rfl) rfl ?_; unfold Uu; simp (maxSteps := 2000000) only [bitvec_to_nat, reduceIte, Nat.reduceEqDiff, Nat.reduceAdd, Nat.reduceLeDiff, reduceCtorEq, Nat.reduceBEq, Nat.reduceLT, Nat.reduceMod, fmc, Gb, int_toBitVec_meta, Own.row, QK, Seen.row, Qy, Part.row, Qz, Book.row]
  refine ⟨⟨hz, by omega⟩, ?_⟩
  refine QH (fun i : Nat => [(6, .int .i64 i)]) (fun _ => []) (fun i => i ≤ o.gr.length ∧ ∀ j, j < i → QnQ (Kd zs o.nx) o.gr j) (fun i => o.gr.length - i) (0) (by simp only [Ju, Jv, Jw, Jx, Qi, Qj, Qk, Ql, reduceIte, Nat.reduceEqDiff]; exact ⟨by repeat' (first | exact trivial | refine ⟨.inr rfl, ?_⟩), by repeat' (first | exact trivial | refine ⟨rfl, ?_⟩), by first | rfl | simp [closedB, Qc, Qb, Qd, dom, Qa, *], by first | rfl | simp [keepB, dom]⟩) ?_ ?_
  · exact ⟨Nat.zero_le _, by intro j hj; omega⟩
  intro i hi NX hN
  unfold XV; simp (maxSteps := 2000000) only [bitvec_to_nat, reduceIte, Nat.reduceEqDiff, Nat.reduceAdd, Nat.reduceLeDiff, reduceCtorEq, Nat.reduceBEq, Nat.reduceLT, Nat.reduceMod, fmc, Gb, int_toBitVec_meta, Own.row, QK, Seen.row, Qy, Part.row, Qz, Book.row]
  refine ⟨fun g1 => ?_, fun g1 => ?_⟩
  · refine QH (fun a : Nat × Bool => [(7, .bool a.2), (8, .int .i64 a.1)]) (fun _ => []) (fun a => a.1 ≤ (Kd zs o.nx).length ∧ (a.2 = true ↔ ∃ k, k < a.1 ∧ (Kd zs o.nx).getD k default = o.gr.getD i default)) (fun a => (Kd zs o.nx).length - a.1) ((0, false)) (by simp only [Ju, Jv, Jw, Jx, Qi, Qj, Qk, Ql, reduceIte, Nat.reduceEqDiff]; exact ⟨by repeat' (first | exact trivial | refine ⟨.inr rfl, ?_⟩), by repeat' (first | exact trivial | refine ⟨rfl, ?_⟩), by first | rfl | simp [closedB, Qc, Qb, Qd, dom, Qa, *], by first | rfl | simp [keepB, dom]⟩) ?_ ?_
    · exact ⟨Nat.zero_le _, by simp⟩
    rintro ⟨k, c⟩ hk NX2 hN2
    unfold XU; simp (maxSteps := 2000000) only [bitvec_to_nat, reduceIte, Nat.reduceEqDiff, Nat.reduceAdd, Nat.reduceLeDiff, reduceCtorEq, Nat.reduceBEq, Nat.reduceLT, Nat.reduceMod, fmc, Gb, int_toBitVec_meta, Own.row, QK, Seen.row, Qy, Part.row, Qz, Book.row]
    simp only at hk
    refine ⟨fun g2 => ?_, fun g2 => ?_⟩
    · refine QaM o (Kd zs o.nx) i k c (by omega) (by omega) fun bv hbv => ?_
      simp (maxSteps := 2000000) only [bitvec_to_nat, reduceIte, Nat.reduceEqDiff, Nat.reduceAdd, Nat.reduceLeDiff, reduceCtorEq, Nat.reduceBEq, Nat.reduceLT, Nat.reduceMod, fmc, Gb, int_toBitVec_meta, Own.row, QK, Seen.row, Qy, Part.row, Qz, Book.row]
      refine ⟨by omega, ?_⟩
      refine hN2 ((k + 1, bv)) _ (by simp only [Ju, Jv, Jw, Jx, Qi, Qj, Qk, Ql, reduceIte, Nat.reduceEqDiff]; exact ⟨by repeat' (first | exact trivial | refine ⟨.inr rfl, ?_⟩), by repeat' (first | exact trivial | refine ⟨rfl, ?_⟩), by first | rfl | simp [closedB, Qc, Qb, Qd, dom, Qa, *], by first | rfl | simp [keepB, dom]⟩) ?_ ?_
      · refine ⟨by simp only; omega, ?_⟩
        rw [hbv, hk.2]
        constructor
        · rintro (⟨j, h1, h2⟩ | h)
          · exact ⟨j, by simp only; omega, h2⟩
          · exact ⟨k, by simp only; omega, h⟩
        · rintro ⟨j, h1, h2⟩
          simp only at h1
          by_cases e : j = k
          · subst e; exact .inr h2
          · exact .inl ⟨j, by omega, h2⟩
      · simp only; omega
    · have hc : c = true ↔ o.gr.getD i default ∈ Kd zs o.nx := by
        rw [hk.2]
        constructor
        · rintro ⟨j, h1, h2⟩
          rw [← h2]
          have h3 : j < (Kd zs o.nx).length := by omega
          rw [List.getD_eq_getElem?_getD, List.getElem?_eq_getElem h3]; simp
        · intro h
          obtain ⟨j, h1, h2⟩ := List.mem_iff_getElem.1 h
          exact ⟨j, by omega, by simp [h1, h2]⟩
      refine QaN o (Kd zs o.nx) i k c (by omega) (by omega) fun bv hbv => ?_
      rw [hc] at hbv
      cases bv
      case true =>
        simp (maxSteps := 2000000) only [bitvec_to_nat, reduceIte, Nat.reduceEqDiff, Nat.reduceAdd, Nat.reduceLeDiff, reduceCtorEq, Nat.reduceBEq, Nat.reduceLT, Nat.reduceMod, fmc, Gb, int_toBitVec_meta, Own.row, QK, Seen.row, Qy, Part.row, Qz, Book.row]
        exact fun hq => (hbv.1 rfl) (hq.1 i (by omega))
      have o1 : QnQ (Kd zs o.nx) o.gr i := Classical.not_not.1 fun h => Bool.noConfusion (hbv.2 h)
      simp (maxSteps := 2000000) only [bitvec_to_nat, reduceIte, Nat.reduceEqDiff, Nat.reduceAdd, Nat.reduceLeDiff, reduceCtorEq, Nat.reduceBEq, Nat.reduceLT, Nat.reduceMod, fmc, Gb, int_toBitVec_meta, Own.row, QK, Seen.row, Qy, Part.row, Qz, Book.row]
      refine ⟨by omega, ?_⟩
      refine hN (i + 1) _ (by simp only [Ju, Jv, Jw, Jx, Qi, Qj, Qk, Ql, reduceIte, Nat.reduceEqDiff]; exact ⟨by repeat' (first | exact trivial | refine ⟨.inr rfl, ?_⟩), by repeat' (first | exact trivial | refine ⟨rfl, ?_⟩), by first | rfl | simp [closedB, Qc, Qb, Qd, dom, Qa, *], by first | rfl | simp [keepB, dom]⟩) ?_ ?_
      · exact ⟨by omega, Jf hi.2 o1⟩
      · omega
  · have hall : ∀ j, j < o.gr.length → QnQ (Kd zs o.nx) o.gr j := fun j hj => hi.2 j (by omega)
    refine QaO o (Kd zs o.nx) i 0 false fun bv hbv => ?_
    rw [Qtw (Qtv hq o.nx) hall] at hbv
    simp (maxSteps := 2000000) only [bitvec_to_nat, reduceIte, Nat.reduceEqDiff, Nat.reduceAdd, Nat.reduceLeDiff, reduceCtorEq, Nat.reduceBEq, Nat.reduceLT, Nat.reduceMod, fmc, Gb, int_toBitVec_meta, Own.row, QK, Seen.row, Qy, Part.row, Qz, Book.row]
    have : (Qhi zs o ↔ bv = true) := by
      rw [hbv]; unfold Qhi
      exact ⟨fun h => h.2, fun h => ⟨hall, h⟩⟩
    simp [this]
def J7 : List AV → Option (Prop × AV)
  | [.sl zst 5 zsx, .agg [.str o_fl, .int .i64 o_st, .int .i64 o_tn, .str o_dst, .int .i64 o_la, .int .i64 o_nr, .sl 0 6 o_tu, .int .i64 o_wi, .sl 0 6 o_nx, .sl 0 1 o_gr, .bool o_sent]] => some ((((zsx.map QB).map Zone.row = zsx) ∧ ((o_tu.map QD).map Box6.row = o_tu) ∧ ((o_nx.map QD).map Box6.row = o_nx) ∧ ((o_gr.map unS).map JJ = o_gr)) ∧ (Q5 (zsx.map QB) ∧ Own.small (Own.mk o_fl o_st o_tn o_dst o_la o_nr (o_tu.map QD) o_wi (o_nx.map QD) (o_gr.map unS) o_sent) ∧ (zsx.map QB).length ≤ 4294967295), .bool (decide (Qhi (zsx.map QB) (Own.mk o_fl o_st o_tn o_dst o_la o_nr (o_tu.map QD) o_wi (o_nx.map QD) (o_gr.map unS) o_sent))))
  | _ => none
theorem QbP : ∀ args p v, J7 args = some (p, v) → p → Contract P 135 args [] v [] ∧ noref v = true ∧ No99 v := by
  intro args p v h1 h2
  unfold J7 at h1
  split at h1
  · rename_i zst zsx o_fl o_st o_tn o_dst o_la o_nr o_tu o_wi o_nx o_gr o_sent
    cases h1
    obtain ⟨⟨e0, e1, e2, e3⟩, HP⟩ := h2
    have := QnA zst (zsx.map QB) (Own.mk o_fl o_st o_tn o_dst o_la o_nr (o_tu.map QD) o_wi (o_nx.map QD) (o_gr.map unS) o_sent) HP.1 HP.2.1 HP.2.2
    exact ⟨by simpa only [e0, e1, e2, e3, Own.row] using this, rfl, trivial⟩
  · cases h1
end
end Go.Ve

namespace Go.Ve
noncomputable section
open Go.Proofs
set_option maxRecDepth 100000
set_option maxHeartbeats 400000 in
theorem Qdr (t : Nat) (zs : List Zone) (o : Own) {Q : XT → St → Prop}  (hQ : ∀ bv : Bool, (bv = true ↔ ¬ QaB zs o) → Q .normal ⟨[(0, .sl t 5 (zs.map Zone.row)), (3, .ptr 103 0), (54, .bool bv)], [(103, .box [.str o.fl, .int .i64 o.st, .int .i64 o.tn, .str o.dst, .int .i64 o.la, .int .i64 o.nr, .sl 0 6 (o.tu.map Box6.row), .int .i64 o.wi, .sl 0 6 (o.nx.map Box6.row), .sl 0 1 (o.gr.map JJ), .bool o.sent])]⟩) : SCode.wp ((((((Env.nil P).add 70 QQ Ya).add 80 Je Gr).add 36 Jp Uv).add 134 Gs Qji).add 135 J7 QbP) XA Q ⟨[(0, .sl t 5 (zs.map Zone.row)), (3, .ptr 103 0)], [(103, .box [.str o.fl, .int .i64 o.st, .int .i64 o.tn, .str o.dst, .int .i64 o.la, .int .i64 o.nr, .sl 0 6 (o.tu.map Box6.row), .int .i64 o.wi, .sl 0 6 (o.nx.map Box6.row), .sl 0 1 (o.gr.map JJ), .bool o.sent])]⟩ := by
  all_goals (unfold XA; simp (maxSteps := 2000000) only [bitvec_to_nat, reduceIte, Nat.reduceEqDiff, Nat.reduceAdd, Nat.reduceLeDiff, reduceCtorEq, Nat.reduceBEq, Nat.reduceLT, Nat.reduceMod, fmc, QQ, Je, Jp, Gs, J7, int_toBitVec_meta, Own.row, QK, Seen.row, Qy, Part.row, Qz, Book.row])
  repeat' (first | with_reducible apply And.intro | with_reducible intro _)
  all_goals first
    | omega
    | (refine hQ _ ?_
       first
         | grind [QaB]
         | (simp; grind [QaB]))
    | grind [QaB]
set_option maxHeartbeats 400000 in
theorem Qds (t : Nat) (zs : List Zone) (o : Own) {w54 : AV} {Q : XT → St → Prop} (hz : zs.length ≤ 4294967295) (hw : 0 ≤ o.wi) (hQ : ∀ bv : Bool, (bv = true ↔ ¬ ((o.st = 1 ↔ o.dst = ⟨#[]⟩) ∧ (o.st ≠ 1 → 0 ≤ zAt zs o.dst) ∧ (o.st ≠ 1 → o.wi = 0) ∧ (o.st = 2 → o.nr ≠ 0))) → Q .normal ⟨[(0, .sl t 5 (zs.map Zone.row)), (3, .ptr 103 0), (93, .bool bv)], [(103, .box [.str o.fl, .int .i64 o.st, .int .i64 o.tn, .str o.dst, .int .i64 o.la, .int .i64 o.nr, .sl 0 6 (o.tu.map Box6.row), .int .i64 o.wi, .sl 0 6 (o.nx.map Box6.row), .sl 0 1 (o.gr.map JJ), .bool o.sent])]⟩) : SCode.wp ((((((Env.nil P).add 70 QQ Ya).add 80 Je Gr).add 36 Jp Uv).add 134 Gs Qji).add 135 J7 QbP) XB Q ⟨[(0, .sl t 5 (zs.map Zone.row)), (3, .ptr 103 0), (54, w54)], [(103, .box [.str o.fl, .int .i64 o.st, .int .i64 o.tn, .str o.dst, .int .i64 o.la, .int .i64 o.nr, .sl 0 6 (o.tu.map Box6.row), .int .i64 o.wi, .sl 0 6 (o.nx.map Box6.row), .sl 0 1 (o.gr.map JJ), .bool o.sent])]⟩ := by
  all_goals (unfold XB; simp (maxSteps := 2000000) only [bitvec_to_nat, reduceIte, Nat.reduceEqDiff, Nat.reduceAdd, Nat.reduceLeDiff, reduceCtorEq, Nat.reduceBEq, Nat.reduceLT, Nat.reduceMod, fmc, QQ, Je, Jp, Gs, J7, int_toBitVec_meta, Own.row, QK, Seen.row, Qy, Part.row, Qz, Book.row])
  repeat' (first | with_reducible apply And.intro | with_reducible intro _)
  all_goals first
    | omega
    | (refine hQ _ ?_
       first
         | grind []
         | (simp; grind []))
    | grind []
set_option maxHeartbeats 400000 in
theorem Qdt (t : Nat) (zs : List Zone) (o : Own) {w93 : AV} {Q : XT → St → Prop} (hq : Q5 zs) (hz : zs.length ≤ 4294967295) (h1 : o.tu.length ≤ 1048576) (h2 : o.nx.length ≤ 1048576) (h3 : o.small) (hQ : ∀ bv : Bool, (bv = true ↔ (Qdp zs o ∧ Qhi zs o)) → Q .normal ⟨[(4, .bool bv)], [(103, .box [.str o.fl, .int .i64 o.st, .int .i64 o.tn, .str o.dst, .int .i64 o.la, .int .i64 o.nr, .sl 0 6 (o.tu.map Box6.row), .int .i64 o.wi, .sl 0 6 (o.nx.map Box6.row), .sl 0 1 (o.gr.map JJ), .bool o.sent])]⟩) : SCode.wp ((((((Env.nil P).add 70 QQ Ya).add 80 Je Gr).add 36 Jp Uv).add 134 Gs Qji).add 135 J7 QbP) XC Q ⟨[(0, .sl t 5 (zs.map Zone.row)), (3, .ptr 103 0), (93, w93)], [(103, .box [.str o.fl, .int .i64 o.st, .int .i64 o.tn, .str o.dst, .int .i64 o.la, .int .i64 o.nr, .sl 0 6 (o.tu.map Box6.row), .int .i64 o.wi, .sl 0 6 (o.nx.map Box6.row), .sl 0 1 (o.gr.map JJ), .bool o.sent])]⟩ := by
  all_goals (unfold XC; simp (maxSteps := 2000000) only [bitvec_to_nat, reduceIte, Nat.reduceEqDiff, Nat.reduceAdd, Nat.reduceLeDiff, reduceCtorEq, Nat.reduceBEq, Nat.reduceLT, Nat.reduceMod, fmc, QQ, Je, Jp, Gs, J7, int_toBitVec_meta, Own.row, QK, Seen.row, Qy, Part.row, Qz, Book.row])
  repeat' (first | with_reducible apply And.intro | with_reducible intro _)
  all_goals first
    | omega
    | (refine hQ _ ?_
       first
         | grind [Qdp]
         | (simp; grind [Qdp]))
    | grind [Qdp]
theorem Qqw (t : Nat) (zs : List Zone) (o : Own) (hq : Q5 zs) (ho : o.small) (hz : zs.length ≤ 4294967295) : Contract P 106 [.sl t 5 (zs.map Zone.row), .agg (o.row 0)] [] (.bool (decide (Qls zs o))) [] := by
  have ho' := ho
  unfold Own.small at ho
  simp only [Own.row]
  refine Qh ((((((Env.nil P).add 70 QQ Ya).add 80 Je Gr).add 36 Jp Uv).add 134 Gs Qji).add 135 J7 QbP) hm Qg2 (nlb rfl) rfl ?_; unfold Qa8; simp (maxSteps := 2000000) only [bitvec_to_nat, reduceIte, Nat.reduceEqDiff, Nat.reduceAdd, Nat.reduceLeDiff, reduceCtorEq, Nat.reduceBEq, Nat.reduceLT, Nat.reduceMod, fmc, QQ, Je, Jp, Gs, J7, int_toBitVec_meta, Own.row, QK, Seen.row, Qy, Part.row, Qz, Book.row]
  refine Qdr t zs o fun bv hbv => ?_
  cases bv
  case true =>
    simp (maxSteps := 2000000) only [bitvec_to_nat, reduceIte, Nat.reduceEqDiff, Nat.reduceAdd, Nat.reduceLeDiff, reduceCtorEq, Nat.reduceBEq, Nat.reduceLT, Nat.reduceMod, fmc, QQ, Je, Jp, Gs, J7, int_toBitVec_meta, Own.row, QK, Seen.row, Qy, Part.row, Qz, Book.row]
    exact fun h => (hbv.1 rfl) h.1
  have o1 := Classical.not_not.1 fun h => Bool.noConfusion (hbv.2 h)
  simp (maxSteps := 2000000) only [bitvec_to_nat, reduceIte, Nat.reduceEqDiff, Nat.reduceAdd, Nat.reduceLeDiff, reduceCtorEq, Nat.reduceBEq, Nat.reduceLT, Nat.reduceMod, fmc, QQ, Je, Jp, Gs, J7, int_toBitVec_meta, Own.row, QK, Seen.row, Qy, Part.row, Qz, Book.row]
  refine Qds t zs o hz (by unfold QaB at o1; omega) fun bv hbv => ?_
  cases bv
  case true =>
    simp (maxSteps := 2000000) only [bitvec_to_nat, reduceIte, Nat.reduceEqDiff, Nat.reduceAdd, Nat.reduceLeDiff, reduceCtorEq, Nat.reduceBEq, Nat.reduceLT, Nat.reduceMod, fmc, QQ, Je, Jp, Gs, J7, int_toBitVec_meta, Own.row, QK, Seen.row, Qy, Part.row, Qz, Book.row]
    exact fun h => (hbv.1 rfl) h.2.1
  have o2 : QrA zs o := Classical.not_not.1 fun h => Bool.noConfusion (hbv.2 h)
  simp (maxSteps := 2000000) only [bitvec_to_nat, reduceIte, Nat.reduceEqDiff, Nat.reduceAdd, Nat.reduceLeDiff, reduceCtorEq, Nat.reduceBEq, Nat.reduceLT, Nat.reduceMod, fmc, QQ, Je, Jp, Gs, J7, int_toBitVec_meta, Own.row, QK, Seen.row, Qy, Part.row, Qz, Book.row]
  refine Qdt t zs o hq hz ho.1 ho.2.1 ho' fun bv hbv => ?_
  simp (maxSteps := 2000000) only [bitvec_to_nat, reduceIte, Nat.reduceEqDiff, Nat.reduceAdd, Nat.reduceLeDiff, reduceCtorEq, Nat.reduceBEq, Nat.reduceLT, Nat.reduceMod, fmc, QQ, Je, Jp, Gs, J7, int_toBitVec_meta, Own.row, QK, Seen.row, Qy, Part.row, Qz, Book.row]
  have : Qls zs o ↔ bv = true := by rw [hbv]; exact ⟨fun h => h.2.2, fun h => ⟨o1, o2, h⟩⟩
  simp [this]
def Qdu : List AV → Option (Prop × AV)
  | [.sl zst 5 zsx, .agg [.str o_fl, .int .i64 o_st, .int .i64 o_tn, .str o_dst, .int .i64 o_la, .int .i64 o_nr, .sl 0 6 o_tu, .int .i64 o_wi, .sl 0 6 o_nx, .sl 0 1 o_gr, .bool o_sent]] => some ((((zsx.map QB).map Zone.row = zsx) ∧ ((o_tu.map QD).map Box6.row = o_tu) ∧ ((o_nx.map QD).map Box6.row = o_nx) ∧ ((o_gr.map unS).map JJ = o_gr)) ∧ (Q5 (zsx.map QB) ∧ Own.small (Own.mk o_fl o_st o_tn o_dst o_la o_nr (o_tu.map QD) o_wi (o_nx.map QD) (o_gr.map unS) o_sent) ∧ (zsx.map QB).length ≤ 4294967295), .bool (decide (Qls (zsx.map QB) (Own.mk o_fl o_st o_tn o_dst o_la o_nr (o_tu.map QD) o_wi (o_nx.map QD) (o_gr.map unS) o_sent))))
  | _ => none
theorem Qqx : ∀ args p v, Qdu args = some (p, v) → p → Contract P 106 args [] v [] ∧ noref v = true ∧ No99 v := by
  intro args p v h1 h2
  unfold Qdu at h1
  split at h1
  · rename_i zst zsx o_fl o_st o_tn o_dst o_la o_nr o_tu o_wi o_nx o_gr o_sent
    cases h1
    obtain ⟨⟨e0, e1, e2, e3⟩, HP⟩ := h2
    have := Qqw zst (zsx.map QB) (Own.mk o_fl o_st o_tn o_dst o_la o_nr (o_tu.map QD) o_wi (o_nx.map QD) (o_gr.map unS) o_sent) HP.1 HP.2.1 HP.2.2
    exact ⟨by simpa only [e0, e1, e2, e3, Own.row] using this, rfl, trivial⟩
  · cases h1
theorem Qo2 (t : Nat) (zs : List Zone) (b : Book) (hq : Q5 zs) (hb : b.small) (hz : zs.length ≤ 4294967295) : Contract P 78 [.sl t 5 (zs.map Zone.row), .agg (b.row 0)] [] (.bool (decide (QiI zs b.own))) [] := by
  have hb1 := hb.1.1
  simp only [Book.row]
  refine Qh ((Env.nil P).add 106 Qdu Qqx) hm QfO (nlb rfl) rfl ?_; unfold Qao; simp (maxSteps := 2000000) only [bitvec_to_nat, reduceIte, Nat.reduceEqDiff, Nat.reduceAdd, Nat.reduceLeDiff, reduceCtorEq, Nat.reduceBEq, Nat.reduceLT, Nat.reduceMod, fmc, Qdu, int_toBitVec_meta, Own.row, QK, Seen.row, Qy, Part.row, Qz, Book.row]
  refine ⟨fun h1 h => by have := h.1; omega, fun h1 => ?_⟩
  · refine QH (fun i : Nat => [(5, .int .i64 i)]) (fun _ => []) (fun i => i ≤ b.own.length ∧ ∀ j, j < i → Qlt zs b.own j) (fun i => b.own.length - i) (0) (by simp only [Ju, Jv, Jw, Jx, Qi, Qj, Qk, Ql, reduceIte, Nat.reduceEqDiff]; exact ⟨by repeat' (first | exact trivial | refine ⟨.inr rfl, ?_⟩), by repeat' (first | exact trivial | refine ⟨rfl, ?_⟩), by first | rfl | simp [closedB, Qc, Qb, Qd, dom, Qa, *], by first | rfl | simp [keepB, dom]⟩) ?_ ?_
    · exact ⟨Nat.zero_le _, by intro j hj; omega⟩
    intro i hi NX hN
    unfold U5; simp (maxSteps := 2000000) only [bitvec_to_nat, reduceIte, Nat.reduceEqDiff, Nat.reduceAdd, Nat.reduceLeDiff, reduceCtorEq, Nat.reduceBEq, Nat.reduceLT, Nat.reduceMod, fmc, Qdu, int_toBitVec_meta, Own.row, QK, Seen.row, Qy, Part.row, Qz, Book.row]
    have hs : i < b.own.length → (b.own.getD i default).small := fun h => Book.small_own hb h
    have A : QiI zs b.own → i < b.own.length → Qlt zs b.own i := fun h h2 => h.2 i h2
    unfold Qlt at A
    repeat' (first | with_reducible apply And.intro | with_reducible intro _)
    all_goals first
      | with_reducible assumption
      | omega
      | (exact hs (by omega))
      | (refine hN (i + 1) _ (by simp only [Ju, Jv, Jw, Jx, Qi, Qj, Qk, Ql, reduceIte, Nat.reduceEqDiff]; exact ⟨by repeat' (first | exact trivial | refine ⟨.inr rfl, ?_⟩), by repeat' (first | exact trivial | refine ⟨rfl, ?_⟩), by first | rfl | simp [closedB, Qc, Qb, Qd, dom, Qa, *], by first | rfl | simp [keepB, dom]⟩) ?_ ?_
         · exact ⟨by omega, Jf hi.2 ⟨by assumption, fun _ => by first | assumption | omega⟩⟩
         · omega)
      | (intro hq2; have := A hq2 (by omega); grind)
      | exact ⟨by omega, fun j hj => hi.2 j (by omega)⟩
def Qbq : List AV → Option (Prop × AV)
  | [.sl zst 5 zsx, .agg [.sl 0 11 b_own, .sl 0 3 b_parts, .sl 0 2 b_seen]] => some ((((zsx.map QB).map Zone.row = zsx) ∧ ((b_own.map JC).map (Own.row 0) = b_own) ∧ ((b_parts.map Q9).map (Part.row 0) = b_parts) ∧ ((b_seen.map Jc).map Seen.row = b_seen)) ∧ (Q5 (zsx.map QB) ∧ Book.small (Book.mk (b_own.map JC) (b_parts.map Q9) (b_seen.map Jc)) ∧ (zsx.map QB).length ≤ 4294967295), .bool (decide (QiI (zsx.map QB) (Book.mk (b_own.map JC) (b_parts.map Q9) (b_seen.map Jc)).own)))
  | _ => none
theorem Qo3 : ∀ args p v, Qbq args = some (p, v) → p → Contract P 78 args [] v [] ∧ noref v = true ∧ No99 v := by
  intro args p v h1 h2
  unfold Qbq at h1
  split at h1
  · rename_i zst zsx b_own b_parts b_seen
    cases h1
    obtain ⟨⟨e0, e1, e2, e3⟩, HP⟩ := h2
    have := Qo2 zst (zsx.map QB) (Book.mk (b_own.map JC) (b_parts.map Q9) (b_seen.map Jc)) HP.1 HP.2.1 HP.2.2
    exact ⟨by simpa only [e0, e1, e2, e3, Book.row] using this, rfl, trivial⟩
  · cases h1
theorem Qo4 (a p : Part) (hp : True) : Contract P 108 [.agg (a.row 0), .agg (p.row 0)] [] (.bool (decide (a.before p))) [] := by
  simp only [Part.row]
  refine Qh (Env.nil P) hm QfR (nlb rfl) rfl ?_; unfold Qau; simp (maxSteps := 2000000) only [bitvec_to_nat, reduceIte, Nat.reduceEqDiff, Nat.reduceAdd, Nat.reduceLeDiff, reduceCtorEq, Nat.reduceBEq, Nat.reduceLT, Nat.reduceMod, fmc, int_toBitVec_meta, Own.row, QK, Seen.row, Qy, Part.row, Qz, Book.row]
  simp only [Part.before]
  repeat' (first | with_reducible apply And.intro | with_reducible intro _)
  all_goals first | omega | grind
def KN : List AV → Option (Prop × AV)
  | [.agg [.str c_fl, .int .i64 c_nr, .sl 0 6 c_bx], .agg [.str d_fl, .int .i64 d_nr, .sl 0 6 d_bx]] => some ((((c_bx.map QD).map Box6.row = c_bx) ∧ ((d_bx.map QD).map Box6.row = d_bx)) ∧ (True), .bool (decide (Part.before (Part.mk c_fl c_nr (c_bx.map QD)) (Part.mk d_fl d_nr (d_bx.map QD)))))
  | _ => none
theorem Qhl : ∀ args p v, KN args = some (p, v) → p → Contract P 108 args [] v [] ∧ noref v = true ∧ No99 v := by
  intro args p v h1 h2
  unfold KN at h1
  split at h1
  · rename_i c_fl c_nr c_bx d_fl d_nr d_bx
    cases h1
    obtain ⟨⟨e0, e1⟩, HP⟩ := h2
    have := Qo4 (Part.mk c_fl c_nr (c_bx.map QD)) (Part.mk d_fl d_nr (d_bx.map QD)) HP
    exact ⟨by simpa only [e0, e1, Part.row, Part.row] using this, rfl, trivial⟩
  · cases h1
set_option maxHeartbeats 1000000 in
theorem Qb1 (t : Nat) (zs : List Zone) (b : Book) (p : Part) (i k : Nat) {Q : XT → St → Prop} (hq : Q5 zs) (hz : zs.length ≤ 4294967295) (hs : b.seen.length ≤ 1048576) (hl : p.bx.length ≤ 1048576) (hi : i < b.parts.length) (hp : b.parts.length ≤ 1048576) (hQ : ∀ bv : Bool, (bv = true ↔ ¬ (XQ p.fl ∧ (1 ≤ p.nr ∧ p.nr ≤ Qbn b.seen p.fl) ∧ tubeOk zs p.bx ∧ (0 < i → (b.parts.getD (i - 1) default).before p))) → Q .normal ⟨[(0, .sl t 5 (zs.map Zone.row)), (3, .ptr 103 0), (5, .int .i64 i), (6, .ptr 106 0), (59, .bool bv)], [(103, .box [.sl 0 11 (b.own.map (Own.row 0)), .sl 0 3 (b.parts.map (Part.row 0)), .sl 0 2 (b.seen.map Seen.row)]), (106, .box [.str p.fl, .int .i64 p.nr, .sl 0 6 (p.bx.map Box6.row)])]⟩) : SCode.wp (((((((Env.nil P).add 70 QQ Ya).add 80 Je Gr).add 65 JK WT).add 107 GN Qlr).add 108 KN Qhl).add 109 GM Qlp) Gp Q ⟨[(0, .sl t 5 (zs.map Zone.row)), (3, .ptr 103 0), (5, .int .i64 i), (6, .ptr 106 0)], [(103, .box [.sl 0 11 (b.own.map (Own.row 0)), .sl 0 3 (b.parts.map (Part.row 0)), .sl 0 2 (b.seen.map Seen.row)]), (106, .box [.str p.fl, .int .i64 p.nr, .sl 0 6 (p.bx.map Box6.row)])]⟩ := by
  all_goals (unfold Gp; simp (maxSteps := 2000000) only [bitvec_to_nat, reduceIte, Nat.reduceEqDiff, Nat.reduceAdd, Nat.reduceLeDiff, reduceCtorEq, Nat.reduceBEq, Nat.reduceLT, Nat.reduceMod, fmc, QQ, Je, JK, GN, KN, GM, int_toBitVec_meta, Own.row, QK, Seen.row, Qy, Part.row, Qz, Book.row])
  repeat' (first | with_reducible apply And.intro | with_reducible intro _)
  all_goals first
    | omega
    | (refine hQ _ ?_
       first
         | grind []
         | (simp; grind []))
    | grind []
set_option maxHeartbeats 400000 in
theorem Qb2 (t : Nat) (zs : List Zone) (b : Book) (p : Part) (i k : Nat) {w62 : AV} {Q : XT → St → Prop} (hk : k < b.parts.length) (hl : p.bx.length ≤ 1048576) (hl2 : (b.parts.getD k default).bx.length ≤ 1048576) (hQ : ∀ bv : Bool, (bv = true ↔ ((b.parts.getD k default).fl ≠ p.fl ∧ Qdo (b.parts.getD k default).bx p.bx)) → Q .normal ⟨[(0, .sl t 5 (zs.map Zone.row)), (3, .ptr 103 0), (5, .int .i64 i), (6, .ptr 106 0), (7, .int .i64 k), (84, .bool bv)], [(103, .box [.sl 0 11 (b.own.map (Own.row 0)), .sl 0 3 (b.parts.map (Part.row 0)), .sl 0 2 (b.seen.map Seen.row)]), (106, .box [.str p.fl, .int .i64 p.nr, .sl 0 6 (p.bx.map Box6.row)])]⟩) : SCode.wp (((((((Env.nil P).add 70 QQ Ya).add 80 Je Gr).add 65 JK WT).add 107 GN Qlr).add 108 KN Qhl).add 109 GM Qlp) Gq Q ⟨[(0, .sl t 5 (zs.map Zone.row)), (3, .ptr 103 0), (5, .int .i64 i), (6, .ptr 106 0), (7, .int .i64 k), (62, w62)], [(103, .box [.sl 0 11 (b.own.map (Own.row 0)), .sl 0 3 (b.parts.map (Part.row 0)), .sl 0 2 (b.seen.map Seen.row)]), (106, .box [.str p.fl, .int .i64 p.nr, .sl 0 6 (p.bx.map Box6.row)])]⟩ := by
  all_goals (unfold Gq; simp (maxSteps := 2000000) only [bitvec_to_nat, reduceIte, Nat.reduceEqDiff, Nat.reduceAdd, Nat.reduceLeDiff, reduceCtorEq, Nat.reduceBEq, Nat.reduceLT, Nat.reduceMod, fmc, QQ, Je, JK, GN, KN, GM, int_toBitVec_meta, Own.row, QK, Seen.row, Qy, Part.row, Qz, Book.row])
  repeat' (first | with_reducible apply And.intro | with_reducible intro _)
  all_goals first
    | omega
    | (refine hQ _ ?_
       first
         | grind []
         | (simp; grind []))
    | grind []
theorem QnB (t : Nat) (zs : List Zone) (b : Book) (hq : Q5 zs) (hb : b.small) (hz : zs.length ≤ 4294967295) : Contract P 79 [.sl t 5 (zs.map Zone.row), .agg (b.row 0)] [] (.bool (decide (Qhk zs b))) [] := by
  have hb2 := hb.2.1.1
  have hb3 := hb.2.2
  simp only [Book.row]
  refine Qh (((((((Env.nil P).add 70 QQ Ya).add 80 Je Gr).add 65 JK WT).add 107 GN Qlr).add 108 KN Qhl).add 109 GM Qlp) hm QeY (nlb rfl) rfl ?_; unfold WH; simp (maxSteps := 2000000) only [bitvec_to_nat, reduceIte, Nat.reduceEqDiff, Nat.reduceAdd, Nat.reduceLeDiff, reduceCtorEq, Nat.reduceBEq, Nat.reduceLT, Nat.reduceMod, fmc, QQ, Je, JK, GN, KN, GM, int_toBitVec_meta, Own.row, QK, Seen.row, Qy, Part.row, Qz, Book.row]
  refine ⟨fun h1 h => by have := h.1; omega, fun h1 => ?_⟩
  · refine QH (fun i : Nat => [(5, .int .i64 i)]) (fun _ => []) (fun i => i ≤ b.parts.length ∧ ∀ j, j < i → Qhj zs b j) (fun i => b.parts.length - i) (0) (by simp only [Ju, Jv, Jw, Jx, Qi, Qj, Qk, Ql, reduceIte, Nat.reduceEqDiff]; exact ⟨by repeat' (first | exact trivial | refine ⟨.inr rfl, ?_⟩), by repeat' (first | exact trivial | refine ⟨rfl, ?_⟩), by first | rfl | simp [closedB, Qc, Qb, Qd, dom, Qa, *], by first | rfl | simp [keepB, dom]⟩) ?_ ?_
    · exact ⟨Nat.zero_le _, by intro j hj; omega⟩
    intro i hi NX hN
    unfold Ue; simp (maxSteps := 2000000) only [bitvec_to_nat, reduceIte, Nat.reduceEqDiff, Nat.reduceAdd, Nat.reduceLeDiff, reduceCtorEq, Nat.reduceBEq, Nat.reduceLT, Nat.reduceMod, fmc, QQ, Je, JK, GN, KN, GM, int_toBitVec_meta, Own.row, QK, Seen.row, Qy, Part.row, Qz, Book.row]
    refine ⟨fun g1 => ⟨by omega, by omega, ?_⟩, fun g1 => ?_⟩
    · have hs := Book.small_part hb (i := i) (by omega)
      have A : Qhk zs b → Qhj zs b i := fun h => h.2 i (by omega)
      unfold Qhj at A
      refine Qb1 t zs b (b.parts.getD i default) i 0 hq hz hb3 hs (by omega) hb2 fun bv hbv => ?_
      cases bv
      case true =>
        simp (maxSteps := 2000000) only [bitvec_to_nat, reduceIte, Nat.reduceEqDiff, Nat.reduceAdd, Nat.reduceLeDiff, reduceCtorEq, Nat.reduceBEq, Nat.reduceLT, Nat.reduceMod, fmc, QQ, Je, JK, GN, KN, GM, int_toBitVec_meta, Own.row, QK, Seen.row, Qy, Part.row, Qz, Book.row]
        exact fun hq => (hbv.1 rfl) ⟨(A hq).1, (A hq).2.1, (A hq).2.2.1, (A hq).2.2.2.1⟩
      have o1 := Classical.not_not.1 fun h => Bool.noConfusion (hbv.2 h)
      simp (maxSteps := 2000000) only [bitvec_to_nat, reduceIte, Nat.reduceEqDiff, Nat.reduceAdd, Nat.reduceLeDiff, reduceCtorEq, Nat.reduceBEq, Nat.reduceLT, Nat.reduceMod, fmc, QQ, Je, JK, GN, KN, GM, int_toBitVec_meta, Own.row, QK, Seen.row, Qy, Part.row, Qz, Book.row]
      refine QH (fun k : Nat => [(7, .int .i64 k)]) (fun _ => []) (fun k => k ≤ i ∧ ∀ j, j < k → (b.parts.getD j default).fl ≠ (b.parts.getD i default).fl → ¬ Qdo (b.parts.getD j default).bx (b.parts.getD i default).bx) (fun k => i - k) (0) (by simp only [Ju, Jv, Jw, Jx, Qi, Qj, Qk, Ql, reduceIte, Nat.reduceEqDiff]; exact ⟨by repeat' (first | exact trivial | refine ⟨.inr rfl, ?_⟩), by repeat' (first | exact trivial | refine ⟨rfl, ?_⟩), by first | rfl | simp [closedB, Qc, Qb, Qd, dom, Qa, *], by first | rfl | simp [keepB, dom]⟩) ?_ ?_
      · exact ⟨Nat.zero_le _, by intro j hj; omega⟩
      intro k hk NX2 hN2
      unfold Ud; simp (maxSteps := 2000000) only [bitvec_to_nat, reduceIte, Nat.reduceEqDiff, Nat.reduceAdd, Nat.reduceLeDiff, reduceCtorEq, Nat.reduceBEq, Nat.reduceLT, Nat.reduceMod, fmc, QQ, Je, JK, GN, KN, GM, int_toBitVec_meta, Own.row, QK, Seen.row, Qy, Part.row, Qz, Book.row]
      refine ⟨fun g2 => ?_, fun g2 => ?_⟩
      · have hs2 := Book.small_part hb (i := k) (by omega)
        refine Qb2 t zs b (b.parts.getD i default) i k (by omega) hs hs2 fun bv hbv => ?_
        cases bv
        case true =>
          simp (maxSteps := 2000000) only [bitvec_to_nat, reduceIte, Nat.reduceEqDiff, Nat.reduceAdd, Nat.reduceLeDiff, reduceCtorEq, Nat.reduceBEq, Nat.reduceLT, Nat.reduceMod, fmc, QQ, Je, JK, GN, KN, GM, int_toBitVec_meta, Own.row, QK, Seen.row, Qy, Part.row, Qz, Book.row]
          exact fun hq => (A hq).2.2.2.2 k (by omega) (hbv.1 rfl).1 (hbv.1 rfl).2
        have o3 : ¬ ((b.parts.getD k default).fl ≠ (b.parts.getD i default).fl ∧ Qdo (b.parts.getD k default).bx (b.parts.getD i default).bx) := by simpa using hbv
        simp (maxSteps := 2000000) only [bitvec_to_nat, reduceIte, Nat.reduceEqDiff, Nat.reduceAdd, Nat.reduceLeDiff, reduceCtorEq, Nat.reduceBEq, Nat.reduceLT, Nat.reduceMod, fmc, QQ, Je, JK, GN, KN, GM, int_toBitVec_meta, Own.row, QK, Seen.row, Qy, Part.row, Qz, Book.row]
        refine ⟨by omega, ?_⟩
        refine hN2 (k + 1) _ (by simp only [Ju, Jv, Jw, Jx, Qi, Qj, Qk, Ql, reduceIte, Nat.reduceEqDiff]; exact ⟨by repeat' (first | exact trivial | refine ⟨.inr rfl, ?_⟩), by repeat' (first | exact trivial | refine ⟨rfl, ?_⟩), by first | rfl | simp [closedB, Qc, Qb, Qd, dom, Qa, *], by first | rfl | simp [keepB, dom]⟩) ?_ ?_
        · exact ⟨by omega, Jf hk.2 fun h1 h2 => o3 ⟨h1, h2⟩⟩
        · omega
      · refine ⟨by omega, ?_⟩
        refine hN (i + 1) _ (by simp only [Ju, Jv, Jw, Jx, Qi, Qj, Qk, Ql, reduceIte, Nat.reduceEqDiff]; exact ⟨by repeat' (first | exact trivial | refine ⟨.inr rfl, ?_⟩), by repeat' (first | exact trivial | refine ⟨rfl, ?_⟩), by first | rfl | simp [closedB, Qc, Qb, Qd, dom, Qa, *], by first | rfl | simp [keepB, dom]⟩) ?_ ?_
        · exact ⟨by omega, Jf hi.2 ⟨o1.1, o1.2.1, o1.2.2.1, o1.2.2.2, fun k' h1 => hk.2 k' (by omega)⟩⟩
        · omega
    · exact ⟨by omega, fun j hj => hi.2 j (by omega)⟩
def WU : List AV → Option (Prop × AV)
  | [.sl zst 5 zsx, .agg [.sl 0 11 b_own, .sl 0 3 b_parts, .sl 0 2 b_seen]] => some ((((zsx.map QB).map Zone.row = zsx) ∧ ((b_own.map JC).map (Own.row 0) = b_own) ∧ ((b_parts.map Q9).map (Part.row 0) = b_parts) ∧ ((b_seen.map Jc).map Seen.row = b_seen)) ∧ (Q5 (zsx.map QB) ∧ Book.small (Book.mk (b_own.map JC) (b_parts.map Q9) (b_seen.map Jc)) ∧ (zsx.map QB).length ≤ 4294967295), .bool (decide (Qhk (zsx.map QB) (Book.mk (b_own.map JC) (b_parts.map Q9) (b_seen.map Jc)))))
  | _ => none
theorem QnC : ∀ args p v, WU args = some (p, v) → p → Contract P 79 args [] v [] ∧ noref v = true ∧ No99 v := by
  intro args p v h1 h2
  unfold WU at h1
  split at h1
  · rename_i zst zsx b_own b_parts b_seen
    cases h1
    obtain ⟨⟨e0, e1, e2, e3⟩, HP⟩ := h2
    have := QnB zst (zsx.map QB) (Book.mk (b_own.map JC) (b_parts.map Q9) (b_seen.map Jc)) HP.1 HP.2.1 HP.2.2
    exact ⟨by simpa only [e0, e1, e2, e3, Book.row] using this, rfl, trivial⟩
  · cases h1
theorem Qo5 (t : Nat) (zs : List Zone) (b : Book) (hb : b.small) (hz : zs.length ≤ 4294967295) : Contract P 35 [.sl t 5 (zs.map Zone.row), .agg (b.row 0)] [] (.bool (decide (Q5 zs ∧ bookOk zs b))) [] := by
  have hb3 := hb.2.2
  simp only [Book.row]
  refine Qh ((((((Env.nil P).add 77 Ks Qe5).add 78 Qbq Qo3).add 79 WU QnC).add 70 QQ Ya).add 80 Je Gr) hm QeO (nlb rfl) rfl ?_; unfold Ww; simp (maxSteps := 2000000) only [bitvec_to_nat, reduceIte, Nat.reduceEqDiff, Nat.reduceAdd, Nat.reduceLeDiff, reduceCtorEq, Nat.reduceBEq, Nat.reduceLT, Nat.reduceMod, fmc, Ks, Qbq, WU, QQ, Je, int_toBitVec_meta, Own.row, QK, Seen.row, Qy, Part.row, Qz, Book.row]
  refine ⟨by omega, fun h1 => ⟨⟨h1, hb, hz⟩, fun h2 => ⟨⟨h1, hb, hz⟩, fun h3 => ⟨fun h4 h => by have := h.2.2.2.1; omega, fun h4 => ?_⟩, fun h3 h => h3 h.2.2.1⟩, fun h2 h => h2 h.2.1⟩, fun h1 h => h1 h.1⟩
  · refine QH (fun i : Nat => [(5, .int .i64 i)]) (fun _ => []) (fun i => i ≤ b.seen.length ∧ ∀ j, j < i → Qdq b.seen j) (fun i => b.seen.length - i) (0) (by simp only [Ju, Jv, Jw, Jx, Qi, Qj, Qk, Ql, reduceIte, Nat.reduceEqDiff]; exact ⟨by repeat' (first | exact trivial | refine ⟨.inr rfl, ?_⟩), by repeat' (first | exact trivial | refine ⟨rfl, ?_⟩), by first | rfl | simp [closedB, Qc, Qb, Qd, dom, Qa, *], by first | rfl | simp [keepB, dom]⟩) ?_ ?_
    · exact ⟨Nat.zero_le _, by intro j hj; omega⟩
    intro i hi NX hN
    unfold Z5; simp (maxSteps := 2000000) only [bitvec_to_nat, reduceIte, Nat.reduceEqDiff, Nat.reduceAdd, Nat.reduceLeDiff, reduceCtorEq, Nat.reduceBEq, Nat.reduceLT, Nat.reduceMod, fmc, Ks, Qbq, WU, QQ, Je, int_toBitVec_meta, Own.row, QK, Seen.row, Qy, Part.row, Qz, Book.row]
    have A : Q5 zs ∧ bookOk zs b → i < b.seen.length → Qdq b.seen i := fun h h2 => h.2.2.2.2 i h2
    unfold Qdq at A
    repeat' (first | with_reducible apply And.intro | with_reducible intro _)
    all_goals first
      | with_reducible assumption
      | omega
      | (refine hN (i + 1) _ (by simp only [Ju, Jv, Jw, Jx, Qi, Qj, Qk, Ql, reduceIte, Nat.reduceEqDiff]; exact ⟨by repeat' (first | exact trivial | refine ⟨.inr rfl, ?_⟩), by repeat' (first | exact trivial | refine ⟨rfl, ?_⟩), by first | rfl | simp [closedB, Qc, Qb, Qd, dom, Qa, *], by first | rfl | simp [keepB, dom]⟩) ?_ ?_
         · exact ⟨by omega, Jf hi.2 ⟨by assumption, by assumption, fun _ => by first | assumption | omega⟩⟩
         · omega)
      | (intro hq2; have := A hq2 (by omega); grind)
      | (exact ⟨h2, h3, by omega, fun j hj => hi.2 j (by omega)⟩)
def XY : List AV → Option (Prop × AV)
  | [.sl zst 5 zsx, .agg [.sl 0 11 b_own, .sl 0 3 b_parts, .sl 0 2 b_seen]] => some ((((zsx.map QB).map Zone.row = zsx) ∧ ((b_own.map JC).map (Own.row 0) = b_own) ∧ ((b_parts.map Q9).map (Part.row 0) = b_parts) ∧ ((b_seen.map Jc).map Seen.row = b_seen)) ∧ (Book.small (Book.mk (b_own.map JC) (b_parts.map Q9) (b_seen.map Jc)) ∧ (zsx.map QB).length ≤ 4294967295), .bool (decide (Q5 (zsx.map QB) ∧ bookOk (zsx.map QB) (Book.mk (b_own.map JC) (b_parts.map Q9) (b_seen.map Jc)))))
  | _ => none
theorem Qkz : ∀ args p v, XY args = some (p, v) → p → Contract P 35 args [] v [] ∧ noref v = true ∧ No99 v := by
  intro args p v h1 h2
  unfold XY at h1
  split at h1
  · rename_i zst zsx b_own b_parts b_seen
    cases h1
    obtain ⟨⟨e0, e1, e2, e3⟩, HP⟩ := h2
    have := Qo5 zst (zsx.map QB) (Book.mk (b_own.map JC) (b_parts.map Q9) (b_seen.map Jc)) HP.1 HP.2
    exact ⟨by simpa only [e0, e1, e2, e3, Book.row] using this, rfl, trivial⟩
  · cases h1
def Qgm : List AV → Option (Prop × AV)
  | [.sl zst 5 zsx, .agg [.sl 0 11 b_own, .sl 0 3 b_parts, .sl 0 2 b_seen]] => some ((((zsx.map QB).map Zone.row = zsx) ∧ ((b_own.map JC).map (Own.row 0) = b_own) ∧ ((b_parts.map Q9).map (Part.row 0) = b_parts) ∧ ((b_seen.map Jc).map Seen.row = b_seen)) ∧ (Book.small (Book.mk (b_own.map JC) (b_parts.map Q9) (b_seen.map Jc)) ∧ (zsx.map QB).length ≤ 4294967295), .bool (decide (bookOk (zsx.map QB) (Book.mk (b_own.map JC) (b_parts.map Q9) (b_seen.map Jc)))))
  | _ => none
theorem Qqy : ∀ args p v, Qgm args = some (p, v) → p → Contract P 102 args [] v [] ∧ noref v = true ∧ No99 v := by
  intro args p v h1 h2
  unfold Qgm at h1
  split at h1
  · rename_i zst zsx b_own b_parts b_seen
    cases h1
    obtain ⟨⟨e0, e1, e2, e3⟩, HP⟩ := h2
    have := Qqv zst (zsx.map QB) (Book.mk (b_own.map JC) (b_parts.map Q9) (b_seen.map Jc)) HP.2 HP.1
    exact ⟨by simpa only [e0, e1, e2, e3, Book.row] using this, rfl, trivial⟩
  · cases h1
theorem Qo6 (t : Nat) (zs : List Zone) (b : Book) (hb : b.small) (hz : zs.length ≤ 4294967295) : Contract P 72 [.sl t 5 (zs.map Zone.row), .agg (b.row 0)] [] (.bool (decide (Q5 zs ∧ bookOk zs b))) [] := by
  simp only [Book.row]
  refine Qh (((Env.nil P).add 101 Y9 Qhc).add 102 Qgm Qqy) hm QeV (nlb rfl) rfl ?_; unfold WE; simp (maxSteps := 2000000) only [bitvec_to_nat, reduceIte, Nat.reduceEqDiff, Nat.reduceAdd, Nat.reduceLeDiff, reduceCtorEq, Nat.reduceBEq, Nat.reduceLT, Nat.reduceMod, fmc, Y9, Qgm, int_toBitVec_meta, Own.row, QK, Seen.row, Qy, Part.row, Qz, Book.row]
  refine ⟨by omega, fun h => ⟨⟨hb, hz⟩, ?_⟩, fun h h2 => h h2.1⟩
  rw [decide_eq_decide]
  exact ⟨fun h2 => ⟨h, h2⟩, fun h2 => h2.2⟩
def Qdv : List AV → Option (Prop × AV)
  | [.sl zst 5 zsx, .agg [.sl 0 11 b_own, .sl 0 3 b_parts, .sl 0 2 b_seen]] => some ((((zsx.map QB).map Zone.row = zsx) ∧ ((b_own.map JC).map (Own.row 0) = b_own) ∧ ((b_parts.map Q9).map (Part.row 0) = b_parts) ∧ ((b_seen.map Jc).map Seen.row = b_seen)) ∧ (Book.small (Book.mk (b_own.map JC) (b_parts.map Q9) (b_seen.map Jc)) ∧ (zsx.map QB).length ≤ 4294967295), .bool (decide (Q5 (zsx.map QB) ∧ bookOk (zsx.map QB) (Book.mk (b_own.map JC) (b_parts.map Q9) (b_seen.map Jc)))))
  | _ => none
theorem Qo7 : ∀ args p v, Qdv args = some (p, v) → p → Contract P 72 args [] v [] ∧ noref v = true ∧ No99 v := by
  intro args p v h1 h2
  unfold Qdv at h1
  split at h1
  · rename_i zst zsx b_own b_parts b_seen
    cases h1
    obtain ⟨⟨e0, e1, e2, e3⟩, HP⟩ := h2
    have := Qo6 zst (zsx.map QB) (Book.mk (b_own.map JC) (b_parts.map Q9) (b_seen.map Jc)) HP.1 HP.2
    exact ⟨by simpa only [e0, e1, e2, e3, Book.row] using this, rfl, trivial⟩
  · cases h1
end
end Go.Ve

namespace Go.Ve
noncomputable section
open Go.Proofs
set_option maxRecDepth 100000
open Go.ChangeShapes Go.WideShapes
/-- What is left when a list is counted, and each of its parts. -/
def szS {α : Type} (f : α → Int → Int) (l : List α) (a : Int) : Int := l.foldl (fun a x => f x a) (GG a l.length)
def W5 (s : ByteArray) (a : Int) : Int := GG a s.toList.length
def QnD {α : Type} (f : α → Int → Int) : Prop := ∀ x a, a ≤ 1048576 → (f x a = -1 ∨ 0 ≤ f x a) ∧ (a < 0 → f x a = -1) ∧ f x a ≤ max a (-1)
def chk (x : Int) (k : Int → Int) : Int := if x < 0 then -1 else k x
def Meas1 (g : Int → Int) : Prop := ∀ a, a ≤ 1048576 → (g a = -1 ∨ 0 ≤ g a) ∧ (a < 0 → g a = -1) ∧ g a ≤ max a (-1)
def Qqz (g : Int → Int) : Prop := ∀ a, 0 ≤ a → a ≤ 1048576 → (g a = -1 ∨ 0 ≤ g a) ∧ g a ≤ a
theorem Meas1.p {g : Int → Int} (h : Meas1 g) : Qqz g := fun a h0 h1 => ⟨(h a h1).1, by have := (h a h1).2.2; omega⟩
theorem Qdw : Qqz fun z => z := fun a h0 h1 => ⟨.inr h0, Int.le_refl a⟩
theorem Qhm {k : Int → Int} (n : Nat) (h : Qqz k) : Meas1 fun a => chk (a - n) k := fun a ha => by
  simp only [chk]
  split
  · exact ⟨.inl rfl, fun _ => rfl, by omega⟩
  · rename_i h1
    have := h (a - n) (by omega) (by omega)
    exact ⟨this.1, fun _ => by omega, by omega⟩
theorem Qlu {g k : Int → Int} (hg : Meas1 g) (h : Qqz k) : Meas1 fun a => chk (g a) k := fun a ha => by
  have m := hg a ha
  simp only [chk]
  split
  · exact ⟨.inl rfl, fun _ => rfl, by omega⟩
  · rename_i h1
    have := h (g a) (by omega) (by omega)
    exact ⟨this.1, fun h2 => by have := m.2.1 h2; omega, by omega⟩
theorem Qch {x : Int} {k : Int → Int} (h : 0 ≤ chk x k) : 0 ≤ x ∧ 0 ≤ k x := by
  unfold chk at h; split at h
  · omega
  · exact ⟨by omega, h⟩
theorem W6 : QnD W5 := fun x a _ => by unfold W5 GG; split <;> omega
theorem QbQ {α : Type} : QnD (fun (l : List α) a => GG a l.length) := fun x a _ => by simp only; unfold GG; split <;> omega
theorem Kk {α : Type} {f : α → Int → Int} (h : QnD f) : ∀ (l : List α) (a : Int), a ≤ 1048576 → (a = -1 ∨ 0 ≤ a) → (l.foldl (fun a x => f x a) a = -1 ∨ 0 ≤ l.foldl (fun a x => f x a) a) ∧ (a < 0 → l.foldl (fun a x => f x a) a = -1) ∧ l.foldl (fun a x => f x a) a ≤ max a (-1)
  | [], a, h1, h2 => ⟨h2, fun h3 => by simp only [List.foldl_nil]; omega, by simp only [List.foldl_nil]; omega⟩
  | x :: l, a, h1, h2 => by
    obtain ⟨k1, k2, k3⟩ := h x a h1
    obtain ⟨i1, i2, i3⟩ := Kk h l (f x a) (by omega) k1
    simp only [List.foldl_cons]
    exact ⟨i1, fun h3 => i2 (by have := k2 h3; omega), by omega⟩
theorem Yb {α : Type} {f : α → Int → Int} (h : QnD f) : QnD (szS f) := fun l a ha => by
  unfold szS
  have h0 : (GG a l.length = -1 ∨ 0 ≤ GG a l.length) ∧ (a < 0 → GG a l.length = -1) ∧ GG a l.length ≤ max a (-1) := by unfold GG; split <;> omega
  obtain ⟨i1, i2, i3⟩ := Kk h l (GG a l.length) (by omega) h0.1
  exact ⟨i1, fun h3 => i2 (by have := h0.2.1 h3; omega), by omega⟩
/-- A list that was counted is small, and so are its parts. -/
theorem Qo8 {α : Type} {f : α → Int → Int} {p : α → Prop} (h : QnD f) (hp : ∀ x a, a ≤ 1048576 → 0 ≤ f x a → p x) : ∀ (l : List α) (a : Int), a ≤ 1048576 → (a = -1 ∨ 0 ≤ a) → 0 ≤ l.foldl (fun a x => f x a) a → ∀ x ∈ l, p x
  | [], _, _, _, _, x, hx => by simp at hx
  | y :: l, a, h1, h2, h3, x, hx => by
    simp only [List.foldl_cons] at h3
    obtain ⟨k1, k2, k3⟩ := h y a h1
    have hy : 0 ≤ f y a := by
      rcases k1 with k1 | k1
      · have := (Kk h l (f y a) (by omega) (.inl k1)).2.1 (by omega); omega
      · exact k1
    rcases List.mem_cons.1 hx with rfl | hx
    · exact hp _ a h1 hy
    · exact Qo8 h hp l (f y a) (by omega) (.inr hy) h3 x hx
theorem Qhn {α : Type} {f : α → Int → Int} {p : α → Prop} (h : QnD f) (hp : ∀ x a, a ≤ 1048576 → 0 ≤ f x a → p x) {l : List α} {a : Int} (ha : a ≤ 1048576) (h0 : 0 ≤ szS f l a) : l.length ≤ 1048576 ∧ ∀ x ∈ l, p x := by
  unfold szS at h0
  have hs : (GG a l.length = -1 ∨ 0 ≤ GG a l.length) ∧ GG a l.length ≤ 1048576 := by unfold GG; split <;> omega
  refine ⟨?_, Qo8 h hp l _ hs.2 hs.1 h0⟩
  rcases hs.1 with e | e
  · have := (Kk h l _ hs.2 (.inl e)).2.1 (by omega); omega
  · unfold GG at e; split at e <;> omega
theorem Qlv {a : Int} {n : Nat} (ha : a ≤ 1048576) (h0 : 0 ≤ GG a n) : n ≤ 1048576 := by unfold GG at h0; split at h0 <;> omega
/-- One more part of a list. -/
theorem WV {α : Type} [Inhabited α] {f : α → Int → Int} {l : List α} {i : Nat} {a : Int} (hi : i < l.length) : (l.take (i + 1)).foldl (fun a x => f x a) a = f (l.getD i default) ((l.take i).foldl (fun a x => f x a) a) := by
  have e : l.getD i default = l[i] := by simp [hi]
  rw [e, List.take_succ_eq_append_getElem hi, List.foldl_append]; rfl
theorem Qbr {α : Type} [Inhabited α] {f : α → Int → Int} (h : QnD f) {l : List α} {i : Nat} {a : Int} (hi : i < l.length) (ha : a ≤ 1048576) (h0 : a = -1 ∨ 0 ≤ a) (hn : f (l.getD i default) ((l.take i).foldl (fun a x => f x a) a) < 0) : l.foldl (fun a x => f x a) a = -1 := by
  rw [← WV (f := f) hi] at hn
  have e : l.foldl (fun a x => f x a) a = (l.drop (i + 1)).foldl (fun a x => f x a) ((l.take (i + 1)).foldl (fun a x => f x a) a) := by
    rw [← List.foldl_append, List.take_append_drop]
  rw [e]
  have k := Kk h (l.take (i + 1)) a ha h0
  exact (Kk h _ _ (by omega) k.1).2.1 hn
theorem Ux {α : Type} {f : α → List AV} {p : α → Prop} {rs : List LSh} (h : ∀ r, KT rs r → ∃ x : α, r = f x ∧ p x) : ∀ {rows : List (List AV)}, (∀ r ∈ rows, KT rs r) → ∃ l : List α, rows = l.map f ∧ ∀ x ∈ l, p x
  | [], _ => ⟨[], rfl, by simp⟩
  | r :: rows, k => by
    obtain ⟨x, rfl, hx⟩ := h r (k r (by simp))
    obtain ⟨l, rfl, hl⟩ := Ux h (rows := rows) fun r' h' => k r' (by simp [h'])
    exact ⟨x :: l, rfl, by simpa using ⟨hx, hl⟩⟩
theorem Jg {α : Type} [Inhabited α] {l : List α} {i : Nat} (h : i < l.length) : l.getD i default ∈ l := by simp [h]
def Zone.fitp (s : Zone) : Prop := s.nm.toList.length ≤ 9223372036854775807
def Zone.sz (s : Zone) (z0 : Int) : Int := chk (z0 - (s.nm.toList.length : Nat)) (fun z1 => z1)
theorem GO : QnD Zone.sz := fun s => Qhm _ (Qdw)
def Seen.fitp (s : Seen) : Prop := s.fl.toList.length ≤ 9223372036854775807
def Seen.sz (s : Seen) (z0 : Int) : Int := chk (z0 - (s.fl.toList.length : Nat)) (fun z1 => z1)
theorem Uy : QnD Seen.sz := fun s => Qhm _ (Qdw)
def Own.fitp (s : Own) : Prop := s.fl.toList.length ≤ 9223372036854775807 ∧ s.dst.toList.length ≤ 9223372036854775807 ∧ s.tu.length ≤ 9223372036854775807 ∧ s.nx.length ≤ 9223372036854775807 ∧ (s.gr.length ≤ 9223372036854775807 ∧ ∀ y ∈ s.gr, y.toList.length ≤ 9223372036854775807)
def Own.sz (s : Own) (z0 : Int) : Int := chk (z0 - (s.fl.toList.length : Nat)) (fun z1 => chk (z1 - (s.dst.toList.length : Nat)) (fun z2 => chk (GG z2 s.tu.length) (fun z3 => chk (GG z3 s.nx.length) (fun z4 => chk (szS W5 s.gr z4) (fun z5 => z5)))))
theorem W7 : QnD Own.sz := fun s => Qhm _ (Meas1.p (Qhm _ (Meas1.p (Qlu (fun a => QbQ s.tu a) (Meas1.p (Qlu (fun a => QbQ s.nx a) (Meas1.p (Qlu (fun a => Yb W6 s.gr a) (Qdw)))))))))
theorem Own.sz_ok {s : Own} {a : Int} (ha : a ≤ 1048576) (h : 0 ≤ s.sz a) : s.small := by
  unfold Own.sz at h
  have b0 : a ≤ 1048576 := ha
  obtain ⟨p0, h⟩ := Qch h
  have b1 : (a) - (s.fl.toList.length : Nat) ≤ 1048576 := by omega
  obtain ⟨p1, h⟩ := Qch h
  have b2 : ((a) - (s.fl.toList.length : Nat)) - (s.dst.toList.length : Nat) ≤ 1048576 := by omega
  obtain ⟨p2, h⟩ := Qch h
  have b3 : GG (((a) - (s.fl.toList.length : Nat)) - (s.dst.toList.length : Nat)) s.tu.length ≤ 1048576 := by have := (QbQ s.tu (((a) - (s.fl.toList.length : Nat)) - (s.dst.toList.length : Nat)) b2).2.2; simp only at this; omega
  have k2 := Qlv b2 p2
  obtain ⟨p3, h⟩ := Qch h
  have b4 : GG (GG (((a) - (s.fl.toList.length : Nat)) - (s.dst.toList.length : Nat)) s.tu.length) s.nx.length ≤ 1048576 := by have := (QbQ s.nx (GG (((a) - (s.fl.toList.length : Nat)) - (s.dst.toList.length : Nat)) s.tu.length) b3).2.2; simp only at this; omega
  have k3 := Qlv b3 p3
  obtain ⟨p4, h⟩ := Qch h
  have b5 : szS W5 s.gr (GG (GG (((a) - (s.fl.toList.length : Nat)) - (s.dst.toList.length : Nat)) s.tu.length) s.nx.length) ≤ 1048576 := by have := (Yb W6 s.gr (GG (GG (((a) - (s.fl.toList.length : Nat)) - (s.dst.toList.length : Nat)) s.tu.length) s.nx.length) b4).2.2; omega
  have k4 := Qhn (p := fun _ => True) W6 (fun _ _ _ _ => trivial) b4 p4
  exact ⟨k2, k3, k4.1⟩
def Part.fitp (s : Part) : Prop := s.fl.toList.length ≤ 9223372036854775807 ∧ s.bx.length ≤ 9223372036854775807
def Part.small (s : Part) : Prop := s.bx.length ≤ 1048576
def Part.sz (s : Part) (z0 : Int) : Int := chk (z0 - (s.fl.toList.length : Nat)) (fun z1 => chk (GG z1 s.bx.length) (fun z2 => z2))
theorem Uz : QnD Part.sz := fun s => Qhm _ (Meas1.p (Qlu (fun a => QbQ s.bx a) (Qdw)))
theorem Part.sz_ok {s : Part} {a : Int} (ha : a ≤ 1048576) (h : 0 ≤ s.sz a) : s.small := by
  unfold Part.sz at h
  have b0 : a ≤ 1048576 := ha
  obtain ⟨p0, h⟩ := Qch h
  have b1 : (a) - (s.fl.toList.length : Nat) ≤ 1048576 := by omega
  obtain ⟨p1, h⟩ := Qch h
  have b2 : GG ((a) - (s.fl.toList.length : Nat)) s.bx.length ≤ 1048576 := by have := (QbQ s.bx ((a) - (s.fl.toList.length : Nat)) b1).2.2; simp only at this; omega
  have k1 := Qlv b1 p1
  exact k1
def Book.fitp (s : Book) : Prop := (s.own.length ≤ 9223372036854775807 ∧ ∀ y ∈ s.own, y.fitp) ∧ (s.parts.length ≤ 9223372036854775807 ∧ ∀ y ∈ s.parts, y.fitp) ∧ (s.seen.length ≤ 9223372036854775807 ∧ ∀ y ∈ s.seen, y.fitp)
def Book.sz (s : Book) (z0 : Int) : Int := chk (szS Own.sz s.own z0) (fun z1 => chk (szS Part.sz s.parts z1) (fun z2 => chk (szS Seen.sz s.seen z2) (fun z3 => z3)))
theorem Qho : QnD Book.sz := fun s => Qlu (fun a => Yb W7 s.own a) (Meas1.p (Qlu (fun a => Yb Uz s.parts a) (Meas1.p (Qlu (fun a => Yb Uy s.seen a) (Qdw)))))
theorem Book.sz_ok {s : Book} {a : Int} (ha : a ≤ 1048576) (h : 0 ≤ s.sz a) : s.small := by
  unfold Book.sz at h
  have b0 : a ≤ 1048576 := ha
  obtain ⟨p0, h⟩ := Qch h
  have b1 : szS Own.sz s.own (a) ≤ 1048576 := by have := (Yb W7 s.own (a) b0).2.2; omega
  have k0 := Qhn (p := fun y => Own.small y) W7 (fun x a h1 h2 => Own.sz_ok h1 h2) b0 p0
  obtain ⟨p1, h⟩ := Qch h
  have b2 : szS Part.sz s.parts (szS Own.sz s.own (a)) ≤ 1048576 := by have := (Yb Uz s.parts (szS Own.sz s.own (a)) b1).2.2; omega
  have k1 := Qhn (p := fun y => Part.small y) Uz (fun x a h1 h2 => Part.sz_ok h1 h2) b1 p1
  obtain ⟨p2, h⟩ := Qch h
  have b3 : szS Seen.sz s.seen (szS Part.sz s.parts (szS Own.sz s.own (a))) ≤ 1048576 := by have := (Yb Uy s.seen (szS Part.sz s.parts (szS Own.sz s.own (a))) b2).2.2; omega
  have k2 := Qhn (p := fun _ => True) Uy (fun _ _ _ _ => trivial) b2 p2
  exact ⟨k0, k1, k2.1⟩
theorem Qlw (t : Nat) (l : List ByteArray) (a : Int) (ha : 0 ≤ a ∧ a ≤ 1048576) (hl : l.length ≤ 9223372036854775807 ∧ ∀ y ∈ l, y.toList.length ≤ 9223372036854775807) : Contract P 105 [.sl t 1 (l.map JJ), .int .i64 a] [] (.int .i64 (szS W5 l a)) [] := by
  refine Qh (Env.nil P) hm QfQ (nlb rfl) rfl ?_; unfold Qas; simp (maxSteps := 2000000) only [bitvec_to_nat, reduceIte, Nat.reduceEqDiff, Nat.reduceAdd, Nat.reduceLeDiff, reduceCtorEq, Nat.reduceBEq, Nat.reduceLT, Nat.reduceMod, fmc, JJ, Qs0, List.take_zero, List.foldl_nil]
  have hz : GG a l.length = if a - l.length < 0 then -1 else a - l.length := rfl
  refine ⟨by omega, fun h1 => ?_, fun h1 => ?_⟩
  · unfold szS
    rw [(Kk W6 l _ (by omega) (by omega)).2.1 (by omega)]
  have e0 : GG a l.length = a - l.length := if_neg h1
  refine QH (fun i : Nat => [(1, .int .i64 ((l.take i).foldl (fun a x => W5 x a) (a - l.length))), (5, .int .i64 i)]) (fun _ => []) (fun i => i ≤ l.length ∧ 0 ≤ (l.take i).foldl (fun a x => W5 x a) (a - l.length)) (fun i => l.length - i) (0) (by simp only [Ju, Jv, Jw, Jx, Qi, Qj, Qk, Ql, reduceIte, Nat.reduceEqDiff]; exact ⟨by repeat' (first | exact trivial | refine ⟨.inr rfl, ?_⟩), by repeat' (first | exact trivial | refine ⟨rfl, ?_⟩), by first | rfl | simp [closedB, Qc, Qb, Qd, dom, Qa, *], by first | rfl | simp [keepB, dom]⟩) ?_ ?_
  · simp only [List.take_zero, List.foldl_nil]; omega
  intro i hi NX hN
  unfold U9; simp (maxSteps := 2000000) only [bitvec_to_nat, reduceIte, Nat.reduceEqDiff, Nat.reduceAdd, Nat.reduceLeDiff, reduceCtorEq, Nat.reduceBEq, Nat.reduceLT, Nat.reduceMod, fmc, JJ, Qs0, List.take_zero, List.foldl_nil]
  have hm := (Kk W6 (l.take i) (a - l.length) (by omega) (by omega)).2.2
  have hg : i < l.length → (l.getD i default).toList.length ≤ 9223372036854775807 := fun h => hl.2 _ (Jg h)
  have hn : i < l.length → (l.take (i + 1)).foldl (fun a x => W5 x a) (a - l.length) = W5 (l.getD i default) ((l.take i).foldl (fun a x => W5 x a) (a - l.length)) := fun h => WV h
  have hs : i < l.length → W5 (l.getD i default) ((l.take i).foldl (fun a x => W5 x a) (a - l.length)) < 0 → szS W5 l a = -1 := fun h h2 => by unfold szS; rw [e0]; exact Qbr W6 h (by omega) (by omega) h2
  have hd : W5 (l.getD i default) ((l.take i).foldl (fun a x => W5 x a) (a - l.length)) = if ((l.take i).foldl (fun a x => W5 x a) (a - l.length)) - ((l.getD i default).toList.length : Nat) < 0 then -1 else ((l.take i).foldl (fun a x => W5 x a) (a - l.length)) - ((l.getD i default).toList.length : Nat) := rfl
  refine ⟨fun h2 => ⟨by omega, by omega, by omega, fun h3 => by rw [hs (by omega) (by omega)], fun h3 => ⟨by omega, ?_⟩⟩, fun h2 => ?_⟩
  · have e := hn (by omega)
    rw [hd, if_neg h3] at e
    refine hN (i + 1) _ (by simp only [e, List.length_append, List.length_cons, List.length_nil, Nat.zero_add, List.map_append, List.map_cons, List.map_nil, Ju, Jv, Jw, Jx, Qi, Qj, Qk, Ql, reduceIte, Nat.reduceEqDiff]; exact ⟨by repeat' (first | exact trivial | refine ⟨.inr rfl, ?_⟩), by repeat' (first | exact trivial | refine ⟨rfl, ?_⟩), by first | rfl | simp [closedB, Qc, Qb, Qd, dom, Qa, *], by first | rfl | simp [keepB, dom]⟩) ?_ ?_
    · exact ⟨by omega, by omega⟩
    · omega
  · have e : i = l.length := by omega
    subst e
    simp only [List.take_length]; unfold szS; rw [e0]
def W8 : List AV → Option (Prop × AV)
  | [.sl lt 1 lx, .int .i64 b] => some ((((lx.map unS).map JJ = lx)) ∧ ((0 ≤ b ∧ b ≤ 1048576) ∧ ((lx.map unS).length ≤ 9223372036854775807 ∧ ∀ y ∈ (lx.map unS), y.toList.length ≤ 9223372036854775807)), .int .i64 (szS W5 (lx.map unS) b))
  | _ => none
theorem Qlx : ∀ args p v, W8 args = some (p, v) → p → Contract P 105 args [] v [] ∧ noref v = true ∧ No99 v := by
  intro args p v h1 h2
  unfold W8 at h1
  split at h1
  · rename_i lt lx b
    cases h1
    obtain ⟨e0, HP⟩ := h2
    have := Qlw lt (lx.map unS) b HP.1 HP.2
    exact ⟨by simpa only [e0] using this, rfl, trivial⟩
  · cases h1
theorem QqA (s : Zone) (a : Int) (ha : 0 ≤ a ∧ a ≤ 1048576) (hs : s.fitp) : Contract P 31 [.agg s.row, .int .i64 a] [] (.int .i64 (s.sz a)) [] := by
  unfold Zone.fitp at hs
  simp only [Zone.row]
  refine Qh (Env.nil P) hm QeM (nlb rfl) rfl ?_; unfold Wu; simp (maxSteps := 2000000) only [bitvec_to_nat, reduceIte, Nat.reduceEqDiff, Nat.reduceAdd, Nat.reduceLeDiff, reduceCtorEq, Nat.reduceBEq, Nat.reduceLT, Nat.reduceMod, fmc, int_toBitVec_meta, method_specs_simp]
  unfold Zone.sz
  repeat' (first | with_reducible apply And.intro | with_reducible intro _)
  all_goals first | omega | (exact hs) | (exact hs.1) | (exact hs.2.1) | (exact hs.2.2) | (exact hs.2.2.1) | (exact hs.2.2.2) | (exact hs.2.2.2.1) | (exact hs.2.2.2.2) | (exact hs.1.1) | (exact hs.1.2) | (exact hs.2.1.1) | (exact hs.2.1.2) | (unfold chk; grind) | grind
def Qdx : List AV → Option (Prop × AV)
  | [.agg [.str s_nm, .int .i64 s_x0, .int .i64 s_y0, .int .i64 s_x1, .int .i64 s_y1], .int .i64 b] => some ((True) ∧ ((0 ≤ b ∧ b ≤ 1048576) ∧ (Zone.fitp (Zone.mk s_nm s_x0 s_y0 s_x1 s_y1))), .int .i64 (Zone.sz (Zone.mk s_nm s_x0 s_y0 s_x1 s_y1) b))
  | _ => none
theorem QqB : ∀ args p v, Qdx args = some (p, v) → p → Contract P 31 args [] v [] ∧ noref v = true ∧ No99 v := by
  intro args p v h1 h2
  unfold Qdx at h1
  split at h1
  · rename_i s_nm s_x0 s_y0 s_x1 s_y1 b
    cases h1
    obtain ⟨_, HP⟩ := h2
    have := QqA (Zone.mk s_nm s_x0 s_y0 s_x1 s_y1) b HP.1 HP.2
    exact ⟨by simpa only [Zone.row] using this, rfl, trivial⟩
  · cases h1
theorem Qo9 (t : Nat) (l : List Zone) (a : Int) (ha : 0 ≤ a ∧ a ≤ 1048576) (hl : l.length ≤ 9223372036854775807 ∧ ∀ y ∈ l, y.fitp) : Contract P 7 [.sl t 5 (l.map Zone.row), .int .i64 a] [] (.int .i64 (szS Zone.sz l a)) [] := by
  refine Qh ((Env.nil P).add 31 Qdx QqB) hm QcY (nlb rfl) rfl ?_; unfold UT; simp (maxSteps := 2000000) only [bitvec_to_nat, reduceIte, Nat.reduceEqDiff, Nat.reduceAdd, Nat.reduceLeDiff, reduceCtorEq, Nat.reduceBEq, Nat.reduceLT, Nat.reduceMod, fmc, Qdx, int_toBitVec_meta, method_specs_simp, List.take_zero, List.foldl_nil]
  have hz : GG a l.length = if a - l.length < 0 then -1 else a - l.length := rfl
  refine ⟨by omega, fun h1 => ?_, fun h1 => ?_⟩
  · unfold szS
    rw [(Kk GO l _ (by omega) (by omega)).2.1 (by omega)]
  have e0 : GG a l.length = a - l.length := if_neg h1
  refine QH (fun i : Nat => [(1, .int .i64 ((l.take i).foldl (fun a x => x.sz a) (a - l.length))), (5, .int .i64 i)]) (fun _ => []) (fun i => i ≤ l.length ∧ 0 ≤ (l.take i).foldl (fun a x => x.sz a) (a - l.length)) (fun i => l.length - i) (0) (by simp only [Ju, Jv, Jw, Jx, Qi, Qj, Qk, Ql, reduceIte, Nat.reduceEqDiff]; exact ⟨by repeat' (first | exact trivial | refine ⟨.inr rfl, ?_⟩), by repeat' (first | exact trivial | refine ⟨rfl, ?_⟩), by first | rfl | simp [closedB, Qc, Qb, Qd, dom, Qa, *], by first | rfl | simp [keepB, dom]⟩) ?_ ?_
  · simp only [List.take_zero, List.foldl_nil]; omega
  intro i hi NX hN
  have hm := (Kk GO (l.take i) (a - l.length) (by omega) (by omega)).2.2
  have hg : i < l.length → (l.getD i default).fitp := fun h => hl.2 _ (Jg h)
  have hn : i < l.length → (l.take (i + 1)).foldl (fun a x => x.sz a) (a - l.length) = (l.getD i default).sz ((l.take i).foldl (fun a x => x.sz a) (a - l.length)) := fun h => WV (f := Zone.sz) h
  have hs : i < l.length → (l.getD i default).sz ((l.take i).foldl (fun a x => x.sz a) (a - l.length)) < 0 → szS Zone.sz l a = -1 := fun h h2 => by unfold szS; rw [e0]; exact Qbr GO h (by omega) (by omega) h2
  unfold Zd; simp (maxSteps := 2000000) only [bitvec_to_nat, reduceIte, Nat.reduceEqDiff, Nat.reduceAdd, Nat.reduceLeDiff, reduceCtorEq, Nat.reduceBEq, Nat.reduceLT, Nat.reduceMod, fmc, Qdx, int_toBitVec_meta, method_specs_simp, List.take_zero, List.foldl_nil]
  refine ⟨fun h2 => ⟨by omega, by omega, ⟨⟨by omega, by omega⟩, hg (by omega)⟩, fun h3 => by rw [hs (by omega) h3], fun h3 => ⟨by omega, ?_⟩⟩, fun h2 => ?_⟩
  · have e := hn (by omega)
    refine hN (i + 1) _ (by simp only [e, List.length_append, List.length_cons, List.length_nil, Nat.zero_add, List.map_append, List.map_cons, List.map_nil, Ju, Jv, Jw, Jx, Qi, Qj, Qk, Ql, reduceIte, Nat.reduceEqDiff]; exact ⟨by repeat' (first | exact trivial | refine ⟨.inr rfl, ?_⟩), by repeat' (first | exact trivial | refine ⟨rfl, ?_⟩), by first | rfl | simp [closedB, Qc, Qb, Qd, dom, Qa, *], by first | rfl | simp [keepB, dom]⟩) ?_ ?_
    · exact ⟨by omega, by rw [e]; omega⟩
    · omega
  · have e : i = l.length := by omega
    subst e
    simp only [List.take_length]; unfold szS; rw [e0]
def Qo : List AV → Option (Prop × AV)
  | [.sl lt 5 lx, .int .i64 b] => some ((((lx.map QB).map Zone.row = lx)) ∧ ((0 ≤ b ∧ b ≤ 1048576) ∧ ((lx.map QB).length ≤ 9223372036854775807 ∧ ∀ y ∈ (lx.map QB), Zone.fitp y)), .int .i64 (szS Zone.sz (lx.map QB) b))
  | _ => none
theorem Qhp : ∀ args p v, Qo args = some (p, v) → p → Contract P 7 args [] v [] ∧ noref v = true ∧ No99 v := by
  intro args p v h1 h2
  unfold Qo at h1
  split at h1
  · rename_i lt lx b
    cases h1
    obtain ⟨e0, HP⟩ := h2
    have := Qo9 lt (lx.map QB) b HP.1 HP.2
    exact ⟨by simpa only [e0] using this, rfl, trivial⟩
  · cases h1
theorem QqC (s : Seen) (a : Int) (ha : 0 ≤ a ∧ a ≤ 1048576) (hs : s.fitp) : Contract P 76 [.agg s.row, .int .i64 a] [] (.int .i64 (s.sz a)) [] := by
  unfold Seen.fitp at hs
  simp only [Seen.row]
  refine Qh (Env.nil P) hm QeX (nlb rfl) rfl ?_; unfold WG; simp (maxSteps := 2000000) only [bitvec_to_nat, reduceIte, Nat.reduceEqDiff, Nat.reduceAdd, Nat.reduceLeDiff, reduceCtorEq, Nat.reduceBEq, Nat.reduceLT, Nat.reduceMod, fmc, int_toBitVec_meta, method_specs_simp]
  unfold Seen.sz
  repeat' (first | with_reducible apply And.intro | with_reducible intro _)
  all_goals first | omega | (exact hs) | (exact hs.1) | (exact hs.2.1) | (exact hs.2.2) | (exact hs.2.2.1) | (exact hs.2.2.2) | (exact hs.2.2.2.1) | (exact hs.2.2.2.2) | (exact hs.1.1) | (exact hs.1.2) | (exact hs.2.1.1) | (exact hs.2.1.2) | (unfold chk; grind) | grind
def Qdy : List AV → Option (Prop × AV)
  | [.agg [.str s_fl, .int .i64 s_nr], .int .i64 b] => some ((True) ∧ ((0 ≤ b ∧ b ≤ 1048576) ∧ (Seen.fitp (Seen.mk s_fl s_nr))), .int .i64 (Seen.sz (Seen.mk s_fl s_nr) b))
  | _ => none
theorem QqD : ∀ args p v, Qdy args = some (p, v) → p → Contract P 76 args [] v [] ∧ noref v = true ∧ No99 v := by
  intro args p v h1 h2
  unfold Qdy at h1
  split at h1
  · rename_i s_fl s_nr b
    cases h1
    obtain ⟨_, HP⟩ := h2
    have := QqC (Seen.mk s_fl s_nr) b HP.1 HP.2
    exact ⟨by simpa only [Seen.row] using this, rfl, trivial⟩
  · cases h1
theorem Qpa (t : Nat) (l : List Seen) (a : Int) (ha : 0 ≤ a ∧ a ≤ 1048576) (hl : l.length ≤ 9223372036854775807 ∧ ∀ y ∈ l, y.fitp) : Contract P 34 [.sl t 2 (l.map Seen.row), .int .i64 a] [] (.int .i64 (szS Seen.sz l a)) [] := by
  refine Qh ((Env.nil P).add 76 Qdy QqD) hm Qc3 (nlb rfl) rfl ?_; unfold UY; simp (maxSteps := 2000000) only [bitvec_to_nat, reduceIte, Nat.reduceEqDiff, Nat.reduceAdd, Nat.reduceLeDiff, reduceCtorEq, Nat.reduceBEq, Nat.reduceLT, Nat.reduceMod, fmc, Qdy, int_toBitVec_meta, method_specs_simp, List.take_zero, List.foldl_nil]
  have hz : GG a l.length = if a - l.length < 0 then -1 else a - l.length := rfl
  refine ⟨by omega, fun h1 => ?_, fun h1 => ?_⟩
  · unfold szS
    rw [(Kk Uy l _ (by omega) (by omega)).2.1 (by omega)]
  have e0 : GG a l.length = a - l.length := if_neg h1
  refine QH (fun i : Nat => [(1, .int .i64 ((l.take i).foldl (fun a x => x.sz a) (a - l.length))), (5, .int .i64 i)]) (fun _ => []) (fun i => i ≤ l.length ∧ 0 ≤ (l.take i).foldl (fun a x => x.sz a) (a - l.length)) (fun i => l.length - i) (0) (by simp only [Ju, Jv, Jw, Jx, Qi, Qj, Qk, Ql, reduceIte, Nat.reduceEqDiff]; exact ⟨by repeat' (first | exact trivial | refine ⟨.inr rfl, ?_⟩), by repeat' (first | exact trivial | refine ⟨rfl, ?_⟩), by first | rfl | simp [closedB, Qc, Qb, Qd, dom, Qa, *], by first | rfl | simp [keepB, dom]⟩) ?_ ?_
  · simp only [List.take_zero, List.foldl_nil]; omega
  intro i hi NX hN
  have hm := (Kk Uy (l.take i) (a - l.length) (by omega) (by omega)).2.2
  have hg : i < l.length → (l.getD i default).fitp := fun h => hl.2 _ (Jg h)
  have hn : i < l.length → (l.take (i + 1)).foldl (fun a x => x.sz a) (a - l.length) = (l.getD i default).sz ((l.take i).foldl (fun a x => x.sz a) (a - l.length)) := fun h => WV (f := Seen.sz) h
  have hs : i < l.length → (l.getD i default).sz ((l.take i).foldl (fun a x => x.sz a) (a - l.length)) < 0 → szS Seen.sz l a = -1 := fun h h2 => by unfold szS; rw [e0]; exact Qbr Uy h (by omega) (by omega) h2
  unfold Zl; simp (maxSteps := 2000000) only [bitvec_to_nat, reduceIte, Nat.reduceEqDiff, Nat.reduceAdd, Nat.reduceLeDiff, reduceCtorEq, Nat.reduceBEq, Nat.reduceLT, Nat.reduceMod, fmc, Qdy, int_toBitVec_meta, method_specs_simp, List.take_zero, List.foldl_nil]
  refine ⟨fun h2 => ⟨by omega, by omega, ⟨⟨by omega, by omega⟩, hg (by omega)⟩, fun h3 => by rw [hs (by omega) h3], fun h3 => ⟨by omega, ?_⟩⟩, fun h2 => ?_⟩
  · have e := hn (by omega)
    refine hN (i + 1) _ (by simp only [e, List.length_append, List.length_cons, List.length_nil, Nat.zero_add, List.map_append, List.map_cons, List.map_nil, Ju, Jv, Jw, Jx, Qi, Qj, Qk, Ql, reduceIte, Nat.reduceEqDiff]; exact ⟨by repeat' (first | exact trivial | refine ⟨.inr rfl, ?_⟩), by repeat' (first | exact trivial | refine ⟨rfl, ?_⟩), by first | rfl | simp [closedB, Qc, Qb, Qd, dom, Qa, *], by first | rfl | simp [keepB, dom]⟩) ?_ ?_
    · exact ⟨by omega, by rw [e]; omega⟩
    · omega
  · have e : i = l.length := by omega
    subst e
    simp only [List.take_length]; unfold szS; rw [e0]
def Qdz : List AV → Option (Prop × AV)
  | [.sl lt 2 lx, .int .i64 b] => some ((((lx.map Jc).map Seen.row = lx)) ∧ ((0 ≤ b ∧ b ≤ 1048576) ∧ ((lx.map Jc).length ≤ 9223372036854775807 ∧ ∀ y ∈ (lx.map Jc), Seen.fitp y)), .int .i64 (szS Seen.sz (lx.map Jc) b))
  | _ => none
theorem Qpb : ∀ args p v, Qdz args = some (p, v) → p → Contract P 34 args [] v [] ∧ noref v = true ∧ No99 v := by
  intro args p v h1 h2
  unfold Qdz at h1
  split at h1
  · rename_i lt lx b
    cases h1
    obtain ⟨e0, HP⟩ := h2
    have := Qpa lt (lx.map Jc) b HP.1 HP.2
    exact ⟨by simpa only [e0] using this, rfl, trivial⟩
  · cases h1
theorem QqE (s : Part) (a : Int) (ha : 0 ≤ a ∧ a ≤ 1048576) (hs : s.fitp) : Contract P 75 [.agg (s.row 1), .int .i64 a] [] (.int .i64 (s.sz a)) [] := by
  unfold Part.fitp at hs
  simp only [Part.row]
  refine Qh ((Env.nil P).add 23 Qs Qdj) hm QeW (nlb rfl) rfl ?_; unfold WF; simp (maxSteps := 2000000) only [bitvec_to_nat, reduceIte, Nat.reduceEqDiff, Nat.reduceAdd, Nat.reduceLeDiff, reduceCtorEq, Nat.reduceBEq, Nat.reduceLT, Nat.reduceMod, fmc, Qs, int_toBitVec_meta, method_specs_simp]
  unfold Part.sz
  have qbx : (GG (a - (s.fl.toList.length : Nat)) s.bx.length) ≤ max (a - (s.fl.toList.length : Nat)) (-1) := by unfold GG; split <;> omega
  repeat' (first | with_reducible apply And.intro | with_reducible intro _)
  all_goals first | omega | (exact hs) | (exact hs.1) | (exact hs.2.1) | (exact hs.2.2) | (exact hs.2.2.1) | (exact hs.2.2.2) | (exact hs.2.2.2.1) | (exact hs.2.2.2.2) | (exact hs.1.1) | (exact hs.1.2) | (exact hs.2.1.1) | (exact hs.2.1.2) | (unfold chk; grind) | grind
def QdA : List AV → Option (Prop × AV)
  | [.agg [.str s_fl, .int .i64 s_nr, .sl 1 6 s_bx], .int .i64 b] => some ((((s_bx.map QD).map Box6.row = s_bx)) ∧ ((0 ≤ b ∧ b ≤ 1048576) ∧ (Part.fitp (Part.mk s_fl s_nr (s_bx.map QD)))), .int .i64 (Part.sz (Part.mk s_fl s_nr (s_bx.map QD)) b))
  | _ => none
theorem QqF : ∀ args p v, QdA args = some (p, v) → p → Contract P 75 args [] v [] ∧ noref v = true ∧ No99 v := by
  intro args p v h1 h2
  unfold QdA at h1
  split at h1
  · rename_i s_fl s_nr s_bx b
    cases h1
    obtain ⟨e0, HP⟩ := h2
    have := QqE (Part.mk s_fl s_nr (s_bx.map QD)) b HP.1 HP.2
    exact ⟨by simpa only [e0, Part.row] using this, rfl, trivial⟩
  · cases h1
theorem Qpc (t : Nat) (l : List Part) (a : Int) (ha : 0 ≤ a ∧ a ≤ 1048576) (hl : l.length ≤ 9223372036854775807 ∧ ∀ y ∈ l, y.fitp) : Contract P 33 [.sl t 3 (l.map (Part.row 1)), .int .i64 a] [] (.int .i64 (szS Part.sz l a)) [] := by
  refine Qh ((Env.nil P).add 75 QdA QqF) hm Qc2 (nlb rfl) rfl ?_; unfold UX; simp (maxSteps := 2000000) only [bitvec_to_nat, reduceIte, Nat.reduceEqDiff, Nat.reduceAdd, Nat.reduceLeDiff, reduceCtorEq, Nat.reduceBEq, Nat.reduceLT, Nat.reduceMod, fmc, QdA, int_toBitVec_meta, method_specs_simp, List.take_zero, List.foldl_nil]
  have hz : GG a l.length = if a - l.length < 0 then -1 else a - l.length := rfl
  refine ⟨by omega, fun h1 => ?_, fun h1 => ?_⟩
  · unfold szS
    rw [(Kk Uz l _ (by omega) (by omega)).2.1 (by omega)]
  have e0 : GG a l.length = a - l.length := if_neg h1
  refine QH (fun i : Nat => [(1, .int .i64 ((l.take i).foldl (fun a x => x.sz a) (a - l.length))), (5, .int .i64 i)]) (fun _ => []) (fun i => i ≤ l.length ∧ 0 ≤ (l.take i).foldl (fun a x => x.sz a) (a - l.length)) (fun i => l.length - i) (0) (by simp only [Ju, Jv, Jw, Jx, Qi, Qj, Qk, Ql, reduceIte, Nat.reduceEqDiff]; exact ⟨by repeat' (first | exact trivial | refine ⟨.inr rfl, ?_⟩), by repeat' (first | exact trivial | refine ⟨rfl, ?_⟩), by first | rfl | simp [closedB, Qc, Qb, Qd, dom, Qa, *], by first | rfl | simp [keepB, dom]⟩) ?_ ?_
  · simp only [List.take_zero, List.foldl_nil]; omega
  intro i hi NX hN
  have hm := (Kk Uz (l.take i) (a - l.length) (by omega) (by omega)).2.2
  have hg : i < l.length → (l.getD i default).fitp := fun h => hl.2 _ (Jg h)
  have hn : i < l.length → (l.take (i + 1)).foldl (fun a x => x.sz a) (a - l.length) = (l.getD i default).sz ((l.take i).foldl (fun a x => x.sz a) (a - l.length)) := fun h => WV (f := Part.sz) h
  have hs : i < l.length → (l.getD i default).sz ((l.take i).foldl (fun a x => x.sz a) (a - l.length)) < 0 → szS Part.sz l a = -1 := fun h h2 => by unfold szS; rw [e0]; exact Qbr Uz h (by omega) (by omega) h2
  unfold Zk; simp (maxSteps := 2000000) only [bitvec_to_nat, reduceIte, Nat.reduceEqDiff, Nat.reduceAdd, Nat.reduceLeDiff, reduceCtorEq, Nat.reduceBEq, Nat.reduceLT, Nat.reduceMod, fmc, QdA, int_toBitVec_meta, method_specs_simp, List.take_zero, List.foldl_nil]
  refine ⟨fun h2 => ⟨by omega, by omega, ⟨⟨by omega, by omega⟩, hg (by omega)⟩, fun h3 => by rw [hs (by omega) h3], fun h3 => ⟨by omega, ?_⟩⟩, fun h2 => ?_⟩
  · have e := hn (by omega)
    refine hN (i + 1) _ (by simp only [e, List.length_append, List.length_cons, List.length_nil, Nat.zero_add, List.map_append, List.map_cons, List.map_nil, Ju, Jv, Jw, Jx, Qi, Qj, Qk, Ql, reduceIte, Nat.reduceEqDiff]; exact ⟨by repeat' (first | exact trivial | refine ⟨.inr rfl, ?_⟩), by repeat' (first | exact trivial | refine ⟨rfl, ?_⟩), by first | rfl | simp [closedB, Qc, Qb, Qd, dom, Qa, *], by first | rfl | simp [keepB, dom]⟩) ?_ ?_
    · exact ⟨by omega, by rw [e]; omega⟩
    · omega
  · have e : i = l.length := by omega
    subst e
    simp only [List.take_length]; unfold szS; rw [e0]
def QdB : List AV → Option (Prop × AV)
  | [.sl lt 3 lx, .int .i64 b] => some ((((lx.map Q9).map (Part.row 1) = lx)) ∧ ((0 ≤ b ∧ b ≤ 1048576) ∧ ((lx.map Q9).length ≤ 9223372036854775807 ∧ ∀ y ∈ (lx.map Q9), Part.fitp y)), .int .i64 (szS Part.sz (lx.map Q9) b))
  | _ => none
theorem Qpd : ∀ args p v, QdB args = some (p, v) → p → Contract P 33 args [] v [] ∧ noref v = true ∧ No99 v := by
  intro args p v h1 h2
  unfold QdB at h1
  split at h1
  · rename_i lt lx b
    cases h1
    obtain ⟨e0, HP⟩ := h2
    have := Qpc lt (lx.map Q9) b HP.1 HP.2
    exact ⟨by simpa only [e0] using this, rfl, trivial⟩
  · cases h1
theorem Qsw (s : Own) (a : Int) (ha : 0 ≤ a ∧ a ≤ 1048576) (hs : s.fitp) : Contract P 74 [.agg (s.row 1), .int .i64 a] [] (.int .i64 (s.sz a)) [] := by
  unfold Own.fitp at hs
  simp only [Own.row]
  refine Qh (((Env.nil P).add 23 Qs Qdj).add 105 W8 Qlx) hm QfN (nlb rfl) rfl ?_; unfold Qan; simp (maxSteps := 2000000) only [bitvec_to_nat, reduceIte, Nat.reduceEqDiff, Nat.reduceAdd, Nat.reduceLeDiff, reduceCtorEq, Nat.reduceBEq, Nat.reduceLT, Nat.reduceMod, fmc, Qs, W8, int_toBitVec_meta, method_specs_simp]
  unfold Own.sz
  have qtu : (GG ((a - (s.fl.toList.length : Nat)) - (s.dst.toList.length : Nat)) s.tu.length) ≤ max ((a - (s.fl.toList.length : Nat)) - (s.dst.toList.length : Nat)) (-1) := by unfold GG; split <;> omega
  have qnx : (GG (GG ((a - (s.fl.toList.length : Nat)) - (s.dst.toList.length : Nat)) s.tu.length) s.nx.length) ≤ max (GG ((a - (s.fl.toList.length : Nat)) - (s.dst.toList.length : Nat)) s.tu.length) (-1) := by unfold GG; split <;> omega
  have qgr : (szS W5 s.gr (GG (GG ((a - (s.fl.toList.length : Nat)) - (s.dst.toList.length : Nat)) s.tu.length) s.nx.length)) ≤ max (GG (GG ((a - (s.fl.toList.length : Nat)) - (s.dst.toList.length : Nat)) s.tu.length) s.nx.length) (-1) := (Yb W6 s.gr (GG (GG ((a - (s.fl.toList.length : Nat)) - (s.dst.toList.length : Nat)) s.tu.length) s.nx.length) (by omega)).2.2
  repeat' (first | with_reducible apply And.intro | with_reducible intro _)
  all_goals first | omega | (exact hs) | (exact hs.1) | (exact hs.2.1) | (exact hs.2.2) | (exact hs.2.2.1) | (exact hs.2.2.2) | (exact hs.2.2.2.1) | (exact hs.2.2.2.2) | (exact hs.1.1) | (exact hs.1.2) | (exact hs.2.1.1) | (exact hs.2.1.2) | (unfold chk; grind) | grind
def Qhq : List AV → Option (Prop × AV)
  | [.agg [.str s_fl, .int .i64 s_st, .int .i64 s_tn, .str s_dst, .int .i64 s_la, .int .i64 s_nr, .sl 1 6 s_tu, .int .i64 s_wi, .sl 1 6 s_nx, .sl 1 1 s_gr, .bool s_sent], .int .i64 b] => some ((((s_tu.map QD).map Box6.row = s_tu) ∧ ((s_nx.map QD).map Box6.row = s_nx) ∧ ((s_gr.map unS).map JJ = s_gr)) ∧ ((0 ≤ b ∧ b ≤ 1048576) ∧ (Own.fitp (Own.mk s_fl s_st s_tn s_dst s_la s_nr (s_tu.map QD) s_wi (s_nx.map QD) (s_gr.map unS) s_sent))), .int .i64 (Own.sz (Own.mk s_fl s_st s_tn s_dst s_la s_nr (s_tu.map QD) s_wi (s_nx.map QD) (s_gr.map unS) s_sent) b))
  | _ => none
theorem Qsx : ∀ args p v, Qhq args = some (p, v) → p → Contract P 74 args [] v [] ∧ noref v = true ∧ No99 v := by
  intro args p v h1 h2
  unfold Qhq at h1
  split at h1
  · rename_i s_fl s_st s_tn s_dst s_la s_nr s_tu s_wi s_nx s_gr s_sent b
    cases h1
    obtain ⟨⟨e0, e1, e2⟩, HP⟩ := h2
    have := Qsw (Own.mk s_fl s_st s_tn s_dst s_la s_nr (s_tu.map QD) s_wi (s_nx.map QD) (s_gr.map unS) s_sent) b HP.1 HP.2
    exact ⟨by simpa only [e0, e1, e2, Own.row] using this, rfl, trivial⟩
  · cases h1
theorem QqG (t : Nat) (l : List Own) (a : Int) (ha : 0 ≤ a ∧ a ≤ 1048576) (hl : l.length ≤ 9223372036854775807 ∧ ∀ y ∈ l, y.fitp) : Contract P 32 [.sl t 11 (l.map (Own.row 1)), .int .i64 a] [] (.int .i64 (szS Own.sz l a)) [] := by
  refine Qh ((Env.nil P).add 74 Qhq Qsx) hm QeN (nlb rfl) rfl ?_; unfold Wv; simp (maxSteps := 2000000) only [bitvec_to_nat, reduceIte, Nat.reduceEqDiff, Nat.reduceAdd, Nat.reduceLeDiff, reduceCtorEq, Nat.reduceBEq, Nat.reduceLT, Nat.reduceMod, fmc, Qhq, int_toBitVec_meta, method_specs_simp, List.take_zero, List.foldl_nil]
  have hz : GG a l.length = if a - l.length < 0 then -1 else a - l.length := rfl
  refine ⟨by omega, fun h1 => ?_, fun h1 => ?_⟩
  · unfold szS
    rw [(Kk W7 l _ (by omega) (by omega)).2.1 (by omega)]
  have e0 : GG a l.length = a - l.length := if_neg h1
  refine QH (fun i : Nat => [(1, .int .i64 ((l.take i).foldl (fun a x => x.sz a) (a - l.length))), (5, .int .i64 i)]) (fun _ => []) (fun i => i ≤ l.length ∧ 0 ≤ (l.take i).foldl (fun a x => x.sz a) (a - l.length)) (fun i => l.length - i) (0) (by simp only [Ju, Jv, Jw, Jx, Qi, Qj, Qk, Ql, reduceIte, Nat.reduceEqDiff]; exact ⟨by repeat' (first | exact trivial | refine ⟨.inr rfl, ?_⟩), by repeat' (first | exact trivial | refine ⟨rfl, ?_⟩), by first | rfl | simp [closedB, Qc, Qb, Qd, dom, Qa, *], by first | rfl | simp [keepB, dom]⟩) ?_ ?_
  · simp only [List.take_zero, List.foldl_nil]; omega
  intro i hi NX hN
  have hm := (Kk W7 (l.take i) (a - l.length) (by omega) (by omega)).2.2
  have hg : i < l.length → (l.getD i default).fitp := fun h => hl.2 _ (Jg h)
  have hn : i < l.length → (l.take (i + 1)).foldl (fun a x => x.sz a) (a - l.length) = (l.getD i default).sz ((l.take i).foldl (fun a x => x.sz a) (a - l.length)) := fun h => WV (f := Own.sz) h
  have hs : i < l.length → (l.getD i default).sz ((l.take i).foldl (fun a x => x.sz a) (a - l.length)) < 0 → szS Own.sz l a = -1 := fun h h2 => by unfold szS; rw [e0]; exact Qbr W7 h (by omega) (by omega) h2
  unfold Z4; simp (maxSteps := 2000000) only [bitvec_to_nat, reduceIte, Nat.reduceEqDiff, Nat.reduceAdd, Nat.reduceLeDiff, reduceCtorEq, Nat.reduceBEq, Nat.reduceLT, Nat.reduceMod, fmc, Qhq, int_toBitVec_meta, method_specs_simp, List.take_zero, List.foldl_nil]
  refine ⟨fun h2 => ⟨by omega, by omega, ⟨⟨by omega, by omega⟩, hg (by omega)⟩, fun h3 => by rw [hs (by omega) h3], fun h3 => ⟨by omega, ?_⟩⟩, fun h2 => ?_⟩
  · have e := hn (by omega)
    refine hN (i + 1) _ (by simp only [e, List.length_append, List.length_cons, List.length_nil, Nat.zero_add, List.map_append, List.map_cons, List.map_nil, Ju, Jv, Jw, Jx, Qi, Qj, Qk, Ql, reduceIte, Nat.reduceEqDiff]; exact ⟨by repeat' (first | exact trivial | refine ⟨.inr rfl, ?_⟩), by repeat' (first | exact trivial | refine ⟨rfl, ?_⟩), by first | rfl | simp [closedB, Qc, Qb, Qd, dom, Qa, *], by first | rfl | simp [keepB, dom]⟩) ?_ ?_
    · exact ⟨by omega, by rw [e]; omega⟩
    · omega
  · have e : i = l.length := by omega
    subst e
    simp only [List.take_length]; unfold szS; rw [e0]
def Qgn : List AV → Option (Prop × AV)
  | [.sl lt 11 lx, .int .i64 b] => some ((((lx.map JC).map (Own.row 1) = lx)) ∧ ((0 ≤ b ∧ b ≤ 1048576) ∧ ((lx.map JC).length ≤ 9223372036854775807 ∧ ∀ y ∈ (lx.map JC), Own.fitp y)), .int .i64 (szS Own.sz (lx.map JC) b))
  | _ => none
theorem QqH : ∀ args p v, Qgn args = some (p, v) → p → Contract P 32 args [] v [] ∧ noref v = true ∧ No99 v := by
  intro args p v h1 h2
  unfold Qgn at h1
  split at h1
  · rename_i lt lx b
    cases h1
    obtain ⟨e0, HP⟩ := h2
    have := QqG lt (lx.map JC) b HP.1 HP.2
    exact ⟨by simpa only [e0] using this, rfl, trivial⟩
  · cases h1
theorem QqI (s : Book) (a : Int) (ha : 0 ≤ a ∧ a ≤ 1048576) (hs : s.fitp) : Contract P 8 [.agg (s.row 1), .int .i64 a] [] (.int .i64 (s.sz a)) [] := by
  unfold Book.fitp at hs
  simp only [Book.row]
  refine Qh ((((Env.nil P).add 32 Qgn QqH).add 33 QdB Qpd).add 34 Qdz Qpb) hm QeI (nlb rfl) rfl ?_; unfold Wo; simp (maxSteps := 2000000) only [bitvec_to_nat, reduceIte, Nat.reduceEqDiff, Nat.reduceAdd, Nat.reduceLeDiff, reduceCtorEq, Nat.reduceBEq, Nat.reduceLT, Nat.reduceMod, fmc, Qgn, QdB, Qdz, int_toBitVec_meta, method_specs_simp]
  unfold Book.sz
  have qown : (szS Own.sz s.own a) ≤ max a (-1) := (Yb W7 s.own a (by omega)).2.2
  have qparts : (szS Part.sz s.parts (szS Own.sz s.own a)) ≤ max (szS Own.sz s.own a) (-1) := (Yb Uz s.parts (szS Own.sz s.own a) (by omega)).2.2
  have qseen : (szS Seen.sz s.seen (szS Part.sz s.parts (szS Own.sz s.own a))) ≤ max (szS Part.sz s.parts (szS Own.sz s.own a)) (-1) := (Yb Uy s.seen (szS Part.sz s.parts (szS Own.sz s.own a)) (by omega)).2.2
  repeat' (first | with_reducible apply And.intro | with_reducible intro _)
  all_goals first | omega | (exact hs) | (exact hs.1) | (exact hs.2.1) | (exact hs.2.2) | (exact hs.2.2.1) | (exact hs.2.2.2) | (exact hs.2.2.2.1) | (exact hs.2.2.2.2) | (exact hs.1.1) | (exact hs.1.2) | (exact hs.2.1.1) | (exact hs.2.1.2) | (unfold chk; grind) | grind
def Qt : List AV → Option (Prop × AV)
  | [.agg [.sl 1 11 s_own, .sl 1 3 s_parts, .sl 1 2 s_seen], .int .i64 b] => some ((((s_own.map JC).map (Own.row 1) = s_own) ∧ ((s_parts.map Q9).map (Part.row 1) = s_parts) ∧ ((s_seen.map Jc).map Seen.row = s_seen)) ∧ ((0 ≤ b ∧ b ≤ 1048576) ∧ (Book.fitp (Book.mk (s_own.map JC) (s_parts.map Q9) (s_seen.map Jc)))), .int .i64 (Book.sz (Book.mk (s_own.map JC) (s_parts.map Q9) (s_seen.map Jc)) b))
  | _ => none
theorem Qjj : ∀ args p v, Qt args = some (p, v) → p → Contract P 8 args [] v [] ∧ noref v = true ∧ No99 v := by
  intro args p v h1 h2
  unfold Qt at h1
  split at h1
  · rename_i s_own s_parts s_seen b
    cases h1
    obtain ⟨⟨e0, e1, e2⟩, HP⟩ := h2
    have := QqI (Book.mk (s_own.map JC) (s_parts.map Q9) (s_seen.map Jc)) b HP.1 HP.2
    exact ⟨by simpa only [e0, e1, e2, Book.row] using this, rfl, trivial⟩
  · cases h1
end
end Go.Ve

namespace Go.Ve
noncomputable section
open Go.Proofs
set_option maxRecDepth 100000
theorem ZH {lst : List ByteArray} {idx : Nat} {v : ByteArray} : (lst.map JJ).set idx (Q7 ((lst.map JJ).getD idx []) 0 [.str v]) = (lst.set idx v).map JJ :=
  Kg (α := ByteArray) (f := JJ) (fun s => v) fun x => by simp [JJ, Q7]
def JS (a : List ByteArray) (i : Nat) : List ByteArray := a.take i ++ List.replicate (a.length - i) ⟨#[]⟩
theorem Qbs {a : List ByteArray} {i : Nat} (h : i < a.length) : (JS a i).set i (a.getD i default) = JS a (i + 1) := by
  refine List.ext_getElem (by simp [JS]; omega) fun j h1 h2 => ?_
  by_cases e : j = i
  · subst e
    simp [JS, List.getElem_append, h]
    intro h9; omega
  · simp only [List.getElem_set_ne (Ne.symm e)]
    simp only [JS, List.getElem_append, List.length_take, List.getElem_take, List.getElem_replicate]
    split <;> split <;> first | rfl | omega
theorem Qig (t : Nat) (a : List ByteArray) (ha : a.length ≤ 1048576) : Contract P 112 [.sl t 1 (a.map JJ)] [] (.sl 0 1 (a.map JJ)) [] := by
  refine Qh (Env.nil P) hm QfT (nlb rfl) rfl ?_; unfold Qaw; simp (maxSteps := 2000000) only [bitvec_to_nat, reduceIte, Nat.reduceEqDiff, Nat.reduceAdd, Nat.reduceLeDiff, reduceCtorEq, Nat.reduceBEq, Nat.reduceLT, Nat.reduceMod, fmc, int_toBitVec_meta, method_specs_simp, ZH, Nat.sub_zero]
  have m0 : List.replicate a.length [.str ⟨#[]⟩] = (JS a 0).map JJ := by simp [JS, JJ]
  refine ⟨by omega, ?_⟩
  refine QH (fun i : Nat => [(4, .int .i64 i)]) (fun i => [(107, .arr 9 0 1 ((JS a i).map JJ))]) (fun i => i ≤ a.length) (fun i => a.length - i) 0 (by simp only [Ju, Jv, Jw, Jx, Qi, Qj, Qk, Ql, reduceIte, Nat.reduceEqDiff]; exact ⟨by repeat' (first | exact trivial | refine ⟨.inr rfl, ?_⟩), ⟨congrArg (fun g => some (AObj.arr 9 0 1 g)) m0, trivial⟩, rfl, rfl⟩) (Nat.zero_le _) ?_
  intro i hi NX hN
  skip
  unfold Va; simp (maxSteps := 2000000) only [bitvec_to_nat, reduceIte, Nat.reduceEqDiff, Nat.reduceAdd, Nat.reduceLeDiff, reduceCtorEq, Nat.reduceBEq, Nat.reduceLT, Nat.reduceMod, fmc, int_toBitVec_meta, method_specs_simp, ZH, Nat.sub_zero]
  refine ⟨fun h => ?_, fun h => ?_⟩
  · repeat' (first | with_reducible apply And.intro | with_reducible intro _)
    all_goals first
      | omega
      | rfl
      | exact hs2 (by omega)
      | (have e := Qbs (a := a) (i := i) (by omega)
         try simp only [JJ] at *
         refine hN (i + 1) _ ⟨by repeat' (first | exact trivial | refine ⟨.inr rfl, ?_⟩), ⟨congrArg (fun g => some (AObj.arr 9 0 1 (List.map JJ g))) e, trivial⟩, rfl, rfl⟩ ?_ ?_ <;> omega)
  · have e : i = a.length := by omega
    subst e
    simp only [JS, List.take_length, Nat.sub_self, List.replicate_zero, List.append_nil]
    try rw [List.take_of_length_le (by simp)]
def W9 : List AV → Option (Prop × AV)
  | [.sl st 1 sx] => some ((((sx.map unS).map JJ = sx)) ∧ ((sx.map unS).length ≤ 1048576), .sl 0 1 ((sx.map unS).map JJ))
  | _ => none
theorem Qly : ∀ args p v, W9 args = some (p, v) → p → Contract P 112 args [] v [] ∧ noref v = true ∧ No99 v := by
  intro args p v h1 h2
  unfold W9 at h1
  split at h1
  · rename_i st sx
    cases h1
    obtain ⟨e0, HP⟩ := h2
    have := Qig st (sx.map unS) HP
    exact ⟨by simpa only [e0] using this, rfl, by simp [No99, JT, Jj, QfD, Kz, Ky, Ye, KM, Kc, JY, XX, K8, K9, Gz, -List.map_map]⟩
  · cases h1
theorem Qih (t t' : Nat) (p q : List ByteArray) (hp : p.length ≤ 4611686018427387904) : Contract P 117 [.sl t 1 (p.map JJ), .sl t' 1 (q.map JJ)] [] (.bool (decide (p = q))) [] := by
  refine Qh (Env.nil P) hm QfU (nlb rfl) rfl ?_; unfold Qax; simp (maxSteps := 2000000) only [bitvec_to_nat, reduceIte, Nat.reduceEqDiff, Nat.reduceAdd, Nat.reduceLeDiff, reduceCtorEq, Nat.reduceBEq, Nat.reduceLT, Nat.reduceMod, fmc, int_toBitVec_meta, method_specs_simp]
  refine ⟨fun h1 h => h1 (by rw [h]), fun h1 => ?_⟩
  refine QH (fun i : Nat => [(5, .int .i64 i)]) (fun _ => []) (fun i => i ≤ p.length ∧ ∀ j, j < i → p.getD j default = q.getD j default) (fun i => p.length - i) (0) (by simp only [Ju, Jv, Jw, Jx, Qi, Qj, Qk, Ql, reduceIte, Nat.reduceEqDiff]; exact ⟨by repeat' (first | exact trivial | refine ⟨.inr rfl, ?_⟩), by repeat' (first | exact trivial | refine ⟨rfl, ?_⟩), by first | rfl | simp [closedB, Qc, Qb, Qd, dom, Qa, *], by first | rfl | simp [keepB, dom]⟩) ?_ ?_
  · exact ⟨Nat.zero_le _, by intro j hj; omega⟩
  intro i hi NX hN
  unfold Vb; simp (maxSteps := 2000000) only [bitvec_to_nat, reduceIte, Nat.reduceEqDiff, Nat.reduceAdd, Nat.reduceLeDiff, reduceCtorEq, Nat.reduceBEq, Nat.reduceLT, Nat.reduceMod, fmc, int_toBitVec_meta, method_specs_simp]
  skip
  repeat' (first | with_reducible apply And.intro | with_reducible intro _)
  all_goals first
    | omega
    | (refine hN (i + 1) _ (by simp only [Ju, Jv, Jw, Jx, Qi, Qj, Qk, Ql, reduceIte, Nat.reduceEqDiff]; exact ⟨by repeat' (first | exact trivial | refine ⟨.inr rfl, ?_⟩), by repeat' (first | exact trivial | refine ⟨rfl, ?_⟩), by first | rfl | simp [closedB, Qc, Qb, Qd, dom, Qa, *], by first | rfl | simp [keepB, dom]⟩) ?_ ?_
       · exact ⟨by omega, Jf hi.2 (by with_reducible assumption)⟩
       · omega)
    | (intro h; subst h; exact absurd rfl (by with_reducible assumption))
    | (exact Vc (by omega) fun j hj => hi.2 j (by omega))
    | grind
def Qaa : List AV → Option (Prop × AV)
  | [.sl ct 1 cx, .sl dt 1 dx] => some ((((cx.map unS).map JJ = cx) ∧ ((dx.map unS).map JJ = dx)) ∧ ((cx.map unS).length ≤ 4611686018427387904), .bool (decide ((cx.map unS) = (dx.map unS))))
  | _ => none
theorem Qlz : ∀ args p v, Qaa args = some (p, v) → p → Contract P 117 args [] v [] ∧ noref v = true ∧ No99 v := by
  intro args p v h1 h2
  unfold Qaa at h1
  split at h1
  · rename_i ct cx dt dx
    cases h1
    obtain ⟨⟨e0, e1⟩, HP⟩ := h2
    have := Qih ct dt (cx.map unS) (dx.map unS) HP
    exact ⟨by simpa only [e0, e1] using this, rfl, trivial⟩
  · cases h1
theorem QqJ (s : Zone) : Contract P 41 [.agg (s.row)] [] (.agg (s.row)) [] := by
  simp only [Zone.row]
  refine Qh (Env.nil P) hm QeP (nlb rfl) rfl ?_; unfold Wx; simp (maxSteps := 2000000) only [bitvec_to_nat, reduceIte, Nat.reduceEqDiff, Nat.reduceAdd, Nat.reduceLeDiff, reduceCtorEq, Nat.reduceBEq, Nat.reduceLT, Nat.reduceMod, fmc, int_toBitVec_meta, method_specs_simp]
  all_goals trivial
def Vg : List AV → Option (Prop × AV)
  | [.agg [.str s_nm, .int .i64 s_x0, .int .i64 s_y0, .int .i64 s_x1, .int .i64 s_y1]] => some ((True) ∧ (True), .agg (Zone.row (Zone.mk s_nm s_x0 s_y0 s_x1 s_y1)))
  | _ => none
theorem Qmm : ∀ args p v, Vg args = some (p, v) → p → Contract P 41 args [] v [] ∧ noref v = true ∧ No99 v := by
  intro args p v h1 h2
  unfold Vg at h1
  split at h1
  · rename_i s_nm s_x0 s_y0 s_x1 s_y1
    cases h1
    obtain ⟨_, HP⟩ := h2
    have := QqJ (Zone.mk s_nm s_x0 s_y0 s_x1 s_y1)
    exact ⟨by simpa only [Zone.row] using this, rfl, by simp [Zone.row, No99, JT, Jj, QfD, Kz, Ky, Ye, KM, Kc, JY, XX, K8, K9, Gz, -List.map_map]⟩
  · cases h1
theorem Qgo {lst : List Zone} {idx : Nat} {vnm : ByteArray} {vx0 : Int} {vy0 : Int} {vx1 : Int} {vy1 : Int} : (lst.map Zone.row).set idx (Q7 ((lst.map Zone.row).getD idx []) 0 [.str vnm, .int .i64 vx0, .int .i64 vy0, .int .i64 vx1, .int .i64 vy1]) = (lst.set idx (Zone.mk vnm vx0 vy0 vx1 vy1)).map Zone.row :=
  Kg (α := Zone) (f := Zone.row) (fun s => (Zone.mk vnm vx0 vy0 vx1 vy1)) fun x => by simp [Zone.row, Q7]
def XD (a : List Zone) (i : Nat) : List Zone := a.take i ++ List.replicate (a.length - i) ⟨⟨#[]⟩, 0, 0, 0, 0⟩
theorem QiJ {a : List Zone} {i : Nat} (h : i < a.length) : (XD a i).set i (a.getD i default) = XD a (i + 1) := by
  refine List.ext_getElem (by simp [XD]; omega) fun j h1 h2 => ?_
  by_cases e : j = i
  · subst e
    simp [XD, List.getElem_append, h]
    intro h9; omega
  · simp only [List.getElem_set_ne (Ne.symm e)]
    simp only [XD, List.getElem_append, List.length_take, List.getElem_take, List.getElem_replicate]
    split <;> split <;> first | rfl | omega
theorem Qhr (t : Nat) (a : List Zone) (ha : a.length ≤ 1048576) : Contract P 10 [.sl t 5 (a.map Zone.row)] [] (.sl 0 5 (a.map Zone.row)) [] := by
  refine Qh ((Env.nil P).add 41 Vg Qmm) hm QcZ (nlb rfl) rfl ?_; unfold UU; simp (maxSteps := 2000000) only [bitvec_to_nat, reduceIte, Nat.reduceEqDiff, Nat.reduceAdd, Nat.reduceLeDiff, reduceCtorEq, Nat.reduceBEq, Nat.reduceLT, Nat.reduceMod, fmc, Vg, int_toBitVec_meta, method_specs_simp, Qgo, Nat.sub_zero]
  have m0 : List.replicate a.length [.str ⟨#[]⟩, .int .i64 0, .int .i64 0, .int .i64 0, .int .i64 0] = (XD a 0).map Zone.row := by simp [XD, Zone.row]
  refine ⟨by omega, ?_⟩
  refine QH (fun i : Nat => [(4, .int .i64 i)]) (fun i => [(107, .arr 76 0 5 ((XD a i).map Zone.row))]) (fun i => i ≤ a.length) (fun i => a.length - i) 0 (by simp only [Ju, Jv, Jw, Jx, Qi, Qj, Qk, Ql, reduceIte, Nat.reduceEqDiff]; exact ⟨by repeat' (first | exact trivial | refine ⟨.inr rfl, ?_⟩), ⟨congrArg (fun g => some (AObj.arr 76 0 5 g)) m0, trivial⟩, rfl, rfl⟩) (Nat.zero_le _) ?_
  intro i hi NX hN
  skip
  unfold Ze; simp (maxSteps := 2000000) only [bitvec_to_nat, reduceIte, Nat.reduceEqDiff, Nat.reduceAdd, Nat.reduceLeDiff, reduceCtorEq, Nat.reduceBEq, Nat.reduceLT, Nat.reduceMod, fmc, Vg, int_toBitVec_meta, method_specs_simp, Qgo, Nat.sub_zero]
  refine ⟨fun h => ?_, fun h => ?_⟩
  · repeat' (first | with_reducible apply And.intro | with_reducible intro _)
    all_goals first
      | omega
      | rfl
      | exact hs2 (by omega)
      | (have e := QiJ (a := a) (i := i) (by omega)
         try simp only [Zone.row] at *
         refine hN (i + 1) _ ⟨by repeat' (first | exact trivial | refine ⟨.inr rfl, ?_⟩), ⟨congrArg (fun g => some (AObj.arr 76 0 5 (List.map Zone.row g))) e, trivial⟩, rfl, rfl⟩ ?_ ?_ <;> omega)
  · have e : i = a.length := by omega
    subst e
    simp only [XD, List.take_length, Nat.sub_self, List.replicate_zero, List.append_nil]
    try rw [List.take_of_length_le (by simp)]
theorem QqK (c d : Zone)  : Contract P 48 [.agg (c.row), .agg (d.row)] [] (.bool (decide (c = d))) [] := by
  obtain ⟨c_nm, c_x0, c_y0, c_x1, c_y1⟩ := c
  obtain ⟨d_nm, d_x0, d_y0, d_x1, d_y1⟩ := d
  simp only [Zone.row]
  refine Qh (Env.nil P) hm QeS (nlb rfl) rfl ?_; unfold WA; simp (maxSteps := 2000000) only [bitvec_to_nat, reduceIte, Nat.reduceEqDiff, Nat.reduceAdd, Nat.reduceLeDiff, reduceCtorEq, Nat.reduceBEq, Nat.reduceLT, Nat.reduceMod, fmc, int_toBitVec_meta, method_specs_simp]
  simp only [Zone.mk.injEq]
  repeat' (first | with_reducible apply And.intro | with_reducible intro _)
  all_goals first | omega | (simp_all; done) | grind
def QdC : List AV → Option (Prop × AV)
  | [.agg [.str c_nm, .int .i64 c_x0, .int .i64 c_y0, .int .i64 c_x1, .int .i64 c_y1], .agg [.str d_nm, .int .i64 d_x0, .int .i64 d_y0, .int .i64 d_x1, .int .i64 d_y1]] => some ((True) ∧ (True), .bool (decide ((Zone.mk c_nm c_x0 c_y0 c_x1 c_y1) = (Zone.mk d_nm d_x0 d_y0 d_x1 d_y1))))
  | _ => none
theorem QqL : ∀ args p v, QdC args = some (p, v) → p → Contract P 48 args [] v [] ∧ noref v = true ∧ No99 v := by
  intro args p v h1 h2
  unfold QdC at h1
  split at h1
  · rename_i c_nm c_x0 c_y0 c_x1 c_y1 d_nm d_x0 d_y0 d_x1 d_y1
    cases h1
    obtain ⟨_, HP⟩ := h2
    have := QqK (Zone.mk c_nm c_x0 c_y0 c_x1 c_y1) (Zone.mk d_nm d_x0 d_y0 d_x1 d_y1)
    exact ⟨by simpa only [Zone.row, Zone.row] using this, rfl, trivial⟩
  · cases h1
theorem Qpe (t t' : Nat) (p q : List Zone) (hp : p.length ≤ 4611686018427387904) : Contract P 14 [.sl t 5 (p.map Zone.row), .sl t' 5 (q.map Zone.row)] [] (.bool (decide (p = q))) [] := by
  refine Qh ((Env.nil P).add 48 QdC QqL) hm Qc1 (nlb rfl) rfl ?_; unfold UW; simp (maxSteps := 2000000) only [bitvec_to_nat, reduceIte, Nat.reduceEqDiff, Nat.reduceAdd, Nat.reduceLeDiff, reduceCtorEq, Nat.reduceBEq, Nat.reduceLT, Nat.reduceMod, fmc, QdC, int_toBitVec_meta, method_specs_simp]
  refine ⟨fun h1 h => h1 (by rw [h]), fun h1 => ?_⟩
  refine QH (fun i : Nat => [(5, .int .i64 i)]) (fun _ => []) (fun i => i ≤ p.length ∧ ∀ j, j < i → p.getD j default = q.getD j default) (fun i => p.length - i) (0) (by simp only [Ju, Jv, Jw, Jx, Qi, Qj, Qk, Ql, reduceIte, Nat.reduceEqDiff]; exact ⟨by repeat' (first | exact trivial | refine ⟨.inr rfl, ?_⟩), by repeat' (first | exact trivial | refine ⟨rfl, ?_⟩), by first | rfl | simp [closedB, Qc, Qb, Qd, dom, Qa, *], by first | rfl | simp [keepB, dom]⟩) ?_ ?_
  · exact ⟨Nat.zero_le _, by intro j hj; omega⟩
  intro i hi NX hN
  unfold Zg; simp (maxSteps := 2000000) only [bitvec_to_nat, reduceIte, Nat.reduceEqDiff, Nat.reduceAdd, Nat.reduceLeDiff, reduceCtorEq, Nat.reduceBEq, Nat.reduceLT, Nat.reduceMod, fmc, QdC, int_toBitVec_meta, method_specs_simp]
  skip
  repeat' (first | with_reducible apply And.intro | with_reducible intro _)
  all_goals first
    | omega
    | (refine hN (i + 1) _ (by simp only [Ju, Jv, Jw, Jx, Qi, Qj, Qk, Ql, reduceIte, Nat.reduceEqDiff]; exact ⟨by repeat' (first | exact trivial | refine ⟨.inr rfl, ?_⟩), by repeat' (first | exact trivial | refine ⟨rfl, ?_⟩), by first | rfl | simp [closedB, Qc, Qb, Qd, dom, Qa, *], by first | rfl | simp [keepB, dom]⟩) ?_ ?_
       · exact ⟨by omega, Jf hi.2 (by with_reducible assumption)⟩
       · omega)
    | (intro h; subst h; exact absurd rfl (by with_reducible assumption))
    | (exact Vc (by omega) fun j hj => hi.2 j (by omega))
    | grind
def Qp : List AV → Option (Prop × AV)
  | [.sl ct 5 cx, .sl dt 5 dx] => some ((((cx.map QB).map Zone.row = cx) ∧ ((dx.map QB).map Zone.row = dx)) ∧ ((cx.map QB).length ≤ 4611686018427387904), .bool (decide ((cx.map QB) = (dx.map QB))))
  | _ => none
theorem Qhs : ∀ args p v, Qp args = some (p, v) → p → Contract P 14 args [] v [] ∧ noref v = true ∧ No99 v := by
  intro args p v h1 h2
  unfold Qp at h1
  split at h1
  · rename_i ct cx dt dx
    cases h1
    obtain ⟨⟨e0, e1⟩, HP⟩ := h2
    have := Qpe ct dt (cx.map QB) (dx.map QB) HP
    exact ⟨by simpa only [e0, e1] using this, rfl, trivial⟩
  · cases h1
theorem QqM (s : Seen) : Contract P 85 [.agg (s.row)] [] (.agg (s.row)) [] := by
  simp only [Seen.row]
  refine Qh (Env.nil P) hm Qe0 (nlb rfl) rfl ?_; unfold WK; simp (maxSteps := 2000000) only [bitvec_to_nat, reduceIte, Nat.reduceEqDiff, Nat.reduceAdd, Nat.reduceLeDiff, reduceCtorEq, Nat.reduceBEq, Nat.reduceLT, Nat.reduceMod, fmc, int_toBitVec_meta, method_specs_simp]
  all_goals trivial
def Vh : List AV → Option (Prop × AV)
  | [.agg [.str s_fl, .int .i64 s_nr]] => some ((True) ∧ (True), .agg (Seen.row (Seen.mk s_fl s_nr)))
  | _ => none
theorem Qmn : ∀ args p v, Vh args = some (p, v) → p → Contract P 85 args [] v [] ∧ noref v = true ∧ No99 v := by
  intro args p v h1 h2
  unfold Vh at h1
  split at h1
  · rename_i s_fl s_nr
    cases h1
    obtain ⟨_, HP⟩ := h2
    have := QqM (Seen.mk s_fl s_nr)
    exact ⟨by simpa only [Seen.row] using this, rfl, by simp [Seen.row, No99, JT, Jj, QfD, Kz, Ky, Ye, KM, Kc, JY, XX, K8, K9, Gz, -List.map_map]⟩
  · cases h1
theorem Qgp {lst : List Seen} {idx : Nat} {vfl : ByteArray} {vnr : Int} : (lst.map Seen.row).set idx (Q7 ((lst.map Seen.row).getD idx []) 0 [.str vfl, .int .i64 vnr]) = (lst.set idx (Seen.mk vfl vnr)).map Seen.row :=
  Kg (α := Seen) (f := Seen.row) (fun s => (Seen.mk vfl vnr)) fun x => by simp [Seen.row, Q7]
def XE (a : List Seen) (i : Nat) : List Seen := a.take i ++ List.replicate (a.length - i) ⟨⟨#[]⟩, 0⟩
theorem QiK {a : List Seen} {i : Nat} (h : i < a.length) : (XE a i).set i (a.getD i default) = XE a (i + 1) := by
  refine List.ext_getElem (by simp [XE]; omega) fun j h1 h2 => ?_
  by_cases e : j = i
  · subst e
    simp [XE, List.getElem_append, h]
    intro h9; omega
  · simp only [List.getElem_set_ne (Ne.symm e)]
    simp only [XE, List.getElem_append, List.length_take, List.getElem_take, List.getElem_replicate]
    split <;> split <;> first | rfl | omega
theorem Qpf (t : Nat) (a : List Seen) (ha : a.length ≤ 1048576) : Contract P 44 [.sl t 2 (a.map Seen.row)] [] (.sl 0 2 (a.map Seen.row)) [] := by
  refine Qh ((Env.nil P).add 85 Vh Qmn) hm Qc5 (nlb rfl) rfl ?_; unfold U0; simp (maxSteps := 2000000) only [bitvec_to_nat, reduceIte, Nat.reduceEqDiff, Nat.reduceAdd, Nat.reduceLeDiff, reduceCtorEq, Nat.reduceBEq, Nat.reduceLT, Nat.reduceMod, fmc, Vh, int_toBitVec_meta, method_specs_simp, Qgp, Nat.sub_zero]
  have m0 : List.replicate a.length [.str ⟨#[]⟩, .int .i64 0] = (XE a 0).map Seen.row := by simp [XE, Seen.row]
  refine ⟨by omega, ?_⟩
  refine QH (fun i : Nat => [(4, .int .i64 i)]) (fun i => [(107, .arr 118 0 2 ((XE a i).map Seen.row))]) (fun i => i ≤ a.length) (fun i => a.length - i) 0 (by simp only [Ju, Jv, Jw, Jx, Qi, Qj, Qk, Ql, reduceIte, Nat.reduceEqDiff]; exact ⟨by repeat' (first | exact trivial | refine ⟨.inr rfl, ?_⟩), ⟨congrArg (fun g => some (AObj.arr 118 0 2 g)) m0, trivial⟩, rfl, rfl⟩) (Nat.zero_le _) ?_
  intro i hi NX hN
  skip
  unfold Zn; simp (maxSteps := 2000000) only [bitvec_to_nat, reduceIte, Nat.reduceEqDiff, Nat.reduceAdd, Nat.reduceLeDiff, reduceCtorEq, Nat.reduceBEq, Nat.reduceLT, Nat.reduceMod, fmc, Vh, int_toBitVec_meta, method_specs_simp, Qgp, Nat.sub_zero]
  refine ⟨fun h => ?_, fun h => ?_⟩
  · repeat' (first | with_reducible apply And.intro | with_reducible intro _)
    all_goals first
      | omega
      | rfl
      | exact hs2 (by omega)
      | (have e := QiK (a := a) (i := i) (by omega)
         try simp only [Seen.row] at *
         refine hN (i + 1) _ ⟨by repeat' (first | exact trivial | refine ⟨.inr rfl, ?_⟩), ⟨congrArg (fun g => some (AObj.arr 118 0 2 (List.map Seen.row g))) e, trivial⟩, rfl, rfl⟩ ?_ ?_ <;> omega)
  · have e : i = a.length := by omega
    subst e
    simp only [XE, List.take_length, Nat.sub_self, List.replicate_zero, List.append_nil]
    try rw [List.take_of_length_le (by simp)]
def QdD : List AV → Option (Prop × AV)
  | [.sl st 2 sx] => some ((((sx.map Jc).map Seen.row = sx)) ∧ ((sx.map Jc).length ≤ 1048576), .sl 0 2 ((sx.map Jc).map Seen.row))
  | _ => none
theorem Qpg : ∀ args p v, QdD args = some (p, v) → p → Contract P 44 args [] v [] ∧ noref v = true ∧ No99 v := by
  intro args p v h1 h2
  unfold QdD at h1
  split at h1
  · rename_i st sx
    cases h1
    obtain ⟨e0, HP⟩ := h2
    have := Qpf st (sx.map Jc) HP
    exact ⟨by simpa only [e0] using this, rfl, by simp [No99, JT, Jj, QfD, Kz, Ky, Ye, KM, Kc, JY, XX, K8, K9, Gz, -List.map_map]⟩
  · cases h1
theorem QqN (c d : Seen)  : Contract P 93 [.agg (c.row), .agg (d.row)] [] (.bool (decide (c = d))) [] := by
  obtain ⟨c_fl, c_nr⟩ := c
  obtain ⟨d_fl, d_nr⟩ := d
  simp only [Seen.row]
  refine Qh (Env.nil P) hm Qe2 (nlb rfl) rfl ?_; unfold WM; simp (maxSteps := 2000000) only [bitvec_to_nat, reduceIte, Nat.reduceEqDiff, Nat.reduceAdd, Nat.reduceLeDiff, reduceCtorEq, Nat.reduceBEq, Nat.reduceLT, Nat.reduceMod, fmc, int_toBitVec_meta, method_specs_simp]
  simp only [Seen.mk.injEq]
  repeat' (first | with_reducible apply And.intro | with_reducible intro _)
  all_goals first | omega | (simp_all; done) | grind
def QdE : List AV → Option (Prop × AV)
  | [.agg [.str c_fl, .int .i64 c_nr], .agg [.str d_fl, .int .i64 d_nr]] => some ((True) ∧ (True), .bool (decide ((Seen.mk c_fl c_nr) = (Seen.mk d_fl d_nr))))
  | _ => none
theorem QqO : ∀ args p v, QdE args = some (p, v) → p → Contract P 93 args [] v [] ∧ noref v = true ∧ No99 v := by
  intro args p v h1 h2
  unfold QdE at h1
  split at h1
  · rename_i c_fl c_nr d_fl d_nr
    cases h1
    obtain ⟨_, HP⟩ := h2
    have := QqN (Seen.mk c_fl c_nr) (Seen.mk d_fl d_nr)
    exact ⟨by simpa only [Seen.row, Seen.row] using this, rfl, trivial⟩
  · cases h1
theorem Qph (t t' : Nat) (p q : List Seen) (hp : p.length ≤ 4611686018427387904) : Contract P 51 [.sl t 2 (p.map Seen.row), .sl t' 2 (q.map Seen.row)] [] (.bool (decide (p = q))) [] := by
  refine Qh ((Env.nil P).add 93 QdE QqO) hm Qc7 (nlb rfl) rfl ?_; unfold U2; simp (maxSteps := 2000000) only [bitvec_to_nat, reduceIte, Nat.reduceEqDiff, Nat.reduceAdd, Nat.reduceLeDiff, reduceCtorEq, Nat.reduceBEq, Nat.reduceLT, Nat.reduceMod, fmc, QdE, int_toBitVec_meta, method_specs_simp]
  refine ⟨fun h1 h => h1 (by rw [h]), fun h1 => ?_⟩
  refine QH (fun i : Nat => [(5, .int .i64 i)]) (fun _ => []) (fun i => i ≤ p.length ∧ ∀ j, j < i → p.getD j default = q.getD j default) (fun i => p.length - i) (0) (by simp only [Ju, Jv, Jw, Jx, Qi, Qj, Qk, Ql, reduceIte, Nat.reduceEqDiff]; exact ⟨by repeat' (first | exact trivial | refine ⟨.inr rfl, ?_⟩), by repeat' (first | exact trivial | refine ⟨rfl, ?_⟩), by first | rfl | simp [closedB, Qc, Qb, Qd, dom, Qa, *], by first | rfl | simp [keepB, dom]⟩) ?_ ?_
  · exact ⟨Nat.zero_le _, by intro j hj; omega⟩
  intro i hi NX hN
  unfold Zp; simp (maxSteps := 2000000) only [bitvec_to_nat, reduceIte, Nat.reduceEqDiff, Nat.reduceAdd, Nat.reduceLeDiff, reduceCtorEq, Nat.reduceBEq, Nat.reduceLT, Nat.reduceMod, fmc, QdE, int_toBitVec_meta, method_specs_simp]
  skip
  repeat' (first | with_reducible apply And.intro | with_reducible intro _)
  all_goals first
    | omega
    | (refine hN (i + 1) _ (by simp only [Ju, Jv, Jw, Jx, Qi, Qj, Qk, Ql, reduceIte, Nat.reduceEqDiff]; exact ⟨by repeat' (first | exact trivial | refine ⟨.inr rfl, ?_⟩), by repeat' (first | exact trivial | refine ⟨rfl, ?_⟩), by first | rfl | simp [closedB, Qc, Qb, Qd, dom, Qa, *], by first | rfl | simp [keepB, dom]⟩) ?_ ?_
       · exact ⟨by omega, Jf hi.2 (by with_reducible assumption)⟩
       · omega)
    | (intro h; subst h; exact absurd rfl (by with_reducible assumption))
    | (exact Vc (by omega) fun j hj => hi.2 j (by omega))
    | grind
def WW : List AV → Option (Prop × AV)
  | [.sl ct 2 cx, .sl dt 2 dx] => some ((((cx.map Jc).map Seen.row = cx) ∧ ((dx.map Jc).map Seen.row = dx)) ∧ ((cx.map Jc).length ≤ 4611686018427387904), .bool (decide ((cx.map Jc) = (dx.map Jc))))
  | _ => none
theorem QkA : ∀ args p v, WW args = some (p, v) → p → Contract P 51 args [] v [] ∧ noref v = true ∧ No99 v := by
  intro args p v h1 h2
  unfold WW at h1
  split at h1
  · rename_i ct cx dt dx
    cases h1
    obtain ⟨⟨e0, e1⟩, HP⟩ := h2
    have := Qph ct dt (cx.map Jc) (dx.map Jc) HP
    exact ⟨by simpa only [e0, e1] using this, rfl, trivial⟩
  · cases h1
theorem QqP (s : Part) (hs : s.small) : Contract P 84 [.agg (s.row 1)] [] (.agg (s.row 0)) [] := by
  unfold Part.small at hs
  simp only [Part.row]
  refine Qh ((Env.nil P).add 25 QbO Qmf) hm WJ (nlb rfl) rfl ?_; unfold Xz; simp (maxSteps := 2000000) only [bitvec_to_nat, reduceIte, Nat.reduceEqDiff, Nat.reduceAdd, Nat.reduceLeDiff, reduceCtorEq, Nat.reduceBEq, Nat.reduceLT, Nat.reduceMod, fmc, QbO, int_toBitVec_meta, method_specs_simp]
  repeat' (first | with_reducible apply And.intro | with_reducible intro _)
  all_goals first | omega | grind | grind [Word.small, Own.small, Part.small, Book.small, Sector.small, HCraft.small, World.small]
def QdF : List AV → Option (Prop × AV)
  | [.agg [.str s_fl, .int .i64 s_nr, .sl 1 6 s_bx]] => some ((((s_bx.map QD).map Box6.row = s_bx)) ∧ (Part.small (Part.mk s_fl s_nr (s_bx.map QD))), .agg (Part.row 0 (Part.mk s_fl s_nr (s_bx.map QD))))
  | _ => none
theorem QqQ : ∀ args p v, QdF args = some (p, v) → p → Contract P 84 args [] v [] ∧ noref v = true ∧ No99 v := by
  intro args p v h1 h2
  unfold QdF at h1
  split at h1
  · rename_i s_fl s_nr s_bx
    cases h1
    obtain ⟨e0, HP⟩ := h2
    have := QqP (Part.mk s_fl s_nr (s_bx.map QD)) HP
    exact ⟨by simpa only [e0, Part.row] using this, rfl, by simp [Part.row, No99, JT, Jj, QfD, Kz, Ky, Ye, KM, Kc, JY, XX, K8, K9, Gz, -List.map_map]⟩
  · cases h1
theorem Qmo {lst : List Part} {idx : Nat} {vfl : ByteArray} {vnr : Int} {vbx : List Box6} : (lst.map (Part.row 0)).set idx (Q7 ((lst.map (Part.row 0)).getD idx []) 0 [.str vfl, .int .i64 vnr, .sl 0 6 (vbx.map Box6.row)]) = (lst.set idx (Part.mk vfl vnr vbx)).map (Part.row 0) :=
  Kg (α := Part) (f := (Part.row 0)) (fun s => (Part.mk vfl vnr vbx)) fun x => by simp [Part.row, Q7]
def Qab (a : List Part) (i : Nat) : List Part := a.take i ++ List.replicate (a.length - i) ⟨⟨#[]⟩, 0, []⟩
theorem QnE {a : List Part} {i : Nat} (h : i < a.length) : (Qab a i).set i (a.getD i default) = Qab a (i + 1) := by
  refine List.ext_getElem (by simp [Qab]; omega) fun j h1 h2 => ?_
  by_cases e : j = i
  · subst e
    simp [Qab, List.getElem_append, h]
    intro h9; omega
  · simp only [List.getElem_set_ne (Ne.symm e)]
    simp only [Qab, List.getElem_append, List.length_take, List.getElem_take, List.getElem_replicate]
    split <;> split <;> first | rfl | omega
theorem Qpi (t : Nat) (a : List Part) (ha : a.length ≤ 1048576) (hs : ∀ x ∈ a, x.small) : Contract P 43 [.sl t 3 (a.map (Part.row 1))] [] (.sl 0 3 (a.map (Part.row 0))) [] := by
  refine Qh ((Env.nil P).add 84 QdF QqQ) hm Qc4 (nlb rfl) rfl ?_; unfold UZ; simp (maxSteps := 2000000) only [bitvec_to_nat, reduceIte, Nat.reduceEqDiff, Nat.reduceAdd, Nat.reduceLeDiff, reduceCtorEq, Nat.reduceBEq, Nat.reduceLT, Nat.reduceMod, fmc, QdF, int_toBitVec_meta, method_specs_simp, Qmo, Nat.sub_zero]
  have m0 : List.replicate a.length [.str ⟨#[]⟩, .int .i64 0, .sl 0 6 []] = (Qab a 0).map (Part.row 0) := by simp [Qab, Part.row]
  refine ⟨by omega, ?_⟩
  refine QH (fun i : Nat => [(4, .int .i64 i)]) (fun i => [(107, .arr 124 0 3 ((Qab a i).map (Part.row 0)))]) (fun i => i ≤ a.length) (fun i => a.length - i) 0 (by simp only [Ju, Jv, Jw, Jx, Qi, Qj, Qk, Ql, reduceIte, Nat.reduceEqDiff]; exact ⟨by repeat' (first | exact trivial | refine ⟨.inr rfl, ?_⟩), ⟨congrArg (fun g => some (AObj.arr 124 0 3 g)) m0, trivial⟩, rfl, rfl⟩) (Nat.zero_le _) ?_
  intro i hi NX hN
  have hs2 : i < a.length → (a.getD i default).small := fun h => hs _ (Jg h)
  unfold Zm; simp (maxSteps := 2000000) only [bitvec_to_nat, reduceIte, Nat.reduceEqDiff, Nat.reduceAdd, Nat.reduceLeDiff, reduceCtorEq, Nat.reduceBEq, Nat.reduceLT, Nat.reduceMod, fmc, QdF, int_toBitVec_meta, method_specs_simp, Qmo, Nat.sub_zero]
  refine ⟨fun h => ?_, fun h => ?_⟩
  · repeat' (first | with_reducible apply And.intro | with_reducible intro _)
    all_goals first
      | omega
      | rfl
      | exact hs2 (by omega)
      | (have e := QnE (a := a) (i := i) (by omega)
         try simp only [Part.row] at *
         refine hN (i + 1) _ ⟨by repeat' (first | exact trivial | refine ⟨.inr rfl, ?_⟩), ⟨congrArg (fun g => some (AObj.arr 124 0 3 (List.map (Part.row 0) g))) e, trivial⟩, rfl, rfl⟩ ?_ ?_ <;> omega)
  · have e : i = a.length := by omega
    subst e
    simp only [Qab, List.take_length, Nat.sub_self, List.replicate_zero, List.append_nil]
    try rw [List.take_of_length_le (by simp)]
def QdG : List AV → Option (Prop × AV)
  | [.sl st 3 sx] => some ((((sx.map Q9).map (Part.row 1) = sx)) ∧ ((sx.map Q9).length ≤ 1048576 ∧ ∀ x ∈ (sx.map Q9), x.small), .sl 0 3 ((sx.map Q9).map (Part.row 0)))
  | _ => none
theorem Qpj : ∀ args p v, QdG args = some (p, v) → p → Contract P 43 args [] v [] ∧ noref v = true ∧ No99 v := by
  intro args p v h1 h2
  unfold QdG at h1
  split at h1
  · rename_i st sx
    cases h1
    obtain ⟨e0, HP⟩ := h2
    have := Qpi st (sx.map Q9) HP.1 HP.2
    exact ⟨by simpa only [e0] using this, rfl, by simp [No99, JT, Jj, QfD, Kz, Ky, Ye, KM, Kc, JY, XX, K8, K9, Gz, -List.map_map]⟩
  · cases h1
theorem QqR (c d : Part) (hl : c.bx.length ≤ 4611686018427387904) : Contract P 92 [.agg (c.row 0), .agg (d.row 0)] [] (.bool (decide (c = d))) [] := by
  obtain ⟨c_fl, c_nr, c_bx⟩ := c
  obtain ⟨d_fl, d_nr, d_bx⟩ := d
  simp only [Part.row]
  refine Qh ((Env.nil P).add 27 Qr QbN) hm Qe1 (nlb rfl) rfl ?_; unfold WL; simp (maxSteps := 2000000) only [bitvec_to_nat, reduceIte, Nat.reduceEqDiff, Nat.reduceAdd, Nat.reduceLeDiff, reduceCtorEq, Nat.reduceBEq, Nat.reduceLT, Nat.reduceMod, fmc, Qr, int_toBitVec_meta, method_specs_simp]
  simp only [Part.mk.injEq]
  repeat' (first | with_reducible apply And.intro | with_reducible intro _)
  all_goals first | omega | (simp_all; done) | grind | grind [Word.small, Own.small, Part.small, Book.small, Sector.small, HCraft.small, World.small]
def QdH : List AV → Option (Prop × AV)
  | [.agg [.str c_fl, .int .i64 c_nr, .sl 0 6 c_bx], .agg [.str d_fl, .int .i64 d_nr, .sl 0 6 d_bx]] => some ((((c_bx.map QD).map Box6.row = c_bx) ∧ ((d_bx.map QD).map Box6.row = d_bx)) ∧ ((Part.mk c_fl c_nr (c_bx.map QD)).bx.length ≤ 4611686018427387904), .bool (decide ((Part.mk c_fl c_nr (c_bx.map QD)) = (Part.mk d_fl d_nr (d_bx.map QD)))))
  | _ => none
theorem QqS : ∀ args p v, QdH args = some (p, v) → p → Contract P 92 args [] v [] ∧ noref v = true ∧ No99 v := by
  intro args p v h1 h2
  unfold QdH at h1
  split at h1
  · rename_i c_fl c_nr c_bx d_fl d_nr d_bx
    cases h1
    obtain ⟨⟨e0, e1⟩, HP⟩ := h2
    have := QqR (Part.mk c_fl c_nr (c_bx.map QD)) (Part.mk d_fl d_nr (d_bx.map QD)) HP
    exact ⟨by simpa only [e0, e1, Part.row, Part.row] using this, rfl, trivial⟩
  · cases h1
theorem Qpk (t t' : Nat) (p q : List Part) (hp : p.length ≤ 4611686018427387904) (hx : ∀ x ∈ p, x.bx.length ≤ 4611686018427387904) : Contract P 50 [.sl t 3 (p.map (Part.row 0)), .sl t' 3 (q.map (Part.row 0))] [] (.bool (decide (p = q))) [] := by
  refine Qh ((Env.nil P).add 92 QdH QqS) hm Qc6 (nlb rfl) rfl ?_; unfold U1; simp (maxSteps := 2000000) only [bitvec_to_nat, reduceIte, Nat.reduceEqDiff, Nat.reduceAdd, Nat.reduceLeDiff, reduceCtorEq, Nat.reduceBEq, Nat.reduceLT, Nat.reduceMod, fmc, QdH, int_toBitVec_meta, method_specs_simp]
  refine ⟨fun h1 h => h1 (by rw [h]), fun h1 => ?_⟩
  refine QH (fun i : Nat => [(5, .int .i64 i)]) (fun _ => []) (fun i => i ≤ p.length ∧ ∀ j, j < i → p.getD j default = q.getD j default) (fun i => p.length - i) (0) (by simp only [Ju, Jv, Jw, Jx, Qi, Qj, Qk, Ql, reduceIte, Nat.reduceEqDiff]; exact ⟨by repeat' (first | exact trivial | refine ⟨.inr rfl, ?_⟩), by repeat' (first | exact trivial | refine ⟨rfl, ?_⟩), by first | rfl | simp [closedB, Qc, Qb, Qd, dom, Qa, *], by first | rfl | simp [keepB, dom]⟩) ?_ ?_
  · exact ⟨Nat.zero_le _, by intro j hj; omega⟩
  intro i hi NX hN
  unfold Zo; simp (maxSteps := 2000000) only [bitvec_to_nat, reduceIte, Nat.reduceEqDiff, Nat.reduceAdd, Nat.reduceLeDiff, reduceCtorEq, Nat.reduceBEq, Nat.reduceLT, Nat.reduceMod, fmc, QdH, int_toBitVec_meta, method_specs_simp]
  have hx2 : i < p.length → _ := fun h => hx _ (Jg h)
  repeat' (first | with_reducible apply And.intro | with_reducible intro _)
  all_goals first
    | omega
    | (refine hN (i + 1) _ (by simp only [Ju, Jv, Jw, Jx, Qi, Qj, Qk, Ql, reduceIte, Nat.reduceEqDiff]; exact ⟨by repeat' (first | exact trivial | refine ⟨.inr rfl, ?_⟩), by repeat' (first | exact trivial | refine ⟨rfl, ?_⟩), by first | rfl | simp [closedB, Qc, Qb, Qd, dom, Qa, *], by first | rfl | simp [keepB, dom]⟩) ?_ ?_
       · exact ⟨by omega, Jf hi.2 (by with_reducible assumption)⟩
       · omega)
    | (intro h; subst h; exact absurd rfl (by with_reducible assumption))
    | (exact Vc (by omega) fun j hj => hi.2 j (by omega))
    | grind
def WX : List AV → Option (Prop × AV)
  | [.sl ct 3 cx, .sl dt 3 dx] => some ((((cx.map Q9).map (Part.row 0) = cx) ∧ ((dx.map Q9).map (Part.row 0) = dx)) ∧ ((cx.map Q9).length ≤ 4611686018427387904 ∧ ∀ x ∈ (cx.map Q9), x.bx.length ≤ 4611686018427387904), .bool (decide ((cx.map Q9) = (dx.map Q9))))
  | _ => none
theorem QkB : ∀ args p v, WX args = some (p, v) → p → Contract P 50 args [] v [] ∧ noref v = true ∧ No99 v := by
  intro args p v h1 h2
  unfold WX at h1
  split at h1
  · rename_i ct cx dt dx
    cases h1
    obtain ⟨⟨e0, e1⟩, HP⟩ := h2
    have := Qpk ct dt (cx.map Q9) (dx.map Q9) HP.1 HP.2
    exact ⟨by simpa only [e0, e1] using this, rfl, trivial⟩
  · cases h1
theorem Qsy (s : Own) (hs : s.small) : Contract P 83 [.agg (s.row 1)] [] (.agg (s.row 0)) [] := by
  unfold Own.small at hs
  simp only [Own.row]
  refine Qh (((Env.nil P).add 25 QbO Qmf).add 112 W9 Qly) hm Qaq (nlb rfl) rfl ?_; unfold X7; simp (maxSteps := 2000000) only [bitvec_to_nat, reduceIte, Nat.reduceEqDiff, Nat.reduceAdd, Nat.reduceLeDiff, reduceCtorEq, Nat.reduceBEq, Nat.reduceLT, Nat.reduceMod, fmc, QbO, W9, int_toBitVec_meta, method_specs_simp]
  repeat' (first | with_reducible apply And.intro | with_reducible intro _)
  all_goals first | omega | grind | grind [Word.small, Own.small, Part.small, Book.small, Sector.small, HCraft.small, World.small]
def Qht : List AV → Option (Prop × AV)
  | [.agg [.str s_fl, .int .i64 s_st, .int .i64 s_tn, .str s_dst, .int .i64 s_la, .int .i64 s_nr, .sl 1 6 s_tu, .int .i64 s_wi, .sl 1 6 s_nx, .sl 1 1 s_gr, .bool s_sent]] => some ((((s_tu.map QD).map Box6.row = s_tu) ∧ ((s_nx.map QD).map Box6.row = s_nx) ∧ ((s_gr.map unS).map JJ = s_gr)) ∧ (Own.small (Own.mk s_fl s_st s_tn s_dst s_la s_nr (s_tu.map QD) s_wi (s_nx.map QD) (s_gr.map unS) s_sent)), .agg (Own.row 0 (Own.mk s_fl s_st s_tn s_dst s_la s_nr (s_tu.map QD) s_wi (s_nx.map QD) (s_gr.map unS) s_sent)))
  | _ => none
theorem Qsz : ∀ args p v, Qht args = some (p, v) → p → Contract P 83 args [] v [] ∧ noref v = true ∧ No99 v := by
  intro args p v h1 h2
  unfold Qht at h1
  split at h1
  · rename_i s_fl s_st s_tn s_dst s_la s_nr s_tu s_wi s_nx s_gr s_sent
    cases h1
    obtain ⟨⟨e0, e1, e2⟩, HP⟩ := h2
    have := Qsy (Own.mk s_fl s_st s_tn s_dst s_la s_nr (s_tu.map QD) s_wi (s_nx.map QD) (s_gr.map unS) s_sent) HP
    exact ⟨by simpa only [e0, e1, e2, Own.row] using this, rfl, by simp [Own.row, No99, JT, Jj, QfD, Kz, Ky, Ye, KM, Kc, JY, XX, K8, K9, Gz, -List.map_map]⟩
  · cases h1
theorem Qpl {lst : List Own} {idx : Nat} {vfl : ByteArray} {vst : Int} {vtn : Int} {vdst : ByteArray} {vla : Int} {vnr : Int} {vtu : List Box6} {vwi : Int} {vnx : List Box6} {vgr : List ByteArray} {vsent : Bool} : (lst.map (Own.row 0)).set idx (Q7 ((lst.map (Own.row 0)).getD idx []) 0 [.str vfl, .int .i64 vst, .int .i64 vtn, .str vdst, .int .i64 vla, .int .i64 vnr, .sl 0 6 (vtu.map Box6.row), .int .i64 vwi, .sl 0 6 (vnx.map Box6.row), .sl 0 1 (vgr.map JJ), .bool vsent]) = (lst.set idx (Own.mk vfl vst vtn vdst vla vnr vtu vwi vnx vgr vsent)).map (Own.row 0) :=
  Kg (α := Own) (f := (Own.row 0)) (fun s => (Own.mk vfl vst vtn vdst vla vnr vtu vwi vnx vgr vsent)) fun x => by simp [Own.row, Q7]
def QdI (a : List Own) (i : Nat) : List Own := a.take i ++ List.replicate (a.length - i) ⟨⟨#[]⟩, 0, 0, ⟨#[]⟩, 0, 0, [], 0, [], [], false⟩
theorem Qpm {a : List Own} {i : Nat} (h : i < a.length) : (QdI a i).set i (a.getD i default) = QdI a (i + 1) := by
  refine List.ext_getElem (by simp [QdI]; omega) fun j h1 h2 => ?_
  by_cases e : j = i
  · subst e
    simp [QdI, List.getElem_append, h]
    intro h9; omega
  · simp only [List.getElem_set_ne (Ne.symm e)]
    simp only [QdI, List.getElem_append, List.length_take, List.getElem_take, List.getElem_replicate]
    split <;> split <;> first | rfl | omega
theorem QqT (t : Nat) (a : List Own) (ha : a.length ≤ 1048576) (hs : ∀ x ∈ a, x.small) : Contract P 42 [.sl t 11 (a.map (Own.row 1))] [] (.sl 0 11 (a.map (Own.row 0))) [] := by
  refine Qh ((Env.nil P).add 83 Qht Qsz) hm QeQ (nlb rfl) rfl ?_; unfold Wy; simp (maxSteps := 2000000) only [bitvec_to_nat, reduceIte, Nat.reduceEqDiff, Nat.reduceAdd, Nat.reduceLeDiff, reduceCtorEq, Nat.reduceBEq, Nat.reduceLT, Nat.reduceMod, fmc, Qht, int_toBitVec_meta, method_specs_simp, Qpl, Nat.sub_zero]
  have m0 : List.replicate a.length [.str ⟨#[]⟩, .int .i64 0, .int .i64 0, .str ⟨#[]⟩, .int .i64 0, .int .i64 0, .sl 0 6 [], .int .i64 0, .sl 0 6 [], .sl 0 1 [], .bool false] = (QdI a 0).map (Own.row 0) := by simp [QdI, Own.row]
  refine ⟨by omega, ?_⟩
  refine QH (fun i : Nat => [(4, .int .i64 i)]) (fun i => [(107, .arr 71 0 11 ((QdI a i).map (Own.row 0)))]) (fun i => i ≤ a.length) (fun i => a.length - i) 0 (by simp only [Ju, Jv, Jw, Jx, Qi, Qj, Qk, Ql, reduceIte, Nat.reduceEqDiff]; exact ⟨by repeat' (first | exact trivial | refine ⟨.inr rfl, ?_⟩), ⟨congrArg (fun g => some (AObj.arr 71 0 11 g)) m0, trivial⟩, rfl, rfl⟩) (Nat.zero_le _) ?_
  intro i hi NX hN
  have hs2 : i < a.length → (a.getD i default).small := fun h => hs _ (Jg h)
  unfold Z6; simp (maxSteps := 2000000) only [bitvec_to_nat, reduceIte, Nat.reduceEqDiff, Nat.reduceAdd, Nat.reduceLeDiff, reduceCtorEq, Nat.reduceBEq, Nat.reduceLT, Nat.reduceMod, fmc, Qht, int_toBitVec_meta, method_specs_simp, Qpl, Nat.sub_zero]
  refine ⟨fun h => ?_, fun h => ?_⟩
  · repeat' (first | with_reducible apply And.intro | with_reducible intro _)
    all_goals first
      | omega
      | rfl
      | exact hs2 (by omega)
      | (have e := Qpm (a := a) (i := i) (by omega)
         try simp only [Own.row] at *
         refine hN (i + 1) _ ⟨by repeat' (first | exact trivial | refine ⟨.inr rfl, ?_⟩), ⟨congrArg (fun g => some (AObj.arr 71 0 11 (List.map (Own.row 0) g))) e, trivial⟩, rfl, rfl⟩ ?_ ?_ <;> omega)
  · have e : i = a.length := by omega
    subst e
    simp only [QdI, List.take_length, Nat.sub_self, List.replicate_zero, List.append_nil]
    try rw [List.take_of_length_le (by simp)]
def Qgq : List AV → Option (Prop × AV)
  | [.sl st 11 sx] => some ((((sx.map JC).map (Own.row 1) = sx)) ∧ ((sx.map JC).length ≤ 1048576 ∧ ∀ x ∈ (sx.map JC), x.small), .sl 0 11 ((sx.map JC).map (Own.row 0)))
  | _ => none
theorem QqU : ∀ args p v, Qgq args = some (p, v) → p → Contract P 42 args [] v [] ∧ noref v = true ∧ No99 v := by
  intro args p v h1 h2
  unfold Qgq at h1
  split at h1
  · rename_i st sx
    cases h1
    obtain ⟨e0, HP⟩ := h2
    have := QqT st (sx.map JC) HP.1 HP.2
    exact ⟨by simpa only [e0] using this, rfl, by simp [No99, JT, Jj, QfD, Kz, Ky, Ye, KM, Kc, JY, XX, K8, K9, Gz, -List.map_map]⟩
  · cases h1
theorem QsA (c d : Own) (hl : c.tu.length ≤ 4611686018427387904 ∧ c.nx.length ≤ 4611686018427387904 ∧ c.gr.length ≤ 4611686018427387904) : Contract P 91 [.agg (c.row 0), .agg (d.row 0)] [] (.bool (decide (c = d))) [] := by
  obtain ⟨c_fl, c_st, c_tn, c_dst, c_la, c_nr, c_tu, c_wi, c_nx, c_gr, c_sent⟩ := c
  obtain ⟨d_fl, d_st, d_tn, d_dst, d_la, d_nr, d_tu, d_wi, d_nx, d_gr, d_sent⟩ := d
  simp only [Own.row]
  refine Qh (((Env.nil P).add 27 Qr QbN).add 117 Qaa Qlz) hm QfP (nlb rfl) rfl ?_; unfold Qar; simp (maxSteps := 2000000) only [bitvec_to_nat, reduceIte, Nat.reduceEqDiff, Nat.reduceAdd, Nat.reduceLeDiff, reduceCtorEq, Nat.reduceBEq, Nat.reduceLT, Nat.reduceMod, fmc, Qr, Qaa, int_toBitVec_meta, method_specs_simp]
  simp only [Own.mk.injEq]
  repeat' (first | with_reducible apply And.intro | with_reducible intro _)
  all_goals first | omega | (simp_all; done) | grind | grind [Word.small, Own.small, Part.small, Book.small, Sector.small, HCraft.small, World.small]
def Qhu : List AV → Option (Prop × AV)
  | [.agg [.str c_fl, .int .i64 c_st, .int .i64 c_tn, .str c_dst, .int .i64 c_la, .int .i64 c_nr, .sl 0 6 c_tu, .int .i64 c_wi, .sl 0 6 c_nx, .sl 0 1 c_gr, .bool c_sent], .agg [.str d_fl, .int .i64 d_st, .int .i64 d_tn, .str d_dst, .int .i64 d_la, .int .i64 d_nr, .sl 0 6 d_tu, .int .i64 d_wi, .sl 0 6 d_nx, .sl 0 1 d_gr, .bool d_sent]] => some ((((c_tu.map QD).map Box6.row = c_tu) ∧ ((c_nx.map QD).map Box6.row = c_nx) ∧ ((c_gr.map unS).map JJ = c_gr) ∧ ((d_tu.map QD).map Box6.row = d_tu) ∧ ((d_nx.map QD).map Box6.row = d_nx) ∧ ((d_gr.map unS).map JJ = d_gr)) ∧ ((Own.mk c_fl c_st c_tn c_dst c_la c_nr (c_tu.map QD) c_wi (c_nx.map QD) (c_gr.map unS) c_sent).tu.length ≤ 4611686018427387904 ∧ (Own.mk c_fl c_st c_tn c_dst c_la c_nr (c_tu.map QD) c_wi (c_nx.map QD) (c_gr.map unS) c_sent).nx.length ≤ 4611686018427387904 ∧ (Own.mk c_fl c_st c_tn c_dst c_la c_nr (c_tu.map QD) c_wi (c_nx.map QD) (c_gr.map unS) c_sent).gr.length ≤ 4611686018427387904), .bool (decide ((Own.mk c_fl c_st c_tn c_dst c_la c_nr (c_tu.map QD) c_wi (c_nx.map QD) (c_gr.map unS) c_sent) = (Own.mk d_fl d_st d_tn d_dst d_la d_nr (d_tu.map QD) d_wi (d_nx.map QD) (d_gr.map unS) d_sent))))
  | _ => none
theorem QsB : ∀ args p v, Qhu args = some (p, v) → p → Contract P 91 args [] v [] ∧ noref v = true ∧ No99 v := by
  intro args p v h1 h2
  unfold Qhu at h1
  split at h1
  · rename_i c_fl c_st c_tn c_dst c_la c_nr c_tu c_wi c_nx c_gr c_sent d_fl d_st d_tn d_dst d_la d_nr d_tu d_wi d_nx d_gr d_sent
    cases h1
    obtain ⟨⟨e0, e1, e2, e3, e4, e5⟩, HP⟩ := h2
    have := QsA (Own.mk c_fl c_st c_tn c_dst c_la c_nr (c_tu.map QD) c_wi (c_nx.map QD) (c_gr.map unS) c_sent) (Own.mk d_fl d_st d_tn d_dst d_la d_nr (d_tu.map QD) d_wi (d_nx.map QD) (d_gr.map unS) d_sent) HP
    exact ⟨by simpa only [e0, e1, e2, e3, e4, e5, Own.row, Own.row] using this, rfl, trivial⟩
  · cases h1
theorem QqV (t t' : Nat) (p q : List Own) (hp : p.length ≤ 4611686018427387904) (hx : ∀ x ∈ p, x.tu.length ≤ 4611686018427387904 ∧ x.nx.length ≤ 4611686018427387904 ∧ x.gr.length ≤ 4611686018427387904) : Contract P 49 [.sl t 11 (p.map (Own.row 0)), .sl t' 11 (q.map (Own.row 0))] [] (.bool (decide (p = q))) [] := by
  refine Qh ((Env.nil P).add 91 Qhu QsB) hm QeT (nlb rfl) rfl ?_; unfold WB; simp (maxSteps := 2000000) only [bitvec_to_nat, reduceIte, Nat.reduceEqDiff, Nat.reduceAdd, Nat.reduceLeDiff, reduceCtorEq, Nat.reduceBEq, Nat.reduceLT, Nat.reduceMod, fmc, Qhu, int_toBitVec_meta, method_specs_simp]
  refine ⟨fun h1 h => h1 (by rw [h]), fun h1 => ?_⟩
  refine QH (fun i : Nat => [(5, .int .i64 i)]) (fun _ => []) (fun i => i ≤ p.length ∧ ∀ j, j < i → p.getD j default = q.getD j default) (fun i => p.length - i) (0) (by simp only [Ju, Jv, Jw, Jx, Qi, Qj, Qk, Ql, reduceIte, Nat.reduceEqDiff]; exact ⟨by repeat' (first | exact trivial | refine ⟨.inr rfl, ?_⟩), by repeat' (first | exact trivial | refine ⟨rfl, ?_⟩), by first | rfl | simp [closedB, Qc, Qb, Qd, dom, Qa, *], by first | rfl | simp [keepB, dom]⟩) ?_ ?_
  · exact ⟨Nat.zero_le _, by intro j hj; omega⟩
  intro i hi NX hN
  unfold Z7; simp (maxSteps := 2000000) only [bitvec_to_nat, reduceIte, Nat.reduceEqDiff, Nat.reduceAdd, Nat.reduceLeDiff, reduceCtorEq, Nat.reduceBEq, Nat.reduceLT, Nat.reduceMod, fmc, Qhu, int_toBitVec_meta, method_specs_simp]
  have hx2 : i < p.length → _ := fun h => hx _ (Jg h)
  repeat' (first | with_reducible apply And.intro | with_reducible intro _)
  all_goals first
    | omega
    | (refine hN (i + 1) _ (by simp only [Ju, Jv, Jw, Jx, Qi, Qj, Qk, Ql, reduceIte, Nat.reduceEqDiff]; exact ⟨by repeat' (first | exact trivial | refine ⟨.inr rfl, ?_⟩), by repeat' (first | exact trivial | refine ⟨rfl, ?_⟩), by first | rfl | simp [closedB, Qc, Qb, Qd, dom, Qa, *], by first | rfl | simp [keepB, dom]⟩) ?_ ?_
       · exact ⟨by omega, Jf hi.2 (by with_reducible assumption)⟩
       · omega)
    | (intro h; subst h; exact absurd rfl (by with_reducible assumption))
    | (exact Vc (by omega) fun j hj => hi.2 j (by omega))
    | grind
def QbR : List AV → Option (Prop × AV)
  | [.sl ct 11 cx, .sl dt 11 dx] => some ((((cx.map JC).map (Own.row 0) = cx) ∧ ((dx.map JC).map (Own.row 0) = dx)) ∧ ((cx.map JC).length ≤ 4611686018427387904 ∧ ∀ x ∈ (cx.map JC), x.tu.length ≤ 4611686018427387904 ∧ x.nx.length ≤ 4611686018427387904 ∧ x.gr.length ≤ 4611686018427387904), .bool (decide ((cx.map JC) = (dx.map JC))))
  | _ => none
theorem Qmp : ∀ args p v, QbR args = some (p, v) → p → Contract P 49 args [] v [] ∧ noref v = true ∧ No99 v := by
  intro args p v h1 h2
  unfold QbR at h1
  split at h1
  · rename_i ct cx dt dx
    cases h1
    obtain ⟨⟨e0, e1⟩, HP⟩ := h2
    have := QqV ct dt (cx.map JC) (dx.map JC) HP.1 HP.2
    exact ⟨by simpa only [e0, e1] using this, rfl, trivial⟩
  · cases h1
theorem Qjk (s : Book) (hs : s.small) : Contract P 11 [.agg (s.row 1)] [] (.agg (s.row 0)) [] := by
  unfold Book.small at hs
  simp only [Book.row]
  refine Qh ((((Env.nil P).add 42 Qgq QqU).add 43 QdG Qpj).add 44 QdD Qpg) hm Wp (nlb rfl) rfl ?_; unfold Xx; simp (maxSteps := 2000000) only [bitvec_to_nat, reduceIte, Nat.reduceEqDiff, Nat.reduceAdd, Nat.reduceLeDiff, reduceCtorEq, Nat.reduceBEq, Nat.reduceLT, Nat.reduceMod, fmc, Qgq, QdG, QdD, int_toBitVec_meta, Own.row, QK, Part.row, Qz, Seen.row, Qy, Book.row, Qjg, QfE, Qcy, Qcz, Qlj]
  repeat' (first | with_reducible apply And.intro | with_reducible intro _)
  all_goals first | omega | grind | grind [Own.small, Part.small, Book.small]
theorem Qjl (c d : Book) (hl : c.own.length ≤ 4611686018427387904 ∧ c.parts.length ≤ 4611686018427387904 ∧ c.seen.length ≤ 4611686018427387904 ∧ (∀ x ∈ c.own, x.small) ∧ (∀ x ∈ c.parts, x.small)) : Contract P 15 [.agg (c.row 0), .agg (d.row 0)] [] (.bool (decide (c = d))) [] := by
  obtain ⟨c_own, c_parts, Qrz⟩ := c
  obtain ⟨d_own, d_parts, d_seen⟩ := d
  simp only [Book.row]
  refine Qh ((((Env.nil P).add 49 QbR Qmp).add 50 WX QkB).add 51 WW QkA) hm Wq (nlb rfl) rfl ?_; unfold Xy; simp (maxSteps := 2000000) only [bitvec_to_nat, reduceIte, Nat.reduceEqDiff, Nat.reduceAdd, Nat.reduceLeDiff, reduceCtorEq, Nat.reduceBEq, Nat.reduceLT, Nat.reduceMod, fmc, QbR, WX, WW, int_toBitVec_meta, Own.row, QK, Part.row, Qz, Seen.row, Qy, Book.row, Qjg, QfE, Qcy, Qcz, Qlj]
  simp only [Book.mk.injEq]
  repeat' (first | with_reducible apply And.intro | with_reducible intro _)
  all_goals first | omega | (simp_all; done) | grind | grind [Own.small, Part.small, Book.small]
end
end Go.Ve

namespace Go.Ve
open Go.Proofs
set_option maxRecDepth 100000
def ZA : SCode := (.seq (jq [jm 8 4 [],jm 9 0 [],jn 10 (.lenL (.v 9)) [9],jb 11 .lss 8 10 [8,10]] [0,3,4,11] (.cond (.v 11) .skip (.exit 0))) (.seq (.block 1 (.rg [jm 14 3 [],jm 15 4 [],jm 16 0 [],jm 17 4 [],ja 18 6 16 17 [16,17],jL 19 6 18 [18],jn 20 (.call 67 [.v 19]) [19],ja 21 6 14 15 [14,15],⟨none,.store 6 (.v 21) (.v 20),none,[20,21]⟩] [0,3,4])) (.rg [jm 12 4 [4],jn 13 (.binN .add (.v 12) (ci 1)) [12],jm 4 13 [13]] [0,3,4])))
/-- laws.toHandBoxS: function 25 -/
def Vi : SFun := { n := 23,res := [.t 2],body := (jq [jn 2 (.mv (.c (.sl 0 6 []))) [2]] [0] (jq [jm 5 0 [],jn 6 (.lenL (.v 5)) [5],jn 7 (.mk 107 100 6 [.int .i64 0,.int .i64 0,.int .i64 0,.int .i64 0,.int .i64 0,.int .i64 0] (.v 6)) [6],jm 3 7 [7]] [0,3] (.seq (jq [jI 4 0 []] [0,3,4] (.block 0 (.loop ZA))) (jq [jm 22 3 [3],jm 2 22 [22]] [2] .ret)))) }
theorem QdJ : QY Go.Proofs.Tryz.prog 25 Vi = true := by kernel_rfl
def XZ : SCode := (.seq (jq [jm 8 4 [],jm 9 0 [],jn 10 (.lenL (.v 9)) [9],jb 11 .lss 8 10 [8,10]] [0,3,4,11] (.cond (.v 11) .skip (.exit 0))) (.seq (.block 1 (.rg [jm 14 3 [],jm 15 4 [],jm 16 0 [],jm 17 4 [],ja 18 5 16 17 [16,17],jL 19 5 18 [18],jn 20 (.call 41 [.v 19]) [19],ja 21 5 14 15 [14,15],⟨none,.store 5 (.v 21) (.v 20),none,[20,21]⟩] [0,3,4])) (.rg [jm 12 4 [4],jn 13 (.binN .add (.v 12) (ci 1)) [12],jm 4 13 [13]] [0,3,4])))
/-- laws.toHandZoneS: function 10 -/
def UA : SFun := { n := 23,res := [.t 2],body := (jq [jn 2 (.mv (.c (.sl 0 5 []))) [2]] [0] (jq [jm 5 0 [],jn 6 (.lenL (.v 5)) [5],⟨some 7,.mk 107 76 5 [.str ⟨#[]⟩,.int .i64 0,.int .i64 0,.int .i64 0,.int .i64 0] (.v 6),none,[6]⟩,jm 3 7 [7]] [0,3] (.seq (jq [jI 4 0 []] [0,3,4] (.block 0 (.loop XZ))) (jq [jm 22 3 [3],jm 2 22 [22]] [2] .ret)))) }
theorem QcB : QY Go.Proofs.Tryz.prog 10 UA = true := by kernel_rfl
def UB : SCode := (.seq (jq [jm 8 4 [],jm 9 0 [],jn 10 (.lenL (.v 9)) [9],jb 11 .lss 8 10 [8,10]] [0,3,4,11] (.cond (.v 11) .skip (.exit 0))) (.seq (.block 1 (.rg [jm 14 3 [],jm 15 4 [],jm 16 0 [],jm 17 4 [],ja 18 1 16 17 [16,17],jl 19 18 [18],ja 20 1 14 15 [14,15],⟨none,.store 1 (.v 20) (.v 19),none,[19,20]⟩] [0,3,4])) (.rg [jm 12 4 [4],jn 13 (.binN .add (.v 12) (ci 1)) [12],jm 4 13 [13]] [0,3,4])))
/-- laws.toStringS: function 112 -/
def WY : SFun := { n := 22,res := [.t 2],body := (jq [jn 2 (.mv (.c (.sl 0 1 []))) [2]] [0] (jq [jm 5 0 [],jn 6 (.lenL (.v 5)) [5],⟨some 7,.mk 107 9 1 [.str ⟨#[]⟩] (.v 6),none,[6]⟩,jm 3 7 [7]] [0,3] (.seq (jq [jI 4 0 []] [0,3,4] (.block 0 (.loop UB))) (jq [jm 21 3 [3],jm 2 21 [21]] [2] .ret)))) }
theorem Qe6 : QY Go.Proofs.Tryz.prog 112 WY = true := by kernel_rfl
def X0 : SCode := (.seq (jq [jm 8 4 [],jm 9 0 [],jn 10 (.lenL (.v 9)) [9],jb 11 .lss 8 10 [8,10]] [0,3,4,11] (.cond (.v 11) .skip (.exit 0))) (.seq (.block 1 (.rg [jm 14 3 [],jm 15 4 [],jm 16 0 [],jm 17 4 [],ja 18 2 16 17 [16,17],jL 19 2 18 [18],jn 20 (.call 85 [.v 19]) [19],ja 21 2 14 15 [14,15],⟨none,.store 2 (.v 21) (.v 20),none,[20,21]⟩] [0,3,4])) (.rg [jm 12 4 [4],jn 13 (.binN .add (.v 12) (ci 1)) [12],jm 4 13 [13]] [0,3,4])))
/-- laws.toHandSeenS: function 44 -/
def UC : SFun := { n := 23,res := [.t 2],body := (jq [jn 2 (.mv (.c (.sl 0 2 []))) [2]] [0] (jq [jm 5 0 [],jn 6 (.lenL (.v 5)) [5],⟨some 7,.mk 107 118 2 [.str ⟨#[]⟩,.int .i64 0] (.v 6),none,[6]⟩,jm 3 7 [7]] [0,3] (.seq (jq [jI 4 0 []] [0,3,4] (.block 0 (.loop X0))) (jq [jm 22 3 [3],jm 2 22 [22]] [2] .ret)))) }
theorem QcC : QY Go.Proofs.Tryz.prog 44 UC = true := by kernel_rfl
def Y6 : SCode := (.seq (jq [jm 8 4 [],jm 9 0 [],jn 10 (.lenL (.v 9)) [9],jb 11 .lss 8 10 [8,10]] [0,3,4,11] (.cond (.v 11) .skip (.exit 0))) (.seq (.block 1 (.rg [jm 14 3 [],jm 15 4 [],jm 16 0 [],jm 17 4 [],ja 18 11 16 17 [16,17],jL 19 11 18 [18],jn 20 (.call 83 [.v 19]) [19],ja 21 11 14 15 [14,15],⟨none,.store 11 (.v 21) (.v 20),none,[20,21]⟩] [0,3,4])) (.rg [jm 12 4 [4],jn 13 (.binN .add (.v 12) (ci 1)) [12],jm 4 13 [13]] [0,3,4])))
/-- laws.toHandOwnS: function 42 -/
def Vj : SFun := { n := 23,res := [.t 2],body := (jq [jn 2 (.mv (.c (.sl 0 11 []))) [2]] [0] (jq [jm 5 0 [],jn 6 (.lenL (.v 5)) [5],⟨some 7,.mk 107 1000071 11 [.str ⟨#[]⟩,.int .i64 0,.int .i64 0,.str ⟨#[]⟩,.int .i64 0,.int .i64 0,.sl 0 6 [],.int .i64 0,.sl 0 6 [],.sl 0 1 [],.bool false] (.v 6),none,[6]⟩,jm 3 7 [7]] [0,3] (.seq (jq [jI 4 0 []] [0,3,4] (.block 0 (.loop Y6))) (jq [jm 22 3 [3],jm 2 22 [22]] [2] .ret)))) }
theorem QdK : QY Go.Proofs.Tryz.prog 42 Vj = true := by kernel_rfl
def YG : SCode := (.seq (jq [jm 8 4 [],jm 9 0 [],jn 10 (.lenL (.v 9)) [9],jb 11 .lss 8 10 [8,10]] [0,3,4,11] (.cond (.v 11) .skip (.exit 0))) (.seq (.block 1 (.rg [jm 14 3 [],jm 15 4 [],jm 16 0 [],jm 17 4 [],ja 18 3 16 17 [16,17],jL 19 3 18 [18],jn 20 (.call 84 [.v 19]) [19],ja 21 3 14 15 [14,15],⟨none,.store 3 (.v 21) (.v 20),none,[20,21]⟩] [0,3,4])) (.rg [jm 12 4 [4],jn 13 (.binN .add (.v 12) (ci 1)) [12],jm 4 13 [13]] [0,3,4])))
/-- laws.toHandPartS: function 43 -/
def UD : SFun := { n := 23,res := [.t 2],body := (jq [jn 2 (.mv (.c (.sl 0 3 []))) [2]] [0] (jq [jm 5 0 [],jn 6 (.lenL (.v 5)) [5],⟨some 7,.mk 107 1000124 3 [.str ⟨#[]⟩,.int .i64 0,.sl 0 6 []] (.v 6),none,[6]⟩,jm 3 7 [7]] [0,3] (.seq (jq [jI 4 0 []] [0,3,4] (.block 0 (.loop YG))) (jq [jm 22 3 [3],jm 2 22 [22]] [2] .ret)))) }
theorem QcD : QY Go.Proofs.Tryz.prog 43 UD = true := by kernel_rfl
/-- impl.ownBoxes: function 95 -/
def QaD : SFun := { n := 5,res := [.t 2],body := (jq [jn 2 (.mv (.c (.sl 98 6 []))) [2]] [0] (jq [jm 3 0 [0],jn 4 (.app 104 100 6 (.c (.sl 0 6 [])) (.v 3)) [3],jm 2 4 [4]] [2] .ret)) }
theorem Qf5 : QY Go.Proofs.Tryz.prog 95 QaD = true := by kernel_rfl
def ZB : SCode := (jq [jb 15 .lss 14 13 []] [2,5,12,13,14,15] (.seq (.cond (.v 15) .skip (.exit 0)) (.seq (.block 1 (jq [ja 16 6 12 14 [],jL 17 6 16 [16],jn 7 (.alloc 107 [.int .i64 0,.int .i64 0,.int .i64 0,.int .i64 0,.int .i64 0,.int .i64 0]) [],⟨none,.store 6 (.v 7) (.v 17),none,[17]⟩] [2,5,7,12,13,14] (jq [jL 18 6 7 [],jn 19 (.call 121 [.v 18]) [18],jm 20 19 [19],jt 21 20 (.faddr 0 (.v 7)) [],jt 22 20 (.load1 (.v 21)) [21],jt 23 20 (.faddr 1 (.v 2)) [],jt 24 20 (.load1 (.v 23)) [23],jt 25 20 (.binN .sub (.v 24) (ci 1)) [24],jt 26 20 (.faddr 3 (.v 2)) [],jt 27 20 (.load1 (.v 26)) [26],jt 28 20 (.binN .add (.v 27) (ci 1)) [27],jt 29 20 (.call 120 [.v 22,.v 25,.v 28]) [22,25,28],jn 30 (.pick (.v 20) (.v 29) (.c (.bool false))) [20,29],jm 31 30 [30],jt 32 31 (.faddr 1 (.v 7)) [],jt 33 31 (.load1 (.v 32)) [32],jt 34 31 (.faddr 2 (.v 2)) [],jt 35 31 (.load1 (.v 34)) [34],jt 36 31 (.binN .sub (.v 35) (ci 1)) [35],jt 37 31 (.faddr 4 (.v 2)) [],jt 38 31 (.load1 (.v 37)) [37],jt 39 31 (.binN .add (.v 38) (ci 1)) [38],jt 40 31 (.call 120 [.v 33,.v 36,.v 39]) [33,36,39],jn 41 (.pick (.v 31) (.v 40) (.c (.bool false))) [31,40]] [2,5,7,12,13,14,41] (.cond (.v 41) (.rg [jm 42 5 [5],jL 43 6 7 [7],jn 44 (.lit 100 6 [.v 43]) [43],jn 45 (.app 105 100 6 (.v 42) (.v 44)) [42,44],jm 5 45 [45]] [2,5,12,13,14]) .skip)))) (.rg [jn 46 (.binN .add (.v 14) (ci 1)) [14],jm 14 46 [46]] [2,5,12,13,14]))))
/-- impl.HandPartOf: function 115 -/
def Vk : SFun := { n := 48,res := [.t 4],body := (jq [jn 2 (.box 102 (.v 0)) [0],jn 4 (.mv (.c (.sl 98 6 []))) [4]] [1,2] (.seq (jq [jL 8 5 2 [],jn 9 (.lit 76 5 [.v 8]) [8],jn 10 (.call 101 [.v 9]) [9],jn 11 (.not (.v 10)) [10]] [1,2,11] (.cond (.v 11) (jq [jn 4 (.mv (.c (.sl 98 6 []))) []] [4] .ret) .skip)) (jq [jn 5 (.newnil 105 100 6) []] [1,2,5] (.seq (jq [jm 12 1 [1],jn 13 (.lenL (.v 12)) [],jI 14 0 []] [2,5,12,13,14] (.block 0 (.loop ZB))) (jq [jm 47 5 [5],jm 4 47 [47]] [4] .ret))))) }
theorem QdL : QY Go.Proofs.Tryz.prog 115 Vk = true := by kernel_rfl
def Vt : SCode := (jq [jb 14 .lss 13 12 []] [1,5,7,11,12,13,14] (.seq (.cond (.v 14) .skip (.exit 0)) (.seq (.block 1 (jq [ja 15 5 11 13 [],jL 16 5 15 [15],jn 9 (.alloc 109 [.str ⟨#[]⟩,.int .i64 0,.int .i64 0,.int .i64 0,.int .i64 0]) [],⟨none,.store 5 (.v 9) (.v 16),none,[16]⟩] [1,5,7,9,11,12,13] (jq [jL 17 5 9 [],jf 18 8 5 [],jl 19 18 [18],jn 20 (.call 115 [.v 17,.v 19]) [17,19],jm 10 20 [20]] [1,5,7,9,10,11,12,13] (jq [jm 21 10 [],jn 22 (.lenL (.v 21)) [21],jc 23 .gtr 22 0 [22],jm 24 23 [23],jt 25 24 (.faddr 9 (.v 5)) [],jt 26 24 (.load1 (.v 25)) [25],jt 27 24 (.faddr 0 (.v 9)) [],jt 28 24 (.load1 (.v 27)) [27],jt 29 24 (.call 116 [.v 26,.v 28]) [26,28],jt 30 24 (.not (.v 29)) [29],jn 31 (.pick (.v 24) (.v 30) (.c (.bool false))) [24,30]] [1,5,7,9,10,11,12,13,31] (.cond (.v 31) (.rg [jm 32 7 [7],jm 33 1 [],jf 34 0 9 [9],jl 35 34 [34],jf 36 0 5 [],jl 37 36 [36],jf 38 7 5 [],jl 39 38 [38],jm 40 10 [10],jn 41 (.build [.int .i64 0,.str ⟨#[]⟩,.str ⟨#[]⟩,.str ⟨#[]⟩,.int .i64 0,.int .i64 0,.int .i64 0,.sl 0 6 []] [(0,1,.c (.int .i64 1)),(1,1,.v 33),(2,1,.v 35),(3,1,.v 37),(4,1,.v 39),(7,1,.v 40)]) [33,35,37,39,40],jn 42 (.litOwn 142 1000073 8 [.v 41]) [41],jn 43 (.appN 107 1000073 8 (.v 32) (.v 42)) [32,42],jm 7 43 [43]] [1,5,7,11,12,13]) .skip))))) (.rg [jn 44 (.binN .add (.v 13) (ci 1)) [13],jm 13 44 [44]] [1,5,7,11,12,13]))))
/-- impl.asks: function 89 -/
def QfF : SFun := { n := 46,res := [.t 6],body := (jq [jn 5 (.box 105 (.v 2)) [2],jn 6 (.mv (.c (.sl 98 8 []))) [6]] [0,1,5] (jq [jn 7 (.newnil 107 1000073 8) []] [0,1,5,7] (.seq (jq [jm 11 0 [0],jn 12 (.lenL (.v 11)) [],jI 13 0 []] [1,5,7,11,12,13] (.block 0 (.loop Vt))) (jq [jm 45 7 [7],jm 6 45 [45]] [6] .ret)))) }
theorem QkC : QY Go.Proofs.Tryz.prog 89 QfF = true := by kernel_rfl
def XF : SCode := (jq [jb 12 .lss 11 10 []] [1,2,3,9,10,11,12] (.seq (.cond (.v 12) .skip (.exit 0)) (.seq (.block 1 (jq [ja 13 11 9 11 [],jL 14 11 13 [13],jn 5 (.alloc 105 [.str ⟨#[]⟩,.int .i64 0,.int .i64 0,.str ⟨#[]⟩,.int .i64 0,.int .i64 0,.sl 0 6 [],.int .i64 0,.sl 0 6 [],.sl 0 1 [],.bool false]) [],⟨none,.store 11 (.v 5) (.v 14),none,[14]⟩] [1,2,3,5,9,10,11] (.seq (.rgd [jf 15 6 5 [],jl 16 15 [],jn 17 (.call 95 [.v 16]) [],jf 18 8 5 [],jl 19 18 [],jn 20 (.call 95 [.v 19]) [],jf 21 9 5 [],jl 22 21 [],jn 23 (.app 123 9 1 (.c (.sl 0 1 [])) (.v 22)) [],jf 24 6 5 [],⟨none,.store 1 (.v 24) (.v 17),none,[]⟩,jf 25 8 5 [],⟨none,.store 1 (.v 25) (.v 20),none,[]⟩,jf 26 9 5 [],⟨none,.store 1 (.v 26) (.v 23),none,[]⟩] [1,2,3,5,9,10,11] [none,none,some [],some [0],some [1],some [],some [3,0],some [4,1],some [],some [3,0],none,none,none,none,none]) (.rg [jf 27 0 3 [],jl 28 27 [27],jL 29 11 5 [5],jn 30 (.litOwn 130 1000071 11 [.v 29]) [29],jn 31 (.appN 131 1000071 11 (.v 28) (.v 30)) [28,30],jf 32 0 3 [],⟨none,.store 1 (.v 32) (.v 31),none,[31,32]⟩] [1,2,3,9,10,11])))) (.gh .wk (.rg [jn 33 (.binN .add (.v 11) (ci 1)) [11],jm 11 33 [33]] [1,2,3,9,10,11])))))
def XG : SCode := (jq [jb 38 .lss 37 36 []] [1,2,3,35,36,37,38] (.seq (.cond (.v 38) .skip (.exit 2)) (.seq (.block 3 (jq [ja 39 3 35 37 [],jL 40 3 39 [39],jn 7 (.alloc 107 [.str ⟨#[]⟩,.int .i64 0,.sl 0 6 []]) [],⟨none,.store 3 (.v 7) (.v 40),none,[40]⟩] [1,2,3,7,35,36,37] (jq [jf 41 2 7 [],jl 42 41 [41],jn 43 (.call 95 [.v 42]) [42],jf 44 2 7 [],⟨none,.store 1 (.v 44) (.v 43),none,[43,44]⟩] [1,2,3,7,35,36,37] (.rg [jf 45 1 3 [],jl 46 45 [45],jL 47 3 7 [7],jn 48 (.litOwn 148 1000124 3 [.v 47]) [47],jn 49 (.appN 149 1000124 3 (.v 46) (.v 48)) [46,48],jf 50 1 3 [],⟨none,.store 1 (.v 50) (.v 49),none,[49,50]⟩] [1,2,3,35,36,37])))) (.rg [jn 51 (.binN .add (.v 37) (ci 1)) [37],jm 37 51 [51]] [1,2,3,35,36,37]))))
/-- impl.ownBook: function 60 -/
def Qbt : SFun := { n := 57,res := [.cN 2 3],body := (jq [jn 1 (.box 101 (.v 0)) [0],jn 2 (.alloc 102 [.sl 0 11 [],.sl 0 3 [],.sl 0 2 []]) []] [1,2] (jq [jn 3 (.alloc 103 [.sl 98 11 [],.sl 98 3 [],.sl 98 2 []]) []] [1,2,3] (.seq (jq [jf 8 0 1 [],jl 9 8 [8],jn 10 (.lenL (.v 9)) [],jI 11 0 []] [1,2,3,9,10,11] (.block 0 (.gh (.nilB 103 0 131 1000071) (.loop XF)))) (.seq (jq [jf 34 1 1 [],jl 35 34 [34],jn 36 (.lenL (.v 35)) [],jI 37 0 []] [1,2,3,35,36,37] (.block 2 (.gh (.nilB 103 1 149 1000124) (.loop XG)))) (jq [jf 52 2 1 [1],jl 53 52 [52],jn 54 (.app 154 118 2 (.c (.sl 0 2 [])) (.v 53)) [53],jf 55 2 3 [],⟨none,.store 1 (.v 55) (.v 54),none,[54,55]⟩] [2,3] (jq [jL 56 3 3 [3],⟨none,.store 3 (.v 2) (.v 56),none,[56]⟩] [2] .ret)))))) }
theorem Qhv : QY Go.Proofs.Tryz.prog 60 Qbt = true := by kernel_rfl
end Go.Ve

namespace Go.Ve
noncomputable section
open Go.Proofs
set_option maxRecDepth 100000
open Go.ChangeShapes Go.WideShapes
theorem Kh {α : Type} {l : List α} {i : Nat} {x d : α} (h : i < l.length) : (l.set i x).getD i d = x := by simp [h]
theorem K2 {α : Type} {l : List α} {i j : Nat} {x d : α} (h : i ≠ j) : (l.set i x).getD j d = l.getD j d := by simp [List.getElem?_set_ne h]
theorem WZ {M : List (Nat × AObj)} : keepB M M = true := by
  unfold keepB
  rw [List.all_eq_true]
  intro o ho
  simp only [Bool.or_eq_true]
  right; simpa using ho
theorem QfG {α : Type} (F : α → St) (good : α → Prop) (μ : α → Nat) (a0 : α) {body : (XT → St → Prop) → St → Prop} {Q : XT → St → Prop} {st : St}
    (h0 : Wk st (F a0)) (g0 : good a0)
    (step : ∀ a, good a → ∀ NX : St → Prop, (∀ a' st', Wk st' (F a') → good a' → μ a' < μ a → NX st') → body (Qh1 NX Q) (F a)) : QgO body Q st :=
  Qi3 F good μ a0 h0 g0 fun a ga => step a ga _ fun a' st' h1 h2 h3 => ⟨μ a', _, h1, ⟨a', rfl, h2, rfl⟩, h3⟩
theorem Q4 {a b i : Nat} : (fam a i = fam b i) = (a = b) := by unfold fam; simp
theorem Yo {a i j : Nat} : (fam a i = fam a j) = (i = j) := propext ⟨fun h => by unfold fam at h; omega, fun h => by rw [h]⟩
theorem Qjm (s : Box6) : (Box6.mk s.x s.y s.l s.h s.i s.o) = s := (rfl)
theorem QnF (l : List ByteArray) : ((l.map JJ).all fun r => r.all QaY) = true := by simp [JJ, QaY]
theorem Qhw (l : List Box6) : ((l.map Box6.row).all fun r => r.all QaY) = true := by simp [Box6.row, QaY]
def JE (c : Nat) : Nat := if c = 9 then 9 else 100
def JF (_ : Nat) : Nat := 100
def Ko (_ : Nat) : Nat := 100
theorem YH : ∀ c, JE c < 1000000 := fun c => by unfold JE; split <;> omega
theorem Kn : ∀ c, JF c < 1000000 := fun c => by unfold JF; omega
theorem JM : ∀ c, Ko c < 1000000 := fun c => by unfold Ko; omega
def Qut (w : Word) : Nat := if w.kd = 1 then w.tu.length else 0
def Word.rowO (w : Word) : List AV := [.int .i64 w.kd, .str w.fr, .str w.dst, .str w.fl, .int .i64 w.nr, .int .i64 w.la, .int .i64 w.tn, .sl (Qut w) 6 (w.tu.map Box6.row)]
theorem QX : RowOk 11 (Own.row 0) := ⟨fun x => rfl, fun x => by simp only [Own.row, List.all_cons, simpleV, Qhw, QnF, List.all_nil, Bool.and_self]⟩
theorem QR : RowOk 3 (Part.row 0) := ⟨fun x => rfl, fun x => by simp only [Part.row, List.all_cons, simpleV, Qhw, List.all_nil, Bool.and_self]⟩
theorem QfH {t s : Nat} {xs : List (List AV)} : tag0 (.sl t s xs) = .sl 0 s (Gx xs) := rfl
theorem Qe7 {k : IntKind} {n : Int} : tag0 (.int k n) = .int k n := rfl
theorem QqW {t : Nat} {l : List Own} : Gx (l.map (Own.row t)) = l.map (Own.row 0) := Qi6 (f := Own.row) (fun x => by simp only [Own.row, KH, tag0]; rw [Gd (f := Box6.row) fun _ => rfl, Gd (f := Box6.row) fun _ => rfl, Gd (f := JJ) fun _ => rfl]) l
theorem Qpn {t : Nat} {l : List Part} : Gx (l.map (Part.row t)) = l.map (Part.row 0) := Qi6 (f := Part.row) (fun x => by simp only [Part.row, KH, tag0]; rw [Gd (f := Box6.row) fun _ => rfl]) l
theorem Qbu {t : Nat} {l : List Word} : Gx (l.map (Word.row t)) = l.map (Word.row 0) := Qi6 (f := Word.row) (fun x => by simp only [Word.row, KH, tag0]; rw [Gd (f := Box6.row) fun _ => rfl]) l
theorem Qpo {t : Nat} (ht : t ≠ 98) {l : List Own} : Zc (l.map (Own.row t)) = true := Kv (f := Own.row t) (fun x => by simp only [Own.row, K6, Qi5]; rw [Kv (f := Box6.row) fun _ => rfl, Kv (f := Box6.row) fun _ => rfl, Kv (f := JJ) fun _ => rfl]; simp [ht]) l
theorem QnG {t : Nat} (ht : t ≠ 98) {l : List Part} : Zc (l.map (Part.row t)) = true := Kv (f := Part.row t) (fun x => by simp only [Part.row, K6, Qi5]; rw [Kv (f := Box6.row) fun _ => rfl]; simp [ht]) l
theorem GC {t : Nat} (ht : t ≠ 98) {l : List Word} : Zc (l.map (Word.row t)) = true := Kv (f := Word.row t) (fun x => by simp only [Word.row, K6, Qi5]; rw [Kv (f := Box6.row) fun _ => rfl]; simp [ht]) l
theorem QnH {a : List Box6} {i : Nat} (h : i < a.length) : (Yn a i).set i (a.getD i default) = Yn a (i + 1) := by
  refine List.ext_getElem (by simp [Yn]; omega) fun j h1 h2 => ?_
  by_cases e : j = i
  · subst e
    simp [Yn, List.getElem_append, h]
    intro h9; omega
  · simp only [List.getElem_set_ne (Ne.symm e)]
    simp only [Yn, List.getElem_append, List.length_take, List.getElem_take, List.getElem_replicate]
    split <;> split <;> first | rfl | omega
theorem Qhx (t : Nat) (a : List ByteArray) (ha : a.length ≤ 1048576) : Contract P 112 [.sl t 1 (a.map JJ)] [] (.own 107 0 0 a.length) [(107, .arr 9 0 1 (a.map JJ))] := by
  have tkA : List.take a.length (a.map JJ) = a.map JJ := List.take_of_length_le (by simp)
  refine Qh (Env.nil P) hm Qe6 (nlb rfl) rfl ?_; unfold WY; simp (maxSteps := 2000000) only [bitvec_to_nat, reduceIte, Nat.reduceEqDiff, Nat.reduceAdd, Nat.reduceLeDiff, reduceCtorEq, Nat.reduceBEq, Nat.reduceLT, Nat.reduceMod, fmc, Qf, Qm, Qe, QE, keepB, Qn, QJ, int_toBitVec_meta, method_specs_simp, ZH, Nat.sub_zero]
  have m0 : List.replicate a.length [.str ⟨#[]⟩] = (JS a 0).map JJ := by simp [JS, JJ]
  refine ⟨by omega, ?_⟩
  refine QH (fun i : Nat => [(4, .int .i64 i)]) (fun i => [(107, .arr 9 0 1 ((JS a i).map JJ))]) (fun i => i ≤ a.length) (fun i => a.length - i) 0 (by simp only [Ju, Jv, Jw, Jx, Qi, Qj, Qk, Ql, reduceIte, Nat.reduceEqDiff]; exact ⟨by repeat' (first | exact trivial | refine ⟨.inr rfl, ?_⟩), ⟨congrArg (fun g => some (AObj.arr 9 0 1 g)) m0, trivial⟩, rfl, rfl⟩) (Nat.zero_le _) ?_
  intro i hi NX hN
  unfold UB; simp (maxSteps := 2000000) only [bitvec_to_nat, reduceIte, Nat.reduceEqDiff, Nat.reduceAdd, Nat.reduceLeDiff, reduceCtorEq, Nat.reduceBEq, Nat.reduceLT, Nat.reduceMod, fmc, Qf, Qm, Qe, QE, keepB, Qn, QJ, int_toBitVec_meta, method_specs_simp, ZH, Nat.sub_zero]
  refine ⟨fun h => ?_, fun h => ?_⟩
  · repeat' (first | with_reducible apply And.intro | with_reducible intro _)
    all_goals first
      | omega
      | rfl
      | (have e := Qbs (a := a) (i := i) (by omega)
         try simp only [JJ] at *
         refine hN (i + 1) _ ⟨by repeat' (first | exact trivial | refine ⟨.inr rfl, ?_⟩), ⟨congrArg (fun g => some (AObj.arr 9 0 1 (List.map JJ g))) e, trivial⟩, rfl, rfl⟩ ?_ ?_ <;> omega)
  · have e : i = a.length := by omega
    subst e
    simp only [JS, List.take_length, Nat.sub_self, List.replicate_zero, List.append_nil]
    exact ⟨trivial, rfl, rfl⟩
theorem QbS (t : Nat) (a : List Box6) (ha : a.length ≤ 1048576) : Contract P 25 [.sl t 6 (a.map Box6.row)] [] (.own 107 0 0 a.length) [(107, .arr 100 0 6 (a.map Box6.row))] := by
  have tkA : List.take a.length (a.map Box6.row) = a.map Box6.row := List.take_of_length_le (by simp)
  refine Qh ((Env.nil P).add 67 Qbh QoG) hm QdJ (nlb rfl) rfl ?_; unfold Vi; simp (maxSteps := 2000000) only [bitvec_to_nat, reduceIte, Nat.reduceEqDiff, Nat.reduceAdd, Nat.reduceLeDiff, reduceCtorEq, Nat.reduceBEq, Nat.reduceLT, Nat.reduceMod, fmc, Qf, Qm, Qe, QE, keepB, Qn, QJ, Qbh, int_toBitVec_meta, method_specs_simp, Qgh, Nat.sub_zero]
  have m0 : List.replicate a.length [.int .i64 0, .int .i64 0, .int .i64 0, .int .i64 0, .int .i64 0, .int .i64 0] = (Yn a 0).map Box6.row := by simp [Yn, Box6.row]
  refine ⟨by omega, ?_⟩
  refine QH (fun i : Nat => [(4, .int .i64 i)]) (fun i => [(107, .arr 100 0 6 ((Yn a i).map Box6.row))]) (fun i => i ≤ a.length) (fun i => a.length - i) 0 (by simp only [Ju, Jv, Jw, Jx, Qi, Qj, Qk, Ql, reduceIte, Nat.reduceEqDiff]; exact ⟨by repeat' (first | exact trivial | refine ⟨.inr rfl, ?_⟩), ⟨congrArg (fun g => some (AObj.arr 100 0 6 g)) m0, trivial⟩, rfl, rfl⟩) (Nat.zero_le _) ?_
  intro i hi NX hN
  unfold ZA; simp (maxSteps := 2000000) only [bitvec_to_nat, reduceIte, Nat.reduceEqDiff, Nat.reduceAdd, Nat.reduceLeDiff, reduceCtorEq, Nat.reduceBEq, Nat.reduceLT, Nat.reduceMod, fmc, Qf, Qm, Qe, QE, keepB, Qn, QJ, Qbh, int_toBitVec_meta, method_specs_simp, Qgh, Nat.sub_zero]
  refine ⟨fun h => ?_, fun h => ?_⟩
  · repeat' (first | with_reducible apply And.intro | with_reducible intro _)
    all_goals first
      | omega
      | rfl
      | (have e := QnH (a := a) (i := i) (by omega)
         try simp only [Box6.row] at *
         refine hN (i + 1) _ ⟨by repeat' (first | exact trivial | refine ⟨.inr rfl, ?_⟩), ⟨congrArg (fun g => some (AObj.arr 100 0 6 (List.map Box6.row g))) e, trivial⟩, rfl, rfl⟩ ?_ ?_ <;> omega)
  · have e : i = a.length := by omega
    subst e
    simp only [Yn, List.take_length, Nat.sub_self, List.replicate_zero, List.append_nil]
    exact ⟨trivial, rfl, rfl⟩
theorem QnI (t : Nat) (a : List Seen) (ha : a.length ≤ 1048576) : Contract P 44 [.sl t 2 (a.map Seen.row)] [] (.own 107 0 0 a.length) [(107, .arr 118 0 2 (a.map Seen.row))] := by
  have tkA : List.take a.length (a.map Seen.row) = a.map Seen.row := List.take_of_length_le (by simp)
  refine Qh ((Env.nil P).add 85 Vh Qmn) hm QcC (nlb rfl) rfl ?_; unfold UC; simp (maxSteps := 2000000) only [bitvec_to_nat, reduceIte, Nat.reduceEqDiff, Nat.reduceAdd, Nat.reduceLeDiff, reduceCtorEq, Nat.reduceBEq, Nat.reduceLT, Nat.reduceMod, fmc, Qf, Qm, Qe, QE, keepB, Qn, QJ, Vh, int_toBitVec_meta, method_specs_simp, Qgp, Nat.sub_zero]
  have m0 : List.replicate a.length [.str ⟨#[]⟩, .int .i64 0] = (XE a 0).map Seen.row := by simp [XE, Seen.row]
  refine ⟨by omega, ?_⟩
  refine QH (fun i : Nat => [(4, .int .i64 i)]) (fun i => [(107, .arr 118 0 2 ((XE a i).map Seen.row))]) (fun i => i ≤ a.length) (fun i => a.length - i) 0 (by simp only [Ju, Jv, Jw, Jx, Qi, Qj, Qk, Ql, reduceIte, Nat.reduceEqDiff]; exact ⟨by repeat' (first | exact trivial | refine ⟨.inr rfl, ?_⟩), ⟨congrArg (fun g => some (AObj.arr 118 0 2 g)) m0, trivial⟩, rfl, rfl⟩) (Nat.zero_le _) ?_
  intro i hi NX hN
  unfold X0; simp (maxSteps := 2000000) only [bitvec_to_nat, reduceIte, Nat.reduceEqDiff, Nat.reduceAdd, Nat.reduceLeDiff, reduceCtorEq, Nat.reduceBEq, Nat.reduceLT, Nat.reduceMod, fmc, Qf, Qm, Qe, QE, keepB, Qn, QJ, Vh, int_toBitVec_meta, method_specs_simp, Qgp, Nat.sub_zero]
  refine ⟨fun h => ?_, fun h => ?_⟩
  · repeat' (first | with_reducible apply And.intro | with_reducible intro _)
    all_goals first
      | omega
      | rfl
      | (have e := QiK (a := a) (i := i) (by omega)
         try simp only [Seen.row] at *
         refine hN (i + 1) _ ⟨by repeat' (first | exact trivial | refine ⟨.inr rfl, ?_⟩), ⟨congrArg (fun g => some (AObj.arr 118 0 2 (List.map Seen.row g))) e, trivial⟩, rfl, rfl⟩ ?_ ?_ <;> omega)
  · have e : i = a.length := by omega
    subst e
    simp only [XE, List.take_length, Nat.sub_self, List.replicate_zero, List.append_nil]
    exact ⟨trivial, rfl, rfl⟩
theorem QnJ (t : Nat) (a : List Zone) (ha : a.length ≤ 1048576) : Contract P 10 [.sl t 5 (a.map Zone.row)] [] (.own 107 0 0 a.length) [(107, .arr 76 0 5 (a.map Zone.row))] := by
  have tkA : List.take a.length (a.map Zone.row) = a.map Zone.row := List.take_of_length_le (by simp)
  refine Qh ((Env.nil P).add 41 Vg Qmm) hm QcB (nlb rfl) rfl ?_; unfold UA; simp (maxSteps := 2000000) only [bitvec_to_nat, reduceIte, Nat.reduceEqDiff, Nat.reduceAdd, Nat.reduceLeDiff, reduceCtorEq, Nat.reduceBEq, Nat.reduceLT, Nat.reduceMod, fmc, Qf, Qm, Qe, QE, keepB, Qn, QJ, Vg, int_toBitVec_meta, method_specs_simp, Qgo, Nat.sub_zero]
  have m0 : List.replicate a.length [.str ⟨#[]⟩, .int .i64 0, .int .i64 0, .int .i64 0, .int .i64 0] = (XD a 0).map Zone.row := by simp [XD, Zone.row]
  refine ⟨by omega, ?_⟩
  refine QH (fun i : Nat => [(4, .int .i64 i)]) (fun i => [(107, .arr 76 0 5 ((XD a i).map Zone.row))]) (fun i => i ≤ a.length) (fun i => a.length - i) 0 (by simp only [Ju, Jv, Jw, Jx, Qi, Qj, Qk, Ql, reduceIte, Nat.reduceEqDiff]; exact ⟨by repeat' (first | exact trivial | refine ⟨.inr rfl, ?_⟩), ⟨congrArg (fun g => some (AObj.arr 76 0 5 g)) m0, trivial⟩, rfl, rfl⟩) (Nat.zero_le _) ?_
  intro i hi NX hN
  unfold XZ; simp (maxSteps := 2000000) only [bitvec_to_nat, reduceIte, Nat.reduceEqDiff, Nat.reduceAdd, Nat.reduceLeDiff, reduceCtorEq, Nat.reduceBEq, Nat.reduceLT, Nat.reduceMod, fmc, Qf, Qm, Qe, QE, keepB, Qn, QJ, Vg, int_toBitVec_meta, method_specs_simp, Qgo, Nat.sub_zero]
  refine ⟨fun h => ?_, fun h => ?_⟩
  · repeat' (first | with_reducible apply And.intro | with_reducible intro _)
    all_goals first
      | omega
      | rfl
      | (have e := QiJ (a := a) (i := i) (by omega)
         try simp only [Zone.row] at *
         refine hN (i + 1) _ ⟨by repeat' (first | exact trivial | refine ⟨.inr rfl, ?_⟩), ⟨congrArg (fun g => some (AObj.arr 76 0 5 (List.map Zone.row g))) e, trivial⟩, rfl, rfl⟩ ?_ ?_ <;> omega)
  · have e : i = a.length := by omega
    subst e
    simp only [XD, List.take_length, Nat.sub_self, List.replicate_zero, List.append_nil]
    exact ⟨trivial, rfl, rfl⟩
def dch (i : Nat) : ByteArray := ⟨#[QlQ [AV.int .u8 (IntKind.u8.wrap (48 + (i : Int) % 10))]]⟩
theorem QrD (i : Nat) : Qgy [[AV.int .u8 (IntKind.u8.wrap (48 + (i : Int) % 10))]] = dch i := rfl
def dg (k : Nat) (o : ByteArray) : ByteArray := if h : k = 0 then o else dg (k / 10) (dch k ++ o)
termination_by k
decreasing_by omega
theorem QsC (o : ByteArray) : dg 0 o = o := by rw [dg]; simp
theorem QsD {k : Nat} (o : ByteArray) (h : 0 < k) : dg k o = dg (k / 10) (dch k ++ o) := by rw [dg]; simp [show k ≠ 0 by omega]
def mtx (k : Int) : ByteArray := if k ≤ 0 then ⟨#[109, 48]⟩ else ⟨#[109]⟩ ++ dg k.toNat ⟨#[]⟩
theorem QsE (i : Nat) : (dch i).toList.length = 1 := by rw [← JU]; rfl
theorem QsF (a b : ByteArray) : (a ++ b).toList.length = a.toList.length + b.toList.length := by simp only [← JU, ByteArray.size_append]
theorem QsG (w : Int) : QjG [AV.int .u8 (IntKind.u8.wrap w)] = true := by
  simp [QjG, IntKind.wrap, IntKind.bits, IntKind.signed]
  try omega
theorem Qt6 : (⟨#[109]⟩ : ByteArray).toList.length = 1 := by rw [← JU]; rfl
theorem Qt7 : (⟨#[]⟩ : ByteArray).toList.length = 0 := by rw [← JU]; rfl
theorem QnK (k : Int) (hk : 0 ≤ k ∧ k ≤ 1152921504606846976) : Contract P 52 [.int .i64 k] [] (.str (mtx k)) [] := by
  refine Qh (Env.nil P) hm Qg0 (nlb rfl) rfl ?_; unfold Qa0; simp (maxSteps := 2000000) only [bitvec_to_nat, reduceIte, Nat.reduceEqDiff, Nat.reduceAdd, Nat.reduceLeDiff, reduceCtorEq, Nat.reduceBEq, Nat.reduceLT, Nat.reduceMod, fmc, Nat.zero_add, Qs0, List.map_cons, List.map_nil, Gv, QrD]
  refine ⟨fun h => by rw [mtx, if_pos h], fun hp => ?_⟩
  have hkk : ((k.toNat : Nat) : Int) = k := by omega
  refine QH (fun a : Nat × ByteArray => [(0, .int .i64 a.1), (3, .str a.2)]) (fun _ => []) (fun a => dg a.1 a.2 = dg k.toNat ⟨#[]⟩ ∧ a.2.toList.length + a.1 ≤ 1152921504606846976) (fun a => a.1) (k.toNat, ⟨#[]⟩) (by simp only [hkk]; simp only [Ju, Jv, Jw, Jx, Qi, Qj, Qk, Ql, reduceIte, Nat.reduceEqDiff]; exact ⟨by repeat' (first | exact trivial | refine ⟨.inr rfl, ?_⟩), by repeat' (first | exact trivial | refine ⟨rfl, ?_⟩), by first | rfl | simp [closedB, Qc, Qb, Qd, dom, Qa, *], by first | rfl | simp [keepB, dom]⟩) ⟨rfl, by simp only [Qt7]; omega⟩ ?_
  rintro ⟨i, s⟩ ⟨h1, h2⟩ NX hN
  simp only at h1 h2
  unfold WC; simp (maxSteps := 2000000) only [bitvec_to_nat, reduceIte, Nat.reduceEqDiff, Nat.reduceAdd, Nat.reduceLeDiff, reduceCtorEq, Nat.reduceBEq, Nat.reduceLT, Nat.reduceMod, fmc, Nat.zero_add, Qs0, List.map_cons, List.map_nil, Gv, QrD]
  refine ⟨fun g => ⟨by omega, by omega, by simp only [List.all_cons, List.all_nil, QsG, Bool.and_true], ?_⟩, fun g => ?_⟩
  · have e1 := QsE i
    refine ⟨by rw [e1]; omega, by omega, ?_⟩
    have e2 : ((i : Int) / 10) = ((i / 10 : Nat) : Int) := by omega
    simp only [e2]
    refine hN (i / 10, dch i ++ s) _ (by simp only [Ju, Jv, Jw, Jx, Qi, Qj, Qk, Ql, reduceIte, Nat.reduceEqDiff]; exact ⟨by repeat' (first | exact trivial | refine ⟨.inr rfl, ?_⟩), by repeat' (first | exact trivial | refine ⟨rfl, ?_⟩), by first | rfl | simp [closedB, Qc, Qb, Qd, dom, Qa, *], by first | rfl | simp [keepB, dom]⟩) ?_ ?_
    · exact ⟨by rw [← QsD s (by omega)]; exact h1, by simp only [QsF, e1]; omega⟩
    · simp only; omega
  · have e : i = 0 := by omega
    subst e
    rw [QsC] at h1
    refine ⟨by rw [Qt6]; omega, ?_⟩
    rw [mtx, if_neg hp, ← h1]
def Qx : List AV → Option (Prop × AV)
  | [.int .i64 k] => some ((True) ∧ (0 ≤ k ∧ k ≤ 1152921504606846976), .str (mtx k))
  | _ => none
theorem J8 : ∀ args p v, Qx args = some (p, v) → p → Contract P 52 args [] v [] ∧ noref v = true ∧ No99 v := by
  intro args p v h1 h2
  unfold Qx at h1
  split at h1
  · rename_i k
    cases h1
    obtain ⟨_, HP⟩ := h2
    have := QnK k HP
    exact ⟨this, rfl, trivial⟩
  · cases h1
def X1 (k : Int) : ByteArray := mtx k
def KO (k : Int) (n : Nat) : List ByteArray := (List.range n).map fun j : Nat => X1 (k + (j : Int))
theorem Jh {k : Int} {n : Nat} : (KO k n).length = n := by simp [KO]
theorem QaE {k : Int} {n j : Nat} (h : j < n) : (KO k n).getD j default = X1 (k + (j : Int)) := by simp [KO, h]
theorem Vu {l : List ByteArray} {i : Nat} {v : ByteArray} : (l.map JJ).set i (Q7 ((l.map JJ).getD i []) 0 [.str v]) = (l.set i v).map JJ :=
  Kg (α := ByteArray) (f := JJ) (fun _ => v) fun x => by simp [JJ, Q7]
set_option maxHeartbeats 1000000 in
theorem Qf6 (v : Nat) (k : Int) (a : List ByteArray) (ha : a.length ≤ 1048577) (hk : 0 ≤ k ∧ k ≤ 1125899906842624) : Contract P 94 [.own 3 v 0 a.length, .int .i64 k] [(3, .arr 9 v 1 (a.map JJ))] (.int .i64 (k + a.length)) [(3, .arr 9 v 1 ((KO k a.length).map JJ))] := by
  have hz : ((0 : Nat) : Int) = 0 := rfl
  have gs : True := trivial
  refine Qh ((Env.nil P).add 52 Qx J8) hm Qda (nlb rfl) rfl ?_; unfold U6; simp (maxSteps := 2000000) only [bitvec_to_nat, reduceIte, Nat.reduceEqDiff, Nat.reduceAdd, Nat.reduceLeDiff, reduceCtorEq, Nat.reduceBEq, Nat.reduceLT, Nat.reduceMod, fmc, Qf, Qm, Qe, QE, keepB, Qn, QJ, Qx, Vu, List.set_set, gs, Qgg, JJ, Int.toNat_natCast, List.length_map, List.length_set, Nat.sub_zero, Nat.zero_add, hz]
  refine QH (fun b : Nat × List ByteArray => [(1, .int .i64 (k + b.1)), (5, .int .i64 b.1)]) (fun b => [(3, .arr 9 v 1 (b.2.map JJ))]) (fun b => b.2.length = a.length ∧ b.1 ≤ a.length ∧ ∀ j, j < b.1 → b.2.getD j default = X1 (k + (j : Int))) (fun b => a.length - b.1) (0, a) ?_ ⟨rfl, Nat.zero_le _, fun j hj => absurd hj (Nat.not_lt_zero _)⟩ ?_
  · have e0 : k + ((0 : Nat) : Int) = k := by omega
    simp only [e0]
    simp only [Ju, Jv, Jw, Jx, Qi, Qj, Qk, Ql, reduceIte, Nat.reduceEqDiff]; exact ⟨by repeat' (first | exact trivial | refine ⟨.inr rfl, ?_⟩), by repeat' (first | exact trivial | refine ⟨rfl, ?_⟩), by first | rfl | simp [closedB, Qc, Qb, Qd, dom, Qa, *], by first | rfl | simp [keepB, dom]⟩
  rintro ⟨i, l⟩ ⟨h1, h2, h3⟩ NX hN
  simp only at h1 h2 h3
  have gs : i < a.length → ∀ x : ByteArray, (l.set i x).getD i default = x := fun h x => Kh (by omega)
  by_cases hi : i < a.length
  · have gs := gs hi
    have e5 : k + ((i + 1 : Nat) : Int) = k + (i : Int) + 1 := by omega
    unfold Y4; simp (maxSteps := 2000000) only [bitvec_to_nat, reduceIte, Nat.reduceEqDiff, Nat.reduceAdd, Nat.reduceLeDiff, reduceCtorEq, Nat.reduceBEq, Nat.reduceLT, Nat.reduceMod, fmc, Qf, Qm, Qe, QE, keepB, Qn, QJ, Qx, Vu, List.set_set, gs, Qgg, JJ, Int.toNat_natCast, List.length_map, List.length_set, Nat.sub_zero, Nat.zero_add, hz]
    repeat' (first | with_reducible apply And.intro | with_reducible intro _)
    all_goals first
      | omega
      | (refine hN (i + 1, l.set i (X1 (k + (i : Int)))) _ (by simp only [e5]; simp only [Ju, Jv, Jw, Jx, Qi, Qj, Qk, Ql, reduceIte, Nat.reduceEqDiff]; exact ⟨by repeat' (first | exact trivial | refine ⟨.inr rfl, ?_⟩), by repeat' (first | exact trivial | refine ⟨rfl, ?_⟩), by first | rfl | simp [closedB, Qc, Qb, Qd, dom, Qa, *], by first | rfl | simp [keepB, dom]⟩) ⟨by simp only [List.length_set]; exact h1, hi, fun j hj => ?_⟩ (by simp only; omega)
         simp only at hj ⊢
         by_cases e : j = i
         · subst e; exact Kh (by omega)
         · rw [K2 (Ne.symm e)]; exact h3 j (by omega))
      | (exfalso; omega)
  · have hl : l = KO k a.length := Vc (by rw [Jh]; exact h1) fun j hj => by rw [QaE (by omega)]; exact h3 j (by omega)
    have hi' : ¬ (i : Int) < a.length := by omega
    unfold Y4; simp (maxSteps := 2000000) only [bitvec_to_nat, reduceIte, Nat.reduceEqDiff, Nat.reduceAdd, Nat.reduceLeDiff, reduceCtorEq, Nat.reduceBEq, Nat.reduceLT, Nat.reduceMod, fmc, Qf, Qm, Qe, QE, keepB, Qn, QJ, Qx, Vu, List.set_set, gs, Qgg, JJ, Int.toNat_natCast, List.length_map, List.length_set, Nat.sub_zero, Nat.zero_add, hz, hi']
    refine ⟨by omega, ?_⟩
    rw [hl]
set_option maxHeartbeats 1000000 in
theorem Qf7 (t : Nat) (k : Int) (n : Nat) (ha : n ≤ 1048577) (hk : 0 ≤ k ∧ k ≤ 1125899906842624) : Contract P 97 [.sl t 1 ((KO k n).map JJ), .int .i64 k] [] (.int .i64 (k + n)) [] := by
  have hz : ((0 : Nat) : Int) = 0 := rfl
  refine Qh ((Env.nil P).add 52 Qx J8) hm Qdb (nlb rfl) rfl ?_; unfold U7; simp (maxSteps := 2000000) only [bitvec_to_nat, reduceIte, Nat.reduceEqDiff, Nat.reduceAdd, Nat.reduceLeDiff, reduceCtorEq, Nat.reduceBEq, Nat.reduceLT, Nat.reduceMod, fmc, Qx, Qgg, JJ, Int.toNat_natCast, List.length_map, Nat.sub_zero, Nat.zero_add, hz, eq_self, Jh]
  refine QH (fun i : Nat => [(1, .int .i64 (k + i)), (5, .int .i64 i)]) (fun _ => []) (fun i => i ≤ n) (fun i => n - i) 0 ?_ (Nat.zero_le _) ?_
  · have e0 : k + ((0 : Nat) : Int) = k := by omega
    simp only [e0]
    simp only [Ju, Jv, Jw, Jx, Qi, Qj, Qk, Ql, reduceIte, Nat.reduceEqDiff]; exact ⟨by repeat' (first | exact trivial | refine ⟨.inr rfl, ?_⟩), by repeat' (first | exact trivial | refine ⟨rfl, ?_⟩), by first | rfl | simp [closedB, Qc, Qb, Qd, dom, Qa, *], by first | rfl | simp [keepB, dom]⟩
  intro i hi NX hN
  have e5 : k + ((i + 1 : Nat) : Int) = k + (i : Int) + 1 := by omega
  by_cases h : i < n
  · have hg := QaE (k := k) h
    have h' : (i : Int) < n := by omega
    unfold Y5; simp (maxSteps := 2000000) only [bitvec_to_nat, reduceIte, Nat.reduceEqDiff, Nat.reduceAdd, Nat.reduceLeDiff, reduceCtorEq, Nat.reduceBEq, Nat.reduceLT, Nat.reduceMod, fmc, Qx, Qgg, JJ, Int.toNat_natCast, List.length_map, Nat.sub_zero, Nat.zero_add, hz, eq_self, Jh, h', hg, X1, not_true_eq_false, ne_eq, bne_self_eq_false]
    repeat' (first | with_reducible apply And.intro | with_reducible intro _)
    all_goals first
      | omega
      | rfl
      | (rename_i h; exact absurd rfl h)
      | (refine hN (i + 1) _ (by simp only [e5]; simp only [Ju, Jv, Jw, Jx, Qi, Qj, Qk, Ql, reduceIte, Nat.reduceEqDiff]; exact ⟨by repeat' (first | exact trivial | refine ⟨.inr rfl, ?_⟩), by repeat' (first | exact trivial | refine ⟨rfl, ?_⟩), by first | rfl | simp [closedB, Qc, Qb, Qd, dom, Qa, *], by first | rfl | simp [keepB, dom]⟩) ?_ ?_ <;> omega)
  · have h' : ¬ (i : Int) < n := by omega
    unfold Y5; simp (maxSteps := 2000000) only [bitvec_to_nat, reduceIte, Nat.reduceEqDiff, Nat.reduceAdd, Nat.reduceLeDiff, reduceCtorEq, Nat.reduceBEq, Nat.reduceLT, Nat.reduceMod, fmc, Qx, Qgg, JJ, Int.toNat_natCast, List.length_map, Nat.sub_zero, Nat.zero_add, hz, eq_self, Jh, h']
    omega
def Qhy (k : Int) : Box6 := ⟨k, k + 1, k + 1 + 1, k + 1 + 1 + 1, k + 1 + 1 + 1 + 1, k + 1 + 1 + 1 + 1 + 1⟩
def XH (k : Int) (n : Nat) : List Box6 := (List.range n).map fun j : Nat => Qhy (k + 6 * (j : Int))
theorem QF {k : Int} {n : Nat} : (XH k n).length = n := by simp [XH]
theorem Qhz {k : Int} {n j : Nat} (h : j < n) : (XH k n).getD j default = Qhy (k + 6 * (j : Int)) := by simp [XH, h]
theorem Qe8 {l : List Box6} {i : Nat} {v : Int} : (l.map Box6.row).set i (Q7 ((l.map Box6.row).getD i []) 0 [.int .i64 v]) = (l.set i { l.getD i default with x := v }).map Box6.row :=
  Kg (α := Box6) (f := Box6.row) (fun s => { s with x := v }) fun x => by simp [Box6.row, Q7]
theorem Qe9 {l : List Box6} {i : Nat} {v : Int} : (l.map Box6.row).set i (Q7 ((l.map Box6.row).getD i []) 1 [.int .i64 v]) = (l.set i { l.getD i default with y := v }).map Box6.row :=
  Kg (α := Box6) (f := Box6.row) (fun s => { s with y := v }) fun x => by simp [Box6.row, Q7]
theorem Qfa {l : List Box6} {i : Nat} {v : Int} : (l.map Box6.row).set i (Q7 ((l.map Box6.row).getD i []) 2 [.int .i64 v]) = (l.set i { l.getD i default with l := v }).map Box6.row :=
  Kg (α := Box6) (f := Box6.row) (fun s => { s with l := v }) fun x => by simp [Box6.row, Q7]
theorem Qfb {l : List Box6} {i : Nat} {v : Int} : (l.map Box6.row).set i (Q7 ((l.map Box6.row).getD i []) 3 [.int .i64 v]) = (l.set i { l.getD i default with h := v }).map Box6.row :=
  Kg (α := Box6) (f := Box6.row) (fun s => { s with h := v }) fun x => by simp [Box6.row, Q7]
theorem Qfc {l : List Box6} {i : Nat} {v : Int} : (l.map Box6.row).set i (Q7 ((l.map Box6.row).getD i []) 4 [.int .i64 v]) = (l.set i { l.getD i default with i := v }).map Box6.row :=
  Kg (α := Box6) (f := Box6.row) (fun s => { s with i := v }) fun x => by simp [Box6.row, Q7]
theorem Qfd {l : List Box6} {i : Nat} {v : Int} : (l.map Box6.row).set i (Q7 ((l.map Box6.row).getD i []) 5 [.int .i64 v]) = (l.set i { l.getD i default with o := v }).map Box6.row :=
  Kg (α := Box6) (f := Box6.row) (fun s => { s with o := v }) fun x => by simp [Box6.row, Q7]
set_option maxHeartbeats 1000000 in
theorem UE (v : Nat) (k : Int) (a : List Box6) (ha : a.length ≤ 1048577) (hk : 0 ≤ k ∧ k ≤ 1125899906842624) : Contract P 28 [.own 3 v 0 a.length, .int .i64 k] [(3, .arr 100 v 6 (a.map Box6.row))] (.int .i64 (k + 6 * a.length)) [(3, .arr 100 v 6 ((XH k a.length).map Box6.row))] := by
  have hz : ((0 : Nat) : Int) = 0 := rfl
  have gs : True := trivial
  refine Qh (Env.nil P) hm Qct (nlb rfl) rfl ?_; unfold Z3; simp (maxSteps := 2000000) only [bitvec_to_nat, reduceIte, Nat.reduceEqDiff, Nat.reduceAdd, Nat.reduceLeDiff, reduceCtorEq, Nat.reduceBEq, Nat.reduceLT, Nat.reduceMod, fmc, Qf, Qm, Qe, QE, keepB, Qn, QJ, Qe8, Qe9, Qfa, Qfb, Qfc, Qfd, List.set_set, gs, Box6.row, Qgg, JJ, Int.toNat_natCast, List.length_map, List.length_set, Nat.sub_zero, Nat.zero_add, hz]
  refine QH (fun b : Nat × List Box6 => [(1, .int .i64 (k + 6 * b.1)), (5, .int .i64 b.1)]) (fun b => [(3, .arr 100 v 6 (b.2.map Box6.row))]) (fun b => b.2.length = a.length ∧ b.1 ≤ a.length ∧ ∀ j, j < b.1 → b.2.getD j default = Qhy (k + 6 * (j : Int))) (fun b => a.length - b.1) (0, a) ?_ ⟨rfl, Nat.zero_le _, fun j hj => absurd hj (Nat.not_lt_zero _)⟩ ?_
  · have e0 : k + 6 * ((0 : Nat) : Int) = k := by omega
    simp only [e0]
    simp only [Ju, Jv, Jw, Jx, Qi, Qj, Qk, Ql, reduceIte, Nat.reduceEqDiff]; exact ⟨by repeat' (first | exact trivial | refine ⟨.inr rfl, ?_⟩), by repeat' (first | exact trivial | refine ⟨rfl, ?_⟩), by first | rfl | simp [closedB, Qc, Qb, Qd, dom, Qa, *], by first | rfl | simp [keepB, dom]⟩
  rintro ⟨i, l⟩ ⟨h1, h2, h3⟩ NX hN
  simp only at h1 h2 h3
  have gs : i < a.length → ∀ x : Box6, (l.set i x).getD i default = x := fun h x => Kh (by omega)
  by_cases hi : i < a.length
  · have gs := gs hi
    have e5 : k + 6 * ((i + 1 : Nat) : Int) = k + 6 * (i : Int) + 1 + 1 + 1 + 1 + 1 + 1 := by omega
    unfold Yz; simp (maxSteps := 2000000) only [bitvec_to_nat, reduceIte, Nat.reduceEqDiff, Nat.reduceAdd, Nat.reduceLeDiff, reduceCtorEq, Nat.reduceBEq, Nat.reduceLT, Nat.reduceMod, fmc, Qf, Qm, Qe, QE, keepB, Qn, QJ, Qe8, Qe9, Qfa, Qfb, Qfc, Qfd, List.set_set, gs, Box6.row, Qgg, JJ, Int.toNat_natCast, List.length_map, List.length_set, Nat.sub_zero, Nat.zero_add, hz]
    repeat' (first | with_reducible apply And.intro | with_reducible intro _)
    all_goals first
      | omega
      | (refine hN (i + 1, l.set i (Qhy (k + 6 * (i : Int)))) _ (by simp only [e5]; simp only [Ju, Jv, Jw, Jx, Qi, Qj, Qk, Ql, reduceIte, Nat.reduceEqDiff]; exact ⟨by repeat' (first | exact trivial | refine ⟨.inr rfl, ?_⟩), by repeat' (first | exact trivial | refine ⟨rfl, ?_⟩), by first | rfl | simp [closedB, Qc, Qb, Qd, dom, Qa, *], by first | rfl | simp [keepB, dom]⟩) ⟨by simp only [List.length_set]; exact h1, hi, fun j hj => ?_⟩ (by simp only; omega)
         simp only at hj ⊢
         by_cases e : j = i
         · subst e; exact Kh (by omega)
         · rw [K2 (Ne.symm e)]; exact h3 j (by omega))
      | (exfalso; omega)
  · have hl : l = XH k a.length := Vc (by rw [QF]; exact h1) fun j hj => by rw [Qhz (by omega)]; exact h3 j (by omega)
    have hi' : ¬ (i : Int) < a.length := by omega
    unfold Yz; simp (maxSteps := 2000000) only [bitvec_to_nat, reduceIte, Nat.reduceEqDiff, Nat.reduceAdd, Nat.reduceLeDiff, reduceCtorEq, Nat.reduceBEq, Nat.reduceLT, Nat.reduceMod, fmc, Qf, Qm, Qe, QE, keepB, Qn, QJ, Qe8, Qe9, Qfa, Qfb, Qfc, Qfd, List.set_set, gs, Box6.row, Qgg, JJ, Int.toNat_natCast, List.length_map, List.length_set, Nat.sub_zero, Nat.zero_add, hz, hi']
    refine ⟨by omega, ?_⟩
    rw [hl]
set_option maxHeartbeats 1000000 in
theorem QlA (t : Nat) (k : Int) (n : Nat) (ha : n ≤ 1048577) (hk : 0 ≤ k ∧ k ≤ 1125899906842624) : Contract P 56 [.sl t 6 ((XH k n).map Box6.row), .int .i64 k] [] (.int .i64 (k + 6 * n)) [] := by
  have hz : ((0 : Nat) : Int) = 0 := rfl
  refine Qh (Env.nil P) hm Qcu (nlb rfl) rfl ?_; unfold Z9; simp (maxSteps := 2000000) only [bitvec_to_nat, reduceIte, Nat.reduceEqDiff, Nat.reduceAdd, Nat.reduceLeDiff, reduceCtorEq, Nat.reduceBEq, Nat.reduceLT, Nat.reduceMod, fmc, Box6.row, Qjm, Qgg, JJ, Int.toNat_natCast, List.length_map, Nat.sub_zero, Nat.zero_add, hz, eq_self, QF]
  refine QH (fun i : Nat => [(1, .int .i64 (k + 6 * i)), (5, .int .i64 i)]) (fun _ => []) (fun i => i ≤ n) (fun i => n - i) 0 ?_ (Nat.zero_le _) ?_
  · have e0 : k + 6 * ((0 : Nat) : Int) = k := by omega
    simp only [e0]
    simp only [Ju, Jv, Jw, Jx, Qi, Qj, Qk, Ql, reduceIte, Nat.reduceEqDiff]; exact ⟨by repeat' (first | exact trivial | refine ⟨.inr rfl, ?_⟩), by repeat' (first | exact trivial | refine ⟨rfl, ?_⟩), by first | rfl | simp [closedB, Qc, Qb, Qd, dom, Qa, *], by first | rfl | simp [keepB, dom]⟩
  intro i hi NX hN
  have e5 : k + 6 * ((i + 1 : Nat) : Int) = k + 6 * (i : Int) + 1 + 1 + 1 + 1 + 1 + 1 := by omega
  by_cases h : i < n
  · have hg := Qhz (k := k) h
    have h' : (i : Int) < n := by omega
    unfold YA; simp (maxSteps := 2000000) only [bitvec_to_nat, reduceIte, Nat.reduceEqDiff, Nat.reduceAdd, Nat.reduceLeDiff, reduceCtorEq, Nat.reduceBEq, Nat.reduceLT, Nat.reduceMod, fmc, Box6.row, Qjm, Qgg, JJ, Int.toNat_natCast, List.length_map, Nat.sub_zero, Nat.zero_add, hz, eq_self, QF, h', hg, Qhy, not_true_eq_false, ne_eq, bne_self_eq_false]
    repeat' (first | with_reducible apply And.intro | with_reducible intro _)
    all_goals first
      | omega
      | rfl
      | (rename_i h; exact absurd rfl h)
      | (refine hN (i + 1) _ (by simp only [e5]; simp only [Ju, Jv, Jw, Jx, Qi, Qj, Qk, Ql, reduceIte, Nat.reduceEqDiff]; exact ⟨by repeat' (first | exact trivial | refine ⟨.inr rfl, ?_⟩), by repeat' (first | exact trivial | refine ⟨rfl, ?_⟩), by first | rfl | simp [closedB, Qc, Qb, Qd, dom, Qa, *], by first | rfl | simp [keepB, dom]⟩) ?_ ?_ <;> omega)
  · have h' : ¬ (i : Int) < n := by omega
    unfold YA; simp (maxSteps := 2000000) only [bitvec_to_nat, reduceIte, Nat.reduceEqDiff, Nat.reduceAdd, Nat.reduceLeDiff, reduceCtorEq, Nat.reduceBEq, Nat.reduceLT, Nat.reduceMod, fmc, Box6.row, Qjm, Qgg, JJ, Int.toNat_natCast, List.length_map, Nat.sub_zero, Nat.zero_add, hz, eq_self, QF, h']
    omega
def QhA (k : Int) : Seen := ⟨mtx (k), k + 1⟩
def Qac (k : Int) (n : Nat) : List Seen := (List.range n).map fun j : Nat => QhA (k + 2 * (j : Int))
theorem UF {k : Int} {n : Nat} : (Qac k n).length = n := by simp [Qac]
theorem QhB {k : Int} {n j : Nat} (h : j < n) : (Qac k n).getD j default = QhA (k + 2 * (j : Int)) := by simp [Qac, h]
theorem Qfe {l : List Seen} {i : Nat} {v : ByteArray} : (l.map Seen.row).set i (Q7 ((l.map Seen.row).getD i []) 0 [.str v]) = (l.set i { l.getD i default with fl := v }).map Seen.row :=
  Kg (α := Seen) (f := Seen.row) (fun s => { s with fl := v }) fun x => by simp [Seen.row, Q7]
theorem Qff {l : List Seen} {i : Nat} {v : Int} : (l.map Seen.row).set i (Q7 ((l.map Seen.row).getD i []) 1 [.int .i64 v]) = (l.set i { l.getD i default with nr := v }).map Seen.row :=
  Kg (α := Seen) (f := Seen.row) (fun s => { s with nr := v }) fun x => by simp [Seen.row, Q7]
set_option maxHeartbeats 1000000 in
theorem QlB (v : Nat) (k : Int) (a : List Seen) (ha : a.length ≤ 1048577) (hk : 0 ≤ k ∧ k ≤ 1125899906842624) : Contract P 55 [.own 3 v 0 a.length, .int .i64 k] [(3, .arr 118 v 2 (a.map Seen.row))] (.int .i64 (k + 2 * a.length)) [(3, .arr 118 v 2 ((Qac k a.length).map Seen.row))] := by
  have hz : ((0 : Nat) : Int) = 0 := rfl
  have gs : True := trivial
  refine Qh ((Env.nil P).add 52 Qx J8) hm Zr (nlb rfl) rfl ?_; unfold Y3; simp (maxSteps := 2000000) only [bitvec_to_nat, reduceIte, Nat.reduceEqDiff, Nat.reduceAdd, Nat.reduceLeDiff, reduceCtorEq, Nat.reduceBEq, Nat.reduceLT, Nat.reduceMod, fmc, Qf, Qm, Qe, QE, keepB, Qn, QJ, Qx, Qfe, Qff, List.set_set, gs, Seen.row, Qgg, JJ, Int.toNat_natCast, List.length_map, List.length_set, Nat.sub_zero, Nat.zero_add, hz]
  refine QH (fun b : Nat × List Seen => [(1, .int .i64 (k + 2 * b.1)), (5, .int .i64 b.1)]) (fun b => [(3, .arr 118 v 2 (b.2.map Seen.row))]) (fun b => b.2.length = a.length ∧ b.1 ≤ a.length ∧ ∀ j, j < b.1 → b.2.getD j default = QhA (k + 2 * (j : Int))) (fun b => a.length - b.1) (0, a) ?_ ⟨rfl, Nat.zero_le _, fun j hj => absurd hj (Nat.not_lt_zero _)⟩ ?_
  · have e0 : k + 2 * ((0 : Nat) : Int) = k := by omega
    simp only [e0]
    simp only [Ju, Jv, Jw, Jx, Qi, Qj, Qk, Ql, reduceIte, Nat.reduceEqDiff]; exact ⟨by repeat' (first | exact trivial | refine ⟨.inr rfl, ?_⟩), by repeat' (first | exact trivial | refine ⟨rfl, ?_⟩), by first | rfl | simp [closedB, Qc, Qb, Qd, dom, Qa, *], by first | rfl | simp [keepB, dom]⟩
  rintro ⟨i, l⟩ ⟨h1, h2, h3⟩ NX hN
  simp only at h1 h2 h3
  have gs : i < a.length → ∀ x : Seen, (l.set i x).getD i default = x := fun h x => Kh (by omega)
  by_cases hi : i < a.length
  · have gs := gs hi
    have e5 : k + 2 * ((i + 1 : Nat) : Int) = k + 2 * (i : Int) + 1 + 1 := by omega
    unfold KF; simp (maxSteps := 2000000) only [bitvec_to_nat, reduceIte, Nat.reduceEqDiff, Nat.reduceAdd, Nat.reduceLeDiff, reduceCtorEq, Nat.reduceBEq, Nat.reduceLT, Nat.reduceMod, fmc, Qf, Qm, Qe, QE, keepB, Qn, QJ, Qx, Qfe, Qff, List.set_set, gs, Seen.row, Qgg, JJ, Int.toNat_natCast, List.length_map, List.length_set, Nat.sub_zero, Nat.zero_add, hz]
    repeat' (first | with_reducible apply And.intro | with_reducible intro _)
    all_goals first
      | omega
      | (refine hN (i + 1, l.set i (QhA (k + 2 * (i : Int)))) _ (by simp only [e5]; simp only [Ju, Jv, Jw, Jx, Qi, Qj, Qk, Ql, reduceIte, Nat.reduceEqDiff]; exact ⟨by repeat' (first | exact trivial | refine ⟨.inr rfl, ?_⟩), by repeat' (first | exact trivial | refine ⟨rfl, ?_⟩), by first | rfl | simp [closedB, Qc, Qb, Qd, dom, Qa, *], by first | rfl | simp [keepB, dom]⟩) ⟨by simp only [List.length_set]; exact h1, hi, fun j hj => ?_⟩ (by simp only; omega)
         simp only at hj ⊢
         by_cases e : j = i
         · subst e; exact Kh (by omega)
         · rw [K2 (Ne.symm e)]; exact h3 j (by omega))
      | (exfalso; omega)
  · have hl : l = Qac k a.length := Vc (by rw [UF]; exact h1) fun j hj => by rw [QhB (by omega)]; exact h3 j (by omega)
    have hi' : ¬ (i : Int) < a.length := by omega
    unfold KF; simp (maxSteps := 2000000) only [bitvec_to_nat, reduceIte, Nat.reduceEqDiff, Nat.reduceAdd, Nat.reduceLeDiff, reduceCtorEq, Nat.reduceBEq, Nat.reduceLT, Nat.reduceMod, fmc, Qf, Qm, Qe, QE, keepB, Qn, QJ, Qx, Qfe, Qff, List.set_set, gs, Seen.row, Qgg, JJ, Int.toNat_natCast, List.length_map, List.length_set, Nat.sub_zero, Nat.zero_add, hz, hi']
    refine ⟨by omega, ?_⟩
    rw [hl]
set_option maxHeartbeats 1000000 in
theorem QhC (t : Nat) (k : Int) (n : Nat) (ha : n ≤ 1048577) (hk : 0 ≤ k ∧ k ≤ 1125899906842624) : Contract P 64 [.sl t 2 ((Qac k n).map Seen.row), .int .i64 k] [] (.int .i64 (k + 2 * n)) [] := by
  have hz : ((0 : Nat) : Int) = 0 := rfl
  refine Qh ((Env.nil P).add 52 Qx J8) hm QbY (nlb rfl) rfl ?_; unfold Zt; simp (maxSteps := 2000000) only [bitvec_to_nat, reduceIte, Nat.reduceEqDiff, Nat.reduceAdd, Nat.reduceLeDiff, reduceCtorEq, Nat.reduceBEq, Nat.reduceLT, Nat.reduceMod, fmc, Qx, Seen.row, Qy, Qgg, JJ, Int.toNat_natCast, List.length_map, Nat.sub_zero, Nat.zero_add, hz, eq_self, UF]
  refine QH (fun i : Nat => [(1, .int .i64 (k + 2 * i)), (5, .int .i64 i)]) (fun _ => []) (fun i => i ≤ n) (fun i => n - i) 0 ?_ (Nat.zero_le _) ?_
  · have e0 : k + 2 * ((0 : Nat) : Int) = k := by omega
    simp only [e0]
    simp only [Ju, Jv, Jw, Jx, Qi, Qj, Qk, Ql, reduceIte, Nat.reduceEqDiff]; exact ⟨by repeat' (first | exact trivial | refine ⟨.inr rfl, ?_⟩), by repeat' (first | exact trivial | refine ⟨rfl, ?_⟩), by first | rfl | simp [closedB, Qc, Qb, Qd, dom, Qa, *], by first | rfl | simp [keepB, dom]⟩
  intro i hi NX hN
  have e5 : k + 2 * ((i + 1 : Nat) : Int) = k + 2 * (i : Int) + 1 + 1 := by omega
  by_cases h : i < n
  · have hg := QhB (k := k) h
    have h' : (i : Int) < n := by omega
    unfold Ym; simp (maxSteps := 2000000) only [bitvec_to_nat, reduceIte, Nat.reduceEqDiff, Nat.reduceAdd, Nat.reduceLeDiff, reduceCtorEq, Nat.reduceBEq, Nat.reduceLT, Nat.reduceMod, fmc, Qx, Seen.row, Qy, Qgg, JJ, Int.toNat_natCast, List.length_map, Nat.sub_zero, Nat.zero_add, hz, eq_self, UF, h', hg, QhA, not_true_eq_false, ne_eq, bne_self_eq_false]
    repeat' (first | with_reducible apply And.intro | with_reducible intro _)
    all_goals first
      | omega
      | rfl
      | (rename_i h; exact absurd rfl h)
      | (refine hN (i + 1) _ (by simp only [e5]; simp only [Ju, Jv, Jw, Jx, Qi, Qj, Qk, Ql, reduceIte, Nat.reduceEqDiff]; exact ⟨by repeat' (first | exact trivial | refine ⟨.inr rfl, ?_⟩), by repeat' (first | exact trivial | refine ⟨rfl, ?_⟩), by first | rfl | simp [closedB, Qc, Qb, Qd, dom, Qa, *], by first | rfl | simp [keepB, dom]⟩) ?_ ?_ <;> omega)
  · have h' : ¬ (i : Int) < n := by omega
    unfold Ym; simp (maxSteps := 2000000) only [bitvec_to_nat, reduceIte, Nat.reduceEqDiff, Nat.reduceAdd, Nat.reduceLeDiff, reduceCtorEq, Nat.reduceBEq, Nat.reduceLT, Nat.reduceMod, fmc, Qx, Seen.row, Qy, Qgg, JJ, Int.toNat_natCast, List.length_map, Nat.sub_zero, Nat.zero_add, hz, eq_self, UF, h']
    omega
def Qjn (k : Int) : Zone := ⟨mtx (k), k + 1, k + 1 + 1, k + 1 + 1 + 1, k + 1 + 1 + 1 + 1⟩
def XI (k : Int) (n : Nat) : List Zone := (List.range n).map fun j : Nat => Qjn (k + 5 * (j : Int))
theorem Qg {k : Int} {n : Nat} : (XI k n).length = n := by simp [XI]
theorem QlC {k : Int} {n j : Nat} (h : j < n) : (XI k n).getD j default = Qjn (k + 5 * (j : Int)) := by simp [XI, h]
theorem Qfg {l : List Zone} {i : Nat} {v : ByteArray} : (l.map Zone.row).set i (Q7 ((l.map Zone.row).getD i []) 0 [.str v]) = (l.set i { l.getD i default with nm := v }).map Zone.row :=
  Kg (α := Zone) (f := Zone.row) (fun s => { s with nm := v }) fun x => by simp [Zone.row, Q7]
theorem Qfh {l : List Zone} {i : Nat} {v : Int} : (l.map Zone.row).set i (Q7 ((l.map Zone.row).getD i []) 1 [.int .i64 v]) = (l.set i { l.getD i default with x0 := v }).map Zone.row :=
  Kg (α := Zone) (f := Zone.row) (fun s => { s with x0 := v }) fun x => by simp [Zone.row, Q7]
theorem Qfi {l : List Zone} {i : Nat} {v : Int} : (l.map Zone.row).set i (Q7 ((l.map Zone.row).getD i []) 2 [.int .i64 v]) = (l.set i { l.getD i default with y0 := v }).map Zone.row :=
  Kg (α := Zone) (f := Zone.row) (fun s => { s with y0 := v }) fun x => by simp [Zone.row, Q7]
theorem Qfj {l : List Zone} {i : Nat} {v : Int} : (l.map Zone.row).set i (Q7 ((l.map Zone.row).getD i []) 3 [.int .i64 v]) = (l.set i { l.getD i default with x1 := v }).map Zone.row :=
  Kg (α := Zone) (f := Zone.row) (fun s => { s with x1 := v }) fun x => by simp [Zone.row, Q7]
theorem Qfk {l : List Zone} {i : Nat} {v : Int} : (l.map Zone.row).set i (Q7 ((l.map Zone.row).getD i []) 4 [.int .i64 v]) = (l.set i { l.getD i default with y1 := v }).map Zone.row :=
  Kg (α := Zone) (f := Zone.row) (fun s => { s with y1 := v }) fun x => by simp [Zone.row, Q7]
set_option maxHeartbeats 1000000 in
theorem QlD (v : Nat) (k : Int) (a : List Zone) (ha : a.length ≤ 1048577) (hk : 0 ≤ k ∧ k ≤ 1125899906842624) : Contract P 16 [.own 3 v 0 a.length, .int .i64 k] [(3, .arr 76 v 5 (a.map Zone.row))] (.int .i64 (k + 5 * a.length)) [(3, .arr 76 v 5 ((XI k a.length).map Zone.row))] := by
  have hz : ((0 : Nat) : Int) = 0 := rfl
  have gs : True := trivial
  refine Qh ((Env.nil P).add 52 Qx J8) hm QbV (nlb rfl) rfl ?_; unfold Zh; simp (maxSteps := 2000000) only [bitvec_to_nat, reduceIte, Nat.reduceEqDiff, Nat.reduceAdd, Nat.reduceLeDiff, reduceCtorEq, Nat.reduceBEq, Nat.reduceLT, Nat.reduceMod, fmc, Qf, Qm, Qe, QE, keepB, Qn, QJ, Qx, Qfg, Qfh, Qfi, Qfj, Qfk, List.set_set, gs, Zone.row, Qgg, JJ, Int.toNat_natCast, List.length_map, List.length_set, Nat.sub_zero, Nat.zero_add, hz]
  refine QH (fun b : Nat × List Zone => [(1, .int .i64 (k + 5 * b.1)), (5, .int .i64 b.1)]) (fun b => [(3, .arr 76 v 5 (b.2.map Zone.row))]) (fun b => b.2.length = a.length ∧ b.1 ≤ a.length ∧ ∀ j, j < b.1 → b.2.getD j default = Qjn (k + 5 * (j : Int))) (fun b => a.length - b.1) (0, a) ?_ ⟨rfl, Nat.zero_le _, fun j hj => absurd hj (Nat.not_lt_zero _)⟩ ?_
  · have e0 : k + 5 * ((0 : Nat) : Int) = k := by omega
    simp only [e0]
    simp only [Ju, Jv, Jw, Jx, Qi, Qj, Qk, Ql, reduceIte, Nat.reduceEqDiff]; exact ⟨by repeat' (first | exact trivial | refine ⟨.inr rfl, ?_⟩), by repeat' (first | exact trivial | refine ⟨rfl, ?_⟩), by first | rfl | simp [closedB, Qc, Qb, Qd, dom, Qa, *], by first | rfl | simp [keepB, dom]⟩
  rintro ⟨i, l⟩ ⟨h1, h2, h3⟩ NX hN
  simp only at h1 h2 h3
  have gs : i < a.length → ∀ x : Zone, (l.set i x).getD i default = x := fun h x => Kh (by omega)
  by_cases hi : i < a.length
  · have gs := gs hi
    have e5 : k + 5 * ((i + 1 : Nat) : Int) = k + 5 * (i : Int) + 1 + 1 + 1 + 1 + 1 := by omega
    unfold Yj; simp (maxSteps := 2000000) only [bitvec_to_nat, reduceIte, Nat.reduceEqDiff, Nat.reduceAdd, Nat.reduceLeDiff, reduceCtorEq, Nat.reduceBEq, Nat.reduceLT, Nat.reduceMod, fmc, Qf, Qm, Qe, QE, keepB, Qn, QJ, Qx, Qfg, Qfh, Qfi, Qfj, Qfk, List.set_set, gs, Zone.row, Qgg, JJ, Int.toNat_natCast, List.length_map, List.length_set, Nat.sub_zero, Nat.zero_add, hz]
    repeat' (first | with_reducible apply And.intro | with_reducible intro _)
    all_goals first
      | omega
      | (refine hN (i + 1, l.set i (Qjn (k + 5 * (i : Int)))) _ (by simp only [e5]; simp only [Ju, Jv, Jw, Jx, Qi, Qj, Qk, Ql, reduceIte, Nat.reduceEqDiff]; exact ⟨by repeat' (first | exact trivial | refine ⟨.inr rfl, ?_⟩), by repeat' (first | exact trivial | refine ⟨rfl, ?_⟩), by first | rfl | simp [closedB, Qc, Qb, Qd, dom, Qa, *], by first | rfl | simp [keepB, dom]⟩) ⟨by simp only [List.length_set]; exact h1, hi, fun j hj => ?_⟩ (by simp only; omega)
         simp only at hj ⊢
         by_cases e : j = i
         · subst e; exact Kh (by omega)
         · rw [K2 (Ne.symm e)]; exact h3 j (by omega))
      | (exfalso; omega)
  · have hl : l = XI k a.length := Vc (by rw [Qg]; exact h1) fun j hj => by rw [QlC (by omega)]; exact h3 j (by omega)
    have hi' : ¬ (i : Int) < a.length := by omega
    unfold Yj; simp (maxSteps := 2000000) only [bitvec_to_nat, reduceIte, Nat.reduceEqDiff, Nat.reduceAdd, Nat.reduceLeDiff, reduceCtorEq, Nat.reduceBEq, Nat.reduceLT, Nat.reduceMod, fmc, Qf, Qm, Qe, QE, keepB, Qn, QJ, Qx, Qfg, Qfh, Qfi, Qfj, Qfk, List.set_set, gs, Zone.row, Qgg, JJ, Int.toNat_natCast, List.length_map, List.length_set, Nat.sub_zero, Nat.zero_add, hz, hi']
    refine ⟨by omega, ?_⟩
    rw [hl]
end
end Go.Ve

