/- Part 4 of the proof: laws and contracts of functions, each proved; they are joined in the last part. No conditions beyond those that the theorems state. -/
import Derived.Test.YtppifjfappcbgaaGreatProg
import Derived.Test.YtppifjfappcbgaaGreatHo3
set_option linter.all false
namespace Go.Ve
noncomputable section
open Go.Proofs
set_option maxRecDepth 100000
def Box6.near (a b : Box6) : Prop := a.ok ∧ b.ok ∧ (a.i ≤ b.o ∧ b.i ≤ a.o) ∧ (a.l ≤ b.h ∧ b.l ≤ a.h) ∧ (-1 ≤ a.x - b.x ∧ a.x - b.x ≤ 1) ∧ (-1 ≤ a.y - b.y ∧ a.y - b.y ≤ 1)
instance (a b : Box6) : Decidable (a.near b) := Classical.propDecidable _
def nearT (a b : List Box6) : Prop := ∃ i, i < a.length ∧ ∃ k, k < b.length ∧ (a.getD i default).near (b.getD k default)
instance (a b : List Box6) : Decidable (nearT a b) := Classical.propDecidable _
theorem c_l31Close (x y l h i o x' y' l' h' i' o' : Int) (hp : True) : Contract P 136 [.agg [.int .i64 x, .int .i64 y, .int .i64 l, .int .i64 h, .int .i64 i, .int .i64 o], .agg [.int .i64 x', .int .i64 y', .int .i64 l', .int .i64 h', .int .i64 i', .int .i64 o']] [] (.bool (decide (Box6.near ⟨x, y, l, h, i, o⟩ ⟨x', y', l', h', i', o'⟩))) [] := by
  refine fn_sound (((Env.nil P).add 80 t_l31In h_l31In).add 99 t_l31BoxOk h_l31BoxOk) hm k_spec_l31Close (nlb rfl) rfl ?_; unfold s_spec_l31Close; simp (maxSteps := 2000000) only [bitvec_to_nat, reduceIte, Nat.reduceEqDiff, Nat.reduceAdd, Nat.reduceLeDiff, reduceCtorEq, Nat.reduceBEq, Nat.reduceLT, Nat.reduceMod, fmc, t_l31In, t_l31BoxOk, int_toBitVec_meta]
  simp only [Box6.near, Box6.ok]
  repeat' (first | with_reducible apply And.intro | with_reducible intro _)
  all_goals first | omega | grind
def t_l31Close : List AV → Option (Prop × AV)
  | [.agg [.int .i64 p_x, .int .i64 p_y, .int .i64 p_l, .int .i64 p_h, .int .i64 p_i, .int .i64 p_o], .agg [.int .i64 q_x, .int .i64 q_y, .int .i64 q_l, .int .i64 q_h, .int .i64 q_i, .int .i64 q_o]] => some ((True) ∧ (True), .bool (decide ((Box6.mk p_x p_y p_l p_h p_i p_o).near (Box6.mk q_x q_y q_l q_h q_i q_o))))
  | _ => none
theorem h_l31Close : ∀ args p v, t_l31Close args = some (p, v) → p → Contract P 136 args [] v [] ∧ noref v = true ∧ No99 v := by
  intro args p v h1 h2
  unfold t_l31Close at h1
  split at h1
  · rename_i p_x p_y p_l p_h p_i p_o q_x q_y q_l q_h q_i q_o
    cases h1
    obtain ⟨_, HP⟩ := h2
    have := c_l31Close p_x p_y p_l p_h p_i p_o q_x q_y q_l q_h q_i q_o HP
    exact ⟨by simpa only [Box6.row, Box6.row] using this, rfl, trivial⟩
  · cases h1
theorem c_sNear (t t' : Nat) (a b : List Box6) (ha : a.length ≤ 4611686018427387904) (hb : b.length ≤ 4611686018427387904) : Contract P 109 [.sl t 6 (a.map Box6.row), .sl t' 6 (b.map Box6.row)] [] (.bool (decide (nearT a b))) [] := by
  refine fn_sound ((Env.nil P).add 136 t_l31Close h_l31Close) hm k_spec_HandNear (nlb rfl) rfl ?_; unfold s_spec_HandNear; simp (maxSteps := 2000000) only [bitvec_to_nat, reduceIte, Nat.reduceEqDiff, Nat.reduceAdd, Nat.reduceLeDiff, reduceCtorEq, Nat.reduceBEq, Nat.reduceLT, Nat.reduceMod, fmc, t_l31Close, int_toBitVec_meta]
  refine loop_st (fun i : Nat => [(5, .int .i64 i)]) (fun _ => []) (fun i => i ≤ a.length ∧ ∀ j, j < i → ¬ ∃ k, k < b.length ∧ (a.getD j default).near (b.getD k default)) (fun i => a.length - i) (0) (by simp only [u_E0, u_E1, u_M0, u_M1, w_setE0, w_setE1, w_setM0, w_setM1, reduceIte, Nat.reduceEqDiff]; exact ⟨by repeat' (first | exact trivial | refine ⟨.inr rfl, ?_⟩), by repeat' (first | exact trivial | refine ⟨rfl, ?_⟩), by first | rfl | simp [closedB, refsIn, refsInL, refsInO, dom, refsInL_nr, *], by first | rfl | simp [keepB, dom]⟩) ?_ ?_
  · exact ⟨Nat.zero_le _, by intro j hj; omega⟩
  intro i hi NX hN
  unfold l_spec_HandNear_1; simp (maxSteps := 2000000) only [bitvec_to_nat, reduceIte, Nat.reduceEqDiff, Nat.reduceAdd, Nat.reduceLeDiff, reduceCtorEq, Nat.reduceBEq, Nat.reduceLT, Nat.reduceMod, fmc, t_l31Close, int_toBitVec_meta]
  
  repeat' (first | with_reducible apply And.intro | with_reducible intro _)
  all_goals first
    | omega
    | (refine loop_st (fun k : Nat => [(6, .int .i64 k)]) (fun _ => []) (fun k => k ≤ b.length ∧ ∀ j, j < k → ¬ (a.getD i default).near (b.getD j default)) (fun k => b.length - k) (0) (by simp only [u_E0, u_E1, u_M0, u_M1, w_setE0, w_setE1, w_setM0, w_setM1, reduceIte, Nat.reduceEqDiff]; exact ⟨by repeat' (first | exact trivial | refine ⟨.inr rfl, ?_⟩), by repeat' (first | exact trivial | refine ⟨rfl, ?_⟩), by first | rfl | simp [closedB, refsIn, refsInL, refsInO, dom, refsInL_nr, *], by first | rfl | simp [keepB, dom]⟩) ?_ ?_
       · exact ⟨Nat.zero_le _, by intro j hj; omega⟩
       intro k hk NX2 hN2
       unfold l_spec_HandNear_0; simp (maxSteps := 2000000) only [bitvec_to_nat, reduceIte, Nat.reduceEqDiff, Nat.reduceAdd, Nat.reduceLeDiff, reduceCtorEq, Nat.reduceBEq, Nat.reduceLT, Nat.reduceMod, fmc, t_l31Close, int_toBitVec_meta]
       repeat' (first | with_reducible apply And.intro | with_reducible intro _)
       all_goals first
         | omega
         | (refine hN2 (k + 1) _ (by simp only [u_E0, u_E1, u_M0, u_M1, w_setE0, w_setE1, w_setM0, w_setM1, reduceIte, Nat.reduceEqDiff]; exact ⟨by repeat' (first | exact trivial | refine ⟨.inr rfl, ?_⟩), by repeat' (first | exact trivial | refine ⟨rfl, ?_⟩), by first | rfl | simp [closedB, refsIn, refsInL, refsInO, dom, refsInL_nr, *], by first | rfl | simp [keepB, dom]⟩) ?_ ?_
            · exact ⟨by omega, all_snoc hk.2 (by assumption)⟩
            · omega)
         | (refine hN (i + 1) _ (by simp only [u_E0, u_E1, u_M0, u_M1, w_setE0, w_setE1, w_setM0, w_setM1, reduceIte, Nat.reduceEqDiff]; exact ⟨by repeat' (first | exact trivial | refine ⟨.inr rfl, ?_⟩), by repeat' (first | exact trivial | refine ⟨rfl, ?_⟩), by first | rfl | simp [closedB, refsIn, refsInL, refsInO, dom, refsInL_nr, *], by first | rfl | simp [keepB, dom]⟩) ?_ ?_
            · refine ⟨by omega, all_snoc hi.2 ?_⟩
              rintro ⟨k', h1, h2⟩
              exact hk.2 k' (by omega) h2
            · omega)
         | (exact ⟨i, by omega, k, by omega, by assumption⟩))
    | (rintro ⟨j, h1, h2⟩
       exact hi.2 j (by omega) h2)
set_option maxHeartbeats 1000000 in
theorem c_near (t t' : Nat) (a b : List Box6) (ha : a.length ≤ 4611686018427387904) (hb : b.length ≤ 4611686018427387904) : Contract P 130 [.sl t 6 (a.map Box6.row), .sl t' 6 (b.map Box6.row)] [] (.bool (decide (nearT a b))) [] := by
  refine fn_sound (((Env.nil P).add 121 t_handBox h_handBox).add 138 t_dist h_dist) hm k_impl_HandNear (nlb rfl) rfl ?_; unfold s_impl_HandNear; simp (maxSteps := 2000000) only [bitvec_to_nat, reduceIte, Nat.reduceEqDiff, Nat.reduceAdd, Nat.reduceLeDiff, reduceCtorEq, Nat.reduceBEq, Nat.reduceLT, Nat.reduceMod, fmc, t_handBox, t_dist, int_toBitVec_meta]
  refine loop_st (fun i : Nat => [(11, .int .i64 i)]) (fun _ => []) (fun i => i ≤ a.length ∧ ∀ j, j < i → ¬ ∃ k, k < b.length ∧ (a.getD j default).near (b.getD k default)) (fun i => a.length - i) (0) (by simp only [u_E0, u_E1, u_M0, u_M1, w_setE0, w_setE1, w_setM0, w_setM1, reduceIte, Nat.reduceEqDiff]; exact ⟨by repeat' (first | exact trivial | refine ⟨.inr rfl, ?_⟩), by repeat' (first | exact trivial | refine ⟨rfl, ?_⟩), by first | rfl | simp [closedB, refsIn, refsInL, refsInO, dom, refsInL_nr, *], by first | rfl | simp [keepB, dom]⟩) ?_ ?_
  · exact ⟨Nat.zero_le _, by intro j hj; omega⟩
  intro i hi NX hN
  unfold l_impl_HandNear_1; simp (maxSteps := 2000000) only [bitvec_to_nat, reduceIte, Nat.reduceEqDiff, Nat.reduceAdd, Nat.reduceLeDiff, reduceCtorEq, Nat.reduceBEq, Nat.reduceLT, Nat.reduceMod, fmc, t_handBox, t_dist, int_toBitVec_meta]
  
  repeat' (first | with_reducible apply And.intro | with_reducible intro _)
  all_goals first
    | omega
    | (have hx : (a.getD i default).ok := by assumption
       refine loop_st (fun k : Nat => [(20, .int .i64 k)]) (fun _ => []) (fun k => k ≤ b.length ∧ ∀ j, j < k → ¬ (a.getD i default).near (b.getD j default)) (fun k => b.length - k) (0) (by simp only [u_E0, u_E1, u_M0, u_M1, w_setE0, w_setE1, w_setM0, w_setM1, reduceIte, Nat.reduceEqDiff]; exact ⟨by repeat' (first | exact trivial | refine ⟨.inr rfl, ?_⟩), by repeat' (first | exact trivial | refine ⟨rfl, ?_⟩), by first | rfl | simp [closedB, refsIn, refsInL, refsInO, dom, refsInL_nr, *], by first | rfl | simp [keepB, dom]⟩) ?_ ?_
       · exact ⟨Nat.zero_le _, by intro j hj; omega⟩
       intro k hk NX2 hN2
       unfold l_impl_HandNear_0; simp (maxSteps := 2000000) only [bitvec_to_nat, reduceIte, Nat.reduceEqDiff, Nat.reduceAdd, Nat.reduceLeDiff, reduceCtorEq, Nat.reduceBEq, Nat.reduceLT, Nat.reduceMod, fmc, t_handBox, t_dist, int_toBitVec_meta]
       repeat' (first | with_reducible apply And.intro | with_reducible intro _)
       all_goals first
         | omega
         | (have hy : (b.getD k default).ok := by assumption
            unfold Box6.ok at hx hy; omega)
         | (refine hN2 (k + 1) _ (by simp only [u_E0, u_E1, u_M0, u_M1, w_setE0, w_setE1, w_setM0, w_setM1, reduceIte, Nat.reduceEqDiff]; exact ⟨by repeat' (first | exact trivial | refine ⟨.inr rfl, ?_⟩), by repeat' (first | exact trivial | refine ⟨rfl, ?_⟩), by first | rfl | simp [closedB, refsIn, refsInL, refsInO, dom, refsInL_nr, *], by first | rfl | simp [keepB, dom]⟩) ?_ ?_
            · exact ⟨by omega, all_snoc hk.2 (by unfold Box6.near; grind)⟩
            · omega)
         | (refine hN (i + 1) _ (by simp only [u_E0, u_E1, u_M0, u_M1, w_setE0, w_setE1, w_setM0, w_setM1, reduceIte, Nat.reduceEqDiff]; exact ⟨by repeat' (first | exact trivial | refine ⟨.inr rfl, ?_⟩), by repeat' (first | exact trivial | refine ⟨rfl, ?_⟩), by first | rfl | simp [closedB, refsIn, refsInL, refsInO, dom, refsInL_nr, *], by first | rfl | simp [keepB, dom]⟩) ?_ ?_
            · refine ⟨by omega, all_snoc hi.2 ?_⟩
              rintro ⟨k', h1, h2⟩
              exact hk.2 k' (by omega) h2
            · omega)
         | (exact ⟨i, by omega, k, by omega, by unfold Box6.near; grind⟩))
    | (refine hN (i + 1) _ (by simp only [u_E0, u_E1, u_M0, u_M1, w_setE0, w_setE1, w_setM0, w_setM1, reduceIte, Nat.reduceEqDiff]; exact ⟨by repeat' (first | exact trivial | refine ⟨.inr rfl, ?_⟩), by repeat' (first | exact trivial | refine ⟨rfl, ?_⟩), by first | rfl | simp [closedB, refsIn, refsInL, refsInO, dom, refsInL_nr, *], by first | rfl | simp [keepB, dom]⟩) ?_ ?_
       · refine ⟨by omega, all_snoc hi.2 ?_⟩
         rintro ⟨k', h1, h2⟩
         exact absurd h2.1 (by assumption)
       · omega)
    | (rintro ⟨j, h1, h2⟩
       exact hi.2 j (by omega) h2)
def t_sNear : List AV → Option (Prop × AV)
  | [.sl pt 6 px, .sl qt 6 qx] => some ((((px.map unBox).map Box6.row = px) ∧ ((qx.map unBox).map Box6.row = qx)) ∧ ((px.map unBox).length ≤ 4611686018427387904 ∧ (qx.map unBox).length ≤ 4611686018427387904), .bool (decide (nearT (px.map unBox) (qx.map unBox))))
  | _ => none
theorem h_sNear : ∀ args p v, t_sNear args = some (p, v) → p → Contract P 109 args [] v [] ∧ noref v = true ∧ No99 v := by
  intro args p v h1 h2
  unfold t_sNear at h1
  split at h1
  · rename_i pt px qt qx
    cases h1
    obtain ⟨⟨e0, e1⟩, HP⟩ := h2
    have := c_sNear pt qt (px.map unBox) (qx.map unBox) HP.1 HP.2
    exact ⟨by simpa only [e0, e1] using this, rfl, trivial⟩
  · cases h1
def t_near : List AV → Option (Prop × AV)
  | [.sl pt 6 px, .sl qt 6 qx] => some ((((px.map unBox).map Box6.row = px) ∧ ((qx.map unBox).map Box6.row = qx)) ∧ ((px.map unBox).length ≤ 4611686018427387904 ∧ (qx.map unBox).length ≤ 4611686018427387904), .bool (decide (nearT (px.map unBox) (qx.map unBox))))
  | _ => none
theorem h_near : ∀ args p v, t_near args = some (p, v) → p → Contract P 130 args [] v [] ∧ noref v = true ∧ No99 v := by
  intro args p v h1 h2
  unfold t_near at h1
  split at h1
  · rename_i pt px qt qx
    cases h1
    obtain ⟨⟨e0, e1⟩, HP⟩ := h2
    have := c_near pt qt (px.map unBox) (qx.map unBox) HP.1 HP.2
    exact ⟨by simpa only [e0, e1] using this, rfl, trivial⟩
  · cases h1
theorem c_IndexS (t : Nat) (l : List ByteArray) (v : ByteArray) (hl : l.length ≤ 4611686018427387904) : Contract P 137 [.sl t 1 (l.map srow), .str v] [] (.int .i64 (fIdx (fun s => decide (v = s)) l)) [] := by
  refine fn_sound (Env.nil P) hm k_slices_Index_string (nlb rfl) rfl ?_; unfold s_slices_Index_string; simp (maxSteps := 2000000) only [bitvec_to_nat, reduceIte, Nat.reduceEqDiff, Nat.reduceAdd, Nat.reduceLeDiff, reduceCtorEq, Nat.reduceBEq, Nat.reduceLT, Nat.reduceMod, fmc, int_toBitVec_meta]
  refine loop_st (fun i : Nat => [(8, .int .i64 i)]) (fun _ => []) (fun i => i ≤ l.length ∧ ∀ j, j < i → decide (v = l.getD j default) = false) (fun i => l.length - i) (0) (by simp only [u_E0, u_E1, u_M0, u_M1, w_setE0, w_setE1, w_setM0, w_setM1, reduceIte, Nat.reduceEqDiff]; exact ⟨by repeat' (first | exact trivial | refine ⟨.inr rfl, ?_⟩), by repeat' (first | exact trivial | refine ⟨rfl, ?_⟩), by first | rfl | simp [closedB, refsIn, refsInL, refsInO, dom, refsInL_nr, *], by first | rfl | simp [keepB, dom]⟩) ?_ ?_
  · exact ⟨Nat.zero_le _, by intro j hj; omega⟩
  intro i hi NX hN
  unfold l_slices_Index_string_0; simp (maxSteps := 2000000) only [bitvec_to_nat, reduceIte, Nat.reduceEqDiff, Nat.reduceAdd, Nat.reduceLeDiff, reduceCtorEq, Nat.reduceBEq, Nat.reduceLT, Nat.reduceMod, fmc, int_toBitVec_meta]
  
  repeat' (first | with_reducible apply And.intro | with_reducible intro _)
  all_goals first
    | omega
    | (refine hN (i + 1) _ (by simp only [u_E0, u_E1, u_M0, u_M1, w_setE0, w_setE1, w_setM0, w_setM1, reduceIte, Nat.reduceEqDiff]; exact ⟨by repeat' (first | exact trivial | refine ⟨.inr rfl, ?_⟩), by repeat' (first | exact trivial | refine ⟨rfl, ?_⟩), by first | rfl | simp [closedB, refsIn, refsInL, refsInO, dom, refsInL_nr, *], by first | rfl | simp [keepB, dom]⟩) ?_ ?_
       · exact ⟨by omega, all_snoc hi.2 (by simpa using ‹¬ _›)⟩
       · omega)
    | (rw [fIdx_at (i := i) (by omega) (by simpa using ‹_›) hi.2])
    | (rw [fIdx_none fun j hj => hi.2 j (by omega)])
def t_IndexS : List AV → Option (Prop × AV)
  | [.sl lt 1 lx, .str v] => some ((((lx.map unS).map srow = lx)) ∧ ((lx.map unS).length ≤ 4611686018427387904), .int .i64 (fIdx (fun s => decide (v = s)) (lx.map unS)))
  | _ => none
theorem h_IndexS : ∀ args p v, t_IndexS args = some (p, v) → p → Contract P 137 args [] v [] ∧ noref v = true ∧ No99 v := by
  intro args p v h1 h2
  unfold t_IndexS at h1
  split at h1
  · rename_i lt lx v
    cases h1
    obtain ⟨e0, HP⟩ := h2
    have := c_IndexS lt (lx.map unS) v HP
    exact ⟨by simpa only [e0] using this, rfl, trivial⟩
  · cases h1
instance (v : ByteArray) (l : List ByteArray) : Decidable (v ∈ l) := Classical.propDecidable _
theorem fIdx_mem {l : List ByteArray} {v : ByteArray} : 0 ≤ fIdx (fun s => decide (v = s)) l ↔ v ∈ l := by
  rw [fIdx_ge]
  constructor
  · rintro ⟨i, hi, h⟩
    simp only [decide_eq_true_eq] at h
    rw [h, List.getD_eq_getElem?_getD, List.getElem?_eq_getElem hi]; simp
  · intro h
    obtain ⟨i, hi, rfl⟩ := List.mem_iff_getElem.1 h
    exact ⟨i, hi, by simp [hi]⟩
theorem c_ContainsS (t : Nat) (l : List ByteArray) (v : ByteArray) (hl : l.length ≤ 4611686018427387904) : Contract P 116 [.sl t 1 (l.map srow), .str v] [] (.bool (decide (v ∈ l))) [] := by
  refine fn_sound ((Env.nil P).add 137 t_IndexS h_IndexS) hm k_slices_Contains_string (nlb rfl) rfl ?_; unfold s_slices_Contains_string; simp (maxSteps := 2000000) only [bitvec_to_nat, reduceIte, Nat.reduceEqDiff, Nat.reduceAdd, Nat.reduceLeDiff, reduceCtorEq, Nat.reduceBEq, Nat.reduceLT, Nat.reduceMod, fmc, t_IndexS, int_toBitVec_meta]
  simp [fIdx_mem, hl]
def t_ContainsS : List AV → Option (Prop × AV)
  | [.sl lt 1 lx, .str v] => some ((((lx.map unS).map srow = lx)) ∧ ((lx.map unS).length ≤ 4611686018427387904), .bool (decide (v ∈ (lx.map unS))))
  | _ => none
theorem h_ContainsS : ∀ args p v, t_ContainsS args = some (p, v) → p → Contract P 116 args [] v [] ∧ noref v = true ∧ No99 v := by
  intro args p v h1 h2
  unfold t_ContainsS at h1
  split at h1
  · rename_i lt lx v
    cases h1
    obtain ⟨e0, HP⟩ := h2
    have := c_ContainsS lt (lx.map unS) v HP
    exact ⟨by simpa only [e0] using this, rfl, trivial⟩
  · cases h1
def allIn (gr who : List ByteArray) : Prop := ∀ i, i < who.length → who.getD i default ∈ gr
instance (gr who : List ByteArray) : Decidable (allIn gr who) := Classical.propDecidable _
theorem c_all (t t' : Nat) (gr who : List ByteArray) (hl : gr.length ≤ 4611686018427387904) (hw : who.length ≤ 4611686018427387904) : Contract P 128 [.sl t 1 (gr.map srow), .sl t' 1 (who.map srow)] [] (.bool (decide (allIn gr who))) [] := by
  refine fn_sound ((Env.nil P).add 116 t_ContainsS h_ContainsS) hm k_impl_all (nlb rfl) rfl ?_; unfold s_impl_all; simp (maxSteps := 2000000) only [bitvec_to_nat, reduceIte, Nat.reduceEqDiff, Nat.reduceAdd, Nat.reduceLeDiff, reduceCtorEq, Nat.reduceBEq, Nat.reduceLT, Nat.reduceMod, fmc, t_ContainsS, int_toBitVec_meta]
  refine loop_st (fun i : Nat => [(9, .int .i64 i)]) (fun _ => []) (fun i => i ≤ who.length ∧ ∀ j, j < i → who.getD j default ∈ gr) (fun i => who.length - i) (0) (by simp only [u_E0, u_E1, u_M0, u_M1, w_setE0, w_setE1, w_setM0, w_setM1, reduceIte, Nat.reduceEqDiff]; exact ⟨by repeat' (first | exact trivial | refine ⟨.inr rfl, ?_⟩), by repeat' (first | exact trivial | refine ⟨rfl, ?_⟩), by first | rfl | simp [closedB, refsIn, refsInL, refsInO, dom, refsInL_nr, *], by first | rfl | simp [keepB, dom]⟩) ?_ ?_
  · exact ⟨Nat.zero_le _, by intro j hj; omega⟩
  intro i hi NX hN
  unfold l_impl_all_0; simp (maxSteps := 2000000) only [bitvec_to_nat, reduceIte, Nat.reduceEqDiff, Nat.reduceAdd, Nat.reduceLeDiff, reduceCtorEq, Nat.reduceBEq, Nat.reduceLT, Nat.reduceMod, fmc, t_ContainsS, int_toBitVec_meta]
  repeat' (first | with_reducible apply And.intro | with_reducible intro _)
  all_goals first
    | exact trivial
    | omega
    | (refine hN (i + 1) _ (by simp only [u_E0, u_E1, u_M0, u_M1, w_setE0, w_setE1, w_setM0, w_setM1, reduceIte, Nat.reduceEqDiff]; exact ⟨by repeat' (first | exact trivial | refine ⟨.inr rfl, ?_⟩), by repeat' (first | exact trivial | refine ⟨rfl, ?_⟩), by first | rfl | simp [closedB, refsIn, refsInL, refsInO, dom, refsInL_nr, *], by first | rfl | simp [keepB, dom]⟩) ?_ ?_
       · exact ⟨by omega, all_snoc hi.2 (by grind [allIn])⟩
       · omega)
    | grind [allIn]
def t_all : List AV → Option (Prop × AV)
  | [.sl grt 1 grx, .sl wht 1 whx] => some ((((grx.map unS).map srow = grx) ∧ ((whx.map unS).map srow = whx)) ∧ ((grx.map unS).length ≤ 4611686018427387904 ∧ (whx.map unS).length ≤ 4611686018427387904), .bool (decide (allIn (grx.map unS) (whx.map unS))))
  | _ => none
theorem h_all : ∀ args p v, t_all args = some (p, v) → p → Contract P 128 args [] v [] ∧ noref v = true ∧ No99 v := by
  intro args p v h1 h2
  unfold t_all at h1
  split at h1
  · rename_i grt grx wht whx
    cases h1
    obtain ⟨⟨e0, e1⟩, HP⟩ := h2
    have := c_all grt wht (grx.map unS) (whx.map unS) HP.1 HP.2
    exact ⟨by simpa only [e0, e1] using this, rfl, trivial⟩
  · cases h1
def seenOf (l : List Seen) (f : ByteArray) : Int := if 0 ≤ fIdx (fun s => decide (s.fl = f)) l then (l.getD (fIdx (fun s => decide (s.fl = f)) l).toNat default).nr else 0
theorem seenOf_at {l : List Seen} {f : ByteArray} {i : Nat} (hi : i < l.length) (h : (l.getD i default).fl = f) (k : ∀ j, j < i → (l.getD j default).fl ≠ f) : seenOf l f = (l.getD i default).nr := by
  unfold seenOf; rw [fIdx_at hi (by simpa using h) (fun j hj => by simpa using k j hj), if_pos (by omega)]; simp
theorem seenOf_none {l : List Seen} {f : ByteArray} (k : ∀ j, j < l.length → (l.getD j default).fl ≠ f) : seenOf l f = 0 := by
  unfold seenOf; rw [fIdx_none (fun j hj => by simpa using k j hj), if_neg (by omega)]
theorem c_seen (b : Book) (v : ByteArray) (hl : b.seen.length ≤ 4611686018427387904) : Contract P 129 [.agg (b.row 0), .str v] [] (.int .i64 (seenOf b.seen v)) [] := by
  simp only [Book.row]
  refine fn_sound (Env.nil P) hm k_impl_HandBook_seen (nlb rfl) rfl ?_; unfold s_impl_HandBook_seen; simp (maxSteps := 2000000) only [bitvec_to_nat, reduceIte, Nat.reduceEqDiff, Nat.reduceAdd, Nat.reduceLeDiff, reduceCtorEq, Nat.reduceBEq, Nat.reduceLT, Nat.reduceMod, fmc, int_toBitVec_meta, Seen.row, Seen_eta]
  refine loop_st (fun i : Nat => [(10, .int .i64 i)]) (fun _ => []) (fun i => i ≤ b.seen.length ∧ ∀ j, j < i → (b.seen.getD j default).fl ≠ v) (fun i => b.seen.length - i) (0) (by simp only [u_E0, u_E1, u_M0, u_M1, w_setE0, w_setE1, w_setM0, w_setM1, reduceIte, Nat.reduceEqDiff]; exact ⟨by repeat' (first | exact trivial | refine ⟨.inr rfl, ?_⟩), by repeat' (first | exact trivial | refine ⟨rfl, ?_⟩), by first | rfl | simp [closedB, refsIn, refsInL, refsInO, dom, refsInL_nr, *], by first | rfl | simp [keepB, dom]⟩) ?_ ?_
  · exact ⟨Nat.zero_le _, by intro j hj; omega⟩
  intro i hi NX hN
  unfold l_impl_HandBook_seen_0; simp (maxSteps := 2000000) only [bitvec_to_nat, reduceIte, Nat.reduceEqDiff, Nat.reduceAdd, Nat.reduceLeDiff, reduceCtorEq, Nat.reduceBEq, Nat.reduceLT, Nat.reduceMod, fmc, int_toBitVec_meta, Seen.row, Seen_eta]
  
  repeat' (first | with_reducible apply And.intro | with_reducible intro _)
  all_goals first
    | omega
    | (refine hN (i + 1) _ (by simp only [u_E0, u_E1, u_M0, u_M1, w_setE0, w_setE1, w_setM0, w_setM1, reduceIte, Nat.reduceEqDiff]; exact ⟨by repeat' (first | exact trivial | refine ⟨.inr rfl, ?_⟩), by repeat' (first | exact trivial | refine ⟨rfl, ?_⟩), by first | rfl | simp [closedB, refsIn, refsInL, refsInO, dom, refsInL_nr, *], by first | rfl | simp [keepB, dom]⟩) ?_ ?_
       · exact ⟨by omega, all_snoc hi.2 (by assumption)⟩
       · omega)
    | (rw [seenOf_at (i := i) (by omega) (by assumption) hi.2])
    | (rw [seenOf_none fun j hj => hi.2 j (by omega)])
def t_seen : List AV → Option (Prop × AV)
  | [.agg [.sl 0 11 b_own, .sl 0 3 b_parts, .sl 0 2 b_seen], .str v] => some ((((b_own.map unOwn).map (Own.row 0) = b_own) ∧ ((b_parts.map unPart).map (Part.row 0) = b_parts) ∧ ((b_seen.map unSeen).map Seen.row = b_seen)) ∧ ((Book.mk (b_own.map unOwn) (b_parts.map unPart) (b_seen.map unSeen)).seen.length ≤ 4611686018427387904), .int .i64 (seenOf (Book.mk (b_own.map unOwn) (b_parts.map unPart) (b_seen.map unSeen)).seen v))
  | _ => none
theorem h_seen : ∀ args p v, t_seen args = some (p, v) → p → Contract P 129 args [] v [] ∧ noref v = true ∧ No99 v := by
  intro args p v h1 h2
  unfold t_seen at h1
  split at h1
  · rename_i b_own b_parts b_seen v
    cases h1
    obtain ⟨⟨e0, e1, e2⟩, HP⟩ := h2
    have := c_seen (Book.mk (b_own.map unOwn) (b_parts.map unPart) (b_seen.map unSeen)) v HP
    exact ⟨by simpa only [e0, e1, e2, Book.row] using this, rfl, trivial⟩
  · cases h1
theorem c_sSeen (b : Book) (v : ByteArray) (hl : b.seen.length ≤ 4611686018427387904) : Contract P 107 [.agg (b.row 0), .str v] [] (.int .i64 (seenOf b.seen v)) [] := by
  simp only [Book.row]
  refine fn_sound (Env.nil P) hm k_spec_l33Seen (nlb rfl) rfl ?_; unfold s_spec_l33Seen; simp (maxSteps := 2000000) only [bitvec_to_nat, reduceIte, Nat.reduceEqDiff, Nat.reduceAdd, Nat.reduceLeDiff, reduceCtorEq, Nat.reduceBEq, Nat.reduceLT, Nat.reduceMod, fmc, int_toBitVec_meta, Seen.row, Seen_eta]
  refine loop_st (fun i : Nat => [(5, .int .i64 i)]) (fun _ => []) (fun i => i ≤ b.seen.length ∧ ∀ j, j < i → (b.seen.getD j default).fl ≠ v) (fun i => b.seen.length - i) (0) (by simp only [u_E0, u_E1, u_M0, u_M1, w_setE0, w_setE1, w_setM0, w_setM1, reduceIte, Nat.reduceEqDiff]; exact ⟨by repeat' (first | exact trivial | refine ⟨.inr rfl, ?_⟩), by repeat' (first | exact trivial | refine ⟨rfl, ?_⟩), by first | rfl | simp [closedB, refsIn, refsInL, refsInO, dom, refsInL_nr, *], by first | rfl | simp [keepB, dom]⟩) ?_ ?_
  · exact ⟨Nat.zero_le _, by intro j hj; omega⟩
  intro i hi NX hN
  unfold l_spec_l33Seen_0; simp (maxSteps := 2000000) only [bitvec_to_nat, reduceIte, Nat.reduceEqDiff, Nat.reduceAdd, Nat.reduceLeDiff, reduceCtorEq, Nat.reduceBEq, Nat.reduceLT, Nat.reduceMod, fmc, int_toBitVec_meta, Seen.row, Seen_eta]
  
  repeat' (first | with_reducible apply And.intro | with_reducible intro _)
  all_goals first
    | omega
    | (refine hN (i + 1) _ (by simp only [u_E0, u_E1, u_M0, u_M1, w_setE0, w_setE1, w_setM0, w_setM1, reduceIte, Nat.reduceEqDiff]; exact ⟨by repeat' (first | exact trivial | refine ⟨.inr rfl, ?_⟩), by repeat' (first | exact trivial | refine ⟨rfl, ?_⟩), by first | rfl | simp [closedB, refsIn, refsInL, refsInO, dom, refsInL_nr, *], by first | rfl | simp [keepB, dom]⟩) ?_ ?_
       · exact ⟨by omega, all_snoc hi.2 (by assumption)⟩
       · omega)
    | (rw [seenOf_at (i := i) (by omega) (by assumption) hi.2])
    | (rw [seenOf_none fun j hj => hi.2 j (by omega)])
def t_sSeen : List AV → Option (Prop × AV)
  | [.agg [.sl 0 11 b_own, .sl 0 3 b_parts, .sl 0 2 b_seen], .str v] => some ((((b_own.map unOwn).map (Own.row 0) = b_own) ∧ ((b_parts.map unPart).map (Part.row 0) = b_parts) ∧ ((b_seen.map unSeen).map Seen.row = b_seen)) ∧ ((Book.mk (b_own.map unOwn) (b_parts.map unPart) (b_seen.map unSeen)).seen.length ≤ 4611686018427387904), .int .i64 (seenOf (Book.mk (b_own.map unOwn) (b_parts.map unPart) (b_seen.map unSeen)).seen v))
  | _ => none
theorem h_sSeen : ∀ args p v, t_sSeen args = some (p, v) → p → Contract P 107 args [] v [] ∧ noref v = true ∧ No99 v := by
  intro args p v h1 h2
  unfold t_sSeen at h1
  split at h1
  · rename_i b_own b_parts b_seen v
    cases h1
    obtain ⟨⟨e0, e1, e2⟩, HP⟩ := h2
    have := c_sSeen (Book.mk (b_own.map unOwn) (b_parts.map unPart) (b_seen.map unSeen)) v HP
    exact ⟨by simpa only [e0, e1, e2, Book.row] using this, rfl, trivial⟩
  · cases h1
end
end Go.Ve

namespace Go.Ve
noncomputable section
open Go.Proofs
set_option maxRecDepth 100000
def heldOk (zs : List Zone) (n : Int) (tu : List Box6) : Prop := (n = 0 → tu.length = 0) ∧ (n ≠ 0 → tubeOk zs tu)
instance (zs : List Zone) (n : Int) (tu : List Box6) : Decidable (heldOk zs n tu) := Classical.propDecidable _
def grAt (wh gr : List ByteArray) (i : Nat) : Prop := gr.getD i default ∈ wh ∧ (0 < i → slt (gr.getD (i - 1) default) (gr.getD i default))
def ownOk1 (zs : List Zone) (o : Own) : Prop := nameOk o.fl ∧ (1 ≤ o.st ∧ o.st ≤ 3) ∧ (1 ≤ o.tn ∧ o.tn ≤ 1000000) ∧ (0 ≤ o.la ∧ o.la ≤ 1000000) ∧ (0 ≤ o.nr ∧ o.nr ≤ o.la) ∧ (0 ≤ o.wi ∧ o.wi ≤ o.la) ∧ (o.wi ≠ 0 → o.nr < o.wi)
def ownOk2 (zs : List Zone) (o : Own) : Prop := (o.st = 1 ↔ o.dst = ⟨#[]⟩) ∧ (o.st ≠ 1 → 0 ≤ zAt zs o.dst) ∧ (o.st ≠ 1 → o.wi = 0) ∧ (o.st = 2 → o.nr ≠ 0)
def ownOk3 (zs : List Zone) (o : Own) : Prop := heldOk zs o.nr o.tu ∧ heldOk zs o.wi o.nx
def ownOk4 (zs : List Zone) (o : Own) : Prop := (∀ i, i < o.gr.length → grAt (whoOf zs o.nx) o.gr i) ∧ (o.sent = true ↔ 0 < o.wi ∧ allIn o.gr (whoOf zs o.nx))
def ownOk (zs : List Zone) (o : Own) : Prop := ownOk1 zs o ∧ ownOk2 zs o ∧ ownOk3 zs o ∧ ownOk4 zs o
instance (zs : List Zone) (o : Own) : Decidable (ownOk zs o) := Classical.propDecidable _
def ownAt (zs : List Zone) (l : List Own) (i : Nat) : Prop := ownOk zs (l.getD i default) ∧ (0 < i → slt (l.getD (i - 1) default).fl (l.getD i default).fl)
def ownsOk (zs : List Zone) (l : List Own) : Prop := l.length ≤ 6 ∧ ∀ i, i < l.length → ownAt zs l i
instance (zs : List Zone) (l : List Own) : Decidable (ownsOk zs l) := Classical.propDecidable _
def Part.before (a p : Part) : Prop := slt a.fl p.fl ∨ (a.fl = p.fl ∧ a.nr < p.nr)
instance (a p : Part) : Decidable (a.before p) := Classical.propDecidable _
def partAt (zs : List Zone) (b : Book) (i : Nat) : Prop := nameOk (b.parts.getD i default).fl ∧ (1 ≤ (b.parts.getD i default).nr ∧ (b.parts.getD i default).nr ≤ seenOf b.seen (b.parts.getD i default).fl) ∧ tubeOk zs (b.parts.getD i default).bx ∧
  (0 < i → (b.parts.getD (i - 1) default).before (b.parts.getD i default)) ∧ ∀ k, k < i → (b.parts.getD k default).fl ≠ (b.parts.getD i default).fl → ¬ nearT (b.parts.getD k default).bx (b.parts.getD i default).bx
def partsOk (zs : List Zone) (b : Book) : Prop := b.parts.length ≤ 16 ∧ ∀ i, i < b.parts.length → partAt zs b i
instance (zs : List Zone) (b : Book) : Decidable (partsOk zs b) := Classical.propDecidable _
def seenAt (l : List Seen) (i : Nat) : Prop := nameOk (l.getD i default).fl ∧ (1 ≤ (l.getD i default).nr ∧ (l.getD i default).nr ≤ 1000000) ∧ (0 < i → slt (l.getD (i - 1) default).fl (l.getD i default).fl)
def seenOk (l : List Seen) : Prop := l.length ≤ 6 ∧ ∀ i, i < l.length → seenAt l i
def bookOk (zs : List Zone) (b : Book) : Prop := ownsOk zs b.own ∧ partsOk zs b ∧ seenOk b.seen
instance (zs : List Zone) (b : Book) : Decidable (bookOk zs b) := Classical.propDecidable _
/-- Lists that are not too long for a machine. -/
def Own.small (o : Own) : Prop := o.tu.length ≤ 1048576 ∧ o.nx.length ≤ 1048576 ∧ o.gr.length ≤ 1048576
def Book.small (b : Book) : Prop := (b.own.length ≤ 1048576 ∧ ∀ o ∈ b.own, o.small) ∧ (b.parts.length ≤ 1048576 ∧ ∀ p ∈ b.parts, p.bx.length ≤ 1048576) ∧ b.seen.length ≤ 1048576
theorem Book.small_own {b : Book} (h : b.small) {i : Nat} (hi : i < b.own.length) : (b.own.getD i default).small := h.1.2 _ (by simp [hi])
theorem Book.small_part {b : Book} (h : b.small) {i : Nat} (hi : i < b.parts.length) : (b.parts.getD i default).bx.length ≤ 1048576 := h.2.1.2 _ (by simp [hi])
theorem cB_held : calleeB P 126 = true := by kernel_rfl
theorem who_len (zs : List Zone) (tu : List Box6) : (whoOf zs tu).length ≤ zs.length := by
  rw [← wk_end]; exact wk_len zs tu _
theorem c_held (n : Int) (t t' : Nat) (zs : List Zone) (tu : List Box6) (hz : zs.length ≤ 4611686018427387904) (hl : tu.length ≤ 4611686018427387904) : Contract P 126 [.int .i64 n, .sl t 6 (tu.map Box6.row), .ptr 3 0] [(3, .box [.sl t' 5 (zs.map Zone.row)])] (.bool (decide (heldOk zs n tu))) [(3, .box [.sl t' 5 (zs.map Zone.row)])] := by
  refine fn_sound ((Env.nil P).add 100 t_tubeOk h_tubeOk) hm k_impl_bookOk_1 (nlb rfl) rfl ?_; unfold s_impl_bookOk_1; simp (maxSteps := 2000000) only [bitvec_to_nat, reduceIte, Nat.reduceEqDiff, Nat.reduceAdd, Nat.reduceLeDiff, reduceCtorEq, Nat.reduceBEq, Nat.reduceLT, Nat.reduceMod, fmc, retG_ret, retQ_eq, retQ_eqN, retOk, keepB, re_tupl, orr_t, t_tubeOk, int_toBitVec_meta, Own.row, Own_eta, Seen.row, Seen_eta, Part.row, Part_eta, Book.row]
  refine ⟨fun h => ?_, fun h => ⟨⟨hz, hl⟩, ?_⟩⟩
  · simp [heldOk, h, refsInL, refsIn, dom, decide_eq_decide]
    try omega
  · simp [heldOk, h, refsInL, refsIn, dom]
def r_held : RTab
  | [.int .i64 n, .sl tt 6 tx, .ptr ob off], M => match M ob with
    | some (.box [.sl zt 5 zx]) => some ⟨off = 0 ∧ (tx.map unBox).map Box6.row = tx ∧ (zx.map unZone).map Zone.row = zx ∧ (zx.map unZone).length ≤ 4611686018427387904 ∧ (tx.map unBox).length ≤ 4611686018427387904, fun _ : Unit => True, fun _ => .bool (decide (heldOk (zx.map unZone) n (tx.map unBox))), fun _ => [(ob, .box [.sl zt 5 zx])]⟩
    | _ => none
  | _, _ => none
theorem h_held : okTab P 126 r_held := by
  intro args M o h hp
  unfold r_held at h
  split at h
  · rename_i n tt tx ob off
    split at h
    · rename_i zt zx hM
      cases h
      obtain ⟨rfl, e0, e1, HP⟩ := hp
      have hC := c_held n tt zt (zx.map unZone) (tx.map unBox) HP.1 HP.2
      simp only [e0, e1] at hC
      exact ⟨(), trivial, callR_box _ hC (by simp [norefL, noref]) rfl (by assumption) (by simp [renL, ren, swp]) (by simp [refsInL, refsIn, noref])⟩
    · cases h
  · cases h
set_option maxHeartbeats 400000 in
theorem pc_impl_bookOk_0 (t : Nat) (zs : List Zone) (b : Book) {Q : XT → St → Prop}  (hQ : ∀ bv : Bool, (bv = true ↔ (6 < b.own.length ∨ 16 < b.parts.length ∨ 6 < b.seen.length)) → Q .normal ⟨[(2, .ptr 102 0), (3, .ptr 103 0), (34, .bool bv)], [(102, .box [.sl t 5 (zs.map Zone.row)]), (103, .box [.sl 0 11 (b.own.map (Own.row 0)), .sl 0 3 (b.parts.map (Part.row 0)), .sl 0 2 (b.seen.map Seen.row)])]⟩) : SCode.wp ((((((((((((Env.nil P).addR 126 r_held h_held).add 120 t_within h_within).add 103 t_isName h_isName).add 125 t_number h_number).add 86 t_zoneAt h_zoneAt).add 127 t_who h_who).add 116 t_ContainsS h_ContainsS).add 128 t_all h_all).add 100 t_tubeOk h_tubeOk).add 129 t_seen h_seen).add 130 t_near h_near) p_impl_bookOk_0 Q ⟨[(2, .ptr 102 0), (3, .ptr 103 0)], [(102, .box [.sl t 5 (zs.map Zone.row)]), (103, .box [.sl 0 11 (b.own.map (Own.row 0)), .sl 0 3 (b.parts.map (Part.row 0)), .sl 0 2 (b.seen.map Seen.row)])]⟩ := by
  all_goals (unfold p_impl_bookOk_0; simp (maxSteps := 2000000) only [bitvec_to_nat, reduceIte, Nat.reduceEqDiff, Nat.reduceAdd, Nat.reduceLeDiff, reduceCtorEq, Nat.reduceBEq, Nat.reduceLT, Nat.reduceMod, fmc, retG_ret, retQ_eq, retQ_eqN, retOk, keepB, re_tupl, orr_t, t_within, t_isName, t_number, t_zoneAt, t_who, t_ContainsS, t_all, t_tubeOk, t_seen, t_near, r_held, int_toBitVec_meta, Own.row, Own_eta, Seen.row, Seen_eta, Part.row, Part_eta, Book.row, cB_held])
  repeat' (first | with_reducible apply And.intro | with_reducible intro _)
  all_goals first
    | omega
    | (refine hQ _ ?_
       first
         | grind []
         | (simp; grind []))
    | grind []
set_option maxHeartbeats 1000000 in
theorem pc_impl_bookOk_1 (t : Nat) (zs : List Zone) (b : Book) (o : Own) (i : Nat) {Q : XT → St → Prop} (hi : i < b.own.length) (hl : b.own.length ≤ 1048576) (hQ : ∀ bv : Bool, (bv = true ↔ ¬ (ownOk1 zs o ∧ (0 < i → slt (b.own.getD (i - 1) default).fl o.fl))) → Q .normal ⟨[(2, .ptr 102 0), (3, .ptr 103 0), (6, .ptr 106 0), (36, .sl 0 11 (b.own.map (Own.row 0))), (37, .int .i64 b.own.length), (38, .int .i64 i), (108, .bool bv)], [(102, .box [.sl t 5 (zs.map Zone.row)]), (103, .box [.sl 0 11 (b.own.map (Own.row 0)), .sl 0 3 (b.parts.map (Part.row 0)), .sl 0 2 (b.seen.map Seen.row)]), (106, .box [.str o.fl, .int .i64 o.st, .int .i64 o.tn, .str o.dst, .int .i64 o.la, .int .i64 o.nr, .sl 0 6 (o.tu.map Box6.row), .int .i64 o.wi, .sl 0 6 (o.nx.map Box6.row), .sl 0 1 (o.gr.map srow), .bool o.sent])]⟩) : SCode.wp ((((((((((((Env.nil P).addR 126 r_held h_held).add 120 t_within h_within).add 103 t_isName h_isName).add 125 t_number h_number).add 86 t_zoneAt h_zoneAt).add 127 t_who h_who).add 116 t_ContainsS h_ContainsS).add 128 t_all h_all).add 100 t_tubeOk h_tubeOk).add 129 t_seen h_seen).add 130 t_near h_near) p_impl_bookOk_1 Q ⟨[(2, .ptr 102 0), (3, .ptr 103 0), (5, .int .i64 i), (6, .ptr 106 0), (36, .sl 0 11 (b.own.map (Own.row 0))), (37, .int .i64 b.own.length), (38, .int .i64 i)], [(102, .box [.sl t 5 (zs.map Zone.row)]), (103, .box [.sl 0 11 (b.own.map (Own.row 0)), .sl 0 3 (b.parts.map (Part.row 0)), .sl 0 2 (b.seen.map Seen.row)]), (106, .box [.str o.fl, .int .i64 o.st, .int .i64 o.tn, .str o.dst, .int .i64 o.la, .int .i64 o.nr, .sl 0 6 (o.tu.map Box6.row), .int .i64 o.wi, .sl 0 6 (o.nx.map Box6.row), .sl 0 1 (o.gr.map srow), .bool o.sent])]⟩ := by
  all_goals (unfold p_impl_bookOk_1; simp (maxSteps := 2000000) only [bitvec_to_nat, reduceIte, Nat.reduceEqDiff, Nat.reduceAdd, Nat.reduceLeDiff, reduceCtorEq, Nat.reduceBEq, Nat.reduceLT, Nat.reduceMod, fmc, retG_ret, retQ_eq, retQ_eqN, retOk, keepB, re_tupl, orr_t, t_within, t_isName, t_number, t_zoneAt, t_who, t_ContainsS, t_all, t_tubeOk, t_seen, t_near, r_held, int_toBitVec_meta, Own.row, Own_eta, Seen.row, Seen_eta, Part.row, Part_eta, Book.row, cB_held])
  repeat' (first | with_reducible apply And.intro | with_reducible intro _)
  all_goals first
    | omega
    | (refine hQ _ ?_
       first
         | grind [ownOk1]
         | (simp; grind [ownOk1]))
    | grind [ownOk1]
set_option maxHeartbeats 400000 in
theorem pc_impl_bookOk_2 (t : Nat) (zs : List Zone) (b : Book) (o : Own) (i : Nat) {Q : XT → St → Prop} (hz : zs.length ≤ 4294967295) (hQ : ∀ bv : Bool, (bv = true ↔ ¬ ((o.st = 1 ↔ o.dst = ⟨#[]⟩) ∧ (o.st ≠ 1 → 0 ≤ zAt zs o.dst) ∧ (o.st ≠ 1 → o.wi = 0))) → Q .normal ⟨[(2, .ptr 102 0), (3, .ptr 103 0), (6, .ptr 106 0), (36, .sl 0 11 (b.own.map (Own.row 0))), (37, .int .i64 b.own.length), (38, .int .i64 i), (136, .bool bv)], [(102, .box [.sl t 5 (zs.map Zone.row)]), (103, .box [.sl 0 11 (b.own.map (Own.row 0)), .sl 0 3 (b.parts.map (Part.row 0)), .sl 0 2 (b.seen.map Seen.row)]), (106, .box [.str o.fl, .int .i64 o.st, .int .i64 o.tn, .str o.dst, .int .i64 o.la, .int .i64 o.nr, .sl 0 6 (o.tu.map Box6.row), .int .i64 o.wi, .sl 0 6 (o.nx.map Box6.row), .sl 0 1 (o.gr.map srow), .bool o.sent])]⟩) : SCode.wp ((((((((((((Env.nil P).addR 126 r_held h_held).add 120 t_within h_within).add 103 t_isName h_isName).add 125 t_number h_number).add 86 t_zoneAt h_zoneAt).add 127 t_who h_who).add 116 t_ContainsS h_ContainsS).add 128 t_all h_all).add 100 t_tubeOk h_tubeOk).add 129 t_seen h_seen).add 130 t_near h_near) p_impl_bookOk_2 Q ⟨[(2, .ptr 102 0), (3, .ptr 103 0), (6, .ptr 106 0), (7, .bool (decide (o.st = 1))), (36, .sl 0 11 (b.own.map (Own.row 0))), (37, .int .i64 b.own.length), (38, .int .i64 i)], [(102, .box [.sl t 5 (zs.map Zone.row)]), (103, .box [.sl 0 11 (b.own.map (Own.row 0)), .sl 0 3 (b.parts.map (Part.row 0)), .sl 0 2 (b.seen.map Seen.row)]), (106, .box [.str o.fl, .int .i64 o.st, .int .i64 o.tn, .str o.dst, .int .i64 o.la, .int .i64 o.nr, .sl 0 6 (o.tu.map Box6.row), .int .i64 o.wi, .sl 0 6 (o.nx.map Box6.row), .sl 0 1 (o.gr.map srow), .bool o.sent])]⟩ := by
  all_goals (unfold p_impl_bookOk_2; simp (maxSteps := 2000000) only [bitvec_to_nat, reduceIte, Nat.reduceEqDiff, Nat.reduceAdd, Nat.reduceLeDiff, reduceCtorEq, Nat.reduceBEq, Nat.reduceLT, Nat.reduceMod, fmc, retG_ret, retQ_eq, retQ_eqN, retOk, keepB, re_tupl, orr_t, t_within, t_isName, t_number, t_zoneAt, t_who, t_ContainsS, t_all, t_tubeOk, t_seen, t_near, r_held, int_toBitVec_meta, Own.row, Own_eta, Seen.row, Seen_eta, Part.row, Part_eta, Book.row, cB_held])
  repeat' (first | with_reducible apply And.intro | with_reducible intro _)
  all_goals first
    | omega
    | (refine hQ _ ?_
       first
         | grind []
         | (simp; grind []))
    | grind []
set_option maxHeartbeats 400000 in
theorem pc_impl_bookOk_3 (t : Nat) (zs : List Zone) (b : Book) (o : Own) (i : Nat) {Q : XT → St → Prop} (hz : zs.length ≤ 4294967295) (h1 : o.tu.length ≤ 1048576) (h2 : o.nx.length ≤ 1048576) (hQ : ∀ bv : Bool, (bv = true ↔ ¬ ((o.st = 2 → o.nr ≠ 0) ∧ ownOk3 zs o)) → Q .normal ⟨[(2, .ptr 102 0), (3, .ptr 103 0), (6, .ptr 106 0), (36, .sl 0 11 (b.own.map (Own.row 0))), (37, .int .i64 b.own.length), (38, .int .i64 i), (163, .bool bv)], [(102, .box [.sl t 5 (zs.map Zone.row)]), (103, .box [.sl 0 11 (b.own.map (Own.row 0)), .sl 0 3 (b.parts.map (Part.row 0)), .sl 0 2 (b.seen.map Seen.row)]), (106, .box [.str o.fl, .int .i64 o.st, .int .i64 o.tn, .str o.dst, .int .i64 o.la, .int .i64 o.nr, .sl 0 6 (o.tu.map Box6.row), .int .i64 o.wi, .sl 0 6 (o.nx.map Box6.row), .sl 0 1 (o.gr.map srow), .bool o.sent])]⟩) : SCode.wp ((((((((((((Env.nil P).addR 126 r_held h_held).add 120 t_within h_within).add 103 t_isName h_isName).add 125 t_number h_number).add 86 t_zoneAt h_zoneAt).add 127 t_who h_who).add 116 t_ContainsS h_ContainsS).add 128 t_all h_all).add 100 t_tubeOk h_tubeOk).add 129 t_seen h_seen).add 130 t_near h_near) p_impl_bookOk_3 Q ⟨[(2, .ptr 102 0), (3, .ptr 103 0), (6, .ptr 106 0), (8, .fn 126 [] [.ptr 102 0]), (36, .sl 0 11 (b.own.map (Own.row 0))), (37, .int .i64 b.own.length), (38, .int .i64 i)], [(102, .box [.sl t 5 (zs.map Zone.row)]), (103, .box [.sl 0 11 (b.own.map (Own.row 0)), .sl 0 3 (b.parts.map (Part.row 0)), .sl 0 2 (b.seen.map Seen.row)]), (106, .box [.str o.fl, .int .i64 o.st, .int .i64 o.tn, .str o.dst, .int .i64 o.la, .int .i64 o.nr, .sl 0 6 (o.tu.map Box6.row), .int .i64 o.wi, .sl 0 6 (o.nx.map Box6.row), .sl 0 1 (o.gr.map srow), .bool o.sent])]⟩ := by
  all_goals (unfold p_impl_bookOk_3; simp (maxSteps := 2000000) only [bitvec_to_nat, reduceIte, Nat.reduceEqDiff, Nat.reduceAdd, Nat.reduceLeDiff, reduceCtorEq, Nat.reduceBEq, Nat.reduceLT, Nat.reduceMod, fmc, retG_ret, retQ_eq, retQ_eqN, retOk, keepB, re_tupl, orr_t, t_within, t_isName, t_number, t_zoneAt, t_who, t_ContainsS, t_all, t_tubeOk, t_seen, t_near, r_held, int_toBitVec_meta, Own.row, Own_eta, Seen.row, Seen_eta, Part.row, Part_eta, Book.row, cB_held])
  repeat' (first | with_reducible apply And.intro | with_reducible intro _)
  all_goals first
    | omega
    | (refine hQ _ ?_
       first
         | grind [ownOk3]
         | (simp; grind [ownOk3]))
    | grind [ownOk3]
set_option maxHeartbeats 400000 in
theorem pc_impl_bookOk_4 (t : Nat) (zs : List Zone) (b : Book) (o : Own) (i : Nat) (wh : List ByteArray) (k : Nat) {Q : XT → St → Prop} (hw : wh.length ≤ 4294967295) (hk : k < o.gr.length) (hl : o.gr.length ≤ 1048576) (hQ : ∀ bv : Bool, (bv = true ↔ ¬ grAt wh o.gr k) → Q .normal ⟨[(2, .ptr 102 0), (3, .ptr 103 0), (6, .ptr 106 0), (9, .sl 0 1 (wh.map srow)), (36, .sl 0 11 (b.own.map (Own.row 0))), (37, .int .i64 b.own.length), (38, .int .i64 i), (169, .sl 0 1 (o.gr.map srow)), (170, .int .i64 o.gr.length), (171, .int .i64 k), (193, .bool bv)], [(102, .box [.sl t 5 (zs.map Zone.row)]), (103, .box [.sl 0 11 (b.own.map (Own.row 0)), .sl 0 3 (b.parts.map (Part.row 0)), .sl 0 2 (b.seen.map Seen.row)]), (106, .box [.str o.fl, .int .i64 o.st, .int .i64 o.tn, .str o.dst, .int .i64 o.la, .int .i64 o.nr, .sl 0 6 (o.tu.map Box6.row), .int .i64 o.wi, .sl 0 6 (o.nx.map Box6.row), .sl 0 1 (o.gr.map srow), .bool o.sent])]⟩) : SCode.wp ((((((((((((Env.nil P).addR 126 r_held h_held).add 120 t_within h_within).add 103 t_isName h_isName).add 125 t_number h_number).add 86 t_zoneAt h_zoneAt).add 127 t_who h_who).add 116 t_ContainsS h_ContainsS).add 128 t_all h_all).add 100 t_tubeOk h_tubeOk).add 129 t_seen h_seen).add 130 t_near h_near) p_impl_bookOk_4 Q ⟨[(2, .ptr 102 0), (3, .ptr 103 0), (6, .ptr 106 0), (9, .sl 0 1 (wh.map srow)), (10, .int .i64 k), (11, .str (o.gr.getD k default)), (36, .sl 0 11 (b.own.map (Own.row 0))), (37, .int .i64 b.own.length), (38, .int .i64 i), (169, .sl 0 1 (o.gr.map srow)), (170, .int .i64 o.gr.length), (171, .int .i64 k)], [(102, .box [.sl t 5 (zs.map Zone.row)]), (103, .box [.sl 0 11 (b.own.map (Own.row 0)), .sl 0 3 (b.parts.map (Part.row 0)), .sl 0 2 (b.seen.map Seen.row)]), (106, .box [.str o.fl, .int .i64 o.st, .int .i64 o.tn, .str o.dst, .int .i64 o.la, .int .i64 o.nr, .sl 0 6 (o.tu.map Box6.row), .int .i64 o.wi, .sl 0 6 (o.nx.map Box6.row), .sl 0 1 (o.gr.map srow), .bool o.sent])]⟩ := by
  all_goals (unfold p_impl_bookOk_4; simp (maxSteps := 2000000) only [bitvec_to_nat, reduceIte, Nat.reduceEqDiff, Nat.reduceAdd, Nat.reduceLeDiff, reduceCtorEq, Nat.reduceBEq, Nat.reduceLT, Nat.reduceMod, fmc, retG_ret, retQ_eq, retQ_eqN, retOk, keepB, re_tupl, orr_t, t_within, t_isName, t_number, t_zoneAt, t_who, t_ContainsS, t_all, t_tubeOk, t_seen, t_near, r_held, int_toBitVec_meta, Own.row, Own_eta, Seen.row, Seen_eta, Part.row, Part_eta, Book.row, cB_held])
  repeat' (first | with_reducible apply And.intro | with_reducible intro _)
  all_goals first
    | omega
    | (refine hQ _ ?_
       first
         | grind [grAt]
         | (simp; grind [grAt]))
    | grind [grAt]
set_option maxHeartbeats 400000 in
theorem pc_impl_bookOk_5 (t : Nat) (zs : List Zone) (b : Book) (o : Own) (i : Nat) (wh : List ByteArray) (k : Nat) {w172 : AV} {Q : XT → St → Prop} (hw : wh.length ≤ 4294967295) (hl : o.gr.length ≤ 1048576) (hQ : ∀ bv : Bool, (bv = true ↔ ¬ (o.sent = true ↔ 0 < o.wi ∧ allIn o.gr wh)) → Q .normal ⟨[(2, .ptr 102 0), (3, .ptr 103 0), (36, .sl 0 11 (b.own.map (Own.row 0))), (37, .int .i64 b.own.length), (38, .int .i64 i), (206, .bool bv)], [(102, .box [.sl t 5 (zs.map Zone.row)]), (103, .box [.sl 0 11 (b.own.map (Own.row 0)), .sl 0 3 (b.parts.map (Part.row 0)), .sl 0 2 (b.seen.map Seen.row)]), (106, .box [.str o.fl, .int .i64 o.st, .int .i64 o.tn, .str o.dst, .int .i64 o.la, .int .i64 o.nr, .sl 0 6 (o.tu.map Box6.row), .int .i64 o.wi, .sl 0 6 (o.nx.map Box6.row), .sl 0 1 (o.gr.map srow), .bool o.sent])]⟩) : SCode.wp ((((((((((((Env.nil P).addR 126 r_held h_held).add 120 t_within h_within).add 103 t_isName h_isName).add 125 t_number h_number).add 86 t_zoneAt h_zoneAt).add 127 t_who h_who).add 116 t_ContainsS h_ContainsS).add 128 t_all h_all).add 100 t_tubeOk h_tubeOk).add 129 t_seen h_seen).add 130 t_near h_near) p_impl_bookOk_5 Q ⟨[(2, .ptr 102 0), (3, .ptr 103 0), (6, .ptr 106 0), (9, .sl 0 1 (wh.map srow)), (36, .sl 0 11 (b.own.map (Own.row 0))), (37, .int .i64 b.own.length), (38, .int .i64 i), (169, .sl 0 1 (o.gr.map srow)), (170, .int .i64 o.gr.length), (171, .int .i64 k), (172, w172)], [(102, .box [.sl t 5 (zs.map Zone.row)]), (103, .box [.sl 0 11 (b.own.map (Own.row 0)), .sl 0 3 (b.parts.map (Part.row 0)), .sl 0 2 (b.seen.map Seen.row)]), (106, .box [.str o.fl, .int .i64 o.st, .int .i64 o.tn, .str o.dst, .int .i64 o.la, .int .i64 o.nr, .sl 0 6 (o.tu.map Box6.row), .int .i64 o.wi, .sl 0 6 (o.nx.map Box6.row), .sl 0 1 (o.gr.map srow), .bool o.sent])]⟩ := by
  all_goals (unfold p_impl_bookOk_5; simp (maxSteps := 2000000) only [bitvec_to_nat, reduceIte, Nat.reduceEqDiff, Nat.reduceAdd, Nat.reduceLeDiff, reduceCtorEq, Nat.reduceBEq, Nat.reduceLT, Nat.reduceMod, fmc, retG_ret, retQ_eq, retQ_eqN, retOk, keepB, re_tupl, orr_t, t_within, t_isName, t_number, t_zoneAt, t_who, t_ContainsS, t_all, t_tubeOk, t_seen, t_near, r_held, int_toBitVec_meta, Own.row, Own_eta, Seen.row, Seen_eta, Part.row, Part_eta, Book.row, cB_held])
  repeat' (first | with_reducible apply And.intro | with_reducible intro _)
  all_goals first
    | omega
    | (refine hQ _ ?_
       first
         | grind []
         | (simp; grind []))
    | grind []
set_option maxHeartbeats 400000 in
theorem pc_impl_bookOk_6 (t : Nat) (zs : List Zone) (b : Book) (i : Nat) {Q : XT → St → Prop} (hi : i < b.seen.length) (hl : b.seen.length ≤ 1048576) (hQ : ∀ bv : Bool, (bv = true ↔ ¬ seenAt b.seen i) → Q .normal ⟨[(2, .ptr 102 0), (3, .ptr 103 0), (209, .sl 0 2 (b.seen.map Seen.row)), (210, .int .i64 b.seen.length), (211, .int .i64 i), (241, .bool bv)], [(102, .box [.sl t 5 (zs.map Zone.row)]), (103, .box [.sl 0 11 (b.own.map (Own.row 0)), .sl 0 3 (b.parts.map (Part.row 0)), .sl 0 2 (b.seen.map Seen.row)]), (113, .box [.str (b.seen.getD i default).fl, .int .i64 (b.seen.getD i default).nr])]⟩) : SCode.wp ((((((((((((Env.nil P).addR 126 r_held h_held).add 120 t_within h_within).add 103 t_isName h_isName).add 125 t_number h_number).add 86 t_zoneAt h_zoneAt).add 127 t_who h_who).add 116 t_ContainsS h_ContainsS).add 128 t_all h_all).add 100 t_tubeOk h_tubeOk).add 129 t_seen h_seen).add 130 t_near h_near) p_impl_bookOk_6 Q ⟨[(2, .ptr 102 0), (3, .ptr 103 0), (12, .int .i64 i), (13, .ptr 113 0), (209, .sl 0 2 (b.seen.map Seen.row)), (210, .int .i64 b.seen.length), (211, .int .i64 i)], [(102, .box [.sl t 5 (zs.map Zone.row)]), (103, .box [.sl 0 11 (b.own.map (Own.row 0)), .sl 0 3 (b.parts.map (Part.row 0)), .sl 0 2 (b.seen.map Seen.row)]), (113, .box [.str (b.seen.getD i default).fl, .int .i64 (b.seen.getD i default).nr])]⟩ := by
  all_goals (unfold p_impl_bookOk_6; simp (maxSteps := 2000000) only [bitvec_to_nat, reduceIte, Nat.reduceEqDiff, Nat.reduceAdd, Nat.reduceLeDiff, reduceCtorEq, Nat.reduceBEq, Nat.reduceLT, Nat.reduceMod, fmc, retG_ret, retQ_eq, retQ_eqN, retOk, keepB, re_tupl, orr_t, t_within, t_isName, t_number, t_zoneAt, t_who, t_ContainsS, t_all, t_tubeOk, t_seen, t_near, r_held, int_toBitVec_meta, Own.row, Own_eta, Seen.row, Seen_eta, Part.row, Part_eta, Book.row, cB_held])
  repeat' (first | with_reducible apply And.intro | with_reducible intro _)
  all_goals first
    | omega
    | (refine hQ _ ?_
       first
         | grind [seenAt]
         | (simp; grind [seenAt]))
    | grind [seenAt]
set_option maxHeartbeats 400000 in
theorem pc_impl_bookOk_7 (t : Nat) (zs : List Zone) (b : Book) (p : Part) (i : Nat) {Q : XT → St → Prop} (hz : zs.length ≤ 4294967295) (hs : b.seen.length ≤ 1048576) (hl : p.bx.length ≤ 1048576) (hQ : ∀ bv : Bool, (bv = true ↔ ¬ (nameOk p.fl ∧ (1 ≤ p.nr ∧ p.nr ≤ seenOf b.seen p.fl) ∧ tubeOk zs p.bx)) → Q .normal ⟨[(2, .ptr 102 0), (3, .ptr 103 0), (14, .int .i64 i), (15, .ptr 115 0), (244, .sl 0 3 (b.parts.map (Part.row 0))), (245, .int .i64 b.parts.length), (246, .int .i64 i), (271, .bool bv)], [(102, .box [.sl t 5 (zs.map Zone.row)]), (103, .box [.sl 0 11 (b.own.map (Own.row 0)), .sl 0 3 (b.parts.map (Part.row 0)), .sl 0 2 (b.seen.map Seen.row)]), (115, .box [.str p.fl, .int .i64 p.nr, .sl 0 6 (p.bx.map Box6.row)])]⟩) : SCode.wp ((((((((((((Env.nil P).addR 126 r_held h_held).add 120 t_within h_within).add 103 t_isName h_isName).add 125 t_number h_number).add 86 t_zoneAt h_zoneAt).add 127 t_who h_who).add 116 t_ContainsS h_ContainsS).add 128 t_all h_all).add 100 t_tubeOk h_tubeOk).add 129 t_seen h_seen).add 130 t_near h_near) p_impl_bookOk_7 Q ⟨[(2, .ptr 102 0), (3, .ptr 103 0), (14, .int .i64 i), (15, .ptr 115 0), (244, .sl 0 3 (b.parts.map (Part.row 0))), (245, .int .i64 b.parts.length), (246, .int .i64 i)], [(102, .box [.sl t 5 (zs.map Zone.row)]), (103, .box [.sl 0 11 (b.own.map (Own.row 0)), .sl 0 3 (b.parts.map (Part.row 0)), .sl 0 2 (b.seen.map Seen.row)]), (115, .box [.str p.fl, .int .i64 p.nr, .sl 0 6 (p.bx.map Box6.row)])]⟩ := by
  all_goals (unfold p_impl_bookOk_7; simp (maxSteps := 2000000) only [bitvec_to_nat, reduceIte, Nat.reduceEqDiff, Nat.reduceAdd, Nat.reduceLeDiff, reduceCtorEq, Nat.reduceBEq, Nat.reduceLT, Nat.reduceMod, fmc, retG_ret, retQ_eq, retQ_eqN, retOk, keepB, re_tupl, orr_t, t_within, t_isName, t_number, t_zoneAt, t_who, t_ContainsS, t_all, t_tubeOk, t_seen, t_near, r_held, int_toBitVec_meta, Own.row, Own_eta, Seen.row, Seen_eta, Part.row, Part_eta, Book.row, cB_held])
  repeat' (first | with_reducible apply And.intro | with_reducible intro _)
  all_goals first
    | omega
    | (refine hQ _ ?_
       first
         | grind []
         | (simp; grind []))
    | grind []
set_option maxHeartbeats 400000 in
theorem pc_impl_bookOk_8 (t : Nat) (zs : List Zone) (b : Book) (p a : Part) (i : Nat) {Q : XT → St → Prop} (ht : slt a.fl p.fl ∨ a.fl = p.fl ∨ slt p.fl a.fl) (hn : slt a.fl p.fl → ¬ slt p.fl a.fl) (he : a.fl = p.fl → ¬ slt p.fl a.fl) (hQ : ∀ bv : Bool, (bv = true ↔ ¬ a.before p) → Q .normal ⟨[(2, .ptr 102 0), (3, .ptr 103 0), (14, .int .i64 i), (15, .ptr 115 0), (244, .sl 0 3 (b.parts.map (Part.row 0))), (245, .int .i64 b.parts.length), (246, .int .i64 i), (298, .bool bv)], [(102, .box [.sl t 5 (zs.map Zone.row)]), (103, .box [.sl 0 11 (b.own.map (Own.row 0)), .sl 0 3 (b.parts.map (Part.row 0)), .sl 0 2 (b.seen.map Seen.row)]), (115, .box [.str p.fl, .int .i64 p.nr, .sl 0 6 (p.bx.map Box6.row)]), (116, .box [.str a.fl, .int .i64 a.nr, .sl 0 6 (a.bx.map Box6.row)])]⟩) : SCode.wp ((((((((((((Env.nil P).addR 126 r_held h_held).add 120 t_within h_within).add 103 t_isName h_isName).add 125 t_number h_number).add 86 t_zoneAt h_zoneAt).add 127 t_who h_who).add 116 t_ContainsS h_ContainsS).add 128 t_all h_all).add 100 t_tubeOk h_tubeOk).add 129 t_seen h_seen).add 130 t_near h_near) p_impl_bookOk_8 Q ⟨[(2, .ptr 102 0), (3, .ptr 103 0), (14, .int .i64 i), (15, .ptr 115 0), (16, .ptr 116 0), (244, .sl 0 3 (b.parts.map (Part.row 0))), (245, .int .i64 b.parts.length), (246, .int .i64 i)], [(102, .box [.sl t 5 (zs.map Zone.row)]), (103, .box [.sl 0 11 (b.own.map (Own.row 0)), .sl 0 3 (b.parts.map (Part.row 0)), .sl 0 2 (b.seen.map Seen.row)]), (115, .box [.str p.fl, .int .i64 p.nr, .sl 0 6 (p.bx.map Box6.row)]), (116, .box [.str a.fl, .int .i64 a.nr, .sl 0 6 (a.bx.map Box6.row)])]⟩ := by
  all_goals (unfold p_impl_bookOk_8; simp (maxSteps := 2000000) only [bitvec_to_nat, reduceIte, Nat.reduceEqDiff, Nat.reduceAdd, Nat.reduceLeDiff, reduceCtorEq, Nat.reduceBEq, Nat.reduceLT, Nat.reduceMod, fmc, retG_ret, retQ_eq, retQ_eqN, retOk, keepB, re_tupl, orr_t, t_within, t_isName, t_number, t_zoneAt, t_who, t_ContainsS, t_all, t_tubeOk, t_seen, t_near, r_held, int_toBitVec_meta, Own.row, Own_eta, Seen.row, Seen_eta, Part.row, Part_eta, Book.row, cB_held])
  repeat' (first | with_reducible apply And.intro | with_reducible intro _)
  all_goals first
    | omega
    | (refine hQ _ ?_
       first
         | grind [Part.before]
         | (simp; grind [Part.before]))
    | grind [Part.before]
set_option maxHeartbeats 400000 in
theorem pc_impl_bookOk_9 (t : Nat) (zs : List Zone) (b : Book) (p a : Part) (i k : Nat) {Q : XT → St → Prop} (h1 : a.bx.length ≤ 1048576) (h2 : p.bx.length ≤ 1048576) (hQ : ∀ bv : Bool, (bv = true ↔ (a.fl ≠ p.fl ∧ nearT a.bx p.bx)) → Q .normal ⟨[(2, .ptr 102 0), (3, .ptr 103 0), (15, .ptr 115 0), (244, .sl 0 3 (b.parts.map (Part.row 0))), (245, .int .i64 b.parts.length), (246, .int .i64 i), (302, .sl 0 3 ((b.parts.take i).map (Part.row 0))), (303, .int .i64 (min i b.parts.length : Nat)), (304, .int .i64 k), (319, .bool bv)], [(102, .box [.sl t 5 (zs.map Zone.row)]), (103, .box [.sl 0 11 (b.own.map (Own.row 0)), .sl 0 3 (b.parts.map (Part.row 0)), .sl 0 2 (b.seen.map Seen.row)]), (115, .box [.str p.fl, .int .i64 p.nr, .sl 0 6 (p.bx.map Box6.row)]), (118, .box [.str a.fl, .int .i64 a.nr, .sl 0 6 (a.bx.map Box6.row)])]⟩) : SCode.wp ((((((((((((Env.nil P).addR 126 r_held h_held).add 120 t_within h_within).add 103 t_isName h_isName).add 125 t_number h_number).add 86 t_zoneAt h_zoneAt).add 127 t_who h_who).add 116 t_ContainsS h_ContainsS).add 128 t_all h_all).add 100 t_tubeOk h_tubeOk).add 129 t_seen h_seen).add 130 t_near h_near) p_impl_bookOk_9 Q ⟨[(2, .ptr 102 0), (3, .ptr 103 0), (15, .ptr 115 0), (18, .ptr 118 0), (244, .sl 0 3 (b.parts.map (Part.row 0))), (245, .int .i64 b.parts.length), (246, .int .i64 i), (302, .sl 0 3 ((b.parts.take i).map (Part.row 0))), (303, .int .i64 (min i b.parts.length : Nat)), (304, .int .i64 k)], [(102, .box [.sl t 5 (zs.map Zone.row)]), (103, .box [.sl 0 11 (b.own.map (Own.row 0)), .sl 0 3 (b.parts.map (Part.row 0)), .sl 0 2 (b.seen.map Seen.row)]), (115, .box [.str p.fl, .int .i64 p.nr, .sl 0 6 (p.bx.map Box6.row)]), (118, .box [.str a.fl, .int .i64 a.nr, .sl 0 6 (a.bx.map Box6.row)])]⟩ := by
  all_goals (unfold p_impl_bookOk_9; simp (maxSteps := 2000000) only [bitvec_to_nat, reduceIte, Nat.reduceEqDiff, Nat.reduceAdd, Nat.reduceLeDiff, reduceCtorEq, Nat.reduceBEq, Nat.reduceLT, Nat.reduceMod, fmc, retG_ret, retQ_eq, retQ_eqN, retOk, keepB, re_tupl, orr_t, t_within, t_isName, t_number, t_zoneAt, t_who, t_ContainsS, t_all, t_tubeOk, t_seen, t_near, r_held, int_toBitVec_meta, Own.row, Own_eta, Seen.row, Seen_eta, Part.row, Part_eta, Book.row, cB_held])
  repeat' (first | with_reducible apply And.intro | with_reducible intro _)
  all_goals first
    | omega
    | (refine hQ _ ?_
       first
         | grind []
         | (simp; grind []))
    | grind []
end
end Go.Ve

namespace Go.Ve
noncomputable section
open Go.Proofs
set_option maxRecDepth 100000
set_option maxHeartbeats 1000000 in
theorem c_bookOk (t : Nat) (zs : List Zone) (b : Book) (hz : zs.length ≤ 4294967295) (hb : b.small) : Contract P 102 [.sl t 5 (zs.map Zone.row), .agg (b.row 0)] [] (.bool (decide (bookOk zs b))) [] := by
  have hb1 := hb.1.1
  have hb2 := hb.2.1.1
  have hb3 := hb.2.2
  simp only [Book.row]
  refine fn_sound ((((((((((((Env.nil P).addR 126 r_held h_held).add 120 t_within h_within).add 103 t_isName h_isName).add 125 t_number h_number).add 86 t_zoneAt h_zoneAt).add 127 t_who h_who).add 116 t_ContainsS h_ContainsS).add 128 t_all h_all).add 100 t_tubeOk h_tubeOk).add 129 t_seen h_seen).add 130 t_near h_near) hm k_impl_bookOk (nlb rfl) rfl ?_; unfold s_impl_bookOk; simp (maxSteps := 2000000) only [bitvec_to_nat, reduceIte, Nat.reduceEqDiff, Nat.reduceAdd, Nat.reduceLeDiff, reduceCtorEq, Nat.reduceBEq, Nat.reduceLT, Nat.reduceMod, fmc, retG_ret, retQ_eq, retQ_eqN, retOk, keepB, re_tupl, orr_t, t_within, t_isName, t_number, t_zoneAt, t_who, t_ContainsS, t_all, t_tubeOk, t_seen, t_near, r_held, int_toBitVec_meta, Own.row, Own_eta, Seen.row, Seen_eta, Part.row, Part_eta, Book.row, cB_held]
  refine pc_impl_bookOk_0 t zs b fun bv hbv => ?_
  cases bv
  case true =>
    simp (maxSteps := 2000000) only [bitvec_to_nat, reduceIte, Nat.reduceEqDiff, Nat.reduceAdd, Nat.reduceLeDiff, reduceCtorEq, Nat.reduceBEq, Nat.reduceLT, Nat.reduceMod, fmc, retG_ret, retQ_eq, retQ_eqN, retOk, keepB, re_tupl, orr_t, t_within, t_isName, t_number, t_zoneAt, t_who, t_ContainsS, t_all, t_tubeOk, t_seen, t_near, r_held, int_toBitVec_meta, Own.row, Own_eta, Seen.row, Seen_eta, Part.row, Part_eta, Book.row, cB_held]
    have : 6 < b.own.length ∨ 16 < b.parts.length ∨ 6 < b.seen.length := by simpa using hbv
    intro hq
    have h1 := hq.1.1; have h2 := hq.2.1.1; have h3 := hq.2.2.1
    omega
  have h0 : ¬ (6 < b.own.length ∨ 16 < b.parts.length ∨ 6 < b.seen.length) := by simpa using hbv
  simp (maxSteps := 2000000) only [bitvec_to_nat, reduceIte, Nat.reduceEqDiff, Nat.reduceAdd, Nat.reduceLeDiff, reduceCtorEq, Nat.reduceBEq, Nat.reduceLT, Nat.reduceMod, fmc, retG_ret, retQ_eq, retQ_eqN, retOk, keepB, re_tupl, orr_t, t_within, t_isName, t_number, t_zoneAt, t_who, t_ContainsS, t_all, t_tubeOk, t_seen, t_near, r_held, int_toBitVec_meta, Own.row, Own_eta, Seen.row, Seen_eta, Part.row, Part_eta, Book.row, cB_held]
  -- those in hand
  refine loop_st (fun i : Nat => [(38, .int .i64 i)]) (fun _ => []) (fun i => i ≤ b.own.length ∧ ∀ j, j < i → ownAt zs b.own j) (fun i => b.own.length - i) (0) (by simp only [u_E0, u_E1, u_M0, u_M1, w_setE0, w_setE1, w_setM0, w_setM1, reduceIte, Nat.reduceEqDiff]; exact ⟨by repeat' (first | exact trivial | refine ⟨.inr rfl, ?_⟩), by repeat' (first | exact trivial | refine ⟨rfl, ?_⟩), by first | rfl | simp [closedB, refsIn, refsInL, refsInO, dom, refsInL_nr, *], by first | rfl | simp [keepB, dom]⟩) ?_ ?_
  · exact ⟨Nat.zero_le _, by intro j hj; omega⟩
  intro i hi NX hN
  unfold l_impl_bookOk_1; simp (maxSteps := 2000000) only [bitvec_to_nat, reduceIte, Nat.reduceEqDiff, Nat.reduceAdd, Nat.reduceLeDiff, reduceCtorEq, Nat.reduceBEq, Nat.reduceLT, Nat.reduceMod, fmc, retG_ret, retQ_eq, retQ_eqN, retOk, keepB, re_tupl, orr_t, t_within, t_isName, t_number, t_zoneAt, t_who, t_ContainsS, t_all, t_tubeOk, t_seen, t_near, r_held, int_toBitVec_meta, Own.row, Own_eta, Seen.row, Seen_eta, Part.row, Part_eta, Book.row, cB_held]
  refine ⟨fun g1 => ⟨by omega, by omega, ?_⟩, fun g1 => ?_⟩
  · have hs : (b.own.getD i default).small := Book.small_own hb (by omega)
    unfold Own.small at hs
    have hw := who_len zs (b.own.getD i default).nx
    have A : bookOk zs b → ownAt zs b.own i := fun h => h.1.2 i (by omega)
    unfold ownAt ownOk at A
    refine pc_impl_bookOk_1 t zs b (b.own.getD i default) i (by omega) hb1 fun bv hbv => ?_
    cases bv
    case true =>
      simp (maxSteps := 2000000) only [bitvec_to_nat, reduceIte, Nat.reduceEqDiff, Nat.reduceAdd, Nat.reduceLeDiff, reduceCtorEq, Nat.reduceBEq, Nat.reduceLT, Nat.reduceMod, fmc, retG_ret, retQ_eq, retQ_eqN, retOk, keepB, re_tupl, orr_t, t_within, t_isName, t_number, t_zoneAt, t_who, t_ContainsS, t_all, t_tubeOk, t_seen, t_near, r_held, int_toBitVec_meta, Own.row, Own_eta, Seen.row, Seen_eta, Part.row, Part_eta, Book.row, cB_held]
      have : ¬ (ownOk1 zs (b.own.getD i default) ∧ (0 < i → slt (b.own.getD (i - 1) default).fl (b.own.getD i default).fl)) := by simpa using hbv
      exact fun hq => this ⟨(A hq).1.1, (A hq).2⟩
    have o1 : ownOk1 zs (b.own.getD i default) ∧ (0 < i → slt (b.own.getD (i - 1) default).fl (b.own.getD i default).fl) := by simpa using hbv
    simp (maxSteps := 2000000) only [bitvec_to_nat, reduceIte, Nat.reduceEqDiff, Nat.reduceAdd, Nat.reduceLeDiff, reduceCtorEq, Nat.reduceBEq, Nat.reduceLT, Nat.reduceMod, fmc, retG_ret, retQ_eq, retQ_eqN, retOk, keepB, re_tupl, orr_t, t_within, t_isName, t_number, t_zoneAt, t_who, t_ContainsS, t_all, t_tubeOk, t_seen, t_near, r_held, int_toBitVec_meta, Own.row, Own_eta, Seen.row, Seen_eta, Part.row, Part_eta, Book.row, cB_held]
    refine pc_impl_bookOk_2 t zs b (b.own.getD i default) i hz fun bv hbv => ?_
    cases bv
    case true =>
      simp (maxSteps := 2000000) only [bitvec_to_nat, reduceIte, Nat.reduceEqDiff, Nat.reduceAdd, Nat.reduceLeDiff, reduceCtorEq, Nat.reduceBEq, Nat.reduceLT, Nat.reduceMod, fmc, retG_ret, retQ_eq, retQ_eqN, retOk, keepB, re_tupl, orr_t, t_within, t_isName, t_number, t_zoneAt, t_who, t_ContainsS, t_all, t_tubeOk, t_seen, t_near, r_held, int_toBitVec_meta, Own.row, Own_eta, Seen.row, Seen_eta, Part.row, Part_eta, Book.row, cB_held]
      exact fun hq => (hbv.1 rfl) ⟨(A hq).1.2.1.1, (A hq).1.2.1.2.1, (A hq).1.2.1.2.2.1⟩
    have o2 := Classical.not_not.1 fun h => Bool.noConfusion (hbv.2 h)
    simp (maxSteps := 2000000) only [bitvec_to_nat, reduceIte, Nat.reduceEqDiff, Nat.reduceAdd, Nat.reduceLeDiff, reduceCtorEq, Nat.reduceBEq, Nat.reduceLT, Nat.reduceMod, fmc, retG_ret, retQ_eq, retQ_eqN, retOk, keepB, re_tupl, orr_t, t_within, t_isName, t_number, t_zoneAt, t_who, t_ContainsS, t_all, t_tubeOk, t_seen, t_near, r_held, int_toBitVec_meta, Own.row, Own_eta, Seen.row, Seen_eta, Part.row, Part_eta, Book.row, cB_held]
    refine pc_impl_bookOk_3 t zs b (b.own.getD i default) i hz hs.1 hs.2.1 fun bv hbv => ?_
    cases bv
    case true =>
      simp (maxSteps := 2000000) only [bitvec_to_nat, reduceIte, Nat.reduceEqDiff, Nat.reduceAdd, Nat.reduceLeDiff, reduceCtorEq, Nat.reduceBEq, Nat.reduceLT, Nat.reduceMod, fmc, retG_ret, retQ_eq, retQ_eqN, retOk, keepB, re_tupl, orr_t, t_within, t_isName, t_number, t_zoneAt, t_who, t_ContainsS, t_all, t_tubeOk, t_seen, t_near, r_held, int_toBitVec_meta, Own.row, Own_eta, Seen.row, Seen_eta, Part.row, Part_eta, Book.row, cB_held]
      exact fun hq => (hbv.1 rfl) ⟨(A hq).1.2.1.2.2.2, (A hq).1.2.2.1⟩
    have o3 := Classical.not_not.1 fun h => Bool.noConfusion (hbv.2 h)
    simp (maxSteps := 2000000) only [bitvec_to_nat, reduceIte, Nat.reduceEqDiff, Nat.reduceAdd, Nat.reduceLeDiff, reduceCtorEq, Nat.reduceBEq, Nat.reduceLT, Nat.reduceMod, fmc, retG_ret, retQ_eq, retQ_eqN, retOk, keepB, re_tupl, orr_t, t_within, t_isName, t_number, t_zoneAt, t_who, t_ContainsS, t_all, t_tubeOk, t_seen, t_near, r_held, int_toBitVec_meta, Own.row, Own_eta, Seen.row, Seen_eta, Part.row, Part_eta, Book.row, cB_held]
    refine ⟨⟨hz, by omega⟩, ?_⟩
    refine loop_st (fun k : Nat => [(171, .int .i64 k)]) (fun _ => []) (fun k => k ≤ (b.own.getD i default).gr.length ∧ ∀ j, j < k → grAt (whoOf zs (b.own.getD i default).nx) (b.own.getD i default).gr j) (fun k => (b.own.getD i default).gr.length - k) (0) (by simp only [u_E0, u_E1, u_M0, u_M1, w_setE0, w_setE1, w_setM0, w_setM1, reduceIte, Nat.reduceEqDiff]; exact ⟨by repeat' (first | exact trivial | refine ⟨.inr rfl, ?_⟩), by repeat' (first | exact trivial | refine ⟨rfl, ?_⟩), by first | rfl | simp [closedB, refsIn, refsInL, refsInO, dom, refsInL_nr, *], by first | rfl | simp [keepB, dom]⟩) ?_ ?_
    · exact ⟨Nat.zero_le _, by intro j hj; omega⟩
    intro k hk NX2 hN2
    unfold l_impl_bookOk_0; simp (maxSteps := 2000000) only [bitvec_to_nat, reduceIte, Nat.reduceEqDiff, Nat.reduceAdd, Nat.reduceLeDiff, reduceCtorEq, Nat.reduceBEq, Nat.reduceLT, Nat.reduceMod, fmc, retG_ret, retQ_eq, retQ_eqN, retOk, keepB, re_tupl, orr_t, t_within, t_isName, t_number, t_zoneAt, t_who, t_ContainsS, t_all, t_tubeOk, t_seen, t_near, r_held, int_toBitVec_meta, Own.row, Own_eta, Seen.row, Seen_eta, Part.row, Part_eta, Book.row, cB_held]
    refine ⟨fun g2 => ⟨by omega, by omega, ?_⟩, fun g2 => ?_⟩
    · refine pc_impl_bookOk_4 t zs b (b.own.getD i default) i (whoOf zs (b.own.getD i default).nx) k (by omega) (by omega) (by omega) fun bv hbv => ?_
      cases bv
      case true =>
        simp (maxSteps := 2000000) only [bitvec_to_nat, reduceIte, Nat.reduceEqDiff, Nat.reduceAdd, Nat.reduceLeDiff, reduceCtorEq, Nat.reduceBEq, Nat.reduceLT, Nat.reduceMod, fmc, retG_ret, retQ_eq, retQ_eqN, retOk, keepB, re_tupl, orr_t, t_within, t_isName, t_number, t_zoneAt, t_who, t_ContainsS, t_all, t_tubeOk, t_seen, t_near, r_held, int_toBitVec_meta, Own.row, Own_eta, Seen.row, Seen_eta, Part.row, Part_eta, Book.row, cB_held]
        exact fun hq => (hbv.1 rfl) ((A hq).1.2.2.2.1 k (by omega))
      have o4 := Classical.not_not.1 fun h => Bool.noConfusion (hbv.2 h)
      simp (maxSteps := 2000000) only [bitvec_to_nat, reduceIte, Nat.reduceEqDiff, Nat.reduceAdd, Nat.reduceLeDiff, reduceCtorEq, Nat.reduceBEq, Nat.reduceLT, Nat.reduceMod, fmc, retG_ret, retQ_eq, retQ_eqN, retOk, keepB, re_tupl, orr_t, t_within, t_isName, t_number, t_zoneAt, t_who, t_ContainsS, t_all, t_tubeOk, t_seen, t_near, r_held, int_toBitVec_meta, Own.row, Own_eta, Seen.row, Seen_eta, Part.row, Part_eta, Book.row, cB_held]
      refine ⟨by omega, ?_⟩
      refine hN2 (k + 1) _ (by simp only [u_E0, u_E1, u_M0, u_M1, w_setE0, w_setE1, w_setM0, w_setM1, reduceIte, Nat.reduceEqDiff]; exact ⟨by repeat' (first | exact trivial | refine ⟨.inr rfl, ?_⟩), by repeat' (first | exact trivial | refine ⟨rfl, ?_⟩), by first | rfl | simp [closedB, refsIn, refsInL, refsInO, dom, refsInL_nr, *], by first | rfl | simp [keepB, dom]⟩) ?_ ?_
      · exact ⟨by omega, all_snoc hk.2 o4⟩
      · omega
    · refine pc_impl_bookOk_5 t zs b (b.own.getD i default) i (whoOf zs (b.own.getD i default).nx) k (by omega) (by omega) fun bv hbv => ?_
      cases bv
      case true =>
        simp (maxSteps := 2000000) only [bitvec_to_nat, reduceIte, Nat.reduceEqDiff, Nat.reduceAdd, Nat.reduceLeDiff, reduceCtorEq, Nat.reduceBEq, Nat.reduceLT, Nat.reduceMod, fmc, retG_ret, retQ_eq, retQ_eqN, retOk, keepB, re_tupl, orr_t, t_within, t_isName, t_number, t_zoneAt, t_who, t_ContainsS, t_all, t_tubeOk, t_seen, t_near, r_held, int_toBitVec_meta, Own.row, Own_eta, Seen.row, Seen_eta, Part.row, Part_eta, Book.row, cB_held]
        exact fun hq => (hbv.1 rfl) (A hq).1.2.2.2.2
      have o5 := Classical.not_not.1 fun h => Bool.noConfusion (hbv.2 h)
      simp (maxSteps := 2000000) only [bitvec_to_nat, reduceIte, Nat.reduceEqDiff, Nat.reduceAdd, Nat.reduceLeDiff, reduceCtorEq, Nat.reduceBEq, Nat.reduceLT, Nat.reduceMod, fmc, retG_ret, retQ_eq, retQ_eqN, retOk, keepB, re_tupl, orr_t, t_within, t_isName, t_number, t_zoneAt, t_who, t_ContainsS, t_all, t_tubeOk, t_seen, t_near, r_held, int_toBitVec_meta, Own.row, Own_eta, Seen.row, Seen_eta, Part.row, Part_eta, Book.row, cB_held]
      refine ⟨by omega, ?_⟩
      refine hN (i + 1) _ (by simp only [u_E0, u_E1, u_M0, u_M1, w_setE0, w_setE1, w_setM0, w_setM1, reduceIte, Nat.reduceEqDiff]; exact ⟨by repeat' (first | exact trivial | refine ⟨.inr rfl, ?_⟩), by repeat' (first | exact trivial | refine ⟨rfl, ?_⟩), by first | rfl | simp [closedB, refsIn, refsInL, refsInO, dom, refsInL_nr, *], by first | rfl | simp [keepB, dom]⟩) ?_ ?_
      · exact ⟨by omega, all_snoc hi.2 ⟨⟨o1.1, ⟨o2.1, o2.2.1, o2.2.2, o3.1⟩, o3.2, fun j hj => hk.2 j (by omega), o5⟩, o1.2⟩⟩
      · omega
  -- those that were seen
  have own : ownsOk zs b.own := ⟨by omega, fun j hj => hi.2 j (by omega)⟩
  clear hN hi
  refine loop_st (fun i : Nat => [(211, .int .i64 i)]) (fun _ => []) (fun i => i ≤ b.seen.length ∧ ∀ j, j < i → seenAt b.seen j) (fun i => b.seen.length - i) (0) (by simp only [u_E0, u_E1, u_M0, u_M1, w_setE0, w_setE1, w_setM0, w_setM1, reduceIte, Nat.reduceEqDiff]; exact ⟨by repeat' (first | exact trivial | refine ⟨.inr rfl, ?_⟩), by repeat' (first | exact trivial | refine ⟨rfl, ?_⟩), by first | rfl | simp [closedB, refsIn, refsInL, refsInO, dom, refsInL_nr, *], by first | rfl | simp [keepB, dom]⟩) ?_ ?_
  · exact ⟨Nat.zero_le _, by intro j hj; omega⟩
  intro i hi NX hN
  unfold l_impl_bookOk_2; simp (maxSteps := 2000000) only [bitvec_to_nat, reduceIte, Nat.reduceEqDiff, Nat.reduceAdd, Nat.reduceLeDiff, reduceCtorEq, Nat.reduceBEq, Nat.reduceLT, Nat.reduceMod, fmc, retG_ret, retQ_eq, retQ_eqN, retOk, keepB, re_tupl, orr_t, t_within, t_isName, t_number, t_zoneAt, t_who, t_ContainsS, t_all, t_tubeOk, t_seen, t_near, r_held, int_toBitVec_meta, Own.row, Own_eta, Seen.row, Seen_eta, Part.row, Part_eta, Book.row, cB_held]
  refine ⟨fun g1 => ⟨by omega, by omega, ?_⟩, fun g1 => ?_⟩
  · refine pc_impl_bookOk_6 t zs b i (by omega) hb3 fun bv hbv => ?_
    cases bv
    case true =>
      simp (maxSteps := 2000000) only [bitvec_to_nat, reduceIte, Nat.reduceEqDiff, Nat.reduceAdd, Nat.reduceLeDiff, reduceCtorEq, Nat.reduceBEq, Nat.reduceLT, Nat.reduceMod, fmc, retG_ret, retQ_eq, retQ_eqN, retOk, keepB, re_tupl, orr_t, t_within, t_isName, t_number, t_zoneAt, t_who, t_ContainsS, t_all, t_tubeOk, t_seen, t_near, r_held, int_toBitVec_meta, Own.row, Own_eta, Seen.row, Seen_eta, Part.row, Part_eta, Book.row, cB_held]
      exact fun hq => (hbv.1 rfl) (hq.2.2.2 i (by omega))
    have o1 := Classical.not_not.1 fun h => Bool.noConfusion (hbv.2 h)
    simp (maxSteps := 2000000) only [bitvec_to_nat, reduceIte, Nat.reduceEqDiff, Nat.reduceAdd, Nat.reduceLeDiff, reduceCtorEq, Nat.reduceBEq, Nat.reduceLT, Nat.reduceMod, fmc, retG_ret, retQ_eq, retQ_eqN, retOk, keepB, re_tupl, orr_t, t_within, t_isName, t_number, t_zoneAt, t_who, t_ContainsS, t_all, t_tubeOk, t_seen, t_near, r_held, int_toBitVec_meta, Own.row, Own_eta, Seen.row, Seen_eta, Part.row, Part_eta, Book.row, cB_held]
    refine ⟨by omega, ?_⟩
    refine hN (i + 1) _ (by simp only [u_E0, u_E1, u_M0, u_M1, w_setE0, w_setE1, w_setM0, w_setM1, reduceIte, Nat.reduceEqDiff]; exact ⟨by repeat' (first | exact trivial | refine ⟨.inr rfl, ?_⟩), by repeat' (first | exact trivial | refine ⟨rfl, ?_⟩), by first | rfl | simp [closedB, refsIn, refsInL, refsInO, dom, refsInL_nr, *], by first | rfl | simp [keepB, dom]⟩) ?_ ?_
    · exact ⟨by omega, all_snoc hi.2 o1⟩
    · omega
  -- the parts
  have seen : seenOk b.seen := ⟨by omega, fun j hj => hi.2 j (by omega)⟩
  clear hN hi
  refine loop_st (fun i : Nat => [(246, .int .i64 i)]) (fun _ => []) (fun i => i ≤ b.parts.length ∧ ∀ j, j < i → partAt zs b j) (fun i => b.parts.length - i) (0) (by simp only [u_E0, u_E1, u_M0, u_M1, w_setE0, w_setE1, w_setM0, w_setM1, reduceIte, Nat.reduceEqDiff]; exact ⟨by repeat' (first | exact trivial | refine ⟨.inr rfl, ?_⟩), by repeat' (first | exact trivial | refine ⟨rfl, ?_⟩), by first | rfl | simp [closedB, refsIn, refsInL, refsInO, dom, refsInL_nr, *], by first | rfl | simp [keepB, dom]⟩) ?_ ?_
  · exact ⟨Nat.zero_le _, by intro j hj; omega⟩
  intro i hi NX hN
  unfold l_impl_bookOk_4; simp (maxSteps := 2000000) only [bitvec_to_nat, reduceIte, Nat.reduceEqDiff, Nat.reduceAdd, Nat.reduceLeDiff, reduceCtorEq, Nat.reduceBEq, Nat.reduceLT, Nat.reduceMod, fmc, retG_ret, retQ_eq, retQ_eqN, retOk, keepB, re_tupl, orr_t, t_within, t_isName, t_number, t_zoneAt, t_who, t_ContainsS, t_all, t_tubeOk, t_seen, t_near, r_held, int_toBitVec_meta, Own.row, Own_eta, Seen.row, Seen_eta, Part.row, Part_eta, Book.row, cB_held]
  refine ⟨fun g1 => ⟨by omega, by omega, ?_⟩, fun g1 => ?_⟩
  · have hs := Book.small_part hb (i := i) (by omega)
    have A : bookOk zs b → partAt zs b i := fun h => h.2.1.2 i (by omega)
    unfold partAt at A
    refine pc_impl_bookOk_7 t zs b (b.parts.getD i default) i hz hb3 hs fun bv hbv => ?_
    cases bv
    case true =>
      simp (maxSteps := 2000000) only [bitvec_to_nat, reduceIte, Nat.reduceEqDiff, Nat.reduceAdd, Nat.reduceLeDiff, reduceCtorEq, Nat.reduceBEq, Nat.reduceLT, Nat.reduceMod, fmc, retG_ret, retQ_eq, retQ_eqN, retOk, keepB, re_tupl, orr_t, t_within, t_isName, t_number, t_zoneAt, t_who, t_ContainsS, t_all, t_tubeOk, t_seen, t_near, r_held, int_toBitVec_meta, Own.row, Own_eta, Seen.row, Seen_eta, Part.row, Part_eta, Book.row, cB_held]
      exact fun hq => (hbv.1 rfl) ⟨(A hq).1, (A hq).2.1, (A hq).2.2.1⟩
    have o1 := Classical.not_not.1 fun h => Bool.noConfusion (hbv.2 h)
    simp (maxSteps := 2000000) only [bitvec_to_nat, reduceIte, Nat.reduceEqDiff, Nat.reduceAdd, Nat.reduceLeDiff, reduceCtorEq, Nat.reduceBEq, Nat.reduceLT, Nat.reduceMod, fmc, retG_ret, retQ_eq, retQ_eqN, retOk, keepB, re_tupl, orr_t, t_within, t_isName, t_number, t_zoneAt, t_who, t_ContainsS, t_all, t_tubeOk, t_seen, t_near, r_held, int_toBitVec_meta, Own.row, Own_eta, Seen.row, Seen_eta, Part.row, Part_eta, Book.row, cB_held]
    refine ⟨fun g3 => ⟨by omega, by omega, by omega, ?_⟩, fun g3 => ⟨by omega, ?_⟩⟩
    · refine pc_impl_bookOk_8 t zs b (b.parts.getD i default) (b.parts.getD (i - 1) default) i (slt_total _ _) slt_asymm (fun e h => slt_irrefl _ (e ▸ h)) fun bv hbv => ?_
      cases bv
      case true =>
        simp (maxSteps := 2000000) only [bitvec_to_nat, reduceIte, Nat.reduceEqDiff, Nat.reduceAdd, Nat.reduceLeDiff, reduceCtorEq, Nat.reduceBEq, Nat.reduceLT, Nat.reduceMod, fmc, retG_ret, retQ_eq, retQ_eqN, retOk, keepB, re_tupl, orr_t, t_within, t_isName, t_number, t_zoneAt, t_who, t_ContainsS, t_all, t_tubeOk, t_seen, t_near, r_held, int_toBitVec_meta, Own.row, Own_eta, Seen.row, Seen_eta, Part.row, Part_eta, Book.row, cB_held]
        exact fun hq => (hbv.1 rfl) ((A hq).2.2.2.1 (by omega))
      have o2' := Classical.not_not.1 fun h => Bool.noConfusion (hbv.2 h)
      have o2 : 0 < i → (b.parts.getD (i - 1) default).before (b.parts.getD i default) := fun _ => o2'
      simp (maxSteps := 2000000) only [bitvec_to_nat, reduceIte, Nat.reduceEqDiff, Nat.reduceAdd, Nat.reduceLeDiff, reduceCtorEq, Nat.reduceBEq, Nat.reduceLT, Nat.reduceMod, fmc, retG_ret, retQ_eq, retQ_eqN, retOk, keepB, re_tupl, orr_t, t_within, t_isName, t_number, t_zoneAt, t_who, t_ContainsS, t_all, t_tubeOk, t_seen, t_near, r_held, int_toBitVec_meta, Own.row, Own_eta, Seen.row, Seen_eta, Part.row, Part_eta, Book.row, cB_held]
      refine ⟨by omega, ?_⟩
      (refine loop_wk (st' := ⟨[(2, .ptr 102 0), (3, .ptr 103 0), (15, .ptr 115 0), (244, .sl 0 3 (b.parts.map (Part.row 0))), (245, .int .i64 b.parts.length), (246, .int .i64 i), (302, .sl 0 3 ((b.parts.take i).map (Part.row 0))), (303, .int .i64 (min i b.parts.length : Nat)), (304, .int .i64 0)], [(102, .box [.sl t 5 (zs.map Zone.row)]), (103, .box [.sl 0 11 (b.own.map (Own.row 0)), .sl 0 3 (b.parts.map (Part.row 0)), .sl 0 2 (b.seen.map Seen.row)]), (115, .box [.str (b.parts.getD i default).fl, .int .i64 (b.parts.getD i default).nr, .sl 0 6 ((b.parts.getD i default).bx.map Box6.row)])]⟩) (by (exact ⟨by repeat' (first | exact trivial | refine ⟨.inr rfl, ?_⟩), by repeat' (first | exact trivial | refine ⟨rfl, ?_⟩), by first | rfl | simp [closedB, refsIn, refsInL, refsInO, dom, refsInL_nr, *], by first | rfl | simp [keepB, dom]⟩)) ?_
       refine loop_st (fun k : Nat => [(304, .int .i64 k)]) (fun _ => []) (fun k => k ≤ i ∧ ∀ j, j < k → (b.parts.getD j default).fl ≠ (b.parts.getD i default).fl → ¬ nearT (b.parts.getD j default).bx (b.parts.getD i default).bx) (fun k => i - k) (0) (by simp only [u_E0, u_E1, u_M0, u_M1, w_setE0, w_setE1, w_setM0, w_setM1, reduceIte, Nat.reduceEqDiff]; exact ⟨by repeat' (first | exact trivial | refine ⟨.inr rfl, ?_⟩), by repeat' (first | exact trivial | refine ⟨rfl, ?_⟩), by first | rfl | simp [closedB, refsIn, refsInL, refsInO, dom, refsInL_nr, *], by first | rfl | simp [keepB, dom]⟩) ?_ ?_
       · exact ⟨Nat.zero_le _, by intro j hj; omega⟩
       intro k hk NX2 hN2
       unfold l_impl_bookOk_3; simp (maxSteps := 2000000) only [bitvec_to_nat, reduceIte, Nat.reduceEqDiff, Nat.reduceAdd, Nat.reduceLeDiff, reduceCtorEq, Nat.reduceBEq, Nat.reduceLT, Nat.reduceMod, fmc, retG_ret, retQ_eq, retQ_eqN, retOk, keepB, re_tupl, orr_t, t_within, t_isName, t_number, t_zoneAt, t_who, t_ContainsS, t_all, t_tubeOk, t_seen, t_near, r_held, int_toBitVec_meta, Own.row, Own_eta, Seen.row, Seen_eta, Part.row, Part_eta, Book.row, cB_held]
       refine ⟨fun g2 => ⟨by omega, by omega, ?_⟩, fun g2 => ?_⟩
       · have hk3 : k < i := by omega
         simp only [getD_take hk3]
         have hs2 := Book.small_part hb (i := k) (by omega)
         refine pc_impl_bookOk_9 t zs b (b.parts.getD i default) (b.parts.getD k default) i k hs2 hs fun bv hbv => ?_
         cases bv
         case true =>
           simp (maxSteps := 2000000) only [bitvec_to_nat, reduceIte, Nat.reduceEqDiff, Nat.reduceAdd, Nat.reduceLeDiff, reduceCtorEq, Nat.reduceBEq, Nat.reduceLT, Nat.reduceMod, fmc, retG_ret, retQ_eq, retQ_eqN, retOk, keepB, re_tupl, orr_t, t_within, t_isName, t_number, t_zoneAt, t_who, t_ContainsS, t_all, t_tubeOk, t_seen, t_near, r_held, int_toBitVec_meta, Own.row, Own_eta, Seen.row, Seen_eta, Part.row, Part_eta, Book.row, cB_held]
           exact fun hq => (A hq).2.2.2.2 k hk3 (hbv.1 rfl).1 (hbv.1 rfl).2
         have o3 : ¬ ((b.parts.getD k default).fl ≠ (b.parts.getD i default).fl ∧ nearT (b.parts.getD k default).bx (b.parts.getD i default).bx) := by simpa using hbv
         simp (maxSteps := 2000000) only [bitvec_to_nat, reduceIte, Nat.reduceEqDiff, Nat.reduceAdd, Nat.reduceLeDiff, reduceCtorEq, Nat.reduceBEq, Nat.reduceLT, Nat.reduceMod, fmc, retG_ret, retQ_eq, retQ_eqN, retOk, keepB, re_tupl, orr_t, t_within, t_isName, t_number, t_zoneAt, t_who, t_ContainsS, t_all, t_tubeOk, t_seen, t_near, r_held, int_toBitVec_meta, Own.row, Own_eta, Seen.row, Seen_eta, Part.row, Part_eta, Book.row, cB_held]
         refine ⟨by omega, ?_⟩
         refine hN2 (k + 1) _ (by simp only [u_E0, u_E1, u_M0, u_M1, w_setE0, w_setE1, w_setM0, w_setM1, reduceIte, Nat.reduceEqDiff]; exact ⟨by repeat' (first | exact trivial | refine ⟨.inr rfl, ?_⟩), by repeat' (first | exact trivial | refine ⟨rfl, ?_⟩), by first | rfl | simp [closedB, refsIn, refsInL, refsInO, dom, refsInL_nr, *], by first | rfl | simp [keepB, dom]⟩) ?_ ?_
         · exact ⟨by omega, all_snoc hk.2 fun h1 h2 => o3 ⟨h1, h2⟩⟩
         · omega
       · refine ⟨by omega, ?_⟩
         refine hN (i + 1) _ (by simp only [u_E0, u_E1, u_M0, u_M1, w_setE0, w_setE1, w_setM0, w_setM1, reduceIte, Nat.reduceEqDiff]; exact ⟨by repeat' (first | exact trivial | refine ⟨.inr rfl, ?_⟩), by repeat' (first | exact trivial | refine ⟨rfl, ?_⟩), by first | rfl | simp [closedB, refsIn, refsInL, refsInO, dom, refsInL_nr, *], by first | rfl | simp [keepB, dom]⟩) ?_ ?_
         · exact ⟨by omega, all_snoc hi.2 ⟨o1.1, o1.2.1, o1.2.2, o2, fun k' h1 => hk.2 k' (by omega)⟩⟩
         · omega)
    · have o2 : 0 < i → (b.parts.getD (i - 1) default).before (b.parts.getD i default) := fun h => absurd h (by omega)
      (refine loop_wk (st' := ⟨[(2, .ptr 102 0), (3, .ptr 103 0), (15, .ptr 115 0), (244, .sl 0 3 (b.parts.map (Part.row 0))), (245, .int .i64 b.parts.length), (246, .int .i64 i), (302, .sl 0 3 ((b.parts.take i).map (Part.row 0))), (303, .int .i64 (min i b.parts.length : Nat)), (304, .int .i64 0)], [(102, .box [.sl t 5 (zs.map Zone.row)]), (103, .box [.sl 0 11 (b.own.map (Own.row 0)), .sl 0 3 (b.parts.map (Part.row 0)), .sl 0 2 (b.seen.map Seen.row)]), (115, .box [.str (b.parts.getD i default).fl, .int .i64 (b.parts.getD i default).nr, .sl 0 6 ((b.parts.getD i default).bx.map Box6.row)])]⟩) (by (exact ⟨by repeat' (first | exact trivial | refine ⟨.inr rfl, ?_⟩), by repeat' (first | exact trivial | refine ⟨rfl, ?_⟩), by first | rfl | simp [closedB, refsIn, refsInL, refsInO, dom, refsInL_nr, *], by first | rfl | simp [keepB, dom]⟩)) ?_
       refine loop_st (fun k : Nat => [(304, .int .i64 k)]) (fun _ => []) (fun k => k ≤ i ∧ ∀ j, j < k → (b.parts.getD j default).fl ≠ (b.parts.getD i default).fl → ¬ nearT (b.parts.getD j default).bx (b.parts.getD i default).bx) (fun k => i - k) (0) (by simp only [u_E0, u_E1, u_M0, u_M1, w_setE0, w_setE1, w_setM0, w_setM1, reduceIte, Nat.reduceEqDiff]; exact ⟨by repeat' (first | exact trivial | refine ⟨.inr rfl, ?_⟩), by repeat' (first | exact trivial | refine ⟨rfl, ?_⟩), by first | rfl | simp [closedB, refsIn, refsInL, refsInO, dom, refsInL_nr, *], by first | rfl | simp [keepB, dom]⟩) ?_ ?_
       · exact ⟨Nat.zero_le _, by intro j hj; omega⟩
       intro k hk NX2 hN2
       unfold l_impl_bookOk_3; simp (maxSteps := 2000000) only [bitvec_to_nat, reduceIte, Nat.reduceEqDiff, Nat.reduceAdd, Nat.reduceLeDiff, reduceCtorEq, Nat.reduceBEq, Nat.reduceLT, Nat.reduceMod, fmc, retG_ret, retQ_eq, retQ_eqN, retOk, keepB, re_tupl, orr_t, t_within, t_isName, t_number, t_zoneAt, t_who, t_ContainsS, t_all, t_tubeOk, t_seen, t_near, r_held, int_toBitVec_meta, Own.row, Own_eta, Seen.row, Seen_eta, Part.row, Part_eta, Book.row, cB_held]
       refine ⟨fun g2 => ⟨by omega, by omega, ?_⟩, fun g2 => ?_⟩
       · have hk3 : k < i := by omega
         simp only [getD_take hk3]
         have hs2 := Book.small_part hb (i := k) (by omega)
         refine pc_impl_bookOk_9 t zs b (b.parts.getD i default) (b.parts.getD k default) i k hs2 hs fun bv hbv => ?_
         cases bv
         case true =>
           simp (maxSteps := 2000000) only [bitvec_to_nat, reduceIte, Nat.reduceEqDiff, Nat.reduceAdd, Nat.reduceLeDiff, reduceCtorEq, Nat.reduceBEq, Nat.reduceLT, Nat.reduceMod, fmc, retG_ret, retQ_eq, retQ_eqN, retOk, keepB, re_tupl, orr_t, t_within, t_isName, t_number, t_zoneAt, t_who, t_ContainsS, t_all, t_tubeOk, t_seen, t_near, r_held, int_toBitVec_meta, Own.row, Own_eta, Seen.row, Seen_eta, Part.row, Part_eta, Book.row, cB_held]
           exact fun hq => (A hq).2.2.2.2 k hk3 (hbv.1 rfl).1 (hbv.1 rfl).2
         have o3 : ¬ ((b.parts.getD k default).fl ≠ (b.parts.getD i default).fl ∧ nearT (b.parts.getD k default).bx (b.parts.getD i default).bx) := by simpa using hbv
         simp (maxSteps := 2000000) only [bitvec_to_nat, reduceIte, Nat.reduceEqDiff, Nat.reduceAdd, Nat.reduceLeDiff, reduceCtorEq, Nat.reduceBEq, Nat.reduceLT, Nat.reduceMod, fmc, retG_ret, retQ_eq, retQ_eqN, retOk, keepB, re_tupl, orr_t, t_within, t_isName, t_number, t_zoneAt, t_who, t_ContainsS, t_all, t_tubeOk, t_seen, t_near, r_held, int_toBitVec_meta, Own.row, Own_eta, Seen.row, Seen_eta, Part.row, Part_eta, Book.row, cB_held]
         refine ⟨by omega, ?_⟩
         refine hN2 (k + 1) _ (by simp only [u_E0, u_E1, u_M0, u_M1, w_setE0, w_setE1, w_setM0, w_setM1, reduceIte, Nat.reduceEqDiff]; exact ⟨by repeat' (first | exact trivial | refine ⟨.inr rfl, ?_⟩), by repeat' (first | exact trivial | refine ⟨rfl, ?_⟩), by first | rfl | simp [closedB, refsIn, refsInL, refsInO, dom, refsInL_nr, *], by first | rfl | simp [keepB, dom]⟩) ?_ ?_
         · exact ⟨by omega, all_snoc hk.2 fun h1 h2 => o3 ⟨h1, h2⟩⟩
         · omega
       · refine ⟨by omega, ?_⟩
         refine hN (i + 1) _ (by simp only [u_E0, u_E1, u_M0, u_M1, w_setE0, w_setE1, w_setM0, w_setM1, reduceIte, Nat.reduceEqDiff]; exact ⟨by repeat' (first | exact trivial | refine ⟨.inr rfl, ?_⟩), by repeat' (first | exact trivial | refine ⟨rfl, ?_⟩), by first | rfl | simp [closedB, refsIn, refsInL, refsInO, dom, refsInL_nr, *], by first | rfl | simp [keepB, dom]⟩) ?_ ?_
         · exact ⟨by omega, all_snoc hi.2 ⟨o1.1, o1.2.1, o1.2.2, o2, fun k' h1 => hk.2 k' (by omega)⟩⟩
         · omega)
  · exact ⟨own, ⟨by omega, fun j hj => hi.2 j (by omega)⟩, seen⟩
end
end Go.Ve

namespace Go.Ve
noncomputable section
open Go.Proofs
set_option maxRecDepth 100000
theorem pw_next {α : Type} [Inhabited α] {R : α → α → Prop} (tr : ∀ a b c, R a b → R b c → R a c) {l : List α} (h : ∀ i, 0 < i → i < l.length → R (l.getD (i - 1) default) (l.getD i default)) : l.Pairwise R := by
  have key : ∀ j i, i < j → j < l.length → R (l.getD i default) (l.getD j default) := by
    intro j
    induction j with
    | zero => intro i h1; omega
    | succ j ih =>
      intro i h1 h2
      have h3 := h (j + 1) (by omega) h2
      simp only [Nat.add_sub_cancel] at h3
      by_cases e : i = j
      · subst e; exact h3
      · exact tr _ _ _ (ih i (by omega) (by omega)) h3
  rw [List.pairwise_iff_getElem]
  intro i j hi hj hij
  have := key j i hij hj
  simpa [hi, hj] using this
theorem nd_len : ∀ {a b : List ByteArray}, a.Pairwise (· ≠ ·) → (∀ x ∈ a, x ∈ b) → a.length ≤ b.length
  | [], _, _, _ => Nat.zero_le _
  | x :: a, b, ha, h => by
    obtain ⟨h1, h2⟩ := List.pairwise_cons.1 ha
    have ih := nd_len (b := b.filter fun y => decide (¬ y = x)) h2 fun y hy => by
      rw [List.mem_filter]
      exact ⟨h y (by simp [hy]), by simpa using (h1 y hy).symm⟩
    have hx : x ∈ b := h x (by simp)
    have : (b.filter fun y => decide (¬ y = x)).length < b.length := by
      refine List.length_filter_lt_length_iff_exists.2 ⟨x, hx, by simp⟩
    simp only [List.length_cons]; omega
theorem gr_nd {wh gr : List ByteArray} (h : ∀ i, i < gr.length → grAt wh gr i) : gr.Pairwise (· ≠ ·) :=
  (pw_next (R := slt) (fun _ _ _ => slt_trans) fun i h0 hi => (h i hi).2 h0).imp fun {a b} (h : slt a b) (e : a = b) => by subst e; exact slt_irrefl _ h
theorem zone_pw {zs : List Zone} (h : zonesOk zs) : zs.Pairwise fun a b => slt a.nm b.nm :=
  pw_next (R := fun a b : Zone => slt a.nm b.nm) (fun _ _ _ => slt_trans) fun i h0 hi => (h.2 i hi).2.1 h0
theorem who_nd {zs : List Zone} (h : zonesOk zs) (tu : List Box6) : (whoOf zs tu).Pairwise (· ≠ ·) := by
  unfold whoOf
  rw [List.pairwise_map]
  exact ((zone_pw h).filter _).imp fun {a b} (h : slt a.nm b.nm) (e : a.nm = b.nm) => by rw [e] at h; exact slt_irrefl _ h
theorem gr_mem {wh gr : List ByteArray} (h : ∀ i, i < gr.length → grAt wh gr i) : ∀ x ∈ gr, x ∈ wh := by
  intro x hx
  obtain ⟨i, hi, rfl⟩ := List.mem_iff_getElem.1 hx
  have := (h i hi).1
  simpa [hi] using this
theorem allIn_iff {gr wh : List ByteArray} : allIn gr wh ↔ ∀ x ∈ wh, x ∈ gr := by
  unfold allIn
  constructor
  · intro h x hx
    obtain ⟨i, hi, rfl⟩ := List.mem_iff_getElem.1 hx
    have := h i hi
    simpa [hi] using this
  · intro h i hi
    exact h _ (by simp [hi])
theorem gr_len {wh gr : List ByteArray} (hw : wh.Pairwise (· ≠ ·)) (h : ∀ i, i < gr.length → grAt wh gr i) : gr.length = wh.length ↔ allIn gr wh := by
  have h1 := nd_len (gr_nd h) (gr_mem h)
  rw [allIn_iff]
  constructor
  · intro e x hx
    refine Classical.byContradiction fun hn => ?_
    have := nd_len (a := x :: gr) (b := wh) (List.pairwise_cons.2 ⟨fun y hy e => hn (e ▸ hy), gr_nd h⟩) (fun y hy => by
      rcases List.mem_cons.1 hy with rfl | hy
      · exact hx
      · exact gr_mem h y hy)
    simp only [List.length_cons] at this; omega
  · intro k
    have := nd_len hw k
    omega
instance (zs : List Zone) (o : Own) : Decidable (ownOk4 zs o) := Classical.propDecidable _
theorem c_sHeld (t t' : Nat) (zs : List Zone) (n : Int) (tu : List Box6) (hq : zonesOk zs) (hz : zs.length ≤ 4611686018427387904) (hl : tu.length ≤ 4611686018427387904) : Contract P 134 [.sl t 5 (zs.map Zone.row), .int .i64 n, .sl t' 6 (tu.map Box6.row)] [] (.bool (decide (heldOk zs n tu))) [] := by
  refine fn_sound ((Env.nil P).add 65 t_sTubeOk h_sTubeOk) hm k_spec_l33TubeOk (nlb rfl) rfl ?_; unfold s_spec_l33TubeOk; simp (maxSteps := 2000000) only [bitvec_to_nat, reduceIte, Nat.reduceEqDiff, Nat.reduceAdd, Nat.reduceLeDiff, reduceCtorEq, Nat.reduceBEq, Nat.reduceLT, Nat.reduceMod, fmc, t_sTubeOk, int_toBitVec_meta, Own.row, Own_eta, Seen.row, Seen_eta, Part.row, Part_eta, Book.row]
  refine ⟨fun h => ?_, fun h => ⟨⟨hz, hl⟩, ?_⟩⟩
  · rw [decide_eq_decide]; unfold heldOk; constructor
    · intro h2; exact ⟨fun _ => by omega, fun h3 => absurd h h3⟩
    · intro h2; have := h2.1 h; omega
  · rw [decide_eq_decide]; unfold heldOk; grind
def t_sHeld : List AV → Option (Prop × AV)
  | [.sl zst 5 zsx, .int .i64 n, .sl tut 6 tux] => some ((((zsx.map unZone).map Zone.row = zsx) ∧ ((tux.map unBox).map Box6.row = tux)) ∧ (zonesOk (zsx.map unZone) ∧ (zsx.map unZone).length ≤ 4611686018427387904 ∧ (tux.map unBox).length ≤ 4611686018427387904), .bool (decide (heldOk (zsx.map unZone) n (tux.map unBox))))
  | _ => none
theorem h_sHeld : ∀ args p v, t_sHeld args = some (p, v) → p → Contract P 134 args [] v [] ∧ noref v = true ∧ No99 v := by
  intro args p v h1 h2
  unfold t_sHeld at h1
  split at h1
  · rename_i zst zsx n tut tux
    cases h1
    obtain ⟨⟨e0, e1⟩, HP⟩ := h2
    have := c_sHeld zst tut (zsx.map unZone) n (tux.map unBox) HP.1 HP.2.1 HP.2.2
    exact ⟨by simpa only [e0, e1] using this, rfl, trivial⟩
  · cases h1
set_option maxHeartbeats 400000 in
theorem pc_spec_l33GrantedOk_0 (o : Own) (wh : List ByteArray) (i k : Nat) (c : Bool) {w23 : AV} {Q : XT → St → Prop} (hi : i < o.gr.length) (hk : k < wh.length) (hQ : ∀ bv : Bool, (bv = true ↔ (c = true ∨ wh.getD k default = o.gr.getD i default)) → Q .normal ⟨[(3, .ptr 103 0), (5, .sl 0 1 (wh.map srow)), (6, .int .i64 i), (7, .bool bv), (8, .int .i64 k)], [(103, .box [.str o.fl, .int .i64 o.st, .int .i64 o.tn, .str o.dst, .int .i64 o.la, .int .i64 o.nr, .sl 0 6 (o.tu.map Box6.row), .int .i64 o.wi, .sl 0 6 (o.nx.map Box6.row), .sl 0 1 (o.gr.map srow), .bool o.sent])]⟩) : SCode.wp ((Env.nil P).add 81 t_sWho h_sWho) p_spec_l33GrantedOk_0 Q ⟨[(3, .ptr 103 0), (5, .sl 0 1 (wh.map srow)), (6, .int .i64 i), (7, .bool c), (8, .int .i64 k), (23, w23)], [(103, .box [.str o.fl, .int .i64 o.st, .int .i64 o.tn, .str o.dst, .int .i64 o.la, .int .i64 o.nr, .sl 0 6 (o.tu.map Box6.row), .int .i64 o.wi, .sl 0 6 (o.nx.map Box6.row), .sl 0 1 (o.gr.map srow), .bool o.sent])]⟩ := by
  cases c
  all_goals (unfold p_spec_l33GrantedOk_0; simp (maxSteps := 2000000) only [bitvec_to_nat, reduceIte, Nat.reduceEqDiff, Nat.reduceAdd, Nat.reduceLeDiff, reduceCtorEq, Nat.reduceBEq, Nat.reduceLT, Nat.reduceMod, fmc, t_sWho, int_toBitVec_meta, Own.row, Own_eta, Seen.row, Seen_eta, Part.row, Part_eta, Book.row])
  repeat' (first | with_reducible apply And.intro | with_reducible intro _)
  all_goals first
    | omega
    | (refine hQ _ ?_
       first
         | grind []
         | (simp; grind []))
    | grind []
set_option maxHeartbeats 400000 in
theorem pc_spec_l33GrantedOk_1 (o : Own) (wh : List ByteArray) (i k : Nat) (c : Bool) {w23 : AV} {Q : XT → St → Prop} (hi : i < o.gr.length) (hl : o.gr.length ≤ 1048576) (hQ : ∀ bv : Bool, (bv = true ↔ ¬ (c = true ∧ (0 < i → slt (o.gr.getD (i - 1) default) (o.gr.getD i default)))) → Q .normal ⟨[(3, .ptr 103 0), (5, .sl 0 1 (wh.map srow)), (6, .int .i64 i), (58, .bool bv)], [(103, .box [.str o.fl, .int .i64 o.st, .int .i64 o.tn, .str o.dst, .int .i64 o.la, .int .i64 o.nr, .sl 0 6 (o.tu.map Box6.row), .int .i64 o.wi, .sl 0 6 (o.nx.map Box6.row), .sl 0 1 (o.gr.map srow), .bool o.sent])]⟩) : SCode.wp ((Env.nil P).add 81 t_sWho h_sWho) p_spec_l33GrantedOk_1 Q ⟨[(3, .ptr 103 0), (5, .sl 0 1 (wh.map srow)), (6, .int .i64 i), (7, .bool c), (8, .int .i64 k), (23, w23)], [(103, .box [.str o.fl, .int .i64 o.st, .int .i64 o.tn, .str o.dst, .int .i64 o.la, .int .i64 o.nr, .sl 0 6 (o.tu.map Box6.row), .int .i64 o.wi, .sl 0 6 (o.nx.map Box6.row), .sl 0 1 (o.gr.map srow), .bool o.sent])]⟩ := by
  cases c
  all_goals (unfold p_spec_l33GrantedOk_1; simp (maxSteps := 2000000) only [bitvec_to_nat, reduceIte, Nat.reduceEqDiff, Nat.reduceAdd, Nat.reduceLeDiff, reduceCtorEq, Nat.reduceBEq, Nat.reduceLT, Nat.reduceMod, fmc, t_sWho, int_toBitVec_meta, Own.row, Own_eta, Seen.row, Seen_eta, Part.row, Part_eta, Book.row])
  repeat' (first | with_reducible apply And.intro | with_reducible intro _)
  all_goals first
    | omega
    | (refine hQ _ ?_
       first
         | grind []
         | (simp; grind []))
    | grind []
set_option maxHeartbeats 400000 in
theorem pc_spec_l33GrantedOk_2 (o : Own) (wh : List ByteArray) (i k : Nat) (c : Bool) {w17 : AV} {Q : XT → St → Prop}  (hQ : ∀ bv : Bool, (bv = true ↔ (o.sent = true ↔ 0 < o.wi ∧ o.gr.length = wh.length)) → Q .normal ⟨[(4, .bool bv)], [(103, .box [.str o.fl, .int .i64 o.st, .int .i64 o.tn, .str o.dst, .int .i64 o.la, .int .i64 o.nr, .sl 0 6 (o.tu.map Box6.row), .int .i64 o.wi, .sl 0 6 (o.nx.map Box6.row), .sl 0 1 (o.gr.map srow), .bool o.sent])]⟩) : SCode.wp ((Env.nil P).add 81 t_sWho h_sWho) p_spec_l33GrantedOk_2 Q ⟨[(3, .ptr 103 0), (5, .sl 0 1 (wh.map srow)), (6, .int .i64 i), (17, w17)], [(103, .box [.str o.fl, .int .i64 o.st, .int .i64 o.tn, .str o.dst, .int .i64 o.la, .int .i64 o.nr, .sl 0 6 (o.tu.map Box6.row), .int .i64 o.wi, .sl 0 6 (o.nx.map Box6.row), .sl 0 1 (o.gr.map srow), .bool o.sent])]⟩ := by
  all_goals (unfold p_spec_l33GrantedOk_2; simp (maxSteps := 2000000) only [bitvec_to_nat, reduceIte, Nat.reduceEqDiff, Nat.reduceAdd, Nat.reduceLeDiff, reduceCtorEq, Nat.reduceBEq, Nat.reduceLT, Nat.reduceMod, fmc, t_sWho, int_toBitVec_meta, Own.row, Own_eta, Seen.row, Seen_eta, Part.row, Part_eta, Book.row])
  repeat' (first | with_reducible apply And.intro | with_reducible intro _)
  all_goals first
    | omega
    | (refine hQ _ ?_
       first
         | grind []
         | (simp; grind []))
    | grind []
theorem c_sGranted (t : Nat) (zs : List Zone) (o : Own) (hq : zonesOk zs) (ho : o.small) (hz : zs.length ≤ 4294967295) : Contract P 135 [.sl t 5 (zs.map Zone.row), .agg (o.row 0)] [] (.bool (decide (ownOk4 zs o))) [] := by
  unfold Own.small at ho
  have hw := who_len zs o.nx
  simp only [Own.row]
  refine fn_sound ((Env.nil P).add 81 t_sWho h_sWho) hm k_spec_l33GrantedOk (nlb rfl) rfl ?_; unfold s_spec_l33GrantedOk; simp (maxSteps := 2000000) only [bitvec_to_nat, reduceIte, Nat.reduceEqDiff, Nat.reduceAdd, Nat.reduceLeDiff, reduceCtorEq, Nat.reduceBEq, Nat.reduceLT, Nat.reduceMod, fmc, t_sWho, int_toBitVec_meta, Own.row, Own_eta, Seen.row, Seen_eta, Part.row, Part_eta, Book.row]
  refine ⟨⟨hz, by omega⟩, ?_⟩
  refine loop_st (fun i : Nat => [(6, .int .i64 i)]) (fun _ => []) (fun i => i ≤ o.gr.length ∧ ∀ j, j < i → grAt (whoOf zs o.nx) o.gr j) (fun i => o.gr.length - i) (0) (by simp only [u_E0, u_E1, u_M0, u_M1, w_setE0, w_setE1, w_setM0, w_setM1, reduceIte, Nat.reduceEqDiff]; exact ⟨by repeat' (first | exact trivial | refine ⟨.inr rfl, ?_⟩), by repeat' (first | exact trivial | refine ⟨rfl, ?_⟩), by first | rfl | simp [closedB, refsIn, refsInL, refsInO, dom, refsInL_nr, *], by first | rfl | simp [keepB, dom]⟩) ?_ ?_
  · exact ⟨Nat.zero_le _, by intro j hj; omega⟩
  intro i hi NX hN
  unfold l_spec_l33GrantedOk_1; simp (maxSteps := 2000000) only [bitvec_to_nat, reduceIte, Nat.reduceEqDiff, Nat.reduceAdd, Nat.reduceLeDiff, reduceCtorEq, Nat.reduceBEq, Nat.reduceLT, Nat.reduceMod, fmc, t_sWho, int_toBitVec_meta, Own.row, Own_eta, Seen.row, Seen_eta, Part.row, Part_eta, Book.row]
  refine ⟨fun g1 => ?_, fun g1 => ?_⟩
  · refine loop_st (fun a : Nat × Bool => [(7, .bool a.2), (8, .int .i64 a.1)]) (fun _ => []) (fun a => a.1 ≤ (whoOf zs o.nx).length ∧ (a.2 = true ↔ ∃ k, k < a.1 ∧ (whoOf zs o.nx).getD k default = o.gr.getD i default)) (fun a => (whoOf zs o.nx).length - a.1) ((0, false)) (by simp only [u_E0, u_E1, u_M0, u_M1, w_setE0, w_setE1, w_setM0, w_setM1, reduceIte, Nat.reduceEqDiff]; exact ⟨by repeat' (first | exact trivial | refine ⟨.inr rfl, ?_⟩), by repeat' (first | exact trivial | refine ⟨rfl, ?_⟩), by first | rfl | simp [closedB, refsIn, refsInL, refsInO, dom, refsInL_nr, *], by first | rfl | simp [keepB, dom]⟩) ?_ ?_
    · exact ⟨Nat.zero_le _, by simp⟩
    rintro ⟨k, c⟩ hk NX2 hN2
    unfold l_spec_l33GrantedOk_0; simp (maxSteps := 2000000) only [bitvec_to_nat, reduceIte, Nat.reduceEqDiff, Nat.reduceAdd, Nat.reduceLeDiff, reduceCtorEq, Nat.reduceBEq, Nat.reduceLT, Nat.reduceMod, fmc, t_sWho, int_toBitVec_meta, Own.row, Own_eta, Seen.row, Seen_eta, Part.row, Part_eta, Book.row]
    simp only at hk
    refine ⟨fun g2 => ?_, fun g2 => ?_⟩
    · refine pc_spec_l33GrantedOk_0 o (whoOf zs o.nx) i k c (by omega) (by omega) fun bv hbv => ?_
      simp (maxSteps := 2000000) only [bitvec_to_nat, reduceIte, Nat.reduceEqDiff, Nat.reduceAdd, Nat.reduceLeDiff, reduceCtorEq, Nat.reduceBEq, Nat.reduceLT, Nat.reduceMod, fmc, t_sWho, int_toBitVec_meta, Own.row, Own_eta, Seen.row, Seen_eta, Part.row, Part_eta, Book.row]
      refine ⟨by omega, ?_⟩
      refine hN2 ((k + 1, bv)) _ (by simp only [u_E0, u_E1, u_M0, u_M1, w_setE0, w_setE1, w_setM0, w_setM1, reduceIte, Nat.reduceEqDiff]; exact ⟨by repeat' (first | exact trivial | refine ⟨.inr rfl, ?_⟩), by repeat' (first | exact trivial | refine ⟨rfl, ?_⟩), by first | rfl | simp [closedB, refsIn, refsInL, refsInO, dom, refsInL_nr, *], by first | rfl | simp [keepB, dom]⟩) ?_ ?_
      · refine ⟨by simp only; omega, ?_⟩
        rw [hbv, hk.2]
        constructor
        · rintro (⟨j, h1, h2⟩ | h)
          · exact ⟨j, by simp only; omega, h2⟩
          · exact ⟨k, by simp only; omega, h⟩
        · rintro ⟨j, h1, h2⟩
          simp only at h1
          by_cases e : j = k
          · subst e; exact .inr h2
          · exact .inl ⟨j, by omega, h2⟩
      · simp only; omega
    · have hc : c = true ↔ o.gr.getD i default ∈ whoOf zs o.nx := by
        rw [hk.2]
        constructor
        · rintro ⟨j, h1, h2⟩
          rw [← h2]
          have h3 : j < (whoOf zs o.nx).length := by omega
          rw [List.getD_eq_getElem?_getD, List.getElem?_eq_getElem h3]; simp
        · intro h
          obtain ⟨j, h1, h2⟩ := List.mem_iff_getElem.1 h
          exact ⟨j, by omega, by simp [h1, h2]⟩
      refine pc_spec_l33GrantedOk_1 o (whoOf zs o.nx) i k c (by omega) (by omega) fun bv hbv => ?_
      rw [hc] at hbv
      cases bv
      case true =>
        simp (maxSteps := 2000000) only [bitvec_to_nat, reduceIte, Nat.reduceEqDiff, Nat.reduceAdd, Nat.reduceLeDiff, reduceCtorEq, Nat.reduceBEq, Nat.reduceLT, Nat.reduceMod, fmc, t_sWho, int_toBitVec_meta, Own.row, Own_eta, Seen.row, Seen_eta, Part.row, Part_eta, Book.row]
        exact fun hq => (hbv.1 rfl) (hq.1 i (by omega))
      have o1 : grAt (whoOf zs o.nx) o.gr i := Classical.not_not.1 fun h => Bool.noConfusion (hbv.2 h)
      simp (maxSteps := 2000000) only [bitvec_to_nat, reduceIte, Nat.reduceEqDiff, Nat.reduceAdd, Nat.reduceLeDiff, reduceCtorEq, Nat.reduceBEq, Nat.reduceLT, Nat.reduceMod, fmc, t_sWho, int_toBitVec_meta, Own.row, Own_eta, Seen.row, Seen_eta, Part.row, Part_eta, Book.row]
      refine ⟨by omega, ?_⟩
      refine hN (i + 1) _ (by simp only [u_E0, u_E1, u_M0, u_M1, w_setE0, w_setE1, w_setM0, w_setM1, reduceIte, Nat.reduceEqDiff]; exact ⟨by repeat' (first | exact trivial | refine ⟨.inr rfl, ?_⟩), by repeat' (first | exact trivial | refine ⟨rfl, ?_⟩), by first | rfl | simp [closedB, refsIn, refsInL, refsInO, dom, refsInL_nr, *], by first | rfl | simp [keepB, dom]⟩) ?_ ?_
      · exact ⟨by omega, all_snoc hi.2 o1⟩
      · omega
  · have hall : ∀ j, j < o.gr.length → grAt (whoOf zs o.nx) o.gr j := fun j hj => hi.2 j (by omega)
    refine pc_spec_l33GrantedOk_2 o (whoOf zs o.nx) i 0 false fun bv hbv => ?_
    rw [gr_len (who_nd hq o.nx) hall] at hbv
    simp (maxSteps := 2000000) only [bitvec_to_nat, reduceIte, Nat.reduceEqDiff, Nat.reduceAdd, Nat.reduceLeDiff, reduceCtorEq, Nat.reduceBEq, Nat.reduceLT, Nat.reduceMod, fmc, t_sWho, int_toBitVec_meta, Own.row, Own_eta, Seen.row, Seen_eta, Part.row, Part_eta, Book.row]
    have : (ownOk4 zs o ↔ bv = true) := by
      rw [hbv]; unfold ownOk4
      exact ⟨fun h => h.2, fun h => ⟨hall, h⟩⟩
    simp [this]
def t_sGranted : List AV → Option (Prop × AV)
  | [.sl zst 5 zsx, .agg [.str o_fl, .int .i64 o_st, .int .i64 o_tn, .str o_dst, .int .i64 o_la, .int .i64 o_nr, .sl 0 6 o_tu, .int .i64 o_wi, .sl 0 6 o_nx, .sl 0 1 o_gr, .bool o_sent]] => some ((((zsx.map unZone).map Zone.row = zsx) ∧ ((o_tu.map unBox).map Box6.row = o_tu) ∧ ((o_nx.map unBox).map Box6.row = o_nx) ∧ ((o_gr.map unS).map srow = o_gr)) ∧ (zonesOk (zsx.map unZone) ∧ Own.small (Own.mk o_fl o_st o_tn o_dst o_la o_nr (o_tu.map unBox) o_wi (o_nx.map unBox) (o_gr.map unS) o_sent) ∧ (zsx.map unZone).length ≤ 4294967295), .bool (decide (ownOk4 (zsx.map unZone) (Own.mk o_fl o_st o_tn o_dst o_la o_nr (o_tu.map unBox) o_wi (o_nx.map unBox) (o_gr.map unS) o_sent))))
  | _ => none
theorem h_sGranted : ∀ args p v, t_sGranted args = some (p, v) → p → Contract P 135 args [] v [] ∧ noref v = true ∧ No99 v := by
  intro args p v h1 h2
  unfold t_sGranted at h1
  split at h1
  · rename_i zst zsx o_fl o_st o_tn o_dst o_la o_nr o_tu o_wi o_nx o_gr o_sent
    cases h1
    obtain ⟨⟨e0, e1, e2, e3⟩, HP⟩ := h2
    have := c_sGranted zst (zsx.map unZone) (Own.mk o_fl o_st o_tn o_dst o_la o_nr (o_tu.map unBox) o_wi (o_nx.map unBox) (o_gr.map unS) o_sent) HP.1 HP.2.1 HP.2.2
    exact ⟨by simpa only [e0, e1, e2, e3, Own.row] using this, rfl, trivial⟩
  · cases h1
end
end Go.Ve

namespace Go.Ve
noncomputable section
open Go.Proofs
set_option maxRecDepth 100000
set_option maxHeartbeats 400000 in
theorem pc_spec_l33OwnOk_0 (t : Nat) (zs : List Zone) (o : Own) {Q : XT → St → Prop}  (hQ : ∀ bv : Bool, (bv = true ↔ ¬ ownOk1 zs o) → Q .normal ⟨[(0, .sl t 5 (zs.map Zone.row)), (3, .ptr 103 0), (54, .bool bv)], [(103, .box [.str o.fl, .int .i64 o.st, .int .i64 o.tn, .str o.dst, .int .i64 o.la, .int .i64 o.nr, .sl 0 6 (o.tu.map Box6.row), .int .i64 o.wi, .sl 0 6 (o.nx.map Box6.row), .sl 0 1 (o.gr.map srow), .bool o.sent])]⟩) : SCode.wp ((((((Env.nil P).add 70 t_l31NameOk h_l31NameOk).add 80 t_l31In h_l31In).add 36 t_sZoneAt h_sZoneAt).add 134 t_sHeld h_sHeld).add 135 t_sGranted h_sGranted) p_spec_l33OwnOk_0 Q ⟨[(0, .sl t 5 (zs.map Zone.row)), (3, .ptr 103 0)], [(103, .box [.str o.fl, .int .i64 o.st, .int .i64 o.tn, .str o.dst, .int .i64 o.la, .int .i64 o.nr, .sl 0 6 (o.tu.map Box6.row), .int .i64 o.wi, .sl 0 6 (o.nx.map Box6.row), .sl 0 1 (o.gr.map srow), .bool o.sent])]⟩ := by
  all_goals (unfold p_spec_l33OwnOk_0; simp (maxSteps := 2000000) only [bitvec_to_nat, reduceIte, Nat.reduceEqDiff, Nat.reduceAdd, Nat.reduceLeDiff, reduceCtorEq, Nat.reduceBEq, Nat.reduceLT, Nat.reduceMod, fmc, t_l31NameOk, t_l31In, t_sZoneAt, t_sHeld, t_sGranted, int_toBitVec_meta, Own.row, Own_eta, Seen.row, Seen_eta, Part.row, Part_eta, Book.row])
  repeat' (first | with_reducible apply And.intro | with_reducible intro _)
  all_goals first
    | omega
    | (refine hQ _ ?_
       first
         | grind [ownOk1]
         | (simp; grind [ownOk1]))
    | grind [ownOk1]
set_option maxHeartbeats 400000 in
theorem pc_spec_l33OwnOk_1 (t : Nat) (zs : List Zone) (o : Own) {w54 : AV} {Q : XT → St → Prop} (hz : zs.length ≤ 4294967295) (hw : 0 ≤ o.wi) (hQ : ∀ bv : Bool, (bv = true ↔ ¬ ((o.st = 1 ↔ o.dst = ⟨#[]⟩) ∧ (o.st ≠ 1 → 0 ≤ zAt zs o.dst) ∧ (o.st ≠ 1 → o.wi = 0) ∧ (o.st = 2 → o.nr ≠ 0))) → Q .normal ⟨[(0, .sl t 5 (zs.map Zone.row)), (3, .ptr 103 0), (93, .bool bv)], [(103, .box [.str o.fl, .int .i64 o.st, .int .i64 o.tn, .str o.dst, .int .i64 o.la, .int .i64 o.nr, .sl 0 6 (o.tu.map Box6.row), .int .i64 o.wi, .sl 0 6 (o.nx.map Box6.row), .sl 0 1 (o.gr.map srow), .bool o.sent])]⟩) : SCode.wp ((((((Env.nil P).add 70 t_l31NameOk h_l31NameOk).add 80 t_l31In h_l31In).add 36 t_sZoneAt h_sZoneAt).add 134 t_sHeld h_sHeld).add 135 t_sGranted h_sGranted) p_spec_l33OwnOk_1 Q ⟨[(0, .sl t 5 (zs.map Zone.row)), (3, .ptr 103 0), (54, w54)], [(103, .box [.str o.fl, .int .i64 o.st, .int .i64 o.tn, .str o.dst, .int .i64 o.la, .int .i64 o.nr, .sl 0 6 (o.tu.map Box6.row), .int .i64 o.wi, .sl 0 6 (o.nx.map Box6.row), .sl 0 1 (o.gr.map srow), .bool o.sent])]⟩ := by
  all_goals (unfold p_spec_l33OwnOk_1; simp (maxSteps := 2000000) only [bitvec_to_nat, reduceIte, Nat.reduceEqDiff, Nat.reduceAdd, Nat.reduceLeDiff, reduceCtorEq, Nat.reduceBEq, Nat.reduceLT, Nat.reduceMod, fmc, t_l31NameOk, t_l31In, t_sZoneAt, t_sHeld, t_sGranted, int_toBitVec_meta, Own.row, Own_eta, Seen.row, Seen_eta, Part.row, Part_eta, Book.row])
  repeat' (first | with_reducible apply And.intro | with_reducible intro _)
  all_goals first
    | omega
    | (refine hQ _ ?_
       first
         | grind []
         | (simp; grind []))
    | grind []
set_option maxHeartbeats 400000 in
theorem pc_spec_l33OwnOk_2 (t : Nat) (zs : List Zone) (o : Own) {w93 : AV} {Q : XT → St → Prop} (hq : zonesOk zs) (hz : zs.length ≤ 4294967295) (h1 : o.tu.length ≤ 1048576) (h2 : o.nx.length ≤ 1048576) (h3 : o.small) (hQ : ∀ bv : Bool, (bv = true ↔ (ownOk3 zs o ∧ ownOk4 zs o)) → Q .normal ⟨[(4, .bool bv)], [(103, .box [.str o.fl, .int .i64 o.st, .int .i64 o.tn, .str o.dst, .int .i64 o.la, .int .i64 o.nr, .sl 0 6 (o.tu.map Box6.row), .int .i64 o.wi, .sl 0 6 (o.nx.map Box6.row), .sl 0 1 (o.gr.map srow), .bool o.sent])]⟩) : SCode.wp ((((((Env.nil P).add 70 t_l31NameOk h_l31NameOk).add 80 t_l31In h_l31In).add 36 t_sZoneAt h_sZoneAt).add 134 t_sHeld h_sHeld).add 135 t_sGranted h_sGranted) p_spec_l33OwnOk_2 Q ⟨[(0, .sl t 5 (zs.map Zone.row)), (3, .ptr 103 0), (93, w93)], [(103, .box [.str o.fl, .int .i64 o.st, .int .i64 o.tn, .str o.dst, .int .i64 o.la, .int .i64 o.nr, .sl 0 6 (o.tu.map Box6.row), .int .i64 o.wi, .sl 0 6 (o.nx.map Box6.row), .sl 0 1 (o.gr.map srow), .bool o.sent])]⟩ := by
  all_goals (unfold p_spec_l33OwnOk_2; simp (maxSteps := 2000000) only [bitvec_to_nat, reduceIte, Nat.reduceEqDiff, Nat.reduceAdd, Nat.reduceLeDiff, reduceCtorEq, Nat.reduceBEq, Nat.reduceLT, Nat.reduceMod, fmc, t_l31NameOk, t_l31In, t_sZoneAt, t_sHeld, t_sGranted, int_toBitVec_meta, Own.row, Own_eta, Seen.row, Seen_eta, Part.row, Part_eta, Book.row])
  repeat' (first | with_reducible apply And.intro | with_reducible intro _)
  all_goals first
    | omega
    | (refine hQ _ ?_
       first
         | grind [ownOk3]
         | (simp; grind [ownOk3]))
    | grind [ownOk3]
theorem c_sOwnOk (t : Nat) (zs : List Zone) (o : Own) (hq : zonesOk zs) (ho : o.small) (hz : zs.length ≤ 4294967295) : Contract P 106 [.sl t 5 (zs.map Zone.row), .agg (o.row 0)] [] (.bool (decide (ownOk zs o))) [] := by
  have ho' := ho
  unfold Own.small at ho
  simp only [Own.row]
  refine fn_sound ((((((Env.nil P).add 70 t_l31NameOk h_l31NameOk).add 80 t_l31In h_l31In).add 36 t_sZoneAt h_sZoneAt).add 134 t_sHeld h_sHeld).add 135 t_sGranted h_sGranted) hm k_spec_l33OwnOk (nlb rfl) rfl ?_; unfold s_spec_l33OwnOk; simp (maxSteps := 2000000) only [bitvec_to_nat, reduceIte, Nat.reduceEqDiff, Nat.reduceAdd, Nat.reduceLeDiff, reduceCtorEq, Nat.reduceBEq, Nat.reduceLT, Nat.reduceMod, fmc, t_l31NameOk, t_l31In, t_sZoneAt, t_sHeld, t_sGranted, int_toBitVec_meta, Own.row, Own_eta, Seen.row, Seen_eta, Part.row, Part_eta, Book.row]
  refine pc_spec_l33OwnOk_0 t zs o fun bv hbv => ?_
  cases bv
  case true =>
    simp (maxSteps := 2000000) only [bitvec_to_nat, reduceIte, Nat.reduceEqDiff, Nat.reduceAdd, Nat.reduceLeDiff, reduceCtorEq, Nat.reduceBEq, Nat.reduceLT, Nat.reduceMod, fmc, t_l31NameOk, t_l31In, t_sZoneAt, t_sHeld, t_sGranted, int_toBitVec_meta, Own.row, Own_eta, Seen.row, Seen_eta, Part.row, Part_eta, Book.row]
    exact fun h => (hbv.1 rfl) h.1
  have o1 := Classical.not_not.1 fun h => Bool.noConfusion (hbv.2 h)
  simp (maxSteps := 2000000) only [bitvec_to_nat, reduceIte, Nat.reduceEqDiff, Nat.reduceAdd, Nat.reduceLeDiff, reduceCtorEq, Nat.reduceBEq, Nat.reduceLT, Nat.reduceMod, fmc, t_l31NameOk, t_l31In, t_sZoneAt, t_sHeld, t_sGranted, int_toBitVec_meta, Own.row, Own_eta, Seen.row, Seen_eta, Part.row, Part_eta, Book.row]
  refine pc_spec_l33OwnOk_1 t zs o hz (by unfold ownOk1 at o1; omega) fun bv hbv => ?_
  cases bv
  case true =>
    simp (maxSteps := 2000000) only [bitvec_to_nat, reduceIte, Nat.reduceEqDiff, Nat.reduceAdd, Nat.reduceLeDiff, reduceCtorEq, Nat.reduceBEq, Nat.reduceLT, Nat.reduceMod, fmc, t_l31NameOk, t_l31In, t_sZoneAt, t_sHeld, t_sGranted, int_toBitVec_meta, Own.row, Own_eta, Seen.row, Seen_eta, Part.row, Part_eta, Book.row]
    exact fun h => (hbv.1 rfl) h.2.1
  have o2 : ownOk2 zs o := Classical.not_not.1 fun h => Bool.noConfusion (hbv.2 h)
  simp (maxSteps := 2000000) only [bitvec_to_nat, reduceIte, Nat.reduceEqDiff, Nat.reduceAdd, Nat.reduceLeDiff, reduceCtorEq, Nat.reduceBEq, Nat.reduceLT, Nat.reduceMod, fmc, t_l31NameOk, t_l31In, t_sZoneAt, t_sHeld, t_sGranted, int_toBitVec_meta, Own.row, Own_eta, Seen.row, Seen_eta, Part.row, Part_eta, Book.row]
  refine pc_spec_l33OwnOk_2 t zs o hq hz ho.1 ho.2.1 ho' fun bv hbv => ?_
  simp (maxSteps := 2000000) only [bitvec_to_nat, reduceIte, Nat.reduceEqDiff, Nat.reduceAdd, Nat.reduceLeDiff, reduceCtorEq, Nat.reduceBEq, Nat.reduceLT, Nat.reduceMod, fmc, t_l31NameOk, t_l31In, t_sZoneAt, t_sHeld, t_sGranted, int_toBitVec_meta, Own.row, Own_eta, Seen.row, Seen_eta, Part.row, Part_eta, Book.row]
  have : ownOk zs o ↔ bv = true := by rw [hbv]; exact ⟨fun h => h.2.2, fun h => ⟨o1, o2, h⟩⟩
  simp [this]
def t_sOwnOk : List AV → Option (Prop × AV)
  | [.sl zst 5 zsx, .agg [.str o_fl, .int .i64 o_st, .int .i64 o_tn, .str o_dst, .int .i64 o_la, .int .i64 o_nr, .sl 0 6 o_tu, .int .i64 o_wi, .sl 0 6 o_nx, .sl 0 1 o_gr, .bool o_sent]] => some ((((zsx.map unZone).map Zone.row = zsx) ∧ ((o_tu.map unBox).map Box6.row = o_tu) ∧ ((o_nx.map unBox).map Box6.row = o_nx) ∧ ((o_gr.map unS).map srow = o_gr)) ∧ (zonesOk (zsx.map unZone) ∧ Own.small (Own.mk o_fl o_st o_tn o_dst o_la o_nr (o_tu.map unBox) o_wi (o_nx.map unBox) (o_gr.map unS) o_sent) ∧ (zsx.map unZone).length ≤ 4294967295), .bool (decide (ownOk (zsx.map unZone) (Own.mk o_fl o_st o_tn o_dst o_la o_nr (o_tu.map unBox) o_wi (o_nx.map unBox) (o_gr.map unS) o_sent))))
  | _ => none
theorem h_sOwnOk : ∀ args p v, t_sOwnOk args = some (p, v) → p → Contract P 106 args [] v [] ∧ noref v = true ∧ No99 v := by
  intro args p v h1 h2
  unfold t_sOwnOk at h1
  split at h1
  · rename_i zst zsx o_fl o_st o_tn o_dst o_la o_nr o_tu o_wi o_nx o_gr o_sent
    cases h1
    obtain ⟨⟨e0, e1, e2, e3⟩, HP⟩ := h2
    have := c_sOwnOk zst (zsx.map unZone) (Own.mk o_fl o_st o_tn o_dst o_la o_nr (o_tu.map unBox) o_wi (o_nx.map unBox) (o_gr.map unS) o_sent) HP.1 HP.2.1 HP.2.2
    exact ⟨by simpa only [e0, e1, e2, e3, Own.row] using this, rfl, trivial⟩
  · cases h1
theorem c_sOwnsOk (t : Nat) (zs : List Zone) (b : Book) (hq : zonesOk zs) (hb : b.small) (hz : zs.length ≤ 4294967295) : Contract P 78 [.sl t 5 (zs.map Zone.row), .agg (b.row 0)] [] (.bool (decide (ownsOk zs b.own))) [] := by
  have hb1 := hb.1.1
  simp only [Book.row]
  refine fn_sound ((Env.nil P).add 106 t_sOwnOk h_sOwnOk) hm k_spec_l33OwnsOk (nlb rfl) rfl ?_; unfold s_spec_l33OwnsOk; simp (maxSteps := 2000000) only [bitvec_to_nat, reduceIte, Nat.reduceEqDiff, Nat.reduceAdd, Nat.reduceLeDiff, reduceCtorEq, Nat.reduceBEq, Nat.reduceLT, Nat.reduceMod, fmc, t_sOwnOk, int_toBitVec_meta, Own.row, Own_eta, Seen.row, Seen_eta, Part.row, Part_eta, Book.row]
  refine ⟨fun h1 h => by have := h.1; omega, fun h1 => ?_⟩
  · refine loop_st (fun i : Nat => [(5, .int .i64 i)]) (fun _ => []) (fun i => i ≤ b.own.length ∧ ∀ j, j < i → ownAt zs b.own j) (fun i => b.own.length - i) (0) (by simp only [u_E0, u_E1, u_M0, u_M1, w_setE0, w_setE1, w_setM0, w_setM1, reduceIte, Nat.reduceEqDiff]; exact ⟨by repeat' (first | exact trivial | refine ⟨.inr rfl, ?_⟩), by repeat' (first | exact trivial | refine ⟨rfl, ?_⟩), by first | rfl | simp [closedB, refsIn, refsInL, refsInO, dom, refsInL_nr, *], by first | rfl | simp [keepB, dom]⟩) ?_ ?_
    · exact ⟨Nat.zero_le _, by intro j hj; omega⟩
    intro i hi NX hN
    unfold l_spec_l33OwnsOk_0; simp (maxSteps := 2000000) only [bitvec_to_nat, reduceIte, Nat.reduceEqDiff, Nat.reduceAdd, Nat.reduceLeDiff, reduceCtorEq, Nat.reduceBEq, Nat.reduceLT, Nat.reduceMod, fmc, t_sOwnOk, int_toBitVec_meta, Own.row, Own_eta, Seen.row, Seen_eta, Part.row, Part_eta, Book.row]
    have hs : i < b.own.length → (b.own.getD i default).small := fun h => Book.small_own hb h
    have A : ownsOk zs b.own → i < b.own.length → ownAt zs b.own i := fun h h2 => h.2 i h2
    unfold ownAt at A
    repeat' (first | with_reducible apply And.intro | with_reducible intro _)
    all_goals first
      | with_reducible assumption
      | omega
      | (exact hs (by omega))
      | (refine hN (i + 1) _ (by simp only [u_E0, u_E1, u_M0, u_M1, w_setE0, w_setE1, w_setM0, w_setM1, reduceIte, Nat.reduceEqDiff]; exact ⟨by repeat' (first | exact trivial | refine ⟨.inr rfl, ?_⟩), by repeat' (first | exact trivial | refine ⟨rfl, ?_⟩), by first | rfl | simp [closedB, refsIn, refsInL, refsInO, dom, refsInL_nr, *], by first | rfl | simp [keepB, dom]⟩) ?_ ?_
         · exact ⟨by omega, all_snoc hi.2 ⟨by assumption, fun _ => by first | assumption | omega⟩⟩
         · omega)
      | (intro hq2; have := A hq2 (by omega); grind)
      | exact ⟨by omega, fun j hj => hi.2 j (by omega)⟩
def t_sOwnsOk : List AV → Option (Prop × AV)
  | [.sl zst 5 zsx, .agg [.sl 0 11 b_own, .sl 0 3 b_parts, .sl 0 2 b_seen]] => some ((((zsx.map unZone).map Zone.row = zsx) ∧ ((b_own.map unOwn).map (Own.row 0) = b_own) ∧ ((b_parts.map unPart).map (Part.row 0) = b_parts) ∧ ((b_seen.map unSeen).map Seen.row = b_seen)) ∧ (zonesOk (zsx.map unZone) ∧ Book.small (Book.mk (b_own.map unOwn) (b_parts.map unPart) (b_seen.map unSeen)) ∧ (zsx.map unZone).length ≤ 4294967295), .bool (decide (ownsOk (zsx.map unZone) (Book.mk (b_own.map unOwn) (b_parts.map unPart) (b_seen.map unSeen)).own)))
  | _ => none
theorem h_sOwnsOk : ∀ args p v, t_sOwnsOk args = some (p, v) → p → Contract P 78 args [] v [] ∧ noref v = true ∧ No99 v := by
  intro args p v h1 h2
  unfold t_sOwnsOk at h1
  split at h1
  · rename_i zst zsx b_own b_parts b_seen
    cases h1
    obtain ⟨⟨e0, e1, e2, e3⟩, HP⟩ := h2
    have := c_sOwnsOk zst (zsx.map unZone) (Book.mk (b_own.map unOwn) (b_parts.map unPart) (b_seen.map unSeen)) HP.1 HP.2.1 HP.2.2
    exact ⟨by simpa only [e0, e1, e2, e3, Book.row] using this, rfl, trivial⟩
  · cases h1
theorem c_sBefore (a p : Part) (hp : True) : Contract P 108 [.agg (a.row 0), .agg (p.row 0)] [] (.bool (decide (a.before p))) [] := by
  simp only [Part.row]
  refine fn_sound (Env.nil P) hm k_spec_l33Before (nlb rfl) rfl ?_; unfold s_spec_l33Before; simp (maxSteps := 2000000) only [bitvec_to_nat, reduceIte, Nat.reduceEqDiff, Nat.reduceAdd, Nat.reduceLeDiff, reduceCtorEq, Nat.reduceBEq, Nat.reduceLT, Nat.reduceMod, fmc, int_toBitVec_meta, Own.row, Own_eta, Seen.row, Seen_eta, Part.row, Part_eta, Book.row]
  simp only [Part.before]
  repeat' (first | with_reducible apply And.intro | with_reducible intro _)
  all_goals first | omega | grind
def t_sBefore : List AV → Option (Prop × AV)
  | [.agg [.str c_fl, .int .i64 c_nr, .sl 0 6 c_bx], .agg [.str d_fl, .int .i64 d_nr, .sl 0 6 d_bx]] => some ((((c_bx.map unBox).map Box6.row = c_bx) ∧ ((d_bx.map unBox).map Box6.row = d_bx)) ∧ (True), .bool (decide (Part.before (Part.mk c_fl c_nr (c_bx.map unBox)) (Part.mk d_fl d_nr (d_bx.map unBox)))))
  | _ => none
theorem h_sBefore : ∀ args p v, t_sBefore args = some (p, v) → p → Contract P 108 args [] v [] ∧ noref v = true ∧ No99 v := by
  intro args p v h1 h2
  unfold t_sBefore at h1
  split at h1
  · rename_i c_fl c_nr c_bx d_fl d_nr d_bx
    cases h1
    obtain ⟨⟨e0, e1⟩, HP⟩ := h2
    have := c_sBefore (Part.mk c_fl c_nr (c_bx.map unBox)) (Part.mk d_fl d_nr (d_bx.map unBox)) HP
    exact ⟨by simpa only [e0, e1, Part.row, Part.row] using this, rfl, trivial⟩
  · cases h1
set_option maxHeartbeats 1000000 in
theorem pc_spec_l33PartsOk_0 (t : Nat) (zs : List Zone) (b : Book) (p : Part) (i k : Nat) {Q : XT → St → Prop} (hq : zonesOk zs) (hz : zs.length ≤ 4294967295) (hs : b.seen.length ≤ 1048576) (hl : p.bx.length ≤ 1048576) (hi : i < b.parts.length) (hp : b.parts.length ≤ 1048576) (hQ : ∀ bv : Bool, (bv = true ↔ ¬ (nameOk p.fl ∧ (1 ≤ p.nr ∧ p.nr ≤ seenOf b.seen p.fl) ∧ tubeOk zs p.bx ∧ (0 < i → (b.parts.getD (i - 1) default).before p))) → Q .normal ⟨[(0, .sl t 5 (zs.map Zone.row)), (3, .ptr 103 0), (5, .int .i64 i), (6, .ptr 106 0), (59, .bool bv)], [(103, .box [.sl 0 11 (b.own.map (Own.row 0)), .sl 0 3 (b.parts.map (Part.row 0)), .sl 0 2 (b.seen.map Seen.row)]), (106, .box [.str p.fl, .int .i64 p.nr, .sl 0 6 (p.bx.map Box6.row)])]⟩) : SCode.wp (((((((Env.nil P).add 70 t_l31NameOk h_l31NameOk).add 80 t_l31In h_l31In).add 65 t_sTubeOk h_sTubeOk).add 107 t_sSeen h_sSeen).add 108 t_sBefore h_sBefore).add 109 t_sNear h_sNear) p_spec_l33PartsOk_0 Q ⟨[(0, .sl t 5 (zs.map Zone.row)), (3, .ptr 103 0), (5, .int .i64 i), (6, .ptr 106 0)], [(103, .box [.sl 0 11 (b.own.map (Own.row 0)), .sl 0 3 (b.parts.map (Part.row 0)), .sl 0 2 (b.seen.map Seen.row)]), (106, .box [.str p.fl, .int .i64 p.nr, .sl 0 6 (p.bx.map Box6.row)])]⟩ := by
  all_goals (unfold p_spec_l33PartsOk_0; simp (maxSteps := 2000000) only [bitvec_to_nat, reduceIte, Nat.reduceEqDiff, Nat.reduceAdd, Nat.reduceLeDiff, reduceCtorEq, Nat.reduceBEq, Nat.reduceLT, Nat.reduceMod, fmc, t_l31NameOk, t_l31In, t_sTubeOk, t_sSeen, t_sBefore, t_sNear, int_toBitVec_meta, Own.row, Own_eta, Seen.row, Seen_eta, Part.row, Part_eta, Book.row])
  repeat' (first | with_reducible apply And.intro | with_reducible intro _)
  all_goals first
    | omega
    | (refine hQ _ ?_
       first
         | grind []
         | (simp; grind []))
    | grind []
set_option maxHeartbeats 400000 in
theorem pc_spec_l33PartsOk_1 (t : Nat) (zs : List Zone) (b : Book) (p : Part) (i k : Nat) {w62 : AV} {Q : XT → St → Prop} (hk : k < b.parts.length) (hl : p.bx.length ≤ 1048576) (hl2 : (b.parts.getD k default).bx.length ≤ 1048576) (hQ : ∀ bv : Bool, (bv = true ↔ ((b.parts.getD k default).fl ≠ p.fl ∧ nearT (b.parts.getD k default).bx p.bx)) → Q .normal ⟨[(0, .sl t 5 (zs.map Zone.row)), (3, .ptr 103 0), (5, .int .i64 i), (6, .ptr 106 0), (7, .int .i64 k), (84, .bool bv)], [(103, .box [.sl 0 11 (b.own.map (Own.row 0)), .sl 0 3 (b.parts.map (Part.row 0)), .sl 0 2 (b.seen.map Seen.row)]), (106, .box [.str p.fl, .int .i64 p.nr, .sl 0 6 (p.bx.map Box6.row)])]⟩) : SCode.wp (((((((Env.nil P).add 70 t_l31NameOk h_l31NameOk).add 80 t_l31In h_l31In).add 65 t_sTubeOk h_sTubeOk).add 107 t_sSeen h_sSeen).add 108 t_sBefore h_sBefore).add 109 t_sNear h_sNear) p_spec_l33PartsOk_1 Q ⟨[(0, .sl t 5 (zs.map Zone.row)), (3, .ptr 103 0), (5, .int .i64 i), (6, .ptr 106 0), (7, .int .i64 k), (62, w62)], [(103, .box [.sl 0 11 (b.own.map (Own.row 0)), .sl 0 3 (b.parts.map (Part.row 0)), .sl 0 2 (b.seen.map Seen.row)]), (106, .box [.str p.fl, .int .i64 p.nr, .sl 0 6 (p.bx.map Box6.row)])]⟩ := by
  all_goals (unfold p_spec_l33PartsOk_1; simp (maxSteps := 2000000) only [bitvec_to_nat, reduceIte, Nat.reduceEqDiff, Nat.reduceAdd, Nat.reduceLeDiff, reduceCtorEq, Nat.reduceBEq, Nat.reduceLT, Nat.reduceMod, fmc, t_l31NameOk, t_l31In, t_sTubeOk, t_sSeen, t_sBefore, t_sNear, int_toBitVec_meta, Own.row, Own_eta, Seen.row, Seen_eta, Part.row, Part_eta, Book.row])
  repeat' (first | with_reducible apply And.intro | with_reducible intro _)
  all_goals first
    | omega
    | (refine hQ _ ?_
       first
         | grind []
         | (simp; grind []))
    | grind []
theorem c_sPartsOk (t : Nat) (zs : List Zone) (b : Book) (hq : zonesOk zs) (hb : b.small) (hz : zs.length ≤ 4294967295) : Contract P 79 [.sl t 5 (zs.map Zone.row), .agg (b.row 0)] [] (.bool (decide (partsOk zs b))) [] := by
  have hb2 := hb.2.1.1
  have hb3 := hb.2.2
  simp only [Book.row]
  refine fn_sound (((((((Env.nil P).add 70 t_l31NameOk h_l31NameOk).add 80 t_l31In h_l31In).add 65 t_sTubeOk h_sTubeOk).add 107 t_sSeen h_sSeen).add 108 t_sBefore h_sBefore).add 109 t_sNear h_sNear) hm k_spec_l33PartsOk (nlb rfl) rfl ?_; unfold s_spec_l33PartsOk; simp (maxSteps := 2000000) only [bitvec_to_nat, reduceIte, Nat.reduceEqDiff, Nat.reduceAdd, Nat.reduceLeDiff, reduceCtorEq, Nat.reduceBEq, Nat.reduceLT, Nat.reduceMod, fmc, t_l31NameOk, t_l31In, t_sTubeOk, t_sSeen, t_sBefore, t_sNear, int_toBitVec_meta, Own.row, Own_eta, Seen.row, Seen_eta, Part.row, Part_eta, Book.row]
  refine ⟨fun h1 h => by have := h.1; omega, fun h1 => ?_⟩
  · refine loop_st (fun i : Nat => [(5, .int .i64 i)]) (fun _ => []) (fun i => i ≤ b.parts.length ∧ ∀ j, j < i → partAt zs b j) (fun i => b.parts.length - i) (0) (by simp only [u_E0, u_E1, u_M0, u_M1, w_setE0, w_setE1, w_setM0, w_setM1, reduceIte, Nat.reduceEqDiff]; exact ⟨by repeat' (first | exact trivial | refine ⟨.inr rfl, ?_⟩), by repeat' (first | exact trivial | refine ⟨rfl, ?_⟩), by first | rfl | simp [closedB, refsIn, refsInL, refsInO, dom, refsInL_nr, *], by first | rfl | simp [keepB, dom]⟩) ?_ ?_
    · exact ⟨Nat.zero_le _, by intro j hj; omega⟩
    intro i hi NX hN
    unfold l_spec_l33PartsOk_1; simp (maxSteps := 2000000) only [bitvec_to_nat, reduceIte, Nat.reduceEqDiff, Nat.reduceAdd, Nat.reduceLeDiff, reduceCtorEq, Nat.reduceBEq, Nat.reduceLT, Nat.reduceMod, fmc, t_l31NameOk, t_l31In, t_sTubeOk, t_sSeen, t_sBefore, t_sNear, int_toBitVec_meta, Own.row, Own_eta, Seen.row, Seen_eta, Part.row, Part_eta, Book.row]
    refine ⟨fun g1 => ⟨by omega, by omega, ?_⟩, fun g1 => ?_⟩
    · have hs := Book.small_part hb (i := i) (by omega)
      have A : partsOk zs b → partAt zs b i := fun h => h.2 i (by omega)
      unfold partAt at A
      refine pc_spec_l33PartsOk_0 t zs b (b.parts.getD i default) i 0 hq hz hb3 hs (by omega) hb2 fun bv hbv => ?_
      cases bv
      case true =>
        simp (maxSteps := 2000000) only [bitvec_to_nat, reduceIte, Nat.reduceEqDiff, Nat.reduceAdd, Nat.reduceLeDiff, reduceCtorEq, Nat.reduceBEq, Nat.reduceLT, Nat.reduceMod, fmc, t_l31NameOk, t_l31In, t_sTubeOk, t_sSeen, t_sBefore, t_sNear, int_toBitVec_meta, Own.row, Own_eta, Seen.row, Seen_eta, Part.row, Part_eta, Book.row]
        exact fun hq => (hbv.1 rfl) ⟨(A hq).1, (A hq).2.1, (A hq).2.2.1, (A hq).2.2.2.1⟩
      have o1 := Classical.not_not.1 fun h => Bool.noConfusion (hbv.2 h)
      simp (maxSteps := 2000000) only [bitvec_to_nat, reduceIte, Nat.reduceEqDiff, Nat.reduceAdd, Nat.reduceLeDiff, reduceCtorEq, Nat.reduceBEq, Nat.reduceLT, Nat.reduceMod, fmc, t_l31NameOk, t_l31In, t_sTubeOk, t_sSeen, t_sBefore, t_sNear, int_toBitVec_meta, Own.row, Own_eta, Seen.row, Seen_eta, Part.row, Part_eta, Book.row]
      refine loop_st (fun k : Nat => [(7, .int .i64 k)]) (fun _ => []) (fun k => k ≤ i ∧ ∀ j, j < k → (b.parts.getD j default).fl ≠ (b.parts.getD i default).fl → ¬ nearT (b.parts.getD j default).bx (b.parts.getD i default).bx) (fun k => i - k) (0) (by simp only [u_E0, u_E1, u_M0, u_M1, w_setE0, w_setE1, w_setM0, w_setM1, reduceIte, Nat.reduceEqDiff]; exact ⟨by repeat' (first | exact trivial | refine ⟨.inr rfl, ?_⟩), by repeat' (first | exact trivial | refine ⟨rfl, ?_⟩), by first | rfl | simp [closedB, refsIn, refsInL, refsInO, dom, refsInL_nr, *], by first | rfl | simp [keepB, dom]⟩) ?_ ?_
      · exact ⟨Nat.zero_le _, by intro j hj; omega⟩
      intro k hk NX2 hN2
      unfold l_spec_l33PartsOk_0; simp (maxSteps := 2000000) only [bitvec_to_nat, reduceIte, Nat.reduceEqDiff, Nat.reduceAdd, Nat.reduceLeDiff, reduceCtorEq, Nat.reduceBEq, Nat.reduceLT, Nat.reduceMod, fmc, t_l31NameOk, t_l31In, t_sTubeOk, t_sSeen, t_sBefore, t_sNear, int_toBitVec_meta, Own.row, Own_eta, Seen.row, Seen_eta, Part.row, Part_eta, Book.row]
      refine ⟨fun g2 => ?_, fun g2 => ?_⟩
      · have hs2 := Book.small_part hb (i := k) (by omega)
        refine pc_spec_l33PartsOk_1 t zs b (b.parts.getD i default) i k (by omega) hs hs2 fun bv hbv => ?_
        cases bv
        case true =>
          simp (maxSteps := 2000000) only [bitvec_to_nat, reduceIte, Nat.reduceEqDiff, Nat.reduceAdd, Nat.reduceLeDiff, reduceCtorEq, Nat.reduceBEq, Nat.reduceLT, Nat.reduceMod, fmc, t_l31NameOk, t_l31In, t_sTubeOk, t_sSeen, t_sBefore, t_sNear, int_toBitVec_meta, Own.row, Own_eta, Seen.row, Seen_eta, Part.row, Part_eta, Book.row]
          exact fun hq => (A hq).2.2.2.2 k (by omega) (hbv.1 rfl).1 (hbv.1 rfl).2
        have o3 : ¬ ((b.parts.getD k default).fl ≠ (b.parts.getD i default).fl ∧ nearT (b.parts.getD k default).bx (b.parts.getD i default).bx) := by simpa using hbv
        simp (maxSteps := 2000000) only [bitvec_to_nat, reduceIte, Nat.reduceEqDiff, Nat.reduceAdd, Nat.reduceLeDiff, reduceCtorEq, Nat.reduceBEq, Nat.reduceLT, Nat.reduceMod, fmc, t_l31NameOk, t_l31In, t_sTubeOk, t_sSeen, t_sBefore, t_sNear, int_toBitVec_meta, Own.row, Own_eta, Seen.row, Seen_eta, Part.row, Part_eta, Book.row]
        refine ⟨by omega, ?_⟩
        refine hN2 (k + 1) _ (by simp only [u_E0, u_E1, u_M0, u_M1, w_setE0, w_setE1, w_setM0, w_setM1, reduceIte, Nat.reduceEqDiff]; exact ⟨by repeat' (first | exact trivial | refine ⟨.inr rfl, ?_⟩), by repeat' (first | exact trivial | refine ⟨rfl, ?_⟩), by first | rfl | simp [closedB, refsIn, refsInL, refsInO, dom, refsInL_nr, *], by first | rfl | simp [keepB, dom]⟩) ?_ ?_
        · exact ⟨by omega, all_snoc hk.2 fun h1 h2 => o3 ⟨h1, h2⟩⟩
        · omega
      · refine ⟨by omega, ?_⟩
        refine hN (i + 1) _ (by simp only [u_E0, u_E1, u_M0, u_M1, w_setE0, w_setE1, w_setM0, w_setM1, reduceIte, Nat.reduceEqDiff]; exact ⟨by repeat' (first | exact trivial | refine ⟨.inr rfl, ?_⟩), by repeat' (first | exact trivial | refine ⟨rfl, ?_⟩), by first | rfl | simp [closedB, refsIn, refsInL, refsInO, dom, refsInL_nr, *], by first | rfl | simp [keepB, dom]⟩) ?_ ?_
        · exact ⟨by omega, all_snoc hi.2 ⟨o1.1, o1.2.1, o1.2.2.1, o1.2.2.2, fun k' h1 => hk.2 k' (by omega)⟩⟩
        · omega
    · exact ⟨by omega, fun j hj => hi.2 j (by omega)⟩
def t_sPartsOk : List AV → Option (Prop × AV)
  | [.sl zst 5 zsx, .agg [.sl 0 11 b_own, .sl 0 3 b_parts, .sl 0 2 b_seen]] => some ((((zsx.map unZone).map Zone.row = zsx) ∧ ((b_own.map unOwn).map (Own.row 0) = b_own) ∧ ((b_parts.map unPart).map (Part.row 0) = b_parts) ∧ ((b_seen.map unSeen).map Seen.row = b_seen)) ∧ (zonesOk (zsx.map unZone) ∧ Book.small (Book.mk (b_own.map unOwn) (b_parts.map unPart) (b_seen.map unSeen)) ∧ (zsx.map unZone).length ≤ 4294967295), .bool (decide (partsOk (zsx.map unZone) (Book.mk (b_own.map unOwn) (b_parts.map unPart) (b_seen.map unSeen)))))
  | _ => none
theorem h_sPartsOk : ∀ args p v, t_sPartsOk args = some (p, v) → p → Contract P 79 args [] v [] ∧ noref v = true ∧ No99 v := by
  intro args p v h1 h2
  unfold t_sPartsOk at h1
  split at h1
  · rename_i zst zsx b_own b_parts b_seen
    cases h1
    obtain ⟨⟨e0, e1, e2, e3⟩, HP⟩ := h2
    have := c_sPartsOk zst (zsx.map unZone) (Book.mk (b_own.map unOwn) (b_parts.map unPart) (b_seen.map unSeen)) HP.1 HP.2.1 HP.2.2
    exact ⟨by simpa only [e0, e1, e2, e3, Book.row] using this, rfl, trivial⟩
  · cases h1
theorem c_sBookOk (t : Nat) (zs : List Zone) (b : Book) (hb : b.small) (hz : zs.length ≤ 4294967295) : Contract P 35 [.sl t 5 (zs.map Zone.row), .agg (b.row 0)] [] (.bool (decide (zonesOk zs ∧ bookOk zs b))) [] := by
  have hb3 := hb.2.2
  simp only [Book.row]
  refine fn_sound ((((((Env.nil P).add 77 t_sZonesOk h_sZonesOk).add 78 t_sOwnsOk h_sOwnsOk).add 79 t_sPartsOk h_sPartsOk).add 70 t_l31NameOk h_l31NameOk).add 80 t_l31In h_l31In) hm k_spec_HandBookOk (nlb rfl) rfl ?_; unfold s_spec_HandBookOk; simp (maxSteps := 2000000) only [bitvec_to_nat, reduceIte, Nat.reduceEqDiff, Nat.reduceAdd, Nat.reduceLeDiff, reduceCtorEq, Nat.reduceBEq, Nat.reduceLT, Nat.reduceMod, fmc, t_sZonesOk, t_sOwnsOk, t_sPartsOk, t_l31NameOk, t_l31In, int_toBitVec_meta, Own.row, Own_eta, Seen.row, Seen_eta, Part.row, Part_eta, Book.row]
  refine ⟨by omega, fun h1 => ⟨⟨h1, hb, hz⟩, fun h2 => ⟨⟨h1, hb, hz⟩, fun h3 => ⟨fun h4 h => by have := h.2.2.2.1; omega, fun h4 => ?_⟩, fun h3 h => h3 h.2.2.1⟩, fun h2 h => h2 h.2.1⟩, fun h1 h => h1 h.1⟩
  · refine loop_st (fun i : Nat => [(5, .int .i64 i)]) (fun _ => []) (fun i => i ≤ b.seen.length ∧ ∀ j, j < i → seenAt b.seen j) (fun i => b.seen.length - i) (0) (by simp only [u_E0, u_E1, u_M0, u_M1, w_setE0, w_setE1, w_setM0, w_setM1, reduceIte, Nat.reduceEqDiff]; exact ⟨by repeat' (first | exact trivial | refine ⟨.inr rfl, ?_⟩), by repeat' (first | exact trivial | refine ⟨rfl, ?_⟩), by first | rfl | simp [closedB, refsIn, refsInL, refsInO, dom, refsInL_nr, *], by first | rfl | simp [keepB, dom]⟩) ?_ ?_
    · exact ⟨Nat.zero_le _, by intro j hj; omega⟩
    intro i hi NX hN
    unfold l_spec_HandBookOk_0; simp (maxSteps := 2000000) only [bitvec_to_nat, reduceIte, Nat.reduceEqDiff, Nat.reduceAdd, Nat.reduceLeDiff, reduceCtorEq, Nat.reduceBEq, Nat.reduceLT, Nat.reduceMod, fmc, t_sZonesOk, t_sOwnsOk, t_sPartsOk, t_l31NameOk, t_l31In, int_toBitVec_meta, Own.row, Own_eta, Seen.row, Seen_eta, Part.row, Part_eta, Book.row]
    have A : zonesOk zs ∧ bookOk zs b → i < b.seen.length → seenAt b.seen i := fun h h2 => h.2.2.2.2 i h2
    unfold seenAt at A
    repeat' (first | with_reducible apply And.intro | with_reducible intro _)
    all_goals first
      | with_reducible assumption
      | omega
      | (refine hN (i + 1) _ (by simp only [u_E0, u_E1, u_M0, u_M1, w_setE0, w_setE1, w_setM0, w_setM1, reduceIte, Nat.reduceEqDiff]; exact ⟨by repeat' (first | exact trivial | refine ⟨.inr rfl, ?_⟩), by repeat' (first | exact trivial | refine ⟨rfl, ?_⟩), by first | rfl | simp [closedB, refsIn, refsInL, refsInO, dom, refsInL_nr, *], by first | rfl | simp [keepB, dom]⟩) ?_ ?_
         · exact ⟨by omega, all_snoc hi.2 ⟨by assumption, by assumption, fun _ => by first | assumption | omega⟩⟩
         · omega)
      | (intro hq2; have := A hq2 (by omega); grind)
      | (exact ⟨h2, h3, by omega, fun j hj => hi.2 j (by omega)⟩)
def t_sBookOk : List AV → Option (Prop × AV)
  | [.sl zst 5 zsx, .agg [.sl 0 11 b_own, .sl 0 3 b_parts, .sl 0 2 b_seen]] => some ((((zsx.map unZone).map Zone.row = zsx) ∧ ((b_own.map unOwn).map (Own.row 0) = b_own) ∧ ((b_parts.map unPart).map (Part.row 0) = b_parts) ∧ ((b_seen.map unSeen).map Seen.row = b_seen)) ∧ (Book.small (Book.mk (b_own.map unOwn) (b_parts.map unPart) (b_seen.map unSeen)) ∧ (zsx.map unZone).length ≤ 4294967295), .bool (decide (zonesOk (zsx.map unZone) ∧ bookOk (zsx.map unZone) (Book.mk (b_own.map unOwn) (b_parts.map unPart) (b_seen.map unSeen)))))
  | _ => none
theorem h_sBookOk : ∀ args p v, t_sBookOk args = some (p, v) → p → Contract P 35 args [] v [] ∧ noref v = true ∧ No99 v := by
  intro args p v h1 h2
  unfold t_sBookOk at h1
  split at h1
  · rename_i zst zsx b_own b_parts b_seen
    cases h1
    obtain ⟨⟨e0, e1, e2, e3⟩, HP⟩ := h2
    have := c_sBookOk zst (zsx.map unZone) (Book.mk (b_own.map unOwn) (b_parts.map unPart) (b_seen.map unSeen)) HP.1 HP.2
    exact ⟨by simpa only [e0, e1, e2, e3, Book.row] using this, rfl, trivial⟩
  · cases h1
def t_bookOk : List AV → Option (Prop × AV)
  | [.sl zst 5 zsx, .agg [.sl 0 11 b_own, .sl 0 3 b_parts, .sl 0 2 b_seen]] => some ((((zsx.map unZone).map Zone.row = zsx) ∧ ((b_own.map unOwn).map (Own.row 0) = b_own) ∧ ((b_parts.map unPart).map (Part.row 0) = b_parts) ∧ ((b_seen.map unSeen).map Seen.row = b_seen)) ∧ (Book.small (Book.mk (b_own.map unOwn) (b_parts.map unPart) (b_seen.map unSeen)) ∧ (zsx.map unZone).length ≤ 4294967295), .bool (decide (bookOk (zsx.map unZone) (Book.mk (b_own.map unOwn) (b_parts.map unPart) (b_seen.map unSeen)))))
  | _ => none
theorem h_bookOk : ∀ args p v, t_bookOk args = some (p, v) → p → Contract P 102 args [] v [] ∧ noref v = true ∧ No99 v := by
  intro args p v h1 h2
  unfold t_bookOk at h1
  split at h1
  · rename_i zst zsx b_own b_parts b_seen
    cases h1
    obtain ⟨⟨e0, e1, e2, e3⟩, HP⟩ := h2
    have := c_bookOk zst (zsx.map unZone) (Book.mk (b_own.map unOwn) (b_parts.map unPart) (b_seen.map unSeen)) HP.2 HP.1
    exact ⟨by simpa only [e0, e1, e2, e3, Book.row] using this, rfl, trivial⟩
  · cases h1
theorem c_hBookOk (t : Nat) (zs : List Zone) (b : Book) (hb : b.small) (hz : zs.length ≤ 4294967295) : Contract P 72 [.sl t 5 (zs.map Zone.row), .agg (b.row 0)] [] (.bool (decide (zonesOk zs ∧ bookOk zs b))) [] := by
  simp only [Book.row]
  refine fn_sound (((Env.nil P).add 101 t_zonesOk h_zonesOk).add 102 t_bookOk h_bookOk) hm k_impl_HandBookOk (nlb rfl) rfl ?_; unfold s_impl_HandBookOk; simp (maxSteps := 2000000) only [bitvec_to_nat, reduceIte, Nat.reduceEqDiff, Nat.reduceAdd, Nat.reduceLeDiff, reduceCtorEq, Nat.reduceBEq, Nat.reduceLT, Nat.reduceMod, fmc, t_zonesOk, t_bookOk, int_toBitVec_meta, Own.row, Own_eta, Seen.row, Seen_eta, Part.row, Part_eta, Book.row]
  refine ⟨by omega, fun h => ⟨⟨hb, hz⟩, ?_⟩, fun h h2 => h h2.1⟩
  rw [decide_eq_decide]
  exact ⟨fun h2 => ⟨h, h2⟩, fun h2 => h2.2⟩
def t_hBookOk : List AV → Option (Prop × AV)
  | [.sl zst 5 zsx, .agg [.sl 0 11 b_own, .sl 0 3 b_parts, .sl 0 2 b_seen]] => some ((((zsx.map unZone).map Zone.row = zsx) ∧ ((b_own.map unOwn).map (Own.row 0) = b_own) ∧ ((b_parts.map unPart).map (Part.row 0) = b_parts) ∧ ((b_seen.map unSeen).map Seen.row = b_seen)) ∧ (Book.small (Book.mk (b_own.map unOwn) (b_parts.map unPart) (b_seen.map unSeen)) ∧ (zsx.map unZone).length ≤ 4294967295), .bool (decide (zonesOk (zsx.map unZone) ∧ bookOk (zsx.map unZone) (Book.mk (b_own.map unOwn) (b_parts.map unPart) (b_seen.map unSeen)))))
  | _ => none
theorem h_hBookOk : ∀ args p v, t_hBookOk args = some (p, v) → p → Contract P 72 args [] v [] ∧ noref v = true ∧ No99 v := by
  intro args p v h1 h2
  unfold t_hBookOk at h1
  split at h1
  · rename_i zst zsx b_own b_parts b_seen
    cases h1
    obtain ⟨⟨e0, e1, e2, e3⟩, HP⟩ := h2
    have := c_hBookOk zst (zsx.map unZone) (Book.mk (b_own.map unOwn) (b_parts.map unPart) (b_seen.map unSeen)) HP.1 HP.2
    exact ⟨by simpa only [e0, e1, e2, e3, Book.row] using this, rfl, trivial⟩
  · cases h1
end
end Go.Ve

namespace Go.Ve
noncomputable section
open Go.Proofs
set_option maxRecDepth 100000
attribute [method_specs_simp] Word_eta Own_eta Part_eta Seen_eta Book_eta Sector_eta HCraft_eta World_eta un_Word un_Own un_Part un_Seen un_Book un_Sector un_HCraft un_World Word.row Own.row Part.row Seen.row Book.row Sector.row HCraft.row World.row
open Go.ChangeShapes Go.WideShapes
/-- What is left when a list is counted, and each of its parts. -/
def szS {α : Type} (f : α → Int → Int) (l : List α) (a : Int) : Int := l.foldl (fun a x => f x a) (szOf a l.length)
def szStr (s : ByteArray) (a : Int) : Int := szOf a s.toList.length
def Meas {α : Type} (f : α → Int → Int) : Prop := ∀ x a, a ≤ 1048576 → (f x a = -1 ∨ 0 ≤ f x a) ∧ (a < 0 → f x a = -1) ∧ f x a ≤ max a (-1)
def chk (x : Int) (k : Int → Int) : Int := if x < 0 then -1 else k x
def Meas1 (g : Int → Int) : Prop := ∀ a, a ≤ 1048576 → (g a = -1 ∨ 0 ≤ g a) ∧ (a < 0 → g a = -1) ∧ g a ≤ max a (-1)
def MeasP (g : Int → Int) : Prop := ∀ a, 0 ≤ a → a ≤ 1048576 → (g a = -1 ∨ 0 ≤ g a) ∧ g a ≤ a
theorem Meas1.p {g : Int → Int} (h : Meas1 g) : MeasP g := fun a h0 h1 => ⟨(h a h1).1, by have := (h a h1).2.2; omega⟩
theorem measP_id : MeasP fun z => z := fun a h0 h1 => ⟨.inr h0, Int.le_refl a⟩
theorem chk_sub {k : Int → Int} (n : Nat) (h : MeasP k) : Meas1 fun a => chk (a - n) k := fun a ha => by
  simp only [chk]
  split
  · exact ⟨.inl rfl, fun _ => rfl, by omega⟩
  · rename_i h1
    have := h (a - n) (by omega) (by omega)
    exact ⟨this.1, fun _ => by omega, by omega⟩
theorem chk_g {g k : Int → Int} (hg : Meas1 g) (h : MeasP k) : Meas1 fun a => chk (g a) k := fun a ha => by
  have m := hg a ha
  simp only [chk]
  split
  · exact ⟨.inl rfl, fun _ => rfl, by omega⟩
  · rename_i h1
    have := h (g a) (by omega) (by omega)
    exact ⟨this.1, fun h2 => by have := m.2.1 h2; omega, by omega⟩
theorem chk_ok {x : Int} {k : Int → Int} (h : 0 ≤ chk x k) : 0 ≤ x ∧ 0 ≤ k x := by
  unfold chk at h; split at h
  · omega
  · exact ⟨by omega, h⟩
theorem meas_str : Meas szStr := fun x a _ => by unfold szStr szOf; split <;> omega
theorem meas_len {α : Type} : Meas (fun (l : List α) a => szOf a l.length) := fun x a _ => by simp only; unfold szOf; split <;> omega
theorem fold_meas {α : Type} {f : α → Int → Int} (h : Meas f) : ∀ (l : List α) (a : Int), a ≤ 1048576 → (a = -1 ∨ 0 ≤ a) → (l.foldl (fun a x => f x a) a = -1 ∨ 0 ≤ l.foldl (fun a x => f x a) a) ∧ (a < 0 → l.foldl (fun a x => f x a) a = -1) ∧ l.foldl (fun a x => f x a) a ≤ max a (-1)
  | [], a, h1, h2 => ⟨h2, fun h3 => by simp only [List.foldl_nil]; omega, by simp only [List.foldl_nil]; omega⟩
  | x :: l, a, h1, h2 => by
    obtain ⟨k1, k2, k3⟩ := h x a h1
    obtain ⟨i1, i2, i3⟩ := fold_meas h l (f x a) (by omega) k1
    simp only [List.foldl_cons]
    exact ⟨i1, fun h3 => i2 (by have := k2 h3; omega), by omega⟩
theorem meas_szS {α : Type} {f : α → Int → Int} (h : Meas f) : Meas (szS f) := fun l a ha => by
  unfold szS
  have h0 : (szOf a l.length = -1 ∨ 0 ≤ szOf a l.length) ∧ (a < 0 → szOf a l.length = -1) ∧ szOf a l.length ≤ max a (-1) := by unfold szOf; split <;> omega
  obtain ⟨i1, i2, i3⟩ := fold_meas h l (szOf a l.length) (by omega) h0.1
  exact ⟨i1, fun h3 => i2 (by have := h0.2.1 h3; omega), by omega⟩
/-- A list that was counted is small, and so are its parts. -/
theorem fold_ok {α : Type} {f : α → Int → Int} {p : α → Prop} (h : Meas f) (hp : ∀ x a, a ≤ 1048576 → 0 ≤ f x a → p x) : ∀ (l : List α) (a : Int), a ≤ 1048576 → (a = -1 ∨ 0 ≤ a) → 0 ≤ l.foldl (fun a x => f x a) a → ∀ x ∈ l, p x
  | [], _, _, _, _, x, hx => by simp at hx
  | y :: l, a, h1, h2, h3, x, hx => by
    simp only [List.foldl_cons] at h3
    obtain ⟨k1, k2, k3⟩ := h y a h1
    have hy : 0 ≤ f y a := by
      rcases k1 with k1 | k1
      · have := (fold_meas h l (f y a) (by omega) (.inl k1)).2.1 (by omega); omega
      · exact k1
    rcases List.mem_cons.1 hx with rfl | hx
    · exact hp _ a h1 hy
    · exact fold_ok h hp l (f y a) (by omega) (.inr hy) h3 x hx
theorem szS_ok {α : Type} {f : α → Int → Int} {p : α → Prop} (h : Meas f) (hp : ∀ x a, a ≤ 1048576 → 0 ≤ f x a → p x) {l : List α} {a : Int} (ha : a ≤ 1048576) (h0 : 0 ≤ szS f l a) : l.length ≤ 1048576 ∧ ∀ x ∈ l, p x := by
  unfold szS at h0
  have hs : (szOf a l.length = -1 ∨ 0 ≤ szOf a l.length) ∧ szOf a l.length ≤ 1048576 := by unfold szOf; split <;> omega
  refine ⟨?_, fold_ok h hp l _ hs.2 hs.1 h0⟩
  rcases hs.1 with e | e
  · have := (fold_meas h l _ hs.2 (.inl e)).2.1 (by omega); omega
  · unfold szOf at e; split at e <;> omega
theorem szOf_ok {a : Int} {n : Nat} (ha : a ≤ 1048576) (h0 : 0 ≤ szOf a n) : n ≤ 1048576 := by unfold szOf at h0; split at h0 <;> omega
/-- One more part of a list. -/
theorem fold_take {α : Type} [Inhabited α] {f : α → Int → Int} {l : List α} {i : Nat} {a : Int} (hi : i < l.length) : (l.take (i + 1)).foldl (fun a x => f x a) a = f (l.getD i default) ((l.take i).foldl (fun a x => f x a) a) := by
  have e : l.getD i default = l[i] := by simp [hi]
  rw [e, List.take_succ_eq_append_getElem hi, List.foldl_append]; rfl
theorem fold_stop {α : Type} [Inhabited α] {f : α → Int → Int} (h : Meas f) {l : List α} {i : Nat} {a : Int} (hi : i < l.length) (ha : a ≤ 1048576) (h0 : a = -1 ∨ 0 ≤ a) (hn : f (l.getD i default) ((l.take i).foldl (fun a x => f x a) a) < 0) : l.foldl (fun a x => f x a) a = -1 := by
  rw [← fold_take (f := f) hi] at hn
  have e : l.foldl (fun a x => f x a) a = (l.drop (i + 1)).foldl (fun a x => f x a) ((l.take (i + 1)).foldl (fun a x => f x a) a) := by
    rw [← List.foldl_append, List.take_append_drop]
  rw [e]
  have k := fold_meas h (l.take (i + 1)) a ha h0
  exact (fold_meas h _ _ (by omega) k.1).2.1 hn
theorem fit_rows2 {α : Type} {f : α → List AV} {p : α → Prop} {rs : List LSh} (h : ∀ r, fitsL rs r → ∃ x : α, r = f x ∧ p x) : ∀ {rows : List (List AV)}, (∀ r ∈ rows, fitsL rs r) → ∃ l : List α, rows = l.map f ∧ ∀ x ∈ l, p x
  | [], _ => ⟨[], rfl, by simp⟩
  | r :: rows, k => by
    obtain ⟨x, rfl, hx⟩ := h r (k r (by simp))
    obtain ⟨l, rfl, hl⟩ := fit_rows2 h (rows := rows) fun r' h' => k r' (by simp [h'])
    exact ⟨x :: l, rfl, by simpa using ⟨hx, hl⟩⟩
theorem getD_mem' {α : Type} [Inhabited α] {l : List α} {i : Nat} (h : i < l.length) : l.getD i default ∈ l := by simp [h]
def Zone.fitp (s : Zone) : Prop := s.nm.toList.length ≤ 9223372036854775807
def Zone.sz (s : Zone) (z0 : Int) : Int := chk (z0 - (s.nm.toList.length : Nat)) (fun z1 => z1)
theorem meas_Zone : Meas Zone.sz := fun s => chk_sub _ (measP_id)
def Seen.fitp (s : Seen) : Prop := s.fl.toList.length ≤ 9223372036854775807
def Seen.sz (s : Seen) (z0 : Int) : Int := chk (z0 - (s.fl.toList.length : Nat)) (fun z1 => z1)
theorem meas_Seen : Meas Seen.sz := fun s => chk_sub _ (measP_id)
def Own.fitp (s : Own) : Prop := s.fl.toList.length ≤ 9223372036854775807 ∧ s.dst.toList.length ≤ 9223372036854775807 ∧ s.tu.length ≤ 9223372036854775807 ∧ s.nx.length ≤ 9223372036854775807 ∧ (s.gr.length ≤ 9223372036854775807 ∧ ∀ y ∈ s.gr, y.toList.length ≤ 9223372036854775807)
def Own.sz (s : Own) (z0 : Int) : Int := chk (z0 - (s.fl.toList.length : Nat)) (fun z1 => chk (z1 - (s.dst.toList.length : Nat)) (fun z2 => chk (szOf z2 s.tu.length) (fun z3 => chk (szOf z3 s.nx.length) (fun z4 => chk (szS szStr s.gr z4) (fun z5 => z5)))))
theorem meas_Own : Meas Own.sz := fun s => chk_sub _ (Meas1.p (chk_sub _ (Meas1.p (chk_g (fun a => meas_len s.tu a) (Meas1.p (chk_g (fun a => meas_len s.nx a) (Meas1.p (chk_g (fun a => meas_szS meas_str s.gr a) (measP_id)))))))))
theorem Own.sz_ok {s : Own} {a : Int} (ha : a ≤ 1048576) (h : 0 ≤ s.sz a) : s.small := by
  unfold Own.sz at h
  have b0 : a ≤ 1048576 := ha
  obtain ⟨p0, h⟩ := chk_ok h
  have b1 : (a) - (s.fl.toList.length : Nat) ≤ 1048576 := by omega
  obtain ⟨p1, h⟩ := chk_ok h
  have b2 : ((a) - (s.fl.toList.length : Nat)) - (s.dst.toList.length : Nat) ≤ 1048576 := by omega
  obtain ⟨p2, h⟩ := chk_ok h
  have b3 : szOf (((a) - (s.fl.toList.length : Nat)) - (s.dst.toList.length : Nat)) s.tu.length ≤ 1048576 := by have := (meas_len s.tu (((a) - (s.fl.toList.length : Nat)) - (s.dst.toList.length : Nat)) b2).2.2; simp only at this; omega
  have k2 := szOf_ok b2 p2
  obtain ⟨p3, h⟩ := chk_ok h
  have b4 : szOf (szOf (((a) - (s.fl.toList.length : Nat)) - (s.dst.toList.length : Nat)) s.tu.length) s.nx.length ≤ 1048576 := by have := (meas_len s.nx (szOf (((a) - (s.fl.toList.length : Nat)) - (s.dst.toList.length : Nat)) s.tu.length) b3).2.2; simp only at this; omega
  have k3 := szOf_ok b3 p3
  obtain ⟨p4, h⟩ := chk_ok h
  have b5 : szS szStr s.gr (szOf (szOf (((a) - (s.fl.toList.length : Nat)) - (s.dst.toList.length : Nat)) s.tu.length) s.nx.length) ≤ 1048576 := by have := (meas_szS meas_str s.gr (szOf (szOf (((a) - (s.fl.toList.length : Nat)) - (s.dst.toList.length : Nat)) s.tu.length) s.nx.length) b4).2.2; omega
  have k4 := szS_ok (p := fun _ => True) meas_str (fun _ _ _ _ => trivial) b4 p4
  exact ⟨k2, k3, k4.1⟩
def Part.fitp (s : Part) : Prop := s.fl.toList.length ≤ 9223372036854775807 ∧ s.bx.length ≤ 9223372036854775807
def Part.small (s : Part) : Prop := s.bx.length ≤ 1048576
def Part.sz (s : Part) (z0 : Int) : Int := chk (z0 - (s.fl.toList.length : Nat)) (fun z1 => chk (szOf z1 s.bx.length) (fun z2 => z2))
theorem meas_Part : Meas Part.sz := fun s => chk_sub _ (Meas1.p (chk_g (fun a => meas_len s.bx a) (measP_id)))
theorem Part.sz_ok {s : Part} {a : Int} (ha : a ≤ 1048576) (h : 0 ≤ s.sz a) : s.small := by
  unfold Part.sz at h
  have b0 : a ≤ 1048576 := ha
  obtain ⟨p0, h⟩ := chk_ok h
  have b1 : (a) - (s.fl.toList.length : Nat) ≤ 1048576 := by omega
  obtain ⟨p1, h⟩ := chk_ok h
  have b2 : szOf ((a) - (s.fl.toList.length : Nat)) s.bx.length ≤ 1048576 := by have := (meas_len s.bx ((a) - (s.fl.toList.length : Nat)) b1).2.2; simp only at this; omega
  have k1 := szOf_ok b1 p1
  exact k1
def Book.fitp (s : Book) : Prop := (s.own.length ≤ 9223372036854775807 ∧ ∀ y ∈ s.own, y.fitp) ∧ (s.parts.length ≤ 9223372036854775807 ∧ ∀ y ∈ s.parts, y.fitp) ∧ (s.seen.length ≤ 9223372036854775807 ∧ ∀ y ∈ s.seen, y.fitp)
def Book.sz (s : Book) (z0 : Int) : Int := chk (szS Own.sz s.own z0) (fun z1 => chk (szS Part.sz s.parts z1) (fun z2 => chk (szS Seen.sz s.seen z2) (fun z3 => z3)))
theorem meas_Book : Meas Book.sz := fun s => chk_g (fun a => meas_szS meas_Own s.own a) (Meas1.p (chk_g (fun a => meas_szS meas_Part s.parts a) (Meas1.p (chk_g (fun a => meas_szS meas_Seen s.seen a) (measP_id)))))
theorem Book.sz_ok {s : Book} {a : Int} (ha : a ≤ 1048576) (h : 0 ≤ s.sz a) : s.small := by
  unfold Book.sz at h
  have b0 : a ≤ 1048576 := ha
  obtain ⟨p0, h⟩ := chk_ok h
  have b1 : szS Own.sz s.own (a) ≤ 1048576 := by have := (meas_szS meas_Own s.own (a) b0).2.2; omega
  have k0 := szS_ok (p := fun y => Own.small y) meas_Own (fun x a h1 h2 => Own.sz_ok h1 h2) b0 p0
  obtain ⟨p1, h⟩ := chk_ok h
  have b2 : szS Part.sz s.parts (szS Own.sz s.own (a)) ≤ 1048576 := by have := (meas_szS meas_Part s.parts (szS Own.sz s.own (a)) b1).2.2; omega
  have k1 := szS_ok (p := fun y => Part.small y) meas_Part (fun x a h1 h2 => Part.sz_ok h1 h2) b1 p1
  obtain ⟨p2, h⟩ := chk_ok h
  have b3 : szS Seen.sz s.seen (szS Part.sz s.parts (szS Own.sz s.own (a))) ≤ 1048576 := by have := (meas_szS meas_Seen s.seen (szS Part.sz s.parts (szS Own.sz s.own (a))) b2).2.2; omega
  have k2 := szS_ok (p := fun _ => True) meas_Seen (fun _ _ _ _ => trivial) b2 p2
  exact ⟨k0, k1, k2.1⟩
theorem c_szStringS (t : Nat) (l : List ByteArray) (a : Int) (ha : 0 ≤ a ∧ a ≤ 1048576) (hl : l.length ≤ 9223372036854775807 ∧ ∀ y ∈ l, y.toList.length ≤ 9223372036854775807) : Contract P 105 [.sl t 1 (l.map srow), .int .i64 a] [] (.int .i64 (szS szStr l a)) [] := by
  refine fn_sound (Env.nil P) hm k_laws_szStringS (nlb rfl) rfl ?_; unfold s_laws_szStringS; simp (maxSteps := 2000000) only [bitvec_to_nat, reduceIte, Nat.reduceEqDiff, Nat.reduceAdd, Nat.reduceLeDiff, reduceCtorEq, Nat.reduceBEq, Nat.reduceLT, Nat.reduceMod, fmc, srow, un_s, List.take_zero, List.foldl_nil]
  have hz : szOf a l.length = if a - l.length < 0 then -1 else a - l.length := rfl
  refine ⟨by omega, fun h1 => ?_, fun h1 => ?_⟩
  · unfold szS
    rw [(fold_meas meas_str l _ (by omega) (by omega)).2.1 (by omega)]
  have e0 : szOf a l.length = a - l.length := if_neg h1
  refine loop_st (fun i : Nat => [(1, .int .i64 ((l.take i).foldl (fun a x => szStr x a) (a - l.length))), (5, .int .i64 i)]) (fun _ => []) (fun i => i ≤ l.length ∧ 0 ≤ (l.take i).foldl (fun a x => szStr x a) (a - l.length)) (fun i => l.length - i) (0) (by simp only [u_E0, u_E1, u_M0, u_M1, w_setE0, w_setE1, w_setM0, w_setM1, reduceIte, Nat.reduceEqDiff]; exact ⟨by repeat' (first | exact trivial | refine ⟨.inr rfl, ?_⟩), by repeat' (first | exact trivial | refine ⟨rfl, ?_⟩), by first | rfl | simp [closedB, refsIn, refsInL, refsInO, dom, refsInL_nr, *], by first | rfl | simp [keepB, dom]⟩) ?_ ?_
  · simp only [List.take_zero, List.foldl_nil]; omega
  intro i hi NX hN
  unfold l_laws_szStringS_0; simp (maxSteps := 2000000) only [bitvec_to_nat, reduceIte, Nat.reduceEqDiff, Nat.reduceAdd, Nat.reduceLeDiff, reduceCtorEq, Nat.reduceBEq, Nat.reduceLT, Nat.reduceMod, fmc, srow, un_s, List.take_zero, List.foldl_nil]
  have hm := (fold_meas meas_str (l.take i) (a - l.length) (by omega) (by omega)).2.2
  have hg : i < l.length → (l.getD i default).toList.length ≤ 9223372036854775807 := fun h => hl.2 _ (getD_mem' h)
  have hn : i < l.length → (l.take (i + 1)).foldl (fun a x => szStr x a) (a - l.length) = szStr (l.getD i default) ((l.take i).foldl (fun a x => szStr x a) (a - l.length)) := fun h => fold_take h
  have hs : i < l.length → szStr (l.getD i default) ((l.take i).foldl (fun a x => szStr x a) (a - l.length)) < 0 → szS szStr l a = -1 := fun h h2 => by unfold szS; rw [e0]; exact fold_stop meas_str h (by omega) (by omega) h2
  have hd : szStr (l.getD i default) ((l.take i).foldl (fun a x => szStr x a) (a - l.length)) = if ((l.take i).foldl (fun a x => szStr x a) (a - l.length)) - ((l.getD i default).toList.length : Nat) < 0 then -1 else ((l.take i).foldl (fun a x => szStr x a) (a - l.length)) - ((l.getD i default).toList.length : Nat) := rfl
  refine ⟨fun h2 => ⟨by omega, by omega, by omega, fun h3 => by rw [hs (by omega) (by omega)], fun h3 => ⟨by omega, ?_⟩⟩, fun h2 => ?_⟩
  · have e := hn (by omega)
    rw [hd, if_neg h3] at e
    refine hN (i + 1) _ (by simp only [e, List.length_append, List.length_cons, List.length_nil, Nat.zero_add, List.map_append, List.map_cons, List.map_nil, u_E0, u_E1, u_M0, u_M1, w_setE0, w_setE1, w_setM0, w_setM1, reduceIte, Nat.reduceEqDiff]; exact ⟨by repeat' (first | exact trivial | refine ⟨.inr rfl, ?_⟩), by repeat' (first | exact trivial | refine ⟨rfl, ?_⟩), by first | rfl | simp [closedB, refsIn, refsInL, refsInO, dom, refsInL_nr, *], by first | rfl | simp [keepB, dom]⟩) ?_ ?_
    · exact ⟨by omega, by omega⟩
    · omega
  · have e : i = l.length := by omega
    subst e
    simp only [List.take_length]; unfold szS; rw [e0]
def t_szStringS : List AV → Option (Prop × AV)
  | [.sl lt 1 lx, .int .i64 b] => some ((((lx.map unS).map srow = lx)) ∧ ((0 ≤ b ∧ b ≤ 1048576) ∧ ((lx.map unS).length ≤ 9223372036854775807 ∧ ∀ y ∈ (lx.map unS), y.toList.length ≤ 9223372036854775807)), .int .i64 (szS szStr (lx.map unS) b))
  | _ => none
theorem h_szStringS : ∀ args p v, t_szStringS args = some (p, v) → p → Contract P 105 args [] v [] ∧ noref v = true ∧ No99 v := by
  intro args p v h1 h2
  unfold t_szStringS at h1
  split at h1
  · rename_i lt lx b
    cases h1
    obtain ⟨e0, HP⟩ := h2
    have := c_szStringS lt (lx.map unS) b HP.1 HP.2
    exact ⟨by simpa only [e0] using this, rfl, trivial⟩
  · cases h1
theorem c_szZone (s : Zone) (a : Int) (ha : 0 ≤ a ∧ a ≤ 1048576) (hs : s.fitp) : Contract P 31 [.agg s.row, .int .i64 a] [] (.int .i64 (s.sz a)) [] := by
  unfold Zone.fitp at hs
  simp only [Zone.row]
  refine fn_sound (Env.nil P) hm k_laws_szHandZone (nlb rfl) rfl ?_; unfold s_laws_szHandZone; simp (maxSteps := 2000000) only [bitvec_to_nat, reduceIte, Nat.reduceEqDiff, Nat.reduceAdd, Nat.reduceLeDiff, reduceCtorEq, Nat.reduceBEq, Nat.reduceLT, Nat.reduceMod, fmc, int_toBitVec_meta, method_specs_simp]
  unfold Zone.sz
  repeat' (first | with_reducible apply And.intro | with_reducible intro _)
  all_goals first | omega | (exact hs) | (exact hs.1) | (exact hs.2.1) | (exact hs.2.2) | (exact hs.2.2.1) | (exact hs.2.2.2) | (exact hs.2.2.2.1) | (exact hs.2.2.2.2) | (exact hs.1.1) | (exact hs.1.2) | (exact hs.2.1.1) | (exact hs.2.1.2) | (unfold chk; grind) | grind
def t_szZone : List AV → Option (Prop × AV)
  | [.agg [.str s_nm, .int .i64 s_x0, .int .i64 s_y0, .int .i64 s_x1, .int .i64 s_y1], .int .i64 b] => some ((True) ∧ ((0 ≤ b ∧ b ≤ 1048576) ∧ (Zone.fitp (Zone.mk s_nm s_x0 s_y0 s_x1 s_y1))), .int .i64 (Zone.sz (Zone.mk s_nm s_x0 s_y0 s_x1 s_y1) b))
  | _ => none
theorem h_szZone : ∀ args p v, t_szZone args = some (p, v) → p → Contract P 31 args [] v [] ∧ noref v = true ∧ No99 v := by
  intro args p v h1 h2
  unfold t_szZone at h1
  split at h1
  · rename_i s_nm s_x0 s_y0 s_x1 s_y1 b
    cases h1
    obtain ⟨_, HP⟩ := h2
    have := c_szZone (Zone.mk s_nm s_x0 s_y0 s_x1 s_y1) b HP.1 HP.2
    exact ⟨by simpa only [Zone.row] using this, rfl, trivial⟩
  · cases h1
theorem c_szZoneS (t : Nat) (l : List Zone) (a : Int) (ha : 0 ≤ a ∧ a ≤ 1048576) (hl : l.length ≤ 9223372036854775807 ∧ ∀ y ∈ l, y.fitp) : Contract P 7 [.sl t 5 (l.map Zone.row), .int .i64 a] [] (.int .i64 (szS Zone.sz l a)) [] := by
  refine fn_sound ((Env.nil P).add 31 t_szZone h_szZone) hm k_laws_szHandZoneS (nlb rfl) rfl ?_; unfold s_laws_szHandZoneS; simp (maxSteps := 2000000) only [bitvec_to_nat, reduceIte, Nat.reduceEqDiff, Nat.reduceAdd, Nat.reduceLeDiff, reduceCtorEq, Nat.reduceBEq, Nat.reduceLT, Nat.reduceMod, fmc, t_szZone, int_toBitVec_meta, method_specs_simp, List.take_zero, List.foldl_nil]
  have hz : szOf a l.length = if a - l.length < 0 then -1 else a - l.length := rfl
  refine ⟨by omega, fun h1 => ?_, fun h1 => ?_⟩
  · unfold szS
    rw [(fold_meas meas_Zone l _ (by omega) (by omega)).2.1 (by omega)]
  have e0 : szOf a l.length = a - l.length := if_neg h1
  refine loop_st (fun i : Nat => [(1, .int .i64 ((l.take i).foldl (fun a x => x.sz a) (a - l.length))), (5, .int .i64 i)]) (fun _ => []) (fun i => i ≤ l.length ∧ 0 ≤ (l.take i).foldl (fun a x => x.sz a) (a - l.length)) (fun i => l.length - i) (0) (by simp only [u_E0, u_E1, u_M0, u_M1, w_setE0, w_setE1, w_setM0, w_setM1, reduceIte, Nat.reduceEqDiff]; exact ⟨by repeat' (first | exact trivial | refine ⟨.inr rfl, ?_⟩), by repeat' (first | exact trivial | refine ⟨rfl, ?_⟩), by first | rfl | simp [closedB, refsIn, refsInL, refsInO, dom, refsInL_nr, *], by first | rfl | simp [keepB, dom]⟩) ?_ ?_
  · simp only [List.take_zero, List.foldl_nil]; omega
  intro i hi NX hN
  have hm := (fold_meas meas_Zone (l.take i) (a - l.length) (by omega) (by omega)).2.2
  have hg : i < l.length → (l.getD i default).fitp := fun h => hl.2 _ (getD_mem' h)
  have hn : i < l.length → (l.take (i + 1)).foldl (fun a x => x.sz a) (a - l.length) = (l.getD i default).sz ((l.take i).foldl (fun a x => x.sz a) (a - l.length)) := fun h => fold_take (f := Zone.sz) h
  have hs : i < l.length → (l.getD i default).sz ((l.take i).foldl (fun a x => x.sz a) (a - l.length)) < 0 → szS Zone.sz l a = -1 := fun h h2 => by unfold szS; rw [e0]; exact fold_stop meas_Zone h (by omega) (by omega) h2
  unfold l_laws_szHandZoneS_0; simp (maxSteps := 2000000) only [bitvec_to_nat, reduceIte, Nat.reduceEqDiff, Nat.reduceAdd, Nat.reduceLeDiff, reduceCtorEq, Nat.reduceBEq, Nat.reduceLT, Nat.reduceMod, fmc, t_szZone, int_toBitVec_meta, method_specs_simp, List.take_zero, List.foldl_nil]
  refine ⟨fun h2 => ⟨by omega, by omega, ⟨⟨by omega, by omega⟩, hg (by omega)⟩, fun h3 => by rw [hs (by omega) h3], fun h3 => ⟨by omega, ?_⟩⟩, fun h2 => ?_⟩
  · have e := hn (by omega)
    refine hN (i + 1) _ (by simp only [e, List.length_append, List.length_cons, List.length_nil, Nat.zero_add, List.map_append, List.map_cons, List.map_nil, u_E0, u_E1, u_M0, u_M1, w_setE0, w_setE1, w_setM0, w_setM1, reduceIte, Nat.reduceEqDiff]; exact ⟨by repeat' (first | exact trivial | refine ⟨.inr rfl, ?_⟩), by repeat' (first | exact trivial | refine ⟨rfl, ?_⟩), by first | rfl | simp [closedB, refsIn, refsInL, refsInO, dom, refsInL_nr, *], by first | rfl | simp [keepB, dom]⟩) ?_ ?_
    · exact ⟨by omega, by rw [e]; omega⟩
    · omega
  · have e : i = l.length := by omega
    subst e
    simp only [List.take_length]; unfold szS; rw [e0]
def t_szZoneS : List AV → Option (Prop × AV)
  | [.sl lt 5 lx, .int .i64 b] => some ((((lx.map unZone).map Zone.row = lx)) ∧ ((0 ≤ b ∧ b ≤ 1048576) ∧ ((lx.map unZone).length ≤ 9223372036854775807 ∧ ∀ y ∈ (lx.map unZone), Zone.fitp y)), .int .i64 (szS Zone.sz (lx.map unZone) b))
  | _ => none
theorem h_szZoneS : ∀ args p v, t_szZoneS args = some (p, v) → p → Contract P 7 args [] v [] ∧ noref v = true ∧ No99 v := by
  intro args p v h1 h2
  unfold t_szZoneS at h1
  split at h1
  · rename_i lt lx b
    cases h1
    obtain ⟨e0, HP⟩ := h2
    have := c_szZoneS lt (lx.map unZone) b HP.1 HP.2
    exact ⟨by simpa only [e0] using this, rfl, trivial⟩
  · cases h1
theorem c_szSeen (s : Seen) (a : Int) (ha : 0 ≤ a ∧ a ≤ 1048576) (hs : s.fitp) : Contract P 76 [.agg s.row, .int .i64 a] [] (.int .i64 (s.sz a)) [] := by
  unfold Seen.fitp at hs
  simp only [Seen.row]
  refine fn_sound (Env.nil P) hm k_laws_szHandSeen (nlb rfl) rfl ?_; unfold s_laws_szHandSeen; simp (maxSteps := 2000000) only [bitvec_to_nat, reduceIte, Nat.reduceEqDiff, Nat.reduceAdd, Nat.reduceLeDiff, reduceCtorEq, Nat.reduceBEq, Nat.reduceLT, Nat.reduceMod, fmc, int_toBitVec_meta, method_specs_simp]
  unfold Seen.sz
  repeat' (first | with_reducible apply And.intro | with_reducible intro _)
  all_goals first | omega | (exact hs) | (exact hs.1) | (exact hs.2.1) | (exact hs.2.2) | (exact hs.2.2.1) | (exact hs.2.2.2) | (exact hs.2.2.2.1) | (exact hs.2.2.2.2) | (exact hs.1.1) | (exact hs.1.2) | (exact hs.2.1.1) | (exact hs.2.1.2) | (unfold chk; grind) | grind
def t_szSeen : List AV → Option (Prop × AV)
  | [.agg [.str s_fl, .int .i64 s_nr], .int .i64 b] => some ((True) ∧ ((0 ≤ b ∧ b ≤ 1048576) ∧ (Seen.fitp (Seen.mk s_fl s_nr))), .int .i64 (Seen.sz (Seen.mk s_fl s_nr) b))
  | _ => none
theorem h_szSeen : ∀ args p v, t_szSeen args = some (p, v) → p → Contract P 76 args [] v [] ∧ noref v = true ∧ No99 v := by
  intro args p v h1 h2
  unfold t_szSeen at h1
  split at h1
  · rename_i s_fl s_nr b
    cases h1
    obtain ⟨_, HP⟩ := h2
    have := c_szSeen (Seen.mk s_fl s_nr) b HP.1 HP.2
    exact ⟨by simpa only [Seen.row] using this, rfl, trivial⟩
  · cases h1
theorem c_szSeenS (t : Nat) (l : List Seen) (a : Int) (ha : 0 ≤ a ∧ a ≤ 1048576) (hl : l.length ≤ 9223372036854775807 ∧ ∀ y ∈ l, y.fitp) : Contract P 34 [.sl t 2 (l.map Seen.row), .int .i64 a] [] (.int .i64 (szS Seen.sz l a)) [] := by
  refine fn_sound ((Env.nil P).add 76 t_szSeen h_szSeen) hm k_laws_szHandSeenS (nlb rfl) rfl ?_; unfold s_laws_szHandSeenS; simp (maxSteps := 2000000) only [bitvec_to_nat, reduceIte, Nat.reduceEqDiff, Nat.reduceAdd, Nat.reduceLeDiff, reduceCtorEq, Nat.reduceBEq, Nat.reduceLT, Nat.reduceMod, fmc, t_szSeen, int_toBitVec_meta, method_specs_simp, List.take_zero, List.foldl_nil]
  have hz : szOf a l.length = if a - l.length < 0 then -1 else a - l.length := rfl
  refine ⟨by omega, fun h1 => ?_, fun h1 => ?_⟩
  · unfold szS
    rw [(fold_meas meas_Seen l _ (by omega) (by omega)).2.1 (by omega)]
  have e0 : szOf a l.length = a - l.length := if_neg h1
  refine loop_st (fun i : Nat => [(1, .int .i64 ((l.take i).foldl (fun a x => x.sz a) (a - l.length))), (5, .int .i64 i)]) (fun _ => []) (fun i => i ≤ l.length ∧ 0 ≤ (l.take i).foldl (fun a x => x.sz a) (a - l.length)) (fun i => l.length - i) (0) (by simp only [u_E0, u_E1, u_M0, u_M1, w_setE0, w_setE1, w_setM0, w_setM1, reduceIte, Nat.reduceEqDiff]; exact ⟨by repeat' (first | exact trivial | refine ⟨.inr rfl, ?_⟩), by repeat' (first | exact trivial | refine ⟨rfl, ?_⟩), by first | rfl | simp [closedB, refsIn, refsInL, refsInO, dom, refsInL_nr, *], by first | rfl | simp [keepB, dom]⟩) ?_ ?_
  · simp only [List.take_zero, List.foldl_nil]; omega
  intro i hi NX hN
  have hm := (fold_meas meas_Seen (l.take i) (a - l.length) (by omega) (by omega)).2.2
  have hg : i < l.length → (l.getD i default).fitp := fun h => hl.2 _ (getD_mem' h)
  have hn : i < l.length → (l.take (i + 1)).foldl (fun a x => x.sz a) (a - l.length) = (l.getD i default).sz ((l.take i).foldl (fun a x => x.sz a) (a - l.length)) := fun h => fold_take (f := Seen.sz) h
  have hs : i < l.length → (l.getD i default).sz ((l.take i).foldl (fun a x => x.sz a) (a - l.length)) < 0 → szS Seen.sz l a = -1 := fun h h2 => by unfold szS; rw [e0]; exact fold_stop meas_Seen h (by omega) (by omega) h2
  unfold l_laws_szHandSeenS_0; simp (maxSteps := 2000000) only [bitvec_to_nat, reduceIte, Nat.reduceEqDiff, Nat.reduceAdd, Nat.reduceLeDiff, reduceCtorEq, Nat.reduceBEq, Nat.reduceLT, Nat.reduceMod, fmc, t_szSeen, int_toBitVec_meta, method_specs_simp, List.take_zero, List.foldl_nil]
  refine ⟨fun h2 => ⟨by omega, by omega, ⟨⟨by omega, by omega⟩, hg (by omega)⟩, fun h3 => by rw [hs (by omega) h3], fun h3 => ⟨by omega, ?_⟩⟩, fun h2 => ?_⟩
  · have e := hn (by omega)
    refine hN (i + 1) _ (by simp only [e, List.length_append, List.length_cons, List.length_nil, Nat.zero_add, List.map_append, List.map_cons, List.map_nil, u_E0, u_E1, u_M0, u_M1, w_setE0, w_setE1, w_setM0, w_setM1, reduceIte, Nat.reduceEqDiff]; exact ⟨by repeat' (first | exact trivial | refine ⟨.inr rfl, ?_⟩), by repeat' (first | exact trivial | refine ⟨rfl, ?_⟩), by first | rfl | simp [closedB, refsIn, refsInL, refsInO, dom, refsInL_nr, *], by first | rfl | simp [keepB, dom]⟩) ?_ ?_
    · exact ⟨by omega, by rw [e]; omega⟩
    · omega
  · have e : i = l.length := by omega
    subst e
    simp only [List.take_length]; unfold szS; rw [e0]
def t_szSeenS : List AV → Option (Prop × AV)
  | [.sl lt 2 lx, .int .i64 b] => some ((((lx.map unSeen).map Seen.row = lx)) ∧ ((0 ≤ b ∧ b ≤ 1048576) ∧ ((lx.map unSeen).length ≤ 9223372036854775807 ∧ ∀ y ∈ (lx.map unSeen), Seen.fitp y)), .int .i64 (szS Seen.sz (lx.map unSeen) b))
  | _ => none
theorem h_szSeenS : ∀ args p v, t_szSeenS args = some (p, v) → p → Contract P 34 args [] v [] ∧ noref v = true ∧ No99 v := by
  intro args p v h1 h2
  unfold t_szSeenS at h1
  split at h1
  · rename_i lt lx b
    cases h1
    obtain ⟨e0, HP⟩ := h2
    have := c_szSeenS lt (lx.map unSeen) b HP.1 HP.2
    exact ⟨by simpa only [e0] using this, rfl, trivial⟩
  · cases h1
theorem c_szPart (s : Part) (a : Int) (ha : 0 ≤ a ∧ a ≤ 1048576) (hs : s.fitp) : Contract P 75 [.agg (s.row 1), .int .i64 a] [] (.int .i64 (s.sz a)) [] := by
  unfold Part.fitp at hs
  simp only [Part.row]
  refine fn_sound ((Env.nil P).add 23 t_szBoxS h_szBoxS) hm k_laws_szHandPart (nlb rfl) rfl ?_; unfold s_laws_szHandPart; simp (maxSteps := 2000000) only [bitvec_to_nat, reduceIte, Nat.reduceEqDiff, Nat.reduceAdd, Nat.reduceLeDiff, reduceCtorEq, Nat.reduceBEq, Nat.reduceLT, Nat.reduceMod, fmc, t_szBoxS, int_toBitVec_meta, method_specs_simp]
  unfold Part.sz
  have qbx : (szOf (a - (s.fl.toList.length : Nat)) s.bx.length) ≤ max (a - (s.fl.toList.length : Nat)) (-1) := by unfold szOf; split <;> omega
  repeat' (first | with_reducible apply And.intro | with_reducible intro _)
  all_goals first | omega | (exact hs) | (exact hs.1) | (exact hs.2.1) | (exact hs.2.2) | (exact hs.2.2.1) | (exact hs.2.2.2) | (exact hs.2.2.2.1) | (exact hs.2.2.2.2) | (exact hs.1.1) | (exact hs.1.2) | (exact hs.2.1.1) | (exact hs.2.1.2) | (unfold chk; grind) | grind
def t_szPart : List AV → Option (Prop × AV)
  | [.agg [.str s_fl, .int .i64 s_nr, .sl 1 6 s_bx], .int .i64 b] => some ((((s_bx.map unBox).map Box6.row = s_bx)) ∧ ((0 ≤ b ∧ b ≤ 1048576) ∧ (Part.fitp (Part.mk s_fl s_nr (s_bx.map unBox)))), .int .i64 (Part.sz (Part.mk s_fl s_nr (s_bx.map unBox)) b))
  | _ => none
theorem h_szPart : ∀ args p v, t_szPart args = some (p, v) → p → Contract P 75 args [] v [] ∧ noref v = true ∧ No99 v := by
  intro args p v h1 h2
  unfold t_szPart at h1
  split at h1
  · rename_i s_fl s_nr s_bx b
    cases h1
    obtain ⟨e0, HP⟩ := h2
    have := c_szPart (Part.mk s_fl s_nr (s_bx.map unBox)) b HP.1 HP.2
    exact ⟨by simpa only [e0, Part.row] using this, rfl, trivial⟩
  · cases h1
theorem c_szPartS (t : Nat) (l : List Part) (a : Int) (ha : 0 ≤ a ∧ a ≤ 1048576) (hl : l.length ≤ 9223372036854775807 ∧ ∀ y ∈ l, y.fitp) : Contract P 33 [.sl t 3 (l.map (Part.row 1)), .int .i64 a] [] (.int .i64 (szS Part.sz l a)) [] := by
  refine fn_sound ((Env.nil P).add 75 t_szPart h_szPart) hm k_laws_szHandPartS (nlb rfl) rfl ?_; unfold s_laws_szHandPartS; simp (maxSteps := 2000000) only [bitvec_to_nat, reduceIte, Nat.reduceEqDiff, Nat.reduceAdd, Nat.reduceLeDiff, reduceCtorEq, Nat.reduceBEq, Nat.reduceLT, Nat.reduceMod, fmc, t_szPart, int_toBitVec_meta, method_specs_simp, List.take_zero, List.foldl_nil]
  have hz : szOf a l.length = if a - l.length < 0 then -1 else a - l.length := rfl
  refine ⟨by omega, fun h1 => ?_, fun h1 => ?_⟩
  · unfold szS
    rw [(fold_meas meas_Part l _ (by omega) (by omega)).2.1 (by omega)]
  have e0 : szOf a l.length = a - l.length := if_neg h1
  refine loop_st (fun i : Nat => [(1, .int .i64 ((l.take i).foldl (fun a x => x.sz a) (a - l.length))), (5, .int .i64 i)]) (fun _ => []) (fun i => i ≤ l.length ∧ 0 ≤ (l.take i).foldl (fun a x => x.sz a) (a - l.length)) (fun i => l.length - i) (0) (by simp only [u_E0, u_E1, u_M0, u_M1, w_setE0, w_setE1, w_setM0, w_setM1, reduceIte, Nat.reduceEqDiff]; exact ⟨by repeat' (first | exact trivial | refine ⟨.inr rfl, ?_⟩), by repeat' (first | exact trivial | refine ⟨rfl, ?_⟩), by first | rfl | simp [closedB, refsIn, refsInL, refsInO, dom, refsInL_nr, *], by first | rfl | simp [keepB, dom]⟩) ?_ ?_
  · simp only [List.take_zero, List.foldl_nil]; omega
  intro i hi NX hN
  have hm := (fold_meas meas_Part (l.take i) (a - l.length) (by omega) (by omega)).2.2
  have hg : i < l.length → (l.getD i default).fitp := fun h => hl.2 _ (getD_mem' h)
  have hn : i < l.length → (l.take (i + 1)).foldl (fun a x => x.sz a) (a - l.length) = (l.getD i default).sz ((l.take i).foldl (fun a x => x.sz a) (a - l.length)) := fun h => fold_take (f := Part.sz) h
  have hs : i < l.length → (l.getD i default).sz ((l.take i).foldl (fun a x => x.sz a) (a - l.length)) < 0 → szS Part.sz l a = -1 := fun h h2 => by unfold szS; rw [e0]; exact fold_stop meas_Part h (by omega) (by omega) h2
  unfold l_laws_szHandPartS_0; simp (maxSteps := 2000000) only [bitvec_to_nat, reduceIte, Nat.reduceEqDiff, Nat.reduceAdd, Nat.reduceLeDiff, reduceCtorEq, Nat.reduceBEq, Nat.reduceLT, Nat.reduceMod, fmc, t_szPart, int_toBitVec_meta, method_specs_simp, List.take_zero, List.foldl_nil]
  refine ⟨fun h2 => ⟨by omega, by omega, ⟨⟨by omega, by omega⟩, hg (by omega)⟩, fun h3 => by rw [hs (by omega) h3], fun h3 => ⟨by omega, ?_⟩⟩, fun h2 => ?_⟩
  · have e := hn (by omega)
    refine hN (i + 1) _ (by simp only [e, List.length_append, List.length_cons, List.length_nil, Nat.zero_add, List.map_append, List.map_cons, List.map_nil, u_E0, u_E1, u_M0, u_M1, w_setE0, w_setE1, w_setM0, w_setM1, reduceIte, Nat.reduceEqDiff]; exact ⟨by repeat' (first | exact trivial | refine ⟨.inr rfl, ?_⟩), by repeat' (first | exact trivial | refine ⟨rfl, ?_⟩), by first | rfl | simp [closedB, refsIn, refsInL, refsInO, dom, refsInL_nr, *], by first | rfl | simp [keepB, dom]⟩) ?_ ?_
    · exact ⟨by omega, by rw [e]; omega⟩
    · omega
  · have e : i = l.length := by omega
    subst e
    simp only [List.take_length]; unfold szS; rw [e0]
def t_szPartS : List AV → Option (Prop × AV)
  | [.sl lt 3 lx, .int .i64 b] => some ((((lx.map unPart).map (Part.row 1) = lx)) ∧ ((0 ≤ b ∧ b ≤ 1048576) ∧ ((lx.map unPart).length ≤ 9223372036854775807 ∧ ∀ y ∈ (lx.map unPart), Part.fitp y)), .int .i64 (szS Part.sz (lx.map unPart) b))
  | _ => none
theorem h_szPartS : ∀ args p v, t_szPartS args = some (p, v) → p → Contract P 33 args [] v [] ∧ noref v = true ∧ No99 v := by
  intro args p v h1 h2
  unfold t_szPartS at h1
  split at h1
  · rename_i lt lx b
    cases h1
    obtain ⟨e0, HP⟩ := h2
    have := c_szPartS lt (lx.map unPart) b HP.1 HP.2
    exact ⟨by simpa only [e0] using this, rfl, trivial⟩
  · cases h1
theorem c_szOwn (s : Own) (a : Int) (ha : 0 ≤ a ∧ a ≤ 1048576) (hs : s.fitp) : Contract P 74 [.agg (s.row 1), .int .i64 a] [] (.int .i64 (s.sz a)) [] := by
  unfold Own.fitp at hs
  simp only [Own.row]
  refine fn_sound (((Env.nil P).add 23 t_szBoxS h_szBoxS).add 105 t_szStringS h_szStringS) hm k_laws_szHandOwn (nlb rfl) rfl ?_; unfold s_laws_szHandOwn; simp (maxSteps := 2000000) only [bitvec_to_nat, reduceIte, Nat.reduceEqDiff, Nat.reduceAdd, Nat.reduceLeDiff, reduceCtorEq, Nat.reduceBEq, Nat.reduceLT, Nat.reduceMod, fmc, t_szBoxS, t_szStringS, int_toBitVec_meta, method_specs_simp]
  unfold Own.sz
  have qtu : (szOf ((a - (s.fl.toList.length : Nat)) - (s.dst.toList.length : Nat)) s.tu.length) ≤ max ((a - (s.fl.toList.length : Nat)) - (s.dst.toList.length : Nat)) (-1) := by unfold szOf; split <;> omega
  have qnx : (szOf (szOf ((a - (s.fl.toList.length : Nat)) - (s.dst.toList.length : Nat)) s.tu.length) s.nx.length) ≤ max (szOf ((a - (s.fl.toList.length : Nat)) - (s.dst.toList.length : Nat)) s.tu.length) (-1) := by unfold szOf; split <;> omega
  have qgr : (szS szStr s.gr (szOf (szOf ((a - (s.fl.toList.length : Nat)) - (s.dst.toList.length : Nat)) s.tu.length) s.nx.length)) ≤ max (szOf (szOf ((a - (s.fl.toList.length : Nat)) - (s.dst.toList.length : Nat)) s.tu.length) s.nx.length) (-1) := (meas_szS meas_str s.gr (szOf (szOf ((a - (s.fl.toList.length : Nat)) - (s.dst.toList.length : Nat)) s.tu.length) s.nx.length) (by omega)).2.2
  repeat' (first | with_reducible apply And.intro | with_reducible intro _)
  all_goals first | omega | (exact hs) | (exact hs.1) | (exact hs.2.1) | (exact hs.2.2) | (exact hs.2.2.1) | (exact hs.2.2.2) | (exact hs.2.2.2.1) | (exact hs.2.2.2.2) | (exact hs.1.1) | (exact hs.1.2) | (exact hs.2.1.1) | (exact hs.2.1.2) | (unfold chk; grind) | grind
def t_szOwn : List AV → Option (Prop × AV)
  | [.agg [.str s_fl, .int .i64 s_st, .int .i64 s_tn, .str s_dst, .int .i64 s_la, .int .i64 s_nr, .sl 1 6 s_tu, .int .i64 s_wi, .sl 1 6 s_nx, .sl 1 1 s_gr, .bool s_sent], .int .i64 b] => some ((((s_tu.map unBox).map Box6.row = s_tu) ∧ ((s_nx.map unBox).map Box6.row = s_nx) ∧ ((s_gr.map unS).map srow = s_gr)) ∧ ((0 ≤ b ∧ b ≤ 1048576) ∧ (Own.fitp (Own.mk s_fl s_st s_tn s_dst s_la s_nr (s_tu.map unBox) s_wi (s_nx.map unBox) (s_gr.map unS) s_sent))), .int .i64 (Own.sz (Own.mk s_fl s_st s_tn s_dst s_la s_nr (s_tu.map unBox) s_wi (s_nx.map unBox) (s_gr.map unS) s_sent) b))
  | _ => none
theorem h_szOwn : ∀ args p v, t_szOwn args = some (p, v) → p → Contract P 74 args [] v [] ∧ noref v = true ∧ No99 v := by
  intro args p v h1 h2
  unfold t_szOwn at h1
  split at h1
  · rename_i s_fl s_st s_tn s_dst s_la s_nr s_tu s_wi s_nx s_gr s_sent b
    cases h1
    obtain ⟨⟨e0, e1, e2⟩, HP⟩ := h2
    have := c_szOwn (Own.mk s_fl s_st s_tn s_dst s_la s_nr (s_tu.map unBox) s_wi (s_nx.map unBox) (s_gr.map unS) s_sent) b HP.1 HP.2
    exact ⟨by simpa only [e0, e1, e2, Own.row] using this, rfl, trivial⟩
  · cases h1
theorem c_szOwnS (t : Nat) (l : List Own) (a : Int) (ha : 0 ≤ a ∧ a ≤ 1048576) (hl : l.length ≤ 9223372036854775807 ∧ ∀ y ∈ l, y.fitp) : Contract P 32 [.sl t 11 (l.map (Own.row 1)), .int .i64 a] [] (.int .i64 (szS Own.sz l a)) [] := by
  refine fn_sound ((Env.nil P).add 74 t_szOwn h_szOwn) hm k_laws_szHandOwnS (nlb rfl) rfl ?_; unfold s_laws_szHandOwnS; simp (maxSteps := 2000000) only [bitvec_to_nat, reduceIte, Nat.reduceEqDiff, Nat.reduceAdd, Nat.reduceLeDiff, reduceCtorEq, Nat.reduceBEq, Nat.reduceLT, Nat.reduceMod, fmc, t_szOwn, int_toBitVec_meta, method_specs_simp, List.take_zero, List.foldl_nil]
  have hz : szOf a l.length = if a - l.length < 0 then -1 else a - l.length := rfl
  refine ⟨by omega, fun h1 => ?_, fun h1 => ?_⟩
  · unfold szS
    rw [(fold_meas meas_Own l _ (by omega) (by omega)).2.1 (by omega)]
  have e0 : szOf a l.length = a - l.length := if_neg h1
  refine loop_st (fun i : Nat => [(1, .int .i64 ((l.take i).foldl (fun a x => x.sz a) (a - l.length))), (5, .int .i64 i)]) (fun _ => []) (fun i => i ≤ l.length ∧ 0 ≤ (l.take i).foldl (fun a x => x.sz a) (a - l.length)) (fun i => l.length - i) (0) (by simp only [u_E0, u_E1, u_M0, u_M1, w_setE0, w_setE1, w_setM0, w_setM1, reduceIte, Nat.reduceEqDiff]; exact ⟨by repeat' (first | exact trivial | refine ⟨.inr rfl, ?_⟩), by repeat' (first | exact trivial | refine ⟨rfl, ?_⟩), by first | rfl | simp [closedB, refsIn, refsInL, refsInO, dom, refsInL_nr, *], by first | rfl | simp [keepB, dom]⟩) ?_ ?_
  · simp only [List.take_zero, List.foldl_nil]; omega
  intro i hi NX hN
  have hm := (fold_meas meas_Own (l.take i) (a - l.length) (by omega) (by omega)).2.2
  have hg : i < l.length → (l.getD i default).fitp := fun h => hl.2 _ (getD_mem' h)
  have hn : i < l.length → (l.take (i + 1)).foldl (fun a x => x.sz a) (a - l.length) = (l.getD i default).sz ((l.take i).foldl (fun a x => x.sz a) (a - l.length)) := fun h => fold_take (f := Own.sz) h
  have hs : i < l.length → (l.getD i default).sz ((l.take i).foldl (fun a x => x.sz a) (a - l.length)) < 0 → szS Own.sz l a = -1 := fun h h2 => by unfold szS; rw [e0]; exact fold_stop meas_Own h (by omega) (by omega) h2
  unfold l_laws_szHandOwnS_0; simp (maxSteps := 2000000) only [bitvec_to_nat, reduceIte, Nat.reduceEqDiff, Nat.reduceAdd, Nat.reduceLeDiff, reduceCtorEq, Nat.reduceBEq, Nat.reduceLT, Nat.reduceMod, fmc, t_szOwn, int_toBitVec_meta, method_specs_simp, List.take_zero, List.foldl_nil]
  refine ⟨fun h2 => ⟨by omega, by omega, ⟨⟨by omega, by omega⟩, hg (by omega)⟩, fun h3 => by rw [hs (by omega) h3], fun h3 => ⟨by omega, ?_⟩⟩, fun h2 => ?_⟩
  · have e := hn (by omega)
    refine hN (i + 1) _ (by simp only [e, List.length_append, List.length_cons, List.length_nil, Nat.zero_add, List.map_append, List.map_cons, List.map_nil, u_E0, u_E1, u_M0, u_M1, w_setE0, w_setE1, w_setM0, w_setM1, reduceIte, Nat.reduceEqDiff]; exact ⟨by repeat' (first | exact trivial | refine ⟨.inr rfl, ?_⟩), by repeat' (first | exact trivial | refine ⟨rfl, ?_⟩), by first | rfl | simp [closedB, refsIn, refsInL, refsInO, dom, refsInL_nr, *], by first | rfl | simp [keepB, dom]⟩) ?_ ?_
    · exact ⟨by omega, by rw [e]; omega⟩
    · omega
  · have e : i = l.length := by omega
    subst e
    simp only [List.take_length]; unfold szS; rw [e0]
def t_szOwnS : List AV → Option (Prop × AV)
  | [.sl lt 11 lx, .int .i64 b] => some ((((lx.map unOwn).map (Own.row 1) = lx)) ∧ ((0 ≤ b ∧ b ≤ 1048576) ∧ ((lx.map unOwn).length ≤ 9223372036854775807 ∧ ∀ y ∈ (lx.map unOwn), Own.fitp y)), .int .i64 (szS Own.sz (lx.map unOwn) b))
  | _ => none
theorem h_szOwnS : ∀ args p v, t_szOwnS args = some (p, v) → p → Contract P 32 args [] v [] ∧ noref v = true ∧ No99 v := by
  intro args p v h1 h2
  unfold t_szOwnS at h1
  split at h1
  · rename_i lt lx b
    cases h1
    obtain ⟨e0, HP⟩ := h2
    have := c_szOwnS lt (lx.map unOwn) b HP.1 HP.2
    exact ⟨by simpa only [e0] using this, rfl, trivial⟩
  · cases h1
theorem c_szBook (s : Book) (a : Int) (ha : 0 ≤ a ∧ a ≤ 1048576) (hs : s.fitp) : Contract P 8 [.agg (s.row 1), .int .i64 a] [] (.int .i64 (s.sz a)) [] := by
  unfold Book.fitp at hs
  simp only [Book.row]
  refine fn_sound ((((Env.nil P).add 32 t_szOwnS h_szOwnS).add 33 t_szPartS h_szPartS).add 34 t_szSeenS h_szSeenS) hm k_laws_szHandBook (nlb rfl) rfl ?_; unfold s_laws_szHandBook; simp (maxSteps := 2000000) only [bitvec_to_nat, reduceIte, Nat.reduceEqDiff, Nat.reduceAdd, Nat.reduceLeDiff, reduceCtorEq, Nat.reduceBEq, Nat.reduceLT, Nat.reduceMod, fmc, t_szOwnS, t_szPartS, t_szSeenS, int_toBitVec_meta, method_specs_simp]
  unfold Book.sz
  have qown : (szS Own.sz s.own a) ≤ max a (-1) := (meas_szS meas_Own s.own a (by omega)).2.2
  have qparts : (szS Part.sz s.parts (szS Own.sz s.own a)) ≤ max (szS Own.sz s.own a) (-1) := (meas_szS meas_Part s.parts (szS Own.sz s.own a) (by omega)).2.2
  have qseen : (szS Seen.sz s.seen (szS Part.sz s.parts (szS Own.sz s.own a))) ≤ max (szS Part.sz s.parts (szS Own.sz s.own a)) (-1) := (meas_szS meas_Seen s.seen (szS Part.sz s.parts (szS Own.sz s.own a)) (by omega)).2.2
  repeat' (first | with_reducible apply And.intro | with_reducible intro _)
  all_goals first | omega | (exact hs) | (exact hs.1) | (exact hs.2.1) | (exact hs.2.2) | (exact hs.2.2.1) | (exact hs.2.2.2) | (exact hs.2.2.2.1) | (exact hs.2.2.2.2) | (exact hs.1.1) | (exact hs.1.2) | (exact hs.2.1.1) | (exact hs.2.1.2) | (unfold chk; grind) | grind
def t_szBook : List AV → Option (Prop × AV)
  | [.agg [.sl 1 11 s_own, .sl 1 3 s_parts, .sl 1 2 s_seen], .int .i64 b] => some ((((s_own.map unOwn).map (Own.row 1) = s_own) ∧ ((s_parts.map unPart).map (Part.row 1) = s_parts) ∧ ((s_seen.map unSeen).map Seen.row = s_seen)) ∧ ((0 ≤ b ∧ b ≤ 1048576) ∧ (Book.fitp (Book.mk (s_own.map unOwn) (s_parts.map unPart) (s_seen.map unSeen)))), .int .i64 (Book.sz (Book.mk (s_own.map unOwn) (s_parts.map unPart) (s_seen.map unSeen)) b))
  | _ => none
theorem h_szBook : ∀ args p v, t_szBook args = some (p, v) → p → Contract P 8 args [] v [] ∧ noref v = true ∧ No99 v := by
  intro args p v h1 h2
  unfold t_szBook at h1
  split at h1
  · rename_i s_own s_parts s_seen b
    cases h1
    obtain ⟨⟨e0, e1, e2⟩, HP⟩ := h2
    have := c_szBook (Book.mk (s_own.map unOwn) (s_parts.map unPart) (s_seen.map unSeen)) b HP.1 HP.2
    exact ⟨by simpa only [e0, e1, e2, Book.row] using this, rfl, trivial⟩
  · cases h1
end
end Go.Ve

namespace Go.Ve
noncomputable section
open Go.Proofs
set_option maxRecDepth 100000
theorem set_ByteArray {lst : List ByteArray} {idx : Nat} {v : ByteArray} : (lst.map srow).set idx (setSeg ((lst.map srow).getD idx []) 0 [.str v]) = (lst.set idx v).map srow :=
  set_rows (α := ByteArray) (f := srow) (fun s => v) fun x => by simp [srow, setSeg]
def to_ByteArray (a : List ByteArray) (i : Nat) : List ByteArray := a.take i ++ List.replicate (a.length - i) ⟨#[]⟩
theorem to_ByteArray_st {a : List ByteArray} {i : Nat} (h : i < a.length) : (to_ByteArray a i).set i (a.getD i default) = to_ByteArray a (i + 1) := by
  refine List.ext_getElem (by simp [to_ByteArray]; omega) fun j h1 h2 => ?_
  by_cases e : j = i
  · subst e
    simp [to_ByteArray, List.getElem_append, h]
    intro h9; omega
  · simp only [List.getElem_set_ne (Ne.symm e)]
    simp only [to_ByteArray, List.getElem_append, List.length_take, List.getElem_take, List.getElem_replicate]
    split <;> split <;> first | rfl | omega
theorem c_toByteArrayS (t : Nat) (a : List ByteArray) (ha : a.length ≤ 1048576) : Contract P 112 [.sl t 1 (a.map srow)] [] (.sl 0 1 (a.map srow)) [] := by
  refine fn_sound (Env.nil P) hm k_laws_toStringS (nlb rfl) rfl ?_; unfold s_laws_toStringS; simp (maxSteps := 2000000) only [bitvec_to_nat, reduceIte, Nat.reduceEqDiff, Nat.reduceAdd, Nat.reduceLeDiff, reduceCtorEq, Nat.reduceBEq, Nat.reduceLT, Nat.reduceMod, fmc, int_toBitVec_meta, method_specs_simp, set_ByteArray, Nat.sub_zero]
  have m0 : List.replicate a.length [.str ⟨#[]⟩] = (to_ByteArray a 0).map srow := by simp [to_ByteArray, srow]
  refine ⟨by omega, ?_⟩
  refine loop_st (fun i : Nat => [(4, .int .i64 i)]) (fun i => [(107, .arr 9 0 1 ((to_ByteArray a i).map srow))]) (fun i => i ≤ a.length) (fun i => a.length - i) 0 (by simp only [u_E0, u_E1, u_M0, u_M1, w_setE0, w_setE1, w_setM0, w_setM1, reduceIte, Nat.reduceEqDiff]; exact ⟨by repeat' (first | exact trivial | refine ⟨.inr rfl, ?_⟩), ⟨congrArg (fun g => some (AObj.arr 9 0 1 g)) m0, trivial⟩, rfl, rfl⟩) (Nat.zero_le _) ?_
  intro i hi NX hN
  skip
  unfold l_laws_toStringS_0; simp (maxSteps := 2000000) only [bitvec_to_nat, reduceIte, Nat.reduceEqDiff, Nat.reduceAdd, Nat.reduceLeDiff, reduceCtorEq, Nat.reduceBEq, Nat.reduceLT, Nat.reduceMod, fmc, int_toBitVec_meta, method_specs_simp, set_ByteArray, Nat.sub_zero]
  refine ⟨fun h => ?_, fun h => ?_⟩
  · repeat' (first | with_reducible apply And.intro | with_reducible intro _)
    all_goals first
      | omega
      | rfl
      | exact hs2 (by omega)
      | (have e := to_ByteArray_st (a := a) (i := i) (by omega)
         try simp only [srow] at *
         refine hN (i + 1) _ ⟨by repeat' (first | exact trivial | refine ⟨.inr rfl, ?_⟩), ⟨congrArg (fun g => some (AObj.arr 9 0 1 (List.map srow g))) e, trivial⟩, rfl, rfl⟩ ?_ ?_ <;> omega)
  · have e : i = a.length := by omega
    subst e
    simp only [to_ByteArray, List.take_length, Nat.sub_self, List.replicate_zero, List.append_nil]
    try rw [List.take_of_length_le (by simp)]
def t_toStringS : List AV → Option (Prop × AV)
  | [.sl st 1 sx] => some ((((sx.map unS).map srow = sx)) ∧ ((sx.map unS).length ≤ 1048576), .sl 0 1 ((sx.map unS).map srow))
  | _ => none
theorem h_toStringS : ∀ args p v, t_toStringS args = some (p, v) → p → Contract P 112 args [] v [] ∧ noref v = true ∧ No99 v := by
  intro args p v h1 h2
  unfold t_toStringS at h1
  split at h1
  · rename_i st sx
    cases h1
    obtain ⟨e0, HP⟩ := h2
    have := c_toByteArrayS st (sx.map unS) HP
    exact ⟨by simpa only [e0] using this, rfl, by simp [No99, No99L, no99_box, no99_i, no99_str, no99_Zone, no99_Word, no99_Own, no99_Part, no99_Seen, no99_Book, no99_Sector, no99_HCraft, no99_World, -List.map_map]⟩
  · cases h1
theorem c_eqByteArrayS (t t' : Nat) (p q : List ByteArray) (hp : p.length ≤ 4611686018427387904) : Contract P 117 [.sl t 1 (p.map srow), .sl t' 1 (q.map srow)] [] (.bool (decide (p = q))) [] := by
  refine fn_sound (Env.nil P) hm k_laws_eqStringS (nlb rfl) rfl ?_; unfold s_laws_eqStringS; simp (maxSteps := 2000000) only [bitvec_to_nat, reduceIte, Nat.reduceEqDiff, Nat.reduceAdd, Nat.reduceLeDiff, reduceCtorEq, Nat.reduceBEq, Nat.reduceLT, Nat.reduceMod, fmc, int_toBitVec_meta, method_specs_simp]
  refine ⟨fun h1 h => h1 (by rw [h]), fun h1 => ?_⟩
  refine loop_st (fun i : Nat => [(5, .int .i64 i)]) (fun _ => []) (fun i => i ≤ p.length ∧ ∀ j, j < i → p.getD j default = q.getD j default) (fun i => p.length - i) (0) (by simp only [u_E0, u_E1, u_M0, u_M1, w_setE0, w_setE1, w_setM0, w_setM1, reduceIte, Nat.reduceEqDiff]; exact ⟨by repeat' (first | exact trivial | refine ⟨.inr rfl, ?_⟩), by repeat' (first | exact trivial | refine ⟨rfl, ?_⟩), by first | rfl | simp [closedB, refsIn, refsInL, refsInO, dom, refsInL_nr, *], by first | rfl | simp [keepB, dom]⟩) ?_ ?_
  · exact ⟨Nat.zero_le _, by intro j hj; omega⟩
  intro i hi NX hN
  unfold l_laws_eqStringS_0; simp (maxSteps := 2000000) only [bitvec_to_nat, reduceIte, Nat.reduceEqDiff, Nat.reduceAdd, Nat.reduceLeDiff, reduceCtorEq, Nat.reduceBEq, Nat.reduceLT, Nat.reduceMod, fmc, int_toBitVec_meta, method_specs_simp]
  skip
  repeat' (first | with_reducible apply And.intro | with_reducible intro _)
  all_goals first
    | omega
    | (refine hN (i + 1) _ (by simp only [u_E0, u_E1, u_M0, u_M1, w_setE0, w_setE1, w_setM0, w_setM1, reduceIte, Nat.reduceEqDiff]; exact ⟨by repeat' (first | exact trivial | refine ⟨.inr rfl, ?_⟩), by repeat' (first | exact trivial | refine ⟨rfl, ?_⟩), by first | rfl | simp [closedB, refsIn, refsInL, refsInO, dom, refsInL_nr, *], by first | rfl | simp [keepB, dom]⟩) ?_ ?_
       · exact ⟨by omega, all_snoc hi.2 (by with_reducible assumption)⟩
       · omega)
    | (intro h; subst h; exact absurd rfl (by with_reducible assumption))
    | (exact ext_of (by omega) fun j hj => hi.2 j (by omega))
    | grind
def t_eqStringS : List AV → Option (Prop × AV)
  | [.sl ct 1 cx, .sl dt 1 dx] => some ((((cx.map unS).map srow = cx) ∧ ((dx.map unS).map srow = dx)) ∧ ((cx.map unS).length ≤ 4611686018427387904), .bool (decide ((cx.map unS) = (dx.map unS))))
  | _ => none
theorem h_eqStringS : ∀ args p v, t_eqStringS args = some (p, v) → p → Contract P 117 args [] v [] ∧ noref v = true ∧ No99 v := by
  intro args p v h1 h2
  unfold t_eqStringS at h1
  split at h1
  · rename_i ct cx dt dx
    cases h1
    obtain ⟨⟨e0, e1⟩, HP⟩ := h2
    have := c_eqByteArrayS ct dt (cx.map unS) (dx.map unS) HP
    exact ⟨by simpa only [e0, e1] using this, rfl, trivial⟩
  · cases h1
theorem c_toZone (s : Zone) : Contract P 41 [.agg (s.row)] [] (.agg (s.row)) [] := by
  simp only [Zone.row]
  refine fn_sound (Env.nil P) hm k_laws_toHandZone (nlb rfl) rfl ?_; unfold s_laws_toHandZone; simp (maxSteps := 2000000) only [bitvec_to_nat, reduceIte, Nat.reduceEqDiff, Nat.reduceAdd, Nat.reduceLeDiff, reduceCtorEq, Nat.reduceBEq, Nat.reduceLT, Nat.reduceMod, fmc, int_toBitVec_meta, method_specs_simp]
  all_goals trivial
def t_toZone : List AV → Option (Prop × AV)
  | [.agg [.str s_nm, .int .i64 s_x0, .int .i64 s_y0, .int .i64 s_x1, .int .i64 s_y1]] => some ((True) ∧ (True), .agg (Zone.row (Zone.mk s_nm s_x0 s_y0 s_x1 s_y1)))
  | _ => none
theorem h_toZone : ∀ args p v, t_toZone args = some (p, v) → p → Contract P 41 args [] v [] ∧ noref v = true ∧ No99 v := by
  intro args p v h1 h2
  unfold t_toZone at h1
  split at h1
  · rename_i s_nm s_x0 s_y0 s_x1 s_y1
    cases h1
    obtain ⟨_, HP⟩ := h2
    have := c_toZone (Zone.mk s_nm s_x0 s_y0 s_x1 s_y1)
    exact ⟨by simpa only [Zone.row] using this, rfl, by simp [Zone.row, No99, No99L, no99_box, no99_i, no99_str, no99_Zone, no99_Word, no99_Own, no99_Part, no99_Seen, no99_Book, no99_Sector, no99_HCraft, no99_World, -List.map_map]⟩
  · cases h1
theorem set_Zone {lst : List Zone} {idx : Nat} {vnm : ByteArray} {vx0 : Int} {vy0 : Int} {vx1 : Int} {vy1 : Int} : (lst.map Zone.row).set idx (setSeg ((lst.map Zone.row).getD idx []) 0 [.str vnm, .int .i64 vx0, .int .i64 vy0, .int .i64 vx1, .int .i64 vy1]) = (lst.set idx (Zone.mk vnm vx0 vy0 vx1 vy1)).map Zone.row :=
  set_rows (α := Zone) (f := Zone.row) (fun s => (Zone.mk vnm vx0 vy0 vx1 vy1)) fun x => by simp [Zone.row, setSeg]
def to_Zone (a : List Zone) (i : Nat) : List Zone := a.take i ++ List.replicate (a.length - i) ⟨⟨#[]⟩, 0, 0, 0, 0⟩
theorem to_Zone_st {a : List Zone} {i : Nat} (h : i < a.length) : (to_Zone a i).set i (a.getD i default) = to_Zone a (i + 1) := by
  refine List.ext_getElem (by simp [to_Zone]; omega) fun j h1 h2 => ?_
  by_cases e : j = i
  · subst e
    simp [to_Zone, List.getElem_append, h]
    intro h9; omega
  · simp only [List.getElem_set_ne (Ne.symm e)]
    simp only [to_Zone, List.getElem_append, List.length_take, List.getElem_take, List.getElem_replicate]
    split <;> split <;> first | rfl | omega
theorem c_toZoneS (t : Nat) (a : List Zone) (ha : a.length ≤ 1048576) : Contract P 10 [.sl t 5 (a.map Zone.row)] [] (.sl 0 5 (a.map Zone.row)) [] := by
  refine fn_sound ((Env.nil P).add 41 t_toZone h_toZone) hm k_laws_toHandZoneS (nlb rfl) rfl ?_; unfold s_laws_toHandZoneS; simp (maxSteps := 2000000) only [bitvec_to_nat, reduceIte, Nat.reduceEqDiff, Nat.reduceAdd, Nat.reduceLeDiff, reduceCtorEq, Nat.reduceBEq, Nat.reduceLT, Nat.reduceMod, fmc, t_toZone, int_toBitVec_meta, method_specs_simp, set_Zone, Nat.sub_zero]
  have m0 : List.replicate a.length [.str ⟨#[]⟩, .int .i64 0, .int .i64 0, .int .i64 0, .int .i64 0] = (to_Zone a 0).map Zone.row := by simp [to_Zone, Zone.row]
  refine ⟨by omega, ?_⟩
  refine loop_st (fun i : Nat => [(4, .int .i64 i)]) (fun i => [(107, .arr 76 0 5 ((to_Zone a i).map Zone.row))]) (fun i => i ≤ a.length) (fun i => a.length - i) 0 (by simp only [u_E0, u_E1, u_M0, u_M1, w_setE0, w_setE1, w_setM0, w_setM1, reduceIte, Nat.reduceEqDiff]; exact ⟨by repeat' (first | exact trivial | refine ⟨.inr rfl, ?_⟩), ⟨congrArg (fun g => some (AObj.arr 76 0 5 g)) m0, trivial⟩, rfl, rfl⟩) (Nat.zero_le _) ?_
  intro i hi NX hN
  skip
  unfold l_laws_toHandZoneS_0; simp (maxSteps := 2000000) only [bitvec_to_nat, reduceIte, Nat.reduceEqDiff, Nat.reduceAdd, Nat.reduceLeDiff, reduceCtorEq, Nat.reduceBEq, Nat.reduceLT, Nat.reduceMod, fmc, t_toZone, int_toBitVec_meta, method_specs_simp, set_Zone, Nat.sub_zero]
  refine ⟨fun h => ?_, fun h => ?_⟩
  · repeat' (first | with_reducible apply And.intro | with_reducible intro _)
    all_goals first
      | omega
      | rfl
      | exact hs2 (by omega)
      | (have e := to_Zone_st (a := a) (i := i) (by omega)
         try simp only [Zone.row] at *
         refine hN (i + 1) _ ⟨by repeat' (first | exact trivial | refine ⟨.inr rfl, ?_⟩), ⟨congrArg (fun g => some (AObj.arr 76 0 5 (List.map Zone.row g))) e, trivial⟩, rfl, rfl⟩ ?_ ?_ <;> omega)
  · have e : i = a.length := by omega
    subst e
    simp only [to_Zone, List.take_length, Nat.sub_self, List.replicate_zero, List.append_nil]
    try rw [List.take_of_length_le (by simp)]
theorem c_eqZone (c d : Zone)  : Contract P 48 [.agg (c.row), .agg (d.row)] [] (.bool (decide (c = d))) [] := by
  obtain ⟨c_nm, c_x0, c_y0, c_x1, c_y1⟩ := c
  obtain ⟨d_nm, d_x0, d_y0, d_x1, d_y1⟩ := d
  simp only [Zone.row]
  refine fn_sound (Env.nil P) hm k_laws_eqHandZone (nlb rfl) rfl ?_; unfold s_laws_eqHandZone; simp (maxSteps := 2000000) only [bitvec_to_nat, reduceIte, Nat.reduceEqDiff, Nat.reduceAdd, Nat.reduceLeDiff, reduceCtorEq, Nat.reduceBEq, Nat.reduceLT, Nat.reduceMod, fmc, int_toBitVec_meta, method_specs_simp]
  simp only [Zone.mk.injEq]
  repeat' (first | with_reducible apply And.intro | with_reducible intro _)
  all_goals first | omega | (simp_all; done) | grind
def t_eqZone : List AV → Option (Prop × AV)
  | [.agg [.str c_nm, .int .i64 c_x0, .int .i64 c_y0, .int .i64 c_x1, .int .i64 c_y1], .agg [.str d_nm, .int .i64 d_x0, .int .i64 d_y0, .int .i64 d_x1, .int .i64 d_y1]] => some ((True) ∧ (True), .bool (decide ((Zone.mk c_nm c_x0 c_y0 c_x1 c_y1) = (Zone.mk d_nm d_x0 d_y0 d_x1 d_y1))))
  | _ => none
theorem h_eqZone : ∀ args p v, t_eqZone args = some (p, v) → p → Contract P 48 args [] v [] ∧ noref v = true ∧ No99 v := by
  intro args p v h1 h2
  unfold t_eqZone at h1
  split at h1
  · rename_i c_nm c_x0 c_y0 c_x1 c_y1 d_nm d_x0 d_y0 d_x1 d_y1
    cases h1
    obtain ⟨_, HP⟩ := h2
    have := c_eqZone (Zone.mk c_nm c_x0 c_y0 c_x1 c_y1) (Zone.mk d_nm d_x0 d_y0 d_x1 d_y1)
    exact ⟨by simpa only [Zone.row, Zone.row] using this, rfl, trivial⟩
  · cases h1
theorem c_eqZoneS (t t' : Nat) (p q : List Zone) (hp : p.length ≤ 4611686018427387904) : Contract P 14 [.sl t 5 (p.map Zone.row), .sl t' 5 (q.map Zone.row)] [] (.bool (decide (p = q))) [] := by
  refine fn_sound ((Env.nil P).add 48 t_eqZone h_eqZone) hm k_laws_eqHandZoneS (nlb rfl) rfl ?_; unfold s_laws_eqHandZoneS; simp (maxSteps := 2000000) only [bitvec_to_nat, reduceIte, Nat.reduceEqDiff, Nat.reduceAdd, Nat.reduceLeDiff, reduceCtorEq, Nat.reduceBEq, Nat.reduceLT, Nat.reduceMod, fmc, t_eqZone, int_toBitVec_meta, method_specs_simp]
  refine ⟨fun h1 h => h1 (by rw [h]), fun h1 => ?_⟩
  refine loop_st (fun i : Nat => [(5, .int .i64 i)]) (fun _ => []) (fun i => i ≤ p.length ∧ ∀ j, j < i → p.getD j default = q.getD j default) (fun i => p.length - i) (0) (by simp only [u_E0, u_E1, u_M0, u_M1, w_setE0, w_setE1, w_setM0, w_setM1, reduceIte, Nat.reduceEqDiff]; exact ⟨by repeat' (first | exact trivial | refine ⟨.inr rfl, ?_⟩), by repeat' (first | exact trivial | refine ⟨rfl, ?_⟩), by first | rfl | simp [closedB, refsIn, refsInL, refsInO, dom, refsInL_nr, *], by first | rfl | simp [keepB, dom]⟩) ?_ ?_
  · exact ⟨Nat.zero_le _, by intro j hj; omega⟩
  intro i hi NX hN
  unfold l_laws_eqHandZoneS_0; simp (maxSteps := 2000000) only [bitvec_to_nat, reduceIte, Nat.reduceEqDiff, Nat.reduceAdd, Nat.reduceLeDiff, reduceCtorEq, Nat.reduceBEq, Nat.reduceLT, Nat.reduceMod, fmc, t_eqZone, int_toBitVec_meta, method_specs_simp]
  skip
  repeat' (first | with_reducible apply And.intro | with_reducible intro _)
  all_goals first
    | omega
    | (refine hN (i + 1) _ (by simp only [u_E0, u_E1, u_M0, u_M1, w_setE0, w_setE1, w_setM0, w_setM1, reduceIte, Nat.reduceEqDiff]; exact ⟨by repeat' (first | exact trivial | refine ⟨.inr rfl, ?_⟩), by repeat' (first | exact trivial | refine ⟨rfl, ?_⟩), by first | rfl | simp [closedB, refsIn, refsInL, refsInO, dom, refsInL_nr, *], by first | rfl | simp [keepB, dom]⟩) ?_ ?_
       · exact ⟨by omega, all_snoc hi.2 (by with_reducible assumption)⟩
       · omega)
    | (intro h; subst h; exact absurd rfl (by with_reducible assumption))
    | (exact ext_of (by omega) fun j hj => hi.2 j (by omega))
    | grind
def t_eqZoneS : List AV → Option (Prop × AV)
  | [.sl ct 5 cx, .sl dt 5 dx] => some ((((cx.map unZone).map Zone.row = cx) ∧ ((dx.map unZone).map Zone.row = dx)) ∧ ((cx.map unZone).length ≤ 4611686018427387904), .bool (decide ((cx.map unZone) = (dx.map unZone))))
  | _ => none
theorem h_eqZoneS : ∀ args p v, t_eqZoneS args = some (p, v) → p → Contract P 14 args [] v [] ∧ noref v = true ∧ No99 v := by
  intro args p v h1 h2
  unfold t_eqZoneS at h1
  split at h1
  · rename_i ct cx dt dx
    cases h1
    obtain ⟨⟨e0, e1⟩, HP⟩ := h2
    have := c_eqZoneS ct dt (cx.map unZone) (dx.map unZone) HP
    exact ⟨by simpa only [e0, e1] using this, rfl, trivial⟩
  · cases h1
theorem c_toSeen (s : Seen) : Contract P 85 [.agg (s.row)] [] (.agg (s.row)) [] := by
  simp only [Seen.row]
  refine fn_sound (Env.nil P) hm k_laws_toHandSeen (nlb rfl) rfl ?_; unfold s_laws_toHandSeen; simp (maxSteps := 2000000) only [bitvec_to_nat, reduceIte, Nat.reduceEqDiff, Nat.reduceAdd, Nat.reduceLeDiff, reduceCtorEq, Nat.reduceBEq, Nat.reduceLT, Nat.reduceMod, fmc, int_toBitVec_meta, method_specs_simp]
  all_goals trivial
def t_toSeen : List AV → Option (Prop × AV)
  | [.agg [.str s_fl, .int .i64 s_nr]] => some ((True) ∧ (True), .agg (Seen.row (Seen.mk s_fl s_nr)))
  | _ => none
theorem h_toSeen : ∀ args p v, t_toSeen args = some (p, v) → p → Contract P 85 args [] v [] ∧ noref v = true ∧ No99 v := by
  intro args p v h1 h2
  unfold t_toSeen at h1
  split at h1
  · rename_i s_fl s_nr
    cases h1
    obtain ⟨_, HP⟩ := h2
    have := c_toSeen (Seen.mk s_fl s_nr)
    exact ⟨by simpa only [Seen.row] using this, rfl, by simp [Seen.row, No99, No99L, no99_box, no99_i, no99_str, no99_Zone, no99_Word, no99_Own, no99_Part, no99_Seen, no99_Book, no99_Sector, no99_HCraft, no99_World, -List.map_map]⟩
  · cases h1
theorem set_Seen {lst : List Seen} {idx : Nat} {vfl : ByteArray} {vnr : Int} : (lst.map Seen.row).set idx (setSeg ((lst.map Seen.row).getD idx []) 0 [.str vfl, .int .i64 vnr]) = (lst.set idx (Seen.mk vfl vnr)).map Seen.row :=
  set_rows (α := Seen) (f := Seen.row) (fun s => (Seen.mk vfl vnr)) fun x => by simp [Seen.row, setSeg]
def to_Seen (a : List Seen) (i : Nat) : List Seen := a.take i ++ List.replicate (a.length - i) ⟨⟨#[]⟩, 0⟩
theorem to_Seen_st {a : List Seen} {i : Nat} (h : i < a.length) : (to_Seen a i).set i (a.getD i default) = to_Seen a (i + 1) := by
  refine List.ext_getElem (by simp [to_Seen]; omega) fun j h1 h2 => ?_
  by_cases e : j = i
  · subst e
    simp [to_Seen, List.getElem_append, h]
    intro h9; omega
  · simp only [List.getElem_set_ne (Ne.symm e)]
    simp only [to_Seen, List.getElem_append, List.length_take, List.getElem_take, List.getElem_replicate]
    split <;> split <;> first | rfl | omega
theorem c_toSeenS (t : Nat) (a : List Seen) (ha : a.length ≤ 1048576) : Contract P 44 [.sl t 2 (a.map Seen.row)] [] (.sl 0 2 (a.map Seen.row)) [] := by
  refine fn_sound ((Env.nil P).add 85 t_toSeen h_toSeen) hm k_laws_toHandSeenS (nlb rfl) rfl ?_; unfold s_laws_toHandSeenS; simp (maxSteps := 2000000) only [bitvec_to_nat, reduceIte, Nat.reduceEqDiff, Nat.reduceAdd, Nat.reduceLeDiff, reduceCtorEq, Nat.reduceBEq, Nat.reduceLT, Nat.reduceMod, fmc, t_toSeen, int_toBitVec_meta, method_specs_simp, set_Seen, Nat.sub_zero]
  have m0 : List.replicate a.length [.str ⟨#[]⟩, .int .i64 0] = (to_Seen a 0).map Seen.row := by simp [to_Seen, Seen.row]
  refine ⟨by omega, ?_⟩
  refine loop_st (fun i : Nat => [(4, .int .i64 i)]) (fun i => [(107, .arr 118 0 2 ((to_Seen a i).map Seen.row))]) (fun i => i ≤ a.length) (fun i => a.length - i) 0 (by simp only [u_E0, u_E1, u_M0, u_M1, w_setE0, w_setE1, w_setM0, w_setM1, reduceIte, Nat.reduceEqDiff]; exact ⟨by repeat' (first | exact trivial | refine ⟨.inr rfl, ?_⟩), ⟨congrArg (fun g => some (AObj.arr 118 0 2 g)) m0, trivial⟩, rfl, rfl⟩) (Nat.zero_le _) ?_
  intro i hi NX hN
  skip
  unfold l_laws_toHandSeenS_0; simp (maxSteps := 2000000) only [bitvec_to_nat, reduceIte, Nat.reduceEqDiff, Nat.reduceAdd, Nat.reduceLeDiff, reduceCtorEq, Nat.reduceBEq, Nat.reduceLT, Nat.reduceMod, fmc, t_toSeen, int_toBitVec_meta, method_specs_simp, set_Seen, Nat.sub_zero]
  refine ⟨fun h => ?_, fun h => ?_⟩
  · repeat' (first | with_reducible apply And.intro | with_reducible intro _)
    all_goals first
      | omega
      | rfl
      | exact hs2 (by omega)
      | (have e := to_Seen_st (a := a) (i := i) (by omega)
         try simp only [Seen.row] at *
         refine hN (i + 1) _ ⟨by repeat' (first | exact trivial | refine ⟨.inr rfl, ?_⟩), ⟨congrArg (fun g => some (AObj.arr 118 0 2 (List.map Seen.row g))) e, trivial⟩, rfl, rfl⟩ ?_ ?_ <;> omega)
  · have e : i = a.length := by omega
    subst e
    simp only [to_Seen, List.take_length, Nat.sub_self, List.replicate_zero, List.append_nil]
    try rw [List.take_of_length_le (by simp)]
def t_toSeenS : List AV → Option (Prop × AV)
  | [.sl st 2 sx] => some ((((sx.map unSeen).map Seen.row = sx)) ∧ ((sx.map unSeen).length ≤ 1048576), .sl 0 2 ((sx.map unSeen).map Seen.row))
  | _ => none
theorem h_toSeenS : ∀ args p v, t_toSeenS args = some (p, v) → p → Contract P 44 args [] v [] ∧ noref v = true ∧ No99 v := by
  intro args p v h1 h2
  unfold t_toSeenS at h1
  split at h1
  · rename_i st sx
    cases h1
    obtain ⟨e0, HP⟩ := h2
    have := c_toSeenS st (sx.map unSeen) HP
    exact ⟨by simpa only [e0] using this, rfl, by simp [No99, No99L, no99_box, no99_i, no99_str, no99_Zone, no99_Word, no99_Own, no99_Part, no99_Seen, no99_Book, no99_Sector, no99_HCraft, no99_World, -List.map_map]⟩
  · cases h1
theorem c_eqSeen (c d : Seen)  : Contract P 93 [.agg (c.row), .agg (d.row)] [] (.bool (decide (c = d))) [] := by
  obtain ⟨c_fl, c_nr⟩ := c
  obtain ⟨d_fl, d_nr⟩ := d
  simp only [Seen.row]
  refine fn_sound (Env.nil P) hm k_laws_eqHandSeen (nlb rfl) rfl ?_; unfold s_laws_eqHandSeen; simp (maxSteps := 2000000) only [bitvec_to_nat, reduceIte, Nat.reduceEqDiff, Nat.reduceAdd, Nat.reduceLeDiff, reduceCtorEq, Nat.reduceBEq, Nat.reduceLT, Nat.reduceMod, fmc, int_toBitVec_meta, method_specs_simp]
  simp only [Seen.mk.injEq]
  repeat' (first | with_reducible apply And.intro | with_reducible intro _)
  all_goals first | omega | (simp_all; done) | grind
def t_eqSeen : List AV → Option (Prop × AV)
  | [.agg [.str c_fl, .int .i64 c_nr], .agg [.str d_fl, .int .i64 d_nr]] => some ((True) ∧ (True), .bool (decide ((Seen.mk c_fl c_nr) = (Seen.mk d_fl d_nr))))
  | _ => none
theorem h_eqSeen : ∀ args p v, t_eqSeen args = some (p, v) → p → Contract P 93 args [] v [] ∧ noref v = true ∧ No99 v := by
  intro args p v h1 h2
  unfold t_eqSeen at h1
  split at h1
  · rename_i c_fl c_nr d_fl d_nr
    cases h1
    obtain ⟨_, HP⟩ := h2
    have := c_eqSeen (Seen.mk c_fl c_nr) (Seen.mk d_fl d_nr)
    exact ⟨by simpa only [Seen.row, Seen.row] using this, rfl, trivial⟩
  · cases h1
theorem c_eqSeenS (t t' : Nat) (p q : List Seen) (hp : p.length ≤ 4611686018427387904) : Contract P 51 [.sl t 2 (p.map Seen.row), .sl t' 2 (q.map Seen.row)] [] (.bool (decide (p = q))) [] := by
  refine fn_sound ((Env.nil P).add 93 t_eqSeen h_eqSeen) hm k_laws_eqHandSeenS (nlb rfl) rfl ?_; unfold s_laws_eqHandSeenS; simp (maxSteps := 2000000) only [bitvec_to_nat, reduceIte, Nat.reduceEqDiff, Nat.reduceAdd, Nat.reduceLeDiff, reduceCtorEq, Nat.reduceBEq, Nat.reduceLT, Nat.reduceMod, fmc, t_eqSeen, int_toBitVec_meta, method_specs_simp]
  refine ⟨fun h1 h => h1 (by rw [h]), fun h1 => ?_⟩
  refine loop_st (fun i : Nat => [(5, .int .i64 i)]) (fun _ => []) (fun i => i ≤ p.length ∧ ∀ j, j < i → p.getD j default = q.getD j default) (fun i => p.length - i) (0) (by simp only [u_E0, u_E1, u_M0, u_M1, w_setE0, w_setE1, w_setM0, w_setM1, reduceIte, Nat.reduceEqDiff]; exact ⟨by repeat' (first | exact trivial | refine ⟨.inr rfl, ?_⟩), by repeat' (first | exact trivial | refine ⟨rfl, ?_⟩), by first | rfl | simp [closedB, refsIn, refsInL, refsInO, dom, refsInL_nr, *], by first | rfl | simp [keepB, dom]⟩) ?_ ?_
  · exact ⟨Nat.zero_le _, by intro j hj; omega⟩
  intro i hi NX hN
  unfold l_laws_eqHandSeenS_0; simp (maxSteps := 2000000) only [bitvec_to_nat, reduceIte, Nat.reduceEqDiff, Nat.reduceAdd, Nat.reduceLeDiff, reduceCtorEq, Nat.reduceBEq, Nat.reduceLT, Nat.reduceMod, fmc, t_eqSeen, int_toBitVec_meta, method_specs_simp]
  skip
  repeat' (first | with_reducible apply And.intro | with_reducible intro _)
  all_goals first
    | omega
    | (refine hN (i + 1) _ (by simp only [u_E0, u_E1, u_M0, u_M1, w_setE0, w_setE1, w_setM0, w_setM1, reduceIte, Nat.reduceEqDiff]; exact ⟨by repeat' (first | exact trivial | refine ⟨.inr rfl, ?_⟩), by repeat' (first | exact trivial | refine ⟨rfl, ?_⟩), by first | rfl | simp [closedB, refsIn, refsInL, refsInO, dom, refsInL_nr, *], by first | rfl | simp [keepB, dom]⟩) ?_ ?_
       · exact ⟨by omega, all_snoc hi.2 (by with_reducible assumption)⟩
       · omega)
    | (intro h; subst h; exact absurd rfl (by with_reducible assumption))
    | (exact ext_of (by omega) fun j hj => hi.2 j (by omega))
    | grind
def t_eqSeenS : List AV → Option (Prop × AV)
  | [.sl ct 2 cx, .sl dt 2 dx] => some ((((cx.map unSeen).map Seen.row = cx) ∧ ((dx.map unSeen).map Seen.row = dx)) ∧ ((cx.map unSeen).length ≤ 4611686018427387904), .bool (decide ((cx.map unSeen) = (dx.map unSeen))))
  | _ => none
theorem h_eqSeenS : ∀ args p v, t_eqSeenS args = some (p, v) → p → Contract P 51 args [] v [] ∧ noref v = true ∧ No99 v := by
  intro args p v h1 h2
  unfold t_eqSeenS at h1
  split at h1
  · rename_i ct cx dt dx
    cases h1
    obtain ⟨⟨e0, e1⟩, HP⟩ := h2
    have := c_eqSeenS ct dt (cx.map unSeen) (dx.map unSeen) HP
    exact ⟨by simpa only [e0, e1] using this, rfl, trivial⟩
  · cases h1
theorem c_toPart (s : Part) (hs : s.small) : Contract P 84 [.agg (s.row 1)] [] (.agg (s.row 0)) [] := by
  unfold Part.small at hs
  simp only [Part.row]
  refine fn_sound ((Env.nil P).add 25 t_toBoxS h_toBoxS) hm k_laws_toHandPart (nlb rfl) rfl ?_; unfold s_laws_toHandPart; simp (maxSteps := 2000000) only [bitvec_to_nat, reduceIte, Nat.reduceEqDiff, Nat.reduceAdd, Nat.reduceLeDiff, reduceCtorEq, Nat.reduceBEq, Nat.reduceLT, Nat.reduceMod, fmc, t_toBoxS, int_toBitVec_meta, method_specs_simp]
  repeat' (first | with_reducible apply And.intro | with_reducible intro _)
  all_goals first | omega | grind | grind [Word.small, Own.small, Part.small, Book.small, Sector.small, HCraft.small, World.small]
def t_toPart : List AV → Option (Prop × AV)
  | [.agg [.str s_fl, .int .i64 s_nr, .sl 1 6 s_bx]] => some ((((s_bx.map unBox).map Box6.row = s_bx)) ∧ (Part.small (Part.mk s_fl s_nr (s_bx.map unBox))), .agg (Part.row 0 (Part.mk s_fl s_nr (s_bx.map unBox))))
  | _ => none
theorem h_toPart : ∀ args p v, t_toPart args = some (p, v) → p → Contract P 84 args [] v [] ∧ noref v = true ∧ No99 v := by
  intro args p v h1 h2
  unfold t_toPart at h1
  split at h1
  · rename_i s_fl s_nr s_bx
    cases h1
    obtain ⟨e0, HP⟩ := h2
    have := c_toPart (Part.mk s_fl s_nr (s_bx.map unBox)) HP
    exact ⟨by simpa only [e0, Part.row] using this, rfl, by simp [Part.row, No99, No99L, no99_box, no99_i, no99_str, no99_Zone, no99_Word, no99_Own, no99_Part, no99_Seen, no99_Book, no99_Sector, no99_HCraft, no99_World, -List.map_map]⟩
  · cases h1
theorem set_Part {lst : List Part} {idx : Nat} {vfl : ByteArray} {vnr : Int} {vbx : List Box6} : (lst.map (Part.row 0)).set idx (setSeg ((lst.map (Part.row 0)).getD idx []) 0 [.str vfl, .int .i64 vnr, .sl 0 6 (vbx.map Box6.row)]) = (lst.set idx (Part.mk vfl vnr vbx)).map (Part.row 0) :=
  set_rows (α := Part) (f := (Part.row 0)) (fun s => (Part.mk vfl vnr vbx)) fun x => by simp [Part.row, setSeg]
def to_Part (a : List Part) (i : Nat) : List Part := a.take i ++ List.replicate (a.length - i) ⟨⟨#[]⟩, 0, []⟩
theorem to_Part_st {a : List Part} {i : Nat} (h : i < a.length) : (to_Part a i).set i (a.getD i default) = to_Part a (i + 1) := by
  refine List.ext_getElem (by simp [to_Part]; omega) fun j h1 h2 => ?_
  by_cases e : j = i
  · subst e
    simp [to_Part, List.getElem_append, h]
    intro h9; omega
  · simp only [List.getElem_set_ne (Ne.symm e)]
    simp only [to_Part, List.getElem_append, List.length_take, List.getElem_take, List.getElem_replicate]
    split <;> split <;> first | rfl | omega
theorem c_toPartS (t : Nat) (a : List Part) (ha : a.length ≤ 1048576) (hs : ∀ x ∈ a, x.small) : Contract P 43 [.sl t 3 (a.map (Part.row 1))] [] (.sl 0 3 (a.map (Part.row 0))) [] := by
  refine fn_sound ((Env.nil P).add 84 t_toPart h_toPart) hm k_laws_toHandPartS (nlb rfl) rfl ?_; unfold s_laws_toHandPartS; simp (maxSteps := 2000000) only [bitvec_to_nat, reduceIte, Nat.reduceEqDiff, Nat.reduceAdd, Nat.reduceLeDiff, reduceCtorEq, Nat.reduceBEq, Nat.reduceLT, Nat.reduceMod, fmc, t_toPart, int_toBitVec_meta, method_specs_simp, set_Part, Nat.sub_zero]
  have m0 : List.replicate a.length [.str ⟨#[]⟩, .int .i64 0, .sl 0 6 []] = (to_Part a 0).map (Part.row 0) := by simp [to_Part, Part.row]
  refine ⟨by omega, ?_⟩
  refine loop_st (fun i : Nat => [(4, .int .i64 i)]) (fun i => [(107, .arr 124 0 3 ((to_Part a i).map (Part.row 0)))]) (fun i => i ≤ a.length) (fun i => a.length - i) 0 (by simp only [u_E0, u_E1, u_M0, u_M1, w_setE0, w_setE1, w_setM0, w_setM1, reduceIte, Nat.reduceEqDiff]; exact ⟨by repeat' (first | exact trivial | refine ⟨.inr rfl, ?_⟩), ⟨congrArg (fun g => some (AObj.arr 124 0 3 g)) m0, trivial⟩, rfl, rfl⟩) (Nat.zero_le _) ?_
  intro i hi NX hN
  have hs2 : i < a.length → (a.getD i default).small := fun h => hs _ (getD_mem' h)
  unfold l_laws_toHandPartS_0; simp (maxSteps := 2000000) only [bitvec_to_nat, reduceIte, Nat.reduceEqDiff, Nat.reduceAdd, Nat.reduceLeDiff, reduceCtorEq, Nat.reduceBEq, Nat.reduceLT, Nat.reduceMod, fmc, t_toPart, int_toBitVec_meta, method_specs_simp, set_Part, Nat.sub_zero]
  refine ⟨fun h => ?_, fun h => ?_⟩
  · repeat' (first | with_reducible apply And.intro | with_reducible intro _)
    all_goals first
      | omega
      | rfl
      | exact hs2 (by omega)
      | (have e := to_Part_st (a := a) (i := i) (by omega)
         try simp only [Part.row] at *
         refine hN (i + 1) _ ⟨by repeat' (first | exact trivial | refine ⟨.inr rfl, ?_⟩), ⟨congrArg (fun g => some (AObj.arr 124 0 3 (List.map (Part.row 0) g))) e, trivial⟩, rfl, rfl⟩ ?_ ?_ <;> omega)
  · have e : i = a.length := by omega
    subst e
    simp only [to_Part, List.take_length, Nat.sub_self, List.replicate_zero, List.append_nil]
    try rw [List.take_of_length_le (by simp)]
def t_toPartS : List AV → Option (Prop × AV)
  | [.sl st 3 sx] => some ((((sx.map unPart).map (Part.row 1) = sx)) ∧ ((sx.map unPart).length ≤ 1048576 ∧ ∀ x ∈ (sx.map unPart), x.small), .sl 0 3 ((sx.map unPart).map (Part.row 0)))
  | _ => none
theorem h_toPartS : ∀ args p v, t_toPartS args = some (p, v) → p → Contract P 43 args [] v [] ∧ noref v = true ∧ No99 v := by
  intro args p v h1 h2
  unfold t_toPartS at h1
  split at h1
  · rename_i st sx
    cases h1
    obtain ⟨e0, HP⟩ := h2
    have := c_toPartS st (sx.map unPart) HP.1 HP.2
    exact ⟨by simpa only [e0] using this, rfl, by simp [No99, No99L, no99_box, no99_i, no99_str, no99_Zone, no99_Word, no99_Own, no99_Part, no99_Seen, no99_Book, no99_Sector, no99_HCraft, no99_World, -List.map_map]⟩
  · cases h1
theorem c_eqPart (c d : Part) (hl : c.bx.length ≤ 4611686018427387904) : Contract P 92 [.agg (c.row 0), .agg (d.row 0)] [] (.bool (decide (c = d))) [] := by
  obtain ⟨c_fl, c_nr, c_bx⟩ := c
  obtain ⟨d_fl, d_nr, d_bx⟩ := d
  simp only [Part.row]
  refine fn_sound ((Env.nil P).add 27 t_eqBoxS h_eqBoxS) hm k_laws_eqHandPart (nlb rfl) rfl ?_; unfold s_laws_eqHandPart; simp (maxSteps := 2000000) only [bitvec_to_nat, reduceIte, Nat.reduceEqDiff, Nat.reduceAdd, Nat.reduceLeDiff, reduceCtorEq, Nat.reduceBEq, Nat.reduceLT, Nat.reduceMod, fmc, t_eqBoxS, int_toBitVec_meta, method_specs_simp]
  simp only [Part.mk.injEq]
  repeat' (first | with_reducible apply And.intro | with_reducible intro _)
  all_goals first | omega | (simp_all; done) | grind | grind [Word.small, Own.small, Part.small, Book.small, Sector.small, HCraft.small, World.small]
def t_eqPart : List AV → Option (Prop × AV)
  | [.agg [.str c_fl, .int .i64 c_nr, .sl 0 6 c_bx], .agg [.str d_fl, .int .i64 d_nr, .sl 0 6 d_bx]] => some ((((c_bx.map unBox).map Box6.row = c_bx) ∧ ((d_bx.map unBox).map Box6.row = d_bx)) ∧ ((Part.mk c_fl c_nr (c_bx.map unBox)).bx.length ≤ 4611686018427387904), .bool (decide ((Part.mk c_fl c_nr (c_bx.map unBox)) = (Part.mk d_fl d_nr (d_bx.map unBox)))))
  | _ => none
theorem h_eqPart : ∀ args p v, t_eqPart args = some (p, v) → p → Contract P 92 args [] v [] ∧ noref v = true ∧ No99 v := by
  intro args p v h1 h2
  unfold t_eqPart at h1
  split at h1
  · rename_i c_fl c_nr c_bx d_fl d_nr d_bx
    cases h1
    obtain ⟨⟨e0, e1⟩, HP⟩ := h2
    have := c_eqPart (Part.mk c_fl c_nr (c_bx.map unBox)) (Part.mk d_fl d_nr (d_bx.map unBox)) HP
    exact ⟨by simpa only [e0, e1, Part.row, Part.row] using this, rfl, trivial⟩
  · cases h1
theorem c_eqPartS (t t' : Nat) (p q : List Part) (hp : p.length ≤ 4611686018427387904) (hx : ∀ x ∈ p, x.bx.length ≤ 4611686018427387904) : Contract P 50 [.sl t 3 (p.map (Part.row 0)), .sl t' 3 (q.map (Part.row 0))] [] (.bool (decide (p = q))) [] := by
  refine fn_sound ((Env.nil P).add 92 t_eqPart h_eqPart) hm k_laws_eqHandPartS (nlb rfl) rfl ?_; unfold s_laws_eqHandPartS; simp (maxSteps := 2000000) only [bitvec_to_nat, reduceIte, Nat.reduceEqDiff, Nat.reduceAdd, Nat.reduceLeDiff, reduceCtorEq, Nat.reduceBEq, Nat.reduceLT, Nat.reduceMod, fmc, t_eqPart, int_toBitVec_meta, method_specs_simp]
  refine ⟨fun h1 h => h1 (by rw [h]), fun h1 => ?_⟩
  refine loop_st (fun i : Nat => [(5, .int .i64 i)]) (fun _ => []) (fun i => i ≤ p.length ∧ ∀ j, j < i → p.getD j default = q.getD j default) (fun i => p.length - i) (0) (by simp only [u_E0, u_E1, u_M0, u_M1, w_setE0, w_setE1, w_setM0, w_setM1, reduceIte, Nat.reduceEqDiff]; exact ⟨by repeat' (first | exact trivial | refine ⟨.inr rfl, ?_⟩), by repeat' (first | exact trivial | refine ⟨rfl, ?_⟩), by first | rfl | simp [closedB, refsIn, refsInL, refsInO, dom, refsInL_nr, *], by first | rfl | simp [keepB, dom]⟩) ?_ ?_
  · exact ⟨Nat.zero_le _, by intro j hj; omega⟩
  intro i hi NX hN
  unfold l_laws_eqHandPartS_0; simp (maxSteps := 2000000) only [bitvec_to_nat, reduceIte, Nat.reduceEqDiff, Nat.reduceAdd, Nat.reduceLeDiff, reduceCtorEq, Nat.reduceBEq, Nat.reduceLT, Nat.reduceMod, fmc, t_eqPart, int_toBitVec_meta, method_specs_simp]
  have hx2 : i < p.length → _ := fun h => hx _ (getD_mem' h)
  repeat' (first | with_reducible apply And.intro | with_reducible intro _)
  all_goals first
    | omega
    | (refine hN (i + 1) _ (by simp only [u_E0, u_E1, u_M0, u_M1, w_setE0, w_setE1, w_setM0, w_setM1, reduceIte, Nat.reduceEqDiff]; exact ⟨by repeat' (first | exact trivial | refine ⟨.inr rfl, ?_⟩), by repeat' (first | exact trivial | refine ⟨rfl, ?_⟩), by first | rfl | simp [closedB, refsIn, refsInL, refsInO, dom, refsInL_nr, *], by first | rfl | simp [keepB, dom]⟩) ?_ ?_
       · exact ⟨by omega, all_snoc hi.2 (by with_reducible assumption)⟩
       · omega)
    | (intro h; subst h; exact absurd rfl (by with_reducible assumption))
    | (exact ext_of (by omega) fun j hj => hi.2 j (by omega))
    | grind
def t_eqPartS : List AV → Option (Prop × AV)
  | [.sl ct 3 cx, .sl dt 3 dx] => some ((((cx.map unPart).map (Part.row 0) = cx) ∧ ((dx.map unPart).map (Part.row 0) = dx)) ∧ ((cx.map unPart).length ≤ 4611686018427387904 ∧ ∀ x ∈ (cx.map unPart), x.bx.length ≤ 4611686018427387904), .bool (decide ((cx.map unPart) = (dx.map unPart))))
  | _ => none
theorem h_eqPartS : ∀ args p v, t_eqPartS args = some (p, v) → p → Contract P 50 args [] v [] ∧ noref v = true ∧ No99 v := by
  intro args p v h1 h2
  unfold t_eqPartS at h1
  split at h1
  · rename_i ct cx dt dx
    cases h1
    obtain ⟨⟨e0, e1⟩, HP⟩ := h2
    have := c_eqPartS ct dt (cx.map unPart) (dx.map unPart) HP.1 HP.2
    exact ⟨by simpa only [e0, e1] using this, rfl, trivial⟩
  · cases h1
theorem c_toOwn (s : Own) (hs : s.small) : Contract P 83 [.agg (s.row 1)] [] (.agg (s.row 0)) [] := by
  unfold Own.small at hs
  simp only [Own.row]
  refine fn_sound (((Env.nil P).add 25 t_toBoxS h_toBoxS).add 112 t_toStringS h_toStringS) hm k_laws_toHandOwn (nlb rfl) rfl ?_; unfold s_laws_toHandOwn; simp (maxSteps := 2000000) only [bitvec_to_nat, reduceIte, Nat.reduceEqDiff, Nat.reduceAdd, Nat.reduceLeDiff, reduceCtorEq, Nat.reduceBEq, Nat.reduceLT, Nat.reduceMod, fmc, t_toBoxS, t_toStringS, int_toBitVec_meta, method_specs_simp]
  repeat' (first | with_reducible apply And.intro | with_reducible intro _)
  all_goals first | omega | grind | grind [Word.small, Own.small, Part.small, Book.small, Sector.small, HCraft.small, World.small]
def t_toOwn : List AV → Option (Prop × AV)
  | [.agg [.str s_fl, .int .i64 s_st, .int .i64 s_tn, .str s_dst, .int .i64 s_la, .int .i64 s_nr, .sl 1 6 s_tu, .int .i64 s_wi, .sl 1 6 s_nx, .sl 1 1 s_gr, .bool s_sent]] => some ((((s_tu.map unBox).map Box6.row = s_tu) ∧ ((s_nx.map unBox).map Box6.row = s_nx) ∧ ((s_gr.map unS).map srow = s_gr)) ∧ (Own.small (Own.mk s_fl s_st s_tn s_dst s_la s_nr (s_tu.map unBox) s_wi (s_nx.map unBox) (s_gr.map unS) s_sent)), .agg (Own.row 0 (Own.mk s_fl s_st s_tn s_dst s_la s_nr (s_tu.map unBox) s_wi (s_nx.map unBox) (s_gr.map unS) s_sent)))
  | _ => none
theorem h_toOwn : ∀ args p v, t_toOwn args = some (p, v) → p → Contract P 83 args [] v [] ∧ noref v = true ∧ No99 v := by
  intro args p v h1 h2
  unfold t_toOwn at h1
  split at h1
  · rename_i s_fl s_st s_tn s_dst s_la s_nr s_tu s_wi s_nx s_gr s_sent
    cases h1
    obtain ⟨⟨e0, e1, e2⟩, HP⟩ := h2
    have := c_toOwn (Own.mk s_fl s_st s_tn s_dst s_la s_nr (s_tu.map unBox) s_wi (s_nx.map unBox) (s_gr.map unS) s_sent) HP
    exact ⟨by simpa only [e0, e1, e2, Own.row] using this, rfl, by simp [Own.row, No99, No99L, no99_box, no99_i, no99_str, no99_Zone, no99_Word, no99_Own, no99_Part, no99_Seen, no99_Book, no99_Sector, no99_HCraft, no99_World, -List.map_map]⟩
  · cases h1
theorem set_Own {lst : List Own} {idx : Nat} {vfl : ByteArray} {vst : Int} {vtn : Int} {vdst : ByteArray} {vla : Int} {vnr : Int} {vtu : List Box6} {vwi : Int} {vnx : List Box6} {vgr : List ByteArray} {vsent : Bool} : (lst.map (Own.row 0)).set idx (setSeg ((lst.map (Own.row 0)).getD idx []) 0 [.str vfl, .int .i64 vst, .int .i64 vtn, .str vdst, .int .i64 vla, .int .i64 vnr, .sl 0 6 (vtu.map Box6.row), .int .i64 vwi, .sl 0 6 (vnx.map Box6.row), .sl 0 1 (vgr.map srow), .bool vsent]) = (lst.set idx (Own.mk vfl vst vtn vdst vla vnr vtu vwi vnx vgr vsent)).map (Own.row 0) :=
  set_rows (α := Own) (f := (Own.row 0)) (fun s => (Own.mk vfl vst vtn vdst vla vnr vtu vwi vnx vgr vsent)) fun x => by simp [Own.row, setSeg]
def to_Own (a : List Own) (i : Nat) : List Own := a.take i ++ List.replicate (a.length - i) ⟨⟨#[]⟩, 0, 0, ⟨#[]⟩, 0, 0, [], 0, [], [], false⟩
theorem to_Own_st {a : List Own} {i : Nat} (h : i < a.length) : (to_Own a i).set i (a.getD i default) = to_Own a (i + 1) := by
  refine List.ext_getElem (by simp [to_Own]; omega) fun j h1 h2 => ?_
  by_cases e : j = i
  · subst e
    simp [to_Own, List.getElem_append, h]
    intro h9; omega
  · simp only [List.getElem_set_ne (Ne.symm e)]
    simp only [to_Own, List.getElem_append, List.length_take, List.getElem_take, List.getElem_replicate]
    split <;> split <;> first | rfl | omega
theorem c_toOwnS (t : Nat) (a : List Own) (ha : a.length ≤ 1048576) (hs : ∀ x ∈ a, x.small) : Contract P 42 [.sl t 11 (a.map (Own.row 1))] [] (.sl 0 11 (a.map (Own.row 0))) [] := by
  refine fn_sound ((Env.nil P).add 83 t_toOwn h_toOwn) hm k_laws_toHandOwnS (nlb rfl) rfl ?_; unfold s_laws_toHandOwnS; simp (maxSteps := 2000000) only [bitvec_to_nat, reduceIte, Nat.reduceEqDiff, Nat.reduceAdd, Nat.reduceLeDiff, reduceCtorEq, Nat.reduceBEq, Nat.reduceLT, Nat.reduceMod, fmc, t_toOwn, int_toBitVec_meta, method_specs_simp, set_Own, Nat.sub_zero]
  have m0 : List.replicate a.length [.str ⟨#[]⟩, .int .i64 0, .int .i64 0, .str ⟨#[]⟩, .int .i64 0, .int .i64 0, .sl 0 6 [], .int .i64 0, .sl 0 6 [], .sl 0 1 [], .bool false] = (to_Own a 0).map (Own.row 0) := by simp [to_Own, Own.row]
  refine ⟨by omega, ?_⟩
  refine loop_st (fun i : Nat => [(4, .int .i64 i)]) (fun i => [(107, .arr 71 0 11 ((to_Own a i).map (Own.row 0)))]) (fun i => i ≤ a.length) (fun i => a.length - i) 0 (by simp only [u_E0, u_E1, u_M0, u_M1, w_setE0, w_setE1, w_setM0, w_setM1, reduceIte, Nat.reduceEqDiff]; exact ⟨by repeat' (first | exact trivial | refine ⟨.inr rfl, ?_⟩), ⟨congrArg (fun g => some (AObj.arr 71 0 11 g)) m0, trivial⟩, rfl, rfl⟩) (Nat.zero_le _) ?_
  intro i hi NX hN
  have hs2 : i < a.length → (a.getD i default).small := fun h => hs _ (getD_mem' h)
  unfold l_laws_toHandOwnS_0; simp (maxSteps := 2000000) only [bitvec_to_nat, reduceIte, Nat.reduceEqDiff, Nat.reduceAdd, Nat.reduceLeDiff, reduceCtorEq, Nat.reduceBEq, Nat.reduceLT, Nat.reduceMod, fmc, t_toOwn, int_toBitVec_meta, method_specs_simp, set_Own, Nat.sub_zero]
  refine ⟨fun h => ?_, fun h => ?_⟩
  · repeat' (first | with_reducible apply And.intro | with_reducible intro _)
    all_goals first
      | omega
      | rfl
      | exact hs2 (by omega)
      | (have e := to_Own_st (a := a) (i := i) (by omega)
         try simp only [Own.row] at *
         refine hN (i + 1) _ ⟨by repeat' (first | exact trivial | refine ⟨.inr rfl, ?_⟩), ⟨congrArg (fun g => some (AObj.arr 71 0 11 (List.map (Own.row 0) g))) e, trivial⟩, rfl, rfl⟩ ?_ ?_ <;> omega)
  · have e : i = a.length := by omega
    subst e
    simp only [to_Own, List.take_length, Nat.sub_self, List.replicate_zero, List.append_nil]
    try rw [List.take_of_length_le (by simp)]
def t_toOwnS : List AV → Option (Prop × AV)
  | [.sl st 11 sx] => some ((((sx.map unOwn).map (Own.row 1) = sx)) ∧ ((sx.map unOwn).length ≤ 1048576 ∧ ∀ x ∈ (sx.map unOwn), x.small), .sl 0 11 ((sx.map unOwn).map (Own.row 0)))
  | _ => none
theorem h_toOwnS : ∀ args p v, t_toOwnS args = some (p, v) → p → Contract P 42 args [] v [] ∧ noref v = true ∧ No99 v := by
  intro args p v h1 h2
  unfold t_toOwnS at h1
  split at h1
  · rename_i st sx
    cases h1
    obtain ⟨e0, HP⟩ := h2
    have := c_toOwnS st (sx.map unOwn) HP.1 HP.2
    exact ⟨by simpa only [e0] using this, rfl, by simp [No99, No99L, no99_box, no99_i, no99_str, no99_Zone, no99_Word, no99_Own, no99_Part, no99_Seen, no99_Book, no99_Sector, no99_HCraft, no99_World, -List.map_map]⟩
  · cases h1
theorem c_eqOwn (c d : Own) (hl : c.tu.length ≤ 4611686018427387904 ∧ c.nx.length ≤ 4611686018427387904 ∧ c.gr.length ≤ 4611686018427387904) : Contract P 91 [.agg (c.row 0), .agg (d.row 0)] [] (.bool (decide (c = d))) [] := by
  obtain ⟨c_fl, c_st, c_tn, c_dst, c_la, c_nr, c_tu, c_wi, c_nx, c_gr, c_sent⟩ := c
  obtain ⟨d_fl, d_st, d_tn, d_dst, d_la, d_nr, d_tu, d_wi, d_nx, d_gr, d_sent⟩ := d
  simp only [Own.row]
  refine fn_sound (((Env.nil P).add 27 t_eqBoxS h_eqBoxS).add 117 t_eqStringS h_eqStringS) hm k_laws_eqHandOwn (nlb rfl) rfl ?_; unfold s_laws_eqHandOwn; simp (maxSteps := 2000000) only [bitvec_to_nat, reduceIte, Nat.reduceEqDiff, Nat.reduceAdd, Nat.reduceLeDiff, reduceCtorEq, Nat.reduceBEq, Nat.reduceLT, Nat.reduceMod, fmc, t_eqBoxS, t_eqStringS, int_toBitVec_meta, method_specs_simp]
  simp only [Own.mk.injEq]
  repeat' (first | with_reducible apply And.intro | with_reducible intro _)
  all_goals first | omega | (simp_all; done) | grind | grind [Word.small, Own.small, Part.small, Book.small, Sector.small, HCraft.small, World.small]
def t_eqOwn : List AV → Option (Prop × AV)
  | [.agg [.str c_fl, .int .i64 c_st, .int .i64 c_tn, .str c_dst, .int .i64 c_la, .int .i64 c_nr, .sl 0 6 c_tu, .int .i64 c_wi, .sl 0 6 c_nx, .sl 0 1 c_gr, .bool c_sent], .agg [.str d_fl, .int .i64 d_st, .int .i64 d_tn, .str d_dst, .int .i64 d_la, .int .i64 d_nr, .sl 0 6 d_tu, .int .i64 d_wi, .sl 0 6 d_nx, .sl 0 1 d_gr, .bool d_sent]] => some ((((c_tu.map unBox).map Box6.row = c_tu) ∧ ((c_nx.map unBox).map Box6.row = c_nx) ∧ ((c_gr.map unS).map srow = c_gr) ∧ ((d_tu.map unBox).map Box6.row = d_tu) ∧ ((d_nx.map unBox).map Box6.row = d_nx) ∧ ((d_gr.map unS).map srow = d_gr)) ∧ ((Own.mk c_fl c_st c_tn c_dst c_la c_nr (c_tu.map unBox) c_wi (c_nx.map unBox) (c_gr.map unS) c_sent).tu.length ≤ 4611686018427387904 ∧ (Own.mk c_fl c_st c_tn c_dst c_la c_nr (c_tu.map unBox) c_wi (c_nx.map unBox) (c_gr.map unS) c_sent).nx.length ≤ 4611686018427387904 ∧ (Own.mk c_fl c_st c_tn c_dst c_la c_nr (c_tu.map unBox) c_wi (c_nx.map unBox) (c_gr.map unS) c_sent).gr.length ≤ 4611686018427387904), .bool (decide ((Own.mk c_fl c_st c_tn c_dst c_la c_nr (c_tu.map unBox) c_wi (c_nx.map unBox) (c_gr.map unS) c_sent) = (Own.mk d_fl d_st d_tn d_dst d_la d_nr (d_tu.map unBox) d_wi (d_nx.map unBox) (d_gr.map unS) d_sent))))
  | _ => none
theorem h_eqOwn : ∀ args p v, t_eqOwn args = some (p, v) → p → Contract P 91 args [] v [] ∧ noref v = true ∧ No99 v := by
  intro args p v h1 h2
  unfold t_eqOwn at h1
  split at h1
  · rename_i c_fl c_st c_tn c_dst c_la c_nr c_tu c_wi c_nx c_gr c_sent d_fl d_st d_tn d_dst d_la d_nr d_tu d_wi d_nx d_gr d_sent
    cases h1
    obtain ⟨⟨e0, e1, e2, e3, e4, e5⟩, HP⟩ := h2
    have := c_eqOwn (Own.mk c_fl c_st c_tn c_dst c_la c_nr (c_tu.map unBox) c_wi (c_nx.map unBox) (c_gr.map unS) c_sent) (Own.mk d_fl d_st d_tn d_dst d_la d_nr (d_tu.map unBox) d_wi (d_nx.map unBox) (d_gr.map unS) d_sent) HP
    exact ⟨by simpa only [e0, e1, e2, e3, e4, e5, Own.row, Own.row] using this, rfl, trivial⟩
  · cases h1
theorem c_eqOwnS (t t' : Nat) (p q : List Own) (hp : p.length ≤ 4611686018427387904) (hx : ∀ x ∈ p, x.tu.length ≤ 4611686018427387904 ∧ x.nx.length ≤ 4611686018427387904 ∧ x.gr.length ≤ 4611686018427387904) : Contract P 49 [.sl t 11 (p.map (Own.row 0)), .sl t' 11 (q.map (Own.row 0))] [] (.bool (decide (p = q))) [] := by
  refine fn_sound ((Env.nil P).add 91 t_eqOwn h_eqOwn) hm k_laws_eqHandOwnS (nlb rfl) rfl ?_; unfold s_laws_eqHandOwnS; simp (maxSteps := 2000000) only [bitvec_to_nat, reduceIte, Nat.reduceEqDiff, Nat.reduceAdd, Nat.reduceLeDiff, reduceCtorEq, Nat.reduceBEq, Nat.reduceLT, Nat.reduceMod, fmc, t_eqOwn, int_toBitVec_meta, method_specs_simp]
  refine ⟨fun h1 h => h1 (by rw [h]), fun h1 => ?_⟩
  refine loop_st (fun i : Nat => [(5, .int .i64 i)]) (fun _ => []) (fun i => i ≤ p.length ∧ ∀ j, j < i → p.getD j default = q.getD j default) (fun i => p.length - i) (0) (by simp only [u_E0, u_E1, u_M0, u_M1, w_setE0, w_setE1, w_setM0, w_setM1, reduceIte, Nat.reduceEqDiff]; exact ⟨by repeat' (first | exact trivial | refine ⟨.inr rfl, ?_⟩), by repeat' (first | exact trivial | refine ⟨rfl, ?_⟩), by first | rfl | simp [closedB, refsIn, refsInL, refsInO, dom, refsInL_nr, *], by first | rfl | simp [keepB, dom]⟩) ?_ ?_
  · exact ⟨Nat.zero_le _, by intro j hj; omega⟩
  intro i hi NX hN
  unfold l_laws_eqHandOwnS_0; simp (maxSteps := 2000000) only [bitvec_to_nat, reduceIte, Nat.reduceEqDiff, Nat.reduceAdd, Nat.reduceLeDiff, reduceCtorEq, Nat.reduceBEq, Nat.reduceLT, Nat.reduceMod, fmc, t_eqOwn, int_toBitVec_meta, method_specs_simp]
  have hx2 : i < p.length → _ := fun h => hx _ (getD_mem' h)
  repeat' (first | with_reducible apply And.intro | with_reducible intro _)
  all_goals first
    | omega
    | (refine hN (i + 1) _ (by simp only [u_E0, u_E1, u_M0, u_M1, w_setE0, w_setE1, w_setM0, w_setM1, reduceIte, Nat.reduceEqDiff]; exact ⟨by repeat' (first | exact trivial | refine ⟨.inr rfl, ?_⟩), by repeat' (first | exact trivial | refine ⟨rfl, ?_⟩), by first | rfl | simp [closedB, refsIn, refsInL, refsInO, dom, refsInL_nr, *], by first | rfl | simp [keepB, dom]⟩) ?_ ?_
       · exact ⟨by omega, all_snoc hi.2 (by with_reducible assumption)⟩
       · omega)
    | (intro h; subst h; exact absurd rfl (by with_reducible assumption))
    | (exact ext_of (by omega) fun j hj => hi.2 j (by omega))
    | grind
def t_eqOwnS : List AV → Option (Prop × AV)
  | [.sl ct 11 cx, .sl dt 11 dx] => some ((((cx.map unOwn).map (Own.row 0) = cx) ∧ ((dx.map unOwn).map (Own.row 0) = dx)) ∧ ((cx.map unOwn).length ≤ 4611686018427387904 ∧ ∀ x ∈ (cx.map unOwn), x.tu.length ≤ 4611686018427387904 ∧ x.nx.length ≤ 4611686018427387904 ∧ x.gr.length ≤ 4611686018427387904), .bool (decide ((cx.map unOwn) = (dx.map unOwn))))
  | _ => none
theorem h_eqOwnS : ∀ args p v, t_eqOwnS args = some (p, v) → p → Contract P 49 args [] v [] ∧ noref v = true ∧ No99 v := by
  intro args p v h1 h2
  unfold t_eqOwnS at h1
  split at h1
  · rename_i ct cx dt dx
    cases h1
    obtain ⟨⟨e0, e1⟩, HP⟩ := h2
    have := c_eqOwnS ct dt (cx.map unOwn) (dx.map unOwn) HP.1 HP.2
    exact ⟨by simpa only [e0, e1] using this, rfl, trivial⟩
  · cases h1
theorem c_toBook (s : Book) (hs : s.small) : Contract P 11 [.agg (s.row 1)] [] (.agg (s.row 0)) [] := by
  unfold Book.small at hs
  simp only [Book.row]
  refine fn_sound ((((Env.nil P).add 42 t_toOwnS h_toOwnS).add 43 t_toPartS h_toPartS).add 44 t_toSeenS h_toSeenS) hm k_laws_toHandBook (nlb rfl) rfl ?_; unfold s_laws_toHandBook; simp (maxSteps := 2000000) only [bitvec_to_nat, reduceIte, Nat.reduceEqDiff, Nat.reduceAdd, Nat.reduceLeDiff, reduceCtorEq, Nat.reduceBEq, Nat.reduceLT, Nat.reduceMod, fmc, t_toOwnS, t_toPartS, t_toSeenS, int_toBitVec_meta, Own.row, Own_eta, Part.row, Part_eta, Seen.row, Seen_eta, Book.row, Book_eta, un_Own, un_Part, un_Seen, un_Book]
  repeat' (first | with_reducible apply And.intro | with_reducible intro _)
  all_goals first | omega | grind | grind [Own.small, Part.small, Book.small]
theorem c_eqBook (c d : Book) (hl : c.own.length ≤ 4611686018427387904 ∧ c.parts.length ≤ 4611686018427387904 ∧ c.seen.length ≤ 4611686018427387904 ∧ (∀ x ∈ c.own, x.small) ∧ (∀ x ∈ c.parts, x.small)) : Contract P 15 [.agg (c.row 0), .agg (d.row 0)] [] (.bool (decide (c = d))) [] := by
  obtain ⟨c_own, c_parts, c_seen⟩ := c
  obtain ⟨d_own, d_parts, d_seen⟩ := d
  simp only [Book.row]
  refine fn_sound ((((Env.nil P).add 49 t_eqOwnS h_eqOwnS).add 50 t_eqPartS h_eqPartS).add 51 t_eqSeenS h_eqSeenS) hm k_laws_eqHandBook (nlb rfl) rfl ?_; unfold s_laws_eqHandBook; simp (maxSteps := 2000000) only [bitvec_to_nat, reduceIte, Nat.reduceEqDiff, Nat.reduceAdd, Nat.reduceLeDiff, reduceCtorEq, Nat.reduceBEq, Nat.reduceLT, Nat.reduceMod, fmc, t_eqOwnS, t_eqPartS, t_eqSeenS, int_toBitVec_meta, Own.row, Own_eta, Part.row, Part_eta, Seen.row, Seen_eta, Book.row, Book_eta, un_Own, un_Part, un_Seen, un_Book]
  simp only [Book.mk.injEq]
  repeat' (first | with_reducible apply And.intro | with_reducible intro _)
  all_goals first | omega | (simp_all; done) | grind | grind [Own.small, Part.small, Book.small]
end
end Go.Ve

namespace Go.Ve
open Go.Proofs
set_option maxRecDepth 100000
def lO_laws_toHandBoxS_0 : SCode := (.seq (jq [jm 8 4 [],jm 9 0 [],jn 10 (.lenL (.v 9)) [9],jb 11 .lss 8 10 [8,10]] [0,3,4,11] (.cond (.v 11) .skip (.exit 0))) (.seq (.block 1 (.rg [jm 14 3 [],jm 15 4 [],jm 16 0 [],jm 17 4 [],ja 18 6 16 17 [16,17],jL 19 6 18 [18],jn 20 (.call 67 [.v 19]) [19],ja 21 6 14 15 [14,15],⟨none,.store 6 (.v 21) (.v 20),none,[20,21]⟩] [0,3,4])) (.rg [jm 12 4 [4],jn 13 (.binN .add (.v 12) (ci 1)) [12],jm 4 13 [13]] [0,3,4])))
/-- laws.toHandBoxS: function 25 -/
def sO_laws_toHandBoxS : SFun := { n := 23,res := [.t 2],body := (jq [jn 2 (.mv (.c (.sl 0 6 []))) [2]] [0] (jq [jm 5 0 [],jn 6 (.lenL (.v 5)) [5],jn 7 (.mk 107 100 6 [.int .i64 0,.int .i64 0,.int .i64 0,.int .i64 0,.int .i64 0,.int .i64 0] (.v 6)) [6],jm 3 7 [7]] [0,3] (.seq (jq [jI 4 0 []] [0,3,4] (.block 0 (.loop lO_laws_toHandBoxS_0))) (jq [jm 22 3 [3],jm 2 22 [22]] [2] .ret)))) }
theorem kO_laws_toHandBoxS : okFun Go.Proofs.Tryz.prog 25 sO_laws_toHandBoxS = true := by kernel_rfl
def lO_laws_toHandZoneS_0 : SCode := (.seq (jq [jm 8 4 [],jm 9 0 [],jn 10 (.lenL (.v 9)) [9],jb 11 .lss 8 10 [8,10]] [0,3,4,11] (.cond (.v 11) .skip (.exit 0))) (.seq (.block 1 (.rg [jm 14 3 [],jm 15 4 [],jm 16 0 [],jm 17 4 [],ja 18 5 16 17 [16,17],jL 19 5 18 [18],jn 20 (.call 41 [.v 19]) [19],ja 21 5 14 15 [14,15],⟨none,.store 5 (.v 21) (.v 20),none,[20,21]⟩] [0,3,4])) (.rg [jm 12 4 [4],jn 13 (.binN .add (.v 12) (ci 1)) [12],jm 4 13 [13]] [0,3,4])))
/-- laws.toHandZoneS: function 10 -/
def sO_laws_toHandZoneS : SFun := { n := 23,res := [.t 2],body := (jq [jn 2 (.mv (.c (.sl 0 5 []))) [2]] [0] (jq [jm 5 0 [],jn 6 (.lenL (.v 5)) [5],⟨some 7,.mk 107 76 5 [.str ⟨#[]⟩,.int .i64 0,.int .i64 0,.int .i64 0,.int .i64 0] (.v 6),none,[6]⟩,jm 3 7 [7]] [0,3] (.seq (jq [jI 4 0 []] [0,3,4] (.block 0 (.loop lO_laws_toHandZoneS_0))) (jq [jm 22 3 [3],jm 2 22 [22]] [2] .ret)))) }
theorem kO_laws_toHandZoneS : okFun Go.Proofs.Tryz.prog 10 sO_laws_toHandZoneS = true := by kernel_rfl
def lO_laws_toStringS_0 : SCode := (.seq (jq [jm 8 4 [],jm 9 0 [],jn 10 (.lenL (.v 9)) [9],jb 11 .lss 8 10 [8,10]] [0,3,4,11] (.cond (.v 11) .skip (.exit 0))) (.seq (.block 1 (.rg [jm 14 3 [],jm 15 4 [],jm 16 0 [],jm 17 4 [],ja 18 1 16 17 [16,17],jl 19 18 [18],ja 20 1 14 15 [14,15],⟨none,.store 1 (.v 20) (.v 19),none,[19,20]⟩] [0,3,4])) (.rg [jm 12 4 [4],jn 13 (.binN .add (.v 12) (ci 1)) [12],jm 4 13 [13]] [0,3,4])))
/-- laws.toStringS: function 112 -/
def sO_laws_toStringS : SFun := { n := 22,res := [.t 2],body := (jq [jn 2 (.mv (.c (.sl 0 1 []))) [2]] [0] (jq [jm 5 0 [],jn 6 (.lenL (.v 5)) [5],⟨some 7,.mk 107 9 1 [.str ⟨#[]⟩] (.v 6),none,[6]⟩,jm 3 7 [7]] [0,3] (.seq (jq [jI 4 0 []] [0,3,4] (.block 0 (.loop lO_laws_toStringS_0))) (jq [jm 21 3 [3],jm 2 21 [21]] [2] .ret)))) }
theorem kO_laws_toStringS : okFun Go.Proofs.Tryz.prog 112 sO_laws_toStringS = true := by kernel_rfl
def lO_laws_toHandSeenS_0 : SCode := (.seq (jq [jm 8 4 [],jm 9 0 [],jn 10 (.lenL (.v 9)) [9],jb 11 .lss 8 10 [8,10]] [0,3,4,11] (.cond (.v 11) .skip (.exit 0))) (.seq (.block 1 (.rg [jm 14 3 [],jm 15 4 [],jm 16 0 [],jm 17 4 [],ja 18 2 16 17 [16,17],jL 19 2 18 [18],jn 20 (.call 85 [.v 19]) [19],ja 21 2 14 15 [14,15],⟨none,.store 2 (.v 21) (.v 20),none,[20,21]⟩] [0,3,4])) (.rg [jm 12 4 [4],jn 13 (.binN .add (.v 12) (ci 1)) [12],jm 4 13 [13]] [0,3,4])))
/-- laws.toHandSeenS: function 44 -/
def sO_laws_toHandSeenS : SFun := { n := 23,res := [.t 2],body := (jq [jn 2 (.mv (.c (.sl 0 2 []))) [2]] [0] (jq [jm 5 0 [],jn 6 (.lenL (.v 5)) [5],⟨some 7,.mk 107 118 2 [.str ⟨#[]⟩,.int .i64 0] (.v 6),none,[6]⟩,jm 3 7 [7]] [0,3] (.seq (jq [jI 4 0 []] [0,3,4] (.block 0 (.loop lO_laws_toHandSeenS_0))) (jq [jm 22 3 [3],jm 2 22 [22]] [2] .ret)))) }
theorem kO_laws_toHandSeenS : okFun Go.Proofs.Tryz.prog 44 sO_laws_toHandSeenS = true := by kernel_rfl
def lO_laws_toHandOwnS_0 : SCode := (.seq (jq [jm 8 4 [],jm 9 0 [],jn 10 (.lenL (.v 9)) [9],jb 11 .lss 8 10 [8,10]] [0,3,4,11] (.cond (.v 11) .skip (.exit 0))) (.seq (.block 1 (.rg [jm 14 3 [],jm 15 4 [],jm 16 0 [],jm 17 4 [],ja 18 11 16 17 [16,17],jL 19 11 18 [18],jn 20 (.call 83 [.v 19]) [19],ja 21 11 14 15 [14,15],⟨none,.store 11 (.v 21) (.v 20),none,[20,21]⟩] [0,3,4])) (.rg [jm 12 4 [4],jn 13 (.binN .add (.v 12) (ci 1)) [12],jm 4 13 [13]] [0,3,4])))
/-- laws.toHandOwnS: function 42 -/
def sO_laws_toHandOwnS : SFun := { n := 23,res := [.t 2],body := (jq [jn 2 (.mv (.c (.sl 0 11 []))) [2]] [0] (jq [jm 5 0 [],jn 6 (.lenL (.v 5)) [5],⟨some 7,.mk 107 1000071 11 [.str ⟨#[]⟩,.int .i64 0,.int .i64 0,.str ⟨#[]⟩,.int .i64 0,.int .i64 0,.sl 0 6 [],.int .i64 0,.sl 0 6 [],.sl 0 1 [],.bool false] (.v 6),none,[6]⟩,jm 3 7 [7]] [0,3] (.seq (jq [jI 4 0 []] [0,3,4] (.block 0 (.loop lO_laws_toHandOwnS_0))) (jq [jm 22 3 [3],jm 2 22 [22]] [2] .ret)))) }
theorem kO_laws_toHandOwnS : okFun Go.Proofs.Tryz.prog 42 sO_laws_toHandOwnS = true := by kernel_rfl
def lO_laws_toHandPartS_0 : SCode := (.seq (jq [jm 8 4 [],jm 9 0 [],jn 10 (.lenL (.v 9)) [9],jb 11 .lss 8 10 [8,10]] [0,3,4,11] (.cond (.v 11) .skip (.exit 0))) (.seq (.block 1 (.rg [jm 14 3 [],jm 15 4 [],jm 16 0 [],jm 17 4 [],ja 18 3 16 17 [16,17],jL 19 3 18 [18],jn 20 (.call 84 [.v 19]) [19],ja 21 3 14 15 [14,15],⟨none,.store 3 (.v 21) (.v 20),none,[20,21]⟩] [0,3,4])) (.rg [jm 12 4 [4],jn 13 (.binN .add (.v 12) (ci 1)) [12],jm 4 13 [13]] [0,3,4])))
/-- laws.toHandPartS: function 43 -/
def sO_laws_toHandPartS : SFun := { n := 23,res := [.t 2],body := (jq [jn 2 (.mv (.c (.sl 0 3 []))) [2]] [0] (jq [jm 5 0 [],jn 6 (.lenL (.v 5)) [5],⟨some 7,.mk 107 1000124 3 [.str ⟨#[]⟩,.int .i64 0,.sl 0 6 []] (.v 6),none,[6]⟩,jm 3 7 [7]] [0,3] (.seq (jq [jI 4 0 []] [0,3,4] (.block 0 (.loop lO_laws_toHandPartS_0))) (jq [jm 22 3 [3],jm 2 22 [22]] [2] .ret)))) }
theorem kO_laws_toHandPartS : okFun Go.Proofs.Tryz.prog 43 sO_laws_toHandPartS = true := by kernel_rfl
/-- impl.ownBoxes: function 95 -/
def sO_impl_ownBoxes : SFun := { n := 5,res := [.t 2],body := (jq [jn 2 (.mv (.c (.sl 98 6 []))) [2]] [0] (jq [jm 3 0 [0],jn 4 (.app 104 100 6 (.c (.sl 0 6 [])) (.v 3)) [3],jm 2 4 [4]] [2] .ret)) }
theorem kO_impl_ownBoxes : okFun Go.Proofs.Tryz.prog 95 sO_impl_ownBoxes = true := by kernel_rfl
/-- impl.give: function 87 -/
def sO_impl_give : SFun := { n := 21,res := [.t 4],body := (jq [jn 3 (.box 103 (.v 1)) [1],jn 4 (.mv (.c (.sl 98 8 []))) [4]] [0,3] (.seq (.rgd [jm 5 0 [],jf 6 3 3 [],jl 7 6 [],jf 8 0 3 [],jl 9 8 [],jf 10 5 3 [],jl 11 10 [],jf 12 4 3 [],jl 13 12 [],jf 14 2 3 [],jl 15 14 [],jf 16 6 3 [],jl 17 16 [],jn 18 (.call 95 [.v 17]) [],jn 19 (.build [.int .i64 0,.str ⟨#[]⟩,.str ⟨#[]⟩,.str ⟨#[]⟩,.int .i64 0,.int .i64 0,.int .i64 0,.sl 0 6 []] [(0,1,.c (.int .i64 5)),(1,1,.v 5),(2,1,.v 7),(3,1,.v 9),(4,1,.v 11),(5,1,.v 13),(6,1,.v 15),(7,1,.v 18)]) [],jn 20 (.litOwn 120 1000073 8 [.v 19]) [],jm 4 20 []] [4] [none,some [],some [],some [],some [],some [],some [],some [],some [],some [],some [],none,none,some [11,10,9,8,7,6,5,4,3,2],none,none,none]) .ret)) }
theorem kO_impl_give : okFun Go.Proofs.Tryz.prog 87 sO_impl_give = true := by kernel_rfl
def lO_impl_ownBook_0 : SCode := (jq [jb 12 .lss 11 10 []] [1,2,3,9,10,11,12] (.seq (.cond (.v 12) .skip (.exit 0)) (.seq (.block 1 (jq [ja 13 11 9 11 [],jL 14 11 13 [13],jn 5 (.alloc 105 [.str ⟨#[]⟩,.int .i64 0,.int .i64 0,.str ⟨#[]⟩,.int .i64 0,.int .i64 0,.sl 0 6 [],.int .i64 0,.sl 0 6 [],.sl 0 1 [],.bool false]) [],⟨none,.store 11 (.v 5) (.v 14),none,[14]⟩] [1,2,3,5,9,10,11] (.seq (.rgd [jf 15 6 5 [],jl 16 15 [],jn 17 (.call 95 [.v 16]) [],jf 18 8 5 [],jl 19 18 [],jn 20 (.call 95 [.v 19]) [],jf 21 9 5 [],jl 22 21 [],jn 23 (.app 123 9 1 (.c (.sl 0 1 [])) (.v 22)) [],jf 24 6 5 [],⟨none,.store 1 (.v 24) (.v 17),none,[]⟩,jf 25 8 5 [],⟨none,.store 1 (.v 25) (.v 20),none,[]⟩,jf 26 9 5 [],⟨none,.store 1 (.v 26) (.v 23),none,[]⟩] [1,2,3,5,9,10,11] [none,none,some [],some [0],some [1],some [],some [3,0],some [4,1],some [],some [3,0],none,none,none,none,none]) (.rg [jf 27 0 3 [],jl 28 27 [27],jL 29 11 5 [5],jn 30 (.litOwn 130 1000071 11 [.v 29]) [29],jn 31 (.appN 131 1000071 11 (.v 28) (.v 30)) [28,30],jf 32 0 3 [],⟨none,.store 1 (.v 32) (.v 31),none,[31,32]⟩] [1,2,3,9,10,11])))) (.gh .wk (.rg [jn 33 (.binN .add (.v 11) (ci 1)) [11],jm 11 33 [33]] [1,2,3,9,10,11])))))
def lO_impl_ownBook_1 : SCode := (jq [jb 38 .lss 37 36 []] [1,2,3,35,36,37,38] (.seq (.cond (.v 38) .skip (.exit 2)) (.seq (.block 3 (jq [ja 39 3 35 37 [],jL 40 3 39 [39],jn 7 (.alloc 107 [.str ⟨#[]⟩,.int .i64 0,.sl 0 6 []]) [],⟨none,.store 3 (.v 7) (.v 40),none,[40]⟩] [1,2,3,7,35,36,37] (jq [jf 41 2 7 [],jl 42 41 [41],jn 43 (.call 95 [.v 42]) [42],jf 44 2 7 [],⟨none,.store 1 (.v 44) (.v 43),none,[43,44]⟩] [1,2,3,7,35,36,37] (.rg [jf 45 1 3 [],jl 46 45 [45],jL 47 3 7 [7],jn 48 (.litOwn 148 1000124 3 [.v 47]) [47],jn 49 (.appN 149 1000124 3 (.v 46) (.v 48)) [46,48],jf 50 1 3 [],⟨none,.store 1 (.v 50) (.v 49),none,[49,50]⟩] [1,2,3,35,36,37])))) (.rg [jn 51 (.binN .add (.v 37) (ci 1)) [37],jm 37 51 [51]] [1,2,3,35,36,37]))))
/-- impl.ownBook: function 60 -/
def sO_impl_ownBook : SFun := { n := 57,res := [.cN 2 3],body := (jq [jn 1 (.box 101 (.v 0)) [0],jn 2 (.alloc 102 [.sl 0 11 [],.sl 0 3 [],.sl 0 2 []]) []] [1,2] (jq [jn 3 (.alloc 103 [.sl 98 11 [],.sl 98 3 [],.sl 98 2 []]) []] [1,2,3] (.seq (jq [jf 8 0 1 [],jl 9 8 [8],jn 10 (.lenL (.v 9)) [],jI 11 0 []] [1,2,3,9,10,11] (.block 0 (.gh (.nilB 103 0 131 1000071) (.loop lO_impl_ownBook_0)))) (.seq (jq [jf 34 1 1 [],jl 35 34 [34],jn 36 (.lenL (.v 35)) [],jI 37 0 []] [1,2,3,35,36,37] (.block 2 (.gh (.nilB 103 1 149 1000124) (.loop lO_impl_ownBook_1)))) (jq [jf 52 2 1 [1],jl 53 52 [52],jn 54 (.app 154 118 2 (.c (.sl 0 2 [])) (.v 53)) [53],jf 55 2 3 [],⟨none,.store 1 (.v 55) (.v 54),none,[54,55]⟩] [2,3] (jq [jL 56 3 3 [3],⟨none,.store 3 (.v 2) (.v 56),none,[56]⟩] [2] .ret)))))) }
theorem kO_impl_ownBook : okFun Go.Proofs.Tryz.prog 60 sO_impl_ownBook = true := by kernel_rfl
/-- impl.HandBook).over: function 61 -/
def sO_impl_HandBook_over : SFun := { n := 89,res := [.t 10,.t 11],body := (jq [jn 10 (.mv (.c (.sl 98 8 []))) [10],jI 11 0 [11]] [0,1,2,3,4] (.seq (jq [jm 14 1 [1],jm 15 4 [],jn 16 (.call 86 [.v 14,.v 15]) [14,15],jc 17 .lss 16 0 [16],jm 18 17 [17],jM 19 18 4 [],jM 20 18 2 [],jh 21 18 (.bin .eql (.v 19) (.v 20)) [19,20],jp 22 18 21 [18,21]] [0,2,3,4,22] (.cond (.v 22) (jq [jn 10 (.mv (.c (.sl 98 8 []))) [],jI 11 2 []] [10,11] .ret) .skip)) (jq [jm 23 0 [],jn 24 (.nilck (.v 23)) [23],jL 25 3 24 [24],jm 26 3 [3],jn 27 (.call 96 [.v 25,.v 26]) [25,26],jm 12 27 [27]] [0,2,4,12] (.seq (jq [jm 28 12 [],jc 29 .lss 28 0 [28],jm 30 29 [29],jM 31 30 0 [],jh 32 30 (.nilck (.v 31)) [31],jh 33 30 (.faddr 0 (.v 32)) [32],jh 34 30 (.load1 (.v 33)) [33],jM 35 30 12 [],jh 36 30 (.iaddr 11 (.v 34) (.v 35)) [34,35],jh 37 30 (.faddr 1 (.v 36)) [36],jh 38 30 (.load1 (.v 37)) [37],jh 39 30 (.bin .neq (.v 38) (ci 1)) [38],jp 40 30 39 [30,39],jm 41 40 [40],jM 42 41 0 [],jh 43 41 (.nilck (.v 42)) [42],jh 44 41 (.faddr 0 (.v 43)) [43],jh 45 41 (.load1 (.v 44)) [44],jM 46 41 12 [],jh 47 41 (.iaddr 11 (.v 45) (.v 46)) [45,46],jh 48 41 (.faddr 5 (.v 47)) [47],jh 49 41 (.load1 (.v 48)) [48],jh 50 41 (.bin .eql (.v 49) (ci 0)) [49],jp 51 41 50 [41,50]] [0,2,4,12,51] (.cond (.v 51) (jq [jn 10 (.mv (.c (.sl 98 8 []))) [],jI 11 5 []] [10,11] .ret) .skip)) (jq [jm 52 0 [0],jn 53 (.nilck (.v 52)) [52],jf 54 0 53 [53],jl 55 54 [54],jm 56 12 [12],ja 57 11 55 56 [55,56],jm 13 57 [57]] [2,4,13] (.seq (.block 0 (jq [jm 59 13 [],jn 60 (.nilck (.v 59)) [59],jf 61 7 60 [60],jl 62 61 [61],jc 63 .gtr 62 0 [62],jm 58 63 [63]] [2,4,13,58] (.cond (.v 58) (jq [jn 10 (.mv (.c (.sl 98 8 []))) [],jI 11 6 []] [10,11] .ret) (jq [jm 65 13 [],jn 66 (.nilck (.v 65)) [65],jf 67 2 66 [66],jl 68 67 [67],jc 69 .geq 68 1000000 [68],jm 64 69 [69]] [2,4,13,64] (.cond (.v 64) (jq [jn 10 (.mv (.c (.sl 98 8 []))) [],jI 11 4 []] [10,11] .ret) .skip))))) (jq [jm 70 13 [],jm 71 13 [],jm 72 4 [4],jn 73 (.nilck (.v 70)) [70],jf 74 1 73 [73],⟨none,.store 1 (.v 74) (ci 2),none,[74]⟩,jn 75 (.nilck (.v 71)) [71],jf 76 3 75 [75],⟨none,.store 1 (.v 76) (.v 72),none,[72,76]⟩] [2,13] (jq [jm 77 13 [],jn 78 (.nilck (.v 77)) [],jf 79 2 78 [78],jl 80 79 [79],jn 81 (.binN .add (.v 80) (ci 1)) [80],jn 82 (.nilck (.v 77)) [77],jf 83 2 82 [82],⟨none,.store 1 (.v 83) (.v 81),none,[81,83]⟩] [2,13] (jq [jm 84 2 [2],jm 85 13 [13],jn 86 (.nilck (.v 85)) [85],jL 87 11 86 [86],jn 88 (.call 87 [.v 84,.v 87]) [84,87],jm 10 88 [88],jI 11 0 []] [10,11] .ret))))))))) }
theorem kO_impl_HandBook_over : okFun Go.Proofs.Tryz.prog 61 sO_impl_HandBook_over = true := by kernel_rfl
/-- impl.HandOver: function 21 -/
def sO_impl_HandOver : SFun := { n := 35,res := [.cN 10 3,.t 11,.t 12],body := (jq [jn 7 (.box 107 (.v 2)) [2],jn 10 (.alloc 110 [.sl 0 11 [],.sl 0 3 [],.sl 0 2 []]) [],jn 11 (.mv (.c (.sl 98 8 []))) [11],jI 12 0 [12]] [0,1,3,4,7,10] (.seq (jq [jm 16 0 [],jm 17 1 [],jL 18 3 7 [],jn 19 (.call 45 [.v 16,.v 17,.v 18]) [16,17,18],jn 20 (.not (.v 19)) [19]] [0,1,3,4,7,10,20] (.cond (.v 20) (jq [jn 21 (.build [.sl 0 11 [],.sl 0 3 [],.sl 0 2 []] []) [],⟨none,.store 3 (.v 10) (.v 21),none,[21]⟩,jn 11 (.mv (.c (.sl 98 8 []))) [],jI 12 1 []] [10,11,12] .ret) .skip)) (jq [jL 22 3 7 [7],jn 23 (.call 60 [.v 22]) [22],jn 13 (.alloc 113 [.sl 0 11 [],.sl 0 3 [],.sl 0 2 []]) [],⟨none,.store 3 (.v 13) (.v 23),none,[23]⟩] [0,1,3,4,10,13] (jq [jm 25 0 [0],jm 26 1 [1],jm 27 3 [3],jm 28 4 [4],jn 29 (.call 61 [.v 13,.v 25,.v 26,.v 27,.v 28]) [25,26,27,28],jm 24 29 [29],jn 30 (.ext 0 (.v 24)) [],jn 31 (.ext 1 (.v 24)) [24],jm 14 30 [30],jm 15 31 [31]] [10,13,14,15] (jq [jL 32 3 13 [13],jm 33 14 [14],jm 34 15 [15],⟨none,.store 3 (.v 10) (.v 32),none,[32]⟩,jm 11 33 [33],jm 12 34 [34]] [10,11,12] .ret))))) }
theorem kO_impl_HandOver : okFun Go.Proofs.Tryz.prog 21 sO_impl_HandOver = true := by kernel_rfl
end Go.Ve

namespace Go.Ve
noncomputable section
open Go.Proofs
set_option maxRecDepth 100000
open Go.ChangeShapes Go.WideShapes
theorem getD_seti' {α : Type} {l : List α} {i : Nat} {x d : α} (h : i < l.length) : (l.set i x).getD i d = x := by simp [h]
theorem getD_setn' {α : Type} {l : List α} {i j : Nat} {x d : α} (h : i ≠ j) : (l.set i x).getD j d = l.getD j d := by simp [List.getElem?_set_ne h]
theorem keep_self {M : List (Nat × AObj)} : keepB M M = true := by
  unfold keepB
  rw [List.all_eq_true]
  intro o ho
  simp only [Bool.or_eq_true]
  right; simpa using ho
theorem loop_F {α : Type} (F : α → St) (good : α → Prop) (μ : α → Nat) (a0 : α) {body : (XT → St → Prop) → St → Prop} {Q : XT → St → Prop} {st : St}
    (h0 : Wk st (F a0)) (g0 : good a0)
    (step : ∀ a, good a → ∀ NX : St → Prop, (∀ a' st', Wk st' (F a') → good a' → μ a' < μ a → NX st') → body (thenQ NX Q) (F a)) : loopWp body Q st :=
  loop_of F good μ a0 h0 g0 fun a ga => step a ga _ fun a' st' h1 h2 h3 => ⟨μ a', _, h1, ⟨a', rfl, h2, rfl⟩, h3⟩
theorem fam_eqF {a b i : Nat} : (fam a i = fam b i) = (a = b) := by unfold fam; simp
theorem fam_eqI {a i j : Nat} : (fam a i = fam a j) = (i = j) := propext ⟨fun h => by unfold fam at h; omega, fun h => by rw [h]⟩
theorem Box6_eta (s : Box6) : (Box6.mk s.x s.y s.l s.h s.i s.o) = s := (rfl)
theorem plain_srow (l : List ByteArray) : ((l.map srow).all fun r => r.all plain1) = true := by simp [srow, plain1]
theorem plain_box (l : List Box6) : ((l.map Box6.row).all fun r => r.all plain1) = true := by simp [Box6.row, plain1]
def esOwn (c : Nat) : Nat := if c = 9 then 9 else 100
def esPart (_ : Nat) : Nat := 100
def esWord (_ : Nat) : Nat := 100
theorem hes_Own : ∀ c, esOwn c < 1000000 := fun c => by unfold esOwn; split <;> omega
theorem hes_Part : ∀ c, esPart c < 1000000 := fun c => by unfold esPart; omega
theorem hes_Word : ∀ c, esWord c < 1000000 := fun c => by unfold esWord; omega
def wver (w : Word) : Nat := if w.kd = 1 then w.tu.length else 0
def Word.rowO (w : Word) : List AV := [.int .i64 w.kd, .str w.fr, .str w.dst, .str w.fl, .int .i64 w.nr, .int .i64 w.la, .int .i64 w.tn, .sl (wver w) 6 (w.tu.map Box6.row)]
theorem rok_Own : RowOk 11 (Own.row 0) := ⟨fun x => rfl, fun x => by simp only [Own.row, List.all_cons, simpleV, plain_box, plain_srow, List.all_nil, Bool.and_self]⟩
theorem rok_Part : RowOk 3 (Part.row 0) := ⟨fun x => rfl, fun x => by simp only [Part.row, List.all_cons, simpleV, plain_box, List.all_nil, Bool.and_self]⟩
theorem tag_sl {t s : Nat} {xs : List (List AV)} : tag0 (.sl t s xs) = .sl 0 s (tag0LL xs) := rfl
theorem tag_int {k : IntKind} {n : Int} : tag0 (.int k n) = .int k n := rfl
theorem tag_Owns {t : Nat} {l : List Own} : tag0LL (l.map (Own.row t)) = l.map (Own.row 0) := tag_rows (f := Own.row) (fun x => by simp only [Own.row, tag0L, tag0]; rw [tag_flat (f := Box6.row) fun _ => rfl, tag_flat (f := Box6.row) fun _ => rfl, tag_flat (f := srow) fun _ => rfl]) l
theorem tag_Parts {t : Nat} {l : List Part} : tag0LL (l.map (Part.row t)) = l.map (Part.row 0) := tag_rows (f := Part.row) (fun x => by simp only [Part.row, tag0L, tag0]; rw [tag_flat (f := Box6.row) fun _ => rfl]) l
theorem tag_Words {t : Nat} {l : List Word} : tag0LL (l.map (Word.row t)) = l.map (Word.row 0) := tag_rows (f := Word.row) (fun x => by simp only [Word.row, tag0L, tag0]; rw [tag_flat (f := Box6.row) fun _ => rfl]) l
theorem no98_Owns {t : Nat} (ht : t ≠ 98) {l : List Own} : no98LL (l.map (Own.row t)) = true := no98_rows (f := Own.row t) (fun x => by simp only [Own.row, no98L, no98]; rw [no98_rows (f := Box6.row) fun _ => rfl, no98_rows (f := Box6.row) fun _ => rfl, no98_rows (f := srow) fun _ => rfl]; simp [ht]) l
theorem no98_Parts {t : Nat} (ht : t ≠ 98) {l : List Part} : no98LL (l.map (Part.row t)) = true := no98_rows (f := Part.row t) (fun x => by simp only [Part.row, no98L, no98]; rw [no98_rows (f := Box6.row) fun _ => rfl]; simp [ht]) l
theorem no98_Words {t : Nat} (ht : t ≠ 98) {l : List Word} : no98LL (l.map (Word.row t)) = true := no98_rows (f := Word.row t) (fun x => by simp only [Word.row, no98L, no98]; rw [no98_rows (f := Box6.row) fun _ => rfl]; simp [ht]) l
theorem to_Box6_st {a : List Box6} {i : Nat} (h : i < a.length) : (to_Box6 a i).set i (a.getD i default) = to_Box6 a (i + 1) := by
  refine List.ext_getElem (by simp [to_Box6]; omega) fun j h1 h2 => ?_
  by_cases e : j = i
  · subst e
    simp [to_Box6, List.getElem_append, h]
    intro h9; omega
  · simp only [List.getElem_set_ne (Ne.symm e)]
    simp only [to_Box6, List.getElem_append, List.length_take, List.getElem_take, List.getElem_replicate]
    split <;> split <;> first | rfl | omega
theorem c_toByteArraySO (t : Nat) (a : List ByteArray) (ha : a.length ≤ 1048576) : Contract P 112 [.sl t 1 (a.map srow)] [] (.own 107 0 0 a.length) [(107, .arr 9 0 1 (a.map srow))] := by
  have tkA : List.take a.length (a.map srow) = a.map srow := List.take_of_length_le (by simp)
  refine fn_sound (Env.nil P) hm kO_laws_toStringS (nlb rfl) rfl ?_; unfold sO_laws_toStringS; simp (maxSteps := 2000000) only [bitvec_to_nat, reduceIte, Nat.reduceEqDiff, Nat.reduceAdd, Nat.reduceLeDiff, reduceCtorEq, Nat.reduceBEq, Nat.reduceLT, Nat.reduceMod, fmc, retG_ret, retQ_eq, retQ_eqN, retOk, keepB, re_tupl, orr_t, int_toBitVec_meta, method_specs_simp, set_ByteArray, Nat.sub_zero]
  have m0 : List.replicate a.length [.str ⟨#[]⟩] = (to_ByteArray a 0).map srow := by simp [to_ByteArray, srow]
  refine ⟨by omega, ?_⟩
  refine loop_st (fun i : Nat => [(4, .int .i64 i)]) (fun i => [(107, .arr 9 0 1 ((to_ByteArray a i).map srow))]) (fun i => i ≤ a.length) (fun i => a.length - i) 0 (by simp only [u_E0, u_E1, u_M0, u_M1, w_setE0, w_setE1, w_setM0, w_setM1, reduceIte, Nat.reduceEqDiff]; exact ⟨by repeat' (first | exact trivial | refine ⟨.inr rfl, ?_⟩), ⟨congrArg (fun g => some (AObj.arr 9 0 1 g)) m0, trivial⟩, rfl, rfl⟩) (Nat.zero_le _) ?_
  intro i hi NX hN
  unfold lO_laws_toStringS_0; simp (maxSteps := 2000000) only [bitvec_to_nat, reduceIte, Nat.reduceEqDiff, Nat.reduceAdd, Nat.reduceLeDiff, reduceCtorEq, Nat.reduceBEq, Nat.reduceLT, Nat.reduceMod, fmc, retG_ret, retQ_eq, retQ_eqN, retOk, keepB, re_tupl, orr_t, int_toBitVec_meta, method_specs_simp, set_ByteArray, Nat.sub_zero]
  refine ⟨fun h => ?_, fun h => ?_⟩
  · repeat' (first | with_reducible apply And.intro | with_reducible intro _)
    all_goals first
      | omega
      | rfl
      | (have e := to_ByteArray_st (a := a) (i := i) (by omega)
         try simp only [srow] at *
         refine hN (i + 1) _ ⟨by repeat' (first | exact trivial | refine ⟨.inr rfl, ?_⟩), ⟨congrArg (fun g => some (AObj.arr 9 0 1 (List.map srow g))) e, trivial⟩, rfl, rfl⟩ ?_ ?_ <;> omega)
  · have e : i = a.length := by omega
    subst e
    simp only [to_ByteArray, List.take_length, Nat.sub_self, List.replicate_zero, List.append_nil]
    exact ⟨trivial, rfl, rfl⟩
theorem c_toBox6SO (t : Nat) (a : List Box6) (ha : a.length ≤ 1048576) : Contract P 25 [.sl t 6 (a.map Box6.row)] [] (.own 107 0 0 a.length) [(107, .arr 100 0 6 (a.map Box6.row))] := by
  have tkA : List.take a.length (a.map Box6.row) = a.map Box6.row := List.take_of_length_le (by simp)
  refine fn_sound ((Env.nil P).add 67 t_toBox h_toBox) hm kO_laws_toHandBoxS (nlb rfl) rfl ?_; unfold sO_laws_toHandBoxS; simp (maxSteps := 2000000) only [bitvec_to_nat, reduceIte, Nat.reduceEqDiff, Nat.reduceAdd, Nat.reduceLeDiff, reduceCtorEq, Nat.reduceBEq, Nat.reduceLT, Nat.reduceMod, fmc, retG_ret, retQ_eq, retQ_eqN, retOk, keepB, re_tupl, orr_t, t_toBox, int_toBitVec_meta, method_specs_simp, set_Box6, Nat.sub_zero]
  have m0 : List.replicate a.length [.int .i64 0, .int .i64 0, .int .i64 0, .int .i64 0, .int .i64 0, .int .i64 0] = (to_Box6 a 0).map Box6.row := by simp [to_Box6, Box6.row]
  refine ⟨by omega, ?_⟩
  refine loop_st (fun i : Nat => [(4, .int .i64 i)]) (fun i => [(107, .arr 100 0 6 ((to_Box6 a i).map Box6.row))]) (fun i => i ≤ a.length) (fun i => a.length - i) 0 (by simp only [u_E0, u_E1, u_M0, u_M1, w_setE0, w_setE1, w_setM0, w_setM1, reduceIte, Nat.reduceEqDiff]; exact ⟨by repeat' (first | exact trivial | refine ⟨.inr rfl, ?_⟩), ⟨congrArg (fun g => some (AObj.arr 100 0 6 g)) m0, trivial⟩, rfl, rfl⟩) (Nat.zero_le _) ?_
  intro i hi NX hN
  unfold lO_laws_toHandBoxS_0; simp (maxSteps := 2000000) only [bitvec_to_nat, reduceIte, Nat.reduceEqDiff, Nat.reduceAdd, Nat.reduceLeDiff, reduceCtorEq, Nat.reduceBEq, Nat.reduceLT, Nat.reduceMod, fmc, retG_ret, retQ_eq, retQ_eqN, retOk, keepB, re_tupl, orr_t, t_toBox, int_toBitVec_meta, method_specs_simp, set_Box6, Nat.sub_zero]
  refine ⟨fun h => ?_, fun h => ?_⟩
  · repeat' (first | with_reducible apply And.intro | with_reducible intro _)
    all_goals first
      | omega
      | rfl
      | (have e := to_Box6_st (a := a) (i := i) (by omega)
         try simp only [Box6.row] at *
         refine hN (i + 1) _ ⟨by repeat' (first | exact trivial | refine ⟨.inr rfl, ?_⟩), ⟨congrArg (fun g => some (AObj.arr 100 0 6 (List.map Box6.row g))) e, trivial⟩, rfl, rfl⟩ ?_ ?_ <;> omega)
  · have e : i = a.length := by omega
    subst e
    simp only [to_Box6, List.take_length, Nat.sub_self, List.replicate_zero, List.append_nil]
    exact ⟨trivial, rfl, rfl⟩
theorem c_toSeenSO (t : Nat) (a : List Seen) (ha : a.length ≤ 1048576) : Contract P 44 [.sl t 2 (a.map Seen.row)] [] (.own 107 0 0 a.length) [(107, .arr 118 0 2 (a.map Seen.row))] := by
  have tkA : List.take a.length (a.map Seen.row) = a.map Seen.row := List.take_of_length_le (by simp)
  refine fn_sound ((Env.nil P).add 85 t_toSeen h_toSeen) hm kO_laws_toHandSeenS (nlb rfl) rfl ?_; unfold sO_laws_toHandSeenS; simp (maxSteps := 2000000) only [bitvec_to_nat, reduceIte, Nat.reduceEqDiff, Nat.reduceAdd, Nat.reduceLeDiff, reduceCtorEq, Nat.reduceBEq, Nat.reduceLT, Nat.reduceMod, fmc, retG_ret, retQ_eq, retQ_eqN, retOk, keepB, re_tupl, orr_t, t_toSeen, int_toBitVec_meta, method_specs_simp, set_Seen, Nat.sub_zero]
  have m0 : List.replicate a.length [.str ⟨#[]⟩, .int .i64 0] = (to_Seen a 0).map Seen.row := by simp [to_Seen, Seen.row]
  refine ⟨by omega, ?_⟩
  refine loop_st (fun i : Nat => [(4, .int .i64 i)]) (fun i => [(107, .arr 118 0 2 ((to_Seen a i).map Seen.row))]) (fun i => i ≤ a.length) (fun i => a.length - i) 0 (by simp only [u_E0, u_E1, u_M0, u_M1, w_setE0, w_setE1, w_setM0, w_setM1, reduceIte, Nat.reduceEqDiff]; exact ⟨by repeat' (first | exact trivial | refine ⟨.inr rfl, ?_⟩), ⟨congrArg (fun g => some (AObj.arr 118 0 2 g)) m0, trivial⟩, rfl, rfl⟩) (Nat.zero_le _) ?_
  intro i hi NX hN
  unfold lO_laws_toHandSeenS_0; simp (maxSteps := 2000000) only [bitvec_to_nat, reduceIte, Nat.reduceEqDiff, Nat.reduceAdd, Nat.reduceLeDiff, reduceCtorEq, Nat.reduceBEq, Nat.reduceLT, Nat.reduceMod, fmc, retG_ret, retQ_eq, retQ_eqN, retOk, keepB, re_tupl, orr_t, t_toSeen, int_toBitVec_meta, method_specs_simp, set_Seen, Nat.sub_zero]
  refine ⟨fun h => ?_, fun h => ?_⟩
  · repeat' (first | with_reducible apply And.intro | with_reducible intro _)
    all_goals first
      | omega
      | rfl
      | (have e := to_Seen_st (a := a) (i := i) (by omega)
         try simp only [Seen.row] at *
         refine hN (i + 1) _ ⟨by repeat' (first | exact trivial | refine ⟨.inr rfl, ?_⟩), ⟨congrArg (fun g => some (AObj.arr 118 0 2 (List.map Seen.row g))) e, trivial⟩, rfl, rfl⟩ ?_ ?_ <;> omega)
  · have e : i = a.length := by omega
    subst e
    simp only [to_Seen, List.take_length, Nat.sub_self, List.replicate_zero, List.append_nil]
    exact ⟨trivial, rfl, rfl⟩
theorem c_toZoneSO (t : Nat) (a : List Zone) (ha : a.length ≤ 1048576) : Contract P 10 [.sl t 5 (a.map Zone.row)] [] (.own 107 0 0 a.length) [(107, .arr 76 0 5 (a.map Zone.row))] := by
  have tkA : List.take a.length (a.map Zone.row) = a.map Zone.row := List.take_of_length_le (by simp)
  refine fn_sound ((Env.nil P).add 41 t_toZone h_toZone) hm kO_laws_toHandZoneS (nlb rfl) rfl ?_; unfold sO_laws_toHandZoneS; simp (maxSteps := 2000000) only [bitvec_to_nat, reduceIte, Nat.reduceEqDiff, Nat.reduceAdd, Nat.reduceLeDiff, reduceCtorEq, Nat.reduceBEq, Nat.reduceLT, Nat.reduceMod, fmc, retG_ret, retQ_eq, retQ_eqN, retOk, keepB, re_tupl, orr_t, t_toZone, int_toBitVec_meta, method_specs_simp, set_Zone, Nat.sub_zero]
  have m0 : List.replicate a.length [.str ⟨#[]⟩, .int .i64 0, .int .i64 0, .int .i64 0, .int .i64 0] = (to_Zone a 0).map Zone.row := by simp [to_Zone, Zone.row]
  refine ⟨by omega, ?_⟩
  refine loop_st (fun i : Nat => [(4, .int .i64 i)]) (fun i => [(107, .arr 76 0 5 ((to_Zone a i).map Zone.row))]) (fun i => i ≤ a.length) (fun i => a.length - i) 0 (by simp only [u_E0, u_E1, u_M0, u_M1, w_setE0, w_setE1, w_setM0, w_setM1, reduceIte, Nat.reduceEqDiff]; exact ⟨by repeat' (first | exact trivial | refine ⟨.inr rfl, ?_⟩), ⟨congrArg (fun g => some (AObj.arr 76 0 5 g)) m0, trivial⟩, rfl, rfl⟩) (Nat.zero_le _) ?_
  intro i hi NX hN
  unfold lO_laws_toHandZoneS_0; simp (maxSteps := 2000000) only [bitvec_to_nat, reduceIte, Nat.reduceEqDiff, Nat.reduceAdd, Nat.reduceLeDiff, reduceCtorEq, Nat.reduceBEq, Nat.reduceLT, Nat.reduceMod, fmc, retG_ret, retQ_eq, retQ_eqN, retOk, keepB, re_tupl, orr_t, t_toZone, int_toBitVec_meta, method_specs_simp, set_Zone, Nat.sub_zero]
  refine ⟨fun h => ?_, fun h => ?_⟩
  · repeat' (first | with_reducible apply And.intro | with_reducible intro _)
    all_goals first
      | omega
      | rfl
      | (have e := to_Zone_st (a := a) (i := i) (by omega)
         try simp only [Zone.row] at *
         refine hN (i + 1) _ ⟨by repeat' (first | exact trivial | refine ⟨.inr rfl, ?_⟩), ⟨congrArg (fun g => some (AObj.arr 76 0 5 (List.map Zone.row g))) e, trivial⟩, rfl, rfl⟩ ?_ ?_ <;> omega)
  · have e : i = a.length := by omega
    subst e
    simp only [to_Zone, List.take_length, Nat.sub_self, List.replicate_zero, List.append_nil]
    exact ⟨trivial, rfl, rfl⟩
def dch (i : Nat) : ByteArray := ⟨#[byteOf [AV.int .u8 (IntKind.u8.wrap (48 + (i : Int) % 10))]]⟩
theorem dch_eq (i : Nat) : bytesOf [[AV.int .u8 (IntKind.u8.wrap (48 + (i : Int) % 10))]] = dch i := rfl
def dg (k : Nat) (o : ByteArray) : ByteArray := if h : k = 0 then o else dg (k / 10) (dch k ++ o)
termination_by k
decreasing_by omega
theorem dg_zero (o : ByteArray) : dg 0 o = o := by rw [dg]; simp
theorem dg_step {k : Nat} (o : ByteArray) (h : 0 < k) : dg k o = dg (k / 10) (dch k ++ o) := by rw [dg]; simp [show k ≠ 0 by omega]
def mtx (k : Int) : ByteArray := if k ≤ 0 then ⟨#[109, 48]⟩ else ⟨#[109]⟩ ++ dg k.toNat ⟨#[]⟩
theorem dch_len (i : Nat) : (dch i).toList.length = 1 := by rw [← toList_size]; rfl
theorem app_len (a b : ByteArray) : (a ++ b).toList.length = a.toList.length + b.toList.length := by simp only [← toList_size, ByteArray.size_append]
theorem byte_ok (w : Int) : isByte [AV.int .u8 (IntKind.u8.wrap w)] = true := by
  simp [isByte, IntKind.wrap, IntKind.bits, IntKind.signed]
  try omega
theorem m_len : (⟨#[109]⟩ : ByteArray).toList.length = 1 := by rw [← toList_size]; rfl
theorem e_len : (⟨#[]⟩ : ByteArray).toList.length = 0 := by rw [← toList_size]; rfl
theorem c_markText (k : Int) (hk : 0 ≤ k ∧ k ≤ 1152921504606846976) : Contract P 52 [.int .i64 k] [] (.str (mtx k)) [] := by
  refine fn_sound (Env.nil P) hm k_laws_markText (nlb rfl) rfl ?_; unfold s_laws_markText; simp (maxSteps := 2000000) only [bitvec_to_nat, reduceIte, Nat.reduceEqDiff, Nat.reduceAdd, Nat.reduceLeDiff, reduceCtorEq, Nat.reduceBEq, Nat.reduceLT, Nat.reduceMod, fmc, Nat.zero_add, un_s, List.map_cons, List.map_nil, rowsOf, dch_eq]
  refine ⟨fun h => by rw [mtx, if_pos h], fun hp => ?_⟩
  have hkk : ((k.toNat : Nat) : Int) = k := by omega
  refine loop_st (fun a : Nat × ByteArray => [(0, .int .i64 a.1), (3, .str a.2)]) (fun _ => []) (fun a => dg a.1 a.2 = dg k.toNat ⟨#[]⟩ ∧ a.2.toList.length + a.1 ≤ 1152921504606846976) (fun a => a.1) (k.toNat, ⟨#[]⟩) (by simp only [hkk]; simp only [u_E0, u_E1, u_M0, u_M1, w_setE0, w_setE1, w_setM0, w_setM1, reduceIte, Nat.reduceEqDiff]; exact ⟨by repeat' (first | exact trivial | refine ⟨.inr rfl, ?_⟩), by repeat' (first | exact trivial | refine ⟨rfl, ?_⟩), by first | rfl | simp [closedB, refsIn, refsInL, refsInO, dom, refsInL_nr, *], by first | rfl | simp [keepB, dom]⟩) ⟨rfl, by simp only [e_len]; omega⟩ ?_
  rintro ⟨i, s⟩ ⟨h1, h2⟩ NX hN
  simp only at h1 h2
  unfold l_laws_markText_0; simp (maxSteps := 2000000) only [bitvec_to_nat, reduceIte, Nat.reduceEqDiff, Nat.reduceAdd, Nat.reduceLeDiff, reduceCtorEq, Nat.reduceBEq, Nat.reduceLT, Nat.reduceMod, fmc, Nat.zero_add, un_s, List.map_cons, List.map_nil, rowsOf, dch_eq]
  refine ⟨fun g => ⟨by omega, by omega, by simp only [List.all_cons, List.all_nil, byte_ok, Bool.and_true], ?_⟩, fun g => ?_⟩
  · have e1 := dch_len i
    refine ⟨by rw [e1]; omega, by omega, ?_⟩
    have e2 : ((i : Int) / 10) = ((i / 10 : Nat) : Int) := by omega
    simp only [e2]
    refine hN (i / 10, dch i ++ s) _ (by simp only [u_E0, u_E1, u_M0, u_M1, w_setE0, w_setE1, w_setM0, w_setM1, reduceIte, Nat.reduceEqDiff]; exact ⟨by repeat' (first | exact trivial | refine ⟨.inr rfl, ?_⟩), by repeat' (first | exact trivial | refine ⟨rfl, ?_⟩), by first | rfl | simp [closedB, refsIn, refsInL, refsInO, dom, refsInL_nr, *], by first | rfl | simp [keepB, dom]⟩) ?_ ?_
    · exact ⟨by rw [← dg_step s (by omega)]; exact h1, by simp only [app_len, e1]; omega⟩
    · simp only; omega
  · have e : i = 0 := by omega
    subst e
    rw [dg_zero] at h1
    refine ⟨by rw [m_len]; omega, ?_⟩
    rw [mtx, if_neg hp, ← h1]
def t_markText : List AV → Option (Prop × AV)
  | [.int .i64 k] => some ((True) ∧ (0 ≤ k ∧ k ≤ 1152921504606846976), .str (mtx k))
  | _ => none
theorem h_markText : ∀ args p v, t_markText args = some (p, v) → p → Contract P 52 args [] v [] ∧ noref v = true ∧ No99 v := by
  intro args p v h1 h2
  unfold t_markText at h1
  split at h1
  · rename_i k
    cases h1
    obtain ⟨_, HP⟩ := h2
    have := c_markText k HP
    exact ⟨this, rfl, trivial⟩
  · cases h1
def mk_ByteArray (k : Int) : ByteArray := mtx k
def ms_ByteArray (k : Int) (n : Nat) : List ByteArray := (List.range n).map fun j : Nat => mk_ByteArray (k + (j : Int))
theorem ms_ByteArray_len {k : Int} {n : Nat} : (ms_ByteArray k n).length = n := by simp [ms_ByteArray]
theorem ms_ByteArray_get {k : Int} {n j : Nat} (h : j < n) : (ms_ByteArray k n).getD j default = mk_ByteArray (k + (j : Int)) := by simp [ms_ByteArray, h]
theorem setm_ByteArray {l : List ByteArray} {i : Nat} {v : ByteArray} : (l.map srow).set i (setSeg ((l.map srow).getD i []) 0 [.str v]) = (l.set i v).map srow :=
  set_rows (α := ByteArray) (f := srow) (fun _ => v) fun x => by simp [srow, setSeg]
set_option maxHeartbeats 1000000 in
theorem c_markByteArrayS (v : Nat) (k : Int) (a : List ByteArray) (ha : a.length ≤ 1048577) (hk : 0 ≤ k ∧ k ≤ 1125899906842624) : Contract P 94 [.own 3 v 0 a.length, .int .i64 k] [(3, .arr 9 v 1 (a.map srow))] (.int .i64 (k + a.length)) [(3, .arr 9 v 1 ((ms_ByteArray k a.length).map srow))] := by
  have hz : ((0 : Nat) : Int) = 0 := rfl
  have gs : True := trivial
  refine fn_sound ((Env.nil P).add 52 t_markText h_markText) hm k_laws_markStringS (nlb rfl) rfl ?_; unfold s_laws_markStringS; simp (maxSteps := 2000000) only [bitvec_to_nat, reduceIte, Nat.reduceEqDiff, Nat.reduceAdd, Nat.reduceLeDiff, reduceCtorEq, Nat.reduceBEq, Nat.reduceLT, Nat.reduceMod, fmc, retG_ret, retQ_eq, retQ_eqN, retOk, keepB, re_tupl, orr_t, t_markText, setm_ByteArray, List.set_set, gs, irow, srow, Int.toNat_natCast, List.length_map, List.length_set, Nat.sub_zero, Nat.zero_add, hz]
  refine loop_st (fun b : Nat × List ByteArray => [(1, .int .i64 (k + b.1)), (5, .int .i64 b.1)]) (fun b => [(3, .arr 9 v 1 (b.2.map srow))]) (fun b => b.2.length = a.length ∧ b.1 ≤ a.length ∧ ∀ j, j < b.1 → b.2.getD j default = mk_ByteArray (k + (j : Int))) (fun b => a.length - b.1) (0, a) ?_ ⟨rfl, Nat.zero_le _, fun j hj => absurd hj (Nat.not_lt_zero _)⟩ ?_
  · have e0 : k + ((0 : Nat) : Int) = k := by omega
    simp only [e0]
    simp only [u_E0, u_E1, u_M0, u_M1, w_setE0, w_setE1, w_setM0, w_setM1, reduceIte, Nat.reduceEqDiff]; exact ⟨by repeat' (first | exact trivial | refine ⟨.inr rfl, ?_⟩), by repeat' (first | exact trivial | refine ⟨rfl, ?_⟩), by first | rfl | simp [closedB, refsIn, refsInL, refsInO, dom, refsInL_nr, *], by first | rfl | simp [keepB, dom]⟩
  rintro ⟨i, l⟩ ⟨h1, h2, h3⟩ NX hN
  simp only at h1 h2 h3
  have gs : i < a.length → ∀ x : ByteArray, (l.set i x).getD i default = x := fun h x => getD_seti' (by omega)
  by_cases hi : i < a.length
  · have gs := gs hi
    have e5 : k + ((i + 1 : Nat) : Int) = k + (i : Int) + 1 := by omega
    unfold l_laws_markStringS_0; simp (maxSteps := 2000000) only [bitvec_to_nat, reduceIte, Nat.reduceEqDiff, Nat.reduceAdd, Nat.reduceLeDiff, reduceCtorEq, Nat.reduceBEq, Nat.reduceLT, Nat.reduceMod, fmc, retG_ret, retQ_eq, retQ_eqN, retOk, keepB, re_tupl, orr_t, t_markText, setm_ByteArray, List.set_set, gs, irow, srow, Int.toNat_natCast, List.length_map, List.length_set, Nat.sub_zero, Nat.zero_add, hz]
    repeat' (first | with_reducible apply And.intro | with_reducible intro _)
    all_goals first
      | omega
      | (refine hN (i + 1, l.set i (mk_ByteArray (k + (i : Int)))) _ (by simp only [e5]; simp only [u_E0, u_E1, u_M0, u_M1, w_setE0, w_setE1, w_setM0, w_setM1, reduceIte, Nat.reduceEqDiff]; exact ⟨by repeat' (first | exact trivial | refine ⟨.inr rfl, ?_⟩), by repeat' (first | exact trivial | refine ⟨rfl, ?_⟩), by first | rfl | simp [closedB, refsIn, refsInL, refsInO, dom, refsInL_nr, *], by first | rfl | simp [keepB, dom]⟩) ⟨by simp only [List.length_set]; exact h1, hi, fun j hj => ?_⟩ (by simp only; omega)
         simp only at hj ⊢
         by_cases e : j = i
         · subst e; exact getD_seti' (by omega)
         · rw [getD_setn' (Ne.symm e)]; exact h3 j (by omega))
      | (exfalso; omega)
  · have hl : l = ms_ByteArray k a.length := ext_of (by rw [ms_ByteArray_len]; exact h1) fun j hj => by rw [ms_ByteArray_get (by omega)]; exact h3 j (by omega)
    have hi' : ¬ (i : Int) < a.length := by omega
    unfold l_laws_markStringS_0; simp (maxSteps := 2000000) only [bitvec_to_nat, reduceIte, Nat.reduceEqDiff, Nat.reduceAdd, Nat.reduceLeDiff, reduceCtorEq, Nat.reduceBEq, Nat.reduceLT, Nat.reduceMod, fmc, retG_ret, retQ_eq, retQ_eqN, retOk, keepB, re_tupl, orr_t, t_markText, setm_ByteArray, List.set_set, gs, irow, srow, Int.toNat_natCast, List.length_map, List.length_set, Nat.sub_zero, Nat.zero_add, hz, hi']
    refine ⟨by omega, ?_⟩
    rw [hl]
set_option maxHeartbeats 1000000 in
theorem c_heldByteArrayS (t : Nat) (k : Int) (n : Nat) (ha : n ≤ 1048577) (hk : 0 ≤ k ∧ k ≤ 1125899906842624) : Contract P 97 [.sl t 1 ((ms_ByteArray k n).map srow), .int .i64 k] [] (.int .i64 (k + n)) [] := by
  have hz : ((0 : Nat) : Int) = 0 := rfl
  refine fn_sound ((Env.nil P).add 52 t_markText h_markText) hm k_laws_heldStringS (nlb rfl) rfl ?_; unfold s_laws_heldStringS; simp (maxSteps := 2000000) only [bitvec_to_nat, reduceIte, Nat.reduceEqDiff, Nat.reduceAdd, Nat.reduceLeDiff, reduceCtorEq, Nat.reduceBEq, Nat.reduceLT, Nat.reduceMod, fmc, t_markText, irow, srow, Int.toNat_natCast, List.length_map, Nat.sub_zero, Nat.zero_add, hz, eq_self, ms_ByteArray_len]
  refine loop_st (fun i : Nat => [(1, .int .i64 (k + i)), (5, .int .i64 i)]) (fun _ => []) (fun i => i ≤ n) (fun i => n - i) 0 ?_ (Nat.zero_le _) ?_
  · have e0 : k + ((0 : Nat) : Int) = k := by omega
    simp only [e0]
    simp only [u_E0, u_E1, u_M0, u_M1, w_setE0, w_setE1, w_setM0, w_setM1, reduceIte, Nat.reduceEqDiff]; exact ⟨by repeat' (first | exact trivial | refine ⟨.inr rfl, ?_⟩), by repeat' (first | exact trivial | refine ⟨rfl, ?_⟩), by first | rfl | simp [closedB, refsIn, refsInL, refsInO, dom, refsInL_nr, *], by first | rfl | simp [keepB, dom]⟩
  intro i hi NX hN
  have e5 : k + ((i + 1 : Nat) : Int) = k + (i : Int) + 1 := by omega
  by_cases h : i < n
  · have hg := ms_ByteArray_get (k := k) h
    have h' : (i : Int) < n := by omega
    unfold l_laws_heldStringS_0; simp (maxSteps := 2000000) only [bitvec_to_nat, reduceIte, Nat.reduceEqDiff, Nat.reduceAdd, Nat.reduceLeDiff, reduceCtorEq, Nat.reduceBEq, Nat.reduceLT, Nat.reduceMod, fmc, t_markText, irow, srow, Int.toNat_natCast, List.length_map, Nat.sub_zero, Nat.zero_add, hz, eq_self, ms_ByteArray_len, h', hg, mk_ByteArray, not_true_eq_false, ne_eq, bne_self_eq_false]
    repeat' (first | with_reducible apply And.intro | with_reducible intro _)
    all_goals first
      | omega
      | rfl
      | (rename_i h; exact absurd rfl h)
      | (refine hN (i + 1) _ (by simp only [e5]; simp only [u_E0, u_E1, u_M0, u_M1, w_setE0, w_setE1, w_setM0, w_setM1, reduceIte, Nat.reduceEqDiff]; exact ⟨by repeat' (first | exact trivial | refine ⟨.inr rfl, ?_⟩), by repeat' (first | exact trivial | refine ⟨rfl, ?_⟩), by first | rfl | simp [closedB, refsIn, refsInL, refsInO, dom, refsInL_nr, *], by first | rfl | simp [keepB, dom]⟩) ?_ ?_ <;> omega)
  · have h' : ¬ (i : Int) < n := by omega
    unfold l_laws_heldStringS_0; simp (maxSteps := 2000000) only [bitvec_to_nat, reduceIte, Nat.reduceEqDiff, Nat.reduceAdd, Nat.reduceLeDiff, reduceCtorEq, Nat.reduceBEq, Nat.reduceLT, Nat.reduceMod, fmc, t_markText, irow, srow, Int.toNat_natCast, List.length_map, Nat.sub_zero, Nat.zero_add, hz, eq_self, ms_ByteArray_len, h']
    omega
def mk_Box6 (k : Int) : Box6 := ⟨k, k + 1, k + 1 + 1, k + 1 + 1 + 1, k + 1 + 1 + 1 + 1, k + 1 + 1 + 1 + 1 + 1⟩
def ms_Box6 (k : Int) (n : Nat) : List Box6 := (List.range n).map fun j : Nat => mk_Box6 (k + 6 * (j : Int))
theorem ms_Box6_len {k : Int} {n : Nat} : (ms_Box6 k n).length = n := by simp [ms_Box6]
theorem ms_Box6_get {k : Int} {n j : Nat} (h : j < n) : (ms_Box6 k n).getD j default = mk_Box6 (k + 6 * (j : Int)) := by simp [ms_Box6, h]
theorem setm_Box60 {l : List Box6} {i : Nat} {v : Int} : (l.map Box6.row).set i (setSeg ((l.map Box6.row).getD i []) 0 [.int .i64 v]) = (l.set i { l.getD i default with x := v }).map Box6.row :=
  set_rows (α := Box6) (f := Box6.row) (fun s => { s with x := v }) fun x => by simp [Box6.row, setSeg]
theorem setm_Box61 {l : List Box6} {i : Nat} {v : Int} : (l.map Box6.row).set i (setSeg ((l.map Box6.row).getD i []) 1 [.int .i64 v]) = (l.set i { l.getD i default with y := v }).map Box6.row :=
  set_rows (α := Box6) (f := Box6.row) (fun s => { s with y := v }) fun x => by simp [Box6.row, setSeg]
theorem setm_Box62 {l : List Box6} {i : Nat} {v : Int} : (l.map Box6.row).set i (setSeg ((l.map Box6.row).getD i []) 2 [.int .i64 v]) = (l.set i { l.getD i default with l := v }).map Box6.row :=
  set_rows (α := Box6) (f := Box6.row) (fun s => { s with l := v }) fun x => by simp [Box6.row, setSeg]
theorem setm_Box63 {l : List Box6} {i : Nat} {v : Int} : (l.map Box6.row).set i (setSeg ((l.map Box6.row).getD i []) 3 [.int .i64 v]) = (l.set i { l.getD i default with h := v }).map Box6.row :=
  set_rows (α := Box6) (f := Box6.row) (fun s => { s with h := v }) fun x => by simp [Box6.row, setSeg]
theorem setm_Box64 {l : List Box6} {i : Nat} {v : Int} : (l.map Box6.row).set i (setSeg ((l.map Box6.row).getD i []) 4 [.int .i64 v]) = (l.set i { l.getD i default with i := v }).map Box6.row :=
  set_rows (α := Box6) (f := Box6.row) (fun s => { s with i := v }) fun x => by simp [Box6.row, setSeg]
theorem setm_Box65 {l : List Box6} {i : Nat} {v : Int} : (l.map Box6.row).set i (setSeg ((l.map Box6.row).getD i []) 5 [.int .i64 v]) = (l.set i { l.getD i default with o := v }).map Box6.row :=
  set_rows (α := Box6) (f := Box6.row) (fun s => { s with o := v }) fun x => by simp [Box6.row, setSeg]
set_option maxHeartbeats 1000000 in
theorem c_markBox6S (v : Nat) (k : Int) (a : List Box6) (ha : a.length ≤ 1048577) (hk : 0 ≤ k ∧ k ≤ 1125899906842624) : Contract P 28 [.own 3 v 0 a.length, .int .i64 k] [(3, .arr 100 v 6 (a.map Box6.row))] (.int .i64 (k + 6 * a.length)) [(3, .arr 100 v 6 ((ms_Box6 k a.length).map Box6.row))] := by
  have hz : ((0 : Nat) : Int) = 0 := rfl
  have gs : True := trivial
  refine fn_sound (Env.nil P) hm k_laws_markHandBoxS (nlb rfl) rfl ?_; unfold s_laws_markHandBoxS; simp (maxSteps := 2000000) only [bitvec_to_nat, reduceIte, Nat.reduceEqDiff, Nat.reduceAdd, Nat.reduceLeDiff, reduceCtorEq, Nat.reduceBEq, Nat.reduceLT, Nat.reduceMod, fmc, retG_ret, retQ_eq, retQ_eqN, retOk, keepB, re_tupl, orr_t, setm_Box60, setm_Box61, setm_Box62, setm_Box63, setm_Box64, setm_Box65, List.set_set, gs, Box6.row, irow, srow, Int.toNat_natCast, List.length_map, List.length_set, Nat.sub_zero, Nat.zero_add, hz]
  refine loop_st (fun b : Nat × List Box6 => [(1, .int .i64 (k + 6 * b.1)), (5, .int .i64 b.1)]) (fun b => [(3, .arr 100 v 6 (b.2.map Box6.row))]) (fun b => b.2.length = a.length ∧ b.1 ≤ a.length ∧ ∀ j, j < b.1 → b.2.getD j default = mk_Box6 (k + 6 * (j : Int))) (fun b => a.length - b.1) (0, a) ?_ ⟨rfl, Nat.zero_le _, fun j hj => absurd hj (Nat.not_lt_zero _)⟩ ?_
  · have e0 : k + 6 * ((0 : Nat) : Int) = k := by omega
    simp only [e0]
    simp only [u_E0, u_E1, u_M0, u_M1, w_setE0, w_setE1, w_setM0, w_setM1, reduceIte, Nat.reduceEqDiff]; exact ⟨by repeat' (first | exact trivial | refine ⟨.inr rfl, ?_⟩), by repeat' (first | exact trivial | refine ⟨rfl, ?_⟩), by first | rfl | simp [closedB, refsIn, refsInL, refsInO, dom, refsInL_nr, *], by first | rfl | simp [keepB, dom]⟩
  rintro ⟨i, l⟩ ⟨h1, h2, h3⟩ NX hN
  simp only at h1 h2 h3
  have gs : i < a.length → ∀ x : Box6, (l.set i x).getD i default = x := fun h x => getD_seti' (by omega)
  by_cases hi : i < a.length
  · have gs := gs hi
    have e5 : k + 6 * ((i + 1 : Nat) : Int) = k + 6 * (i : Int) + 1 + 1 + 1 + 1 + 1 + 1 := by omega
    unfold l_laws_markHandBoxS_0; simp (maxSteps := 2000000) only [bitvec_to_nat, reduceIte, Nat.reduceEqDiff, Nat.reduceAdd, Nat.reduceLeDiff, reduceCtorEq, Nat.reduceBEq, Nat.reduceLT, Nat.reduceMod, fmc, retG_ret, retQ_eq, retQ_eqN, retOk, keepB, re_tupl, orr_t, setm_Box60, setm_Box61, setm_Box62, setm_Box63, setm_Box64, setm_Box65, List.set_set, gs, Box6.row, irow, srow, Int.toNat_natCast, List.length_map, List.length_set, Nat.sub_zero, Nat.zero_add, hz]
    repeat' (first | with_reducible apply And.intro | with_reducible intro _)
    all_goals first
      | omega
      | (refine hN (i + 1, l.set i (mk_Box6 (k + 6 * (i : Int)))) _ (by simp only [e5]; simp only [u_E0, u_E1, u_M0, u_M1, w_setE0, w_setE1, w_setM0, w_setM1, reduceIte, Nat.reduceEqDiff]; exact ⟨by repeat' (first | exact trivial | refine ⟨.inr rfl, ?_⟩), by repeat' (first | exact trivial | refine ⟨rfl, ?_⟩), by first | rfl | simp [closedB, refsIn, refsInL, refsInO, dom, refsInL_nr, *], by first | rfl | simp [keepB, dom]⟩) ⟨by simp only [List.length_set]; exact h1, hi, fun j hj => ?_⟩ (by simp only; omega)
         simp only at hj ⊢
         by_cases e : j = i
         · subst e; exact getD_seti' (by omega)
         · rw [getD_setn' (Ne.symm e)]; exact h3 j (by omega))
      | (exfalso; omega)
  · have hl : l = ms_Box6 k a.length := ext_of (by rw [ms_Box6_len]; exact h1) fun j hj => by rw [ms_Box6_get (by omega)]; exact h3 j (by omega)
    have hi' : ¬ (i : Int) < a.length := by omega
    unfold l_laws_markHandBoxS_0; simp (maxSteps := 2000000) only [bitvec_to_nat, reduceIte, Nat.reduceEqDiff, Nat.reduceAdd, Nat.reduceLeDiff, reduceCtorEq, Nat.reduceBEq, Nat.reduceLT, Nat.reduceMod, fmc, retG_ret, retQ_eq, retQ_eqN, retOk, keepB, re_tupl, orr_t, setm_Box60, setm_Box61, setm_Box62, setm_Box63, setm_Box64, setm_Box65, List.set_set, gs, Box6.row, irow, srow, Int.toNat_natCast, List.length_map, List.length_set, Nat.sub_zero, Nat.zero_add, hz, hi']
    refine ⟨by omega, ?_⟩
    rw [hl]
set_option maxHeartbeats 1000000 in
theorem c_heldBox6S (t : Nat) (k : Int) (n : Nat) (ha : n ≤ 1048577) (hk : 0 ≤ k ∧ k ≤ 1125899906842624) : Contract P 56 [.sl t 6 ((ms_Box6 k n).map Box6.row), .int .i64 k] [] (.int .i64 (k + 6 * n)) [] := by
  have hz : ((0 : Nat) : Int) = 0 := rfl
  refine fn_sound (Env.nil P) hm k_laws_heldHandBoxS (nlb rfl) rfl ?_; unfold s_laws_heldHandBoxS; simp (maxSteps := 2000000) only [bitvec_to_nat, reduceIte, Nat.reduceEqDiff, Nat.reduceAdd, Nat.reduceLeDiff, reduceCtorEq, Nat.reduceBEq, Nat.reduceLT, Nat.reduceMod, fmc, Box6.row, Box6_eta, irow, srow, Int.toNat_natCast, List.length_map, Nat.sub_zero, Nat.zero_add, hz, eq_self, ms_Box6_len]
  refine loop_st (fun i : Nat => [(1, .int .i64 (k + 6 * i)), (5, .int .i64 i)]) (fun _ => []) (fun i => i ≤ n) (fun i => n - i) 0 ?_ (Nat.zero_le _) ?_
  · have e0 : k + 6 * ((0 : Nat) : Int) = k := by omega
    simp only [e0]
    simp only [u_E0, u_E1, u_M0, u_M1, w_setE0, w_setE1, w_setM0, w_setM1, reduceIte, Nat.reduceEqDiff]; exact ⟨by repeat' (first | exact trivial | refine ⟨.inr rfl, ?_⟩), by repeat' (first | exact trivial | refine ⟨rfl, ?_⟩), by first | rfl | simp [closedB, refsIn, refsInL, refsInO, dom, refsInL_nr, *], by first | rfl | simp [keepB, dom]⟩
  intro i hi NX hN
  have e5 : k + 6 * ((i + 1 : Nat) : Int) = k + 6 * (i : Int) + 1 + 1 + 1 + 1 + 1 + 1 := by omega
  by_cases h : i < n
  · have hg := ms_Box6_get (k := k) h
    have h' : (i : Int) < n := by omega
    unfold l_laws_heldHandBoxS_0; simp (maxSteps := 2000000) only [bitvec_to_nat, reduceIte, Nat.reduceEqDiff, Nat.reduceAdd, Nat.reduceLeDiff, reduceCtorEq, Nat.reduceBEq, Nat.reduceLT, Nat.reduceMod, fmc, Box6.row, Box6_eta, irow, srow, Int.toNat_natCast, List.length_map, Nat.sub_zero, Nat.zero_add, hz, eq_self, ms_Box6_len, h', hg, mk_Box6, not_true_eq_false, ne_eq, bne_self_eq_false]
    repeat' (first | with_reducible apply And.intro | with_reducible intro _)
    all_goals first
      | omega
      | rfl
      | (rename_i h; exact absurd rfl h)
      | (refine hN (i + 1) _ (by simp only [e5]; simp only [u_E0, u_E1, u_M0, u_M1, w_setE0, w_setE1, w_setM0, w_setM1, reduceIte, Nat.reduceEqDiff]; exact ⟨by repeat' (first | exact trivial | refine ⟨.inr rfl, ?_⟩), by repeat' (first | exact trivial | refine ⟨rfl, ?_⟩), by first | rfl | simp [closedB, refsIn, refsInL, refsInO, dom, refsInL_nr, *], by first | rfl | simp [keepB, dom]⟩) ?_ ?_ <;> omega)
  · have h' : ¬ (i : Int) < n := by omega
    unfold l_laws_heldHandBoxS_0; simp (maxSteps := 2000000) only [bitvec_to_nat, reduceIte, Nat.reduceEqDiff, Nat.reduceAdd, Nat.reduceLeDiff, reduceCtorEq, Nat.reduceBEq, Nat.reduceLT, Nat.reduceMod, fmc, Box6.row, Box6_eta, irow, srow, Int.toNat_natCast, List.length_map, Nat.sub_zero, Nat.zero_add, hz, eq_self, ms_Box6_len, h']
    omega
def mk_Seen (k : Int) : Seen := ⟨mtx (k), k + 1⟩
def ms_Seen (k : Int) (n : Nat) : List Seen := (List.range n).map fun j : Nat => mk_Seen (k + 2 * (j : Int))
theorem ms_Seen_len {k : Int} {n : Nat} : (ms_Seen k n).length = n := by simp [ms_Seen]
theorem ms_Seen_get {k : Int} {n j : Nat} (h : j < n) : (ms_Seen k n).getD j default = mk_Seen (k + 2 * (j : Int)) := by simp [ms_Seen, h]
theorem setm_Seen0 {l : List Seen} {i : Nat} {v : ByteArray} : (l.map Seen.row).set i (setSeg ((l.map Seen.row).getD i []) 0 [.str v]) = (l.set i { l.getD i default with fl := v }).map Seen.row :=
  set_rows (α := Seen) (f := Seen.row) (fun s => { s with fl := v }) fun x => by simp [Seen.row, setSeg]
theorem setm_Seen1 {l : List Seen} {i : Nat} {v : Int} : (l.map Seen.row).set i (setSeg ((l.map Seen.row).getD i []) 1 [.int .i64 v]) = (l.set i { l.getD i default with nr := v }).map Seen.row :=
  set_rows (α := Seen) (f := Seen.row) (fun s => { s with nr := v }) fun x => by simp [Seen.row, setSeg]
set_option maxHeartbeats 1000000 in
theorem c_markSeenS (v : Nat) (k : Int) (a : List Seen) (ha : a.length ≤ 1048577) (hk : 0 ≤ k ∧ k ≤ 1125899906842624) : Contract P 55 [.own 3 v 0 a.length, .int .i64 k] [(3, .arr 118 v 2 (a.map Seen.row))] (.int .i64 (k + 2 * a.length)) [(3, .arr 118 v 2 ((ms_Seen k a.length).map Seen.row))] := by
  have hz : ((0 : Nat) : Int) = 0 := rfl
  have gs : True := trivial
  refine fn_sound ((Env.nil P).add 52 t_markText h_markText) hm k_laws_markHandSeenS (nlb rfl) rfl ?_; unfold s_laws_markHandSeenS; simp (maxSteps := 2000000) only [bitvec_to_nat, reduceIte, Nat.reduceEqDiff, Nat.reduceAdd, Nat.reduceLeDiff, reduceCtorEq, Nat.reduceBEq, Nat.reduceLT, Nat.reduceMod, fmc, retG_ret, retQ_eq, retQ_eqN, retOk, keepB, re_tupl, orr_t, t_markText, setm_Seen0, setm_Seen1, List.set_set, gs, Seen.row, irow, srow, Int.toNat_natCast, List.length_map, List.length_set, Nat.sub_zero, Nat.zero_add, hz]
  refine loop_st (fun b : Nat × List Seen => [(1, .int .i64 (k + 2 * b.1)), (5, .int .i64 b.1)]) (fun b => [(3, .arr 118 v 2 (b.2.map Seen.row))]) (fun b => b.2.length = a.length ∧ b.1 ≤ a.length ∧ ∀ j, j < b.1 → b.2.getD j default = mk_Seen (k + 2 * (j : Int))) (fun b => a.length - b.1) (0, a) ?_ ⟨rfl, Nat.zero_le _, fun j hj => absurd hj (Nat.not_lt_zero _)⟩ ?_
  · have e0 : k + 2 * ((0 : Nat) : Int) = k := by omega
    simp only [e0]
    simp only [u_E0, u_E1, u_M0, u_M1, w_setE0, w_setE1, w_setM0, w_setM1, reduceIte, Nat.reduceEqDiff]; exact ⟨by repeat' (first | exact trivial | refine ⟨.inr rfl, ?_⟩), by repeat' (first | exact trivial | refine ⟨rfl, ?_⟩), by first | rfl | simp [closedB, refsIn, refsInL, refsInO, dom, refsInL_nr, *], by first | rfl | simp [keepB, dom]⟩
  rintro ⟨i, l⟩ ⟨h1, h2, h3⟩ NX hN
  simp only at h1 h2 h3
  have gs : i < a.length → ∀ x : Seen, (l.set i x).getD i default = x := fun h x => getD_seti' (by omega)
  by_cases hi : i < a.length
  · have gs := gs hi
    have e5 : k + 2 * ((i + 1 : Nat) : Int) = k + 2 * (i : Int) + 1 + 1 := by omega
    unfold l_laws_markHandSeenS_0; simp (maxSteps := 2000000) only [bitvec_to_nat, reduceIte, Nat.reduceEqDiff, Nat.reduceAdd, Nat.reduceLeDiff, reduceCtorEq, Nat.reduceBEq, Nat.reduceLT, Nat.reduceMod, fmc, retG_ret, retQ_eq, retQ_eqN, retOk, keepB, re_tupl, orr_t, t_markText, setm_Seen0, setm_Seen1, List.set_set, gs, Seen.row, irow, srow, Int.toNat_natCast, List.length_map, List.length_set, Nat.sub_zero, Nat.zero_add, hz]
    repeat' (first | with_reducible apply And.intro | with_reducible intro _)
    all_goals first
      | omega
      | (refine hN (i + 1, l.set i (mk_Seen (k + 2 * (i : Int)))) _ (by simp only [e5]; simp only [u_E0, u_E1, u_M0, u_M1, w_setE0, w_setE1, w_setM0, w_setM1, reduceIte, Nat.reduceEqDiff]; exact ⟨by repeat' (first | exact trivial | refine ⟨.inr rfl, ?_⟩), by repeat' (first | exact trivial | refine ⟨rfl, ?_⟩), by first | rfl | simp [closedB, refsIn, refsInL, refsInO, dom, refsInL_nr, *], by first | rfl | simp [keepB, dom]⟩) ⟨by simp only [List.length_set]; exact h1, hi, fun j hj => ?_⟩ (by simp only; omega)
         simp only at hj ⊢
         by_cases e : j = i
         · subst e; exact getD_seti' (by omega)
         · rw [getD_setn' (Ne.symm e)]; exact h3 j (by omega))
      | (exfalso; omega)
  · have hl : l = ms_Seen k a.length := ext_of (by rw [ms_Seen_len]; exact h1) fun j hj => by rw [ms_Seen_get (by omega)]; exact h3 j (by omega)
    have hi' : ¬ (i : Int) < a.length := by omega
    unfold l_laws_markHandSeenS_0; simp (maxSteps := 2000000) only [bitvec_to_nat, reduceIte, Nat.reduceEqDiff, Nat.reduceAdd, Nat.reduceLeDiff, reduceCtorEq, Nat.reduceBEq, Nat.reduceLT, Nat.reduceMod, fmc, retG_ret, retQ_eq, retQ_eqN, retOk, keepB, re_tupl, orr_t, t_markText, setm_Seen0, setm_Seen1, List.set_set, gs, Seen.row, irow, srow, Int.toNat_natCast, List.length_map, List.length_set, Nat.sub_zero, Nat.zero_add, hz, hi']
    refine ⟨by omega, ?_⟩
    rw [hl]
set_option maxHeartbeats 1000000 in
theorem c_heldSeenS (t : Nat) (k : Int) (n : Nat) (ha : n ≤ 1048577) (hk : 0 ≤ k ∧ k ≤ 1125899906842624) : Contract P 64 [.sl t 2 ((ms_Seen k n).map Seen.row), .int .i64 k] [] (.int .i64 (k + 2 * n)) [] := by
  have hz : ((0 : Nat) : Int) = 0 := rfl
  refine fn_sound ((Env.nil P).add 52 t_markText h_markText) hm k_laws_heldHandSeenS (nlb rfl) rfl ?_; unfold s_laws_heldHandSeenS; simp (maxSteps := 2000000) only [bitvec_to_nat, reduceIte, Nat.reduceEqDiff, Nat.reduceAdd, Nat.reduceLeDiff, reduceCtorEq, Nat.reduceBEq, Nat.reduceLT, Nat.reduceMod, fmc, t_markText, Seen.row, Seen_eta, irow, srow, Int.toNat_natCast, List.length_map, Nat.sub_zero, Nat.zero_add, hz, eq_self, ms_Seen_len]
  refine loop_st (fun i : Nat => [(1, .int .i64 (k + 2 * i)), (5, .int .i64 i)]) (fun _ => []) (fun i => i ≤ n) (fun i => n - i) 0 ?_ (Nat.zero_le _) ?_
  · have e0 : k + 2 * ((0 : Nat) : Int) = k := by omega
    simp only [e0]
    simp only [u_E0, u_E1, u_M0, u_M1, w_setE0, w_setE1, w_setM0, w_setM1, reduceIte, Nat.reduceEqDiff]; exact ⟨by repeat' (first | exact trivial | refine ⟨.inr rfl, ?_⟩), by repeat' (first | exact trivial | refine ⟨rfl, ?_⟩), by first | rfl | simp [closedB, refsIn, refsInL, refsInO, dom, refsInL_nr, *], by first | rfl | simp [keepB, dom]⟩
  intro i hi NX hN
  have e5 : k + 2 * ((i + 1 : Nat) : Int) = k + 2 * (i : Int) + 1 + 1 := by omega
  by_cases h : i < n
  · have hg := ms_Seen_get (k := k) h
    have h' : (i : Int) < n := by omega
    unfold l_laws_heldHandSeenS_0; simp (maxSteps := 2000000) only [bitvec_to_nat, reduceIte, Nat.reduceEqDiff, Nat.reduceAdd, Nat.reduceLeDiff, reduceCtorEq, Nat.reduceBEq, Nat.reduceLT, Nat.reduceMod, fmc, t_markText, Seen.row, Seen_eta, irow, srow, Int.toNat_natCast, List.length_map, Nat.sub_zero, Nat.zero_add, hz, eq_self, ms_Seen_len, h', hg, mk_Seen, not_true_eq_false, ne_eq, bne_self_eq_false]
    repeat' (first | with_reducible apply And.intro | with_reducible intro _)
    all_goals first
      | omega
      | rfl
      | (rename_i h; exact absurd rfl h)
      | (refine hN (i + 1) _ (by simp only [e5]; simp only [u_E0, u_E1, u_M0, u_M1, w_setE0, w_setE1, w_setM0, w_setM1, reduceIte, Nat.reduceEqDiff]; exact ⟨by repeat' (first | exact trivial | refine ⟨.inr rfl, ?_⟩), by repeat' (first | exact trivial | refine ⟨rfl, ?_⟩), by first | rfl | simp [closedB, refsIn, refsInL, refsInO, dom, refsInL_nr, *], by first | rfl | simp [keepB, dom]⟩) ?_ ?_ <;> omega)
  · have h' : ¬ (i : Int) < n := by omega
    unfold l_laws_heldHandSeenS_0; simp (maxSteps := 2000000) only [bitvec_to_nat, reduceIte, Nat.reduceEqDiff, Nat.reduceAdd, Nat.reduceLeDiff, reduceCtorEq, Nat.reduceBEq, Nat.reduceLT, Nat.reduceMod, fmc, t_markText, Seen.row, Seen_eta, irow, srow, Int.toNat_natCast, List.length_map, Nat.sub_zero, Nat.zero_add, hz, eq_self, ms_Seen_len, h']
    omega
def mk_Zone (k : Int) : Zone := ⟨mtx (k), k + 1, k + 1 + 1, k + 1 + 1 + 1, k + 1 + 1 + 1 + 1⟩
def ms_Zone (k : Int) (n : Nat) : List Zone := (List.range n).map fun j : Nat => mk_Zone (k + 5 * (j : Int))
theorem ms_Zone_len {k : Int} {n : Nat} : (ms_Zone k n).length = n := by simp [ms_Zone]
theorem ms_Zone_get {k : Int} {n j : Nat} (h : j < n) : (ms_Zone k n).getD j default = mk_Zone (k + 5 * (j : Int)) := by simp [ms_Zone, h]
theorem setm_Zone0 {l : List Zone} {i : Nat} {v : ByteArray} : (l.map Zone.row).set i (setSeg ((l.map Zone.row).getD i []) 0 [.str v]) = (l.set i { l.getD i default with nm := v }).map Zone.row :=
  set_rows (α := Zone) (f := Zone.row) (fun s => { s with nm := v }) fun x => by simp [Zone.row, setSeg]
theorem setm_Zone1 {l : List Zone} {i : Nat} {v : Int} : (l.map Zone.row).set i (setSeg ((l.map Zone.row).getD i []) 1 [.int .i64 v]) = (l.set i { l.getD i default with x0 := v }).map Zone.row :=
  set_rows (α := Zone) (f := Zone.row) (fun s => { s with x0 := v }) fun x => by simp [Zone.row, setSeg]
theorem setm_Zone2 {l : List Zone} {i : Nat} {v : Int} : (l.map Zone.row).set i (setSeg ((l.map Zone.row).getD i []) 2 [.int .i64 v]) = (l.set i { l.getD i default with y0 := v }).map Zone.row :=
  set_rows (α := Zone) (f := Zone.row) (fun s => { s with y0 := v }) fun x => by simp [Zone.row, setSeg]
theorem setm_Zone3 {l : List Zone} {i : Nat} {v : Int} : (l.map Zone.row).set i (setSeg ((l.map Zone.row).getD i []) 3 [.int .i64 v]) = (l.set i { l.getD i default with x1 := v }).map Zone.row :=
  set_rows (α := Zone) (f := Zone.row) (fun s => { s with x1 := v }) fun x => by simp [Zone.row, setSeg]
theorem setm_Zone4 {l : List Zone} {i : Nat} {v : Int} : (l.map Zone.row).set i (setSeg ((l.map Zone.row).getD i []) 4 [.int .i64 v]) = (l.set i { l.getD i default with y1 := v }).map Zone.row :=
  set_rows (α := Zone) (f := Zone.row) (fun s => { s with y1 := v }) fun x => by simp [Zone.row, setSeg]
set_option maxHeartbeats 1000000 in
theorem c_markZoneS (v : Nat) (k : Int) (a : List Zone) (ha : a.length ≤ 1048577) (hk : 0 ≤ k ∧ k ≤ 1125899906842624) : Contract P 16 [.own 3 v 0 a.length, .int .i64 k] [(3, .arr 76 v 5 (a.map Zone.row))] (.int .i64 (k + 5 * a.length)) [(3, .arr 76 v 5 ((ms_Zone k a.length).map Zone.row))] := by
  have hz : ((0 : Nat) : Int) = 0 := rfl
  have gs : True := trivial
  refine fn_sound ((Env.nil P).add 52 t_markText h_markText) hm k_laws_markHandZoneS (nlb rfl) rfl ?_; unfold s_laws_markHandZoneS; simp (maxSteps := 2000000) only [bitvec_to_nat, reduceIte, Nat.reduceEqDiff, Nat.reduceAdd, Nat.reduceLeDiff, reduceCtorEq, Nat.reduceBEq, Nat.reduceLT, Nat.reduceMod, fmc, retG_ret, retQ_eq, retQ_eqN, retOk, keepB, re_tupl, orr_t, t_markText, setm_Zone0, setm_Zone1, setm_Zone2, setm_Zone3, setm_Zone4, List.set_set, gs, Zone.row, irow, srow, Int.toNat_natCast, List.length_map, List.length_set, Nat.sub_zero, Nat.zero_add, hz]
  refine loop_st (fun b : Nat × List Zone => [(1, .int .i64 (k + 5 * b.1)), (5, .int .i64 b.1)]) (fun b => [(3, .arr 76 v 5 (b.2.map Zone.row))]) (fun b => b.2.length = a.length ∧ b.1 ≤ a.length ∧ ∀ j, j < b.1 → b.2.getD j default = mk_Zone (k + 5 * (j : Int))) (fun b => a.length - b.1) (0, a) ?_ ⟨rfl, Nat.zero_le _, fun j hj => absurd hj (Nat.not_lt_zero _)⟩ ?_
  · have e0 : k + 5 * ((0 : Nat) : Int) = k := by omega
    simp only [e0]
    simp only [u_E0, u_E1, u_M0, u_M1, w_setE0, w_setE1, w_setM0, w_setM1, reduceIte, Nat.reduceEqDiff]; exact ⟨by repeat' (first | exact trivial | refine ⟨.inr rfl, ?_⟩), by repeat' (first | exact trivial | refine ⟨rfl, ?_⟩), by first | rfl | simp [closedB, refsIn, refsInL, refsInO, dom, refsInL_nr, *], by first | rfl | simp [keepB, dom]⟩
  rintro ⟨i, l⟩ ⟨h1, h2, h3⟩ NX hN
  simp only at h1 h2 h3
  have gs : i < a.length → ∀ x : Zone, (l.set i x).getD i default = x := fun h x => getD_seti' (by omega)
  by_cases hi : i < a.length
  · have gs := gs hi
    have e5 : k + 5 * ((i + 1 : Nat) : Int) = k + 5 * (i : Int) + 1 + 1 + 1 + 1 + 1 := by omega
    unfold l_laws_markHandZoneS_0; simp (maxSteps := 2000000) only [bitvec_to_nat, reduceIte, Nat.reduceEqDiff, Nat.reduceAdd, Nat.reduceLeDiff, reduceCtorEq, Nat.reduceBEq, Nat.reduceLT, Nat.reduceMod, fmc, retG_ret, retQ_eq, retQ_eqN, retOk, keepB, re_tupl, orr_t, t_markText, setm_Zone0, setm_Zone1, setm_Zone2, setm_Zone3, setm_Zone4, List.set_set, gs, Zone.row, irow, srow, Int.toNat_natCast, List.length_map, List.length_set, Nat.sub_zero, Nat.zero_add, hz]
    repeat' (first | with_reducible apply And.intro | with_reducible intro _)
    all_goals first
      | omega
      | (refine hN (i + 1, l.set i (mk_Zone (k + 5 * (i : Int)))) _ (by simp only [e5]; simp only [u_E0, u_E1, u_M0, u_M1, w_setE0, w_setE1, w_setM0, w_setM1, reduceIte, Nat.reduceEqDiff]; exact ⟨by repeat' (first | exact trivial | refine ⟨.inr rfl, ?_⟩), by repeat' (first | exact trivial | refine ⟨rfl, ?_⟩), by first | rfl | simp [closedB, refsIn, refsInL, refsInO, dom, refsInL_nr, *], by first | rfl | simp [keepB, dom]⟩) ⟨by simp only [List.length_set]; exact h1, hi, fun j hj => ?_⟩ (by simp only; omega)
         simp only at hj ⊢
         by_cases e : j = i
         · subst e; exact getD_seti' (by omega)
         · rw [getD_setn' (Ne.symm e)]; exact h3 j (by omega))
      | (exfalso; omega)
  · have hl : l = ms_Zone k a.length := ext_of (by rw [ms_Zone_len]; exact h1) fun j hj => by rw [ms_Zone_get (by omega)]; exact h3 j (by omega)
    have hi' : ¬ (i : Int) < a.length := by omega
    unfold l_laws_markHandZoneS_0; simp (maxSteps := 2000000) only [bitvec_to_nat, reduceIte, Nat.reduceEqDiff, Nat.reduceAdd, Nat.reduceLeDiff, reduceCtorEq, Nat.reduceBEq, Nat.reduceLT, Nat.reduceMod, fmc, retG_ret, retQ_eq, retQ_eqN, retOk, keepB, re_tupl, orr_t, t_markText, setm_Zone0, setm_Zone1, setm_Zone2, setm_Zone3, setm_Zone4, List.set_set, gs, Zone.row, irow, srow, Int.toNat_natCast, List.length_map, List.length_set, Nat.sub_zero, Nat.zero_add, hz, hi']
    refine ⟨by omega, ?_⟩
    rw [hl]
end
end Go.Ve

