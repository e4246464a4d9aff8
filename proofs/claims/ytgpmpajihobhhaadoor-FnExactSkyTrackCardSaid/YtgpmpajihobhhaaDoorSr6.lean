/- Part 6 of the proof: laws and contracts of functions, each proved; they are joined in the last part. No conditions beyond those that the theorems state. -/
import Derived.Test.YtgpmpajihobhhaaDoorSr5
set_option linter.all false
namespace Go.Ve
noncomputable section
open Go.Proofs
set_option linter.unusedSimpArgs false
set_option linter.unusedVariables false
set_option maxRecDepth 100000
open Go.ChangeShapes Go.WideShapes
theorem c_eqCell (c d : Cell)  : Contract P 107 [.agg (c.row), .agg (d.row)] [] (.bool (decide (c = d))) [] := by
  obtain ⟨c_x, c_y⟩ := c
  obtain ⟨d_x, d_y⟩ := d
  simp only [Cell.row]
  refine fn_sound (Env.nil P) hm k_laws_eqSkyCell (Nat.le_of_ble_eq_true rfl) rfl ?_; unfold s_laws_eqSkyCell; simp (config := { maxSteps := 2000000 }) only [bitvec_to_nat, reduceIte, Nat.reduceEqDiff, Nat.reduceAdd, Nat.reduceLeDiff, reduceCtorEq, Nat.reduceBEq, Nat.reduceLT, Nat.reduceMod, List.forall_mem_cons, tk_map, dp_map, toNat_pred, appE, rowsOf, List.take_length, List.length_cons, List.length_nil, Nat.zero_add, srow, irow, un_s, un_i, Zone.row, Zone_eta, un_Zone, Word.row, Word_eta, Own.row, Own_eta, Part.row, Part_eta, Seen.row, Seen_eta, Book.row, Book_eta, Sector.row, Sector_eta, HCraft.row, HCraft_eta, World.row, World_eta, Pt.row, Pt_eta, Aw.row, Aw_eta, Blk.row, Blk_eta, Sec.row, Sec_eta, Rw.row, Rw_eta, Sky.row, Sky_eta, Place.row, Place_eta, Cell.row, Cell_eta, un_Word, un_Own, un_Part, un_Seen, un_Book, un_Sector, un_HCraft, un_World, un_Pt, un_Aw, un_Blk, un_Sec, un_Rw, un_Sky, un_Place, un_Cell]
  simp only [Cell.mk.injEq]
  repeat' (first | with_reducible apply And.intro | with_reducible intro _)
  all_goals first | omega | (simp_all; done) | grind
def t_eqCell : List AV → Option (Prop × AV)
  | [.agg [.int .i64 c_x, .int .i64 c_y], .agg [.int .i64 d_x, .int .i64 d_y]] => some ((True) ∧ (True), .bool (decide ((Cell.mk c_x c_y) = (Cell.mk d_x d_y))))
  | _ => none
theorem h_eqCell : ∀ args p v, t_eqCell args = some (p, v) → p → Contract P 107 args [] v [] ∧ noref v = true ∧ No99 v := by
  intro args p v h1 h2
  unfold t_eqCell at h1
  split at h1
  · rename_i c_x c_y d_x d_y
    cases h1
    obtain ⟨_, HP⟩ := h2
    have := c_eqCell (Cell.mk c_x c_y) (Cell.mk d_x d_y)
    exact ⟨by simpa only [Cell.row, Cell.row] using this, rfl, trivial⟩
  · cases h1
theorem c_eqCellS (t t' : Nat) (p q : List Cell) (hp : p.length ≤ 4611686018427387904) : Contract P 43 [.sl t 2 (p.map Cell.row), .sl t' 2 (q.map Cell.row)] [] (.bool (decide (p = q))) [] := by
  refine fn_sound ((Env.nil P).add 107 t_eqCell h_eqCell) hm k_laws_eqSkyCellS (Nat.le_of_ble_eq_true rfl) rfl ?_; unfold s_laws_eqSkyCellS; simp (config := { maxSteps := 2000000 }) only [bitvec_to_nat, reduceIte, Nat.reduceEqDiff, Nat.reduceAdd, Nat.reduceLeDiff, reduceCtorEq, Nat.reduceBEq, Nat.reduceLT, Nat.reduceMod, List.forall_mem_cons, t_eqCell, tk_map, dp_map, toNat_pred, appE, rowsOf, List.take_length, List.length_cons, List.length_nil, Nat.zero_add, srow, irow, un_s, un_i, Zone.row, Zone_eta, un_Zone, Word.row, Word_eta, Own.row, Own_eta, Part.row, Part_eta, Seen.row, Seen_eta, Book.row, Book_eta, Sector.row, Sector_eta, HCraft.row, HCraft_eta, World.row, World_eta, Pt.row, Pt_eta, Aw.row, Aw_eta, Blk.row, Blk_eta, Sec.row, Sec_eta, Rw.row, Rw_eta, Sky.row, Sky_eta, Place.row, Place_eta, Cell.row, Cell_eta, un_Word, un_Own, un_Part, un_Seen, un_Book, un_Sector, un_HCraft, un_World, un_Pt, un_Aw, un_Blk, un_Sec, un_Rw, un_Sky, un_Place, un_Cell]
  refine ⟨fun h1 h => h1 (by rw [h]), fun h1 => ?_⟩
  refine loop_st (fun i : Nat => [(5, .int .i64 i)]) (fun _ => []) (fun i => i ≤ p.length ∧ ∀ j, j < i → p.getD j default = q.getD j default) (fun i => p.length - i) (0) (by simp only [u_E0, u_E1, u_M0, u_M1, w_setE0, w_setE1, w_setM0, w_setM1, reduceIte, Nat.reduceEqDiff]; exact ⟨by repeat' (first | exact trivial | refine ⟨.inr rfl, ?_⟩), by repeat' (first | exact trivial | refine ⟨rfl, ?_⟩), by first | rfl | simp [closedB, refsIn, refsInL, refsInO, dom, refsInL_nr, *], by first | rfl | simp [keepB, dom]⟩) ?_ ?_
  · exact ⟨Nat.zero_le _, by intro j hj; omega⟩
  intro i hi NX hN
  unfold l_laws_eqSkyCellS_0; simp (config := { maxSteps := 2000000 }) only [bitvec_to_nat, reduceIte, Nat.reduceEqDiff, Nat.reduceAdd, Nat.reduceLeDiff, reduceCtorEq, Nat.reduceBEq, Nat.reduceLT, Nat.reduceMod, List.forall_mem_cons, t_eqCell, tk_map, dp_map, toNat_pred, appE, rowsOf, List.take_length, List.length_cons, List.length_nil, Nat.zero_add, srow, irow, un_s, un_i, Zone.row, Zone_eta, un_Zone, Word.row, Word_eta, Own.row, Own_eta, Part.row, Part_eta, Seen.row, Seen_eta, Book.row, Book_eta, Sector.row, Sector_eta, HCraft.row, HCraft_eta, World.row, World_eta, Pt.row, Pt_eta, Aw.row, Aw_eta, Blk.row, Blk_eta, Sec.row, Sec_eta, Rw.row, Rw_eta, Sky.row, Sky_eta, Place.row, Place_eta, Cell.row, Cell_eta, un_Word, un_Own, un_Part, un_Seen, un_Book, un_Sector, un_HCraft, un_World, un_Pt, un_Aw, un_Blk, un_Sec, un_Rw, un_Sky, un_Place, un_Cell]
  skip
  repeat' (first | with_reducible apply And.intro | with_reducible intro _)
  all_goals first
    | omega
    | (refine hN (i + 1) _ (by simp only [u_E0, u_E1, u_M0, u_M1, w_setE0, w_setE1, w_setM0, w_setM1, reduceIte, Nat.reduceEqDiff]; exact ⟨by repeat' (first | exact trivial | refine ⟨.inr rfl, ?_⟩), by repeat' (first | exact trivial | refine ⟨rfl, ?_⟩), by first | rfl | simp [closedB, refsIn, refsInL, refsInO, dom, refsInL_nr, *], by first | rfl | simp [keepB, dom]⟩) ?_ ?_
       · exact ⟨by omega, all_snoc hi.2 (by with_reducible assumption)⟩
       · omega)
    | (intro h; subst h; exact absurd rfl (by with_reducible assumption))
    | (exact ext_of (by omega) fun j hj => hi.2 j (by omega))
    | grind
def t_eqCellS : List AV → Option (Prop × AV)
  | [.sl ct 2 cx, .sl dt 2 dx] => some ((((cx.map unCell).map Cell.row = cx) ∧ ((dx.map unCell).map Cell.row = dx)) ∧ ((cx.map unCell).length ≤ 4611686018427387904), .bool (decide ((cx.map unCell) = (dx.map unCell))))
  | _ => none
theorem h_eqCellS : ∀ args p v, t_eqCellS args = some (p, v) → p → Contract P 43 args [] v [] ∧ noref v = true ∧ No99 v := by
  intro args p v h1 h2
  unfold t_eqCellS at h1
  split at h1
  · rename_i ct cx dt dx
    cases h1
    obtain ⟨⟨e0, e1⟩, HP⟩ := h2
    have := c_eqCellS ct dt (cx.map unCell) (dx.map unCell) HP
    exact ⟨by simpa only [e0, e1] using this, rfl, trivial⟩
  · cases h1
def mk_Cell (k : Int) : Cell := ⟨k, k + 1⟩
def ms_Cell (k : Int) (n : Nat) : List Cell := (List.range n).map fun j : Nat => mk_Cell (k + 2 * (j : Int))
theorem ms_Cell_len {k : Int} {n : Nat} : (ms_Cell k n).length = n := by simp [ms_Cell]
theorem ms_Cell_get {k : Int} {n j : Nat} (h : j < n) : (ms_Cell k n).getD j default = mk_Cell (k + 2 * (j : Int)) := by simp [ms_Cell, h]
theorem setm_Cell0 {l : List Cell} {i : Nat} {v : Int} : (l.map Cell.row).set i (setSeg ((l.map Cell.row).getD i []) 0 [.int .i64 v]) = (l.set i { l.getD i default with x := v }).map Cell.row :=
  set_rows (α := Cell) (f := Cell.row) (fun s => { s with x := v }) fun x => by simp [Cell.row, setSeg]
theorem setm_Cell1 {l : List Cell} {i : Nat} {v : Int} : (l.map Cell.row).set i (setSeg ((l.map Cell.row).getD i []) 1 [.int .i64 v]) = (l.set i { l.getD i default with y := v }).map Cell.row :=
  set_rows (α := Cell) (f := Cell.row) (fun s => { s with y := v }) fun x => by simp [Cell.row, setSeg]
set_option maxHeartbeats 1000000 in
theorem c_markCellS (v : Nat) (k : Int) (a : List Cell) (ha : a.length ≤ 16777217) (hk : 0 ≤ k ∧ k ≤ 1125899906842624) : Contract P 46 [.own 3 v 0 a.length, .int .i64 k] [(3, .arr 148 v 2 (a.map Cell.row))] (.int .i64 (k + 2 * a.length)) [(3, .arr 148 v 2 ((ms_Cell k a.length).map Cell.row))] := by
  have hz : ((0 : Nat) : Int) = 0 := rfl
  have gs : True := trivial
  refine fn_sound (Env.nil P) hm k_laws_markSkyCellS (Nat.le_of_ble_eq_true rfl) rfl ?_; unfold s_laws_markSkyCellS; simp (config := { maxSteps := 2000000 }) only [bitvec_to_nat, reduceIte, Nat.reduceEqDiff, Nat.reduceAdd, Nat.reduceLeDiff, reduceCtorEq, Nat.reduceBEq, Nat.reduceLT, Nat.reduceMod, List.forall_mem_cons, retG_ret, retQ_eq, retQ_eqN, retOk, keepB, re_tupl, orr_t, setm_Cell0, setm_Cell1, List.set_set, gs, Cell.row, irow, srow, Int.toNat_natCast, List.length_map, List.length_set, Nat.sub_zero, Nat.zero_add, hz]
  refine loop_st (fun b : Nat × List Cell => [(1, .int .i64 (k + 2 * b.1)), (5, .int .i64 b.1)]) (fun b => [(3, .arr 148 v 2 (b.2.map Cell.row))]) (fun b => b.2.length = a.length ∧ b.1 ≤ a.length ∧ ∀ j, j < b.1 → b.2.getD j default = mk_Cell (k + 2 * (j : Int))) (fun b => a.length - b.1) (0, a) ?_ ⟨rfl, Nat.zero_le _, fun j hj => absurd hj (Nat.not_lt_zero _)⟩ ?_
  · have e0 : k + 2 * ((0 : Nat) : Int) = k := by omega
    simp only [e0]
    simp only [u_E0, u_E1, u_M0, u_M1, w_setE0, w_setE1, w_setM0, w_setM1, reduceIte, Nat.reduceEqDiff]; exact ⟨by repeat' (first | exact trivial | refine ⟨.inr rfl, ?_⟩), by repeat' (first | exact trivial | refine ⟨rfl, ?_⟩), by first | rfl | simp [closedB, refsIn, refsInL, refsInO, dom, refsInL_nr, *], by first | rfl | simp [keepB, dom]⟩
  rintro ⟨i, l⟩ ⟨h1, h2, h3⟩ NX hN
  simp only at h1 h2 h3
  have gs : i < a.length → ∀ x : Cell, (l.set i x).getD i default = x := fun h x => getD_seti' (by omega)
  by_cases hi : i < a.length
  · have gs := gs hi
    have e5 : k + 2 * ((i + 1 : Nat) : Int) = k + 2 * (i : Int) + 1 + 1 := by omega
    unfold l_laws_markSkyCellS_0; simp (config := { maxSteps := 2000000 }) only [bitvec_to_nat, reduceIte, Nat.reduceEqDiff, Nat.reduceAdd, Nat.reduceLeDiff, reduceCtorEq, Nat.reduceBEq, Nat.reduceLT, Nat.reduceMod, List.forall_mem_cons, retG_ret, retQ_eq, retQ_eqN, retOk, keepB, re_tupl, orr_t, setm_Cell0, setm_Cell1, List.set_set, gs, Cell.row, irow, srow, Int.toNat_natCast, List.length_map, List.length_set, Nat.sub_zero, Nat.zero_add, hz]
    repeat' (first | with_reducible apply And.intro | with_reducible intro _)
    all_goals first
      | omega
      | (refine hN (i + 1, l.set i (mk_Cell (k + 2 * (i : Int)))) _ (by simp only [e5]; simp only [u_E0, u_E1, u_M0, u_M1, w_setE0, w_setE1, w_setM0, w_setM1, reduceIte, Nat.reduceEqDiff]; exact ⟨by repeat' (first | exact trivial | refine ⟨.inr rfl, ?_⟩), by repeat' (first | exact trivial | refine ⟨rfl, ?_⟩), by first | rfl | simp [closedB, refsIn, refsInL, refsInO, dom, refsInL_nr, *], by first | rfl | simp [keepB, dom]⟩) ⟨by simp only [List.length_set]; exact h1, hi, fun j hj => ?_⟩ (by simp only; omega)
         simp only at hj ⊢
         by_cases e : j = i
         · subst e; exact getD_seti' (by omega)
         · rw [getD_setn' (Ne.symm e)]; exact h3 j (by omega))
      | (exfalso; omega)
  · have hl : l = ms_Cell k a.length := ext_of (by rw [ms_Cell_len]; exact h1) fun j hj => by rw [ms_Cell_get (by omega)]; exact h3 j (by omega)
    have hi' : ¬ (i : Int) < a.length := by omega
    unfold l_laws_markSkyCellS_0; simp (config := { maxSteps := 2000000 }) only [bitvec_to_nat, reduceIte, Nat.reduceEqDiff, Nat.reduceAdd, Nat.reduceLeDiff, reduceCtorEq, Nat.reduceBEq, Nat.reduceLT, Nat.reduceMod, List.forall_mem_cons, retG_ret, retQ_eq, retQ_eqN, retOk, keepB, re_tupl, orr_t, setm_Cell0, setm_Cell1, List.set_set, gs, Cell.row, irow, srow, Int.toNat_natCast, List.length_map, List.length_set, Nat.sub_zero, Nat.zero_add, hz, hi']
    refine ⟨by omega, ?_⟩
    rw [hl]
set_option maxHeartbeats 1000000 in
theorem c_heldCellS (t : Nat) (k : Int) (n : Nat) (ha : n ≤ 16777217) (hk : 0 ≤ k ∧ k ≤ 1125899906842624) : Contract P 47 [.sl t 2 ((ms_Cell k n).map Cell.row), .int .i64 k] [] (.int .i64 (k + 2 * n)) [] := by
  have hz : ((0 : Nat) : Int) = 0 := rfl
  refine fn_sound (Env.nil P) hm k_laws_heldSkyCellS (Nat.le_of_ble_eq_true rfl) rfl ?_; unfold s_laws_heldSkyCellS; simp (config := { maxSteps := 2000000 }) only [bitvec_to_nat, reduceIte, Nat.reduceEqDiff, Nat.reduceAdd, Nat.reduceLeDiff, reduceCtorEq, Nat.reduceBEq, Nat.reduceLT, Nat.reduceMod, List.forall_mem_cons, Cell.row, Cell_eta, irow, srow, Int.toNat_natCast, List.length_map, Nat.sub_zero, Nat.zero_add, hz, eq_self, ms_Cell_len]
  refine loop_st (fun i : Nat => [(1, .int .i64 (k + 2 * i)), (5, .int .i64 i)]) (fun _ => []) (fun i => i ≤ n) (fun i => n - i) 0 ?_ (Nat.zero_le _) ?_
  · have e0 : k + 2 * ((0 : Nat) : Int) = k := by omega
    simp only [e0]
    simp only [u_E0, u_E1, u_M0, u_M1, w_setE0, w_setE1, w_setM0, w_setM1, reduceIte, Nat.reduceEqDiff]; exact ⟨by repeat' (first | exact trivial | refine ⟨.inr rfl, ?_⟩), by repeat' (first | exact trivial | refine ⟨rfl, ?_⟩), by first | rfl | simp [closedB, refsIn, refsInL, refsInO, dom, refsInL_nr, *], by first | rfl | simp [keepB, dom]⟩
  intro i hi NX hN
  have e5 : k + 2 * ((i + 1 : Nat) : Int) = k + 2 * (i : Int) + 1 + 1 := by omega
  by_cases h : i < n
  · have hg := ms_Cell_get (k := k) h
    have h' : (i : Int) < n := by omega
    unfold l_laws_heldSkyCellS_0; simp (config := { maxSteps := 2000000 }) only [bitvec_to_nat, reduceIte, Nat.reduceEqDiff, Nat.reduceAdd, Nat.reduceLeDiff, reduceCtorEq, Nat.reduceBEq, Nat.reduceLT, Nat.reduceMod, List.forall_mem_cons, Cell.row, Cell_eta, irow, srow, Int.toNat_natCast, List.length_map, Nat.sub_zero, Nat.zero_add, hz, eq_self, ms_Cell_len, h', hg, mk_Cell, not_true_eq_false, ne_eq, bne_self_eq_false]
    repeat' (first | with_reducible apply And.intro | with_reducible intro _)
    all_goals first
      | omega
      | rfl
      | (rename_i h; exact absurd rfl h)
      | (refine hN (i + 1) _ (by simp only [e5]; simp only [u_E0, u_E1, u_M0, u_M1, w_setE0, w_setE1, w_setM0, w_setM1, reduceIte, Nat.reduceEqDiff]; exact ⟨by repeat' (first | exact trivial | refine ⟨.inr rfl, ?_⟩), by repeat' (first | exact trivial | refine ⟨rfl, ?_⟩), by first | rfl | simp [closedB, refsIn, refsInL, refsInO, dom, refsInL_nr, *], by first | rfl | simp [keepB, dom]⟩) ?_ ?_ <;> omega)
  · have h' : ¬ (i : Int) < n := by omega
    unfold l_laws_heldSkyCellS_0; simp (config := { maxSteps := 2000000 }) only [bitvec_to_nat, reduceIte, Nat.reduceEqDiff, Nat.reduceAdd, Nat.reduceLeDiff, reduceCtorEq, Nat.reduceBEq, Nat.reduceLT, Nat.reduceMod, List.forall_mem_cons, Cell.row, Cell_eta, irow, srow, Int.toNat_natCast, List.length_map, Nat.sub_zero, Nat.zero_add, hz, eq_self, ms_Cell_len, h']
    omega
theorem c_markNCellS (t : Nat) (k : Int) : Contract P 46 [.sl t 2 [], .int .i64 k] [] (.int .i64 k) [] := by
  refine fn_sound (Env.nil P) hm k_laws_markSkyCellS (Nat.le_of_ble_eq_true rfl) rfl ?_; unfold s_laws_markSkyCellS; simp (config := { maxSteps := 2000000 }) only [bitvec_to_nat, reduceIte, Nat.reduceEqDiff, Nat.reduceAdd, Nat.reduceLeDiff, reduceCtorEq, Nat.reduceBEq, Nat.reduceLT, Nat.reduceMod, List.forall_mem_cons, List.map_nil, List.length_nil]
  refine loop_st (fun _ : Nat => [(5, .int .i64 0)]) (fun _ => []) (fun _ => True) (fun i => i) 0 (by simp only [u_E0, u_E1, u_M0, u_M1, w_setE0, w_setE1, w_setM0, w_setM1, reduceIte, Nat.reduceEqDiff]; exact ⟨by repeat' (first | exact trivial | refine ⟨.inr rfl, ?_⟩), by repeat' (first | exact trivial | refine ⟨rfl, ?_⟩), by first | rfl | simp [closedB, refsIn, refsInL, refsInO, dom, refsInL_nr, *], by first | rfl | simp [keepB, dom]⟩) trivial ?_
  intro i _ NX hN
  unfold l_laws_markSkyCellS_0; simp (config := { maxSteps := 2000000 }) only [bitvec_to_nat, reduceIte, Nat.reduceEqDiff, Nat.reduceAdd, Nat.reduceLeDiff, reduceCtorEq, Nat.reduceBEq, Nat.reduceLT, Nat.reduceMod, List.forall_mem_cons, List.map_nil, List.length_nil]
  first
    | exact fun h => absurd h (by omega)
    | exact ⟨fun h => absurd h (by omega), fun _ => by first | trivial | rfl⟩
def t_heldCellS : List AV → Option (Prop × AV)
  | [.sl _ 2 zx, .int .i64 k] => some (zx = (ms_Cell k zx.length).map Cell.row ∧ zx.length ≤ 16777217 ∧ (0 ≤ k ∧ k ≤ 1125899906842624), .int .i64 (k + 2 * (zx.length : Nat)))
  | _ => none
theorem h_heldCellS : ∀ args p v, t_heldCellS args = some (p, v) → p → Contract P 47 args [] v [] ∧ noref v = true ∧ No99 v := by
  intro args p v h1 h2
  unfold t_heldCellS at h1
  split at h1
  · rename_i t zx k
    cases h1
    obtain ⟨e1, h3, h4⟩ := h2
    have := c_heldCellS t k zx.length h3 h4
    rw [← e1] at this
    exact ⟨this, rfl, trivial⟩
  · cases h1
def t_sTrack : List AV → Option (Prop × AV)
  | [.agg [.int .i64 s_w, .int .i64 s_h, .int .i64 s_lv, .sl 0 3 s_pts, .sl 0 2 s_aws, .sl 0 2 s_secs, .sl 0 4 s_rws], .sl pt 1 px] => some ((((s_pts.map unPt).map Pt.row = s_pts) ∧ ((s_aws.map unAw).map (Aw.row 0) = s_aws) ∧ ((s_secs.map unSec).map (Sec.row 0) = s_secs) ∧ ((s_rws.map unRw).map Rw.row = s_rws) ∧ ((px.map unS).map srow = px)) ∧ (Sky.small (Sky.mk s_w s_h s_lv (s_pts.map unPt) (s_aws.map unAw) (s_secs.map unSec) (s_rws.map unRw)) ∧ (px.map unS).length ≤ 1048576), .tup [.sl 0 2 ((trL (Sky.mk s_w s_h s_lv (s_pts.map unPt) (s_aws.map unAw) (s_secs.map unSec) (s_rws.map unRw)) (px.map unS)).map Cell.row), .int .i64 (trC (Sky.mk s_w s_h s_lv (s_pts.map unPt) (s_aws.map unAw) (s_secs.map unSec) (s_rws.map unRw)) (px.map unS))])
  | _ => none
theorem h_sTrack : ∀ args p v, t_sTrack args = some (p, v) → p → Contract P 40 args [] v [] ∧ noref v = true ∧ No99 v := by
  intro args p v h1 h2
  unfold t_sTrack at h1
  split at h1
  · rename_i s_w s_h s_lv s_pts s_aws s_secs s_rws pt px
    cases h1
    obtain ⟨⟨e0, e1, e2, e3, e4⟩, HP⟩ := h2
    have := c_sTrack (Sky.mk s_w s_h s_lv (s_pts.map unPt) (s_aws.map unAw) (s_secs.map unSec) (s_rws.map unRw)) pt (px.map unS) HP.1 HP.2
    exact ⟨by simpa only [e0, e1, e2, e3, e4, Sky.row] using this, rfl, by simp [No99, No99L, no99_Cell]⟩
  · cases h1
set_option maxHeartbeats 8000000 in
theorem c_lawTY (s : Sky) (ps : List ByteArray) (hf : s.fitp) (hpf : ps.length ≤ 9223372036854775807 ∧ ∀ y ∈ ps, y.toList.length ≤ 9223372036854775807) (hv : trOk s ps) : Contract P 9 [.agg (s.row 1), .sl 1 1 (ps.map srow)] [] (.bool true) [] := by
  have tkP : List.take ps.length (ps.map srow) = ps.map srow := List.take_of_length_le (by simp)
  have hlz : trC s ps = 0 := by simp [trC, hv, hv.1, hv.2.1]
  have hlv : True := trivial
  have tkZ : List.take (trL s ps).length ((trL s ps).map Cell.row) = (trL s ps).map Cell.row := List.take_of_length_le (by simp)
  have tkM : ∀ k : Int, List.take (trL s ps).length ((ms_Cell k (trL s ps).length).map Cell.row) = (ms_Cell k (trL s ps).length).map Cell.row := fun k => List.take_of_length_le (by rw [List.length_map, ms_Cell_len]; omega)
  have z2 : Sky.sz s 1048576 ≤ 1048576 := by have := (meas_Sky s 1048576 (by omega)).2.2; omega
  generalize hn1 : Sky.sz s 1048576 = n1 at *
  have hn2 : True := trivial
  simp only [Sky.row]
  refine fn_sound (((((((Env.nil P).add 12 t_szSky h_szSky).add 39 t_szStringS h_szStringS).add 40 t_sTrack h_sTrack).add 43 t_eqCellS h_eqCellS).add 44 t_eqStringS h_eqStringS).add 47 t_heldCellS h_heldCellS) hm k_laws_FnExactSkyTrack (Nat.le_of_ble_eq_true rfl) rfl ?_; unfold s_laws_FnExactSkyTrack; simp (config := { maxSteps := 2000000 }) only [bitvec_to_nat, reduceIte, Nat.reduceEqDiff, Nat.reduceAdd, Nat.reduceLeDiff, reduceCtorEq, Nat.reduceBEq, Nat.reduceLT, Nat.reduceMod, List.forall_mem_cons, t_szSky, t_szStringS, t_sTrack, t_eqCellS, t_eqStringS, t_heldCellS, tk_map, dp_map, toNat_pred, appE, rowsOf, List.take_length, List.length_cons, List.length_nil, Nat.zero_add, srow, irow, un_s, un_i, Zone.row, Zone_eta, un_Zone, Pt.row, Pt_eta, un_Pt, Aw.row, Aw_eta, un_Aw, Blk.row, Blk_eta, un_Blk, Sec.row, Sec_eta, un_Sec, Rw.row, Rw_eta, un_Rw, Sky_eta, Sky.row, Cell.row, Cell_eta, un_Cell, ms_Cell_len, List.length_map, gSky, gSky', sSky, sSky', gSky0, sSky0, gG, gG', sG, sG', kG, gs1, gs2, gs3, gs4, tkZ, tkM, tkP, not_true_eq_false, ne_eq, eq_self, bne_self_eq_false, Int.toNat_natCast, Nat.sub_zero, and_self, hlz, hlv, hn1, hn2, apK1, apNew1, apG1, skyV, List.cons_append, List.nil_append]
  refine ⟨⟨by omega, hf⟩, fun g1 => ⟨⟨by omega, hpf⟩, fun g2 => ?_⟩⟩
  have hs : s.small := Sky.sz_ok (a := 1048576) (by omega) (by omega)
  have hp : ps.length ≤ 1048576 := (szS_ok (p := fun _ => True) meas_str (fun _ _ _ _ => trivial) (a := n1) (by omega) (by omega)).1
  have hsm := hs
  unfold Sky.small at hsm
  have hT := c_toSky s hs
  have n9T : No99 (.agg (s.row 0)) := by simp [Sky.row, No99, No99L, no99_Pt, no99_Aw, no99_Sec, no99_Rw]
  have hTP := c_toByteArrayS 1 ps hp
  have n9P : No99 (.sl 0 1 (ps.map srow)) := by simp only [No99]; exact ⟨by omega, no99_str ps⟩
  have hTO := toSkyK s hs
  have hPO := (c_toByteArraySO 1 ps hp).ren (swp 107 621) (swp_swp _ _)
  have hEq := eqSkyC s hs
  have hMk := markSkyK 1 s hs (by omega)
  have hct1 := ct_Aw_le hs.2.1.2 (Nat.le_refl _)
  have hct2 := ct_Sec_le hs.2.2.1.2 (Nat.le_refl _)
  have hcs : cntSky s ≤ 100000000000000 := by unfold cntSky; omega
  have hMP := (c_markByteArrayS 0 (1 + cntSky s) ps (by omega) (by omega)).ren (swp 3 621) (swp_swp _ _)
  have tPl : tag0L [.sl 99 1 (ps.map srow)] = [.sl 0 1 (ps.map srow)] := by simp only [tag0L, tag0]; rw [tag_flat (f := srow) fun _ => rfl]
  have nPl : no98L [.sl 99 1 (ps.map srow)] = true := by simp only [no98L, no98]; rw [no98_rows (f := srow) fun _ => rfl]; rfl
  have fPl : ∀ r ∈ ps.map srow, flatOk r = true := fun r hr => by obtain ⟨x, _, rfl⟩ := List.mem_map.1 hr; rfl
  have hlen : (trL s ps).length ≤ 16777216 := by have := tRun_len hv.1 hv.2.1 ps.length (Nat.le_refl _); rw [trL, if_pos hv]; omega
  have hI1 := (c_iTrackY s 0 ps hs hf hp hv).ren (swp 110 731) (swp_swp _ _)
  have hI2 := (c_iTrackY s 0 ps hs hf hp hv).ren (swp 110 741) (swp_swp _ _)
  have hZ := (c_markCellS (trL s ps).length 1 (trL s ps) (by omega) (by omega)).ren (swp 3 731) (swp_swp _ _)
  rw [show renL (swp 110 731) [AV.agg (s.row 0), .sl 0 1 (ps.map srow)] = [.agg (s.row 0), .sl 0 1 (ps.map srow)] from rfl] at hI1
  rw [show renL (swp 110 741) [AV.agg (s.row 0), .sl 0 1 (ps.map srow)] = [.agg (s.row 0), .sl 0 1 (ps.map srow)] from rfl] at hI2
  simp only [renL, ren, renM, renO, swp, reduceIte, Nat.reduceEqDiff, Nat.reduceLT, List.length_map] at hI1 hI2 hZ hPO hMP
  simp only [Sky.row] at hT n9T hTO
  refine ⟨_, _, .inr (.inl ⟨rfl, _, rfl, hT, rfl, n9T⟩), ?_⟩
  simp (config := { maxSteps := 2000000 }) only [bitvec_to_nat, reduceIte, Nat.reduceEqDiff, Nat.reduceAdd, Nat.reduceLeDiff, reduceCtorEq, Nat.reduceBEq, Nat.reduceLT, Nat.reduceMod, List.forall_mem_cons, t_szSky, t_szStringS, t_sTrack, t_eqCellS, t_eqStringS, t_heldCellS, tk_map, dp_map, toNat_pred, appE, rowsOf, List.take_length, List.length_cons, List.length_nil, Nat.zero_add, srow, irow, un_s, un_i, Zone.row, Zone_eta, un_Zone, Pt.row, Pt_eta, un_Pt, Aw.row, Aw_eta, un_Aw, Blk.row, Blk_eta, un_Blk, Sec.row, Sec_eta, un_Sec, Rw.row, Rw_eta, un_Rw, Sky_eta, Sky.row, Cell.row, Cell_eta, un_Cell, ms_Cell_len, List.length_map, gSky, gSky', sSky, sSky', gSky0, sSky0, gG, gG', sG, sG', kG, gs1, gs2, gs3, gs4, tkZ, tkM, tkP, not_true_eq_false, ne_eq, eq_self, bne_self_eq_false, Int.toNat_natCast, Nat.sub_zero, and_self, hlz, hlv, hn1, hn2, apK1, apNew1, apG1, skyV, List.cons_append, List.nil_append]
  refine ⟨_, _, .inr (.inl ⟨rfl, _, rfl, hTP, rfl, n9P⟩), ?_⟩
  simp (config := { maxSteps := 2000000 }) only [bitvec_to_nat, reduceIte, Nat.reduceEqDiff, Nat.reduceAdd, Nat.reduceLeDiff, reduceCtorEq, Nat.reduceBEq, Nat.reduceLT, Nat.reduceMod, List.forall_mem_cons, t_szSky, t_szStringS, t_sTrack, t_eqCellS, t_eqStringS, t_heldCellS, tk_map, dp_map, toNat_pred, appE, rowsOf, List.take_length, List.length_cons, List.length_nil, Nat.zero_add, srow, irow, un_s, un_i, Zone.row, Zone_eta, un_Zone, Pt.row, Pt_eta, un_Pt, Aw.row, Aw_eta, un_Aw, Blk.row, Blk_eta, un_Blk, Sec.row, Sec_eta, un_Sec, Rw.row, Rw_eta, un_Rw, Sky_eta, Sky.row, Cell.row, Cell_eta, un_Cell, ms_Cell_len, List.length_map, gSky, gSky', sSky, sSky', gSky0, sSky0, gG, gG', sG, sG', kG, gs1, gs2, gs3, gs4, tkZ, tkM, tkP, not_true_eq_false, ne_eq, eq_self, bne_self_eq_false, Int.toNat_natCast, Nat.sub_zero, and_self, hlz, hlv, hn1, hn2, apK1, apNew1, apG1, skyV, List.cons_append, List.nil_append]
  refine ⟨⟨hs, hp⟩, _, _, .inr (.inr (.inl ⟨_, rfl, hTO, K0r_new (by simp), K0r_refV, K0r_refs, by simp [skyV, No99, No99L], K0_99⟩)), ?_⟩
  simp (config := { maxSteps := 2000000 }) only [bitvec_to_nat, reduceIte, Nat.reduceEqDiff, Nat.reduceAdd, Nat.reduceLeDiff, reduceCtorEq, Nat.reduceBEq, Nat.reduceLT, Nat.reduceMod, List.forall_mem_cons, t_szSky, t_szStringS, t_sTrack, t_eqCellS, t_eqStringS, t_heldCellS, tk_map, dp_map, toNat_pred, appE, rowsOf, List.take_length, List.length_cons, List.length_nil, Nat.zero_add, srow, irow, un_s, un_i, Zone.row, Zone_eta, un_Zone, Pt.row, Pt_eta, un_Pt, Aw.row, Aw_eta, un_Aw, Blk.row, Blk_eta, un_Blk, Sec.row, Sec_eta, un_Sec, Rw.row, Rw_eta, un_Rw, Sky_eta, Sky.row, Cell.row, Cell_eta, un_Cell, ms_Cell_len, List.length_map, gSky, gSky', sSky, sSky', gSky0, sSky0, gG, gG', sG, sG', kG, gs1, gs2, gs3, gs4, tkZ, tkM, tkP, not_true_eq_false, ne_eq, eq_self, bne_self_eq_false, Int.toNat_natCast, Nat.sub_zero, and_self, hlz, hlv, hn1, hn2, apK1, apNew1, apG1, skyV, List.cons_append, List.nil_append]
  refine ⟨_, _, .inr (.inr (.inl ⟨_, rfl, hPO, by simp only [List.forall_mem_cons, fm0, and_true, w_getM0, w_getM1, gSky, gSky', gG, gG', Nat.reduceLT, Nat.reduceEqDiff, reduceIte], by simp [refsIn, refsInL, dom], rfl, trivial, by simp only [List.forall_mem_cons, fm0, and_true]; exact no99_str _⟩)), ?_⟩
  simp (config := { maxSteps := 2000000 }) only [bitvec_to_nat, reduceIte, Nat.reduceEqDiff, Nat.reduceAdd, Nat.reduceLeDiff, reduceCtorEq, Nat.reduceBEq, Nat.reduceLT, Nat.reduceMod, List.forall_mem_cons, t_szSky, t_szStringS, t_sTrack, t_eqCellS, t_eqStringS, t_heldCellS, tk_map, dp_map, toNat_pred, appE, rowsOf, List.take_length, List.length_cons, List.length_nil, Nat.zero_add, srow, irow, un_s, un_i, Zone.row, Zone_eta, un_Zone, Pt.row, Pt_eta, un_Pt, Aw.row, Aw_eta, un_Aw, Blk.row, Blk_eta, un_Blk, Sec.row, Sec_eta, un_Sec, Rw.row, Rw_eta, un_Rw, Sky_eta, Sky.row, Cell.row, Cell_eta, un_Cell, ms_Cell_len, List.length_map, gSky, gSky', sSky, sSky', gSky0, sSky0, gG, gG', sG, sG', kG, gs1, gs2, gs3, gs4, tkZ, tkM, tkP, not_true_eq_false, ne_eq, eq_self, bne_self_eq_false, Int.toNat_natCast, Nat.sub_zero, and_self, hlz, hlv, hn1, hn2, apK1, apNew1, apG1, skyV, List.cons_append, List.nil_append]
  refine ⟨_, _, callR_sky (s := s) (a := 611) (b := 613) (c := 614) (d := 612) (kA := 107) (kS := 108) (rest' := [.sl 99 1 (ps.map srow)]) (by rw [tPl]; exact hI1) (K0_in1 (by omega)) (K0_self s) (purNL_one (purN_flat (e := 9) (by simp only [List.forall_mem_cons, fm0, and_true, w_getM0, w_getM1, gSky, gSky', gG, gG', Nat.reduceLT, Nat.reduceEqDiff, reduceIte]) fPl (by simp))) nPl rfl (by simp [plainO, Cell.row, plainL, plainV]) (by simp only [List.forall_mem_cons, fm0, and_true, w_getM0, w_getM1, gSky, gSky', gG, gG', Nat.reduceLT, Nat.reduceEqDiff, reduceIte]) (by simp [refsIn, refsInL, dom]) (by simp [refsInO]) (by simp [No99, No99L, No99LL]) (by simp only [List.forall_mem_cons, fm0, and_true]; exact no99_Cell _), ?_⟩
  simp (config := { maxSteps := 2000000 }) only [bitvec_to_nat, reduceIte, Nat.reduceEqDiff, Nat.reduceAdd, Nat.reduceLeDiff, reduceCtorEq, Nat.reduceBEq, Nat.reduceLT, Nat.reduceMod, List.forall_mem_cons, t_szSky, t_szStringS, t_sTrack, t_eqCellS, t_eqStringS, t_heldCellS, tk_map, dp_map, toNat_pred, appE, rowsOf, List.take_length, List.length_cons, List.length_nil, Nat.zero_add, srow, irow, un_s, un_i, Zone.row, Zone_eta, un_Zone, Pt.row, Pt_eta, un_Pt, Aw.row, Aw_eta, un_Aw, Blk.row, Blk_eta, un_Blk, Sec.row, Sec_eta, un_Sec, Rw.row, Rw_eta, un_Rw, Sky_eta, Sky.row, Cell.row, Cell_eta, un_Cell, ms_Cell_len, List.length_map, gSky, gSky', sSky, sSky', gSky0, sSky0, gG, gG', sG, sG', kG, gs1, gs2, gs3, gs4, tkZ, tkM, tkP, not_true_eq_false, ne_eq, eq_self, bne_self_eq_false, Int.toNat_natCast, Nat.sub_zero, and_self, hlz, hlv, hn1, hn2, apK1, apNew1, apG1, skyV, List.cons_append, List.nil_append]
  refine ⟨by omega, _, _, .inr (.inl ⟨rfl, _, rfl, hT, rfl, n9T⟩), ?_⟩
  simp (config := { maxSteps := 2000000 }) only [bitvec_to_nat, reduceIte, Nat.reduceEqDiff, Nat.reduceAdd, Nat.reduceLeDiff, reduceCtorEq, Nat.reduceBEq, Nat.reduceLT, Nat.reduceMod, List.forall_mem_cons, t_szSky, t_szStringS, t_sTrack, t_eqCellS, t_eqStringS, t_heldCellS, tk_map, dp_map, toNat_pred, appE, rowsOf, List.take_length, List.length_cons, List.length_nil, Nat.zero_add, srow, irow, un_s, un_i, Zone.row, Zone_eta, un_Zone, Pt.row, Pt_eta, un_Pt, Aw.row, Aw_eta, un_Aw, Blk.row, Blk_eta, un_Blk, Sec.row, Sec_eta, un_Sec, Rw.row, Rw_eta, un_Rw, Sky_eta, Sky.row, Cell.row, Cell_eta, un_Cell, ms_Cell_len, List.length_map, gSky, gSky', sSky, sSky', gSky0, sSky0, gG, gG', sG, sG', kG, gs1, gs2, gs3, gs4, tkZ, tkM, tkP, not_true_eq_false, ne_eq, eq_self, bne_self_eq_false, Int.toNat_natCast, Nat.sub_zero, and_self, hlz, hlv, hn1, hn2, apK1, apNew1, apG1, skyV, List.cons_append, List.nil_append]
  refine ⟨_, _, callR_sky (s := s) (a := 611) (b := 613) (c := 614) (d := 612) (kA := 107) (kS := 108) (news := []) (r := .bool true) (rest' := [.agg (s.row 0)]) (by simp only [tag0L, tag_sky]; exact hEq) (K0_in1 (by omega)) (K0_self s) rfl (by simp only [no98L, no98_sky 0 (by omega), Bool.and_self]) rfl rfl (by simp) rfl rfl trivial (by simp), ?_⟩
  simp (config := { maxSteps := 2000000 }) only [bitvec_to_nat, reduceIte, Nat.reduceEqDiff, Nat.reduceAdd, Nat.reduceLeDiff, reduceCtorEq, Nat.reduceBEq, Nat.reduceLT, Nat.reduceMod, List.forall_mem_cons, t_szSky, t_szStringS, t_sTrack, t_eqCellS, t_eqStringS, t_heldCellS, tk_map, dp_map, toNat_pred, appE, rowsOf, List.take_length, List.length_cons, List.length_nil, Nat.zero_add, srow, irow, un_s, un_i, Zone.row, Zone_eta, un_Zone, Pt.row, Pt_eta, un_Pt, Aw.row, Aw_eta, un_Aw, Blk.row, Blk_eta, un_Blk, Sec.row, Sec_eta, un_Sec, Rw.row, Rw_eta, un_Rw, Sky_eta, Sky.row, Cell.row, Cell_eta, un_Cell, ms_Cell_len, List.length_map, gSky, gSky', sSky, sSky', gSky0, sSky0, gG, gG', sG, sG', kG, gs1, gs2, gs3, gs4, tkZ, tkM, tkP, not_true_eq_false, ne_eq, eq_self, bne_self_eq_false, Int.toNat_natCast, Nat.sub_zero, and_self, hlz, hlv, hn1, hn2, apK1, apNew1, apG1, skyV, List.cons_append, List.nil_append]
  refine ⟨_, _, .inr (.inl ⟨rfl, _, rfl, hTP, rfl, n9P⟩), ?_⟩
  simp (config := { maxSteps := 2000000 }) only [bitvec_to_nat, reduceIte, Nat.reduceEqDiff, Nat.reduceAdd, Nat.reduceLeDiff, reduceCtorEq, Nat.reduceBEq, Nat.reduceLT, Nat.reduceMod, List.forall_mem_cons, t_szSky, t_szStringS, t_sTrack, t_eqCellS, t_eqStringS, t_heldCellS, tk_map, dp_map, toNat_pred, appE, rowsOf, List.take_length, List.length_cons, List.length_nil, Nat.zero_add, srow, irow, un_s, un_i, Zone.row, Zone_eta, un_Zone, Pt.row, Pt_eta, un_Pt, Aw.row, Aw_eta, un_Aw, Blk.row, Blk_eta, un_Blk, Sec.row, Sec_eta, un_Sec, Rw.row, Rw_eta, un_Rw, Sky_eta, Sky.row, Cell.row, Cell_eta, un_Cell, ms_Cell_len, List.length_map, gSky, gSky', sSky, sSky', gSky0, sSky0, gG, gG', sG, sG', kG, gs1, gs2, gs3, gs4, tkZ, tkM, tkP, not_true_eq_false, ne_eq, eq_self, bne_self_eq_false, Int.toNat_natCast, Nat.sub_zero, and_self, hlz, hlv, hn1, hn2, apK1, apNew1, apG1, skyV, List.cons_append, List.nil_append]
  refine ⟨by omega, _, _, callR_gone hMk (K0_in1 (by omega)) K0_ref2 sky_refs rfl, ?_⟩
  simp (config := { maxSteps := 2000000 }) only [bitvec_to_nat, reduceIte, Nat.reduceEqDiff, Nat.reduceAdd, Nat.reduceLeDiff, reduceCtorEq, Nat.reduceBEq, Nat.reduceLT, Nat.reduceMod, List.forall_mem_cons, t_szSky, t_szStringS, t_sTrack, t_eqCellS, t_eqStringS, t_heldCellS, tk_map, dp_map, toNat_pred, appE, rowsOf, List.take_length, List.length_cons, List.length_nil, Nat.zero_add, srow, irow, un_s, un_i, Zone.row, Zone_eta, un_Zone, Pt.row, Pt_eta, un_Pt, Aw.row, Aw_eta, un_Aw, Blk.row, Blk_eta, un_Blk, Sec.row, Sec_eta, un_Sec, Rw.row, Rw_eta, un_Rw, Sky_eta, Sky.row, Cell.row, Cell_eta, un_Cell, ms_Cell_len, List.length_map, gSky, gSky', sSky, sSky', gSky0, sSky0, gG, gG', sG, sG', kG, gs1, gs2, gs3, gs4, tkZ, tkM, tkP, not_true_eq_false, ne_eq, eq_self, bne_self_eq_false, Int.toNat_natCast, Nat.sub_zero, and_self, hlz, hlv, hn1, hn2, apK1, apNew1, apG1, skyV, List.cons_append, List.nil_append]
  refine ⟨_, _, .inl ⟨_, hMP, by simp only [List.forall_mem_cons, fm0, and_true, w_getM0, w_getM1, gSky, gSky', gG, gG', Nat.reduceLT, Nat.reduceEqDiff, reduceIte], by simp [dom], rfl, rfl, rfl, rfl, rfl⟩, ?_⟩
  simp (config := { maxSteps := 2000000 }) only [bitvec_to_nat, reduceIte, Nat.reduceEqDiff, Nat.reduceAdd, Nat.reduceLeDiff, reduceCtorEq, Nat.reduceBEq, Nat.reduceLT, Nat.reduceMod, List.forall_mem_cons, t_szSky, t_szStringS, t_sTrack, t_eqCellS, t_eqStringS, t_heldCellS, tk_map, dp_map, toNat_pred, appE, rowsOf, List.take_length, List.length_cons, List.length_nil, Nat.zero_add, srow, irow, un_s, un_i, Zone.row, Zone_eta, un_Zone, Pt.row, Pt_eta, un_Pt, Aw.row, Aw_eta, un_Aw, Blk.row, Blk_eta, un_Blk, Sec.row, Sec_eta, un_Sec, Rw.row, Rw_eta, un_Rw, Sky_eta, Sky.row, Cell.row, Cell_eta, un_Cell, ms_Cell_len, List.length_map, gSky, gSky', sSky, sSky', gSky0, sSky0, gG, gG', sG, sG', kG, gs1, gs2, gs3, gs4, tkZ, tkM, tkP, not_true_eq_false, ne_eq, eq_self, bne_self_eq_false, Int.toNat_natCast, Nat.sub_zero, and_self, hlz, hlv, hn1, hn2, apK1, apNew1, apG1, skyV, List.cons_append, List.nil_append]
  refine ⟨fun h => by omega, fun _ => ⟨by omega, _, _, .inl ⟨_, hZ, by simp only [List.forall_mem_cons, fm0, and_true, w_getM0, w_getM1, gSky, gSky', gG, gG', Nat.reduceLT, Nat.reduceEqDiff, reduceIte], by simp [dom], rfl, rfl, rfl, rfl, rfl⟩, ?_⟩⟩
  simp (config := { maxSteps := 2000000 }) only [bitvec_to_nat, reduceIte, Nat.reduceEqDiff, Nat.reduceAdd, Nat.reduceLeDiff, reduceCtorEq, Nat.reduceBEq, Nat.reduceLT, Nat.reduceMod, List.forall_mem_cons, t_szSky, t_szStringS, t_sTrack, t_eqCellS, t_eqStringS, t_heldCellS, tk_map, dp_map, toNat_pred, appE, rowsOf, List.take_length, List.length_cons, List.length_nil, Nat.zero_add, srow, irow, un_s, un_i, Zone.row, Zone_eta, un_Zone, Pt.row, Pt_eta, un_Pt, Aw.row, Aw_eta, un_Aw, Blk.row, Blk_eta, un_Blk, Sec.row, Sec_eta, un_Sec, Rw.row, Rw_eta, un_Rw, Sky_eta, Sky.row, Cell.row, Cell_eta, un_Cell, ms_Cell_len, List.length_map, gSky, gSky', sSky, sSky', gSky0, sSky0, gG, gG', sG, sG', kG, gs1, gs2, gs3, gs4, tkZ, tkM, tkP, not_true_eq_false, ne_eq, eq_self, bne_self_eq_false, Int.toNat_natCast, Nat.sub_zero, and_self, hlz, hlv, hn1, hn2, apK1, apNew1, apG1, skyV, List.cons_append, List.nil_append]
  refine ⟨by omega, fun h => by omega, fun _ => ⟨_, _, .inr (.inl ⟨rfl, _, rfl, hT, rfl, n9T⟩), ?_⟩⟩
  simp (config := { maxSteps := 2000000 }) only [bitvec_to_nat, reduceIte, Nat.reduceEqDiff, Nat.reduceAdd, Nat.reduceLeDiff, reduceCtorEq, Nat.reduceBEq, Nat.reduceLT, Nat.reduceMod, List.forall_mem_cons, t_szSky, t_szStringS, t_sTrack, t_eqCellS, t_eqStringS, t_heldCellS, tk_map, dp_map, toNat_pred, appE, rowsOf, List.take_length, List.length_cons, List.length_nil, Nat.zero_add, srow, irow, un_s, un_i, Zone.row, Zone_eta, un_Zone, Pt.row, Pt_eta, un_Pt, Aw.row, Aw_eta, un_Aw, Blk.row, Blk_eta, un_Blk, Sec.row, Sec_eta, un_Sec, Rw.row, Rw_eta, un_Rw, Sky_eta, Sky.row, Cell.row, Cell_eta, un_Cell, ms_Cell_len, List.length_map, gSky, gSky', sSky, sSky', gSky0, sSky0, gG, gG', sG, sG', kG, gs1, gs2, gs3, gs4, tkZ, tkM, tkP, not_true_eq_false, ne_eq, eq_self, bne_self_eq_false, Int.toNat_natCast, Nat.sub_zero, and_self, hlz, hlv, hn1, hn2, apK1, apNew1, apG1, skyV, List.cons_append, List.nil_append]
  refine ⟨_, _, .inr (.inl ⟨rfl, _, rfl, hTP, rfl, n9P⟩), ?_⟩
  simp (config := { maxSteps := 2000000 }) only [bitvec_to_nat, reduceIte, Nat.reduceEqDiff, Nat.reduceAdd, Nat.reduceLeDiff, reduceCtorEq, Nat.reduceBEq, Nat.reduceLT, Nat.reduceMod, List.forall_mem_cons, t_szSky, t_szStringS, t_sTrack, t_eqCellS, t_eqStringS, t_heldCellS, tk_map, dp_map, toNat_pred, appE, rowsOf, List.take_length, List.length_cons, List.length_nil, Nat.zero_add, srow, irow, un_s, un_i, Zone.row, Zone_eta, un_Zone, Pt.row, Pt_eta, un_Pt, Aw.row, Aw_eta, un_Aw, Blk.row, Blk_eta, un_Blk, Sec.row, Sec_eta, un_Sec, Rw.row, Rw_eta, un_Rw, Sky_eta, Sky.row, Cell.row, Cell_eta, un_Cell, ms_Cell_len, List.length_map, gSky, gSky', sSky, sSky', gSky0, sSky0, gG, gG', sG, sG', kG, gs1, gs2, gs3, gs4, tkZ, tkM, tkP, not_true_eq_false, ne_eq, eq_self, bne_self_eq_false, Int.toNat_natCast, Nat.sub_zero, and_self, hlz, hlv, hn1, hn2, apK1, apNew1, apG1, skyV, List.cons_append, List.nil_append]
  refine ⟨_, _, .inr (.inr (.inl ⟨_, rfl, hI2, by simp only [List.forall_mem_cons, fm0, and_true, w_getM0, w_getM1, gSky, gSky', gG, gG', Nat.reduceLT, Nat.reduceEqDiff, reduceIte], by simp [refsIn, refsInL, dom], rfl, by simp [No99, No99L, No99LL], by simp only [List.forall_mem_cons, fm0, and_true]; exact no99_Cell _⟩)), ?_⟩
  simp (config := { maxSteps := 2000000 }) only [bitvec_to_nat, reduceIte, Nat.reduceEqDiff, Nat.reduceAdd, Nat.reduceLeDiff, reduceCtorEq, Nat.reduceBEq, Nat.reduceLT, Nat.reduceMod, List.forall_mem_cons, t_szSky, t_szStringS, t_sTrack, t_eqCellS, t_eqStringS, t_heldCellS, tk_map, dp_map, toNat_pred, appE, rowsOf, List.take_length, List.length_cons, List.length_nil, Nat.zero_add, srow, irow, un_s, un_i, Zone.row, Zone_eta, un_Zone, Pt.row, Pt_eta, un_Pt, Aw.row, Aw_eta, un_Aw, Blk.row, Blk_eta, un_Blk, Sec.row, Sec_eta, un_Sec, Rw.row, Rw_eta, un_Rw, Sky_eta, Sky.row, Cell.row, Cell_eta, un_Cell, ms_Cell_len, List.length_map, gSky, gSky', sSky, sSky', gSky0, sSky0, gG, gG', sG, sG', kG, gs1, gs2, gs3, gs4, tkZ, tkM, tkP, not_true_eq_false, ne_eq, eq_self, bne_self_eq_false, Int.toNat_natCast, Nat.sub_zero, and_self, hlz, hlv, hn1, hn2, apK1, apNew1, apG1, skyV, List.cons_append, List.nil_append]
  exact ⟨by omega, ⟨by omega, by omega, by omega⟩, fun h => by omega⟩

set_option maxHeartbeats 8000000 in
theorem c_lawTN (s : Sky) (ps : List ByteArray) (hf : s.fitp) (hpf : ps.length ≤ 9223372036854775807 ∧ ∀ y ∈ ps, y.toList.length ≤ 9223372036854775807) (hv : ¬ trOk s ps) : Contract P 9 [.agg (s.row 1), .sl 1 1 (ps.map srow)] [] (.bool true) [] := by
  have tkP : List.take ps.length (ps.map srow) = ps.map srow := List.take_of_length_le (by simp)
  have hlz : trL s ps = [] := if_neg hv
  have hlv : True := trivial
  have tkZ : True := trivial
  have tkM : True := trivial
  have z2 : Sky.sz s 1048576 ≤ 1048576 := by have := (meas_Sky s 1048576 (by omega)).2.2; omega
  generalize hn1 : Sky.sz s 1048576 = n1 at *
  have hn2 : True := trivial
  simp only [Sky.row]
  refine fn_sound (((((((Env.nil P).add 12 t_szSky h_szSky).add 39 t_szStringS h_szStringS).add 40 t_sTrack h_sTrack).add 43 t_eqCellS h_eqCellS).add 44 t_eqStringS h_eqStringS).add 47 t_heldCellS h_heldCellS) hm k_laws_FnExactSkyTrack (Nat.le_of_ble_eq_true rfl) rfl ?_; unfold s_laws_FnExactSkyTrack; simp (config := { maxSteps := 2000000 }) only [bitvec_to_nat, reduceIte, Nat.reduceEqDiff, Nat.reduceAdd, Nat.reduceLeDiff, reduceCtorEq, Nat.reduceBEq, Nat.reduceLT, Nat.reduceMod, List.forall_mem_cons, t_szSky, t_szStringS, t_sTrack, t_eqCellS, t_eqStringS, t_heldCellS, tk_map, dp_map, toNat_pred, appE, rowsOf, List.take_length, List.length_cons, List.length_nil, Nat.zero_add, srow, irow, un_s, un_i, Zone.row, Zone_eta, un_Zone, Pt.row, Pt_eta, un_Pt, Aw.row, Aw_eta, un_Aw, Blk.row, Blk_eta, un_Blk, Sec.row, Sec_eta, un_Sec, Rw.row, Rw_eta, un_Rw, Sky_eta, Sky.row, Cell.row, Cell_eta, un_Cell, ms_Cell_len, List.length_map, gSky, gSky', sSky, sSky', gSky0, sSky0, gG, gG', sG, sG', kG, gs1, gs2, gs3, gs4, tkZ, tkM, tkP, not_true_eq_false, ne_eq, eq_self, bne_self_eq_false, Int.toNat_natCast, Nat.sub_zero, and_self, hlz, hlv, hn1, hn2, apK1, apNew1, apG1, skyV, List.cons_append, List.nil_append]
  refine ⟨⟨by omega, hf⟩, fun g1 => ⟨⟨by omega, hpf⟩, fun g2 => ?_⟩⟩
  have hs : s.small := Sky.sz_ok (a := 1048576) (by omega) (by omega)
  have hp : ps.length ≤ 1048576 := (szS_ok (p := fun _ => True) meas_str (fun _ _ _ _ => trivial) (a := n1) (by omega) (by omega)).1
  have hsm := hs
  unfold Sky.small at hsm
  have hT := c_toSky s hs
  have n9T : No99 (.agg (s.row 0)) := by simp [Sky.row, No99, No99L, no99_Pt, no99_Aw, no99_Sec, no99_Rw]
  have hTP := c_toByteArrayS 1 ps hp
  have n9P : No99 (.sl 0 1 (ps.map srow)) := by simp only [No99]; exact ⟨by omega, no99_str ps⟩
  have hTO := toSkyK s hs
  have hPO := (c_toByteArraySO 1 ps hp).ren (swp 107 621) (swp_swp _ _)
  have hEq := eqSkyC s hs
  have hMk := markSkyK 1 s hs (by omega)
  have hct1 := ct_Aw_le hs.2.1.2 (Nat.le_refl _)
  have hct2 := ct_Sec_le hs.2.2.1.2 (Nat.le_refl _)
  have hcs : cntSky s ≤ 100000000000000 := by unfold cntSky; omega
  have hMP := (c_markByteArrayS 0 (1 + cntSky s) ps (by omega) (by omega)).ren (swp 3 621) (swp_swp _ _)
  have tPl : tag0L [.sl 99 1 (ps.map srow)] = [.sl 0 1 (ps.map srow)] := by simp only [tag0L, tag0]; rw [tag_flat (f := srow) fun _ => rfl]
  have nPl : no98L [.sl 99 1 (ps.map srow)] = true := by simp only [no98L, no98]; rw [no98_rows (f := srow) fun _ => rfl]; rfl
  have fPl : ∀ r ∈ ps.map srow, flatOk r = true := fun r hr => by obtain ⟨x, _, rfl⟩ := List.mem_map.1 hr; rfl
  have hI1 := c_iTrackN s 0 ps hs hf hp hv
  simp only [renL, ren, renM, renO, swp, reduceIte, Nat.reduceEqDiff, Nat.reduceLT, List.length_map] at hPO hMP
  simp only [Sky.row] at hT n9T hTO
  refine ⟨_, _, .inr (.inl ⟨rfl, _, rfl, hT, rfl, n9T⟩), ?_⟩
  simp (config := { maxSteps := 2000000 }) only [bitvec_to_nat, reduceIte, Nat.reduceEqDiff, Nat.reduceAdd, Nat.reduceLeDiff, reduceCtorEq, Nat.reduceBEq, Nat.reduceLT, Nat.reduceMod, List.forall_mem_cons, t_szSky, t_szStringS, t_sTrack, t_eqCellS, t_eqStringS, t_heldCellS, tk_map, dp_map, toNat_pred, appE, rowsOf, List.take_length, List.length_cons, List.length_nil, Nat.zero_add, srow, irow, un_s, un_i, Zone.row, Zone_eta, un_Zone, Pt.row, Pt_eta, un_Pt, Aw.row, Aw_eta, un_Aw, Blk.row, Blk_eta, un_Blk, Sec.row, Sec_eta, un_Sec, Rw.row, Rw_eta, un_Rw, Sky_eta, Sky.row, Cell.row, Cell_eta, un_Cell, ms_Cell_len, List.length_map, gSky, gSky', sSky, sSky', gSky0, sSky0, gG, gG', sG, sG', kG, gs1, gs2, gs3, gs4, tkZ, tkM, tkP, not_true_eq_false, ne_eq, eq_self, bne_self_eq_false, Int.toNat_natCast, Nat.sub_zero, and_self, hlz, hlv, hn1, hn2, apK1, apNew1, apG1, skyV, List.cons_append, List.nil_append]
  refine ⟨_, _, .inr (.inl ⟨rfl, _, rfl, hTP, rfl, n9P⟩), ?_⟩
  simp (config := { maxSteps := 2000000 }) only [bitvec_to_nat, reduceIte, Nat.reduceEqDiff, Nat.reduceAdd, Nat.reduceLeDiff, reduceCtorEq, Nat.reduceBEq, Nat.reduceLT, Nat.reduceMod, List.forall_mem_cons, t_szSky, t_szStringS, t_sTrack, t_eqCellS, t_eqStringS, t_heldCellS, tk_map, dp_map, toNat_pred, appE, rowsOf, List.take_length, List.length_cons, List.length_nil, Nat.zero_add, srow, irow, un_s, un_i, Zone.row, Zone_eta, un_Zone, Pt.row, Pt_eta, un_Pt, Aw.row, Aw_eta, un_Aw, Blk.row, Blk_eta, un_Blk, Sec.row, Sec_eta, un_Sec, Rw.row, Rw_eta, un_Rw, Sky_eta, Sky.row, Cell.row, Cell_eta, un_Cell, ms_Cell_len, List.length_map, gSky, gSky', sSky, sSky', gSky0, sSky0, gG, gG', sG, sG', kG, gs1, gs2, gs3, gs4, tkZ, tkM, tkP, not_true_eq_false, ne_eq, eq_self, bne_self_eq_false, Int.toNat_natCast, Nat.sub_zero, and_self, hlz, hlv, hn1, hn2, apK1, apNew1, apG1, skyV, List.cons_append, List.nil_append]
  refine ⟨⟨hs, hp⟩, _, _, .inr (.inr (.inl ⟨_, rfl, hTO, K0r_new (by simp), K0r_refV, K0r_refs, by simp [skyV, No99, No99L], K0_99⟩)), ?_⟩
  simp (config := { maxSteps := 2000000 }) only [bitvec_to_nat, reduceIte, Nat.reduceEqDiff, Nat.reduceAdd, Nat.reduceLeDiff, reduceCtorEq, Nat.reduceBEq, Nat.reduceLT, Nat.reduceMod, List.forall_mem_cons, t_szSky, t_szStringS, t_sTrack, t_eqCellS, t_eqStringS, t_heldCellS, tk_map, dp_map, toNat_pred, appE, rowsOf, List.take_length, List.length_cons, List.length_nil, Nat.zero_add, srow, irow, un_s, un_i, Zone.row, Zone_eta, un_Zone, Pt.row, Pt_eta, un_Pt, Aw.row, Aw_eta, un_Aw, Blk.row, Blk_eta, un_Blk, Sec.row, Sec_eta, un_Sec, Rw.row, Rw_eta, un_Rw, Sky_eta, Sky.row, Cell.row, Cell_eta, un_Cell, ms_Cell_len, List.length_map, gSky, gSky', sSky, sSky', gSky0, sSky0, gG, gG', sG, sG', kG, gs1, gs2, gs3, gs4, tkZ, tkM, tkP, not_true_eq_false, ne_eq, eq_self, bne_self_eq_false, Int.toNat_natCast, Nat.sub_zero, and_self, hlz, hlv, hn1, hn2, apK1, apNew1, apG1, skyV, List.cons_append, List.nil_append]
  refine ⟨_, _, .inr (.inr (.inl ⟨_, rfl, hPO, by simp only [List.forall_mem_cons, fm0, and_true, w_getM0, w_getM1, gSky, gSky', gG, gG', Nat.reduceLT, Nat.reduceEqDiff, reduceIte], by simp [refsIn, refsInL, dom], rfl, trivial, by simp only [List.forall_mem_cons, fm0, and_true]; exact no99_str _⟩)), ?_⟩
  simp (config := { maxSteps := 2000000 }) only [bitvec_to_nat, reduceIte, Nat.reduceEqDiff, Nat.reduceAdd, Nat.reduceLeDiff, reduceCtorEq, Nat.reduceBEq, Nat.reduceLT, Nat.reduceMod, List.forall_mem_cons, t_szSky, t_szStringS, t_sTrack, t_eqCellS, t_eqStringS, t_heldCellS, tk_map, dp_map, toNat_pred, appE, rowsOf, List.take_length, List.length_cons, List.length_nil, Nat.zero_add, srow, irow, un_s, un_i, Zone.row, Zone_eta, un_Zone, Pt.row, Pt_eta, un_Pt, Aw.row, Aw_eta, un_Aw, Blk.row, Blk_eta, un_Blk, Sec.row, Sec_eta, un_Sec, Rw.row, Rw_eta, un_Rw, Sky_eta, Sky.row, Cell.row, Cell_eta, un_Cell, ms_Cell_len, List.length_map, gSky, gSky', sSky, sSky', gSky0, sSky0, gG, gG', sG, sG', kG, gs1, gs2, gs3, gs4, tkZ, tkM, tkP, not_true_eq_false, ne_eq, eq_self, bne_self_eq_false, Int.toNat_natCast, Nat.sub_zero, and_self, hlz, hlv, hn1, hn2, apK1, apNew1, apG1, skyV, List.cons_append, List.nil_append]
  refine ⟨_, _, callR_sky (s := s) (a := 611) (b := 613) (c := 614) (d := 612) (kA := 107) (kS := 108) (rest' := [.sl 99 1 (ps.map srow)]) (by rw [tPl]; exact hI1) (K0_in1 (by omega)) (K0_self s) (purNL_one (purN_flat (e := 9) (by simp only [List.forall_mem_cons, fm0, and_true, w_getM0, w_getM1, gSky, gSky', gG, gG', Nat.reduceLT, Nat.reduceEqDiff, reduceIte]) fPl (by simp))) nPl rfl (rfl) (by simp) (by simp [refsIn, refsInL, dom]) (by simp [refsInO]) (by simp [No99, No99L, No99LL]) (by simp), ?_⟩
  simp (config := { maxSteps := 2000000 }) only [bitvec_to_nat, reduceIte, Nat.reduceEqDiff, Nat.reduceAdd, Nat.reduceLeDiff, reduceCtorEq, Nat.reduceBEq, Nat.reduceLT, Nat.reduceMod, List.forall_mem_cons, t_szSky, t_szStringS, t_sTrack, t_eqCellS, t_eqStringS, t_heldCellS, tk_map, dp_map, toNat_pred, appE, rowsOf, List.take_length, List.length_cons, List.length_nil, Nat.zero_add, srow, irow, un_s, un_i, Zone.row, Zone_eta, un_Zone, Pt.row, Pt_eta, un_Pt, Aw.row, Aw_eta, un_Aw, Blk.row, Blk_eta, un_Blk, Sec.row, Sec_eta, un_Sec, Rw.row, Rw_eta, un_Rw, Sky_eta, Sky.row, Cell.row, Cell_eta, un_Cell, ms_Cell_len, List.length_map, gSky, gSky', sSky, sSky', gSky0, sSky0, gG, gG', sG, sG', kG, gs1, gs2, gs3, gs4, tkZ, tkM, tkP, not_true_eq_false, ne_eq, eq_self, bne_self_eq_false, Int.toNat_natCast, Nat.sub_zero, and_self, hlz, hlv, hn1, hn2, apK1, apNew1, apG1, skyV, List.cons_append, List.nil_append]
  refine ⟨_, _, .inr (.inl ⟨rfl, _, rfl, hT, rfl, n9T⟩), ?_⟩
  simp (config := { maxSteps := 2000000 }) only [bitvec_to_nat, reduceIte, Nat.reduceEqDiff, Nat.reduceAdd, Nat.reduceLeDiff, reduceCtorEq, Nat.reduceBEq, Nat.reduceLT, Nat.reduceMod, List.forall_mem_cons, t_szSky, t_szStringS, t_sTrack, t_eqCellS, t_eqStringS, t_heldCellS, tk_map, dp_map, toNat_pred, appE, rowsOf, List.take_length, List.length_cons, List.length_nil, Nat.zero_add, srow, irow, un_s, un_i, Zone.row, Zone_eta, un_Zone, Pt.row, Pt_eta, un_Pt, Aw.row, Aw_eta, un_Aw, Blk.row, Blk_eta, un_Blk, Sec.row, Sec_eta, un_Sec, Rw.row, Rw_eta, un_Rw, Sky_eta, Sky.row, Cell.row, Cell_eta, un_Cell, ms_Cell_len, List.length_map, gSky, gSky', sSky, sSky', gSky0, sSky0, gG, gG', sG, sG', kG, gs1, gs2, gs3, gs4, tkZ, tkM, tkP, not_true_eq_false, ne_eq, eq_self, bne_self_eq_false, Int.toNat_natCast, Nat.sub_zero, and_self, hlz, hlv, hn1, hn2, apK1, apNew1, apG1, skyV, List.cons_append, List.nil_append]
  refine ⟨_, _, callR_sky (s := s) (a := 611) (b := 613) (c := 614) (d := 612) (kA := 107) (kS := 108) (news := []) (r := .bool true) (rest' := [.agg (s.row 0)]) (by simp only [tag0L, tag_sky]; exact hEq) (K0_in1 (by omega)) (K0_self s) rfl (by simp only [no98L, no98_sky 0 (by omega), Bool.and_self]) rfl rfl (by simp) rfl rfl trivial (by simp), ?_⟩
  simp (config := { maxSteps := 2000000 }) only [bitvec_to_nat, reduceIte, Nat.reduceEqDiff, Nat.reduceAdd, Nat.reduceLeDiff, reduceCtorEq, Nat.reduceBEq, Nat.reduceLT, Nat.reduceMod, List.forall_mem_cons, t_szSky, t_szStringS, t_sTrack, t_eqCellS, t_eqStringS, t_heldCellS, tk_map, dp_map, toNat_pred, appE, rowsOf, List.take_length, List.length_cons, List.length_nil, Nat.zero_add, srow, irow, un_s, un_i, Zone.row, Zone_eta, un_Zone, Pt.row, Pt_eta, un_Pt, Aw.row, Aw_eta, un_Aw, Blk.row, Blk_eta, un_Blk, Sec.row, Sec_eta, un_Sec, Rw.row, Rw_eta, un_Rw, Sky_eta, Sky.row, Cell.row, Cell_eta, un_Cell, ms_Cell_len, List.length_map, gSky, gSky', sSky, sSky', gSky0, sSky0, gG, gG', sG, sG', kG, gs1, gs2, gs3, gs4, tkZ, tkM, tkP, not_true_eq_false, ne_eq, eq_self, bne_self_eq_false, Int.toNat_natCast, Nat.sub_zero, and_self, hlz, hlv, hn1, hn2, apK1, apNew1, apG1, skyV, List.cons_append, List.nil_append]
  refine ⟨_, _, .inr (.inl ⟨rfl, _, rfl, hTP, rfl, n9P⟩), ?_⟩
  simp (config := { maxSteps := 2000000 }) only [bitvec_to_nat, reduceIte, Nat.reduceEqDiff, Nat.reduceAdd, Nat.reduceLeDiff, reduceCtorEq, Nat.reduceBEq, Nat.reduceLT, Nat.reduceMod, List.forall_mem_cons, t_szSky, t_szStringS, t_sTrack, t_eqCellS, t_eqStringS, t_heldCellS, tk_map, dp_map, toNat_pred, appE, rowsOf, List.take_length, List.length_cons, List.length_nil, Nat.zero_add, srow, irow, un_s, un_i, Zone.row, Zone_eta, un_Zone, Pt.row, Pt_eta, un_Pt, Aw.row, Aw_eta, un_Aw, Blk.row, Blk_eta, un_Blk, Sec.row, Sec_eta, un_Sec, Rw.row, Rw_eta, un_Rw, Sky_eta, Sky.row, Cell.row, Cell_eta, un_Cell, ms_Cell_len, List.length_map, gSky, gSky', sSky, sSky', gSky0, sSky0, gG, gG', sG, sG', kG, gs1, gs2, gs3, gs4, tkZ, tkM, tkP, not_true_eq_false, ne_eq, eq_self, bne_self_eq_false, Int.toNat_natCast, Nat.sub_zero, and_self, hlz, hlv, hn1, hn2, apK1, apNew1, apG1, skyV, List.cons_append, List.nil_append]
  refine ⟨by omega, _, _, callR_gone hMk (K0_in1 (by omega)) K0_ref2 sky_refs rfl, ?_⟩
  simp (config := { maxSteps := 2000000 }) only [bitvec_to_nat, reduceIte, Nat.reduceEqDiff, Nat.reduceAdd, Nat.reduceLeDiff, reduceCtorEq, Nat.reduceBEq, Nat.reduceLT, Nat.reduceMod, List.forall_mem_cons, t_szSky, t_szStringS, t_sTrack, t_eqCellS, t_eqStringS, t_heldCellS, tk_map, dp_map, toNat_pred, appE, rowsOf, List.take_length, List.length_cons, List.length_nil, Nat.zero_add, srow, irow, un_s, un_i, Zone.row, Zone_eta, un_Zone, Pt.row, Pt_eta, un_Pt, Aw.row, Aw_eta, un_Aw, Blk.row, Blk_eta, un_Blk, Sec.row, Sec_eta, un_Sec, Rw.row, Rw_eta, un_Rw, Sky_eta, Sky.row, Cell.row, Cell_eta, un_Cell, ms_Cell_len, List.length_map, gSky, gSky', sSky, sSky', gSky0, sSky0, gG, gG', sG, sG', kG, gs1, gs2, gs3, gs4, tkZ, tkM, tkP, not_true_eq_false, ne_eq, eq_self, bne_self_eq_false, Int.toNat_natCast, Nat.sub_zero, and_self, hlz, hlv, hn1, hn2, apK1, apNew1, apG1, skyV, List.cons_append, List.nil_append]
  refine ⟨_, _, .inl ⟨_, hMP, by simp only [List.forall_mem_cons, fm0, and_true, w_getM0, w_getM1, gSky, gSky', gG, gG', Nat.reduceLT, Nat.reduceEqDiff, reduceIte], by simp [dom], rfl, rfl, rfl, rfl, rfl⟩, ?_⟩
  simp (config := { maxSteps := 2000000 }) only [bitvec_to_nat, reduceIte, Nat.reduceEqDiff, Nat.reduceAdd, Nat.reduceLeDiff, reduceCtorEq, Nat.reduceBEq, Nat.reduceLT, Nat.reduceMod, List.forall_mem_cons, t_szSky, t_szStringS, t_sTrack, t_eqCellS, t_eqStringS, t_heldCellS, tk_map, dp_map, toNat_pred, appE, rowsOf, List.take_length, List.length_cons, List.length_nil, Nat.zero_add, srow, irow, un_s, un_i, Zone.row, Zone_eta, un_Zone, Pt.row, Pt_eta, un_Pt, Aw.row, Aw_eta, un_Aw, Blk.row, Blk_eta, un_Blk, Sec.row, Sec_eta, un_Sec, Rw.row, Rw_eta, un_Rw, Sky_eta, Sky.row, Cell.row, Cell_eta, un_Cell, ms_Cell_len, List.length_map, gSky, gSky', sSky, sSky', gSky0, sSky0, gG, gG', sG, sG', kG, gs1, gs2, gs3, gs4, tkZ, tkM, tkP, not_true_eq_false, ne_eq, eq_self, bne_self_eq_false, Int.toNat_natCast, Nat.sub_zero, and_self, hlz, hlv, hn1, hn2, apK1, apNew1, apG1, skyV, List.cons_append, List.nil_append]
  refine ⟨fun h => by omega, fun _ => ⟨_, _, .inr (.inl ⟨rfl, _, rfl, c_markNCellS 98 1, rfl, trivial⟩), ?_⟩⟩
  simp (config := { maxSteps := 2000000 }) only [bitvec_to_nat, reduceIte, Nat.reduceEqDiff, Nat.reduceAdd, Nat.reduceLeDiff, reduceCtorEq, Nat.reduceBEq, Nat.reduceLT, Nat.reduceMod, List.forall_mem_cons, t_szSky, t_szStringS, t_sTrack, t_eqCellS, t_eqStringS, t_heldCellS, tk_map, dp_map, toNat_pred, appE, rowsOf, List.take_length, List.length_cons, List.length_nil, Nat.zero_add, srow, irow, un_s, un_i, Zone.row, Zone_eta, un_Zone, Pt.row, Pt_eta, un_Pt, Aw.row, Aw_eta, un_Aw, Blk.row, Blk_eta, un_Blk, Sec.row, Sec_eta, un_Sec, Rw.row, Rw_eta, un_Rw, Sky_eta, Sky.row, Cell.row, Cell_eta, un_Cell, ms_Cell_len, List.length_map, gSky, gSky', sSky, sSky', gSky0, sSky0, gG, gG', sG, sG', kG, gs1, gs2, gs3, gs4, tkZ, tkM, tkP, not_true_eq_false, ne_eq, eq_self, bne_self_eq_false, Int.toNat_natCast, Nat.sub_zero, and_self, hlz, hlv, hn1, hn2, apK1, apNew1, apG1, skyV, List.cons_append, List.nil_append]
  refine ⟨⟨rfl, by omega, by omega⟩, fun h => by omega, fun _ => ⟨fun h => by omega, fun _ => ⟨_, _, .inr (.inl ⟨rfl, _, rfl, hT, rfl, n9T⟩), ?_⟩⟩⟩
  simp (config := { maxSteps := 2000000 }) only [bitvec_to_nat, reduceIte, Nat.reduceEqDiff, Nat.reduceAdd, Nat.reduceLeDiff, reduceCtorEq, Nat.reduceBEq, Nat.reduceLT, Nat.reduceMod, List.forall_mem_cons, t_szSky, t_szStringS, t_sTrack, t_eqCellS, t_eqStringS, t_heldCellS, tk_map, dp_map, toNat_pred, appE, rowsOf, List.take_length, List.length_cons, List.length_nil, Nat.zero_add, srow, irow, un_s, un_i, Zone.row, Zone_eta, un_Zone, Pt.row, Pt_eta, un_Pt, Aw.row, Aw_eta, un_Aw, Blk.row, Blk_eta, un_Blk, Sec.row, Sec_eta, un_Sec, Rw.row, Rw_eta, un_Rw, Sky_eta, Sky.row, Cell.row, Cell_eta, un_Cell, ms_Cell_len, List.length_map, gSky, gSky', sSky, sSky', gSky0, sSky0, gG, gG', sG, sG', kG, gs1, gs2, gs3, gs4, tkZ, tkM, tkP, not_true_eq_false, ne_eq, eq_self, bne_self_eq_false, Int.toNat_natCast, Nat.sub_zero, and_self, hlz, hlv, hn1, hn2, apK1, apNew1, apG1, skyV, List.cons_append, List.nil_append]
  refine ⟨_, _, .inr (.inl ⟨rfl, _, rfl, hTP, rfl, n9P⟩), ?_⟩
  simp (config := { maxSteps := 2000000 }) only [bitvec_to_nat, reduceIte, Nat.reduceEqDiff, Nat.reduceAdd, Nat.reduceLeDiff, reduceCtorEq, Nat.reduceBEq, Nat.reduceLT, Nat.reduceMod, List.forall_mem_cons, t_szSky, t_szStringS, t_sTrack, t_eqCellS, t_eqStringS, t_heldCellS, tk_map, dp_map, toNat_pred, appE, rowsOf, List.take_length, List.length_cons, List.length_nil, Nat.zero_add, srow, irow, un_s, un_i, Zone.row, Zone_eta, un_Zone, Pt.row, Pt_eta, un_Pt, Aw.row, Aw_eta, un_Aw, Blk.row, Blk_eta, un_Blk, Sec.row, Sec_eta, un_Sec, Rw.row, Rw_eta, un_Rw, Sky_eta, Sky.row, Cell.row, Cell_eta, un_Cell, ms_Cell_len, List.length_map, gSky, gSky', sSky, sSky', gSky0, sSky0, gG, gG', sG, sG', kG, gs1, gs2, gs3, gs4, tkZ, tkM, tkP, not_true_eq_false, ne_eq, eq_self, bne_self_eq_false, Int.toNat_natCast, Nat.sub_zero, and_self, hlz, hlv, hn1, hn2, apK1, apNew1, apG1, skyV, List.cons_append, List.nil_append]
  refine ⟨_, _, .inr (.inl ⟨rfl, _, rfl, hI1, rfl, by simp [No99, No99L, No99LL]⟩), ?_⟩
  simp (config := { maxSteps := 2000000 }) only [bitvec_to_nat, reduceIte, Nat.reduceEqDiff, Nat.reduceAdd, Nat.reduceLeDiff, reduceCtorEq, Nat.reduceBEq, Nat.reduceLT, Nat.reduceMod, List.forall_mem_cons, t_szSky, t_szStringS, t_sTrack, t_eqCellS, t_eqStringS, t_heldCellS, tk_map, dp_map, toNat_pred, appE, rowsOf, List.take_length, List.length_cons, List.length_nil, Nat.zero_add, srow, irow, un_s, un_i, Zone.row, Zone_eta, un_Zone, Pt.row, Pt_eta, un_Pt, Aw.row, Aw_eta, un_Aw, Blk.row, Blk_eta, un_Blk, Sec.row, Sec_eta, un_Sec, Rw.row, Rw_eta, un_Rw, Sky_eta, Sky.row, Cell.row, Cell_eta, un_Cell, ms_Cell_len, List.length_map, gSky, gSky', sSky, sSky', gSky0, sSky0, gG, gG', sG, sG', kG, gs1, gs2, gs3, gs4, tkZ, tkM, tkP, not_true_eq_false, ne_eq, eq_self, bne_self_eq_false, Int.toNat_natCast, Nat.sub_zero, and_self, hlz, hlv, hn1, hn2, apK1, apNew1, apG1, skyV, List.cons_append, List.nil_append]
  refine ⟨⟨rfl, by omega, by omega⟩, fun h => by omega, fun _ h => by omega⟩

theorem c_FnExactSkyTrack (s : Sky) (ps : List ByteArray) (hf : s.fitp) (hpf : ps.length ≤ 9223372036854775807 ∧ ∀ y ∈ ps, y.toList.length ≤ 9223372036854775807) : Contract P 9 [.agg (s.row 1), .sl 1 1 (ps.map srow)] [] (.bool true) [] := by
  by_cases hv : trOk s ps
  · exact c_lawTY s ps hf hpf hv
  · exact c_lawTN s ps hf hpf hv
end
end Go.Ve

