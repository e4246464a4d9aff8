/- Part 4 of the proof: laws and contracts of functions, each proved; they are joined in the last part. No conditions beyond those that the theorems state. -/
import Derived.Test.YtddhiebcjmajmaaSz3
set_option linter.all false
namespace Go.Ve
noncomputable section
open Go.Proofs
set_option linter.unusedSimpArgs false
set_option linter.unusedVariables false
set_option maxRecDepth 100000
def plAdd (ps : List PPt) (ws : List ByteArray) (i : Nat) : List Cell := if i = 0 then [ptC ps (ws.getD 0 default)] else (legOf (ptC ps (ws.getD (i - 1) default)) (ptC ps (ws.getD i default))).drop 1
def plRun (ps : List PPt) (ws : List ByteArray) : Nat → List Cell
  | 0 => []
  | i + 1 => plRun ps ws i ++ plAdd ps ws i
def plOk (ks : List PKind) (ps : List PPt) (ws : List ByteArray) : Prop := (baseOk ks ps ∧ rtOk ps ws) ∧ (plRun ps ws ws.length).length ≤ 40
noncomputable instance (ks : List PKind) (ps : List PPt) (ws : List ByteArray) : Decidable (plOk ks ps ws) := Classical.propDecidable _
def plL (ks : List PKind) (ps : List PPt) (ws : List ByteArray) : List Cell := if plOk ks ps ws then plRun ps ws ws.length else []
theorem legOf_len {a b : Cell} (ha : a.inn) (hb : b.inn) : 1 ≤ (legOf a b).length ∧ (legOf a b).length ≤ 16 := by
  have h1 : ∀ a b : Cell, 1 ≤ (legU a b).length := fun a b => by rw [legU, lgK_len]; omega
  unfold legOf
  split
  · rw [List.length_reverse]; exact ⟨h1 _ _, legU_len hb ha⟩
  · exact ⟨h1 _ _, legU_len ha hb⟩
theorem plAdd_len {ks : List PKind} {ps : List PPt} {ws : List ByteArray} (hv : baseOk ks ps) (ho : rtOk ps ws) {i : Nat} (h : i < ws.length) : (plAdd ps ws i).length ≤ 16 := by
  unfold plAdd
  split
  · simp
  · have := legOf_len (ptC_inn hv (ho.2 (i - 1) (by omega)).1) (ptC_inn hv (ho.2 i h).1)
    rw [List.length_drop]; omega
theorem plRun_len {ks : List PKind} {ps : List PPt} {ws : List ByteArray} (hv : baseOk ks ps) (ho : rtOk ps ws) : ∀ i, i ≤ ws.length → (plRun ps ws i).length ≤ 16 * i
  | 0, _ => by simp [plRun]
  | i + 1, h => by
    have := plRun_len hv ho i (by omega)
    have := plAdd_len hv ho (i := i) h
    simp only [plRun, List.length_append]; omega
theorem plRun_1 {ps : List PPt} {ws : List ByteArray} : plRun ps ws 1 = [ptC ps (ws.getD 0 default)] := rfl
set_option maxHeartbeats 2000000 in
theorem c_sCells (t t' t2 : Nat) (ks : List PKind) (ps : List PPt) (ws : List ByteArray) (hk : ks.length ≤ 1048576) (hp : ps.length ≤ 1048576) (hw : ws.length ≤ 1048576) : Contract P 6 [.agg [.sl t 3 (ks.map PKind.row), .sl t' 3 (ps.map PPt.row)], .sl t2 1 (ws.map srow)] [] (.tup [.sl 0 2 ((plL ks ps ws).map Cell.row), .bool (decide (plOk ks ps ws))]) [] := by
  have tkl : True := trivial
  have e6 : True := trivial
  have hi' : True := trivial
  have hz : True := trivial
  have hz2 : True := trivial
  refine fn_sound (((((Env.nil P).add 19 t_sBaseOk h_sBaseOk).add 20 t_l12RouteOk h_l12RouteOk).add 21 t_l17At h_l17At).add 22 t_l17Leg h_l17Leg) hm k_spec_PlanCells (Nat.le_of_ble_eq_true rfl) rfl ?_; unfold s_spec_PlanCells; simp (config := { maxSteps := 2000000 }) only [bitvec_to_nat, reduceIte, Nat.reduceEqDiff, Nat.reduceAdd, Nat.reduceLeDiff, reduceCtorEq, Nat.reduceBEq, Nat.reduceLT, Nat.reduceMod, List.forall_mem_cons, t_sBaseOk, t_l12RouteOk, t_l17At, t_l17Leg, tk_map, dp_map, toNat_pred, appE, rowsOf, List.take_length, List.length_cons, List.length_nil, Nat.zero_add, srow, irow, un_s, un_i, Zone.row, Zone_eta, un_Zone, Word.row, Word_eta, Own.row, Own_eta, Part.row, Part_eta, Seen.row, Seen_eta, Book.row, Book_eta, Sector.row, Sector_eta, HCraft.row, HCraft_eta, World.row, World_eta, PKind.row, PKind_eta, PPt.row, PPt_eta, Cell.row, Cell_eta, un_Word, un_Own, un_Part, un_Seen, un_Book, un_Sector, un_HCraft, un_World, un_PKind, un_PPt, un_Cell, Nat.sub_zero, ghost, List.nil_append, take_all, tkl, getD_rows, Cell.row, Cell_eta, un_Cell, un_PPt, un_PKind, e6, hi', hz, hz2]
  have no1 : ¬ plOk ks ps ws → (plL ks ps ws) = [] := fun h => if_neg h
  refine ⟨⟨hk, hp⟩, fun hv => ⟨⟨hp, by omega⟩, fun ho => ?_, fun ho => ?_⟩, fun hv => ?_⟩
  rotate_left
  · have hn : ¬ plOk ks ps ws := fun h => ho h.1.2
    simp [no1 hn, hn]
  · have hn : ¬ plOk ks ps ws := fun h => hv h.1.1
    simp [no1 hn, hn]
  have hR := ho.1
  have h0 := (ho.2 0 (by omega)).1
  refine ⟨by omega, by omega, ⟨hp, h0⟩, ?_⟩
  refine loop_st (fun i : Nat => [(6, .own 108 i 0 (plRun ps ws i).length), (7, .int .i64 i)]) (fun i => [(108, .arr 49 i 2 ((plRun ps ws i).map Cell.row))]) (fun i => 1 ≤ i ∧ i ≤ ws.length) (fun i => ws.length - i) 1 (by simp only [plRun_1, List.length_cons, List.length_nil, Nat.zero_add, List.map_cons, List.map_nil]; simp only [u_E0, u_E1, u_M0, u_M1, w_setE0, w_setE1, w_setM0, w_setM1, reduceIte, Nat.reduceEqDiff]; exact ⟨by repeat' (first | exact trivial | refine ⟨.inr rfl, ?_⟩), by repeat' (first | exact trivial | refine ⟨rfl, ?_⟩), by first | rfl | simp [closedB, refsIn, refsInL, refsInO, dom, refsInL_nr, *], by first | rfl | simp [keepB, dom]⟩) ⟨Nat.le_refl _, by omega⟩ ?_
  rintro i ⟨hi1, hi⟩ NX hN
  have hll := plRun_len hv ho i hi
  have tkl : List.take (plRun ps ws i).length ((plRun ps ws i).map Cell.row) = (plRun ps ws i).map Cell.row := List.take_of_length_le (by simp)
  by_cases hlt : i < ws.length
  · have hi' : (i : Int) < ws.length := by omega
    have h9 := (ho.2 i hlt).1
    have h8 := (ho.2 (i - 1) (by omega)).1
    have hz2 : ((i : Int) - 1).toNat = i - 1 := by omega
    have hc1 := ptC_inn hv h8
    have hc2 := ptC_inn hv h9
    unfold l_spec_PlanCells_0; simp (config := { maxSteps := 2000000 }) only [bitvec_to_nat, reduceIte, Nat.reduceEqDiff, Nat.reduceAdd, Nat.reduceLeDiff, reduceCtorEq, Nat.reduceBEq, Nat.reduceLT, Nat.reduceMod, List.forall_mem_cons, t_sBaseOk, t_l12RouteOk, t_l17At, t_l17Leg, tk_map, dp_map, toNat_pred, appE, rowsOf, List.take_length, List.length_cons, List.length_nil, Nat.zero_add, srow, irow, un_s, un_i, Zone.row, Zone_eta, un_Zone, Word.row, Word_eta, Own.row, Own_eta, Part.row, Part_eta, Seen.row, Seen_eta, Book.row, Book_eta, Sector.row, Sector_eta, HCraft.row, HCraft_eta, World.row, World_eta, PKind.row, PKind_eta, PPt.row, PPt_eta, Cell.row, Cell_eta, un_Word, un_Own, un_Part, un_Seen, un_Book, un_Sector, un_HCraft, un_World, un_PKind, un_PPt, un_Cell, Nat.sub_zero, ghost, List.nil_append, take_all, tkl, getD_rows, Cell.row, Cell_eta, un_Cell, un_PPt, un_PKind, e6, hi', hz, hz2]
    have hlg := legOf_len hc1 hc2
    have hE : plRun ps ws (i + 1) = plRun ps ws i ++ (legOf (ptC ps (ws.getD (i - 1) default)) (ptC ps (ws.getD i default))).drop (Int.toNat 1) := by
      show plRun ps ws i ++ plAdd ps ws i = _
      rw [plAdd, if_neg (by omega)]; rfl
    have hdl : ((legOf (ptC ps (ws.getD (i - 1) default)) (ptC ps (ws.getD i default))).drop (Int.toNat 1)).length ≤ 16 := by rw [List.length_drop]; omega
    repeat' (first | with_reducible apply And.intro | with_reducible intro _)
    all_goals first
      | omega
      | with_reducible assumption
      | (refine hN (i + 1) _ (by simp only [hE, List.length_append, List.map_append]; simp only [u_E0, u_E1, u_M0, u_M1, w_setE0, w_setE1, w_setM0, w_setM1, reduceIte, Nat.reduceEqDiff]; exact ⟨by repeat' (first | exact trivial | refine ⟨.inr rfl, ?_⟩), by repeat' (first | exact trivial | refine ⟨rfl, ?_⟩), by first | rfl | simp [closedB, refsIn, refsInL, refsInO, dom, refsInL_nr, *], by first | rfl | simp [keepB, dom]⟩) ⟨by omega, hlt⟩ (by omega))
      | trace_state
  · have e : i = ws.length := by omega
    subst e
    have hi' : ¬ ((ws.length : Nat) : Int) < ws.length := by omega
    unfold l_spec_PlanCells_0; simp (config := { maxSteps := 2000000 }) only [bitvec_to_nat, reduceIte, Nat.reduceEqDiff, Nat.reduceAdd, Nat.reduceLeDiff, reduceCtorEq, Nat.reduceBEq, Nat.reduceLT, Nat.reduceMod, List.forall_mem_cons, t_sBaseOk, t_l12RouteOk, t_l17At, t_l17Leg, tk_map, dp_map, toNat_pred, appE, rowsOf, List.take_length, List.length_cons, List.length_nil, Nat.zero_add, srow, irow, un_s, un_i, Zone.row, Zone_eta, un_Zone, Word.row, Word_eta, Own.row, Own_eta, Part.row, Part_eta, Seen.row, Seen_eta, Book.row, Book_eta, Sector.row, Sector_eta, HCraft.row, HCraft_eta, World.row, World_eta, PKind.row, PKind_eta, PPt.row, PPt_eta, Cell.row, Cell_eta, un_Word, un_Own, un_Part, un_Seen, un_Book, un_Sector, un_HCraft, un_World, un_PKind, un_PPt, un_Cell, Nat.sub_zero, ghost, List.nil_append, take_all, tkl, getD_rows, Cell.row, Cell_eta, un_Cell, un_PPt, un_PKind, e6, hi', hz, hz2]
    refine ⟨fun h' => ?_, fun h' => ?_⟩
    · have hn : ¬ plOk ks ps ws := fun h => by have := h.2; omega
      simp [no1 hn, hn]
    · have hn : plOk ks ps ws := ⟨⟨hv, ho⟩, by omega⟩
      simp [plL, hn]
theorem tk_snoc {X : List Cell} {l : List Cell} {j : Nat} (h : j < X.length) : (l ++ X.take j).map Cell.row ++ [[.int .i64 (X.getD j default).x, .int .i64 (X.getD j default).y]] = (l ++ X.take (j + 1)).map Cell.row := by
  have e : l ++ X.take (j + 1) = (l ++ X.take j) ++ [X.getD j default] := by rw [List.take_succ_eq_append_getElem h, List.append_assoc]; simp [h]
  rw [e, List.map_append (l₁ := l ++ X.take j)]; rfl
theorem tm1 : Int.toNat 1 * 1 = 1 := rfl
theorem tm0 : Int.toNat 0 * 1 = 0 := rfl
theorem ptC_mk {ps : List PPt} {nm : ByteArray} : Cell.mk (ptAt' ps nm).x (ptAt' ps nm).y = ptC ps nm := rfl
theorem plRun_pos {ps : List PPt} {ws : List ByteArray} : ∀ i, 1 ≤ i → 1 ≤ (plRun ps ws i).length
  | 1, _ => by simp [plRun_1]
  | i + 2, _ => by
    have := plRun_pos (ps := ps) (ws := ws) (i + 1) (by omega)
    simp only [plRun, List.length_append] at *; omega
set_option maxHeartbeats 4000000 in
theorem c_iCellsY (t t' t2 : Nat) (ks : List PKind) (ps : List PPt) (ws : List ByteArray) (hk : ks.length ≤ 1048576) (hp : ps.length ≤ 1048576) (hw : ws.length ≤ 1048576) (hnk : ∀ x ∈ ks, x.nm.toList.length ≤ 9223372036854775807) (hnp : ∀ x ∈ ps, x.nm.toList.length ≤ 9223372036854775807) (hok : plOk ks ps ws) : Contract P 9 [.agg [.sl t 3 (ks.map PKind.row), .sl t' 3 (ps.map PPt.row)], .sl t2 1 (ws.map srow)] [] (.tup [.own 132 ((plL ks ps ws).length - 1) 0 (plL ks ps ws).length, .bool true]) [(132, .arr 49 ((plL ks ps ws).length - 1) 2 ((plL ks ps ws).map Cell.row))] := by
  have tkl : True := trivial
  have tk2 : True := trivial
  have e6 : True := trivial
  have hi' : True := trivial
  have hz : True := trivial
  have hz2 : True := trivial
  have hg0 : True := trivial
  have hg1 : True := trivial
  have hg2 : True := trivial
  have hrr : rtOk ps ws → rtR ps ws = rtL ps ws ws.length := fun h => if_pos h
  have hrl : rtOk ps ws → (rtR ps ws).length = ws.length := fun h => by rw [hrr h, rtL_len (Nat.le_refl _)]
  refine fn_sound ((((Env.nil P).add 25 t_iBaseOk h_iBaseOk).add 26 t_route h_route).add 27 t_leg h_leg) hm kO_impl_PlanCells (Nat.le_of_ble_eq_true rfl) rfl ?_; unfold sO_impl_PlanCells; simp (config := { maxSteps := 2000000 }) only [bitvec_to_nat, reduceIte, Nat.reduceEqDiff, Nat.reduceAdd, Nat.reduceLeDiff, reduceCtorEq, Nat.reduceBEq, Nat.reduceLT, Nat.reduceMod, List.forall_mem_cons, retG_ret, retQ_eq, retQ_eqN, retOk, keepB, re_tupl, orr_t, t_iBaseOk, t_route, t_leg, tk_map, dp_map, toNat_pred, appE, rowsOf, List.take_length, List.length_cons, List.length_nil, Nat.zero_add, srow, irow, un_s, un_i, Zone.row, Zone_eta, un_Zone, Word.row, Word_eta, Own.row, Own_eta, Part.row, Part_eta, Seen.row, Seen_eta, Book.row, Book_eta, Sector.row, Sector_eta, HCraft.row, HCraft_eta, World.row, World_eta, PKind.row, PKind_eta, PPt.row, PPt_eta, Cell.row, Cell_eta, un_Word, un_Own, un_Part, un_Seen, un_Book, un_Sector, un_HCraft, un_World, un_PKind, un_PPt, un_Cell, Nat.sub_zero, ghost, List.nil_append, take_all, tkl, tk2, getD_rows, Cell.row, Cell_eta, un_Cell, un_PPt, un_PKind, e6, hi', hz, hz2, hg0, hg1, hg2, ptC_mk, tm1, tm0, hrr, hrl]
  refine ⟨⟨⟨hk, hp⟩, hnk, hnp⟩, fun hv => ⟨⟨hp, by omega⟩, fun ho => ?_, fun ho => ?_⟩, fun hv => ?_⟩
  rotate_left
  · exact absurd hok.1.2 ho
  · exact absurd hok.1.1 hv
  have hrr := hrr ho
  have hrl : (rtL ps ws ws.length).length = ws.length := rtL_len (Nat.le_refl _)
  have hR := ho.1
  have h0 := (ho.2 0 (by omega)).1
  have hg0 := rtL_get (ps := ps) (ws := ws) (i := ws.length) (j := 0) (by omega) (Nat.le_refl _)
  simp (config := { maxSteps := 2000000 }) only [bitvec_to_nat, reduceIte, Nat.reduceEqDiff, Nat.reduceAdd, Nat.reduceLeDiff, reduceCtorEq, Nat.reduceBEq, Nat.reduceLT, Nat.reduceMod, List.forall_mem_cons, retG_ret, retQ_eq, retQ_eqN, retOk, keepB, re_tupl, orr_t, t_iBaseOk, t_route, t_leg, tk_map, dp_map, toNat_pred, appE, rowsOf, List.take_length, List.length_cons, List.length_nil, Nat.zero_add, srow, irow, un_s, un_i, Zone.row, Zone_eta, un_Zone, Word.row, Word_eta, Own.row, Own_eta, Part.row, Part_eta, Seen.row, Seen_eta, Book.row, Book_eta, Sector.row, Sector_eta, HCraft.row, HCraft_eta, World.row, World_eta, PKind.row, PKind_eta, PPt.row, PPt_eta, Cell.row, Cell_eta, un_Word, un_Own, un_Part, un_Seen, un_Book, un_Sector, un_HCraft, un_World, un_PKind, un_PPt, un_Cell, Nat.sub_zero, ghost, List.nil_append, take_all, tkl, tk2, getD_rows, Cell.row, Cell_eta, un_Cell, un_PPt, un_PKind, e6, hi', hz, hz2, hg0, hg1, hg2, ptC_mk, tm1, tm0, hrr, hrl]
  repeat' (first | with_reducible apply And.intro)
  all_goals first | omega | skip
  refine loop_st (fun i : Nat => [(8, .own 132 ((plRun ps ws i).length - 1) 0 (plRun ps ws i).length), (9, .int .i64 i)]) (fun i => [(132, .arr 49 ((plRun ps ws i).length - 1) 2 ((plRun ps ws i).map Cell.row))]) (fun i => 1 ≤ i ∧ i ≤ ws.length) (fun i => ws.length - i) 1 (by simp only [plRun_1, List.length_cons, List.length_nil, Nat.zero_add, Nat.sub_self, List.map_cons, List.map_nil, Cell.row, ptC]; simp only [u_E0, u_E1, u_M0, u_M1, w_setE0, w_setE1, w_setM0, w_setM1, reduceIte, Nat.reduceEqDiff]; exact ⟨by repeat' (first | exact trivial | refine ⟨.inr rfl, ?_⟩), by repeat' (first | exact trivial | refine ⟨rfl, ?_⟩), by first | rfl | simp [closedB, refsIn, refsInL, refsInO, dom, refsInL_nr, *], by first | rfl | simp [keepB, dom]⟩) ⟨Nat.le_refl _, by omega⟩ ?_
  rintro i ⟨hi1, hi⟩ NX hN
  have hll := plRun_len hv ho i hi
  have hps := plRun_pos (ps := ps) (ws := ws) i hi1
  have tkl : List.take (plRun ps ws i).length ((plRun ps ws i).map Cell.row) = (plRun ps ws i).map Cell.row := List.take_of_length_le (by simp)
  by_cases hlt : i < ws.length
  · have hi' : (i : Int) < ws.length := by omega
    have h9 := (ho.2 i hlt).1
    have h8 := (ho.2 (i - 1) (by omega)).1
    have hz2 : ((i : Int) - 1).toNat = i - 1 := by omega
    have hg1 := rtL_get (ps := ps) hlt (Nat.le_refl ws.length)
    have hg2 := rtL_get (ps := ps) (show i - 1 < ws.length by omega) (Nat.le_refl ws.length)
    have hc1 := ptC_inn hv h8
    have hc2 := ptC_inn hv h9
    unfold lO_impl_PlanCells_1; simp (config := { maxSteps := 2000000 }) only [bitvec_to_nat, reduceIte, Nat.reduceEqDiff, Nat.reduceAdd, Nat.reduceLeDiff, reduceCtorEq, Nat.reduceBEq, Nat.reduceLT, Nat.reduceMod, List.forall_mem_cons, retG_ret, retQ_eq, retQ_eqN, retOk, keepB, re_tupl, orr_t, t_iBaseOk, t_route, t_leg, tk_map, dp_map, toNat_pred, appE, rowsOf, List.take_length, List.length_cons, List.length_nil, Nat.zero_add, srow, irow, un_s, un_i, Zone.row, Zone_eta, un_Zone, Word.row, Word_eta, Own.row, Own_eta, Part.row, Part_eta, Seen.row, Seen_eta, Book.row, Book_eta, Sector.row, Sector_eta, HCraft.row, HCraft_eta, World.row, World_eta, PKind.row, PKind_eta, PPt.row, PPt_eta, Cell.row, Cell_eta, un_Word, un_Own, un_Part, un_Seen, un_Book, un_Sector, un_HCraft, un_World, un_PKind, un_PPt, un_Cell, Nat.sub_zero, ghost, List.nil_append, take_all, tkl, tk2, getD_rows, Cell.row, Cell_eta, un_Cell, un_PPt, un_PKind, e6, hi', hz, hz2, hg0, hg1, hg2, ptC_mk, tm1, tm0, hrr, hrl]
    have hlg := legOf_len hc1 hc2
    have hE : plRun ps ws (i + 1) = plRun ps ws i ++ (legOf (ptC ps (ws.getD (i - 1) default)) (ptC ps (ws.getD i default))).drop (Int.toNat 1) := by
      show plRun ps ws i ++ plAdd ps ws i = _
      rw [plAdd, if_neg (by omega)]; rfl
    have hdl : ((legOf (ptC ps (ws.getD (i - 1) default)) (ptC ps (ws.getD i default))).drop (Int.toNat 1)).length ≤ 16 := by rw [List.length_drop]; omega
    repeat' (first | with_reducible apply And.intro | with_reducible intro _)
    all_goals first
      | omega
      | with_reducible assumption
      | skip
    generalize (legOf (ptC ps (ws.getD (i - 1) default)) (ptC ps (ws.getD i default))).drop (Int.toNat 1) = X at *
    refine loop_st (fun j : Nat => [(8, .own 132 ((plRun ps ws i).length - 1 + j) 0 ((plRun ps ws i).length + j)), (64, .int .i64 j)]) (fun j => [(132, .arr 49 ((plRun ps ws i).length - 1 + j) 2 ((plRun ps ws i ++ X.take j).map Cell.row))]) (fun j => j ≤ X.length) (fun j => X.length - j) 0 (by simp only [List.take_zero, List.append_nil, Nat.add_zero]; simp only [u_E0, u_E1, u_M0, u_M1, w_setE0, w_setE1, w_setM0, w_setM1, reduceIte, Nat.reduceEqDiff]; exact ⟨by repeat' (first | exact trivial | refine ⟨.inr rfl, ?_⟩), by repeat' (first | exact trivial | refine ⟨rfl, ?_⟩), by first | rfl | simp [closedB, refsIn, refsInL, refsInO, dom, refsInL_nr, *], by first | rfl | simp [keepB, dom]⟩) (Nat.zero_le _) ?_
    intro j hj NX2 hN2
    have tk2 : List.take ((plRun ps ws i).length + j) ((plRun ps ws i ++ X.take j).map Cell.row) = (plRun ps ws i ++ X.take j).map Cell.row := List.take_of_length_le (by simp; omega)
    by_cases hjl : j < X.length
    · have hsu := tk_snoc (l := plRun ps ws i) hjl
      unfold lO_impl_PlanCells_0; simp (config := { maxSteps := 2000000 }) only [bitvec_to_nat, reduceIte, Nat.reduceEqDiff, Nat.reduceAdd, Nat.reduceLeDiff, reduceCtorEq, Nat.reduceBEq, Nat.reduceLT, Nat.reduceMod, List.forall_mem_cons, retG_ret, retQ_eq, retQ_eqN, retOk, keepB, re_tupl, orr_t, t_iBaseOk, t_route, t_leg, tk_map, dp_map, toNat_pred, appE, rowsOf, List.take_length, List.length_cons, List.length_nil, Nat.zero_add, srow, irow, un_s, un_i, Zone.row, Zone_eta, un_Zone, Word.row, Word_eta, Own.row, Own_eta, Part.row, Part_eta, Seen.row, Seen_eta, Book.row, Book_eta, Sector.row, Sector_eta, HCraft.row, HCraft_eta, World.row, World_eta, PKind.row, PKind_eta, PPt.row, PPt_eta, Cell.row, Cell_eta, un_Word, un_Own, un_Part, un_Seen, un_Book, un_Sector, un_HCraft, un_World, un_PKind, un_PPt, un_Cell, Nat.sub_zero, ghost, List.nil_append, take_all, tkl, tk2, getD_rows, Cell.row, Cell_eta, un_Cell, un_PPt, un_PKind, e6, hi', hz, hz2, hg0, hg1, hg2, ptC_mk, tm1, tm0, hrr, hrl]
      repeat' (first | with_reducible apply And.intro | with_reducible intro _)
      all_goals first
        | omega
        | (refine hN2 (j + 1) _ ⟨by repeat' (first | exact trivial | refine ⟨.inr rfl, ?_⟩), ⟨rfl, congrArg (fun g => some (AObj.arr 49 ((plRun ps ws i).length - 1 + j + 1) 2 g)) hsu, trivial⟩, rfl, rfl⟩ hjl (by omega))
        | (exfalso; omega)
        | trace_state
    · have e : j = X.length := by omega
      subst e
      have hi' : ¬ ((X.length : Nat) : Int) < X.length := by omega
      have hv' : (plRun ps ws (i + 1)).length - 1 = (plRun ps ws i).length - 1 + X.length := by rw [hE, List.length_append]; omega
      unfold lO_impl_PlanCells_0; simp (config := { maxSteps := 2000000 }) only [bitvec_to_nat, reduceIte, Nat.reduceEqDiff, Nat.reduceAdd, Nat.reduceLeDiff, reduceCtorEq, Nat.reduceBEq, Nat.reduceLT, Nat.reduceMod, List.forall_mem_cons, retG_ret, retQ_eq, retQ_eqN, retOk, keepB, re_tupl, orr_t, t_iBaseOk, t_route, t_leg, tk_map, dp_map, toNat_pred, appE, rowsOf, List.take_length, List.length_cons, List.length_nil, Nat.zero_add, srow, irow, un_s, un_i, Zone.row, Zone_eta, un_Zone, Word.row, Word_eta, Own.row, Own_eta, Part.row, Part_eta, Seen.row, Seen_eta, Book.row, Book_eta, Sector.row, Sector_eta, HCraft.row, HCraft_eta, World.row, World_eta, PKind.row, PKind_eta, PPt.row, PPt_eta, Cell.row, Cell_eta, un_Word, un_Own, un_Part, un_Seen, un_Book, un_Sector, un_HCraft, un_World, un_PKind, un_PPt, un_Cell, Nat.sub_zero, ghost, List.nil_append, take_all, tkl, tk2, getD_rows, Cell.row, Cell_eta, un_Cell, un_PPt, un_PKind, e6, hi', hz, hz2, hg0, hg1, hg2, ptC_mk, tm1, tm0, hrr, hrl]
      exact ⟨by omega, hN (i + 1) _ (by simp only [hv']; simp only [hE, List.length_append, List.take_length]; simp only [u_E0, u_E1, u_M0, u_M1, w_setE0, w_setE1, w_setM0, w_setM1, reduceIte, Nat.reduceEqDiff]; exact ⟨by repeat' (first | exact trivial | refine ⟨.inr rfl, ?_⟩), by repeat' (first | exact trivial | refine ⟨rfl, ?_⟩), by first | rfl | simp [closedB, refsIn, refsInL, refsInO, dom, refsInL_nr, *], by first | rfl | simp [keepB, dom]⟩) ⟨by omega, hlt⟩ (by omega)⟩
  · have e : i = ws.length := by omega
    subst e
    have hi' : ¬ ((ws.length : Nat) : Int) < ws.length := by omega
    unfold lO_impl_PlanCells_1; simp (config := { maxSteps := 2000000 }) only [bitvec_to_nat, reduceIte, Nat.reduceEqDiff, Nat.reduceAdd, Nat.reduceLeDiff, reduceCtorEq, Nat.reduceBEq, Nat.reduceLT, Nat.reduceMod, List.forall_mem_cons, retG_ret, retQ_eq, retQ_eqN, retOk, keepB, re_tupl, orr_t, t_iBaseOk, t_route, t_leg, tk_map, dp_map, toNat_pred, appE, rowsOf, List.take_length, List.length_cons, List.length_nil, Nat.zero_add, srow, irow, un_s, un_i, Zone.row, Zone_eta, un_Zone, Word.row, Word_eta, Own.row, Own_eta, Part.row, Part_eta, Seen.row, Seen_eta, Book.row, Book_eta, Sector.row, Sector_eta, HCraft.row, HCraft_eta, World.row, World_eta, PKind.row, PKind_eta, PPt.row, PPt_eta, Cell.row, Cell_eta, un_Word, un_Own, un_Part, un_Seen, un_Book, un_Sector, un_HCraft, un_World, un_PKind, un_PPt, un_Cell, Nat.sub_zero, ghost, List.nil_append, take_all, tkl, tk2, getD_rows, Cell.row, Cell_eta, un_Cell, un_PPt, un_PKind, e6, hi', hz, hz2, hg0, hg1, hg2, ptC_mk, tm1, tm0, hrr, hrl]
    refine ⟨fun h' => absurd hok.2 (by omega), fun h' => ?_⟩
    rw [show plL ks ps ws = plRun ps ws ws.length from if_pos hok]; exact ⟨rfl, rfl, by simp [refsIn], rfl⟩
set_option maxHeartbeats 4000000 in
theorem c_iCellsN (t t' t2 : Nat) (ks : List PKind) (ps : List PPt) (ws : List ByteArray) (hk : ks.length ≤ 1048576) (hp : ps.length ≤ 1048576) (hw : ws.length ≤ 1048576) (hnk : ∀ x ∈ ks, x.nm.toList.length ≤ 9223372036854775807) (hnp : ∀ x ∈ ps, x.nm.toList.length ≤ 9223372036854775807) (hok : ¬ plOk ks ps ws) : Contract P 9 [.agg [.sl t 3 (ks.map PKind.row), .sl t' 3 (ps.map PPt.row)], .sl t2 1 (ws.map srow)] [] (.tup [.sl 98 2 [], .bool false]) [] := by
  have tkl : True := trivial
  have tk2 : True := trivial
  have e6 : True := trivial
  have hi' : True := trivial
  have hz : True := trivial
  have hz2 : True := trivial
  have hg0 : True := trivial
  have hg1 : True := trivial
  have hg2 : True := trivial
  have hrr : rtOk ps ws → rtR ps ws = rtL ps ws ws.length := fun h => if_pos h
  have hrl : rtOk ps ws → (rtR ps ws).length = ws.length := fun h => by rw [hrr h, rtL_len (Nat.le_refl _)]
  refine fn_sound ((((Env.nil P).add 25 t_iBaseOk h_iBaseOk).add 26 t_route h_route).add 27 t_leg h_leg) hm kO_impl_PlanCells (Nat.le_of_ble_eq_true rfl) rfl ?_; unfold sO_impl_PlanCells; simp (config := { maxSteps := 2000000 }) only [bitvec_to_nat, reduceIte, Nat.reduceEqDiff, Nat.reduceAdd, Nat.reduceLeDiff, reduceCtorEq, Nat.reduceBEq, Nat.reduceLT, Nat.reduceMod, List.forall_mem_cons, retG_ret, retQ_eq, retQ_eqN, retOk, keepB, re_tupl, orr_t, t_iBaseOk, t_route, t_leg, tk_map, dp_map, toNat_pred, appE, rowsOf, List.take_length, List.length_cons, List.length_nil, Nat.zero_add, srow, irow, un_s, un_i, Zone.row, Zone_eta, un_Zone, Word.row, Word_eta, Own.row, Own_eta, Part.row, Part_eta, Seen.row, Seen_eta, Book.row, Book_eta, Sector.row, Sector_eta, HCraft.row, HCraft_eta, World.row, World_eta, PKind.row, PKind_eta, PPt.row, PPt_eta, Cell.row, Cell_eta, un_Word, un_Own, un_Part, un_Seen, un_Book, un_Sector, un_HCraft, un_World, un_PKind, un_PPt, un_Cell, Nat.sub_zero, ghost, List.nil_append, take_all, tkl, tk2, getD_rows, Cell.row, Cell_eta, un_Cell, un_PPt, un_PKind, e6, hi', hz, hz2, hg0, hg1, hg2, ptC_mk, tm1, tm0, hrr, hrl]
  refine ⟨⟨⟨hk, hp⟩, hnk, hnp⟩, fun hv => ⟨⟨hp, by omega⟩, fun ho => ?_⟩⟩
  have hrr := hrr ho
  have hrl : (rtL ps ws ws.length).length = ws.length := rtL_len (Nat.le_refl _)
  have hR := ho.1
  have h0 := (ho.2 0 (by omega)).1
  have hg0 := rtL_get (ps := ps) (ws := ws) (i := ws.length) (j := 0) (by omega) (Nat.le_refl _)
  simp (config := { maxSteps := 2000000 }) only [bitvec_to_nat, reduceIte, Nat.reduceEqDiff, Nat.reduceAdd, Nat.reduceLeDiff, reduceCtorEq, Nat.reduceBEq, Nat.reduceLT, Nat.reduceMod, List.forall_mem_cons, retG_ret, retQ_eq, retQ_eqN, retOk, keepB, re_tupl, orr_t, t_iBaseOk, t_route, t_leg, tk_map, dp_map, toNat_pred, appE, rowsOf, List.take_length, List.length_cons, List.length_nil, Nat.zero_add, srow, irow, un_s, un_i, Zone.row, Zone_eta, un_Zone, Word.row, Word_eta, Own.row, Own_eta, Part.row, Part_eta, Seen.row, Seen_eta, Book.row, Book_eta, Sector.row, Sector_eta, HCraft.row, HCraft_eta, World.row, World_eta, PKind.row, PKind_eta, PPt.row, PPt_eta, Cell.row, Cell_eta, un_Word, un_Own, un_Part, un_Seen, un_Book, un_Sector, un_HCraft, un_World, un_PKind, un_PPt, un_Cell, Nat.sub_zero, ghost, List.nil_append, take_all, tkl, tk2, getD_rows, Cell.row, Cell_eta, un_Cell, un_PPt, un_PKind, e6, hi', hz, hz2, hg0, hg1, hg2, ptC_mk, tm1, tm0, hrr, hrl]
  repeat' (first | with_reducible apply And.intro)
  all_goals first | omega | skip
  refine loop_st (fun i : Nat => [(8, .own 132 ((plRun ps ws i).length - 1) 0 (plRun ps ws i).length), (9, .int .i64 i)]) (fun i => [(132, .arr 49 ((plRun ps ws i).length - 1) 2 ((plRun ps ws i).map Cell.row))]) (fun i => 1 ≤ i ∧ i ≤ ws.length) (fun i => ws.length - i) 1 (by simp only [plRun_1, List.length_cons, List.length_nil, Nat.zero_add, Nat.sub_self, List.map_cons, List.map_nil, Cell.row, ptC]; simp only [u_E0, u_E1, u_M0, u_M1, w_setE0, w_setE1, w_setM0, w_setM1, reduceIte, Nat.reduceEqDiff]; exact ⟨by repeat' (first | exact trivial | refine ⟨.inr rfl, ?_⟩), by repeat' (first | exact trivial | refine ⟨rfl, ?_⟩), by first | rfl | simp [closedB, refsIn, refsInL, refsInO, dom, refsInL_nr, *], by first | rfl | simp [keepB, dom]⟩) ⟨Nat.le_refl _, by omega⟩ ?_
  rintro i ⟨hi1, hi⟩ NX hN
  have hll := plRun_len hv ho i hi
  have hps := plRun_pos (ps := ps) (ws := ws) i hi1
  have tkl : List.take (plRun ps ws i).length ((plRun ps ws i).map Cell.row) = (plRun ps ws i).map Cell.row := List.take_of_length_le (by simp)
  by_cases hlt : i < ws.length
  · have hi' : (i : Int) < ws.length := by omega
    have h9 := (ho.2 i hlt).1
    have h8 := (ho.2 (i - 1) (by omega)).1
    have hz2 : ((i : Int) - 1).toNat = i - 1 := by omega
    have hg1 := rtL_get (ps := ps) hlt (Nat.le_refl ws.length)
    have hg2 := rtL_get (ps := ps) (show i - 1 < ws.length by omega) (Nat.le_refl ws.length)
    have hc1 := ptC_inn hv h8
    have hc2 := ptC_inn hv h9
    unfold lO_impl_PlanCells_1; simp (config := { maxSteps := 2000000 }) only [bitvec_to_nat, reduceIte, Nat.reduceEqDiff, Nat.reduceAdd, Nat.reduceLeDiff, reduceCtorEq, Nat.reduceBEq, Nat.reduceLT, Nat.reduceMod, List.forall_mem_cons, retG_ret, retQ_eq, retQ_eqN, retOk, keepB, re_tupl, orr_t, t_iBaseOk, t_route, t_leg, tk_map, dp_map, toNat_pred, appE, rowsOf, List.take_length, List.length_cons, List.length_nil, Nat.zero_add, srow, irow, un_s, un_i, Zone.row, Zone_eta, un_Zone, Word.row, Word_eta, Own.row, Own_eta, Part.row, Part_eta, Seen.row, Seen_eta, Book.row, Book_eta, Sector.row, Sector_eta, HCraft.row, HCraft_eta, World.row, World_eta, PKind.row, PKind_eta, PPt.row, PPt_eta, Cell.row, Cell_eta, un_Word, un_Own, un_Part, un_Seen, un_Book, un_Sector, un_HCraft, un_World, un_PKind, un_PPt, un_Cell, Nat.sub_zero, ghost, List.nil_append, take_all, tkl, tk2, getD_rows, Cell.row, Cell_eta, un_Cell, un_PPt, un_PKind, e6, hi', hz, hz2, hg0, hg1, hg2, ptC_mk, tm1, tm0, hrr, hrl]
    have hlg := legOf_len hc1 hc2
    have hE : plRun ps ws (i + 1) = plRun ps ws i ++ (legOf (ptC ps (ws.getD (i - 1) default)) (ptC ps (ws.getD i default))).drop (Int.toNat 1) := by
      show plRun ps ws i ++ plAdd ps ws i = _
      rw [plAdd, if_neg (by omega)]; rfl
    have hdl : ((legOf (ptC ps (ws.getD (i - 1) default)) (ptC ps (ws.getD i default))).drop (Int.toNat 1)).length ≤ 16 := by rw [List.length_drop]; omega
    repeat' (first | with_reducible apply And.intro | with_reducible intro _)
    all_goals first
      | omega
      | with_reducible assumption
      | skip
    generalize (legOf (ptC ps (ws.getD (i - 1) default)) (ptC ps (ws.getD i default))).drop (Int.toNat 1) = X at *
    refine loop_st (fun j : Nat => [(8, .own 132 ((plRun ps ws i).length - 1 + j) 0 ((plRun ps ws i).length + j)), (64, .int .i64 j)]) (fun j => [(132, .arr 49 ((plRun ps ws i).length - 1 + j) 2 ((plRun ps ws i ++ X.take j).map Cell.row))]) (fun j => j ≤ X.length) (fun j => X.length - j) 0 (by simp only [List.take_zero, List.append_nil, Nat.add_zero]; simp only [u_E0, u_E1, u_M0, u_M1, w_setE0, w_setE1, w_setM0, w_setM1, reduceIte, Nat.reduceEqDiff]; exact ⟨by repeat' (first | exact trivial | refine ⟨.inr rfl, ?_⟩), by repeat' (first | exact trivial | refine ⟨rfl, ?_⟩), by first | rfl | simp [closedB, refsIn, refsInL, refsInO, dom, refsInL_nr, *], by first | rfl | simp [keepB, dom]⟩) (Nat.zero_le _) ?_
    intro j hj NX2 hN2
    have tk2 : List.take ((plRun ps ws i).length + j) ((plRun ps ws i ++ X.take j).map Cell.row) = (plRun ps ws i ++ X.take j).map Cell.row := List.take_of_length_le (by simp; omega)
    by_cases hjl : j < X.length
    · have hsu := tk_snoc (l := plRun ps ws i) hjl
      unfold lO_impl_PlanCells_0; simp (config := { maxSteps := 2000000 }) only [bitvec_to_nat, reduceIte, Nat.reduceEqDiff, Nat.reduceAdd, Nat.reduceLeDiff, reduceCtorEq, Nat.reduceBEq, Nat.reduceLT, Nat.reduceMod, List.forall_mem_cons, retG_ret, retQ_eq, retQ_eqN, retOk, keepB, re_tupl, orr_t, t_iBaseOk, t_route, t_leg, tk_map, dp_map, toNat_pred, appE, rowsOf, List.take_length, List.length_cons, List.length_nil, Nat.zero_add, srow, irow, un_s, un_i, Zone.row, Zone_eta, un_Zone, Word.row, Word_eta, Own.row, Own_eta, Part.row, Part_eta, Seen.row, Seen_eta, Book.row, Book_eta, Sector.row, Sector_eta, HCraft.row, HCraft_eta, World.row, World_eta, PKind.row, PKind_eta, PPt.row, PPt_eta, Cell.row, Cell_eta, un_Word, un_Own, un_Part, un_Seen, un_Book, un_Sector, un_HCraft, un_World, un_PKind, un_PPt, un_Cell, Nat.sub_zero, ghost, List.nil_append, take_all, tkl, tk2, getD_rows, Cell.row, Cell_eta, un_Cell, un_PPt, un_PKind, e6, hi', hz, hz2, hg0, hg1, hg2, ptC_mk, tm1, tm0, hrr, hrl]
      repeat' (first | with_reducible apply And.intro | with_reducible intro _)
      all_goals first
        | omega
        | (refine hN2 (j + 1) _ ⟨by repeat' (first | exact trivial | refine ⟨.inr rfl, ?_⟩), ⟨rfl, congrArg (fun g => some (AObj.arr 49 ((plRun ps ws i).length - 1 + j + 1) 2 g)) hsu, trivial⟩, rfl, rfl⟩ hjl (by omega))
        | (exfalso; omega)
        | trace_state
    · have e : j = X.length := by omega
      subst e
      have hi' : ¬ ((X.length : Nat) : Int) < X.length := by omega
      have hv' : (plRun ps ws (i + 1)).length - 1 = (plRun ps ws i).length - 1 + X.length := by rw [hE, List.length_append]; omega
      unfold lO_impl_PlanCells_0; simp (config := { maxSteps := 2000000 }) only [bitvec_to_nat, reduceIte, Nat.reduceEqDiff, Nat.reduceAdd, Nat.reduceLeDiff, reduceCtorEq, Nat.reduceBEq, Nat.reduceLT, Nat.reduceMod, List.forall_mem_cons, retG_ret, retQ_eq, retQ_eqN, retOk, keepB, re_tupl, orr_t, t_iBaseOk, t_route, t_leg, tk_map, dp_map, toNat_pred, appE, rowsOf, List.take_length, List.length_cons, List.length_nil, Nat.zero_add, srow, irow, un_s, un_i, Zone.row, Zone_eta, un_Zone, Word.row, Word_eta, Own.row, Own_eta, Part.row, Part_eta, Seen.row, Seen_eta, Book.row, Book_eta, Sector.row, Sector_eta, HCraft.row, HCraft_eta, World.row, World_eta, PKind.row, PKind_eta, PPt.row, PPt_eta, Cell.row, Cell_eta, un_Word, un_Own, un_Part, un_Seen, un_Book, un_Sector, un_HCraft, un_World, un_PKind, un_PPt, un_Cell, Nat.sub_zero, ghost, List.nil_append, take_all, tkl, tk2, getD_rows, Cell.row, Cell_eta, un_Cell, un_PPt, un_PKind, e6, hi', hz, hz2, hg0, hg1, hg2, ptC_mk, tm1, tm0, hrr, hrl]
      exact ⟨by omega, hN (i + 1) _ (by simp only [hv']; simp only [hE, List.length_append, List.take_length]; simp only [u_E0, u_E1, u_M0, u_M1, w_setE0, w_setE1, w_setM0, w_setM1, reduceIte, Nat.reduceEqDiff]; exact ⟨by repeat' (first | exact trivial | refine ⟨.inr rfl, ?_⟩), by repeat' (first | exact trivial | refine ⟨rfl, ?_⟩), by first | rfl | simp [closedB, refsIn, refsInL, refsInO, dom, refsInL_nr, *], by first | rfl | simp [keepB, dom]⟩) ⟨by omega, hlt⟩ (by omega)⟩
  · have e : i = ws.length := by omega
    subst e
    have hi' : ¬ ((ws.length : Nat) : Int) < ws.length := by omega
    unfold lO_impl_PlanCells_1; simp (config := { maxSteps := 2000000 }) only [bitvec_to_nat, reduceIte, Nat.reduceEqDiff, Nat.reduceAdd, Nat.reduceLeDiff, reduceCtorEq, Nat.reduceBEq, Nat.reduceLT, Nat.reduceMod, List.forall_mem_cons, retG_ret, retQ_eq, retQ_eqN, retOk, keepB, re_tupl, orr_t, t_iBaseOk, t_route, t_leg, tk_map, dp_map, toNat_pred, appE, rowsOf, List.take_length, List.length_cons, List.length_nil, Nat.zero_add, srow, irow, un_s, un_i, Zone.row, Zone_eta, un_Zone, Word.row, Word_eta, Own.row, Own_eta, Part.row, Part_eta, Seen.row, Seen_eta, Book.row, Book_eta, Sector.row, Sector_eta, HCraft.row, HCraft_eta, World.row, World_eta, PKind.row, PKind_eta, PPt.row, PPt_eta, Cell.row, Cell_eta, un_Word, un_Own, un_Part, un_Seen, un_Book, un_Sector, un_HCraft, un_World, un_PKind, un_PPt, un_Cell, Nat.sub_zero, ghost, List.nil_append, take_all, tkl, tk2, getD_rows, Cell.row, Cell_eta, un_Cell, un_PPt, un_PKind, e6, hi', hz, hz2, hg0, hg1, hg2, ptC_mk, tm1, tm0, hrr, hrl]
    exact fun h' => absurd ⟨⟨hv, ho⟩, by omega⟩ hok
end
end Go.Ve

namespace Go.Ve
noncomputable section
open Go.Proofs
set_option linter.unusedSimpArgs false
set_option linter.unusedVariables false
set_option maxRecDepth 100000
def dch (i : Nat) : ByteArray := ⟨#[byteOf [AV.int .u8 (IntKind.u8.wrap (48 + (i : Int) % 10))]]⟩
theorem dch_eq (i : Nat) : bytesOf [[AV.int .u8 (IntKind.u8.wrap (48 + (i : Int) % 10))]] = dch i := rfl
def dg (k : Nat) (o : ByteArray) : ByteArray := if h : k = 0 then o else dg (k / 10) (dch k ++ o)
termination_by k
decreasing_by omega
theorem dg_zero (o : ByteArray) : dg 0 o = o := by rw [dg]; simp
theorem dg_step {k : Nat} (o : ByteArray) (h : 0 < k) : dg k o = dg (k / 10) (dch k ++ o) := by rw [dg]; simp [show k ≠ 0 by omega]
def mtx (k : Int) : ByteArray := if k ≤ 0 then ⟨#[109, 48]⟩ else ⟨#[109]⟩ ++ dg k.toNat ⟨#[]⟩
theorem dch_len (i : Nat) : (dch i).toList.length = 1 := by rw [← toList_size]; rfl
theorem app_len (a b : ByteArray) : (a ++ b).toList.length = a.toList.length + b.toList.length := by simp only [← toList_size, ByteArray.size_append]
theorem byte_ok (w : Int) : isByte [AV.int .u8 (IntKind.u8.wrap w)] = true := by
  simp [isByte, IntKind.wrap, IntKind.bits, IntKind.signed]
  try omega
theorem m_len : (⟨#[109]⟩ : ByteArray).toList.length = 1 := by rw [← toList_size]; rfl
theorem e_len : (⟨#[]⟩ : ByteArray).toList.length = 0 := by rw [← toList_size]; rfl
theorem c_markText (k : Int) (hk : 0 ≤ k ∧ k ≤ 1152921504606846976) : Contract P 33 [.int .i64 k] [] (.str (mtx k)) [] := by
  refine fn_sound (Env.nil P) hm k_laws_markText (Nat.le_of_ble_eq_true rfl) rfl ?_; unfold s_laws_markText; simp (config := { maxSteps := 2000000 }) only [bitvec_to_nat, reduceIte, Nat.reduceEqDiff, Nat.reduceAdd, Nat.reduceLeDiff, reduceCtorEq, Nat.reduceBEq, Nat.reduceLT, Nat.reduceMod, List.forall_mem_cons, Nat.zero_add, un_s, List.map_cons, List.map_nil, rowsOf, dch_eq]
  refine ⟨fun h => by rw [mtx, if_pos h], fun hp => ?_⟩
  have hkk : ((k.toNat : Nat) : Int) = k := by omega
  refine loop_st (fun a : Nat × ByteArray => [(0, .int .i64 a.1), (3, .str a.2)]) (fun _ => []) (fun a => dg a.1 a.2 = dg k.toNat ⟨#[]⟩ ∧ a.2.toList.length + a.1 ≤ 1152921504606846976) (fun a => a.1) (k.toNat, ⟨#[]⟩) (by simp only [hkk]; simp only [u_E0, u_E1, u_M0, u_M1, w_setE0, w_setE1, w_setM0, w_setM1, reduceIte, Nat.reduceEqDiff]; exact ⟨by repeat' (first | exact trivial | refine ⟨.inr rfl, ?_⟩), by repeat' (first | exact trivial | refine ⟨rfl, ?_⟩), by first | rfl | simp [closedB, refsIn, refsInL, refsInO, dom, refsInL_nr, *], by first | rfl | simp [keepB, dom]⟩) ⟨rfl, by simp only [e_len]; omega⟩ ?_
  rintro ⟨i, s⟩ ⟨h1, h2⟩ NX hN
  simp only at h1 h2
  unfold l_laws_markText_0; simp (config := { maxSteps := 2000000 }) only [bitvec_to_nat, reduceIte, Nat.reduceEqDiff, Nat.reduceAdd, Nat.reduceLeDiff, reduceCtorEq, Nat.reduceBEq, Nat.reduceLT, Nat.reduceMod, List.forall_mem_cons, Nat.zero_add, un_s, List.map_cons, List.map_nil, rowsOf, dch_eq]
  refine ⟨fun g => ⟨by omega, by omega, by simp only [List.all_cons, List.all_nil, byte_ok, Bool.and_true], ?_⟩, fun g => ?_⟩
  · have e1 := dch_len i
    refine ⟨by rw [e1]; omega, by omega, ?_⟩
    have e2 : ((i : Int) / 10) = ((i / 10 : Nat) : Int) := by omega
    simp only [e2]
    refine hN (i / 10, dch i ++ s) _ (by simp only [u_E0, u_E1, u_M0, u_M1, w_setE0, w_setE1, w_setM0, w_setM1, reduceIte, Nat.reduceEqDiff]; exact ⟨by repeat' (first | exact trivial | refine ⟨.inr rfl, ?_⟩), by repeat' (first | exact trivial | refine ⟨rfl, ?_⟩), by first | rfl | simp [closedB, refsIn, refsInL, refsInO, dom, refsInL_nr, *], by first | rfl | simp [keepB, dom]⟩) ?_ ?_
    · exact ⟨by rw [← dg_step s (by omega)]; exact h1, by simp only [app_len, e1]; omega⟩
    · simp only; omega
  · have e : i = 0 := by omega
    subst e
    rw [dg_zero] at h1
    refine ⟨by rw [m_len]; omega, ?_⟩
    rw [mtx, if_neg hp, ← h1]
def t_markText : List AV → Option (Prop × AV)
  | [.int .i64 k] => some ((True) ∧ (0 ≤ k ∧ k ≤ 1152921504606846976), .str (mtx k))
  | _ => none
theorem h_markText : ∀ args p v, t_markText args = some (p, v) → p → Contract P 33 args [] v [] ∧ noref v = true ∧ No99 v := by
  intro args p v h1 h2
  unfold t_markText at h1
  split at h1
  · rename_i k
    cases h1
    obtain ⟨_, HP⟩ := h2
    have := c_markText k HP
    exact ⟨this, rfl, trivial⟩
  · cases h1
def PKind.fitp (s : PKind) : Prop := s.nm.toList.length ≤ 9223372036854775807
def PKind.sz (s : PKind) (z0 : Int) : Int := chk (z0 - (s.nm.toList.length : Nat)) (fun z1 => z1)
theorem meas_PKind : Meas PKind.sz := fun s => chk_sub _ (measP_id)
def PPt.fitp (s : PPt) : Prop := s.nm.toList.length ≤ 9223372036854775807
def PPt.sz (s : PPt) (z0 : Int) : Int := chk (z0 - (s.nm.toList.length : Nat)) (fun z1 => z1)
theorem meas_PPt : Meas PPt.sz := fun s => chk_sub _ (measP_id)
structure PBase where
  ks : List PKind
  ps : List PPt
  deriving Inhabited, DecidableEq
def PBase.row (t : Nat) (s : PBase) : List AV := [.sl t 3 (s.ks.map PKind.row), .sl t 3 (s.ps.map PPt.row)]
def unPBase : List AV → PBase
  | [.sl _ 3 vks, .sl _ 3 vps] => (PBase.mk (vks.map unPKind) (vps.map unPPt))
  | _ => default
theorem unPBase_row (t : Nat) (s : PBase) : unPBase (PBase.row t s) = s := by
  cases s; simp only [PBase.row, unPBase, un_PKind, un_PPt]
theorem un_PBase (t : Nat) (l : List PBase) : (l.map (PBase.row t)).map unPBase = l := by
  rw [List.map_map]; exact List.map_id'' (fun s => unPBase_row t s) l
theorem PBase_eta (s : PBase) : (PBase.mk s.ks s.ps) = s := (rfl)
theorem no99_PBase (l : List PBase) : No99LL (l.map (PBase.row 0)) := by
  induction l with
  | nil => simp [No99LL]
  | cons x l ih => simp only [List.map_cons, No99LL]; exact ⟨by simp [PBase.row, No99L, No99, no99_PKind, no99_PPt], ih⟩
def PBase.fitp (s : PBase) : Prop := (s.ks.length ≤ 9223372036854775807 ∧ ∀ y ∈ s.ks, y.fitp) ∧ (s.ps.length ≤ 9223372036854775807 ∧ ∀ y ∈ s.ps, y.fitp)
def PBase.small (s : PBase) : Prop := s.ks.length ≤ 1048576 ∧ s.ps.length ≤ 1048576
def PBase.sz (s : PBase) (z0 : Int) : Int := chk (szS PKind.sz s.ks z0) (fun z1 => chk (szS PPt.sz s.ps z1) (fun z2 => z2))
theorem meas_PBase : Meas PBase.sz := fun s => chk_g (fun a => meas_szS meas_PKind s.ks a) (Meas1.p (chk_g (fun a => meas_szS meas_PPt s.ps a) (measP_id)))
theorem PBase.sz_ok {s : PBase} {a : Int} (ha : a ≤ 1048576) (h : 0 ≤ s.sz a) : s.small := by
  unfold PBase.sz at h
  have b0 : a ≤ 1048576 := ha
  obtain ⟨p0, h⟩ := chk_ok h
  have b1 : szS PKind.sz s.ks (a) ≤ 1048576 := by have := (meas_szS meas_PKind s.ks (a) b0).2.2; omega
  have k0 := szS_ok (p := fun _ => True) meas_PKind (fun _ _ _ _ => trivial) b0 p0
  obtain ⟨p1, h⟩ := chk_ok h
  have b2 : szS PPt.sz s.ps (szS PKind.sz s.ks (a)) ≤ 1048576 := by have := (meas_szS meas_PPt s.ps (szS PKind.sz s.ks (a)) b1).2.2; omega
  have k1 := szS_ok (p := fun _ => True) meas_PPt (fun _ _ _ _ => trivial) b1 p1
  exact ⟨k0.1, k1.1⟩
theorem c_szStringS (t : Nat) (l : List ByteArray) (a : Int) (ha : 0 ≤ a ∧ a ≤ 1048576) (hl : l.length ≤ 9223372036854775807 ∧ ∀ y ∈ l, y.toList.length ≤ 9223372036854775807) : Contract P 5 [.sl t 1 (l.map srow), .int .i64 a] [] (.int .i64 (szS szStr l a)) [] := by
  refine fn_sound (Env.nil P) hm k_laws_szStringS (Nat.le_of_ble_eq_true rfl) rfl ?_; unfold s_laws_szStringS; simp (config := { maxSteps := 2000000 }) only [bitvec_to_nat, reduceIte, Nat.reduceEqDiff, Nat.reduceAdd, Nat.reduceLeDiff, reduceCtorEq, Nat.reduceBEq, Nat.reduceLT, Nat.reduceMod, List.forall_mem_cons, srow, un_s, List.take_zero, List.foldl_nil]
  have hz : szOf a l.length = if a - l.length < 0 then -1 else a - l.length := rfl
  refine ⟨by omega, fun h1 => ?_, fun h1 => ?_⟩
  · unfold szS
    rw [(fold_meas meas_str l _ (by omega) (by omega)).2.1 (by omega)]
  have e0 : szOf a l.length = a - l.length := if_neg h1
  refine loop_st (fun i : Nat => [(1, .int .i64 ((l.take i).foldl (fun a x => szStr x a) (a - l.length))), (5, .int .i64 i)]) (fun _ => []) (fun i => i ≤ l.length ∧ 0 ≤ (l.take i).foldl (fun a x => szStr x a) (a - l.length)) (fun i => l.length - i) (0) (by simp only [u_E0, u_E1, u_M0, u_M1, w_setE0, w_setE1, w_setM0, w_setM1, reduceIte, Nat.reduceEqDiff]; exact ⟨by repeat' (first | exact trivial | refine ⟨.inr rfl, ?_⟩), by repeat' (first | exact trivial | refine ⟨rfl, ?_⟩), by first | rfl | simp [closedB, refsIn, refsInL, refsInO, dom, refsInL_nr, *], by first | rfl | simp [keepB, dom]⟩) ?_ ?_
  · simp only [List.take_zero, List.foldl_nil]; omega
  intro i hi NX hN
  unfold l_laws_szStringS_0; simp (config := { maxSteps := 2000000 }) only [bitvec_to_nat, reduceIte, Nat.reduceEqDiff, Nat.reduceAdd, Nat.reduceLeDiff, reduceCtorEq, Nat.reduceBEq, Nat.reduceLT, Nat.reduceMod, List.forall_mem_cons, srow, un_s, List.take_zero, List.foldl_nil]
  have hm := (fold_meas meas_str (l.take i) (a - l.length) (by omega) (by omega)).2.2
  have hg : i < l.length → (l.getD i default).toList.length ≤ 9223372036854775807 := fun h => hl.2 _ (getD_mem' h)
  have hn : i < l.length → (l.take (i + 1)).foldl (fun a x => szStr x a) (a - l.length) = szStr (l.getD i default) ((l.take i).foldl (fun a x => szStr x a) (a - l.length)) := fun h => fold_take h
  have hs : i < l.length → szStr (l.getD i default) ((l.take i).foldl (fun a x => szStr x a) (a - l.length)) < 0 → szS szStr l a = -1 := fun h h2 => by unfold szS; rw [e0]; exact fold_stop meas_str h (by omega) (by omega) h2
  have hd : szStr (l.getD i default) ((l.take i).foldl (fun a x => szStr x a) (a - l.length)) = if ((l.take i).foldl (fun a x => szStr x a) (a - l.length)) - ((l.getD i default).toList.length : Nat) < 0 then -1 else ((l.take i).foldl (fun a x => szStr x a) (a - l.length)) - ((l.getD i default).toList.length : Nat) := rfl
  refine ⟨fun h2 => ⟨by omega, by omega, by omega, fun h3 => by rw [hs (by omega) (by omega)], fun h3 => ⟨by omega, ?_⟩⟩, fun h2 => ?_⟩
  · have e := hn (by omega)
    rw [hd, if_neg h3] at e
    refine hN (i + 1) _ (by simp only [e, List.length_append, List.length_cons, List.length_nil, Nat.zero_add, List.map_append, List.map_cons, List.map_nil, u_E0, u_E1, u_M0, u_M1, w_setE0, w_setE1, w_setM0, w_setM1, reduceIte, Nat.reduceEqDiff]; exact ⟨by repeat' (first | exact trivial | refine ⟨.inr rfl, ?_⟩), by repeat' (first | exact trivial | refine ⟨rfl, ?_⟩), by first | rfl | simp [closedB, refsIn, refsInL, refsInO, dom, refsInL_nr, *], by first | rfl | simp [keepB, dom]⟩) ?_ ?_
    · exact ⟨by omega, by omega⟩
    · omega
  · have e : i = l.length := by omega
    subst e
    simp only [List.take_length]; unfold szS; rw [e0]
def t_szStringS : List AV → Option (Prop × AV)
  | [.sl lt 1 lx, .int .i64 b] => some ((((lx.map unS).map srow = lx)) ∧ ((0 ≤ b ∧ b ≤ 1048576) ∧ ((lx.map unS).length ≤ 9223372036854775807 ∧ ∀ y ∈ (lx.map unS), y.toList.length ≤ 9223372036854775807)), .int .i64 (szS szStr (lx.map unS) b))
  | _ => none
theorem h_szStringS : ∀ args p v, t_szStringS args = some (p, v) → p → Contract P 5 args [] v [] ∧ noref v = true ∧ No99 v := by
  intro args p v h1 h2
  unfold t_szStringS at h1
  split at h1
  · rename_i lt lx b
    cases h1
    obtain ⟨e0, HP⟩ := h2
    have := c_szStringS lt (lx.map unS) b HP.1 HP.2
    exact ⟨by simpa only [e0] using this, rfl, trivial⟩
  · cases h1
theorem c_szPKind (s : PKind) (a : Int) (ha : 0 ≤ a ∧ a ≤ 1048576) (hs : s.fitp) : Contract P 34 [.agg s.row, .int .i64 a] [] (.int .i64 (s.sz a)) [] := by
  unfold PKind.fitp at hs
  simp only [PKind.row]
  refine fn_sound (Env.nil P) hm k_laws_szPlanKind (Nat.le_of_ble_eq_true rfl) rfl ?_; unfold s_laws_szPlanKind; simp (config := { maxSteps := 2000000 }) only [bitvec_to_nat, reduceIte, Nat.reduceEqDiff, Nat.reduceAdd, Nat.reduceLeDiff, reduceCtorEq, Nat.reduceBEq, Nat.reduceLT, Nat.reduceMod, List.forall_mem_cons, tk_map, dp_map, toNat_pred, appE, rowsOf, List.take_length, List.length_cons, List.length_nil, Nat.zero_add, srow, irow, un_s, un_i, Zone.row, Zone_eta, un_Zone, Word.row, Word_eta, Own.row, Own_eta, Part.row, Part_eta, Seen.row, Seen_eta, Book.row, Book_eta, Sector.row, Sector_eta, HCraft.row, HCraft_eta, World.row, World_eta, PKind.row, PKind_eta, PPt.row, PPt_eta, Cell.row, Cell_eta, PBase.row, PBase_eta, un_Word, un_Own, un_Part, un_Seen, un_Book, un_Sector, un_HCraft, un_World, un_PKind, un_PPt, un_Cell, un_PBase]
  unfold PKind.sz
  repeat' (first | with_reducible apply And.intro | with_reducible intro _)
  all_goals first | omega | (exact hs) | (exact hs.1) | (exact hs.2.1) | (exact hs.2.2) | (exact hs.2.2.1) | (exact hs.2.2.2) | (exact hs.2.2.2.1) | (exact hs.2.2.2.2) | (exact hs.1.1) | (exact hs.1.2) | (exact hs.2.1.1) | (exact hs.2.1.2) | (unfold chk; grind) | grind
def t_szPKind : List AV → Option (Prop × AV)
  | [.agg [.str s_nm, .int .i64 s_q, .int .i64 s_sl], .int .i64 b] => some ((True) ∧ ((0 ≤ b ∧ b ≤ 1048576) ∧ (PKind.fitp (PKind.mk s_nm s_q s_sl))), .int .i64 (PKind.sz (PKind.mk s_nm s_q s_sl) b))
  | _ => none
theorem h_szPKind : ∀ args p v, t_szPKind args = some (p, v) → p → Contract P 34 args [] v [] ∧ noref v = true ∧ No99 v := by
  intro args p v h1 h2
  unfold t_szPKind at h1
  split at h1
  · rename_i s_nm s_q s_sl b
    cases h1
    obtain ⟨_, HP⟩ := h2
    have := c_szPKind (PKind.mk s_nm s_q s_sl) b HP.1 HP.2
    exact ⟨by simpa only [PKind.row] using this, rfl, trivial⟩
  · cases h1
theorem c_szPKindS (t : Nat) (l : List PKind) (a : Int) (ha : 0 ≤ a ∧ a ≤ 1048576) (hl : l.length ≤ 9223372036854775807 ∧ ∀ y ∈ l, y.fitp) : Contract P 17 [.sl t 3 (l.map PKind.row), .int .i64 a] [] (.int .i64 (szS PKind.sz l a)) [] := by
  refine fn_sound ((Env.nil P).add 34 t_szPKind h_szPKind) hm k_laws_szPlanKindS (Nat.le_of_ble_eq_true rfl) rfl ?_; unfold s_laws_szPlanKindS; simp (config := { maxSteps := 2000000 }) only [bitvec_to_nat, reduceIte, Nat.reduceEqDiff, Nat.reduceAdd, Nat.reduceLeDiff, reduceCtorEq, Nat.reduceBEq, Nat.reduceLT, Nat.reduceMod, List.forall_mem_cons, t_szPKind, tk_map, dp_map, toNat_pred, appE, rowsOf, List.take_length, List.length_cons, List.length_nil, Nat.zero_add, srow, irow, un_s, un_i, Zone.row, Zone_eta, un_Zone, Word.row, Word_eta, Own.row, Own_eta, Part.row, Part_eta, Seen.row, Seen_eta, Book.row, Book_eta, Sector.row, Sector_eta, HCraft.row, HCraft_eta, World.row, World_eta, PKind.row, PKind_eta, PPt.row, PPt_eta, Cell.row, Cell_eta, PBase.row, PBase_eta, un_Word, un_Own, un_Part, un_Seen, un_Book, un_Sector, un_HCraft, un_World, un_PKind, un_PPt, un_Cell, un_PBase, List.take_zero, List.foldl_nil]
  have hz : szOf a l.length = if a - l.length < 0 then -1 else a - l.length := rfl
  refine ⟨by omega, fun h1 => ?_, fun h1 => ?_⟩
  · unfold szS
    rw [(fold_meas meas_PKind l _ (by omega) (by omega)).2.1 (by omega)]
  have e0 : szOf a l.length = a - l.length := if_neg h1
  refine loop_st (fun i : Nat => [(1, .int .i64 ((l.take i).foldl (fun a x => x.sz a) (a - l.length))), (5, .int .i64 i)]) (fun _ => []) (fun i => i ≤ l.length ∧ 0 ≤ (l.take i).foldl (fun a x => x.sz a) (a - l.length)) (fun i => l.length - i) (0) (by simp only [u_E0, u_E1, u_M0, u_M1, w_setE0, w_setE1, w_setM0, w_setM1, reduceIte, Nat.reduceEqDiff]; exact ⟨by repeat' (first | exact trivial | refine ⟨.inr rfl, ?_⟩), by repeat' (first | exact trivial | refine ⟨rfl, ?_⟩), by first | rfl | simp [closedB, refsIn, refsInL, refsInO, dom, refsInL_nr, *], by first | rfl | simp [keepB, dom]⟩) ?_ ?_
  · simp only [List.take_zero, List.foldl_nil]; omega
  intro i hi NX hN
  have hm := (fold_meas meas_PKind (l.take i) (a - l.length) (by omega) (by omega)).2.2
  have hg : i < l.length → (l.getD i default).fitp := fun h => hl.2 _ (getD_mem' h)
  have hn : i < l.length → (l.take (i + 1)).foldl (fun a x => x.sz a) (a - l.length) = (l.getD i default).sz ((l.take i).foldl (fun a x => x.sz a) (a - l.length)) := fun h => fold_take (f := PKind.sz) h
  have hs : i < l.length → (l.getD i default).sz ((l.take i).foldl (fun a x => x.sz a) (a - l.length)) < 0 → szS PKind.sz l a = -1 := fun h h2 => by unfold szS; rw [e0]; exact fold_stop meas_PKind h (by omega) (by omega) h2
  unfold l_laws_szPlanKindS_0; simp (config := { maxSteps := 2000000 }) only [bitvec_to_nat, reduceIte, Nat.reduceEqDiff, Nat.reduceAdd, Nat.reduceLeDiff, reduceCtorEq, Nat.reduceBEq, Nat.reduceLT, Nat.reduceMod, List.forall_mem_cons, t_szPKind, tk_map, dp_map, toNat_pred, appE, rowsOf, List.take_length, List.length_cons, List.length_nil, Nat.zero_add, srow, irow, un_s, un_i, Zone.row, Zone_eta, un_Zone, Word.row, Word_eta, Own.row, Own_eta, Part.row, Part_eta, Seen.row, Seen_eta, Book.row, Book_eta, Sector.row, Sector_eta, HCraft.row, HCraft_eta, World.row, World_eta, PKind.row, PKind_eta, PPt.row, PPt_eta, Cell.row, Cell_eta, PBase.row, PBase_eta, un_Word, un_Own, un_Part, un_Seen, un_Book, un_Sector, un_HCraft, un_World, un_PKind, un_PPt, un_Cell, un_PBase, List.take_zero, List.foldl_nil]
  refine ⟨fun h2 => ⟨by omega, by omega, ⟨⟨by omega, by omega⟩, hg (by omega)⟩, fun h3 => by rw [hs (by omega) h3], fun h3 => ⟨by omega, ?_⟩⟩, fun h2 => ?_⟩
  · have e := hn (by omega)
    refine hN (i + 1) _ (by simp only [e, List.length_append, List.length_cons, List.length_nil, Nat.zero_add, List.map_append, List.map_cons, List.map_nil, u_E0, u_E1, u_M0, u_M1, w_setE0, w_setE1, w_setM0, w_setM1, reduceIte, Nat.reduceEqDiff]; exact ⟨by repeat' (first | exact trivial | refine ⟨.inr rfl, ?_⟩), by repeat' (first | exact trivial | refine ⟨rfl, ?_⟩), by first | rfl | simp [closedB, refsIn, refsInL, refsInO, dom, refsInL_nr, *], by first | rfl | simp [keepB, dom]⟩) ?_ ?_
    · exact ⟨by omega, by rw [e]; omega⟩
    · omega
  · have e : i = l.length := by omega
    subst e
    simp only [List.take_length]; unfold szS; rw [e0]
def t_szPKindS : List AV → Option (Prop × AV)
  | [.sl lt 3 lx, .int .i64 b] => some ((((lx.map unPKind).map PKind.row = lx)) ∧ ((0 ≤ b ∧ b ≤ 1048576) ∧ ((lx.map unPKind).length ≤ 9223372036854775807 ∧ ∀ y ∈ (lx.map unPKind), PKind.fitp y)), .int .i64 (szS PKind.sz (lx.map unPKind) b))
  | _ => none
theorem h_szPKindS : ∀ args p v, t_szPKindS args = some (p, v) → p → Contract P 17 args [] v [] ∧ noref v = true ∧ No99 v := by
  intro args p v h1 h2
  unfold t_szPKindS at h1
  split at h1
  · rename_i lt lx b
    cases h1
    obtain ⟨e0, HP⟩ := h2
    have := c_szPKindS lt (lx.map unPKind) b HP.1 HP.2
    exact ⟨by simpa only [e0] using this, rfl, trivial⟩
  · cases h1
theorem c_szPPt (s : PPt) (a : Int) (ha : 0 ≤ a ∧ a ≤ 1048576) (hs : s.fitp) : Contract P 35 [.agg s.row, .int .i64 a] [] (.int .i64 (s.sz a)) [] := by
  unfold PPt.fitp at hs
  simp only [PPt.row]
  refine fn_sound (Env.nil P) hm k_laws_szPlanPoint (Nat.le_of_ble_eq_true rfl) rfl ?_; unfold s_laws_szPlanPoint; simp (config := { maxSteps := 2000000 }) only [bitvec_to_nat, reduceIte, Nat.reduceEqDiff, Nat.reduceAdd, Nat.reduceLeDiff, reduceCtorEq, Nat.reduceBEq, Nat.reduceLT, Nat.reduceMod, List.forall_mem_cons, tk_map, dp_map, toNat_pred, appE, rowsOf, List.take_length, List.length_cons, List.length_nil, Nat.zero_add, srow, irow, un_s, un_i, Zone.row, Zone_eta, un_Zone, Word.row, Word_eta, Own.row, Own_eta, Part.row, Part_eta, Seen.row, Seen_eta, Book.row, Book_eta, Sector.row, Sector_eta, HCraft.row, HCraft_eta, World.row, World_eta, PKind.row, PKind_eta, PPt.row, PPt_eta, Cell.row, Cell_eta, PBase.row, PBase_eta, un_Word, un_Own, un_Part, un_Seen, un_Book, un_Sector, un_HCraft, un_World, un_PKind, un_PPt, un_Cell, un_PBase]
  unfold PPt.sz
  repeat' (first | with_reducible apply And.intro | with_reducible intro _)
  all_goals first | omega | (exact hs) | (exact hs.1) | (exact hs.2.1) | (exact hs.2.2) | (exact hs.2.2.1) | (exact hs.2.2.2) | (exact hs.2.2.2.1) | (exact hs.2.2.2.2) | (exact hs.1.1) | (exact hs.1.2) | (exact hs.2.1.1) | (exact hs.2.1.2) | (unfold chk; grind) | grind
def t_szPPt : List AV → Option (Prop × AV)
  | [.agg [.str s_nm, .int .i64 s_x, .int .i64 s_y], .int .i64 b] => some ((True) ∧ ((0 ≤ b ∧ b ≤ 1048576) ∧ (PPt.fitp (PPt.mk s_nm s_x s_y))), .int .i64 (PPt.sz (PPt.mk s_nm s_x s_y) b))
  | _ => none
theorem h_szPPt : ∀ args p v, t_szPPt args = some (p, v) → p → Contract P 35 args [] v [] ∧ noref v = true ∧ No99 v := by
  intro args p v h1 h2
  unfold t_szPPt at h1
  split at h1
  · rename_i s_nm s_x s_y b
    cases h1
    obtain ⟨_, HP⟩ := h2
    have := c_szPPt (PPt.mk s_nm s_x s_y) b HP.1 HP.2
    exact ⟨by simpa only [PPt.row] using this, rfl, trivial⟩
  · cases h1
theorem c_szPPtS (t : Nat) (l : List PPt) (a : Int) (ha : 0 ≤ a ∧ a ≤ 1048576) (hl : l.length ≤ 9223372036854775807 ∧ ∀ y ∈ l, y.fitp) : Contract P 18 [.sl t 3 (l.map PPt.row), .int .i64 a] [] (.int .i64 (szS PPt.sz l a)) [] := by
  refine fn_sound ((Env.nil P).add 35 t_szPPt h_szPPt) hm k_laws_szPlanPointS (Nat.le_of_ble_eq_true rfl) rfl ?_; unfold s_laws_szPlanPointS; simp (config := { maxSteps := 2000000 }) only [bitvec_to_nat, reduceIte, Nat.reduceEqDiff, Nat.reduceAdd, Nat.reduceLeDiff, reduceCtorEq, Nat.reduceBEq, Nat.reduceLT, Nat.reduceMod, List.forall_mem_cons, t_szPPt, tk_map, dp_map, toNat_pred, appE, rowsOf, List.take_length, List.length_cons, List.length_nil, Nat.zero_add, srow, irow, un_s, un_i, Zone.row, Zone_eta, un_Zone, Word.row, Word_eta, Own.row, Own_eta, Part.row, Part_eta, Seen.row, Seen_eta, Book.row, Book_eta, Sector.row, Sector_eta, HCraft.row, HCraft_eta, World.row, World_eta, PKind.row, PKind_eta, PPt.row, PPt_eta, Cell.row, Cell_eta, PBase.row, PBase_eta, un_Word, un_Own, un_Part, un_Seen, un_Book, un_Sector, un_HCraft, un_World, un_PKind, un_PPt, un_Cell, un_PBase, List.take_zero, List.foldl_nil]
  have hz : szOf a l.length = if a - l.length < 0 then -1 else a - l.length := rfl
  refine ⟨by omega, fun h1 => ?_, fun h1 => ?_⟩
  · unfold szS
    rw [(fold_meas meas_PPt l _ (by omega) (by omega)).2.1 (by omega)]
  have e0 : szOf a l.length = a - l.length := if_neg h1
  refine loop_st (fun i : Nat => [(1, .int .i64 ((l.take i).foldl (fun a x => x.sz a) (a - l.length))), (5, .int .i64 i)]) (fun _ => []) (fun i => i ≤ l.length ∧ 0 ≤ (l.take i).foldl (fun a x => x.sz a) (a - l.length)) (fun i => l.length - i) (0) (by simp only [u_E0, u_E1, u_M0, u_M1, w_setE0, w_setE1, w_setM0, w_setM1, reduceIte, Nat.reduceEqDiff]; exact ⟨by repeat' (first | exact trivial | refine ⟨.inr rfl, ?_⟩), by repeat' (first | exact trivial | refine ⟨rfl, ?_⟩), by first | rfl | simp [closedB, refsIn, refsInL, refsInO, dom, refsInL_nr, *], by first | rfl | simp [keepB, dom]⟩) ?_ ?_
  · simp only [List.take_zero, List.foldl_nil]; omega
  intro i hi NX hN
  have hm := (fold_meas meas_PPt (l.take i) (a - l.length) (by omega) (by omega)).2.2
  have hg : i < l.length → (l.getD i default).fitp := fun h => hl.2 _ (getD_mem' h)
  have hn : i < l.length → (l.take (i + 1)).foldl (fun a x => x.sz a) (a - l.length) = (l.getD i default).sz ((l.take i).foldl (fun a x => x.sz a) (a - l.length)) := fun h => fold_take (f := PPt.sz) h
  have hs : i < l.length → (l.getD i default).sz ((l.take i).foldl (fun a x => x.sz a) (a - l.length)) < 0 → szS PPt.sz l a = -1 := fun h h2 => by unfold szS; rw [e0]; exact fold_stop meas_PPt h (by omega) (by omega) h2
  unfold l_laws_szPlanPointS_0; simp (config := { maxSteps := 2000000 }) only [bitvec_to_nat, reduceIte, Nat.reduceEqDiff, Nat.reduceAdd, Nat.reduceLeDiff, reduceCtorEq, Nat.reduceBEq, Nat.reduceLT, Nat.reduceMod, List.forall_mem_cons, t_szPPt, tk_map, dp_map, toNat_pred, appE, rowsOf, List.take_length, List.length_cons, List.length_nil, Nat.zero_add, srow, irow, un_s, un_i, Zone.row, Zone_eta, un_Zone, Word.row, Word_eta, Own.row, Own_eta, Part.row, Part_eta, Seen.row, Seen_eta, Book.row, Book_eta, Sector.row, Sector_eta, HCraft.row, HCraft_eta, World.row, World_eta, PKind.row, PKind_eta, PPt.row, PPt_eta, Cell.row, Cell_eta, PBase.row, PBase_eta, un_Word, un_Own, un_Part, un_Seen, un_Book, un_Sector, un_HCraft, un_World, un_PKind, un_PPt, un_Cell, un_PBase, List.take_zero, List.foldl_nil]
  refine ⟨fun h2 => ⟨by omega, by omega, ⟨⟨by omega, by omega⟩, hg (by omega)⟩, fun h3 => by rw [hs (by omega) h3], fun h3 => ⟨by omega, ?_⟩⟩, fun h2 => ?_⟩
  · have e := hn (by omega)
    refine hN (i + 1) _ (by simp only [e, List.length_append, List.length_cons, List.length_nil, Nat.zero_add, List.map_append, List.map_cons, List.map_nil, u_E0, u_E1, u_M0, u_M1, w_setE0, w_setE1, w_setM0, w_setM1, reduceIte, Nat.reduceEqDiff]; exact ⟨by repeat' (first | exact trivial | refine ⟨.inr rfl, ?_⟩), by repeat' (first | exact trivial | refine ⟨rfl, ?_⟩), by first | rfl | simp [closedB, refsIn, refsInL, refsInO, dom, refsInL_nr, *], by first | rfl | simp [keepB, dom]⟩) ?_ ?_
    · exact ⟨by omega, by rw [e]; omega⟩
    · omega
  · have e : i = l.length := by omega
    subst e
    simp only [List.take_length]; unfold szS; rw [e0]
def t_szPPtS : List AV → Option (Prop × AV)
  | [.sl lt 3 lx, .int .i64 b] => some ((((lx.map unPPt).map PPt.row = lx)) ∧ ((0 ≤ b ∧ b ≤ 1048576) ∧ ((lx.map unPPt).length ≤ 9223372036854775807 ∧ ∀ y ∈ (lx.map unPPt), PPt.fitp y)), .int .i64 (szS PPt.sz (lx.map unPPt) b))
  | _ => none
theorem h_szPPtS : ∀ args p v, t_szPPtS args = some (p, v) → p → Contract P 18 args [] v [] ∧ noref v = true ∧ No99 v := by
  intro args p v h1 h2
  unfold t_szPPtS at h1
  split at h1
  · rename_i lt lx b
    cases h1
    obtain ⟨e0, HP⟩ := h2
    have := c_szPPtS lt (lx.map unPPt) b HP.1 HP.2
    exact ⟨by simpa only [e0] using this, rfl, trivial⟩
  · cases h1
theorem c_szPBase (s : PBase) (a : Int) (ha : 0 ≤ a ∧ a ≤ 1048576) (hs : s.fitp) : Contract P 4 [.agg (s.row 1), .int .i64 a] [] (.int .i64 (s.sz a)) [] := by
  unfold PBase.fitp at hs
  simp only [PBase.row]
  refine fn_sound (((Env.nil P).add 17 t_szPKindS h_szPKindS).add 18 t_szPPtS h_szPPtS) hm k_laws_szPlanBase (Nat.le_of_ble_eq_true rfl) rfl ?_; unfold s_laws_szPlanBase; simp (config := { maxSteps := 2000000 }) only [bitvec_to_nat, reduceIte, Nat.reduceEqDiff, Nat.reduceAdd, Nat.reduceLeDiff, reduceCtorEq, Nat.reduceBEq, Nat.reduceLT, Nat.reduceMod, List.forall_mem_cons, t_szPKindS, t_szPPtS, tk_map, dp_map, toNat_pred, appE, rowsOf, List.take_length, List.length_cons, List.length_nil, Nat.zero_add, srow, irow, un_s, un_i, Zone.row, Zone_eta, un_Zone, Word.row, Word_eta, Own.row, Own_eta, Part.row, Part_eta, Seen.row, Seen_eta, Book.row, Book_eta, Sector.row, Sector_eta, HCraft.row, HCraft_eta, World.row, World_eta, PKind.row, PKind_eta, PPt.row, PPt_eta, Cell.row, Cell_eta, PBase.row, PBase_eta, un_Word, un_Own, un_Part, un_Seen, un_Book, un_Sector, un_HCraft, un_World, un_PKind, un_PPt, un_Cell, un_PBase]
  unfold PBase.sz
  have qks : (szS PKind.sz s.ks a) ≤ max a (-1) := (meas_szS meas_PKind s.ks a (by omega)).2.2
  have qps : (szS PPt.sz s.ps (szS PKind.sz s.ks a)) ≤ max (szS PKind.sz s.ks a) (-1) := (meas_szS meas_PPt s.ps (szS PKind.sz s.ks a) (by omega)).2.2
  repeat' (first | with_reducible apply And.intro | with_reducible intro _)
  all_goals first | omega | (exact hs) | (exact hs.1) | (exact hs.2.1) | (exact hs.2.2) | (exact hs.2.2.1) | (exact hs.2.2.2) | (exact hs.2.2.2.1) | (exact hs.2.2.2.2) | (exact hs.1.1) | (exact hs.1.2) | (exact hs.2.1.1) | (exact hs.2.1.2) | (unfold chk; grind) | grind
def t_szPBase : List AV → Option (Prop × AV)
  | [.agg [.sl 1 3 s_ks, .sl 1 3 s_ps], .int .i64 b] => some ((((s_ks.map unPKind).map PKind.row = s_ks) ∧ ((s_ps.map unPPt).map PPt.row = s_ps)) ∧ ((0 ≤ b ∧ b ≤ 1048576) ∧ (PBase.fitp (PBase.mk (s_ks.map unPKind) (s_ps.map unPPt)))), .int .i64 (PBase.sz (PBase.mk (s_ks.map unPKind) (s_ps.map unPPt)) b))
  | _ => none
theorem h_szPBase : ∀ args p v, t_szPBase args = some (p, v) → p → Contract P 4 args [] v [] ∧ noref v = true ∧ No99 v := by
  intro args p v h1 h2
  unfold t_szPBase at h1
  split at h1
  · rename_i s_ks s_ps b
    cases h1
    obtain ⟨⟨e0, e1⟩, HP⟩ := h2
    have := c_szPBase (PBase.mk (s_ks.map unPKind) (s_ps.map unPPt)) b HP.1 HP.2
    exact ⟨by simpa only [e0, e1, PBase.row] using this, rfl, trivial⟩
  · cases h1
theorem set_ByteArray {lst : List ByteArray} {idx : Nat} {v : ByteArray} : (lst.map srow).set idx (setSeg ((lst.map srow).getD idx []) 0 [.str v]) = (lst.set idx v).map srow :=
  set_rows (α := ByteArray) (f := srow) (fun s => v) fun x => by simp [srow, setSeg]
def to_ByteArray (a : List ByteArray) (i : Nat) : List ByteArray := a.take i ++ List.replicate (a.length - i) ⟨#[]⟩
theorem to_ByteArray_st {a : List ByteArray} {i : Nat} (h : i < a.length) : (to_ByteArray a i).set i (a.getD i default) = to_ByteArray a (i + 1) := by
  refine List.ext_getElem (by simp [to_ByteArray]; omega) fun j h1 h2 => ?_
  by_cases e : j = i
  · subst e
    simp [to_ByteArray, List.getElem_append, h]
    intro h9; omega
  · simp only [List.getElem_set_ne (Ne.symm e)]
    simp only [to_ByteArray, List.getElem_append, List.length_take, List.getElem_take, List.getElem_replicate]
    split <;> split <;> first | rfl | omega
theorem c_toByteArrayS (t : Nat) (a : List ByteArray) (ha : a.length ≤ 1048576) : Contract P 8 [.sl t 1 (a.map srow)] [] (.sl 0 1 (a.map srow)) [] := by
  refine fn_sound (Env.nil P) hm k_laws_toStringS (Nat.le_of_ble_eq_true rfl) rfl ?_; unfold s_laws_toStringS; simp (config := { maxSteps := 2000000 }) only [bitvec_to_nat, reduceIte, Nat.reduceEqDiff, Nat.reduceAdd, Nat.reduceLeDiff, reduceCtorEq, Nat.reduceBEq, Nat.reduceLT, Nat.reduceMod, List.forall_mem_cons, tk_map, dp_map, toNat_pred, appE, rowsOf, List.take_length, List.length_cons, List.length_nil, Nat.zero_add, srow, irow, un_s, un_i, Zone.row, Zone_eta, un_Zone, Word.row, Word_eta, Own.row, Own_eta, Part.row, Part_eta, Seen.row, Seen_eta, Book.row, Book_eta, Sector.row, Sector_eta, HCraft.row, HCraft_eta, World.row, World_eta, PKind.row, PKind_eta, PPt.row, PPt_eta, Cell.row, Cell_eta, PBase.row, PBase_eta, un_Word, un_Own, un_Part, un_Seen, un_Book, un_Sector, un_HCraft, un_World, un_PKind, un_PPt, un_Cell, un_PBase, set_ByteArray, Nat.sub_zero]
  have m0 : List.replicate a.length [.str ⟨#[]⟩] = (to_ByteArray a 0).map srow := by simp [to_ByteArray, srow]
  refine ⟨by omega, ?_⟩
  refine loop_st (fun i : Nat => [(4, .int .i64 i)]) (fun i => [(107, .arr 9 0 1 ((to_ByteArray a i).map srow))]) (fun i => i ≤ a.length) (fun i => a.length - i) 0 (by simp only [u_E0, u_E1, u_M0, u_M1, w_setE0, w_setE1, w_setM0, w_setM1, reduceIte, Nat.reduceEqDiff]; exact ⟨by repeat' (first | exact trivial | refine ⟨.inr rfl, ?_⟩), ⟨congrArg (fun g => some (AObj.arr 9 0 1 g)) m0, trivial⟩, rfl, rfl⟩) (Nat.zero_le _) ?_
  intro i hi NX hN
  skip
  unfold l_laws_toStringS_0; simp (config := { maxSteps := 2000000 }) only [bitvec_to_nat, reduceIte, Nat.reduceEqDiff, Nat.reduceAdd, Nat.reduceLeDiff, reduceCtorEq, Nat.reduceBEq, Nat.reduceLT, Nat.reduceMod, List.forall_mem_cons, tk_map, dp_map, toNat_pred, appE, rowsOf, List.take_length, List.length_cons, List.length_nil, Nat.zero_add, srow, irow, un_s, un_i, Zone.row, Zone_eta, un_Zone, Word.row, Word_eta, Own.row, Own_eta, Part.row, Part_eta, Seen.row, Seen_eta, Book.row, Book_eta, Sector.row, Sector_eta, HCraft.row, HCraft_eta, World.row, World_eta, PKind.row, PKind_eta, PPt.row, PPt_eta, Cell.row, Cell_eta, PBase.row, PBase_eta, un_Word, un_Own, un_Part, un_Seen, un_Book, un_Sector, un_HCraft, un_World, un_PKind, un_PPt, un_Cell, un_PBase, set_ByteArray, Nat.sub_zero]
  refine ⟨fun h => ?_, fun h => ?_⟩
  · repeat' (first | with_reducible apply And.intro | with_reducible intro _)
    all_goals first
      | omega
      | rfl
      | exact hs2 (by omega)
      | (have e := to_ByteArray_st (a := a) (i := i) (by omega)
         try simp only [srow] at *
         refine hN (i + 1) _ ⟨by repeat' (first | exact trivial | refine ⟨.inr rfl, ?_⟩), ⟨congrArg (fun g => some (AObj.arr 9 0 1 (List.map srow g))) e, trivial⟩, rfl, rfl⟩ ?_ ?_ <;> omega)
  · have e : i = a.length := by omega
    subst e
    simp only [to_ByteArray, List.take_length, Nat.sub_self, List.replicate_zero, List.append_nil]
    try rw [List.take_of_length_le (by simp)]
theorem c_eqByteArrayS (t t' : Nat) (p q : List ByteArray) (hp : p.length ≤ 4611686018427387904) : Contract P 12 [.sl t 1 (p.map srow), .sl t' 1 (q.map srow)] [] (.bool (decide (p = q))) [] := by
  refine fn_sound (Env.nil P) hm k_laws_eqStringS (Nat.le_of_ble_eq_true rfl) rfl ?_; unfold s_laws_eqStringS; simp (config := { maxSteps := 2000000 }) only [bitvec_to_nat, reduceIte, Nat.reduceEqDiff, Nat.reduceAdd, Nat.reduceLeDiff, reduceCtorEq, Nat.reduceBEq, Nat.reduceLT, Nat.reduceMod, List.forall_mem_cons, tk_map, dp_map, toNat_pred, appE, rowsOf, List.take_length, List.length_cons, List.length_nil, Nat.zero_add, srow, irow, un_s, un_i, Zone.row, Zone_eta, un_Zone, Word.row, Word_eta, Own.row, Own_eta, Part.row, Part_eta, Seen.row, Seen_eta, Book.row, Book_eta, Sector.row, Sector_eta, HCraft.row, HCraft_eta, World.row, World_eta, PKind.row, PKind_eta, PPt.row, PPt_eta, Cell.row, Cell_eta, PBase.row, PBase_eta, un_Word, un_Own, un_Part, un_Seen, un_Book, un_Sector, un_HCraft, un_World, un_PKind, un_PPt, un_Cell, un_PBase]
  refine ⟨fun h1 h => h1 (by rw [h]), fun h1 => ?_⟩
  refine loop_st (fun i : Nat => [(5, .int .i64 i)]) (fun _ => []) (fun i => i ≤ p.length ∧ ∀ j, j < i → p.getD j default = q.getD j default) (fun i => p.length - i) (0) (by simp only [u_E0, u_E1, u_M0, u_M1, w_setE0, w_setE1, w_setM0, w_setM1, reduceIte, Nat.reduceEqDiff]; exact ⟨by repeat' (first | exact trivial | refine ⟨.inr rfl, ?_⟩), by repeat' (first | exact trivial | refine ⟨rfl, ?_⟩), by first | rfl | simp [closedB, refsIn, refsInL, refsInO, dom, refsInL_nr, *], by first | rfl | simp [keepB, dom]⟩) ?_ ?_
  · exact ⟨Nat.zero_le _, by intro j hj; omega⟩
  intro i hi NX hN
  unfold l_laws_eqStringS_0; simp (config := { maxSteps := 2000000 }) only [bitvec_to_nat, reduceIte, Nat.reduceEqDiff, Nat.reduceAdd, Nat.reduceLeDiff, reduceCtorEq, Nat.reduceBEq, Nat.reduceLT, Nat.reduceMod, List.forall_mem_cons, tk_map, dp_map, toNat_pred, appE, rowsOf, List.take_length, List.length_cons, List.length_nil, Nat.zero_add, srow, irow, un_s, un_i, Zone.row, Zone_eta, un_Zone, Word.row, Word_eta, Own.row, Own_eta, Part.row, Part_eta, Seen.row, Seen_eta, Book.row, Book_eta, Sector.row, Sector_eta, HCraft.row, HCraft_eta, World.row, World_eta, PKind.row, PKind_eta, PPt.row, PPt_eta, Cell.row, Cell_eta, PBase.row, PBase_eta, un_Word, un_Own, un_Part, un_Seen, un_Book, un_Sector, un_HCraft, un_World, un_PKind, un_PPt, un_Cell, un_PBase]
  skip
  repeat' (first | with_reducible apply And.intro | with_reducible intro _)
  all_goals first
    | omega
    | (refine hN (i + 1) _ (by simp only [u_E0, u_E1, u_M0, u_M1, w_setE0, w_setE1, w_setM0, w_setM1, reduceIte, Nat.reduceEqDiff]; exact ⟨by repeat' (first | exact trivial | refine ⟨.inr rfl, ?_⟩), by repeat' (first | exact trivial | refine ⟨rfl, ?_⟩), by first | rfl | simp [closedB, refsIn, refsInL, refsInO, dom, refsInL_nr, *], by first | rfl | simp [keepB, dom]⟩) ?_ ?_
       · exact ⟨by omega, all_snoc hi.2 (by with_reducible assumption)⟩
       · omega)
    | (intro h; subst h; exact absurd rfl (by with_reducible assumption))
    | (exact ext_of (by omega) fun j hj => hi.2 j (by omega))
    | grind
def t_eqStringS : List AV → Option (Prop × AV)
  | [.sl ct 1 cx, .sl dt 1 dx] => some ((((cx.map unS).map srow = cx) ∧ ((dx.map unS).map srow = dx)) ∧ ((cx.map unS).length ≤ 4611686018427387904), .bool (decide ((cx.map unS) = (dx.map unS))))
  | _ => none
theorem h_eqStringS : ∀ args p v, t_eqStringS args = some (p, v) → p → Contract P 12 args [] v [] ∧ noref v = true ∧ No99 v := by
  intro args p v h1 h2
  unfold t_eqStringS at h1
  split at h1
  · rename_i ct cx dt dx
    cases h1
    obtain ⟨⟨e0, e1⟩, HP⟩ := h2
    have := c_eqByteArrayS ct dt (cx.map unS) (dx.map unS) HP
    exact ⟨by simpa only [e0, e1] using this, rfl, trivial⟩
  · cases h1
theorem c_toByteArraySO (t : Nat) (a : List ByteArray) (ha : a.length ≤ 1048576) : Contract P 8 [.sl t 1 (a.map srow)] [] (.own 107 0 0 a.length) [(107, .arr 9 0 1 (a.map srow))] := by
  have tkA : List.take a.length (a.map srow) = a.map srow := List.take_of_length_le (by simp)
  refine fn_sound (Env.nil P) hm kO_laws_toStringS (Nat.le_of_ble_eq_true rfl) rfl ?_; unfold sO_laws_toStringS; simp (config := { maxSteps := 2000000 }) only [bitvec_to_nat, reduceIte, Nat.reduceEqDiff, Nat.reduceAdd, Nat.reduceLeDiff, reduceCtorEq, Nat.reduceBEq, Nat.reduceLT, Nat.reduceMod, List.forall_mem_cons, retG_ret, retQ_eq, retQ_eqN, retOk, keepB, re_tupl, orr_t, tk_map, dp_map, toNat_pred, appE, rowsOf, List.take_length, List.length_cons, List.length_nil, Nat.zero_add, srow, irow, un_s, un_i, Zone.row, Zone_eta, un_Zone, Word.row, Word_eta, Own.row, Own_eta, Part.row, Part_eta, Seen.row, Seen_eta, Book.row, Book_eta, Sector.row, Sector_eta, HCraft.row, HCraft_eta, World.row, World_eta, PKind.row, PKind_eta, PPt.row, PPt_eta, Cell.row, Cell_eta, PBase.row, PBase_eta, un_Word, un_Own, un_Part, un_Seen, un_Book, un_Sector, un_HCraft, un_World, un_PKind, un_PPt, un_Cell, un_PBase, set_ByteArray, Nat.sub_zero]
  have m0 : List.replicate a.length [.str ⟨#[]⟩] = (to_ByteArray a 0).map srow := by simp [to_ByteArray, srow]
  refine ⟨by omega, ?_⟩
  refine loop_st (fun i : Nat => [(4, .int .i64 i)]) (fun i => [(107, .arr 9 0 1 ((to_ByteArray a i).map srow))]) (fun i => i ≤ a.length) (fun i => a.length - i) 0 (by simp only [u_E0, u_E1, u_M0, u_M1, w_setE0, w_setE1, w_setM0, w_setM1, reduceIte, Nat.reduceEqDiff]; exact ⟨by repeat' (first | exact trivial | refine ⟨.inr rfl, ?_⟩), ⟨congrArg (fun g => some (AObj.arr 9 0 1 g)) m0, trivial⟩, rfl, rfl⟩) (Nat.zero_le _) ?_
  intro i hi NX hN
  unfold lO_laws_toStringS_0; simp (config := { maxSteps := 2000000 }) only [bitvec_to_nat, reduceIte, Nat.reduceEqDiff, Nat.reduceAdd, Nat.reduceLeDiff, reduceCtorEq, Nat.reduceBEq, Nat.reduceLT, Nat.reduceMod, List.forall_mem_cons, retG_ret, retQ_eq, retQ_eqN, retOk, keepB, re_tupl, orr_t, tk_map, dp_map, toNat_pred, appE, rowsOf, List.take_length, List.length_cons, List.length_nil, Nat.zero_add, srow, irow, un_s, un_i, Zone.row, Zone_eta, un_Zone, Word.row, Word_eta, Own.row, Own_eta, Part.row, Part_eta, Seen.row, Seen_eta, Book.row, Book_eta, Sector.row, Sector_eta, HCraft.row, HCraft_eta, World.row, World_eta, PKind.row, PKind_eta, PPt.row, PPt_eta, Cell.row, Cell_eta, PBase.row, PBase_eta, un_Word, un_Own, un_Part, un_Seen, un_Book, un_Sector, un_HCraft, un_World, un_PKind, un_PPt, un_Cell, un_PBase, set_ByteArray, Nat.sub_zero]
  refine ⟨fun h => ?_, fun h => ?_⟩
  · repeat' (first | with_reducible apply And.intro | with_reducible intro _)
    all_goals first
      | omega
      | rfl
      | (have e := to_ByteArray_st (a := a) (i := i) (by omega)
         try simp only [srow] at *
         refine hN (i + 1) _ ⟨by repeat' (first | exact trivial | refine ⟨.inr rfl, ?_⟩), ⟨congrArg (fun g => some (AObj.arr 9 0 1 (List.map srow g))) e, trivial⟩, rfl, rfl⟩ ?_ ?_ <;> omega)
  · have e : i = a.length := by omega
    subst e
    simp only [to_ByteArray, List.take_length, Nat.sub_self, List.replicate_zero, List.append_nil]
    exact ⟨trivial, rfl, rfl⟩
theorem c_toPKind (s : PKind) : Contract P 43 [.agg (s.row)] [] (.agg (s.row)) [] := by
  simp only [PKind.row]
  refine fn_sound (Env.nil P) hm k_laws_toPlanKind (Nat.le_of_ble_eq_true rfl) rfl ?_; unfold s_laws_toPlanKind; simp (config := { maxSteps := 2000000 }) only [bitvec_to_nat, reduceIte, Nat.reduceEqDiff, Nat.reduceAdd, Nat.reduceLeDiff, reduceCtorEq, Nat.reduceBEq, Nat.reduceLT, Nat.reduceMod, List.forall_mem_cons, tk_map, dp_map, toNat_pred, appE, rowsOf, List.take_length, List.length_cons, List.length_nil, Nat.zero_add, srow, irow, un_s, un_i, Zone.row, Zone_eta, un_Zone, Word.row, Word_eta, Own.row, Own_eta, Part.row, Part_eta, Seen.row, Seen_eta, Book.row, Book_eta, Sector.row, Sector_eta, HCraft.row, HCraft_eta, World.row, World_eta, PKind.row, PKind_eta, PPt.row, PPt_eta, Cell.row, Cell_eta, PBase.row, PBase_eta, un_Word, un_Own, un_Part, un_Seen, un_Book, un_Sector, un_HCraft, un_World, un_PKind, un_PPt, un_Cell, un_PBase]
  all_goals trivial
def t_toPKind : List AV → Option (Prop × AV)
  | [.agg [.str s_nm, .int .i64 s_q, .int .i64 s_sl]] => some ((True) ∧ (True), .agg (PKind.row (PKind.mk s_nm s_q s_sl)))
  | _ => none
theorem h_toPKind : ∀ args p v, t_toPKind args = some (p, v) → p → Contract P 43 args [] v [] ∧ noref v = true ∧ No99 v := by
  intro args p v h1 h2
  unfold t_toPKind at h1
  split at h1
  · rename_i s_nm s_q s_sl
    cases h1
    obtain ⟨_, HP⟩ := h2
    have := c_toPKind (PKind.mk s_nm s_q s_sl)
    exact ⟨by simpa only [PKind.row] using this, rfl, by simp [PKind.row, No99, No99L, no99_box, no99_i, no99_str, no99_Zone, no99_Word, no99_Own, no99_Part, no99_Seen, no99_Book, no99_Sector, no99_HCraft, no99_World, no99_PKind, no99_PPt, no99_Cell, no99_PBase, -List.map_map]⟩
  · cases h1
theorem set_PKind {lst : List PKind} {idx : Nat} {vnm : ByteArray} {vq : Int} {vsl : Int} : (lst.map PKind.row).set idx (setSeg ((lst.map PKind.row).getD idx []) 0 [.str vnm, .int .i64 vq, .int .i64 vsl]) = (lst.set idx (PKind.mk vnm vq vsl)).map PKind.row :=
  set_rows (α := PKind) (f := PKind.row) (fun s => (PKind.mk vnm vq vsl)) fun x => by simp [PKind.row, setSeg]
def to_PKind (a : List PKind) (i : Nat) : List PKind := a.take i ++ List.replicate (a.length - i) ⟨⟨#[]⟩, 0, 0⟩
theorem to_PKind_st {a : List PKind} {i : Nat} (h : i < a.length) : (to_PKind a i).set i (a.getD i default) = to_PKind a (i + 1) := by
  refine List.ext_getElem (by simp [to_PKind]; omega) fun j h1 h2 => ?_
  by_cases e : j = i
  · subst e
    simp [to_PKind, List.getElem_append, h]
    intro h9; omega
  · simp only [List.getElem_set_ne (Ne.symm e)]
    simp only [to_PKind, List.getElem_append, List.length_take, List.getElem_take, List.getElem_replicate]
    split <;> split <;> first | rfl | omega
theorem c_toPKindS (t : Nat) (a : List PKind) (ha : a.length ≤ 1048576) : Contract P 23 [.sl t 3 (a.map PKind.row)] [] (.sl 0 3 (a.map PKind.row)) [] := by
  refine fn_sound ((Env.nil P).add 43 t_toPKind h_toPKind) hm k_laws_toPlanKindS (Nat.le_of_ble_eq_true rfl) rfl ?_; unfold s_laws_toPlanKindS; simp (config := { maxSteps := 2000000 }) only [bitvec_to_nat, reduceIte, Nat.reduceEqDiff, Nat.reduceAdd, Nat.reduceLeDiff, reduceCtorEq, Nat.reduceBEq, Nat.reduceLT, Nat.reduceMod, List.forall_mem_cons, t_toPKind, tk_map, dp_map, toNat_pred, appE, rowsOf, List.take_length, List.length_cons, List.length_nil, Nat.zero_add, srow, irow, un_s, un_i, Zone.row, Zone_eta, un_Zone, Word.row, Word_eta, Own.row, Own_eta, Part.row, Part_eta, Seen.row, Seen_eta, Book.row, Book_eta, Sector.row, Sector_eta, HCraft.row, HCraft_eta, World.row, World_eta, PKind.row, PKind_eta, PPt.row, PPt_eta, Cell.row, Cell_eta, PBase.row, PBase_eta, un_Word, un_Own, un_Part, un_Seen, un_Book, un_Sector, un_HCraft, un_World, un_PKind, un_PPt, un_Cell, un_PBase, set_PKind, Nat.sub_zero]
  have m0 : List.replicate a.length [.str ⟨#[]⟩, .int .i64 0, .int .i64 0] = (to_PKind a 0).map PKind.row := by simp [to_PKind, PKind.row]
  refine ⟨by omega, ?_⟩
  refine loop_st (fun i : Nat => [(4, .int .i64 i)]) (fun i => [(107, .arr 73 0 3 ((to_PKind a i).map PKind.row))]) (fun i => i ≤ a.length) (fun i => a.length - i) 0 (by simp only [u_E0, u_E1, u_M0, u_M1, w_setE0, w_setE1, w_setM0, w_setM1, reduceIte, Nat.reduceEqDiff]; exact ⟨by repeat' (first | exact trivial | refine ⟨.inr rfl, ?_⟩), ⟨congrArg (fun g => some (AObj.arr 73 0 3 g)) m0, trivial⟩, rfl, rfl⟩) (Nat.zero_le _) ?_
  intro i hi NX hN
  skip
  unfold l_laws_toPlanKindS_0; simp (config := { maxSteps := 2000000 }) only [bitvec_to_nat, reduceIte, Nat.reduceEqDiff, Nat.reduceAdd, Nat.reduceLeDiff, reduceCtorEq, Nat.reduceBEq, Nat.reduceLT, Nat.reduceMod, List.forall_mem_cons, t_toPKind, tk_map, dp_map, toNat_pred, appE, rowsOf, List.take_length, List.length_cons, List.length_nil, Nat.zero_add, srow, irow, un_s, un_i, Zone.row, Zone_eta, un_Zone, Word.row, Word_eta, Own.row, Own_eta, Part.row, Part_eta, Seen.row, Seen_eta, Book.row, Book_eta, Sector.row, Sector_eta, HCraft.row, HCraft_eta, World.row, World_eta, PKind.row, PKind_eta, PPt.row, PPt_eta, Cell.row, Cell_eta, PBase.row, PBase_eta, un_Word, un_Own, un_Part, un_Seen, un_Book, un_Sector, un_HCraft, un_World, un_PKind, un_PPt, un_Cell, un_PBase, set_PKind, Nat.sub_zero]
  refine ⟨fun h => ?_, fun h => ?_⟩
  · repeat' (first | with_reducible apply And.intro | with_reducible intro _)
    all_goals first
      | omega
      | rfl
      | exact hs2 (by omega)
      | (have e := to_PKind_st (a := a) (i := i) (by omega)
         try simp only [PKind.row] at *
         refine hN (i + 1) _ ⟨by repeat' (first | exact trivial | refine ⟨.inr rfl, ?_⟩), ⟨congrArg (fun g => some (AObj.arr 73 0 3 (List.map PKind.row g))) e, trivial⟩, rfl, rfl⟩ ?_ ?_ <;> omega)
  · have e : i = a.length := by omega
    subst e
    simp only [to_PKind, List.take_length, Nat.sub_self, List.replicate_zero, List.append_nil]
    try rw [List.take_of_length_le (by simp)]
def t_toPKindS : List AV → Option (Prop × AV)
  | [.sl st 3 sx] => some ((((sx.map unPKind).map PKind.row = sx)) ∧ ((sx.map unPKind).length ≤ 1048576), .sl 0 3 ((sx.map unPKind).map PKind.row))
  | _ => none
theorem h_toPKindS : ∀ args p v, t_toPKindS args = some (p, v) → p → Contract P 23 args [] v [] ∧ noref v = true ∧ No99 v := by
  intro args p v h1 h2
  unfold t_toPKindS at h1
  split at h1
  · rename_i st sx
    cases h1
    obtain ⟨e0, HP⟩ := h2
    have := c_toPKindS st (sx.map unPKind) HP
    exact ⟨by simpa only [e0] using this, rfl, by simp [No99, No99L, no99_box, no99_i, no99_str, no99_Zone, no99_Word, no99_Own, no99_Part, no99_Seen, no99_Book, no99_Sector, no99_HCraft, no99_World, no99_PKind, no99_PPt, no99_Cell, no99_PBase, -List.map_map]⟩
  · cases h1
theorem c_eqPKind (c d : PKind)  : Contract P 52 [.agg (c.row), .agg (d.row)] [] (.bool (decide (c = d))) [] := by
  obtain ⟨c_nm, c_q, c_sl⟩ := c
  obtain ⟨d_nm, d_q, d_sl⟩ := d
  simp only [PKind.row]
  refine fn_sound (Env.nil P) hm k_laws_eqPlanKind (Nat.le_of_ble_eq_true rfl) rfl ?_; unfold s_laws_eqPlanKind; simp (config := { maxSteps := 2000000 }) only [bitvec_to_nat, reduceIte, Nat.reduceEqDiff, Nat.reduceAdd, Nat.reduceLeDiff, reduceCtorEq, Nat.reduceBEq, Nat.reduceLT, Nat.reduceMod, List.forall_mem_cons, tk_map, dp_map, toNat_pred, appE, rowsOf, List.take_length, List.length_cons, List.length_nil, Nat.zero_add, srow, irow, un_s, un_i, Zone.row, Zone_eta, un_Zone, Word.row, Word_eta, Own.row, Own_eta, Part.row, Part_eta, Seen.row, Seen_eta, Book.row, Book_eta, Sector.row, Sector_eta, HCraft.row, HCraft_eta, World.row, World_eta, PKind.row, PKind_eta, PPt.row, PPt_eta, Cell.row, Cell_eta, PBase.row, PBase_eta, un_Word, un_Own, un_Part, un_Seen, un_Book, un_Sector, un_HCraft, un_World, un_PKind, un_PPt, un_Cell, un_PBase]
  simp only [PKind.mk.injEq]
  repeat' (first | with_reducible apply And.intro | with_reducible intro _)
  all_goals first | omega | (simp_all; done) | grind
def t_eqPKind : List AV → Option (Prop × AV)
  | [.agg [.str c_nm, .int .i64 c_q, .int .i64 c_sl], .agg [.str d_nm, .int .i64 d_q, .int .i64 d_sl]] => some ((True) ∧ (True), .bool (decide ((PKind.mk c_nm c_q c_sl) = (PKind.mk d_nm d_q d_sl))))
  | _ => none
theorem h_eqPKind : ∀ args p v, t_eqPKind args = some (p, v) → p → Contract P 52 args [] v [] ∧ noref v = true ∧ No99 v := by
  intro args p v h1 h2
  unfold t_eqPKind at h1
  split at h1
  · rename_i c_nm c_q c_sl d_nm d_q d_sl
    cases h1
    obtain ⟨_, HP⟩ := h2
    have := c_eqPKind (PKind.mk c_nm c_q c_sl) (PKind.mk d_nm d_q d_sl)
    exact ⟨by simpa only [PKind.row, PKind.row] using this, rfl, trivial⟩
  · cases h1
theorem c_eqPKindS (t t' : Nat) (p q : List PKind) (hp : p.length ≤ 4611686018427387904) : Contract P 29 [.sl t 3 (p.map PKind.row), .sl t' 3 (q.map PKind.row)] [] (.bool (decide (p = q))) [] := by
  refine fn_sound ((Env.nil P).add 52 t_eqPKind h_eqPKind) hm k_laws_eqPlanKindS (Nat.le_of_ble_eq_true rfl) rfl ?_; unfold s_laws_eqPlanKindS; simp (config := { maxSteps := 2000000 }) only [bitvec_to_nat, reduceIte, Nat.reduceEqDiff, Nat.reduceAdd, Nat.reduceLeDiff, reduceCtorEq, Nat.reduceBEq, Nat.reduceLT, Nat.reduceMod, List.forall_mem_cons, t_eqPKind, tk_map, dp_map, toNat_pred, appE, rowsOf, List.take_length, List.length_cons, List.length_nil, Nat.zero_add, srow, irow, un_s, un_i, Zone.row, Zone_eta, un_Zone, Word.row, Word_eta, Own.row, Own_eta, Part.row, Part_eta, Seen.row, Seen_eta, Book.row, Book_eta, Sector.row, Sector_eta, HCraft.row, HCraft_eta, World.row, World_eta, PKind.row, PKind_eta, PPt.row, PPt_eta, Cell.row, Cell_eta, PBase.row, PBase_eta, un_Word, un_Own, un_Part, un_Seen, un_Book, un_Sector, un_HCraft, un_World, un_PKind, un_PPt, un_Cell, un_PBase]
  refine ⟨fun h1 h => h1 (by rw [h]), fun h1 => ?_⟩
  refine loop_st (fun i : Nat => [(5, .int .i64 i)]) (fun _ => []) (fun i => i ≤ p.length ∧ ∀ j, j < i → p.getD j default = q.getD j default) (fun i => p.length - i) (0) (by simp only [u_E0, u_E1, u_M0, u_M1, w_setE0, w_setE1, w_setM0, w_setM1, reduceIte, Nat.reduceEqDiff]; exact ⟨by repeat' (first | exact trivial | refine ⟨.inr rfl, ?_⟩), by repeat' (first | exact trivial | refine ⟨rfl, ?_⟩), by first | rfl | simp [closedB, refsIn, refsInL, refsInO, dom, refsInL_nr, *], by first | rfl | simp [keepB, dom]⟩) ?_ ?_
  · exact ⟨Nat.zero_le _, by intro j hj; omega⟩
  intro i hi NX hN
  unfold l_laws_eqPlanKindS_0; simp (config := { maxSteps := 2000000 }) only [bitvec_to_nat, reduceIte, Nat.reduceEqDiff, Nat.reduceAdd, Nat.reduceLeDiff, reduceCtorEq, Nat.reduceBEq, Nat.reduceLT, Nat.reduceMod, List.forall_mem_cons, t_eqPKind, tk_map, dp_map, toNat_pred, appE, rowsOf, List.take_length, List.length_cons, List.length_nil, Nat.zero_add, srow, irow, un_s, un_i, Zone.row, Zone_eta, un_Zone, Word.row, Word_eta, Own.row, Own_eta, Part.row, Part_eta, Seen.row, Seen_eta, Book.row, Book_eta, Sector.row, Sector_eta, HCraft.row, HCraft_eta, World.row, World_eta, PKind.row, PKind_eta, PPt.row, PPt_eta, Cell.row, Cell_eta, PBase.row, PBase_eta, un_Word, un_Own, un_Part, un_Seen, un_Book, un_Sector, un_HCraft, un_World, un_PKind, un_PPt, un_Cell, un_PBase]
  skip
  repeat' (first | with_reducible apply And.intro | with_reducible intro _)
  all_goals first
    | omega
    | (refine hN (i + 1) _ (by simp only [u_E0, u_E1, u_M0, u_M1, w_setE0, w_setE1, w_setM0, w_setM1, reduceIte, Nat.reduceEqDiff]; exact ⟨by repeat' (first | exact trivial | refine ⟨.inr rfl, ?_⟩), by repeat' (first | exact trivial | refine ⟨rfl, ?_⟩), by first | rfl | simp [closedB, refsIn, refsInL, refsInO, dom, refsInL_nr, *], by first | rfl | simp [keepB, dom]⟩) ?_ ?_
       · exact ⟨by omega, all_snoc hi.2 (by with_reducible assumption)⟩
       · omega)
    | (intro h; subst h; exact absurd rfl (by with_reducible assumption))
    | (exact ext_of (by omega) fun j hj => hi.2 j (by omega))
    | grind
def t_eqPKindS : List AV → Option (Prop × AV)
  | [.sl ct 3 cx, .sl dt 3 dx] => some ((((cx.map unPKind).map PKind.row = cx) ∧ ((dx.map unPKind).map PKind.row = dx)) ∧ ((cx.map unPKind).length ≤ 4611686018427387904), .bool (decide ((cx.map unPKind) = (dx.map unPKind))))
  | _ => none
theorem h_eqPKindS : ∀ args p v, t_eqPKindS args = some (p, v) → p → Contract P 29 args [] v [] ∧ noref v = true ∧ No99 v := by
  intro args p v h1 h2
  unfold t_eqPKindS at h1
  split at h1
  · rename_i ct cx dt dx
    cases h1
    obtain ⟨⟨e0, e1⟩, HP⟩ := h2
    have := c_eqPKindS ct dt (cx.map unPKind) (dx.map unPKind) HP
    exact ⟨by simpa only [e0, e1] using this, rfl, trivial⟩
  · cases h1
theorem c_toPKindSO (t : Nat) (a : List PKind) (ha : a.length ≤ 1048576) : Contract P 23 [.sl t 3 (a.map PKind.row)] [] (.own 107 0 0 a.length) [(107, .arr 73 0 3 (a.map PKind.row))] := by
  have tkA : List.take a.length (a.map PKind.row) = a.map PKind.row := List.take_of_length_le (by simp)
  refine fn_sound ((Env.nil P).add 43 t_toPKind h_toPKind) hm kO_laws_toPlanKindS (Nat.le_of_ble_eq_true rfl) rfl ?_; unfold sO_laws_toPlanKindS; simp (config := { maxSteps := 2000000 }) only [bitvec_to_nat, reduceIte, Nat.reduceEqDiff, Nat.reduceAdd, Nat.reduceLeDiff, reduceCtorEq, Nat.reduceBEq, Nat.reduceLT, Nat.reduceMod, List.forall_mem_cons, retG_ret, retQ_eq, retQ_eqN, retOk, keepB, re_tupl, orr_t, t_toPKind, tk_map, dp_map, toNat_pred, appE, rowsOf, List.take_length, List.length_cons, List.length_nil, Nat.zero_add, srow, irow, un_s, un_i, Zone.row, Zone_eta, un_Zone, Word.row, Word_eta, Own.row, Own_eta, Part.row, Part_eta, Seen.row, Seen_eta, Book.row, Book_eta, Sector.row, Sector_eta, HCraft.row, HCraft_eta, World.row, World_eta, PKind.row, PKind_eta, PPt.row, PPt_eta, Cell.row, Cell_eta, PBase.row, PBase_eta, un_Word, un_Own, un_Part, un_Seen, un_Book, un_Sector, un_HCraft, un_World, un_PKind, un_PPt, un_Cell, un_PBase, set_PKind, Nat.sub_zero]
  have m0 : List.replicate a.length [.str ⟨#[]⟩, .int .i64 0, .int .i64 0] = (to_PKind a 0).map PKind.row := by simp [to_PKind, PKind.row]
  refine ⟨by omega, ?_⟩
  refine loop_st (fun i : Nat => [(4, .int .i64 i)]) (fun i => [(107, .arr 73 0 3 ((to_PKind a i).map PKind.row))]) (fun i => i ≤ a.length) (fun i => a.length - i) 0 (by simp only [u_E0, u_E1, u_M0, u_M1, w_setE0, w_setE1, w_setM0, w_setM1, reduceIte, Nat.reduceEqDiff]; exact ⟨by repeat' (first | exact trivial | refine ⟨.inr rfl, ?_⟩), ⟨congrArg (fun g => some (AObj.arr 73 0 3 g)) m0, trivial⟩, rfl, rfl⟩) (Nat.zero_le _) ?_
  intro i hi NX hN
  unfold lO_laws_toPlanKindS_0; simp (config := { maxSteps := 2000000 }) only [bitvec_to_nat, reduceIte, Nat.reduceEqDiff, Nat.reduceAdd, Nat.reduceLeDiff, reduceCtorEq, Nat.reduceBEq, Nat.reduceLT, Nat.reduceMod, List.forall_mem_cons, retG_ret, retQ_eq, retQ_eqN, retOk, keepB, re_tupl, orr_t, t_toPKind, tk_map, dp_map, toNat_pred, appE, rowsOf, List.take_length, List.length_cons, List.length_nil, Nat.zero_add, srow, irow, un_s, un_i, Zone.row, Zone_eta, un_Zone, Word.row, Word_eta, Own.row, Own_eta, Part.row, Part_eta, Seen.row, Seen_eta, Book.row, Book_eta, Sector.row, Sector_eta, HCraft.row, HCraft_eta, World.row, World_eta, PKind.row, PKind_eta, PPt.row, PPt_eta, Cell.row, Cell_eta, PBase.row, PBase_eta, un_Word, un_Own, un_Part, un_Seen, un_Book, un_Sector, un_HCraft, un_World, un_PKind, un_PPt, un_Cell, un_PBase, set_PKind, Nat.sub_zero]
  refine ⟨fun h => ?_, fun h => ?_⟩
  · repeat' (first | with_reducible apply And.intro | with_reducible intro _)
    all_goals first
      | omega
      | rfl
      | (have e := to_PKind_st (a := a) (i := i) (by omega)
         try simp only [PKind.row] at *
         refine hN (i + 1) _ ⟨by repeat' (first | exact trivial | refine ⟨.inr rfl, ?_⟩), ⟨congrArg (fun g => some (AObj.arr 73 0 3 (List.map PKind.row g))) e, trivial⟩, rfl, rfl⟩ ?_ ?_ <;> omega)
  · have e : i = a.length := by omega
    subst e
    simp only [to_PKind, List.take_length, Nat.sub_self, List.replicate_zero, List.append_nil]
    exact ⟨trivial, rfl, rfl⟩
theorem c_toPPt (s : PPt) : Contract P 44 [.agg (s.row)] [] (.agg (s.row)) [] := by
  simp only [PPt.row]
  refine fn_sound (Env.nil P) hm k_laws_toPlanPoint (Nat.le_of_ble_eq_true rfl) rfl ?_; unfold s_laws_toPlanPoint; simp (config := { maxSteps := 2000000 }) only [bitvec_to_nat, reduceIte, Nat.reduceEqDiff, Nat.reduceAdd, Nat.reduceLeDiff, reduceCtorEq, Nat.reduceBEq, Nat.reduceLT, Nat.reduceMod, List.forall_mem_cons, tk_map, dp_map, toNat_pred, appE, rowsOf, List.take_length, List.length_cons, List.length_nil, Nat.zero_add, srow, irow, un_s, un_i, Zone.row, Zone_eta, un_Zone, Word.row, Word_eta, Own.row, Own_eta, Part.row, Part_eta, Seen.row, Seen_eta, Book.row, Book_eta, Sector.row, Sector_eta, HCraft.row, HCraft_eta, World.row, World_eta, PKind.row, PKind_eta, PPt.row, PPt_eta, Cell.row, Cell_eta, PBase.row, PBase_eta, un_Word, un_Own, un_Part, un_Seen, un_Book, un_Sector, un_HCraft, un_World, un_PKind, un_PPt, un_Cell, un_PBase]
  all_goals trivial
def t_toPPt : List AV → Option (Prop × AV)
  | [.agg [.str s_nm, .int .i64 s_x, .int .i64 s_y]] => some ((True) ∧ (True), .agg (PPt.row (PPt.mk s_nm s_x s_y)))
  | _ => none
theorem h_toPPt : ∀ args p v, t_toPPt args = some (p, v) → p → Contract P 44 args [] v [] ∧ noref v = true ∧ No99 v := by
  intro args p v h1 h2
  unfold t_toPPt at h1
  split at h1
  · rename_i s_nm s_x s_y
    cases h1
    obtain ⟨_, HP⟩ := h2
    have := c_toPPt (PPt.mk s_nm s_x s_y)
    exact ⟨by simpa only [PPt.row] using this, rfl, by simp [PPt.row, No99, No99L, no99_box, no99_i, no99_str, no99_Zone, no99_Word, no99_Own, no99_Part, no99_Seen, no99_Book, no99_Sector, no99_HCraft, no99_World, no99_PKind, no99_PPt, no99_Cell, no99_PBase, -List.map_map]⟩
  · cases h1
theorem set_PPt {lst : List PPt} {idx : Nat} {vnm : ByteArray} {vx : Int} {vy : Int} : (lst.map PPt.row).set idx (setSeg ((lst.map PPt.row).getD idx []) 0 [.str vnm, .int .i64 vx, .int .i64 vy]) = (lst.set idx (PPt.mk vnm vx vy)).map PPt.row :=
  set_rows (α := PPt) (f := PPt.row) (fun s => (PPt.mk vnm vx vy)) fun x => by simp [PPt.row, setSeg]
def to_PPt (a : List PPt) (i : Nat) : List PPt := a.take i ++ List.replicate (a.length - i) ⟨⟨#[]⟩, 0, 0⟩
theorem to_PPt_st {a : List PPt} {i : Nat} (h : i < a.length) : (to_PPt a i).set i (a.getD i default) = to_PPt a (i + 1) := by
  refine List.ext_getElem (by simp [to_PPt]; omega) fun j h1 h2 => ?_
  by_cases e : j = i
  · subst e
    simp [to_PPt, List.getElem_append, h]
    intro h9; omega
  · simp only [List.getElem_set_ne (Ne.symm e)]
    simp only [to_PPt, List.getElem_append, List.length_take, List.getElem_take, List.getElem_replicate]
    split <;> split <;> first | rfl | omega
theorem c_toPPtS (t : Nat) (a : List PPt) (ha : a.length ≤ 1048576) : Contract P 24 [.sl t 3 (a.map PPt.row)] [] (.sl 0 3 (a.map PPt.row)) [] := by
  refine fn_sound ((Env.nil P).add 44 t_toPPt h_toPPt) hm k_laws_toPlanPointS (Nat.le_of_ble_eq_true rfl) rfl ?_; unfold s_laws_toPlanPointS; simp (config := { maxSteps := 2000000 }) only [bitvec_to_nat, reduceIte, Nat.reduceEqDiff, Nat.reduceAdd, Nat.reduceLeDiff, reduceCtorEq, Nat.reduceBEq, Nat.reduceLT, Nat.reduceMod, List.forall_mem_cons, t_toPPt, tk_map, dp_map, toNat_pred, appE, rowsOf, List.take_length, List.length_cons, List.length_nil, Nat.zero_add, srow, irow, un_s, un_i, Zone.row, Zone_eta, un_Zone, Word.row, Word_eta, Own.row, Own_eta, Part.row, Part_eta, Seen.row, Seen_eta, Book.row, Book_eta, Sector.row, Sector_eta, HCraft.row, HCraft_eta, World.row, World_eta, PKind.row, PKind_eta, PPt.row, PPt_eta, Cell.row, Cell_eta, PBase.row, PBase_eta, un_Word, un_Own, un_Part, un_Seen, un_Book, un_Sector, un_HCraft, un_World, un_PKind, un_PPt, un_Cell, un_PBase, set_PPt, Nat.sub_zero]
  have m0 : List.replicate a.length [.str ⟨#[]⟩, .int .i64 0, .int .i64 0] = (to_PPt a 0).map PPt.row := by simp [to_PPt, PPt.row]
  refine ⟨by omega, ?_⟩
  refine loop_st (fun i : Nat => [(4, .int .i64 i)]) (fun i => [(107, .arr 57 0 3 ((to_PPt a i).map PPt.row))]) (fun i => i ≤ a.length) (fun i => a.length - i) 0 (by simp only [u_E0, u_E1, u_M0, u_M1, w_setE0, w_setE1, w_setM0, w_setM1, reduceIte, Nat.reduceEqDiff]; exact ⟨by repeat' (first | exact trivial | refine ⟨.inr rfl, ?_⟩), ⟨congrArg (fun g => some (AObj.arr 57 0 3 g)) m0, trivial⟩, rfl, rfl⟩) (Nat.zero_le _) ?_
  intro i hi NX hN
  skip
  unfold l_laws_toPlanPointS_0; simp (config := { maxSteps := 2000000 }) only [bitvec_to_nat, reduceIte, Nat.reduceEqDiff, Nat.reduceAdd, Nat.reduceLeDiff, reduceCtorEq, Nat.reduceBEq, Nat.reduceLT, Nat.reduceMod, List.forall_mem_cons, t_toPPt, tk_map, dp_map, toNat_pred, appE, rowsOf, List.take_length, List.length_cons, List.length_nil, Nat.zero_add, srow, irow, un_s, un_i, Zone.row, Zone_eta, un_Zone, Word.row, Word_eta, Own.row, Own_eta, Part.row, Part_eta, Seen.row, Seen_eta, Book.row, Book_eta, Sector.row, Sector_eta, HCraft.row, HCraft_eta, World.row, World_eta, PKind.row, PKind_eta, PPt.row, PPt_eta, Cell.row, Cell_eta, PBase.row, PBase_eta, un_Word, un_Own, un_Part, un_Seen, un_Book, un_Sector, un_HCraft, un_World, un_PKind, un_PPt, un_Cell, un_PBase, set_PPt, Nat.sub_zero]
  refine ⟨fun h => ?_, fun h => ?_⟩
  · repeat' (first | with_reducible apply And.intro | with_reducible intro _)
    all_goals first
      | omega
      | rfl
      | exact hs2 (by omega)
      | (have e := to_PPt_st (a := a) (i := i) (by omega)
         try simp only [PPt.row] at *
         refine hN (i + 1) _ ⟨by repeat' (first | exact trivial | refine ⟨.inr rfl, ?_⟩), ⟨congrArg (fun g => some (AObj.arr 57 0 3 (List.map PPt.row g))) e, trivial⟩, rfl, rfl⟩ ?_ ?_ <;> omega)
  · have e : i = a.length := by omega
    subst e
    simp only [to_PPt, List.take_length, Nat.sub_self, List.replicate_zero, List.append_nil]
    try rw [List.take_of_length_le (by simp)]
def t_toPPtS : List AV → Option (Prop × AV)
  | [.sl st 3 sx] => some ((((sx.map unPPt).map PPt.row = sx)) ∧ ((sx.map unPPt).length ≤ 1048576), .sl 0 3 ((sx.map unPPt).map PPt.row))
  | _ => none
theorem h_toPPtS : ∀ args p v, t_toPPtS args = some (p, v) → p → Contract P 24 args [] v [] ∧ noref v = true ∧ No99 v := by
  intro args p v h1 h2
  unfold t_toPPtS at h1
  split at h1
  · rename_i st sx
    cases h1
    obtain ⟨e0, HP⟩ := h2
    have := c_toPPtS st (sx.map unPPt) HP
    exact ⟨by simpa only [e0] using this, rfl, by simp [No99, No99L, no99_box, no99_i, no99_str, no99_Zone, no99_Word, no99_Own, no99_Part, no99_Seen, no99_Book, no99_Sector, no99_HCraft, no99_World, no99_PKind, no99_PPt, no99_Cell, no99_PBase, -List.map_map]⟩
  · cases h1
theorem c_eqPPt (c d : PPt)  : Contract P 53 [.agg (c.row), .agg (d.row)] [] (.bool (decide (c = d))) [] := by
  obtain ⟨c_nm, c_x, c_y⟩ := c
  obtain ⟨d_nm, d_x, d_y⟩ := d
  simp only [PPt.row]
  refine fn_sound (Env.nil P) hm k_laws_eqPlanPoint (Nat.le_of_ble_eq_true rfl) rfl ?_; unfold s_laws_eqPlanPoint; simp (config := { maxSteps := 2000000 }) only [bitvec_to_nat, reduceIte, Nat.reduceEqDiff, Nat.reduceAdd, Nat.reduceLeDiff, reduceCtorEq, Nat.reduceBEq, Nat.reduceLT, Nat.reduceMod, List.forall_mem_cons, tk_map, dp_map, toNat_pred, appE, rowsOf, List.take_length, List.length_cons, List.length_nil, Nat.zero_add, srow, irow, un_s, un_i, Zone.row, Zone_eta, un_Zone, Word.row, Word_eta, Own.row, Own_eta, Part.row, Part_eta, Seen.row, Seen_eta, Book.row, Book_eta, Sector.row, Sector_eta, HCraft.row, HCraft_eta, World.row, World_eta, PKind.row, PKind_eta, PPt.row, PPt_eta, Cell.row, Cell_eta, PBase.row, PBase_eta, un_Word, un_Own, un_Part, un_Seen, un_Book, un_Sector, un_HCraft, un_World, un_PKind, un_PPt, un_Cell, un_PBase]
  simp only [PPt.mk.injEq]
  repeat' (first | with_reducible apply And.intro | with_reducible intro _)
  all_goals first | omega | (simp_all; done) | grind
def t_eqPPt : List AV → Option (Prop × AV)
  | [.agg [.str c_nm, .int .i64 c_x, .int .i64 c_y], .agg [.str d_nm, .int .i64 d_x, .int .i64 d_y]] => some ((True) ∧ (True), .bool (decide ((PPt.mk c_nm c_x c_y) = (PPt.mk d_nm d_x d_y))))
  | _ => none
theorem h_eqPPt : ∀ args p v, t_eqPPt args = some (p, v) → p → Contract P 53 args [] v [] ∧ noref v = true ∧ No99 v := by
  intro args p v h1 h2
  unfold t_eqPPt at h1
  split at h1
  · rename_i c_nm c_x c_y d_nm d_x d_y
    cases h1
    obtain ⟨_, HP⟩ := h2
    have := c_eqPPt (PPt.mk c_nm c_x c_y) (PPt.mk d_nm d_x d_y)
    exact ⟨by simpa only [PPt.row, PPt.row] using this, rfl, trivial⟩
  · cases h1
theorem c_eqPPtS (t t' : Nat) (p q : List PPt) (hp : p.length ≤ 4611686018427387904) : Contract P 30 [.sl t 3 (p.map PPt.row), .sl t' 3 (q.map PPt.row)] [] (.bool (decide (p = q))) [] := by
  refine fn_sound ((Env.nil P).add 53 t_eqPPt h_eqPPt) hm k_laws_eqPlanPointS (Nat.le_of_ble_eq_true rfl) rfl ?_; unfold s_laws_eqPlanPointS; simp (config := { maxSteps := 2000000 }) only [bitvec_to_nat, reduceIte, Nat.reduceEqDiff, Nat.reduceAdd, Nat.reduceLeDiff, reduceCtorEq, Nat.reduceBEq, Nat.reduceLT, Nat.reduceMod, List.forall_mem_cons, t_eqPPt, tk_map, dp_map, toNat_pred, appE, rowsOf, List.take_length, List.length_cons, List.length_nil, Nat.zero_add, srow, irow, un_s, un_i, Zone.row, Zone_eta, un_Zone, Word.row, Word_eta, Own.row, Own_eta, Part.row, Part_eta, Seen.row, Seen_eta, Book.row, Book_eta, Sector.row, Sector_eta, HCraft.row, HCraft_eta, World.row, World_eta, PKind.row, PKind_eta, PPt.row, PPt_eta, Cell.row, Cell_eta, PBase.row, PBase_eta, un_Word, un_Own, un_Part, un_Seen, un_Book, un_Sector, un_HCraft, un_World, un_PKind, un_PPt, un_Cell, un_PBase]
  refine ⟨fun h1 h => h1 (by rw [h]), fun h1 => ?_⟩
  refine loop_st (fun i : Nat => [(5, .int .i64 i)]) (fun _ => []) (fun i => i ≤ p.length ∧ ∀ j, j < i → p.getD j default = q.getD j default) (fun i => p.length - i) (0) (by simp only [u_E0, u_E1, u_M0, u_M1, w_setE0, w_setE1, w_setM0, w_setM1, reduceIte, Nat.reduceEqDiff]; exact ⟨by repeat' (first | exact trivial | refine ⟨.inr rfl, ?_⟩), by repeat' (first | exact trivial | refine ⟨rfl, ?_⟩), by first | rfl | simp [closedB, refsIn, refsInL, refsInO, dom, refsInL_nr, *], by first | rfl | simp [keepB, dom]⟩) ?_ ?_
  · exact ⟨Nat.zero_le _, by intro j hj; omega⟩
  intro i hi NX hN
  unfold l_laws_eqPlanPointS_0; simp (config := { maxSteps := 2000000 }) only [bitvec_to_nat, reduceIte, Nat.reduceEqDiff, Nat.reduceAdd, Nat.reduceLeDiff, reduceCtorEq, Nat.reduceBEq, Nat.reduceLT, Nat.reduceMod, List.forall_mem_cons, t_eqPPt, tk_map, dp_map, toNat_pred, appE, rowsOf, List.take_length, List.length_cons, List.length_nil, Nat.zero_add, srow, irow, un_s, un_i, Zone.row, Zone_eta, un_Zone, Word.row, Word_eta, Own.row, Own_eta, Part.row, Part_eta, Seen.row, Seen_eta, Book.row, Book_eta, Sector.row, Sector_eta, HCraft.row, HCraft_eta, World.row, World_eta, PKind.row, PKind_eta, PPt.row, PPt_eta, Cell.row, Cell_eta, PBase.row, PBase_eta, un_Word, un_Own, un_Part, un_Seen, un_Book, un_Sector, un_HCraft, un_World, un_PKind, un_PPt, un_Cell, un_PBase]
  skip
  repeat' (first | with_reducible apply And.intro | with_reducible intro _)
  all_goals first
    | omega
    | (refine hN (i + 1) _ (by simp only [u_E0, u_E1, u_M0, u_M1, w_setE0, w_setE1, w_setM0, w_setM1, reduceIte, Nat.reduceEqDiff]; exact ⟨by repeat' (first | exact trivial | refine ⟨.inr rfl, ?_⟩), by repeat' (first | exact trivial | refine ⟨rfl, ?_⟩), by first | rfl | simp [closedB, refsIn, refsInL, refsInO, dom, refsInL_nr, *], by first | rfl | simp [keepB, dom]⟩) ?_ ?_
       · exact ⟨by omega, all_snoc hi.2 (by with_reducible assumption)⟩
       · omega)
    | (intro h; subst h; exact absurd rfl (by with_reducible assumption))
    | (exact ext_of (by omega) fun j hj => hi.2 j (by omega))
    | grind
def t_eqPPtS : List AV → Option (Prop × AV)
  | [.sl ct 3 cx, .sl dt 3 dx] => some ((((cx.map unPPt).map PPt.row = cx) ∧ ((dx.map unPPt).map PPt.row = dx)) ∧ ((cx.map unPPt).length ≤ 4611686018427387904), .bool (decide ((cx.map unPPt) = (dx.map unPPt))))
  | _ => none
theorem h_eqPPtS : ∀ args p v, t_eqPPtS args = some (p, v) → p → Contract P 30 args [] v [] ∧ noref v = true ∧ No99 v := by
  intro args p v h1 h2
  unfold t_eqPPtS at h1
  split at h1
  · rename_i ct cx dt dx
    cases h1
    obtain ⟨⟨e0, e1⟩, HP⟩ := h2
    have := c_eqPPtS ct dt (cx.map unPPt) (dx.map unPPt) HP
    exact ⟨by simpa only [e0, e1] using this, rfl, trivial⟩
  · cases h1
theorem c_toPPtSO (t : Nat) (a : List PPt) (ha : a.length ≤ 1048576) : Contract P 24 [.sl t 3 (a.map PPt.row)] [] (.own 107 0 0 a.length) [(107, .arr 57 0 3 (a.map PPt.row))] := by
  have tkA : List.take a.length (a.map PPt.row) = a.map PPt.row := List.take_of_length_le (by simp)
  refine fn_sound ((Env.nil P).add 44 t_toPPt h_toPPt) hm kO_laws_toPlanPointS (Nat.le_of_ble_eq_true rfl) rfl ?_; unfold sO_laws_toPlanPointS; simp (config := { maxSteps := 2000000 }) only [bitvec_to_nat, reduceIte, Nat.reduceEqDiff, Nat.reduceAdd, Nat.reduceLeDiff, reduceCtorEq, Nat.reduceBEq, Nat.reduceLT, Nat.reduceMod, List.forall_mem_cons, retG_ret, retQ_eq, retQ_eqN, retOk, keepB, re_tupl, orr_t, t_toPPt, tk_map, dp_map, toNat_pred, appE, rowsOf, List.take_length, List.length_cons, List.length_nil, Nat.zero_add, srow, irow, un_s, un_i, Zone.row, Zone_eta, un_Zone, Word.row, Word_eta, Own.row, Own_eta, Part.row, Part_eta, Seen.row, Seen_eta, Book.row, Book_eta, Sector.row, Sector_eta, HCraft.row, HCraft_eta, World.row, World_eta, PKind.row, PKind_eta, PPt.row, PPt_eta, Cell.row, Cell_eta, PBase.row, PBase_eta, un_Word, un_Own, un_Part, un_Seen, un_Book, un_Sector, un_HCraft, un_World, un_PKind, un_PPt, un_Cell, un_PBase, set_PPt, Nat.sub_zero]
  have m0 : List.replicate a.length [.str ⟨#[]⟩, .int .i64 0, .int .i64 0] = (to_PPt a 0).map PPt.row := by simp [to_PPt, PPt.row]
  refine ⟨by omega, ?_⟩
  refine loop_st (fun i : Nat => [(4, .int .i64 i)]) (fun i => [(107, .arr 57 0 3 ((to_PPt a i).map PPt.row))]) (fun i => i ≤ a.length) (fun i => a.length - i) 0 (by simp only [u_E0, u_E1, u_M0, u_M1, w_setE0, w_setE1, w_setM0, w_setM1, reduceIte, Nat.reduceEqDiff]; exact ⟨by repeat' (first | exact trivial | refine ⟨.inr rfl, ?_⟩), ⟨congrArg (fun g => some (AObj.arr 57 0 3 g)) m0, trivial⟩, rfl, rfl⟩) (Nat.zero_le _) ?_
  intro i hi NX hN
  unfold lO_laws_toPlanPointS_0; simp (config := { maxSteps := 2000000 }) only [bitvec_to_nat, reduceIte, Nat.reduceEqDiff, Nat.reduceAdd, Nat.reduceLeDiff, reduceCtorEq, Nat.reduceBEq, Nat.reduceLT, Nat.reduceMod, List.forall_mem_cons, retG_ret, retQ_eq, retQ_eqN, retOk, keepB, re_tupl, orr_t, t_toPPt, tk_map, dp_map, toNat_pred, appE, rowsOf, List.take_length, List.length_cons, List.length_nil, Nat.zero_add, srow, irow, un_s, un_i, Zone.row, Zone_eta, un_Zone, Word.row, Word_eta, Own.row, Own_eta, Part.row, Part_eta, Seen.row, Seen_eta, Book.row, Book_eta, Sector.row, Sector_eta, HCraft.row, HCraft_eta, World.row, World_eta, PKind.row, PKind_eta, PPt.row, PPt_eta, Cell.row, Cell_eta, PBase.row, PBase_eta, un_Word, un_Own, un_Part, un_Seen, un_Book, un_Sector, un_HCraft, un_World, un_PKind, un_PPt, un_Cell, un_PBase, set_PPt, Nat.sub_zero]
  refine ⟨fun h => ?_, fun h => ?_⟩
  · repeat' (first | with_reducible apply And.intro | with_reducible intro _)
    all_goals first
      | omega
      | rfl
      | (have e := to_PPt_st (a := a) (i := i) (by omega)
         try simp only [PPt.row] at *
         refine hN (i + 1) _ ⟨by repeat' (first | exact trivial | refine ⟨.inr rfl, ?_⟩), ⟨congrArg (fun g => some (AObj.arr 57 0 3 (List.map PPt.row g))) e, trivial⟩, rfl, rfl⟩ ?_ ?_ <;> omega)
  · have e : i = a.length := by omega
    subst e
    simp only [to_PPt, List.take_length, Nat.sub_self, List.replicate_zero, List.append_nil]
    exact ⟨trivial, rfl, rfl⟩
theorem c_toPBase (s : PBase) (hs : s.small) : Contract P 7 [.agg (s.row 1)] [] (.agg (s.row 0)) [] := by
  unfold PBase.small at hs
  simp only [PBase.row]
  refine fn_sound (((Env.nil P).add 23 t_toPKindS h_toPKindS).add 24 t_toPPtS h_toPPtS) hm k_laws_toPlanBase (Nat.le_of_ble_eq_true rfl) rfl ?_; unfold s_laws_toPlanBase; simp (config := { maxSteps := 2000000 }) only [bitvec_to_nat, reduceIte, Nat.reduceEqDiff, Nat.reduceAdd, Nat.reduceLeDiff, reduceCtorEq, Nat.reduceBEq, Nat.reduceLT, Nat.reduceMod, List.forall_mem_cons, t_toPKindS, t_toPPtS, tk_map, dp_map, toNat_pred, appE, rowsOf, List.take_length, List.length_cons, List.length_nil, Nat.zero_add, srow, irow, un_s, un_i, Zone.row, Zone_eta, un_Zone, Word.row, Word_eta, Own.row, Own_eta, Part.row, Part_eta, Seen.row, Seen_eta, Book.row, Book_eta, Sector.row, Sector_eta, HCraft.row, HCraft_eta, World.row, World_eta, PKind.row, PKind_eta, PPt.row, PPt_eta, Cell.row, Cell_eta, PBase.row, PBase_eta, un_Word, un_Own, un_Part, un_Seen, un_Book, un_Sector, un_HCraft, un_World, un_PKind, un_PPt, un_Cell, un_PBase]
  repeat' (first | with_reducible apply And.intro | with_reducible intro _)
  all_goals first | omega | grind | grind [Word.small, Own.small, Part.small, Book.small, Sector.small, HCraft.small, World.small, PBase.small]
end
end Go.Ve

namespace Go.Ve
noncomputable section
open Go.Proofs
set_option linter.unusedSimpArgs false
set_option linter.unusedVariables false
set_option maxRecDepth 100000
theorem c_eqCell (c d : Cell)  : Contract P 28 [.agg (c.row), .agg (d.row)] [] (.bool (decide (c = d))) [] := by
  obtain ⟨c_x, c_y⟩ := c
  obtain ⟨d_x, d_y⟩ := d
  simp only [Cell.row]
  refine fn_sound (Env.nil P) hm k_laws_eqPlanCell (Nat.le_of_ble_eq_true rfl) rfl ?_; unfold s_laws_eqPlanCell; simp (config := { maxSteps := 2000000 }) only [bitvec_to_nat, reduceIte, Nat.reduceEqDiff, Nat.reduceAdd, Nat.reduceLeDiff, reduceCtorEq, Nat.reduceBEq, Nat.reduceLT, Nat.reduceMod, List.forall_mem_cons, tk_map, dp_map, toNat_pred, appE, rowsOf, List.take_length, List.length_cons, List.length_nil, Nat.zero_add, srow, irow, un_s, un_i, Zone.row, Zone_eta, un_Zone, Word.row, Word_eta, Own.row, Own_eta, Part.row, Part_eta, Seen.row, Seen_eta, Book.row, Book_eta, Sector.row, Sector_eta, HCraft.row, HCraft_eta, World.row, World_eta, PKind.row, PKind_eta, PPt.row, PPt_eta, Cell.row, Cell_eta, PBase.row, PBase_eta, un_Word, un_Own, un_Part, un_Seen, un_Book, un_Sector, un_HCraft, un_World, un_PKind, un_PPt, un_Cell, un_PBase]
  simp only [Cell.mk.injEq]
  repeat' (first | with_reducible apply And.intro | with_reducible intro _)
  all_goals first | omega | (simp_all; done) | grind
def t_eqCell : List AV → Option (Prop × AV)
  | [.agg [.int .i64 c_x, .int .i64 c_y], .agg [.int .i64 d_x, .int .i64 d_y]] => some ((True) ∧ (True), .bool (decide ((Cell.mk c_x c_y) = (Cell.mk d_x d_y))))
  | _ => none
theorem h_eqCell : ∀ args p v, t_eqCell args = some (p, v) → p → Contract P 28 args [] v [] ∧ noref v = true ∧ No99 v := by
  intro args p v h1 h2
  unfold t_eqCell at h1
  split at h1
  · rename_i c_x c_y d_x d_y
    cases h1
    obtain ⟨_, HP⟩ := h2
    have := c_eqCell (Cell.mk c_x c_y) (Cell.mk d_x d_y)
    exact ⟨by simpa only [Cell.row, Cell.row] using this, rfl, trivial⟩
  · cases h1
theorem c_eqCellS (t t' : Nat) (p q : List Cell) (hp : p.length ≤ 4611686018427387904) : Contract P 10 [.sl t 2 (p.map Cell.row), .sl t' 2 (q.map Cell.row)] [] (.bool (decide (p = q))) [] := by
  refine fn_sound ((Env.nil P).add 28 t_eqCell h_eqCell) hm k_laws_eqPlanCellS (Nat.le_of_ble_eq_true rfl) rfl ?_; unfold s_laws_eqPlanCellS; simp (config := { maxSteps := 2000000 }) only [bitvec_to_nat, reduceIte, Nat.reduceEqDiff, Nat.reduceAdd, Nat.reduceLeDiff, reduceCtorEq, Nat.reduceBEq, Nat.reduceLT, Nat.reduceMod, List.forall_mem_cons, t_eqCell, tk_map, dp_map, toNat_pred, appE, rowsOf, List.take_length, List.length_cons, List.length_nil, Nat.zero_add, srow, irow, un_s, un_i, Zone.row, Zone_eta, un_Zone, Word.row, Word_eta, Own.row, Own_eta, Part.row, Part_eta, Seen.row, Seen_eta, Book.row, Book_eta, Sector.row, Sector_eta, HCraft.row, HCraft_eta, World.row, World_eta, PKind.row, PKind_eta, PPt.row, PPt_eta, Cell.row, Cell_eta, PBase.row, PBase_eta, un_Word, un_Own, un_Part, un_Seen, un_Book, un_Sector, un_HCraft, un_World, un_PKind, un_PPt, un_Cell, un_PBase]
  refine ⟨fun h1 h => h1 (by rw [h]), fun h1 => ?_⟩
  refine loop_st (fun i : Nat => [(5, .int .i64 i)]) (fun _ => []) (fun i => i ≤ p.length ∧ ∀ j, j < i → p.getD j default = q.getD j default) (fun i => p.length - i) (0) (by simp only [u_E0, u_E1, u_M0, u_M1, w_setE0, w_setE1, w_setM0, w_setM1, reduceIte, Nat.reduceEqDiff]; exact ⟨by repeat' (first | exact trivial | refine ⟨.inr rfl, ?_⟩), by repeat' (first | exact trivial | refine ⟨rfl, ?_⟩), by first | rfl | simp [closedB, refsIn, refsInL, refsInO, dom, refsInL_nr, *], by first | rfl | simp [keepB, dom]⟩) ?_ ?_
  · exact ⟨Nat.zero_le _, by intro j hj; omega⟩
  intro i hi NX hN
  unfold l_laws_eqPlanCellS_0; simp (config := { maxSteps := 2000000 }) only [bitvec_to_nat, reduceIte, Nat.reduceEqDiff, Nat.reduceAdd, Nat.reduceLeDiff, reduceCtorEq, Nat.reduceBEq, Nat.reduceLT, Nat.reduceMod, List.forall_mem_cons, t_eqCell, tk_map, dp_map, toNat_pred, appE, rowsOf, List.take_length, List.length_cons, List.length_nil, Nat.zero_add, srow, irow, un_s, un_i, Zone.row, Zone_eta, un_Zone, Word.row, Word_eta, Own.row, Own_eta, Part.row, Part_eta, Seen.row, Seen_eta, Book.row, Book_eta, Sector.row, Sector_eta, HCraft.row, HCraft_eta, World.row, World_eta, PKind.row, PKind_eta, PPt.row, PPt_eta, Cell.row, Cell_eta, PBase.row, PBase_eta, un_Word, un_Own, un_Part, un_Seen, un_Book, un_Sector, un_HCraft, un_World, un_PKind, un_PPt, un_Cell, un_PBase]
  skip
  repeat' (first | with_reducible apply And.intro | with_reducible intro _)
  all_goals first
    | omega
    | (refine hN (i + 1) _ (by simp only [u_E0, u_E1, u_M0, u_M1, w_setE0, w_setE1, w_setM0, w_setM1, reduceIte, Nat.reduceEqDiff]; exact ⟨by repeat' (first | exact trivial | refine ⟨.inr rfl, ?_⟩), by repeat' (first | exact trivial | refine ⟨rfl, ?_⟩), by first | rfl | simp [closedB, refsIn, refsInL, refsInO, dom, refsInL_nr, *], by first | rfl | simp [keepB, dom]⟩) ?_ ?_
       · exact ⟨by omega, all_snoc hi.2 (by with_reducible assumption)⟩
       · omega)
    | (intro h; subst h; exact absurd rfl (by with_reducible assumption))
    | (exact ext_of (by omega) fun j hj => hi.2 j (by omega))
    | grind
def t_eqCellS : List AV → Option (Prop × AV)
  | [.sl ct 2 cx, .sl dt 2 dx] => some ((((cx.map unCell).map Cell.row = cx) ∧ ((dx.map unCell).map Cell.row = dx)) ∧ ((cx.map unCell).length ≤ 4611686018427387904), .bool (decide ((cx.map unCell) = (dx.map unCell))))
  | _ => none
theorem h_eqCellS : ∀ args p v, t_eqCellS args = some (p, v) → p → Contract P 10 args [] v [] ∧ noref v = true ∧ No99 v := by
  intro args p v h1 h2
  unfold t_eqCellS at h1
  split at h1
  · rename_i ct cx dt dx
    cases h1
    obtain ⟨⟨e0, e1⟩, HP⟩ := h2
    have := c_eqCellS ct dt (cx.map unCell) (dx.map unCell) HP
    exact ⟨by simpa only [e0, e1] using this, rfl, trivial⟩
  · cases h1
def mk_ByteArray (k : Int) : ByteArray := mtx k
def ms_ByteArray (k : Int) (n : Nat) : List ByteArray := (List.range n).map fun j : Nat => mk_ByteArray (k + (j : Int))
theorem ms_ByteArray_len {k : Int} {n : Nat} : (ms_ByteArray k n).length = n := by simp [ms_ByteArray]
theorem ms_ByteArray_get {k : Int} {n j : Nat} (h : j < n) : (ms_ByteArray k n).getD j default = mk_ByteArray (k + (j : Int)) := by simp [ms_ByteArray, h]
theorem setm_ByteArray {l : List ByteArray} {i : Nat} {v : ByteArray} : (l.map srow).set i (setSeg ((l.map srow).getD i []) 0 [.str v]) = (l.set i v).map srow :=
  set_rows (α := ByteArray) (f := srow) (fun _ => v) fun x => by simp [srow, setSeg]
set_option maxHeartbeats 1000000 in
theorem c_markByteArrayS (v : Nat) (k : Int) (a : List ByteArray) (ha : a.length ≤ 1048577) (hk : 0 ≤ k ∧ k ≤ 1125899906842624) : Contract P 14 [.own 3 v 0 a.length, .int .i64 k] [(3, .arr 9 v 1 (a.map srow))] (.int .i64 (k + a.length)) [(3, .arr 9 v 1 ((ms_ByteArray k a.length).map srow))] := by
  have hz : ((0 : Nat) : Int) = 0 := rfl
  have gs : True := trivial
  refine fn_sound ((Env.nil P).add 33 t_markText h_markText) hm k_laws_markStringS (Nat.le_of_ble_eq_true rfl) rfl ?_; unfold s_laws_markStringS; simp (config := { maxSteps := 2000000 }) only [bitvec_to_nat, reduceIte, Nat.reduceEqDiff, Nat.reduceAdd, Nat.reduceLeDiff, reduceCtorEq, Nat.reduceBEq, Nat.reduceLT, Nat.reduceMod, List.forall_mem_cons, retG_ret, retQ_eq, retQ_eqN, retOk, keepB, re_tupl, orr_t, t_markText, setm_ByteArray, List.set_set, gs, irow, srow, Int.toNat_natCast, List.length_map, List.length_set, Nat.sub_zero, Nat.zero_add, hz]
  refine loop_st (fun b : Nat × List ByteArray => [(1, .int .i64 (k + b.1)), (5, .int .i64 b.1)]) (fun b => [(3, .arr 9 v 1 (b.2.map srow))]) (fun b => b.2.length = a.length ∧ b.1 ≤ a.length ∧ ∀ j, j < b.1 → b.2.getD j default = mk_ByteArray (k + (j : Int))) (fun b => a.length - b.1) (0, a) ?_ ⟨rfl, Nat.zero_le _, fun j hj => absurd hj (Nat.not_lt_zero _)⟩ ?_
  · have e0 : k + ((0 : Nat) : Int) = k := by omega
    simp only [e0]
    simp only [u_E0, u_E1, u_M0, u_M1, w_setE0, w_setE1, w_setM0, w_setM1, reduceIte, Nat.reduceEqDiff]; exact ⟨by repeat' (first | exact trivial | refine ⟨.inr rfl, ?_⟩), by repeat' (first | exact trivial | refine ⟨rfl, ?_⟩), by first | rfl | simp [closedB, refsIn, refsInL, refsInO, dom, refsInL_nr, *], by first | rfl | simp [keepB, dom]⟩
  rintro ⟨i, l⟩ ⟨h1, h2, h3⟩ NX hN
  simp only at h1 h2 h3
  have gs : i < a.length → ∀ x : ByteArray, (l.set i x).getD i default = x := fun h x => getD_seti' (by omega)
  by_cases hi : i < a.length
  · have gs := gs hi
    have e5 : k + ((i + 1 : Nat) : Int) = k + (i : Int) + 1 := by omega
    unfold l_laws_markStringS_0; simp (config := { maxSteps := 2000000 }) only [bitvec_to_nat, reduceIte, Nat.reduceEqDiff, Nat.reduceAdd, Nat.reduceLeDiff, reduceCtorEq, Nat.reduceBEq, Nat.reduceLT, Nat.reduceMod, List.forall_mem_cons, retG_ret, retQ_eq, retQ_eqN, retOk, keepB, re_tupl, orr_t, t_markText, setm_ByteArray, List.set_set, gs, irow, srow, Int.toNat_natCast, List.length_map, List.length_set, Nat.sub_zero, Nat.zero_add, hz]
    repeat' (first | with_reducible apply And.intro | with_reducible intro _)
    all_goals first
      | omega
      | (refine hN (i + 1, l.set i (mk_ByteArray (k + (i : Int)))) _ (by simp only [e5]; simp only [u_E0, u_E1, u_M0, u_M1, w_setE0, w_setE1, w_setM0, w_setM1, reduceIte, Nat.reduceEqDiff]; exact ⟨by repeat' (first | exact trivial | refine ⟨.inr rfl, ?_⟩), by repeat' (first | exact trivial | refine ⟨rfl, ?_⟩), by first | rfl | simp [closedB, refsIn, refsInL, refsInO, dom, refsInL_nr, *], by first | rfl | simp [keepB, dom]⟩) ⟨by simp only [List.length_set]; exact h1, hi, fun j hj => ?_⟩ (by simp only; omega)
         simp only at hj ⊢
         by_cases e : j = i
         · subst e; exact getD_seti' (by omega)
         · rw [getD_setn' (Ne.symm e)]; exact h3 j (by omega))
      | (exfalso; omega)
  · have hl : l = ms_ByteArray k a.length := ext_of (by rw [ms_ByteArray_len]; exact h1) fun j hj => by rw [ms_ByteArray_get (by omega)]; exact h3 j (by omega)
    have hi' : ¬ (i : Int) < a.length := by omega
    unfold l_laws_markStringS_0; simp (config := { maxSteps := 2000000 }) only [bitvec_to_nat, reduceIte, Nat.reduceEqDiff, Nat.reduceAdd, Nat.reduceLeDiff, reduceCtorEq, Nat.reduceBEq, Nat.reduceLT, Nat.reduceMod, List.forall_mem_cons, retG_ret, retQ_eq, retQ_eqN, retOk, keepB, re_tupl, orr_t, t_markText, setm_ByteArray, List.set_set, gs, irow, srow, Int.toNat_natCast, List.length_map, List.length_set, Nat.sub_zero, Nat.zero_add, hz, hi']
    refine ⟨by omega, ?_⟩
    rw [hl]
def mk_PKind (k : Int) : PKind := ⟨mtx (k), k + 1, k + 1 + 1⟩
def ms_PKind (k : Int) (n : Nat) : List PKind := (List.range n).map fun j : Nat => mk_PKind (k + 3 * (j : Int))
theorem ms_PKind_len {k : Int} {n : Nat} : (ms_PKind k n).length = n := by simp [ms_PKind]
theorem ms_PKind_get {k : Int} {n j : Nat} (h : j < n) : (ms_PKind k n).getD j default = mk_PKind (k + 3 * (j : Int)) := by simp [ms_PKind, h]
theorem setm_PKind0 {l : List PKind} {i : Nat} {v : ByteArray} : (l.map PKind.row).set i (setSeg ((l.map PKind.row).getD i []) 0 [.str v]) = (l.set i { l.getD i default with nm := v }).map PKind.row :=
  set_rows (α := PKind) (f := PKind.row) (fun s => { s with nm := v }) fun x => by simp [PKind.row, setSeg]
theorem setm_PKind1 {l : List PKind} {i : Nat} {v : Int} : (l.map PKind.row).set i (setSeg ((l.map PKind.row).getD i []) 1 [.int .i64 v]) = (l.set i { l.getD i default with q := v }).map PKind.row :=
  set_rows (α := PKind) (f := PKind.row) (fun s => { s with q := v }) fun x => by simp [PKind.row, setSeg]
theorem setm_PKind2 {l : List PKind} {i : Nat} {v : Int} : (l.map PKind.row).set i (setSeg ((l.map PKind.row).getD i []) 2 [.int .i64 v]) = (l.set i { l.getD i default with sl := v }).map PKind.row :=
  set_rows (α := PKind) (f := PKind.row) (fun s => { s with sl := v }) fun x => by simp [PKind.row, setSeg]
set_option maxHeartbeats 1000000 in
theorem c_markPKindS (v : Nat) (k : Int) (a : List PKind) (ha : a.length ≤ 1048577) (hk : 0 ≤ k ∧ k ≤ 1125899906842624) : Contract P 31 [.own 3 v 0 a.length, .int .i64 k] [(3, .arr 73 v 3 (a.map PKind.row))] (.int .i64 (k + 3 * a.length)) [(3, .arr 73 v 3 ((ms_PKind k a.length).map PKind.row))] := by
  have hz : ((0 : Nat) : Int) = 0 := rfl
  have gs : True := trivial
  refine fn_sound ((Env.nil P).add 33 t_markText h_markText) hm k_laws_markPlanKindS (Nat.le_of_ble_eq_true rfl) rfl ?_; unfold s_laws_markPlanKindS; simp (config := { maxSteps := 2000000 }) only [bitvec_to_nat, reduceIte, Nat.reduceEqDiff, Nat.reduceAdd, Nat.reduceLeDiff, reduceCtorEq, Nat.reduceBEq, Nat.reduceLT, Nat.reduceMod, List.forall_mem_cons, retG_ret, retQ_eq, retQ_eqN, retOk, keepB, re_tupl, orr_t, t_markText, setm_PKind0, setm_PKind1, setm_PKind2, List.set_set, gs, PKind.row, irow, srow, Int.toNat_natCast, List.length_map, List.length_set, Nat.sub_zero, Nat.zero_add, hz]
  refine loop_st (fun b : Nat × List PKind => [(1, .int .i64 (k + 3 * b.1)), (5, .int .i64 b.1)]) (fun b => [(3, .arr 73 v 3 (b.2.map PKind.row))]) (fun b => b.2.length = a.length ∧ b.1 ≤ a.length ∧ ∀ j, j < b.1 → b.2.getD j default = mk_PKind (k + 3 * (j : Int))) (fun b => a.length - b.1) (0, a) ?_ ⟨rfl, Nat.zero_le _, fun j hj => absurd hj (Nat.not_lt_zero _)⟩ ?_
  · have e0 : k + 3 * ((0 : Nat) : Int) = k := by omega
    simp only [e0]
    simp only [u_E0, u_E1, u_M0, u_M1, w_setE0, w_setE1, w_setM0, w_setM1, reduceIte, Nat.reduceEqDiff]; exact ⟨by repeat' (first | exact trivial | refine ⟨.inr rfl, ?_⟩), by repeat' (first | exact trivial | refine ⟨rfl, ?_⟩), by first | rfl | simp [closedB, refsIn, refsInL, refsInO, dom, refsInL_nr, *], by first | rfl | simp [keepB, dom]⟩
  rintro ⟨i, l⟩ ⟨h1, h2, h3⟩ NX hN
  simp only at h1 h2 h3
  have gs : i < a.length → ∀ x : PKind, (l.set i x).getD i default = x := fun h x => getD_seti' (by omega)
  by_cases hi : i < a.length
  · have gs := gs hi
    have e5 : k + 3 * ((i + 1 : Nat) : Int) = k + 3 * (i : Int) + 1 + 1 + 1 := by omega
    unfold l_laws_markPlanKindS_0; simp (config := { maxSteps := 2000000 }) only [bitvec_to_nat, reduceIte, Nat.reduceEqDiff, Nat.reduceAdd, Nat.reduceLeDiff, reduceCtorEq, Nat.reduceBEq, Nat.reduceLT, Nat.reduceMod, List.forall_mem_cons, retG_ret, retQ_eq, retQ_eqN, retOk, keepB, re_tupl, orr_t, t_markText, setm_PKind0, setm_PKind1, setm_PKind2, List.set_set, gs, PKind.row, irow, srow, Int.toNat_natCast, List.length_map, List.length_set, Nat.sub_zero, Nat.zero_add, hz]
    repeat' (first | with_reducible apply And.intro | with_reducible intro _)
    all_goals first
      | omega
      | (refine hN (i + 1, l.set i (mk_PKind (k + 3 * (i : Int)))) _ (by simp only [e5]; simp only [u_E0, u_E1, u_M0, u_M1, w_setE0, w_setE1, w_setM0, w_setM1, reduceIte, Nat.reduceEqDiff]; exact ⟨by repeat' (first | exact trivial | refine ⟨.inr rfl, ?_⟩), by repeat' (first | exact trivial | refine ⟨rfl, ?_⟩), by first | rfl | simp [closedB, refsIn, refsInL, refsInO, dom, refsInL_nr, *], by first | rfl | simp [keepB, dom]⟩) ⟨by simp only [List.length_set]; exact h1, hi, fun j hj => ?_⟩ (by simp only; omega)
         simp only at hj ⊢
         by_cases e : j = i
         · subst e; exact getD_seti' (by omega)
         · rw [getD_setn' (Ne.symm e)]; exact h3 j (by omega))
      | (exfalso; omega)
  · have hl : l = ms_PKind k a.length := ext_of (by rw [ms_PKind_len]; exact h1) fun j hj => by rw [ms_PKind_get (by omega)]; exact h3 j (by omega)
    have hi' : ¬ (i : Int) < a.length := by omega
    unfold l_laws_markPlanKindS_0; simp (config := { maxSteps := 2000000 }) only [bitvec_to_nat, reduceIte, Nat.reduceEqDiff, Nat.reduceAdd, Nat.reduceLeDiff, reduceCtorEq, Nat.reduceBEq, Nat.reduceLT, Nat.reduceMod, List.forall_mem_cons, retG_ret, retQ_eq, retQ_eqN, retOk, keepB, re_tupl, orr_t, t_markText, setm_PKind0, setm_PKind1, setm_PKind2, List.set_set, gs, PKind.row, irow, srow, Int.toNat_natCast, List.length_map, List.length_set, Nat.sub_zero, Nat.zero_add, hz, hi']
    refine ⟨by omega, ?_⟩
    rw [hl]
def mk_PPt (k : Int) : PPt := ⟨mtx (k), k + 1, k + 1 + 1⟩
def ms_PPt (k : Int) (n : Nat) : List PPt := (List.range n).map fun j : Nat => mk_PPt (k + 3 * (j : Int))
theorem ms_PPt_len {k : Int} {n : Nat} : (ms_PPt k n).length = n := by simp [ms_PPt]
theorem ms_PPt_get {k : Int} {n j : Nat} (h : j < n) : (ms_PPt k n).getD j default = mk_PPt (k + 3 * (j : Int)) := by simp [ms_PPt, h]
theorem setm_PPt0 {l : List PPt} {i : Nat} {v : ByteArray} : (l.map PPt.row).set i (setSeg ((l.map PPt.row).getD i []) 0 [.str v]) = (l.set i { l.getD i default with nm := v }).map PPt.row :=
  set_rows (α := PPt) (f := PPt.row) (fun s => { s with nm := v }) fun x => by simp [PPt.row, setSeg]
theorem setm_PPt1 {l : List PPt} {i : Nat} {v : Int} : (l.map PPt.row).set i (setSeg ((l.map PPt.row).getD i []) 1 [.int .i64 v]) = (l.set i { l.getD i default with x := v }).map PPt.row :=
  set_rows (α := PPt) (f := PPt.row) (fun s => { s with x := v }) fun x => by simp [PPt.row, setSeg]
theorem setm_PPt2 {l : List PPt} {i : Nat} {v : Int} : (l.map PPt.row).set i (setSeg ((l.map PPt.row).getD i []) 2 [.int .i64 v]) = (l.set i { l.getD i default with y := v }).map PPt.row :=
  set_rows (α := PPt) (f := PPt.row) (fun s => { s with y := v }) fun x => by simp [PPt.row, setSeg]
set_option maxHeartbeats 1000000 in
theorem c_markPPtS (v : Nat) (k : Int) (a : List PPt) (ha : a.length ≤ 1048577) (hk : 0 ≤ k ∧ k ≤ 1125899906842624) : Contract P 32 [.own 3 v 0 a.length, .int .i64 k] [(3, .arr 57 v 3 (a.map PPt.row))] (.int .i64 (k + 3 * a.length)) [(3, .arr 57 v 3 ((ms_PPt k a.length).map PPt.row))] := by
  have hz : ((0 : Nat) : Int) = 0 := rfl
  have gs : True := trivial
  refine fn_sound ((Env.nil P).add 33 t_markText h_markText) hm k_laws_markPlanPointS (Nat.le_of_ble_eq_true rfl) rfl ?_; unfold s_laws_markPlanPointS; simp (config := { maxSteps := 2000000 }) only [bitvec_to_nat, reduceIte, Nat.reduceEqDiff, Nat.reduceAdd, Nat.reduceLeDiff, reduceCtorEq, Nat.reduceBEq, Nat.reduceLT, Nat.reduceMod, List.forall_mem_cons, retG_ret, retQ_eq, retQ_eqN, retOk, keepB, re_tupl, orr_t, t_markText, setm_PPt0, setm_PPt1, setm_PPt2, List.set_set, gs, PPt.row, irow, srow, Int.toNat_natCast, List.length_map, List.length_set, Nat.sub_zero, Nat.zero_add, hz]
  refine loop_st (fun b : Nat × List PPt => [(1, .int .i64 (k + 3 * b.1)), (5, .int .i64 b.1)]) (fun b => [(3, .arr 57 v 3 (b.2.map PPt.row))]) (fun b => b.2.length = a.length ∧ b.1 ≤ a.length ∧ ∀ j, j < b.1 → b.2.getD j default = mk_PPt (k + 3 * (j : Int))) (fun b => a.length - b.1) (0, a) ?_ ⟨rfl, Nat.zero_le _, fun j hj => absurd hj (Nat.not_lt_zero _)⟩ ?_
  · have e0 : k + 3 * ((0 : Nat) : Int) = k := by omega
    simp only [e0]
    simp only [u_E0, u_E1, u_M0, u_M1, w_setE0, w_setE1, w_setM0, w_setM1, reduceIte, Nat.reduceEqDiff]; exact ⟨by repeat' (first | exact trivial | refine ⟨.inr rfl, ?_⟩), by repeat' (first | exact trivial | refine ⟨rfl, ?_⟩), by first | rfl | simp [closedB, refsIn, refsInL, refsInO, dom, refsInL_nr, *], by first | rfl | simp [keepB, dom]⟩
  rintro ⟨i, l⟩ ⟨h1, h2, h3⟩ NX hN
  simp only at h1 h2 h3
  have gs : i < a.length → ∀ x : PPt, (l.set i x).getD i default = x := fun h x => getD_seti' (by omega)
  by_cases hi : i < a.length
  · have gs := gs hi
    have e5 : k + 3 * ((i + 1 : Nat) : Int) = k + 3 * (i : Int) + 1 + 1 + 1 := by omega
    unfold l_laws_markPlanPointS_0; simp (config := { maxSteps := 2000000 }) only [bitvec_to_nat, reduceIte, Nat.reduceEqDiff, Nat.reduceAdd, Nat.reduceLeDiff, reduceCtorEq, Nat.reduceBEq, Nat.reduceLT, Nat.reduceMod, List.forall_mem_cons, retG_ret, retQ_eq, retQ_eqN, retOk, keepB, re_tupl, orr_t, t_markText, setm_PPt0, setm_PPt1, setm_PPt2, List.set_set, gs, PPt.row, irow, srow, Int.toNat_natCast, List.length_map, List.length_set, Nat.sub_zero, Nat.zero_add, hz]
    repeat' (first | with_reducible apply And.intro | with_reducible intro _)
    all_goals first
      | omega
      | (refine hN (i + 1, l.set i (mk_PPt (k + 3 * (i : Int)))) _ (by simp only [e5]; simp only [u_E0, u_E1, u_M0, u_M1, w_setE0, w_setE1, w_setM0, w_setM1, reduceIte, Nat.reduceEqDiff]; exact ⟨by repeat' (first | exact trivial | refine ⟨.inr rfl, ?_⟩), by repeat' (first | exact trivial | refine ⟨rfl, ?_⟩), by first | rfl | simp [closedB, refsIn, refsInL, refsInO, dom, refsInL_nr, *], by first | rfl | simp [keepB, dom]⟩) ⟨by simp only [List.length_set]; exact h1, hi, fun j hj => ?_⟩ (by simp only; omega)
         simp only at hj ⊢
         by_cases e : j = i
         · subst e; exact getD_seti' (by omega)
         · rw [getD_setn' (Ne.symm e)]; exact h3 j (by omega))
      | (exfalso; omega)
  · have hl : l = ms_PPt k a.length := ext_of (by rw [ms_PPt_len]; exact h1) fun j hj => by rw [ms_PPt_get (by omega)]; exact h3 j (by omega)
    have hi' : ¬ (i : Int) < a.length := by omega
    unfold l_laws_markPlanPointS_0; simp (config := { maxSteps := 2000000 }) only [bitvec_to_nat, reduceIte, Nat.reduceEqDiff, Nat.reduceAdd, Nat.reduceLeDiff, reduceCtorEq, Nat.reduceBEq, Nat.reduceLT, Nat.reduceMod, List.forall_mem_cons, retG_ret, retQ_eq, retQ_eqN, retOk, keepB, re_tupl, orr_t, t_markText, setm_PPt0, setm_PPt1, setm_PPt2, List.set_set, gs, PPt.row, irow, srow, Int.toNat_natCast, List.length_map, List.length_set, Nat.sub_zero, Nat.zero_add, hz, hi']
    refine ⟨by omega, ?_⟩
    rw [hl]
def mk_Cell (k : Int) : Cell := ⟨k, k + 1⟩
def ms_Cell (k : Int) (n : Nat) : List Cell := (List.range n).map fun j : Nat => mk_Cell (k + 2 * (j : Int))
theorem ms_Cell_len {k : Int} {n : Nat} : (ms_Cell k n).length = n := by simp [ms_Cell]
theorem ms_Cell_get {k : Int} {n j : Nat} (h : j < n) : (ms_Cell k n).getD j default = mk_Cell (k + 2 * (j : Int)) := by simp [ms_Cell, h]
theorem setm_Cell0 {l : List Cell} {i : Nat} {v : Int} : (l.map Cell.row).set i (setSeg ((l.map Cell.row).getD i []) 0 [.int .i64 v]) = (l.set i { l.getD i default with x := v }).map Cell.row :=
  set_rows (α := Cell) (f := Cell.row) (fun s => { s with x := v }) fun x => by simp [Cell.row, setSeg]
theorem setm_Cell1 {l : List Cell} {i : Nat} {v : Int} : (l.map Cell.row).set i (setSeg ((l.map Cell.row).getD i []) 1 [.int .i64 v]) = (l.set i { l.getD i default with y := v }).map Cell.row :=
  set_rows (α := Cell) (f := Cell.row) (fun s => { s with y := v }) fun x => by simp [Cell.row, setSeg]
set_option maxHeartbeats 1000000 in
theorem c_markCellS (v : Nat) (k : Int) (a : List Cell) (ha : a.length ≤ 1048577) (hk : 0 ≤ k ∧ k ≤ 1125899906842624) : Contract P 15 [.own 3 v 0 a.length, .int .i64 k] [(3, .arr 49 v 2 (a.map Cell.row))] (.int .i64 (k + 2 * a.length)) [(3, .arr 49 v 2 ((ms_Cell k a.length).map Cell.row))] := by
  have hz : ((0 : Nat) : Int) = 0 := rfl
  have gs : True := trivial
  refine fn_sound (Env.nil P) hm k_laws_markPlanCellS (Nat.le_of_ble_eq_true rfl) rfl ?_; unfold s_laws_markPlanCellS; simp (config := { maxSteps := 2000000 }) only [bitvec_to_nat, reduceIte, Nat.reduceEqDiff, Nat.reduceAdd, Nat.reduceLeDiff, reduceCtorEq, Nat.reduceBEq, Nat.reduceLT, Nat.reduceMod, List.forall_mem_cons, retG_ret, retQ_eq, retQ_eqN, retOk, keepB, re_tupl, orr_t, setm_Cell0, setm_Cell1, List.set_set, gs, Cell.row, irow, srow, Int.toNat_natCast, List.length_map, List.length_set, Nat.sub_zero, Nat.zero_add, hz]
  refine loop_st (fun b : Nat × List Cell => [(1, .int .i64 (k + 2 * b.1)), (5, .int .i64 b.1)]) (fun b => [(3, .arr 49 v 2 (b.2.map Cell.row))]) (fun b => b.2.length = a.length ∧ b.1 ≤ a.length ∧ ∀ j, j < b.1 → b.2.getD j default = mk_Cell (k + 2 * (j : Int))) (fun b => a.length - b.1) (0, a) ?_ ⟨rfl, Nat.zero_le _, fun j hj => absurd hj (Nat.not_lt_zero _)⟩ ?_
  · have e0 : k + 2 * ((0 : Nat) : Int) = k := by omega
    simp only [e0]
    simp only [u_E0, u_E1, u_M0, u_M1, w_setE0, w_setE1, w_setM0, w_setM1, reduceIte, Nat.reduceEqDiff]; exact ⟨by repeat' (first | exact trivial | refine ⟨.inr rfl, ?_⟩), by repeat' (first | exact trivial | refine ⟨rfl, ?_⟩), by first | rfl | simp [closedB, refsIn, refsInL, refsInO, dom, refsInL_nr, *], by first | rfl | simp [keepB, dom]⟩
  rintro ⟨i, l⟩ ⟨h1, h2, h3⟩ NX hN
  simp only at h1 h2 h3
  have gs : i < a.length → ∀ x : Cell, (l.set i x).getD i default = x := fun h x => getD_seti' (by omega)
  by_cases hi : i < a.length
  · have gs := gs hi
    have e5 : k + 2 * ((i + 1 : Nat) : Int) = k + 2 * (i : Int) + 1 + 1 := by omega
    unfold l_laws_markPlanCellS_0; simp (config := { maxSteps := 2000000 }) only [bitvec_to_nat, reduceIte, Nat.reduceEqDiff, Nat.reduceAdd, Nat.reduceLeDiff, reduceCtorEq, Nat.reduceBEq, Nat.reduceLT, Nat.reduceMod, List.forall_mem_cons, retG_ret, retQ_eq, retQ_eqN, retOk, keepB, re_tupl, orr_t, setm_Cell0, setm_Cell1, List.set_set, gs, Cell.row, irow, srow, Int.toNat_natCast, List.length_map, List.length_set, Nat.sub_zero, Nat.zero_add, hz]
    repeat' (first | with_reducible apply And.intro | with_reducible intro _)
    all_goals first
      | omega
      | (refine hN (i + 1, l.set i (mk_Cell (k + 2 * (i : Int)))) _ (by simp only [e5]; simp only [u_E0, u_E1, u_M0, u_M1, w_setE0, w_setE1, w_setM0, w_setM1, reduceIte, Nat.reduceEqDiff]; exact ⟨by repeat' (first | exact trivial | refine ⟨.inr rfl, ?_⟩), by repeat' (first | exact trivial | refine ⟨rfl, ?_⟩), by first | rfl | simp [closedB, refsIn, refsInL, refsInO, dom, refsInL_nr, *], by first | rfl | simp [keepB, dom]⟩) ⟨by simp only [List.length_set]; exact h1, hi, fun j hj => ?_⟩ (by simp only; omega)
         simp only at hj ⊢
         by_cases e : j = i
         · subst e; exact getD_seti' (by omega)
         · rw [getD_setn' (Ne.symm e)]; exact h3 j (by omega))
      | (exfalso; omega)
  · have hl : l = ms_Cell k a.length := ext_of (by rw [ms_Cell_len]; exact h1) fun j hj => by rw [ms_Cell_get (by omega)]; exact h3 j (by omega)
    have hi' : ¬ (i : Int) < a.length := by omega
    unfold l_laws_markPlanCellS_0; simp (config := { maxSteps := 2000000 }) only [bitvec_to_nat, reduceIte, Nat.reduceEqDiff, Nat.reduceAdd, Nat.reduceLeDiff, reduceCtorEq, Nat.reduceBEq, Nat.reduceLT, Nat.reduceMod, List.forall_mem_cons, retG_ret, retQ_eq, retQ_eqN, retOk, keepB, re_tupl, orr_t, setm_Cell0, setm_Cell1, List.set_set, gs, Cell.row, irow, srow, Int.toNat_natCast, List.length_map, List.length_set, Nat.sub_zero, Nat.zero_add, hz, hi']
    refine ⟨by omega, ?_⟩
    rw [hl]
set_option maxHeartbeats 1000000 in
theorem c_heldCellS (t : Nat) (k : Int) (n : Nat) (ha : n ≤ 1048577) (hk : 0 ≤ k ∧ k ≤ 1125899906842624) : Contract P 16 [.sl t 2 ((ms_Cell k n).map Cell.row), .int .i64 k] [] (.int .i64 (k + 2 * n)) [] := by
  have hz : ((0 : Nat) : Int) = 0 := rfl
  refine fn_sound (Env.nil P) hm k_laws_heldPlanCellS (Nat.le_of_ble_eq_true rfl) rfl ?_; unfold s_laws_heldPlanCellS; simp (config := { maxSteps := 2000000 }) only [bitvec_to_nat, reduceIte, Nat.reduceEqDiff, Nat.reduceAdd, Nat.reduceLeDiff, reduceCtorEq, Nat.reduceBEq, Nat.reduceLT, Nat.reduceMod, List.forall_mem_cons, Cell.row, Cell_eta, irow, srow, Int.toNat_natCast, List.length_map, Nat.sub_zero, Nat.zero_add, hz, eq_self, ms_Cell_len]
  refine loop_st (fun i : Nat => [(1, .int .i64 (k + 2 * i)), (5, .int .i64 i)]) (fun _ => []) (fun i => i ≤ n) (fun i => n - i) 0 ?_ (Nat.zero_le _) ?_
  · have e0 : k + 2 * ((0 : Nat) : Int) = k := by omega
    simp only [e0]
    simp only [u_E0, u_E1, u_M0, u_M1, w_setE0, w_setE1, w_setM0, w_setM1, reduceIte, Nat.reduceEqDiff]; exact ⟨by repeat' (first | exact trivial | refine ⟨.inr rfl, ?_⟩), by repeat' (first | exact trivial | refine ⟨rfl, ?_⟩), by first | rfl | simp [closedB, refsIn, refsInL, refsInO, dom, refsInL_nr, *], by first | rfl | simp [keepB, dom]⟩
  intro i hi NX hN
  have e5 : k + 2 * ((i + 1 : Nat) : Int) = k + 2 * (i : Int) + 1 + 1 := by omega
  by_cases h : i < n
  · have hg := ms_Cell_get (k := k) h
    have h' : (i : Int) < n := by omega
    unfold l_laws_heldPlanCellS_0; simp (config := { maxSteps := 2000000 }) only [bitvec_to_nat, reduceIte, Nat.reduceEqDiff, Nat.reduceAdd, Nat.reduceLeDiff, reduceCtorEq, Nat.reduceBEq, Nat.reduceLT, Nat.reduceMod, List.forall_mem_cons, Cell.row, Cell_eta, irow, srow, Int.toNat_natCast, List.length_map, Nat.sub_zero, Nat.zero_add, hz, eq_self, ms_Cell_len, h', hg, mk_Cell, not_true_eq_false, ne_eq, bne_self_eq_false]
    repeat' (first | with_reducible apply And.intro | with_reducible intro _)
    all_goals first
      | omega
      | rfl
      | (rename_i h; exact absurd rfl h)
      | (refine hN (i + 1) _ (by simp only [e5]; simp only [u_E0, u_E1, u_M0, u_M1, w_setE0, w_setE1, w_setM0, w_setM1, reduceIte, Nat.reduceEqDiff]; exact ⟨by repeat' (first | exact trivial | refine ⟨.inr rfl, ?_⟩), by repeat' (first | exact trivial | refine ⟨rfl, ?_⟩), by first | rfl | simp [closedB, refsIn, refsInL, refsInO, dom, refsInL_nr, *], by first | rfl | simp [keepB, dom]⟩) ?_ ?_ <;> omega)
  · have h' : ¬ (i : Int) < n := by omega
    unfold l_laws_heldPlanCellS_0; simp (config := { maxSteps := 2000000 }) only [bitvec_to_nat, reduceIte, Nat.reduceEqDiff, Nat.reduceAdd, Nat.reduceLeDiff, reduceCtorEq, Nat.reduceBEq, Nat.reduceLT, Nat.reduceMod, List.forall_mem_cons, Cell.row, Cell_eta, irow, srow, Int.toNat_natCast, List.length_map, Nat.sub_zero, Nat.zero_add, hz, eq_self, ms_Cell_len, h']
    omega
theorem c_markNCellS (t : Nat) (k : Int) : Contract P 15 [.sl t 2 [], .int .i64 k] [] (.int .i64 k) [] := by
  refine fn_sound (Env.nil P) hm k_laws_markPlanCellS (Nat.le_of_ble_eq_true rfl) rfl ?_; unfold s_laws_markPlanCellS; simp (config := { maxSteps := 2000000 }) only [bitvec_to_nat, reduceIte, Nat.reduceEqDiff, Nat.reduceAdd, Nat.reduceLeDiff, reduceCtorEq, Nat.reduceBEq, Nat.reduceLT, Nat.reduceMod, List.forall_mem_cons, List.map_nil, List.length_nil]
  refine loop_st (fun _ : Nat => [(5, .int .i64 0)]) (fun _ => []) (fun _ => True) (fun i => i) 0 (by simp only [u_E0, u_E1, u_M0, u_M1, w_setE0, w_setE1, w_setM0, w_setM1, reduceIte, Nat.reduceEqDiff]; exact ⟨by repeat' (first | exact trivial | refine ⟨.inr rfl, ?_⟩), by repeat' (first | exact trivial | refine ⟨rfl, ?_⟩), by first | rfl | simp [closedB, refsIn, refsInL, refsInO, dom, refsInL_nr, *], by first | rfl | simp [keepB, dom]⟩) trivial ?_
  intro i _ NX hN
  unfold l_laws_markPlanCellS_0; simp (config := { maxSteps := 2000000 }) only [bitvec_to_nat, reduceIte, Nat.reduceEqDiff, Nat.reduceAdd, Nat.reduceLeDiff, reduceCtorEq, Nat.reduceBEq, Nat.reduceLT, Nat.reduceMod, List.forall_mem_cons, List.map_nil, List.length_nil]
  first
    | exact fun h => absurd h (by omega)
    | exact ⟨fun h => absurd h (by omega), fun _ => by first | trivial | rfl⟩
def t_heldCellS : List AV → Option (Prop × AV)
  | [.sl _ 2 zx, .int .i64 k] => some (zx = (ms_Cell k zx.length).map Cell.row ∧ zx.length ≤ 1048577 ∧ (0 ≤ k ∧ k ≤ 1125899906842624), .int .i64 (k + 2 * (zx.length : Nat)))
  | _ => none
theorem h_heldCellS : ∀ args p v, t_heldCellS args = some (p, v) → p → Contract P 16 args [] v [] ∧ noref v = true ∧ No99 v := by
  intro args p v h1 h2
  unfold t_heldCellS at h1
  split at h1
  · rename_i t zx k
    cases h1
    obtain ⟨e1, h3, h4⟩ := h2
    have := c_heldCellS t k zx.length h3 h4
    rw [← e1] at this
    exact ⟨this, rfl, trivial⟩
  · cases h1
end
end Go.Ve

namespace Go.Ve
noncomputable section
open Go.Proofs
set_option linter.unusedSimpArgs false
set_option linter.unusedVariables false
set_option maxRecDepth 100000
theorem c_markBase (v w : Nat) (ks : List PKind) (ps : List PPt) (k : Int) (hk : 0 ≤ k ∧ k ≤ 100000000) (h1 : ks.length ≤ 1048577) (h2 : ps.length ≤ 1048577) : Contract P 13 [.agg [.own 3 v 0 ks.length, .own 4 w 0 ps.length], .int .i64 k]
    [(3, .arr 73 v 3 (ks.map PKind.row)), (4, .arr 57 w 3 (ps.map PPt.row))] (.int .i64 (k + 3 * ks.length + 3 * ps.length))
    [(3, .arr 73 v 3 ((ms_PKind k ks.length).map PKind.row)), (4, .arr 57 w 3 ((ms_PPt (k + 3 * ks.length) ps.length).map PPt.row))] := by
  have tkK : True := trivial
  have tkQ : True := trivial
  have m1 := c_markPKindS v k ks h1 (by omega)
  have m2 := (c_markPPtS w (k + 3 * ks.length) ps h2 (by omega)).ren (swp 3 4) (swp_swp _ _)
  simp only [renL, ren, renM, renO, swp, reduceIte, Nat.reduceEqDiff, Nat.reduceLT] at m2
  refine fn_sound (Env.nil P) hm k_laws_markPlanBase (Nat.le_of_ble_eq_true rfl) rfl ?_; unfold s_laws_markPlanBase; simp (config := { maxSteps := 2000000 }) only [bitvec_to_nat, reduceIte, Nat.reduceEqDiff, Nat.reduceAdd, Nat.reduceLeDiff, reduceCtorEq, Nat.reduceBEq, Nat.reduceLT, Nat.reduceMod, List.forall_mem_cons, retG_ret, retQ_eq, retQ_eqN, retOk, keepB, re_tupl, orr_t, List.length_map, Int.toNat_natCast, Nat.zero_add, Nat.sub_zero, tkK, tkQ, ms_PKind_len, ms_PPt_len]
  refine ⟨_, _, .inl ⟨_, m1, by simp [getM], by simp [dom], rfl, rfl, rfl, rfl, rfl⟩, ?_⟩
  simp (config := { maxSteps := 2000000 }) only [bitvec_to_nat, reduceIte, Nat.reduceEqDiff, Nat.reduceAdd, Nat.reduceLeDiff, reduceCtorEq, Nat.reduceBEq, Nat.reduceLT, Nat.reduceMod, List.forall_mem_cons, retG_ret, retQ_eq, retQ_eqN, retOk, keepB, re_tupl, orr_t, List.length_map, Int.toNat_natCast, Nat.zero_add, Nat.sub_zero, tkK, tkQ, ms_PKind_len, ms_PPt_len]
  refine ⟨_, _, .inl ⟨_, m2, by simp [getM], by simp [dom], rfl, rfl, rfl, rfl, rfl⟩, ?_⟩
  simp (config := { maxSteps := 2000000 }) only [bitvec_to_nat, reduceIte, Nat.reduceEqDiff, Nat.reduceAdd, Nat.reduceLeDiff, reduceCtorEq, Nat.reduceBEq, Nat.reduceLT, Nat.reduceMod, List.forall_mem_cons, retG_ret, retQ_eq, retQ_eqN, retOk, keepB, re_tupl, orr_t, List.length_map, Int.toNat_natCast, Nat.zero_add, Nat.sub_zero, tkK, tkQ, ms_PKind_len, ms_PPt_len]
def t_eqBase : List AV → Option (Prop × AV)
  | [.agg [.sl _ 3 kx, .sl _ 3 px], .agg [.sl _ 3 ky, .sl _ 3 py]] => some (((kx.map unPKind).map PKind.row = kx ∧ (px.map unPPt).map PPt.row = px) ∧ (kx = ky ∧ px = py) ∧ (kx.map unPKind).length ≤ 4611686018427387904 ∧ (px.map unPPt).length ≤ 4611686018427387904, .bool true)
  | _ => none
theorem eqBaseT (t t1 t2 t3 : Nat) (ks : List PKind) (ps : List PPt) (h1 : ks.length ≤ 4611686018427387904) (h2 : ps.length ≤ 4611686018427387904) : Contract P 11 [.agg [.sl t 3 (ks.map PKind.row), .sl t1 3 (ps.map PPt.row)], .agg [.sl t2 3 (ks.map PKind.row), .sl t3 3 (ps.map PPt.row)]] [] (.bool true) [] := by
  have tkK : True := trivial
  have tkQ : True := trivial
  refine fn_sound (((Env.nil P).add 29 t_eqPKindS h_eqPKindS).add 30 t_eqPPtS h_eqPPtS) hm k_laws_eqPlanBase (Nat.le_of_ble_eq_true rfl) rfl ?_; unfold s_laws_eqPlanBase; simp (config := { maxSteps := 2000000 }) only [bitvec_to_nat, reduceIte, Nat.reduceEqDiff, Nat.reduceAdd, Nat.reduceLeDiff, reduceCtorEq, Nat.reduceBEq, Nat.reduceLT, Nat.reduceMod, List.forall_mem_cons, t_eqPKindS, t_eqPPtS, List.length_map, Int.toNat_natCast, Nat.zero_add, Nat.sub_zero, tkK, tkQ, ms_PKind_len, ms_PPt_len, un_PKind, un_PPt]
  repeat' (first | with_reducible apply And.intro | with_reducible intro _)
  all_goals first | omega | rfl | trivial | (exfalso; simp_all; done) | trace_state
theorem h_eqBase : ∀ args p v, t_eqBase args = some (p, v) → p → Contract P 11 args [] v [] ∧ noref v = true ∧ No99 v := by
  intro args p v h1 h2
  unfold t_eqBase at h1
  split at h1
  · rename_i t kx t1 px t2 ky t3 py
    cases h1
    obtain ⟨⟨e1, e2⟩, ⟨e3, e4⟩, h3, h4⟩ := h2
    have := eqBaseT t t1 t2 t3 (kx.map unPKind) (px.map unPPt) h3 h4
    rw [e1, e2] at this
    subst e3 e4
    exact ⟨this, rfl, trivial⟩
  · cases h1
def sh_ByteArray : List LSh := [.str]
theorem fit_ByteArray (r : List AV) (h : fitsL sh_ByteArray r) : ∃ x : ByteArray, r = srow x ∧ x.toList.length ≤ 9223372036854775807 := by
  simp only [sh_ByteArray, fitsL, fits] at h
  obtain ⟨_, _, rfl, ⟨n, rfl, h⟩, rfl⟩ := h
  exact ⟨n, rfl, by rw [← toList_size]; unfold maxLen at h; omega⟩
def sh_PKind : List LSh := [.str, .int .i64, .int .i64]
theorem fit_PKind (r : List AV) (h : fitsL sh_PKind r) : ∃ x : PKind, r = PKind.row x ∧ x.fitp := by
  simp only [sh_PKind, fitsL, fits] at h
  obtain ⟨_, _, rfl, ⟨nm, rfl, h_nm⟩, _, _, rfl, ⟨q, rfl, _⟩, _, _, rfl, ⟨sl, rfl, _⟩, rfl⟩ := h

  exact ⟨⟨nm, q, sl⟩, rfl, (by have e := toList_size nm; unfold maxLen at h_nm; show nm.toList.length ≤ _; omega)⟩
def sh_PPt : List LSh := [.str, .int .i64, .int .i64]
theorem fit_PPt (r : List AV) (h : fitsL sh_PPt r) : ∃ x : PPt, r = PPt.row x ∧ x.fitp := by
  simp only [sh_PPt, fitsL, fits] at h
  obtain ⟨_, _, rfl, ⟨nm, rfl, h_nm⟩, _, _, rfl, ⟨x, rfl, _⟩, _, _, rfl, ⟨y, rfl, _⟩, rfl⟩ := h

  exact ⟨⟨nm, x, y⟩, rfl, (by have e := toList_size nm; unfold maxLen at h_nm; show nm.toList.length ≤ _; omega)⟩
def sh_PBase : List LSh := [.sl sh_PKind, .sl sh_PPt]
theorem fit_PBase (r : List AV) (h : fitsL sh_PBase r) : ∃ x : PBase, r = (PBase.row 1) x ∧ x.fitp := by
  simp only [sh_PBase, fitsL, fits] at h
  obtain ⟨_, _, rfl, ⟨ks, rfl, h_ks, r_ks⟩, _, _, rfl, ⟨ps, rfl, h_ps, r_ps⟩, rfl⟩ := h
  obtain ⟨ks, rfl, p_ks⟩ := fit_rows2 fit_PKind r_ks
  rw [List.length_map] at h_ks
  obtain ⟨ps, rfl, p_ps⟩ := fit_rows2 fit_PPt r_ps
  rw [List.length_map] at h_ps
  exact ⟨⟨ks, ps⟩, rfl, ⟨⟨(by unfold maxLen at h_ks; omega), p_ks⟩, ⟨(by unfold maxLen at h_ps; omega), p_ps⟩⟩⟩
theorem c_toBaseO (s : PBase) (hs : s.small) : Contract P 7 [.agg (s.row 1)] [] (.agg [.own 601 0 0 s.ks.length, .own 602 0 0 s.ps.length]) [(601, .arr 73 0 3 (s.ks.map PKind.row)), (602, .arr 57 0 3 (s.ps.map PPt.row))] := by
  have tkK : True := trivial
  have tkQ : True := trivial
  unfold PBase.small at hs
  have h1 := (c_toPKindSO 1 s.ks hs.1).ren (swp 107 601) (swp_swp _ _)
  have h2 := (c_toPPtSO 1 s.ps hs.2).ren (swp 107 602) (swp_swp _ _)
  simp only [renL, ren, renM, renO, swp, reduceIte, Nat.reduceEqDiff, Nat.reduceLT] at h1 h2
  simp only [PBase.row]
  refine fn_sound (Env.nil P) hm k_laws_toPlanBase (Nat.le_of_ble_eq_true rfl) rfl ?_; unfold s_laws_toPlanBase; simp (config := { maxSteps := 2000000 }) only [bitvec_to_nat, reduceIte, Nat.reduceEqDiff, Nat.reduceAdd, Nat.reduceLeDiff, reduceCtorEq, Nat.reduceBEq, Nat.reduceLT, Nat.reduceMod, List.forall_mem_cons, retG_ret, retQ_eq, retQ_eqN, retOk, keepB, re_tupl, orr_t, List.length_map, Int.toNat_natCast, Nat.zero_add, Nat.sub_zero, tkK, tkQ, ms_PKind_len, ms_PPt_len]
  refine ⟨_, _, .inr (.inr (.inl ⟨_, rfl, h1, by simp [getM], by simp [refsIn, refsInL, dom], rfl, trivial, by simp [No99O, no99_PKind]⟩)), ?_⟩
  simp (config := { maxSteps := 2000000 }) only [bitvec_to_nat, reduceIte, Nat.reduceEqDiff, Nat.reduceAdd, Nat.reduceLeDiff, reduceCtorEq, Nat.reduceBEq, Nat.reduceLT, Nat.reduceMod, List.forall_mem_cons, retG_ret, retQ_eq, retQ_eqN, retOk, keepB, re_tupl, orr_t, List.length_map, Int.toNat_natCast, Nat.zero_add, Nat.sub_zero, tkK, tkQ, ms_PKind_len, ms_PPt_len]
  refine ⟨_, _, .inr (.inr (.inl ⟨_, rfl, h2, by simp [getM], by simp [refsIn, refsInL, dom], rfl, trivial, by simp [No99O, no99_PPt]⟩)), ?_⟩
  simp (config := { maxSteps := 2000000 }) only [bitvec_to_nat, reduceIte, Nat.reduceEqDiff, Nat.reduceAdd, Nat.reduceLeDiff, reduceCtorEq, Nat.reduceBEq, Nat.reduceLT, Nat.reduceMod, List.forall_mem_cons, retG_ret, retQ_eq, retQ_eqN, retOk, keepB, re_tupl, orr_t, List.length_map, Int.toNat_natCast, Nat.zero_add, Nat.sub_zero, tkK, tkQ, ms_PKind_len, ms_PPt_len]
  repeat' (first | with_reducible apply And.intro | with_reducible intro _)
  all_goals first | omega | rfl | simp [refsIn, refsInL, dom] | trace_state
end
end Go.Ve

namespace Go.Ve
noncomputable section
open Go.Proofs
set_option linter.unusedSimpArgs false
set_option linter.unusedVariables false
set_option maxRecDepth 100000
open Go.ChangeShapes Go.WideShapes
def t_sCells : List AV → Option (Prop × AV)
  | [.agg [.sl t 3 kx, .sl t' 3 px], .sl t2 1 wx] => some (((kx.map unPKind).map PKind.row = kx ∧ (px.map unPPt).map PPt.row = px ∧ (wx.map unS).map srow = wx) ∧ (kx.map unPKind).length ≤ 1048576 ∧ (px.map unPPt).length ≤ 1048576 ∧ (wx.map unS).length ≤ 1048576, .tup [.sl 0 2 ((plL (kx.map unPKind) (px.map unPPt) (wx.map unS)).map Cell.row), .bool (decide (plOk (kx.map unPKind) (px.map unPPt) (wx.map unS)))])
  | _ => none
theorem h_sCells : ∀ args p v, t_sCells args = some (p, v) → p → Contract P 6 args [] v [] ∧ noref v = true ∧ No99 v := by
  intro args p v h1 h2
  unfold t_sCells at h1
  split at h1
  · rename_i t kx t' px t2 wx
    cases h1
    obtain ⟨⟨e1, e2, e3⟩, h3, h4, h5⟩ := h2
    have := c_sCells t t' t2 (kx.map unPKind) (px.map unPPt) (wx.map unS) h3 h4 h5
    simp only [e1, e2, e3] at this
    exact ⟨this, rfl, by simp [No99, No99L, no99_Cell]⟩
  · cases h1
set_option maxHeartbeats 8000000 in
theorem c_lawY (b : PBase) (ws : List ByteArray) (hf : b.fitp) (hpf : ws.length ≤ 9223372036854775807 ∧ ∀ y ∈ ws, y.toList.length ≤ 9223372036854775807) (hv : plOk b.ks b.ps ws) : Contract P 3 [.agg (b.row 1), .sl 1 1 (ws.map srow)] [] (.bool true) [] := by
  have tkK : List.take b.ks.length (b.ks.map PKind.row) = b.ks.map PKind.row := List.take_of_length_le (by simp)
  have tkP : List.take b.ps.length (b.ps.map PPt.row) = b.ps.map PPt.row := List.take_of_length_le (by simp)
  have tkW : List.take ws.length (ws.map srow) = ws.map srow := List.take_of_length_le (by simp)
  have hlz : True := trivial
  have hlv : plOk b.ks b.ps ws = True := eq_true hv
  have hlo : decide (plOk b.ks b.ps ws) = true := decide_eq_true hv
  have tkZ : List.take (plL b.ks b.ps ws).length ((plL b.ks b.ps ws).map Cell.row) = (plL b.ks b.ps ws).map Cell.row := List.take_of_length_le (by simp)
  have tkM : ∀ k : Int, List.take (plL b.ks b.ps ws).length ((ms_Cell k (plL b.ks b.ps ws).length).map Cell.row) = (ms_Cell k (plL b.ks b.ps ws).length).map Cell.row := fun k => List.take_of_length_le (by rw [List.length_map, ms_Cell_len]; omega)
  have z2 : PBase.sz b 1048576 ≤ 1048576 := by have := (meas_PBase b 1048576 (by omega)).2.2; omega
  generalize hn1 : PBase.sz b 1048576 = n1 at *
  simp only [PBase.row]
  refine fn_sound ((((((((Env.nil P).add 4 t_szPBase h_szPBase).add 5 t_szStringS h_szStringS).add 6 t_sCells h_sCells).add 10 t_eqCellS h_eqCellS).add 11 t_eqBase h_eqBase).add 12 t_eqStringS h_eqStringS).add 16 t_heldCellS h_heldCellS) hm k_laws_FnExactPlanCells (Nat.le_of_ble_eq_true rfl) rfl ?_; unfold s_laws_FnExactPlanCells; simp (config := { maxSteps := 2000000 }) only [bitvec_to_nat, reduceIte, Nat.reduceEqDiff, Nat.reduceAdd, Nat.reduceLeDiff, reduceCtorEq, Nat.reduceBEq, Nat.reduceLT, Nat.reduceMod, List.forall_mem_cons, t_szPBase, t_szStringS, t_sCells, t_eqCellS, t_eqBase, t_eqStringS, t_heldCellS, tk_map, dp_map, toNat_pred, appE, rowsOf, List.take_length, List.length_cons, List.length_nil, Nat.zero_add, srow, irow, un_s, un_i, Zone.row, Zone_eta, un_Zone, Word.row, Word_eta, Own.row, Own_eta, Part.row, Part_eta, Seen.row, Seen_eta, Book.row, Book_eta, Sector.row, Sector_eta, HCraft.row, HCraft_eta, World.row, World_eta, PKind.row, PKind_eta, PPt.row, PPt_eta, Cell.row, Cell_eta, PBase.row, PBase_eta, un_Word, un_Own, un_Part, un_Seen, un_Book, un_Sector, un_HCraft, un_World, un_PKind, un_PPt, un_Cell, un_PBase, PBase.row, PBase_eta, List.length_map, Int.toNat_natCast, Nat.sub_zero, and_self, eq_self, not_true_eq_false, ne_eq, bne_self_eq_false, ms_Cell_len, tkK, tkP, tkW, tkZ, tkM, hlz, hlv, hn1, hlo, List.nil_append]
  refine ⟨⟨by omega, hf⟩, fun g1 => ⟨⟨by omega, hpf⟩, fun g2 => ?_⟩⟩
  have hs : b.small := PBase.sz_ok (a := 1048576) (by omega) (by omega)
  have hw : ws.length ≤ 1048576 := (szS_ok (p := fun _ => True) meas_str (fun _ _ _ _ => trivial) (a := n1) (by omega) (by omega)).1
  have hsm := hs
  unfold PBase.small at hsm
  obtain ⟨hk, hp⟩ := hsm
  have hnk : ∀ x ∈ b.ks, x.nm.toList.length ≤ 9223372036854775807 := hf.1.2
  have hnp : ∀ x ∈ b.ps, x.nm.toList.length ≤ 9223372036854775807 := hf.2.2
  have hT := c_toPBase b hs
  have n9T : No99 (.agg (b.row 0)) := by simp [PBase.row, No99, No99L, no99_PKind, no99_PPt]
  have hTP := c_toByteArrayS 1 ws hw
  have n9P : No99 (.sl 0 1 (ws.map srow)) := by simp only [No99]; exact ⟨by omega, no99_str ws⟩
  have hTO := c_toBaseO b hs
  have hPO := (c_toByteArraySO 1 ws hw).ren (swp 107 621) (swp_swp _ _)
  have hMk := ((c_markBase 0 0 b.ks b.ps 1 (by omega) (by omega) (by omega)).ren (swp 3 601) (swp_swp _ _)).ren (swp 4 602) (swp_swp _ _)
  have hMP := (c_markByteArrayS 0 (1 + 3 * b.ks.length + 3 * b.ps.length) ws (by omega) (by omega)).ren (swp 3 621) (swp_swp _ _)
  have hlen : (plL b.ks b.ps ws).length ≤ 40 := by rw [show plL b.ks b.ps ws = plRun b.ps ws ws.length from if_pos hv]; exact hv.2
  have hI1 := (c_iCellsY 99 99 99 b.ks b.ps ws hk hp hw hnk hnp hv).ren (swp 132 731) (swp_swp _ _)
  have hI2 := (c_iCellsY 0 0 0 b.ks b.ps ws hk hp hw hnk hnp hv).ren (swp 132 741) (swp_swp _ _)
  have hZ := (c_markCellS ((plL b.ks b.ps ws).length - 1) 1 (plL b.ks b.ps ws) (by omega) (by omega)).ren (swp 3 731) (swp_swp _ _)
  simp only [renL, ren, renM, renO, swp, reduceIte, Nat.reduceEqDiff, Nat.reduceLT, List.length_map] at hI1 hI2 hZ hPO hMP hMk
  simp only [PBase.row] at hT n9T hTO
  refine ⟨_, _, .inr (.inl ⟨rfl, _, rfl, hT, rfl, n9T⟩), ?_⟩
  simp (config := { maxSteps := 2000000 }) only [bitvec_to_nat, reduceIte, Nat.reduceEqDiff, Nat.reduceAdd, Nat.reduceLeDiff, reduceCtorEq, Nat.reduceBEq, Nat.reduceLT, Nat.reduceMod, List.forall_mem_cons, t_szPBase, t_szStringS, t_sCells, t_eqCellS, t_eqBase, t_eqStringS, t_heldCellS, tk_map, dp_map, toNat_pred, appE, rowsOf, List.take_length, List.length_cons, List.length_nil, Nat.zero_add, srow, irow, un_s, un_i, Zone.row, Zone_eta, un_Zone, Word.row, Word_eta, Own.row, Own_eta, Part.row, Part_eta, Seen.row, Seen_eta, Book.row, Book_eta, Sector.row, Sector_eta, HCraft.row, HCraft_eta, World.row, World_eta, PKind.row, PKind_eta, PPt.row, PPt_eta, Cell.row, Cell_eta, PBase.row, PBase_eta, un_Word, un_Own, un_Part, un_Seen, un_Book, un_Sector, un_HCraft, un_World, un_PKind, un_PPt, un_Cell, un_PBase, PBase.row, PBase_eta, List.length_map, Int.toNat_natCast, Nat.sub_zero, and_self, eq_self, not_true_eq_false, ne_eq, bne_self_eq_false, ms_Cell_len, tkK, tkP, tkW, tkZ, tkM, hlz, hlv, hn1, hlo, List.nil_append]
  refine ⟨_, _, .inr (.inl ⟨rfl, _, rfl, hTP, rfl, n9P⟩), ?_⟩
  simp (config := { maxSteps := 2000000 }) only [bitvec_to_nat, reduceIte, Nat.reduceEqDiff, Nat.reduceAdd, Nat.reduceLeDiff, reduceCtorEq, Nat.reduceBEq, Nat.reduceLT, Nat.reduceMod, List.forall_mem_cons, t_szPBase, t_szStringS, t_sCells, t_eqCellS, t_eqBase, t_eqStringS, t_heldCellS, tk_map, dp_map, toNat_pred, appE, rowsOf, List.take_length, List.length_cons, List.length_nil, Nat.zero_add, srow, irow, un_s, un_i, Zone.row, Zone_eta, un_Zone, Word.row, Word_eta, Own.row, Own_eta, Part.row, Part_eta, Seen.row, Seen_eta, Book.row, Book_eta, Sector.row, Sector_eta, HCraft.row, HCraft_eta, World.row, World_eta, PKind.row, PKind_eta, PPt.row, PPt_eta, Cell.row, Cell_eta, PBase.row, PBase_eta, un_Word, un_Own, un_Part, un_Seen, un_Book, un_Sector, un_HCraft, un_World, un_PKind, un_PPt, un_Cell, un_PBase, PBase.row, PBase_eta, List.length_map, Int.toNat_natCast, Nat.sub_zero, and_self, eq_self, not_true_eq_false, ne_eq, bne_self_eq_false, ms_Cell_len, tkK, tkP, tkW, tkZ, tkM, hlz, hlv, hn1, hlo, List.nil_append]
  refine ⟨⟨hk, hp, hw⟩, _, _, .inr (.inr (.inl ⟨_, rfl, hTO, by simp [getM], by simp [refsIn, refsInL, dom], rfl, by simp [No99, No99L, No99LL], by simp [No99O, no99_PKind, no99_PPt, no99_str, no99_Cell]⟩)), ?_⟩
  simp (config := { maxSteps := 2000000 }) only [bitvec_to_nat, reduceIte, Nat.reduceEqDiff, Nat.reduceAdd, Nat.reduceLeDiff, reduceCtorEq, Nat.reduceBEq, Nat.reduceLT, Nat.reduceMod, List.forall_mem_cons, t_szPBase, t_szStringS, t_sCells, t_eqCellS, t_eqBase, t_eqStringS, t_heldCellS, tk_map, dp_map, toNat_pred, appE, rowsOf, List.take_length, List.length_cons, List.length_nil, Nat.zero_add, srow, irow, un_s, un_i, Zone.row, Zone_eta, un_Zone, Word.row, Word_eta, Own.row, Own_eta, Part.row, Part_eta, Seen.row, Seen_eta, Book.row, Book_eta, Sector.row, Sector_eta, HCraft.row, HCraft_eta, World.row, World_eta, PKind.row, PKind_eta, PPt.row, PPt_eta, Cell.row, Cell_eta, PBase.row, PBase_eta, un_Word, un_Own, un_Part, un_Seen, un_Book, un_Sector, un_HCraft, un_World, un_PKind, un_PPt, un_Cell, un_PBase, PBase.row, PBase_eta, List.length_map, Int.toNat_natCast, Nat.sub_zero, and_self, eq_self, not_true_eq_false, ne_eq, bne_self_eq_false, ms_Cell_len, tkK, tkP, tkW, tkZ, tkM, hlz, hlv, hn1, hlo, List.nil_append]
  refine ⟨_, _, .inr (.inr (.inl ⟨_, rfl, hPO, by simp [getM], by simp [refsIn, refsInL, dom], rfl, by simp [No99, No99L, No99LL], by simp [No99O, no99_PKind, no99_PPt, no99_str, no99_Cell]⟩)), ?_⟩
  simp (config := { maxSteps := 2000000 }) only [bitvec_to_nat, reduceIte, Nat.reduceEqDiff, Nat.reduceAdd, Nat.reduceLeDiff, reduceCtorEq, Nat.reduceBEq, Nat.reduceLT, Nat.reduceMod, List.forall_mem_cons, t_szPBase, t_szStringS, t_sCells, t_eqCellS, t_eqBase, t_eqStringS, t_heldCellS, tk_map, dp_map, toNat_pred, appE, rowsOf, List.take_length, List.length_cons, List.length_nil, Nat.zero_add, srow, irow, un_s, un_i, Zone.row, Zone_eta, un_Zone, Word.row, Word_eta, Own.row, Own_eta, Part.row, Part_eta, Seen.row, Seen_eta, Book.row, Book_eta, Sector.row, Sector_eta, HCraft.row, HCraft_eta, World.row, World_eta, PKind.row, PKind_eta, PPt.row, PPt_eta, Cell.row, Cell_eta, PBase.row, PBase_eta, un_Word, un_Own, un_Part, un_Seen, un_Book, un_Sector, un_HCraft, un_World, un_PKind, un_PPt, un_Cell, un_PBase, PBase.row, PBase_eta, List.length_map, Int.toNat_natCast, Nat.sub_zero, and_self, eq_self, not_true_eq_false, ne_eq, bne_self_eq_false, ms_Cell_len, tkK, tkP, tkW, tkZ, tkM, hlz, hlv, hn1, hlo, List.nil_append]
  refine ⟨_, _, .inr (.inr (.inl ⟨_, by simp [purL, pur, getM, take_all, tkK, tkP, tkW], hI1, by simp [getM], by simp [refsIn, refsInL, dom], rfl, by simp [No99, No99L, No99LL], by simp [No99O, no99_PKind, no99_PPt, no99_str, no99_Cell]⟩)), ?_⟩
  simp (config := { maxSteps := 2000000 }) only [bitvec_to_nat, reduceIte, Nat.reduceEqDiff, Nat.reduceAdd, Nat.reduceLeDiff, reduceCtorEq, Nat.reduceBEq, Nat.reduceLT, Nat.reduceMod, List.forall_mem_cons, t_szPBase, t_szStringS, t_sCells, t_eqCellS, t_eqBase, t_eqStringS, t_heldCellS, tk_map, dp_map, toNat_pred, appE, rowsOf, List.take_length, List.length_cons, List.length_nil, Nat.zero_add, srow, irow, un_s, un_i, Zone.row, Zone_eta, un_Zone, Word.row, Word_eta, Own.row, Own_eta, Part.row, Part_eta, Seen.row, Seen_eta, Book.row, Book_eta, Sector.row, Sector_eta, HCraft.row, HCraft_eta, World.row, World_eta, PKind.row, PKind_eta, PPt.row, PPt_eta, Cell.row, Cell_eta, PBase.row, PBase_eta, un_Word, un_Own, un_Part, un_Seen, un_Book, un_Sector, un_HCraft, un_World, un_PKind, un_PPt, un_Cell, un_PBase, PBase.row, PBase_eta, List.length_map, Int.toNat_natCast, Nat.sub_zero, and_self, eq_self, not_true_eq_false, ne_eq, bne_self_eq_false, ms_Cell_len, tkK, tkP, tkW, tkZ, tkM, hlz, hlv, hn1, hlo, List.nil_append]
  refine ⟨by omega, _, _, .inr (.inl ⟨rfl, _, rfl, hT, rfl, n9T⟩), ?_⟩
  simp (config := { maxSteps := 2000000 }) only [bitvec_to_nat, reduceIte, Nat.reduceEqDiff, Nat.reduceAdd, Nat.reduceLeDiff, reduceCtorEq, Nat.reduceBEq, Nat.reduceLT, Nat.reduceMod, List.forall_mem_cons, t_szPBase, t_szStringS, t_sCells, t_eqCellS, t_eqBase, t_eqStringS, t_heldCellS, tk_map, dp_map, toNat_pred, appE, rowsOf, List.take_length, List.length_cons, List.length_nil, Nat.zero_add, srow, irow, un_s, un_i, Zone.row, Zone_eta, un_Zone, Word.row, Word_eta, Own.row, Own_eta, Part.row, Part_eta, Seen.row, Seen_eta, Book.row, Book_eta, Sector.row, Sector_eta, HCraft.row, HCraft_eta, World.row, World_eta, PKind.row, PKind_eta, PPt.row, PPt_eta, Cell.row, Cell_eta, PBase.row, PBase_eta, un_Word, un_Own, un_Part, un_Seen, un_Book, un_Sector, un_HCraft, un_World, un_PKind, un_PPt, un_Cell, un_PBase, PBase.row, PBase_eta, List.length_map, Int.toNat_natCast, Nat.sub_zero, and_self, eq_self, not_true_eq_false, ne_eq, bne_self_eq_false, ms_Cell_len, tkK, tkP, tkW, tkZ, tkM, hlz, hlv, hn1, hlo, List.nil_append]
  refine ⟨⟨by omega, by omega⟩, _, _, .inr (.inl ⟨rfl, _, rfl, hTP, rfl, n9P⟩), ?_⟩
  simp (config := { maxSteps := 2000000 }) only [bitvec_to_nat, reduceIte, Nat.reduceEqDiff, Nat.reduceAdd, Nat.reduceLeDiff, reduceCtorEq, Nat.reduceBEq, Nat.reduceLT, Nat.reduceMod, List.forall_mem_cons, t_szPBase, t_szStringS, t_sCells, t_eqCellS, t_eqBase, t_eqStringS, t_heldCellS, tk_map, dp_map, toNat_pred, appE, rowsOf, List.take_length, List.length_cons, List.length_nil, Nat.zero_add, srow, irow, un_s, un_i, Zone.row, Zone_eta, un_Zone, Word.row, Word_eta, Own.row, Own_eta, Part.row, Part_eta, Seen.row, Seen_eta, Book.row, Book_eta, Sector.row, Sector_eta, HCraft.row, HCraft_eta, World.row, World_eta, PKind.row, PKind_eta, PPt.row, PPt_eta, Cell.row, Cell_eta, PBase.row, PBase_eta, un_Word, un_Own, un_Part, un_Seen, un_Book, un_Sector, un_HCraft, un_World, un_PKind, un_PPt, un_Cell, un_PBase, PBase.row, PBase_eta, List.length_map, Int.toNat_natCast, Nat.sub_zero, and_self, eq_self, not_true_eq_false, ne_eq, bne_self_eq_false, ms_Cell_len, tkK, tkP, tkW, tkZ, tkM, hlz, hlv, hn1, hlo, List.nil_append]
  refine ⟨by omega, _, _, .inl ⟨_, hMk, by simp [getM], by simp [getM, dom], rfl, rfl, rfl, rfl, rfl⟩, ?_⟩
  simp (config := { maxSteps := 2000000 }) only [bitvec_to_nat, reduceIte, Nat.reduceEqDiff, Nat.reduceAdd, Nat.reduceLeDiff, reduceCtorEq, Nat.reduceBEq, Nat.reduceLT, Nat.reduceMod, List.forall_mem_cons, t_szPBase, t_szStringS, t_sCells, t_eqCellS, t_eqBase, t_eqStringS, t_heldCellS, tk_map, dp_map, toNat_pred, appE, rowsOf, List.take_length, List.length_cons, List.length_nil, Nat.zero_add, srow, irow, un_s, un_i, Zone.row, Zone_eta, un_Zone, Word.row, Word_eta, Own.row, Own_eta, Part.row, Part_eta, Seen.row, Seen_eta, Book.row, Book_eta, Sector.row, Sector_eta, HCraft.row, HCraft_eta, World.row, World_eta, PKind.row, PKind_eta, PPt.row, PPt_eta, Cell.row, Cell_eta, PBase.row, PBase_eta, un_Word, un_Own, un_Part, un_Seen, un_Book, un_Sector, un_HCraft, un_World, un_PKind, un_PPt, un_Cell, un_PBase, PBase.row, PBase_eta, List.length_map, Int.toNat_natCast, Nat.sub_zero, and_self, eq_self, not_true_eq_false, ne_eq, bne_self_eq_false, ms_Cell_len, tkK, tkP, tkW, tkZ, tkM, hlz, hlv, hn1, hlo, List.nil_append]
  refine ⟨_, _, .inl ⟨_, hMP, by simp [getM], by simp [getM, dom], rfl, rfl, rfl, rfl, rfl⟩, ?_⟩
  simp (config := { maxSteps := 2000000 }) only [bitvec_to_nat, reduceIte, Nat.reduceEqDiff, Nat.reduceAdd, Nat.reduceLeDiff, reduceCtorEq, Nat.reduceBEq, Nat.reduceLT, Nat.reduceMod, List.forall_mem_cons, t_szPBase, t_szStringS, t_sCells, t_eqCellS, t_eqBase, t_eqStringS, t_heldCellS, tk_map, dp_map, toNat_pred, appE, rowsOf, List.take_length, List.length_cons, List.length_nil, Nat.zero_add, srow, irow, un_s, un_i, Zone.row, Zone_eta, un_Zone, Word.row, Word_eta, Own.row, Own_eta, Part.row, Part_eta, Seen.row, Seen_eta, Book.row, Book_eta, Sector.row, Sector_eta, HCraft.row, HCraft_eta, World.row, World_eta, PKind.row, PKind_eta, PPt.row, PPt_eta, Cell.row, Cell_eta, PBase.row, PBase_eta, un_Word, un_Own, un_Part, un_Seen, un_Book, un_Sector, un_HCraft, un_World, un_PKind, un_PPt, un_Cell, un_PBase, PBase.row, PBase_eta, List.length_map, Int.toNat_natCast, Nat.sub_zero, and_self, eq_self, not_true_eq_false, ne_eq, bne_self_eq_false, ms_Cell_len, tkK, tkP, tkW, tkZ, tkM, hlz, hlv, hn1, hlo, List.nil_append]
  refine ⟨fun h => by omega, fun _ => ⟨by omega, _, _, .inl ⟨_, hZ, by simp [getM], by simp [getM, dom], rfl, rfl, rfl, rfl, rfl⟩, ?_⟩⟩
  simp (config := { maxSteps := 2000000 }) only [bitvec_to_nat, reduceIte, Nat.reduceEqDiff, Nat.reduceAdd, Nat.reduceLeDiff, reduceCtorEq, Nat.reduceBEq, Nat.reduceLT, Nat.reduceMod, List.forall_mem_cons, t_szPBase, t_szStringS, t_sCells, t_eqCellS, t_eqBase, t_eqStringS, t_heldCellS, tk_map, dp_map, toNat_pred, appE, rowsOf, List.take_length, List.length_cons, List.length_nil, Nat.zero_add, srow, irow, un_s, un_i, Zone.row, Zone_eta, un_Zone, Word.row, Word_eta, Own.row, Own_eta, Part.row, Part_eta, Seen.row, Seen_eta, Book.row, Book_eta, Sector.row, Sector_eta, HCraft.row, HCraft_eta, World.row, World_eta, PKind.row, PKind_eta, PPt.row, PPt_eta, Cell.row, Cell_eta, PBase.row, PBase_eta, un_Word, un_Own, un_Part, un_Seen, un_Book, un_Sector, un_HCraft, un_World, un_PKind, un_PPt, un_Cell, un_PBase, PBase.row, PBase_eta, List.length_map, Int.toNat_natCast, Nat.sub_zero, and_self, eq_self, not_true_eq_false, ne_eq, bne_self_eq_false, ms_Cell_len, tkK, tkP, tkW, tkZ, tkM, hlz, hlv, hn1, hlo, List.nil_append]
  refine ⟨by omega, fun h => by omega, fun _ => ⟨_, _, .inr (.inl ⟨rfl, _, rfl, hT, rfl, n9T⟩), ?_⟩⟩
  simp (config := { maxSteps := 2000000 }) only [bitvec_to_nat, reduceIte, Nat.reduceEqDiff, Nat.reduceAdd, Nat.reduceLeDiff, reduceCtorEq, Nat.reduceBEq, Nat.reduceLT, Nat.reduceMod, List.forall_mem_cons, t_szPBase, t_szStringS, t_sCells, t_eqCellS, t_eqBase, t_eqStringS, t_heldCellS, tk_map, dp_map, toNat_pred, appE, rowsOf, List.take_length, List.length_cons, List.length_nil, Nat.zero_add, srow, irow, un_s, un_i, Zone.row, Zone_eta, un_Zone, Word.row, Word_eta, Own.row, Own_eta, Part.row, Part_eta, Seen.row, Seen_eta, Book.row, Book_eta, Sector.row, Sector_eta, HCraft.row, HCraft_eta, World.row, World_eta, PKind.row, PKind_eta, PPt.row, PPt_eta, Cell.row, Cell_eta, PBase.row, PBase_eta, un_Word, un_Own, un_Part, un_Seen, un_Book, un_Sector, un_HCraft, un_World, un_PKind, un_PPt, un_Cell, un_PBase, PBase.row, PBase_eta, List.length_map, Int.toNat_natCast, Nat.sub_zero, and_self, eq_self, not_true_eq_false, ne_eq, bne_self_eq_false, ms_Cell_len, tkK, tkP, tkW, tkZ, tkM, hlz, hlv, hn1, hlo, List.nil_append]
  refine ⟨_, _, .inr (.inl ⟨rfl, _, rfl, hTP, rfl, n9P⟩), ?_⟩
  simp (config := { maxSteps := 2000000 }) only [bitvec_to_nat, reduceIte, Nat.reduceEqDiff, Nat.reduceAdd, Nat.reduceLeDiff, reduceCtorEq, Nat.reduceBEq, Nat.reduceLT, Nat.reduceMod, List.forall_mem_cons, t_szPBase, t_szStringS, t_sCells, t_eqCellS, t_eqBase, t_eqStringS, t_heldCellS, tk_map, dp_map, toNat_pred, appE, rowsOf, List.take_length, List.length_cons, List.length_nil, Nat.zero_add, srow, irow, un_s, un_i, Zone.row, Zone_eta, un_Zone, Word.row, Word_eta, Own.row, Own_eta, Part.row, Part_eta, Seen.row, Seen_eta, Book.row, Book_eta, Sector.row, Sector_eta, HCraft.row, HCraft_eta, World.row, World_eta, PKind.row, PKind_eta, PPt.row, PPt_eta, Cell.row, Cell_eta, PBase.row, PBase_eta, un_Word, un_Own, un_Part, un_Seen, un_Book, un_Sector, un_HCraft, un_World, un_PKind, un_PPt, un_Cell, un_PBase, PBase.row, PBase_eta, List.length_map, Int.toNat_natCast, Nat.sub_zero, and_self, eq_self, not_true_eq_false, ne_eq, bne_self_eq_false, ms_Cell_len, tkK, tkP, tkW, tkZ, tkM, hlz, hlv, hn1, hlo, List.nil_append]
  refine ⟨_, _, .inr (.inr (.inl ⟨_, rfl, hI2, by simp [getM], by simp [refsIn, refsInL, dom], rfl, by simp [No99, No99L, No99LL], by simp [No99O, no99_PKind, no99_PPt, no99_str, no99_Cell]⟩)), ?_⟩
  simp (config := { maxSteps := 2000000 }) only [bitvec_to_nat, reduceIte, Nat.reduceEqDiff, Nat.reduceAdd, Nat.reduceLeDiff, reduceCtorEq, Nat.reduceBEq, Nat.reduceLT, Nat.reduceMod, List.forall_mem_cons, t_szPBase, t_szStringS, t_sCells, t_eqCellS, t_eqBase, t_eqStringS, t_heldCellS, tk_map, dp_map, toNat_pred, appE, rowsOf, List.take_length, List.length_cons, List.length_nil, Nat.zero_add, srow, irow, un_s, un_i, Zone.row, Zone_eta, un_Zone, Word.row, Word_eta, Own.row, Own_eta, Part.row, Part_eta, Seen.row, Seen_eta, Book.row, Book_eta, Sector.row, Sector_eta, HCraft.row, HCraft_eta, World.row, World_eta, PKind.row, PKind_eta, PPt.row, PPt_eta, Cell.row, Cell_eta, PBase.row, PBase_eta, un_Word, un_Own, un_Part, un_Seen, un_Book, un_Sector, un_HCraft, un_World, un_PKind, un_PPt, un_Cell, un_PBase, PBase.row, PBase_eta, List.length_map, Int.toNat_natCast, Nat.sub_zero, and_self, eq_self, not_true_eq_false, ne_eq, bne_self_eq_false, ms_Cell_len, tkK, tkP, tkW, tkZ, tkM, hlz, hlv, hn1, hlo, List.nil_append]
  exact ⟨by omega, ⟨by omega, by omega, by omega⟩, fun h => by omega⟩

set_option maxHeartbeats 8000000 in
theorem c_lawN (b : PBase) (ws : List ByteArray) (hf : b.fitp) (hpf : ws.length ≤ 9223372036854775807 ∧ ∀ y ∈ ws, y.toList.length ≤ 9223372036854775807) (hv : ¬ plOk b.ks b.ps ws) : Contract P 3 [.agg (b.row 1), .sl 1 1 (ws.map srow)] [] (.bool true) [] := by
  have tkK : List.take b.ks.length (b.ks.map PKind.row) = b.ks.map PKind.row := List.take_of_length_le (by simp)
  have tkP : List.take b.ps.length (b.ps.map PPt.row) = b.ps.map PPt.row := List.take_of_length_le (by simp)
  have tkW : List.take ws.length (ws.map srow) = ws.map srow := List.take_of_length_le (by simp)
  have hlz : plL b.ks b.ps ws = [] := if_neg hv
  have hlv : plOk b.ks b.ps ws = False := eq_false hv
  have hlo : decide (plOk b.ks b.ps ws) = false := decide_eq_false hv
  have tkZ : True := trivial
  have tkM : True := trivial
  have z2 : PBase.sz b 1048576 ≤ 1048576 := by have := (meas_PBase b 1048576 (by omega)).2.2; omega
  generalize hn1 : PBase.sz b 1048576 = n1 at *
  simp only [PBase.row]
  refine fn_sound ((((((((Env.nil P).add 4 t_szPBase h_szPBase).add 5 t_szStringS h_szStringS).add 6 t_sCells h_sCells).add 10 t_eqCellS h_eqCellS).add 11 t_eqBase h_eqBase).add 12 t_eqStringS h_eqStringS).add 16 t_heldCellS h_heldCellS) hm k_laws_FnExactPlanCells (Nat.le_of_ble_eq_true rfl) rfl ?_; unfold s_laws_FnExactPlanCells; simp (config := { maxSteps := 2000000 }) only [bitvec_to_nat, reduceIte, Nat.reduceEqDiff, Nat.reduceAdd, Nat.reduceLeDiff, reduceCtorEq, Nat.reduceBEq, Nat.reduceLT, Nat.reduceMod, List.forall_mem_cons, t_szPBase, t_szStringS, t_sCells, t_eqCellS, t_eqBase, t_eqStringS, t_heldCellS, tk_map, dp_map, toNat_pred, appE, rowsOf, List.take_length, List.length_cons, List.length_nil, Nat.zero_add, srow, irow, un_s, un_i, Zone.row, Zone_eta, un_Zone, Word.row, Word_eta, Own.row, Own_eta, Part.row, Part_eta, Seen.row, Seen_eta, Book.row, Book_eta, Sector.row, Sector_eta, HCraft.row, HCraft_eta, World.row, World_eta, PKind.row, PKind_eta, PPt.row, PPt_eta, Cell.row, Cell_eta, PBase.row, PBase_eta, un_Word, un_Own, un_Part, un_Seen, un_Book, un_Sector, un_HCraft, un_World, un_PKind, un_PPt, un_Cell, un_PBase, PBase.row, PBase_eta, List.length_map, Int.toNat_natCast, Nat.sub_zero, and_self, eq_self, not_true_eq_false, ne_eq, bne_self_eq_false, ms_Cell_len, tkK, tkP, tkW, tkZ, tkM, hlz, hlv, hn1, hlo, List.nil_append]
  refine ⟨⟨by omega, hf⟩, fun g1 => ⟨⟨by omega, hpf⟩, fun g2 => ?_⟩⟩
  have hs : b.small := PBase.sz_ok (a := 1048576) (by omega) (by omega)
  have hw : ws.length ≤ 1048576 := (szS_ok (p := fun _ => True) meas_str (fun _ _ _ _ => trivial) (a := n1) (by omega) (by omega)).1
  have hsm := hs
  unfold PBase.small at hsm
  obtain ⟨hk, hp⟩ := hsm
  have hnk : ∀ x ∈ b.ks, x.nm.toList.length ≤ 9223372036854775807 := hf.1.2
  have hnp : ∀ x ∈ b.ps, x.nm.toList.length ≤ 9223372036854775807 := hf.2.2
  have hT := c_toPBase b hs
  have n9T : No99 (.agg (b.row 0)) := by simp [PBase.row, No99, No99L, no99_PKind, no99_PPt]
  have hTP := c_toByteArrayS 1 ws hw
  have n9P : No99 (.sl 0 1 (ws.map srow)) := by simp only [No99]; exact ⟨by omega, no99_str ws⟩
  have hTO := c_toBaseO b hs
  have hPO := (c_toByteArraySO 1 ws hw).ren (swp 107 621) (swp_swp _ _)
  have hMk := ((c_markBase 0 0 b.ks b.ps 1 (by omega) (by omega) (by omega)).ren (swp 3 601) (swp_swp _ _)).ren (swp 4 602) (swp_swp _ _)
  have hMP := (c_markByteArrayS 0 (1 + 3 * b.ks.length + 3 * b.ps.length) ws (by omega) (by omega)).ren (swp 3 621) (swp_swp _ _)
  have hI1 := c_iCellsN 99 99 99 b.ks b.ps ws hk hp hw hnk hnp hv
  have hI2 := c_iCellsN 0 0 0 b.ks b.ps ws hk hp hw hnk hnp hv
  simp only [renL, ren, renM, renO, swp, reduceIte, Nat.reduceEqDiff, Nat.reduceLT, List.length_map] at hPO hMP hMk
  simp only [PBase.row] at hT n9T hTO
  refine ⟨_, _, .inr (.inl ⟨rfl, _, rfl, hT, rfl, n9T⟩), ?_⟩
  simp (config := { maxSteps := 2000000 }) only [bitvec_to_nat, reduceIte, Nat.reduceEqDiff, Nat.reduceAdd, Nat.reduceLeDiff, reduceCtorEq, Nat.reduceBEq, Nat.reduceLT, Nat.reduceMod, List.forall_mem_cons, t_szPBase, t_szStringS, t_sCells, t_eqCellS, t_eqBase, t_eqStringS, t_heldCellS, tk_map, dp_map, toNat_pred, appE, rowsOf, List.take_length, List.length_cons, List.length_nil, Nat.zero_add, srow, irow, un_s, un_i, Zone.row, Zone_eta, un_Zone, Word.row, Word_eta, Own.row, Own_eta, Part.row, Part_eta, Seen.row, Seen_eta, Book.row, Book_eta, Sector.row, Sector_eta, HCraft.row, HCraft_eta, World.row, World_eta, PKind.row, PKind_eta, PPt.row, PPt_eta, Cell.row, Cell_eta, PBase.row, PBase_eta, un_Word, un_Own, un_Part, un_Seen, un_Book, un_Sector, un_HCraft, un_World, un_PKind, un_PPt, un_Cell, un_PBase, PBase.row, PBase_eta, List.length_map, Int.toNat_natCast, Nat.sub_zero, and_self, eq_self, not_true_eq_false, ne_eq, bne_self_eq_false, ms_Cell_len, tkK, tkP, tkW, tkZ, tkM, hlz, hlv, hn1, hlo, List.nil_append]
  refine ⟨_, _, .inr (.inl ⟨rfl, _, rfl, hTP, rfl, n9P⟩), ?_⟩
  simp (config := { maxSteps := 2000000 }) only [bitvec_to_nat, reduceIte, Nat.reduceEqDiff, Nat.reduceAdd, Nat.reduceLeDiff, reduceCtorEq, Nat.reduceBEq, Nat.reduceLT, Nat.reduceMod, List.forall_mem_cons, t_szPBase, t_szStringS, t_sCells, t_eqCellS, t_eqBase, t_eqStringS, t_heldCellS, tk_map, dp_map, toNat_pred, appE, rowsOf, List.take_length, List.length_cons, List.length_nil, Nat.zero_add, srow, irow, un_s, un_i, Zone.row, Zone_eta, un_Zone, Word.row, Word_eta, Own.row, Own_eta, Part.row, Part_eta, Seen.row, Seen_eta, Book.row, Book_eta, Sector.row, Sector_eta, HCraft.row, HCraft_eta, World.row, World_eta, PKind.row, PKind_eta, PPt.row, PPt_eta, Cell.row, Cell_eta, PBase.row, PBase_eta, un_Word, un_Own, un_Part, un_Seen, un_Book, un_Sector, un_HCraft, un_World, un_PKind, un_PPt, un_Cell, un_PBase, PBase.row, PBase_eta, List.length_map, Int.toNat_natCast, Nat.sub_zero, and_self, eq_self, not_true_eq_false, ne_eq, bne_self_eq_false, ms_Cell_len, tkK, tkP, tkW, tkZ, tkM, hlz, hlv, hn1, hlo, List.nil_append]
  refine ⟨⟨hk, hp, hw⟩, _, _, .inr (.inr (.inl ⟨_, rfl, hTO, by simp [getM], by simp [refsIn, refsInL, dom], rfl, by simp [No99, No99L, No99LL], by simp [No99O, no99_PKind, no99_PPt, no99_str, no99_Cell]⟩)), ?_⟩
  simp (config := { maxSteps := 2000000 }) only [bitvec_to_nat, reduceIte, Nat.reduceEqDiff, Nat.reduceAdd, Nat.reduceLeDiff, reduceCtorEq, Nat.reduceBEq, Nat.reduceLT, Nat.reduceMod, List.forall_mem_cons, t_szPBase, t_szStringS, t_sCells, t_eqCellS, t_eqBase, t_eqStringS, t_heldCellS, tk_map, dp_map, toNat_pred, appE, rowsOf, List.take_length, List.length_cons, List.length_nil, Nat.zero_add, srow, irow, un_s, un_i, Zone.row, Zone_eta, un_Zone, Word.row, Word_eta, Own.row, Own_eta, Part.row, Part_eta, Seen.row, Seen_eta, Book.row, Book_eta, Sector.row, Sector_eta, HCraft.row, HCraft_eta, World.row, World_eta, PKind.row, PKind_eta, PPt.row, PPt_eta, Cell.row, Cell_eta, PBase.row, PBase_eta, un_Word, un_Own, un_Part, un_Seen, un_Book, un_Sector, un_HCraft, un_World, un_PKind, un_PPt, un_Cell, un_PBase, PBase.row, PBase_eta, List.length_map, Int.toNat_natCast, Nat.sub_zero, and_self, eq_self, not_true_eq_false, ne_eq, bne_self_eq_false, ms_Cell_len, tkK, tkP, tkW, tkZ, tkM, hlz, hlv, hn1, hlo, List.nil_append]
  refine ⟨_, _, .inr (.inr (.inl ⟨_, rfl, hPO, by simp [getM], by simp [refsIn, refsInL, dom], rfl, by simp [No99, No99L, No99LL], by simp [No99O, no99_PKind, no99_PPt, no99_str, no99_Cell]⟩)), ?_⟩
  simp (config := { maxSteps := 2000000 }) only [bitvec_to_nat, reduceIte, Nat.reduceEqDiff, Nat.reduceAdd, Nat.reduceLeDiff, reduceCtorEq, Nat.reduceBEq, Nat.reduceLT, Nat.reduceMod, List.forall_mem_cons, t_szPBase, t_szStringS, t_sCells, t_eqCellS, t_eqBase, t_eqStringS, t_heldCellS, tk_map, dp_map, toNat_pred, appE, rowsOf, List.take_length, List.length_cons, List.length_nil, Nat.zero_add, srow, irow, un_s, un_i, Zone.row, Zone_eta, un_Zone, Word.row, Word_eta, Own.row, Own_eta, Part.row, Part_eta, Seen.row, Seen_eta, Book.row, Book_eta, Sector.row, Sector_eta, HCraft.row, HCraft_eta, World.row, World_eta, PKind.row, PKind_eta, PPt.row, PPt_eta, Cell.row, Cell_eta, PBase.row, PBase_eta, un_Word, un_Own, un_Part, un_Seen, un_Book, un_Sector, un_HCraft, un_World, un_PKind, un_PPt, un_Cell, un_PBase, PBase.row, PBase_eta, List.length_map, Int.toNat_natCast, Nat.sub_zero, and_self, eq_self, not_true_eq_false, ne_eq, bne_self_eq_false, ms_Cell_len, tkK, tkP, tkW, tkZ, tkM, hlz, hlv, hn1, hlo, List.nil_append]
  refine ⟨_, _, .inr (.inl ⟨rfl, _, by simp [purL, pur, getM, take_all, tkK, tkP, tkW], hI1, rfl, by simp [No99, No99L, No99LL]⟩), ?_⟩
  simp (config := { maxSteps := 2000000 }) only [bitvec_to_nat, reduceIte, Nat.reduceEqDiff, Nat.reduceAdd, Nat.reduceLeDiff, reduceCtorEq, Nat.reduceBEq, Nat.reduceLT, Nat.reduceMod, List.forall_mem_cons, t_szPBase, t_szStringS, t_sCells, t_eqCellS, t_eqBase, t_eqStringS, t_heldCellS, tk_map, dp_map, toNat_pred, appE, rowsOf, List.take_length, List.length_cons, List.length_nil, Nat.zero_add, srow, irow, un_s, un_i, Zone.row, Zone_eta, un_Zone, Word.row, Word_eta, Own.row, Own_eta, Part.row, Part_eta, Seen.row, Seen_eta, Book.row, Book_eta, Sector.row, Sector_eta, HCraft.row, HCraft_eta, World.row, World_eta, PKind.row, PKind_eta, PPt.row, PPt_eta, Cell.row, Cell_eta, PBase.row, PBase_eta, un_Word, un_Own, un_Part, un_Seen, un_Book, un_Sector, un_HCraft, un_World, un_PKind, un_PPt, un_Cell, un_PBase, PBase.row, PBase_eta, List.length_map, Int.toNat_natCast, Nat.sub_zero, and_self, eq_self, not_true_eq_false, ne_eq, bne_self_eq_false, ms_Cell_len, tkK, tkP, tkW, tkZ, tkM, hlz, hlv, hn1, hlo, List.nil_append]
  refine ⟨_, _, .inr (.inl ⟨rfl, _, rfl, hT, rfl, n9T⟩), ?_⟩
  simp (config := { maxSteps := 2000000 }) only [bitvec_to_nat, reduceIte, Nat.reduceEqDiff, Nat.reduceAdd, Nat.reduceLeDiff, reduceCtorEq, Nat.reduceBEq, Nat.reduceLT, Nat.reduceMod, List.forall_mem_cons, t_szPBase, t_szStringS, t_sCells, t_eqCellS, t_eqBase, t_eqStringS, t_heldCellS, tk_map, dp_map, toNat_pred, appE, rowsOf, List.take_length, List.length_cons, List.length_nil, Nat.zero_add, srow, irow, un_s, un_i, Zone.row, Zone_eta, un_Zone, Word.row, Word_eta, Own.row, Own_eta, Part.row, Part_eta, Seen.row, Seen_eta, Book.row, Book_eta, Sector.row, Sector_eta, HCraft.row, HCraft_eta, World.row, World_eta, PKind.row, PKind_eta, PPt.row, PPt_eta, Cell.row, Cell_eta, PBase.row, PBase_eta, un_Word, un_Own, un_Part, un_Seen, un_Book, un_Sector, un_HCraft, un_World, un_PKind, un_PPt, un_Cell, un_PBase, PBase.row, PBase_eta, List.length_map, Int.toNat_natCast, Nat.sub_zero, and_self, eq_self, not_true_eq_false, ne_eq, bne_self_eq_false, ms_Cell_len, tkK, tkP, tkW, tkZ, tkM, hlz, hlv, hn1, hlo, List.nil_append]
  refine ⟨⟨by omega, by omega⟩, _, _, .inr (.inl ⟨rfl, _, rfl, hTP, rfl, n9P⟩), ?_⟩
  simp (config := { maxSteps := 2000000 }) only [bitvec_to_nat, reduceIte, Nat.reduceEqDiff, Nat.reduceAdd, Nat.reduceLeDiff, reduceCtorEq, Nat.reduceBEq, Nat.reduceLT, Nat.reduceMod, List.forall_mem_cons, t_szPBase, t_szStringS, t_sCells, t_eqCellS, t_eqBase, t_eqStringS, t_heldCellS, tk_map, dp_map, toNat_pred, appE, rowsOf, List.take_length, List.length_cons, List.length_nil, Nat.zero_add, srow, irow, un_s, un_i, Zone.row, Zone_eta, un_Zone, Word.row, Word_eta, Own.row, Own_eta, Part.row, Part_eta, Seen.row, Seen_eta, Book.row, Book_eta, Sector.row, Sector_eta, HCraft.row, HCraft_eta, World.row, World_eta, PKind.row, PKind_eta, PPt.row, PPt_eta, Cell.row, Cell_eta, PBase.row, PBase_eta, un_Word, un_Own, un_Part, un_Seen, un_Book, un_Sector, un_HCraft, un_World, un_PKind, un_PPt, un_Cell, un_PBase, PBase.row, PBase_eta, List.length_map, Int.toNat_natCast, Nat.sub_zero, and_self, eq_self, not_true_eq_false, ne_eq, bne_self_eq_false, ms_Cell_len, tkK, tkP, tkW, tkZ, tkM, hlz, hlv, hn1, hlo, List.nil_append]
  refine ⟨by omega, _, _, .inl ⟨_, hMk, by simp [getM], by simp [getM, dom], rfl, rfl, rfl, rfl, rfl⟩, ?_⟩
  simp (config := { maxSteps := 2000000 }) only [bitvec_to_nat, reduceIte, Nat.reduceEqDiff, Nat.reduceAdd, Nat.reduceLeDiff, reduceCtorEq, Nat.reduceBEq, Nat.reduceLT, Nat.reduceMod, List.forall_mem_cons, t_szPBase, t_szStringS, t_sCells, t_eqCellS, t_eqBase, t_eqStringS, t_heldCellS, tk_map, dp_map, toNat_pred, appE, rowsOf, List.take_length, List.length_cons, List.length_nil, Nat.zero_add, srow, irow, un_s, un_i, Zone.row, Zone_eta, un_Zone, Word.row, Word_eta, Own.row, Own_eta, Part.row, Part_eta, Seen.row, Seen_eta, Book.row, Book_eta, Sector.row, Sector_eta, HCraft.row, HCraft_eta, World.row, World_eta, PKind.row, PKind_eta, PPt.row, PPt_eta, Cell.row, Cell_eta, PBase.row, PBase_eta, un_Word, un_Own, un_Part, un_Seen, un_Book, un_Sector, un_HCraft, un_World, un_PKind, un_PPt, un_Cell, un_PBase, PBase.row, PBase_eta, List.length_map, Int.toNat_natCast, Nat.sub_zero, and_self, eq_self, not_true_eq_false, ne_eq, bne_self_eq_false, ms_Cell_len, tkK, tkP, tkW, tkZ, tkM, hlz, hlv, hn1, hlo, List.nil_append]
  refine ⟨_, _, .inl ⟨_, hMP, by simp [getM], by simp [getM, dom], rfl, rfl, rfl, rfl, rfl⟩, ?_⟩
  simp (config := { maxSteps := 2000000 }) only [bitvec_to_nat, reduceIte, Nat.reduceEqDiff, Nat.reduceAdd, Nat.reduceLeDiff, reduceCtorEq, Nat.reduceBEq, Nat.reduceLT, Nat.reduceMod, List.forall_mem_cons, t_szPBase, t_szStringS, t_sCells, t_eqCellS, t_eqBase, t_eqStringS, t_heldCellS, tk_map, dp_map, toNat_pred, appE, rowsOf, List.take_length, List.length_cons, List.length_nil, Nat.zero_add, srow, irow, un_s, un_i, Zone.row, Zone_eta, un_Zone, Word.row, Word_eta, Own.row, Own_eta, Part.row, Part_eta, Seen.row, Seen_eta, Book.row, Book_eta, Sector.row, Sector_eta, HCraft.row, HCraft_eta, World.row, World_eta, PKind.row, PKind_eta, PPt.row, PPt_eta, Cell.row, Cell_eta, PBase.row, PBase_eta, un_Word, un_Own, un_Part, un_Seen, un_Book, un_Sector, un_HCraft, un_World, un_PKind, un_PPt, un_Cell, un_PBase, PBase.row, PBase_eta, List.length_map, Int.toNat_natCast, Nat.sub_zero, and_self, eq_self, not_true_eq_false, ne_eq, bne_self_eq_false, ms_Cell_len, tkK, tkP, tkW, tkZ, tkM, hlz, hlv, hn1, hlo, List.nil_append]
  refine ⟨fun h => by omega, fun _ => ⟨_, _, .inr (.inl ⟨rfl, _, rfl, c_markNCellS 98 1, rfl, trivial⟩), ?_⟩⟩
  simp (config := { maxSteps := 2000000 }) only [bitvec_to_nat, reduceIte, Nat.reduceEqDiff, Nat.reduceAdd, Nat.reduceLeDiff, reduceCtorEq, Nat.reduceBEq, Nat.reduceLT, Nat.reduceMod, List.forall_mem_cons, t_szPBase, t_szStringS, t_sCells, t_eqCellS, t_eqBase, t_eqStringS, t_heldCellS, tk_map, dp_map, toNat_pred, appE, rowsOf, List.take_length, List.length_cons, List.length_nil, Nat.zero_add, srow, irow, un_s, un_i, Zone.row, Zone_eta, un_Zone, Word.row, Word_eta, Own.row, Own_eta, Part.row, Part_eta, Seen.row, Seen_eta, Book.row, Book_eta, Sector.row, Sector_eta, HCraft.row, HCraft_eta, World.row, World_eta, PKind.row, PKind_eta, PPt.row, PPt_eta, Cell.row, Cell_eta, PBase.row, PBase_eta, un_Word, un_Own, un_Part, un_Seen, un_Book, un_Sector, un_HCraft, un_World, un_PKind, un_PPt, un_Cell, un_PBase, PBase.row, PBase_eta, List.length_map, Int.toNat_natCast, Nat.sub_zero, and_self, eq_self, not_true_eq_false, ne_eq, bne_self_eq_false, ms_Cell_len, tkK, tkP, tkW, tkZ, tkM, hlz, hlv, hn1, hlo, List.nil_append]
  refine ⟨⟨rfl, by omega, by omega⟩, fun h => by omega, fun _ => ⟨fun h => by omega, fun _ => ⟨_, _, .inr (.inl ⟨rfl, _, rfl, hT, rfl, n9T⟩), ?_⟩⟩⟩
  simp (config := { maxSteps := 2000000 }) only [bitvec_to_nat, reduceIte, Nat.reduceEqDiff, Nat.reduceAdd, Nat.reduceLeDiff, reduceCtorEq, Nat.reduceBEq, Nat.reduceLT, Nat.reduceMod, List.forall_mem_cons, t_szPBase, t_szStringS, t_sCells, t_eqCellS, t_eqBase, t_eqStringS, t_heldCellS, tk_map, dp_map, toNat_pred, appE, rowsOf, List.take_length, List.length_cons, List.length_nil, Nat.zero_add, srow, irow, un_s, un_i, Zone.row, Zone_eta, un_Zone, Word.row, Word_eta, Own.row, Own_eta, Part.row, Part_eta, Seen.row, Seen_eta, Book.row, Book_eta, Sector.row, Sector_eta, HCraft.row, HCraft_eta, World.row, World_eta, PKind.row, PKind_eta, PPt.row, PPt_eta, Cell.row, Cell_eta, PBase.row, PBase_eta, un_Word, un_Own, un_Part, un_Seen, un_Book, un_Sector, un_HCraft, un_World, un_PKind, un_PPt, un_Cell, un_PBase, PBase.row, PBase_eta, List.length_map, Int.toNat_natCast, Nat.sub_zero, and_self, eq_self, not_true_eq_false, ne_eq, bne_self_eq_false, ms_Cell_len, tkK, tkP, tkW, tkZ, tkM, hlz, hlv, hn1, hlo, List.nil_append]
  refine ⟨_, _, .inr (.inl ⟨rfl, _, rfl, hTP, rfl, n9P⟩), ?_⟩
  simp (config := { maxSteps := 2000000 }) only [bitvec_to_nat, reduceIte, Nat.reduceEqDiff, Nat.reduceAdd, Nat.reduceLeDiff, reduceCtorEq, Nat.reduceBEq, Nat.reduceLT, Nat.reduceMod, List.forall_mem_cons, t_szPBase, t_szStringS, t_sCells, t_eqCellS, t_eqBase, t_eqStringS, t_heldCellS, tk_map, dp_map, toNat_pred, appE, rowsOf, List.take_length, List.length_cons, List.length_nil, Nat.zero_add, srow, irow, un_s, un_i, Zone.row, Zone_eta, un_Zone, Word.row, Word_eta, Own.row, Own_eta, Part.row, Part_eta, Seen.row, Seen_eta, Book.row, Book_eta, Sector.row, Sector_eta, HCraft.row, HCraft_eta, World.row, World_eta, PKind.row, PKind_eta, PPt.row, PPt_eta, Cell.row, Cell_eta, PBase.row, PBase_eta, un_Word, un_Own, un_Part, un_Seen, un_Book, un_Sector, un_HCraft, un_World, un_PKind, un_PPt, un_Cell, un_PBase, PBase.row, PBase_eta, List.length_map, Int.toNat_natCast, Nat.sub_zero, and_self, eq_self, not_true_eq_false, ne_eq, bne_self_eq_false, ms_Cell_len, tkK, tkP, tkW, tkZ, tkM, hlz, hlv, hn1, hlo, List.nil_append]
  refine ⟨_, _, .inr (.inl ⟨rfl, _, rfl, hI2, rfl, by simp [No99, No99L, No99LL]⟩), ?_⟩
  simp (config := { maxSteps := 2000000 }) only [bitvec_to_nat, reduceIte, Nat.reduceEqDiff, Nat.reduceAdd, Nat.reduceLeDiff, reduceCtorEq, Nat.reduceBEq, Nat.reduceLT, Nat.reduceMod, List.forall_mem_cons, t_szPBase, t_szStringS, t_sCells, t_eqCellS, t_eqBase, t_eqStringS, t_heldCellS, tk_map, dp_map, toNat_pred, appE, rowsOf, List.take_length, List.length_cons, List.length_nil, Nat.zero_add, srow, irow, un_s, un_i, Zone.row, Zone_eta, un_Zone, Word.row, Word_eta, Own.row, Own_eta, Part.row, Part_eta, Seen.row, Seen_eta, Book.row, Book_eta, Sector.row, Sector_eta, HCraft.row, HCraft_eta, World.row, World_eta, PKind.row, PKind_eta, PPt.row, PPt_eta, Cell.row, Cell_eta, PBase.row, PBase_eta, un_Word, un_Own, un_Part, un_Seen, un_Book, un_Sector, un_HCraft, un_World, un_PKind, un_PPt, un_Cell, un_PBase, PBase.row, PBase_eta, List.length_map, Int.toNat_natCast, Nat.sub_zero, and_self, eq_self, not_true_eq_false, ne_eq, bne_self_eq_false, ms_Cell_len, tkK, tkP, tkW, tkZ, tkM, hlz, hlv, hn1, hlo, List.nil_append]
  refine ⟨⟨rfl, by omega, by omega⟩, fun h => by omega, fun _ h => by omega⟩

theorem c_FnExactPlanCells (b : PBase) (ws : List ByteArray) (hf : b.fitp) (hpf : ws.length ≤ 9223372036854775807 ∧ ∀ y ∈ ws, y.toList.length ≤ 9223372036854775807) : Contract P 3 [.agg (b.row 1), .sl 1 1 (ws.map srow)] [] (.bool true) [] := by
  by_cases hv : plOk b.ks b.ps ws
  · exact c_lawY b ws hf hpf hv
  · exact c_lawN b ws hf hpf hv
end
end Go.Ve

