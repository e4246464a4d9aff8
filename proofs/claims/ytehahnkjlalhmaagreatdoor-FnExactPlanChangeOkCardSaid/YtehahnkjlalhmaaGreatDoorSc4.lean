/- Part 4 of the proof: laws and contracts of functions, each proved; they are joined in the last part. No conditions beyond those that the theorems state. -/
import Derived.Test.YtehahnkjlalhmaaGreatDoorSc3
set_option linter.all false
namespace Go.Ve
noncomputable section
open Go.Proofs
set_option linter.unusedSimpArgs false
set_option linter.unusedVariables false
set_option maxRecDepth 100000
def PKind.fitp (s : PKind) : Prop := s.nm.toList.length ≤ 9223372036854775807
def PKind.sz (s : PKind) (z0 : Int) : Int := chk (z0 - (s.nm.toList.length : Nat)) (fun z1 => z1)
theorem meas_PKind : Meas PKind.sz := fun s => chk_sub _ (measP_id)
def PPt.fitp (s : PPt) : Prop := s.nm.toList.length ≤ 9223372036854775807
def PPt.sz (s : PPt) (z0 : Int) : Int := chk (z0 - (s.nm.toList.length : Nat)) (fun z1 => z1)
theorem meas_PPt : Meas PPt.sz := fun s => chk_sub _ (measP_id)
structure PBase where
  ks : List PKind
  ps : List PPt
  deriving Inhabited, DecidableEq
def PBase.row (t : Nat) (s : PBase) : List AV := [.sl t 3 (s.ks.map PKind.row), .sl t 3 (s.ps.map PPt.row)]
def unPBase : List AV → PBase
  | [.sl _ 3 vks, .sl _ 3 vps] => (PBase.mk (vks.map unPKind) (vps.map unPPt))
  | _ => default
theorem unPBase_row (t : Nat) (s : PBase) : unPBase (PBase.row t s) = s := by
  cases s; simp only [PBase.row, unPBase, un_PKind, un_PPt]
theorem un_PBase (t : Nat) (l : List PBase) : (l.map (PBase.row t)).map unPBase = l := by
  rw [List.map_map]; exact List.map_id'' (fun s => unPBase_row t s) l
theorem PBase_eta (s : PBase) : (PBase.mk s.ks s.ps) = s := (rfl)
theorem no99_PBase (l : List PBase) : No99LL (l.map (PBase.row 0)) := by
  induction l with
  | nil => simp [No99LL]
  | cons x l ih => simp only [List.map_cons, No99LL]; exact ⟨by simp [PBase.row, No99L, No99, no99_PKind, no99_PPt], ih⟩
def PBase.fitp (s : PBase) : Prop := (s.ks.length ≤ 9223372036854775807 ∧ ∀ y ∈ s.ks, y.fitp) ∧ (s.ps.length ≤ 9223372036854775807 ∧ ∀ y ∈ s.ps, y.fitp)
def PBase.small (s : PBase) : Prop := s.ks.length ≤ 1048576 ∧ s.ps.length ≤ 1048576
def PBase.sz (s : PBase) (z0 : Int) : Int := chk (szS PKind.sz s.ks z0) (fun z1 => chk (szS PPt.sz s.ps z1) (fun z2 => z2))
theorem meas_PBase : Meas PBase.sz := fun s => chk_g (fun a => meas_szS meas_PKind s.ks a) (Meas1.p (chk_g (fun a => meas_szS meas_PPt s.ps a) (measP_id)))
theorem PBase.sz_ok {s : PBase} {a : Int} (ha : a ≤ 1048576) (h : 0 ≤ s.sz a) : s.small := by
  unfold PBase.sz at h
  have b0 : a ≤ 1048576 := ha
  obtain ⟨p0, h⟩ := chk_ok h
  have b1 : szS PKind.sz s.ks (a) ≤ 1048576 := by have := (meas_szS meas_PKind s.ks (a) b0).2.2; omega
  have k0 := szS_ok (p := fun _ => True) meas_PKind (fun _ _ _ _ => trivial) b0 p0
  obtain ⟨p1, h⟩ := chk_ok h
  have b2 : szS PPt.sz s.ps (szS PKind.sz s.ks (a)) ≤ 1048576 := by have := (meas_szS meas_PPt s.ps (szS PKind.sz s.ks (a)) b1).2.2; omega
  have k1 := szS_ok (p := fun _ => True) meas_PPt (fun _ _ _ _ => trivial) b1 p1
  exact ⟨k0.1, k1.1⟩
theorem c_szPKind (s : PKind) (a : Int) (ha : 0 ≤ a ∧ a ≤ 1048576) (hs : s.fitp) : Contract P 74 [.agg s.row, .int .i64 a] [] (.int .i64 (s.sz a)) [] := by
  unfold PKind.fitp at hs
  simp only [PKind.row]
  refine fn_sound (Env.nil P) hm k_laws_szPlanKind (Nat.le_of_ble_eq_true rfl) rfl ?_; unfold s_laws_szPlanKind; simp (config := { maxSteps := 2000000 }) only [bitvec_to_nat, reduceIte, Nat.reduceEqDiff, Nat.reduceAdd, Nat.reduceLeDiff, reduceCtorEq, Nat.reduceBEq, Nat.reduceLT, Nat.reduceMod, List.forall_mem_cons, tk_map, dp_map, toNat_pred, appE, rowsOf, List.take_length, List.length_cons, List.length_nil, Nat.zero_add, srow, irow, un_s, un_i, Zone.row, Zone_eta, un_Zone, Word.row, Word_eta, Own.row, Own_eta, Part.row, Part_eta, Seen.row, Seen_eta, Book.row, Book_eta, Sector.row, Sector_eta, HCraft.row, HCraft_eta, World.row, World_eta, PKind.row, PKind_eta, PPt.row, PPt_eta, Cell.row, Cell_eta, PBase.row, PBase_eta, un_Word, un_Own, un_Part, un_Seen, un_Book, un_Sector, un_HCraft, un_World, un_PKind, un_PPt, un_Cell, un_PBase]
  unfold PKind.sz
  repeat' (first | with_reducible apply And.intro | with_reducible intro _)
  all_goals first | omega | (exact hs) | (exact hs.1) | (exact hs.2.1) | (exact hs.2.2) | (exact hs.2.2.1) | (exact hs.2.2.2) | (exact hs.2.2.2.1) | (exact hs.2.2.2.2) | (exact hs.1.1) | (exact hs.1.2) | (exact hs.2.1.1) | (exact hs.2.1.2) | (unfold chk; grind) | grind
def t_szPKind : List AV → Option (Prop × AV)
  | [.agg [.str s_nm, .int .i64 s_q, .int .i64 s_sl], .int .i64 b] => some ((True) ∧ ((0 ≤ b ∧ b ≤ 1048576) ∧ (PKind.fitp (PKind.mk s_nm s_q s_sl))), .int .i64 (PKind.sz (PKind.mk s_nm s_q s_sl) b))
  | _ => none
theorem h_szPKind : ∀ args p v, t_szPKind args = some (p, v) → p → Contract P 74 args [] v [] ∧ noref v = true ∧ No99 v := by
  intro args p v h1 h2
  unfold t_szPKind at h1
  split at h1
  · rename_i s_nm s_q s_sl b
    cases h1
    obtain ⟨_, HP⟩ := h2
    have := c_szPKind (PKind.mk s_nm s_q s_sl) b HP.1 HP.2
    exact ⟨by simpa only [PKind.row] using this, rfl, trivial⟩
  · cases h1
theorem c_szPKindS (t : Nat) (l : List PKind) (a : Int) (ha : 0 ≤ a ∧ a ≤ 1048576) (hl : l.length ≤ 9223372036854775807 ∧ ∀ y ∈ l, y.fitp) : Contract P 39 [.sl t 3 (l.map PKind.row), .int .i64 a] [] (.int .i64 (szS PKind.sz l a)) [] := by
  refine fn_sound ((Env.nil P).add 74 t_szPKind h_szPKind) hm k_laws_szPlanKindS (Nat.le_of_ble_eq_true rfl) rfl ?_; unfold s_laws_szPlanKindS; simp (config := { maxSteps := 2000000 }) only [bitvec_to_nat, reduceIte, Nat.reduceEqDiff, Nat.reduceAdd, Nat.reduceLeDiff, reduceCtorEq, Nat.reduceBEq, Nat.reduceLT, Nat.reduceMod, List.forall_mem_cons, t_szPKind, tk_map, dp_map, toNat_pred, appE, rowsOf, List.take_length, List.length_cons, List.length_nil, Nat.zero_add, srow, irow, un_s, un_i, Zone.row, Zone_eta, un_Zone, Word.row, Word_eta, Own.row, Own_eta, Part.row, Part_eta, Seen.row, Seen_eta, Book.row, Book_eta, Sector.row, Sector_eta, HCraft.row, HCraft_eta, World.row, World_eta, PKind.row, PKind_eta, PPt.row, PPt_eta, Cell.row, Cell_eta, PBase.row, PBase_eta, un_Word, un_Own, un_Part, un_Seen, un_Book, un_Sector, un_HCraft, un_World, un_PKind, un_PPt, un_Cell, un_PBase, List.take_zero, List.foldl_nil]
  have hz : szOf a l.length = if a - l.length < 0 then -1 else a - l.length := rfl
  refine ⟨by omega, fun h1 => ?_, fun h1 => ?_⟩
  · unfold szS
    rw [(fold_meas meas_PKind l _ (by omega) (by omega)).2.1 (by omega)]
  have e0 : szOf a l.length = a - l.length := if_neg h1
  refine loop_st (fun i : Nat => [(1, .int .i64 ((l.take i).foldl (fun a x => x.sz a) (a - l.length))), (5, .int .i64 i)]) (fun _ => []) (fun i => i ≤ l.length ∧ 0 ≤ (l.take i).foldl (fun a x => x.sz a) (a - l.length)) (fun i => l.length - i) (0) (by simp only [u_E0, u_E1, u_M0, u_M1, w_setE0, w_setE1, w_setM0, w_setM1, reduceIte, Nat.reduceEqDiff]; exact ⟨by repeat' (first | exact trivial | refine ⟨.inr rfl, ?_⟩), by repeat' (first | exact trivial | refine ⟨rfl, ?_⟩), by first | rfl | simp [closedB, refsIn, refsInL, refsInO, dom, refsInL_nr, *], by first | rfl | simp [keepB, dom]⟩) ?_ ?_
  · simp only [List.take_zero, List.foldl_nil]; omega
  intro i hi NX hN
  have hm := (fold_meas meas_PKind (l.take i) (a - l.length) (by omega) (by omega)).2.2
  have hg : i < l.length → (l.getD i default).fitp := fun h => hl.2 _ (getD_mem' h)
  have hn : i < l.length → (l.take (i + 1)).foldl (fun a x => x.sz a) (a - l.length) = (l.getD i default).sz ((l.take i).foldl (fun a x => x.sz a) (a - l.length)) := fun h => fold_take (f := PKind.sz) h
  have hs : i < l.length → (l.getD i default).sz ((l.take i).foldl (fun a x => x.sz a) (a - l.length)) < 0 → szS PKind.sz l a = -1 := fun h h2 => by unfold szS; rw [e0]; exact fold_stop meas_PKind h (by omega) (by omega) h2
  unfold l_laws_szPlanKindS_0; simp (config := { maxSteps := 2000000 }) only [bitvec_to_nat, reduceIte, Nat.reduceEqDiff, Nat.reduceAdd, Nat.reduceLeDiff, reduceCtorEq, Nat.reduceBEq, Nat.reduceLT, Nat.reduceMod, List.forall_mem_cons, t_szPKind, tk_map, dp_map, toNat_pred, appE, rowsOf, List.take_length, List.length_cons, List.length_nil, Nat.zero_add, srow, irow, un_s, un_i, Zone.row, Zone_eta, un_Zone, Word.row, Word_eta, Own.row, Own_eta, Part.row, Part_eta, Seen.row, Seen_eta, Book.row, Book_eta, Sector.row, Sector_eta, HCraft.row, HCraft_eta, World.row, World_eta, PKind.row, PKind_eta, PPt.row, PPt_eta, Cell.row, Cell_eta, PBase.row, PBase_eta, un_Word, un_Own, un_Part, un_Seen, un_Book, un_Sector, un_HCraft, un_World, un_PKind, un_PPt, un_Cell, un_PBase, List.take_zero, List.foldl_nil]
  refine ⟨fun h2 => ⟨by omega, by omega, ⟨⟨by omega, by omega⟩, hg (by omega)⟩, fun h3 => by rw [hs (by omega) h3], fun h3 => ⟨by omega, ?_⟩⟩, fun h2 => ?_⟩
  · have e := hn (by omega)
    refine hN (i + 1) _ (by simp only [e, List.length_append, List.length_cons, List.length_nil, Nat.zero_add, List.map_append, List.map_cons, List.map_nil, u_E0, u_E1, u_M0, u_M1, w_setE0, w_setE1, w_setM0, w_setM1, reduceIte, Nat.reduceEqDiff]; exact ⟨by repeat' (first | exact trivial | refine ⟨.inr rfl, ?_⟩), by repeat' (first | exact trivial | refine ⟨rfl, ?_⟩), by first | rfl | simp [closedB, refsIn, refsInL, refsInO, dom, refsInL_nr, *], by first | rfl | simp [keepB, dom]⟩) ?_ ?_
    · exact ⟨by omega, by rw [e]; omega⟩
    · omega
  · have e : i = l.length := by omega
    subst e
    simp only [List.take_length]; unfold szS; rw [e0]
def t_szPKindS : List AV → Option (Prop × AV)
  | [.sl lt 3 lx, .int .i64 b] => some ((((lx.map unPKind).map PKind.row = lx)) ∧ ((0 ≤ b ∧ b ≤ 1048576) ∧ ((lx.map unPKind).length ≤ 9223372036854775807 ∧ ∀ y ∈ (lx.map unPKind), PKind.fitp y)), .int .i64 (szS PKind.sz (lx.map unPKind) b))
  | _ => none
theorem h_szPKindS : ∀ args p v, t_szPKindS args = some (p, v) → p → Contract P 39 args [] v [] ∧ noref v = true ∧ No99 v := by
  intro args p v h1 h2
  unfold t_szPKindS at h1
  split at h1
  · rename_i lt lx b
    cases h1
    obtain ⟨e0, HP⟩ := h2
    have := c_szPKindS lt (lx.map unPKind) b HP.1 HP.2
    exact ⟨by simpa only [e0] using this, rfl, trivial⟩
  · cases h1
theorem c_szPPt (s : PPt) (a : Int) (ha : 0 ≤ a ∧ a ≤ 1048576) (hs : s.fitp) : Contract P 75 [.agg s.row, .int .i64 a] [] (.int .i64 (s.sz a)) [] := by
  unfold PPt.fitp at hs
  simp only [PPt.row]
  refine fn_sound (Env.nil P) hm k_laws_szPlanPoint (Nat.le_of_ble_eq_true rfl) rfl ?_; unfold s_laws_szPlanPoint; simp (config := { maxSteps := 2000000 }) only [bitvec_to_nat, reduceIte, Nat.reduceEqDiff, Nat.reduceAdd, Nat.reduceLeDiff, reduceCtorEq, Nat.reduceBEq, Nat.reduceLT, Nat.reduceMod, List.forall_mem_cons, tk_map, dp_map, toNat_pred, appE, rowsOf, List.take_length, List.length_cons, List.length_nil, Nat.zero_add, srow, irow, un_s, un_i, Zone.row, Zone_eta, un_Zone, Word.row, Word_eta, Own.row, Own_eta, Part.row, Part_eta, Seen.row, Seen_eta, Book.row, Book_eta, Sector.row, Sector_eta, HCraft.row, HCraft_eta, World.row, World_eta, PKind.row, PKind_eta, PPt.row, PPt_eta, Cell.row, Cell_eta, PBase.row, PBase_eta, un_Word, un_Own, un_Part, un_Seen, un_Book, un_Sector, un_HCraft, un_World, un_PKind, un_PPt, un_Cell, un_PBase]
  unfold PPt.sz
  repeat' (first | with_reducible apply And.intro | with_reducible intro _)
  all_goals first | omega | (exact hs) | (exact hs.1) | (exact hs.2.1) | (exact hs.2.2) | (exact hs.2.2.1) | (exact hs.2.2.2) | (exact hs.2.2.2.1) | (exact hs.2.2.2.2) | (exact hs.1.1) | (exact hs.1.2) | (exact hs.2.1.1) | (exact hs.2.1.2) | (unfold chk; grind) | grind
def t_szPPt : List AV → Option (Prop × AV)
  | [.agg [.str s_nm, .int .i64 s_x, .int .i64 s_y], .int .i64 b] => some ((True) ∧ ((0 ≤ b ∧ b ≤ 1048576) ∧ (PPt.fitp (PPt.mk s_nm s_x s_y))), .int .i64 (PPt.sz (PPt.mk s_nm s_x s_y) b))
  | _ => none
theorem h_szPPt : ∀ args p v, t_szPPt args = some (p, v) → p → Contract P 75 args [] v [] ∧ noref v = true ∧ No99 v := by
  intro args p v h1 h2
  unfold t_szPPt at h1
  split at h1
  · rename_i s_nm s_x s_y b
    cases h1
    obtain ⟨_, HP⟩ := h2
    have := c_szPPt (PPt.mk s_nm s_x s_y) b HP.1 HP.2
    exact ⟨by simpa only [PPt.row] using this, rfl, trivial⟩
  · cases h1
theorem c_szPPtS (t : Nat) (l : List PPt) (a : Int) (ha : 0 ≤ a ∧ a ≤ 1048576) (hl : l.length ≤ 9223372036854775807 ∧ ∀ y ∈ l, y.fitp) : Contract P 40 [.sl t 3 (l.map PPt.row), .int .i64 a] [] (.int .i64 (szS PPt.sz l a)) [] := by
  refine fn_sound ((Env.nil P).add 75 t_szPPt h_szPPt) hm k_laws_szPlanPointS (Nat.le_of_ble_eq_true rfl) rfl ?_; unfold s_laws_szPlanPointS; simp (config := { maxSteps := 2000000 }) only [bitvec_to_nat, reduceIte, Nat.reduceEqDiff, Nat.reduceAdd, Nat.reduceLeDiff, reduceCtorEq, Nat.reduceBEq, Nat.reduceLT, Nat.reduceMod, List.forall_mem_cons, t_szPPt, tk_map, dp_map, toNat_pred, appE, rowsOf, List.take_length, List.length_cons, List.length_nil, Nat.zero_add, srow, irow, un_s, un_i, Zone.row, Zone_eta, un_Zone, Word.row, Word_eta, Own.row, Own_eta, Part.row, Part_eta, Seen.row, Seen_eta, Book.row, Book_eta, Sector.row, Sector_eta, HCraft.row, HCraft_eta, World.row, World_eta, PKind.row, PKind_eta, PPt.row, PPt_eta, Cell.row, Cell_eta, PBase.row, PBase_eta, un_Word, un_Own, un_Part, un_Seen, un_Book, un_Sector, un_HCraft, un_World, un_PKind, un_PPt, un_Cell, un_PBase, List.take_zero, List.foldl_nil]
  have hz : szOf a l.length = if a - l.length < 0 then -1 else a - l.length := rfl
  refine ⟨by omega, fun h1 => ?_, fun h1 => ?_⟩
  · unfold szS
    rw [(fold_meas meas_PPt l _ (by omega) (by omega)).2.1 (by omega)]
  have e0 : szOf a l.length = a - l.length := if_neg h1
  refine loop_st (fun i : Nat => [(1, .int .i64 ((l.take i).foldl (fun a x => x.sz a) (a - l.length))), (5, .int .i64 i)]) (fun _ => []) (fun i => i ≤ l.length ∧ 0 ≤ (l.take i).foldl (fun a x => x.sz a) (a - l.length)) (fun i => l.length - i) (0) (by simp only [u_E0, u_E1, u_M0, u_M1, w_setE0, w_setE1, w_setM0, w_setM1, reduceIte, Nat.reduceEqDiff]; exact ⟨by repeat' (first | exact trivial | refine ⟨.inr rfl, ?_⟩), by repeat' (first | exact trivial | refine ⟨rfl, ?_⟩), by first | rfl | simp [closedB, refsIn, refsInL, refsInO, dom, refsInL_nr, *], by first | rfl | simp [keepB, dom]⟩) ?_ ?_
  · simp only [List.take_zero, List.foldl_nil]; omega
  intro i hi NX hN
  have hm := (fold_meas meas_PPt (l.take i) (a - l.length) (by omega) (by omega)).2.2
  have hg : i < l.length → (l.getD i default).fitp := fun h => hl.2 _ (getD_mem' h)
  have hn : i < l.length → (l.take (i + 1)).foldl (fun a x => x.sz a) (a - l.length) = (l.getD i default).sz ((l.take i).foldl (fun a x => x.sz a) (a - l.length)) := fun h => fold_take (f := PPt.sz) h
  have hs : i < l.length → (l.getD i default).sz ((l.take i).foldl (fun a x => x.sz a) (a - l.length)) < 0 → szS PPt.sz l a = -1 := fun h h2 => by unfold szS; rw [e0]; exact fold_stop meas_PPt h (by omega) (by omega) h2
  unfold l_laws_szPlanPointS_0; simp (config := { maxSteps := 2000000 }) only [bitvec_to_nat, reduceIte, Nat.reduceEqDiff, Nat.reduceAdd, Nat.reduceLeDiff, reduceCtorEq, Nat.reduceBEq, Nat.reduceLT, Nat.reduceMod, List.forall_mem_cons, t_szPPt, tk_map, dp_map, toNat_pred, appE, rowsOf, List.take_length, List.length_cons, List.length_nil, Nat.zero_add, srow, irow, un_s, un_i, Zone.row, Zone_eta, un_Zone, Word.row, Word_eta, Own.row, Own_eta, Part.row, Part_eta, Seen.row, Seen_eta, Book.row, Book_eta, Sector.row, Sector_eta, HCraft.row, HCraft_eta, World.row, World_eta, PKind.row, PKind_eta, PPt.row, PPt_eta, Cell.row, Cell_eta, PBase.row, PBase_eta, un_Word, un_Own, un_Part, un_Seen, un_Book, un_Sector, un_HCraft, un_World, un_PKind, un_PPt, un_Cell, un_PBase, List.take_zero, List.foldl_nil]
  refine ⟨fun h2 => ⟨by omega, by omega, ⟨⟨by omega, by omega⟩, hg (by omega)⟩, fun h3 => by rw [hs (by omega) h3], fun h3 => ⟨by omega, ?_⟩⟩, fun h2 => ?_⟩
  · have e := hn (by omega)
    refine hN (i + 1) _ (by simp only [e, List.length_append, List.length_cons, List.length_nil, Nat.zero_add, List.map_append, List.map_cons, List.map_nil, u_E0, u_E1, u_M0, u_M1, w_setE0, w_setE1, w_setM0, w_setM1, reduceIte, Nat.reduceEqDiff]; exact ⟨by repeat' (first | exact trivial | refine ⟨.inr rfl, ?_⟩), by repeat' (first | exact trivial | refine ⟨rfl, ?_⟩), by first | rfl | simp [closedB, refsIn, refsInL, refsInO, dom, refsInL_nr, *], by first | rfl | simp [keepB, dom]⟩) ?_ ?_
    · exact ⟨by omega, by rw [e]; omega⟩
    · omega
  · have e : i = l.length := by omega
    subst e
    simp only [List.take_length]; unfold szS; rw [e0]
def t_szPPtS : List AV → Option (Prop × AV)
  | [.sl lt 3 lx, .int .i64 b] => some ((((lx.map unPPt).map PPt.row = lx)) ∧ ((0 ≤ b ∧ b ≤ 1048576) ∧ ((lx.map unPPt).length ≤ 9223372036854775807 ∧ ∀ y ∈ (lx.map unPPt), PPt.fitp y)), .int .i64 (szS PPt.sz (lx.map unPPt) b))
  | _ => none
theorem h_szPPtS : ∀ args p v, t_szPPtS args = some (p, v) → p → Contract P 40 args [] v [] ∧ noref v = true ∧ No99 v := by
  intro args p v h1 h2
  unfold t_szPPtS at h1
  split at h1
  · rename_i lt lx b
    cases h1
    obtain ⟨e0, HP⟩ := h2
    have := c_szPPtS lt (lx.map unPPt) b HP.1 HP.2
    exact ⟨by simpa only [e0] using this, rfl, trivial⟩
  · cases h1
theorem c_szPBase (s : PBase) (a : Int) (ha : 0 ≤ a ∧ a ≤ 1048576) (hs : s.fitp) : Contract P 9 [.agg (s.row 1), .int .i64 a] [] (.int .i64 (s.sz a)) [] := by
  unfold PBase.fitp at hs
  simp only [PBase.row]
  refine fn_sound (((Env.nil P).add 39 t_szPKindS h_szPKindS).add 40 t_szPPtS h_szPPtS) hm k_laws_szPlanBase (Nat.le_of_ble_eq_true rfl) rfl ?_; unfold s_laws_szPlanBase; simp (config := { maxSteps := 2000000 }) only [bitvec_to_nat, reduceIte, Nat.reduceEqDiff, Nat.reduceAdd, Nat.reduceLeDiff, reduceCtorEq, Nat.reduceBEq, Nat.reduceLT, Nat.reduceMod, List.forall_mem_cons, t_szPKindS, t_szPPtS, tk_map, dp_map, toNat_pred, appE, rowsOf, List.take_length, List.length_cons, List.length_nil, Nat.zero_add, srow, irow, un_s, un_i, Zone.row, Zone_eta, un_Zone, Word.row, Word_eta, Own.row, Own_eta, Part.row, Part_eta, Seen.row, Seen_eta, Book.row, Book_eta, Sector.row, Sector_eta, HCraft.row, HCraft_eta, World.row, World_eta, PKind.row, PKind_eta, PPt.row, PPt_eta, Cell.row, Cell_eta, PBase.row, PBase_eta, un_Word, un_Own, un_Part, un_Seen, un_Book, un_Sector, un_HCraft, un_World, un_PKind, un_PPt, un_Cell, un_PBase]
  unfold PBase.sz
  have qks : (szS PKind.sz s.ks a) ≤ max a (-1) := (meas_szS meas_PKind s.ks a (by omega)).2.2
  have qps : (szS PPt.sz s.ps (szS PKind.sz s.ks a)) ≤ max (szS PKind.sz s.ks a) (-1) := (meas_szS meas_PPt s.ps (szS PKind.sz s.ks a) (by omega)).2.2
  repeat' (first | with_reducible apply And.intro | with_reducible intro _)
  all_goals first | omega | (exact hs) | (exact hs.1) | (exact hs.2.1) | (exact hs.2.2) | (exact hs.2.2.1) | (exact hs.2.2.2) | (exact hs.2.2.2.1) | (exact hs.2.2.2.2) | (exact hs.1.1) | (exact hs.1.2) | (exact hs.2.1.1) | (exact hs.2.1.2) | (unfold chk; grind) | grind
def t_szPBase : List AV → Option (Prop × AV)
  | [.agg [.sl 1 3 s_ks, .sl 1 3 s_ps], .int .i64 b] => some ((((s_ks.map unPKind).map PKind.row = s_ks) ∧ ((s_ps.map unPPt).map PPt.row = s_ps)) ∧ ((0 ≤ b ∧ b ≤ 1048576) ∧ (PBase.fitp (PBase.mk (s_ks.map unPKind) (s_ps.map unPPt)))), .int .i64 (PBase.sz (PBase.mk (s_ks.map unPKind) (s_ps.map unPPt)) b))
  | _ => none
theorem h_szPBase : ∀ args p v, t_szPBase args = some (p, v) → p → Contract P 9 args [] v [] ∧ noref v = true ∧ No99 v := by
  intro args p v h1 h2
  unfold t_szPBase at h1
  split at h1
  · rename_i s_ks s_ps b
    cases h1
    obtain ⟨⟨e0, e1⟩, HP⟩ := h2
    have := c_szPBase (PBase.mk (s_ks.map unPKind) (s_ps.map unPPt)) b HP.1 HP.2
    exact ⟨by simpa only [e0, e1, PBase.row] using this, rfl, trivial⟩
  · cases h1
theorem c_toPKind (s : PKind) : Contract P 79 [.agg (s.row)] [] (.agg (s.row)) [] := by
  simp only [PKind.row]
  refine fn_sound (Env.nil P) hm k_laws_toPlanKind (Nat.le_of_ble_eq_true rfl) rfl ?_; unfold s_laws_toPlanKind; simp (config := { maxSteps := 2000000 }) only [bitvec_to_nat, reduceIte, Nat.reduceEqDiff, Nat.reduceAdd, Nat.reduceLeDiff, reduceCtorEq, Nat.reduceBEq, Nat.reduceLT, Nat.reduceMod, List.forall_mem_cons, tk_map, dp_map, toNat_pred, appE, rowsOf, List.take_length, List.length_cons, List.length_nil, Nat.zero_add, srow, irow, un_s, un_i, Zone.row, Zone_eta, un_Zone, Word.row, Word_eta, Own.row, Own_eta, Part.row, Part_eta, Seen.row, Seen_eta, Book.row, Book_eta, Sector.row, Sector_eta, HCraft.row, HCraft_eta, World.row, World_eta, PKind.row, PKind_eta, PPt.row, PPt_eta, Cell.row, Cell_eta, PBase.row, PBase_eta, un_Word, un_Own, un_Part, un_Seen, un_Book, un_Sector, un_HCraft, un_World, un_PKind, un_PPt, un_Cell, un_PBase]
  all_goals trivial
def t_toPKind : List AV → Option (Prop × AV)
  | [.agg [.str s_nm, .int .i64 s_q, .int .i64 s_sl]] => some ((True) ∧ (True), .agg (PKind.row (PKind.mk s_nm s_q s_sl)))
  | _ => none
theorem h_toPKind : ∀ args p v, t_toPKind args = some (p, v) → p → Contract P 79 args [] v [] ∧ noref v = true ∧ No99 v := by
  intro args p v h1 h2
  unfold t_toPKind at h1
  split at h1
  · rename_i s_nm s_q s_sl
    cases h1
    obtain ⟨_, HP⟩ := h2
    have := c_toPKind (PKind.mk s_nm s_q s_sl)
    exact ⟨by simpa only [PKind.row] using this, rfl, by simp [PKind.row, No99, No99L, no99_box, no99_i, no99_str, no99_Zone, no99_Word, no99_Own, no99_Part, no99_Seen, no99_Book, no99_Sector, no99_HCraft, no99_World, no99_PKind, no99_PPt, no99_Cell, no99_PBase, -List.map_map]⟩
  · cases h1
theorem set_PKind {lst : List PKind} {idx : Nat} {vnm : ByteArray} {vq : Int} {vsl : Int} : (lst.map PKind.row).set idx (setSeg ((lst.map PKind.row).getD idx []) 0 [.str vnm, .int .i64 vq, .int .i64 vsl]) = (lst.set idx (PKind.mk vnm vq vsl)).map PKind.row :=
  set_rows (α := PKind) (f := PKind.row) (fun s => (PKind.mk vnm vq vsl)) fun x => by simp [PKind.row, setSeg]
def to_PKind (a : List PKind) (i : Nat) : List PKind := a.take i ++ List.replicate (a.length - i) ⟨⟨#[]⟩, 0, 0⟩
theorem to_PKind_st {a : List PKind} {i : Nat} (h : i < a.length) : (to_PKind a i).set i (a.getD i default) = to_PKind a (i + 1) := by
  refine List.ext_getElem (by simp [to_PKind]; omega) fun j h1 h2 => ?_
  by_cases e : j = i
  · subst e
    simp [to_PKind, List.getElem_append, h]
    intro h9; omega
  · simp only [List.getElem_set_ne (Ne.symm e)]
    simp only [to_PKind, List.getElem_append, List.length_take, List.getElem_take, List.getElem_replicate]
    split <;> split <;> first | rfl | omega
theorem c_toPKindS (t : Nat) (a : List PKind) (ha : a.length ≤ 1048576) : Contract P 48 [.sl t 3 (a.map PKind.row)] [] (.sl 0 3 (a.map PKind.row)) [] := by
  refine fn_sound ((Env.nil P).add 79 t_toPKind h_toPKind) hm k_laws_toPlanKindS (Nat.le_of_ble_eq_true rfl) rfl ?_; unfold s_laws_toPlanKindS; simp (config := { maxSteps := 2000000 }) only [bitvec_to_nat, reduceIte, Nat.reduceEqDiff, Nat.reduceAdd, Nat.reduceLeDiff, reduceCtorEq, Nat.reduceBEq, Nat.reduceLT, Nat.reduceMod, List.forall_mem_cons, t_toPKind, tk_map, dp_map, toNat_pred, appE, rowsOf, List.take_length, List.length_cons, List.length_nil, Nat.zero_add, srow, irow, un_s, un_i, Zone.row, Zone_eta, un_Zone, Word.row, Word_eta, Own.row, Own_eta, Part.row, Part_eta, Seen.row, Seen_eta, Book.row, Book_eta, Sector.row, Sector_eta, HCraft.row, HCraft_eta, World.row, World_eta, PKind.row, PKind_eta, PPt.row, PPt_eta, Cell.row, Cell_eta, PBase.row, PBase_eta, un_Word, un_Own, un_Part, un_Seen, un_Book, un_Sector, un_HCraft, un_World, un_PKind, un_PPt, un_Cell, un_PBase, set_PKind, Nat.sub_zero]
  have m0 : List.replicate a.length [.str ⟨#[]⟩, .int .i64 0, .int .i64 0] = (to_PKind a 0).map PKind.row := by simp [to_PKind, PKind.row]
  refine ⟨by omega, ?_⟩
  refine loop_st (fun i : Nat => [(4, .int .i64 i)]) (fun i => [(107, .arr 60 0 3 ((to_PKind a i).map PKind.row))]) (fun i => i ≤ a.length) (fun i => a.length - i) 0 (by simp only [u_E0, u_E1, u_M0, u_M1, w_setE0, w_setE1, w_setM0, w_setM1, reduceIte, Nat.reduceEqDiff]; exact ⟨by repeat' (first | exact trivial | refine ⟨.inr rfl, ?_⟩), ⟨congrArg (fun g => some (AObj.arr 60 0 3 g)) m0, trivial⟩, rfl, rfl⟩) (Nat.zero_le _) ?_
  intro i hi NX hN
  skip
  unfold l_laws_toPlanKindS_0; simp (config := { maxSteps := 2000000 }) only [bitvec_to_nat, reduceIte, Nat.reduceEqDiff, Nat.reduceAdd, Nat.reduceLeDiff, reduceCtorEq, Nat.reduceBEq, Nat.reduceLT, Nat.reduceMod, List.forall_mem_cons, t_toPKind, tk_map, dp_map, toNat_pred, appE, rowsOf, List.take_length, List.length_cons, List.length_nil, Nat.zero_add, srow, irow, un_s, un_i, Zone.row, Zone_eta, un_Zone, Word.row, Word_eta, Own.row, Own_eta, Part.row, Part_eta, Seen.row, Seen_eta, Book.row, Book_eta, Sector.row, Sector_eta, HCraft.row, HCraft_eta, World.row, World_eta, PKind.row, PKind_eta, PPt.row, PPt_eta, Cell.row, Cell_eta, PBase.row, PBase_eta, un_Word, un_Own, un_Part, un_Seen, un_Book, un_Sector, un_HCraft, un_World, un_PKind, un_PPt, un_Cell, un_PBase, set_PKind, Nat.sub_zero]
  refine ⟨fun h => ?_, fun h => ?_⟩
  · repeat' (first | with_reducible apply And.intro | with_reducible intro _)
    all_goals first
      | omega
      | rfl
      | exact hs2 (by omega)
      | (have e := to_PKind_st (a := a) (i := i) (by omega)
         try simp only [PKind.row] at *
         refine hN (i + 1) _ ⟨by repeat' (first | exact trivial | refine ⟨.inr rfl, ?_⟩), ⟨congrArg (fun g => some (AObj.arr 60 0 3 (List.map PKind.row g))) e, trivial⟩, rfl, rfl⟩ ?_ ?_ <;> omega)
  · have e : i = a.length := by omega
    subst e
    simp only [to_PKind, List.take_length, Nat.sub_self, List.replicate_zero, List.append_nil]
    try rw [List.take_of_length_le (by simp)]
def t_toPKindS : List AV → Option (Prop × AV)
  | [.sl st 3 sx] => some ((((sx.map unPKind).map PKind.row = sx)) ∧ ((sx.map unPKind).length ≤ 1048576), .sl 0 3 ((sx.map unPKind).map PKind.row))
  | _ => none
theorem h_toPKindS : ∀ args p v, t_toPKindS args = some (p, v) → p → Contract P 48 args [] v [] ∧ noref v = true ∧ No99 v := by
  intro args p v h1 h2
  unfold t_toPKindS at h1
  split at h1
  · rename_i st sx
    cases h1
    obtain ⟨e0, HP⟩ := h2
    have := c_toPKindS st (sx.map unPKind) HP
    exact ⟨by simpa only [e0] using this, rfl, by simp [No99, No99L, no99_box, no99_i, no99_str, no99_Zone, no99_Word, no99_Own, no99_Part, no99_Seen, no99_Book, no99_Sector, no99_HCraft, no99_World, no99_PKind, no99_PPt, no99_Cell, no99_PBase, -List.map_map]⟩
  · cases h1
theorem c_eqPKind (c d : PKind)  : Contract P 70 [.agg (c.row), .agg (d.row)] [] (.bool (decide (c = d))) [] := by
  obtain ⟨c_nm, c_q, c_sl⟩ := c
  obtain ⟨d_nm, d_q, d_sl⟩ := d
  simp only [PKind.row]
  refine fn_sound (Env.nil P) hm k_laws_eqPlanKind (Nat.le_of_ble_eq_true rfl) rfl ?_; unfold s_laws_eqPlanKind; simp (config := { maxSteps := 2000000 }) only [bitvec_to_nat, reduceIte, Nat.reduceEqDiff, Nat.reduceAdd, Nat.reduceLeDiff, reduceCtorEq, Nat.reduceBEq, Nat.reduceLT, Nat.reduceMod, List.forall_mem_cons, tk_map, dp_map, toNat_pred, appE, rowsOf, List.take_length, List.length_cons, List.length_nil, Nat.zero_add, srow, irow, un_s, un_i, Zone.row, Zone_eta, un_Zone, Word.row, Word_eta, Own.row, Own_eta, Part.row, Part_eta, Seen.row, Seen_eta, Book.row, Book_eta, Sector.row, Sector_eta, HCraft.row, HCraft_eta, World.row, World_eta, PKind.row, PKind_eta, PPt.row, PPt_eta, Cell.row, Cell_eta, PBase.row, PBase_eta, un_Word, un_Own, un_Part, un_Seen, un_Book, un_Sector, un_HCraft, un_World, un_PKind, un_PPt, un_Cell, un_PBase]
  simp only [PKind.mk.injEq]
  repeat' (first | with_reducible apply And.intro | with_reducible intro _)
  all_goals first | omega | (simp_all; done) | grind
def t_eqPKind : List AV → Option (Prop × AV)
  | [.agg [.str c_nm, .int .i64 c_q, .int .i64 c_sl], .agg [.str d_nm, .int .i64 d_q, .int .i64 d_sl]] => some ((True) ∧ (True), .bool (decide ((PKind.mk c_nm c_q c_sl) = (PKind.mk d_nm d_q d_sl))))
  | _ => none
theorem h_eqPKind : ∀ args p v, t_eqPKind args = some (p, v) → p → Contract P 70 args [] v [] ∧ noref v = true ∧ No99 v := by
  intro args p v h1 h2
  unfold t_eqPKind at h1
  split at h1
  · rename_i c_nm c_q c_sl d_nm d_q d_sl
    cases h1
    obtain ⟨_, HP⟩ := h2
    have := c_eqPKind (PKind.mk c_nm c_q c_sl) (PKind.mk d_nm d_q d_sl)
    exact ⟨by simpa only [PKind.row, PKind.row] using this, rfl, trivial⟩
  · cases h1
theorem c_eqPKindS (t t' : Nat) (p q : List PKind) (hp : p.length ≤ 4611686018427387904) : Contract P 52 [.sl t 3 (p.map PKind.row), .sl t' 3 (q.map PKind.row)] [] (.bool (decide (p = q))) [] := by
  refine fn_sound ((Env.nil P).add 70 t_eqPKind h_eqPKind) hm k_laws_eqPlanKindS (Nat.le_of_ble_eq_true rfl) rfl ?_; unfold s_laws_eqPlanKindS; simp (config := { maxSteps := 2000000 }) only [bitvec_to_nat, reduceIte, Nat.reduceEqDiff, Nat.reduceAdd, Nat.reduceLeDiff, reduceCtorEq, Nat.reduceBEq, Nat.reduceLT, Nat.reduceMod, List.forall_mem_cons, t_eqPKind, tk_map, dp_map, toNat_pred, appE, rowsOf, List.take_length, List.length_cons, List.length_nil, Nat.zero_add, srow, irow, un_s, un_i, Zone.row, Zone_eta, un_Zone, Word.row, Word_eta, Own.row, Own_eta, Part.row, Part_eta, Seen.row, Seen_eta, Book.row, Book_eta, Sector.row, Sector_eta, HCraft.row, HCraft_eta, World.row, World_eta, PKind.row, PKind_eta, PPt.row, PPt_eta, Cell.row, Cell_eta, PBase.row, PBase_eta, un_Word, un_Own, un_Part, un_Seen, un_Book, un_Sector, un_HCraft, un_World, un_PKind, un_PPt, un_Cell, un_PBase]
  refine ⟨fun h1 h => h1 (by rw [h]), fun h1 => ?_⟩
  refine loop_st (fun i : Nat => [(5, .int .i64 i)]) (fun _ => []) (fun i => i ≤ p.length ∧ ∀ j, j < i → p.getD j default = q.getD j default) (fun i => p.length - i) (0) (by simp only [u_E0, u_E1, u_M0, u_M1, w_setE0, w_setE1, w_setM0, w_setM1, reduceIte, Nat.reduceEqDiff]; exact ⟨by repeat' (first | exact trivial | refine ⟨.inr rfl, ?_⟩), by repeat' (first | exact trivial | refine ⟨rfl, ?_⟩), by first | rfl | simp [closedB, refsIn, refsInL, refsInO, dom, refsInL_nr, *], by first | rfl | simp [keepB, dom]⟩) ?_ ?_
  · exact ⟨Nat.zero_le _, by intro j hj; omega⟩
  intro i hi NX hN
  unfold l_laws_eqPlanKindS_0; simp (config := { maxSteps := 2000000 }) only [bitvec_to_nat, reduceIte, Nat.reduceEqDiff, Nat.reduceAdd, Nat.reduceLeDiff, reduceCtorEq, Nat.reduceBEq, Nat.reduceLT, Nat.reduceMod, List.forall_mem_cons, t_eqPKind, tk_map, dp_map, toNat_pred, appE, rowsOf, List.take_length, List.length_cons, List.length_nil, Nat.zero_add, srow, irow, un_s, un_i, Zone.row, Zone_eta, un_Zone, Word.row, Word_eta, Own.row, Own_eta, Part.row, Part_eta, Seen.row, Seen_eta, Book.row, Book_eta, Sector.row, Sector_eta, HCraft.row, HCraft_eta, World.row, World_eta, PKind.row, PKind_eta, PPt.row, PPt_eta, Cell.row, Cell_eta, PBase.row, PBase_eta, un_Word, un_Own, un_Part, un_Seen, un_Book, un_Sector, un_HCraft, un_World, un_PKind, un_PPt, un_Cell, un_PBase]
  skip
  repeat' (first | with_reducible apply And.intro | with_reducible intro _)
  all_goals first
    | omega
    | (refine hN (i + 1) _ (by simp only [u_E0, u_E1, u_M0, u_M1, w_setE0, w_setE1, w_setM0, w_setM1, reduceIte, Nat.reduceEqDiff]; exact ⟨by repeat' (first | exact trivial | refine ⟨.inr rfl, ?_⟩), by repeat' (first | exact trivial | refine ⟨rfl, ?_⟩), by first | rfl | simp [closedB, refsIn, refsInL, refsInO, dom, refsInL_nr, *], by first | rfl | simp [keepB, dom]⟩) ?_ ?_
       · exact ⟨by omega, all_snoc hi.2 (by with_reducible assumption)⟩
       · omega)
    | (intro h; subst h; exact absurd rfl (by with_reducible assumption))
    | (exact ext_of (by omega) fun j hj => hi.2 j (by omega))
    | grind
def t_eqPKindS : List AV → Option (Prop × AV)
  | [.sl ct 3 cx, .sl dt 3 dx] => some ((((cx.map unPKind).map PKind.row = cx) ∧ ((dx.map unPKind).map PKind.row = dx)) ∧ ((cx.map unPKind).length ≤ 4611686018427387904), .bool (decide ((cx.map unPKind) = (dx.map unPKind))))
  | _ => none
theorem h_eqPKindS : ∀ args p v, t_eqPKindS args = some (p, v) → p → Contract P 52 args [] v [] ∧ noref v = true ∧ No99 v := by
  intro args p v h1 h2
  unfold t_eqPKindS at h1
  split at h1
  · rename_i ct cx dt dx
    cases h1
    obtain ⟨⟨e0, e1⟩, HP⟩ := h2
    have := c_eqPKindS ct dt (cx.map unPKind) (dx.map unPKind) HP
    exact ⟨by simpa only [e0, e1] using this, rfl, trivial⟩
  · cases h1
theorem c_toPPt (s : PPt) : Contract P 80 [.agg (s.row)] [] (.agg (s.row)) [] := by
  simp only [PPt.row]
  refine fn_sound (Env.nil P) hm k_laws_toPlanPoint (Nat.le_of_ble_eq_true rfl) rfl ?_; unfold s_laws_toPlanPoint; simp (config := { maxSteps := 2000000 }) only [bitvec_to_nat, reduceIte, Nat.reduceEqDiff, Nat.reduceAdd, Nat.reduceLeDiff, reduceCtorEq, Nat.reduceBEq, Nat.reduceLT, Nat.reduceMod, List.forall_mem_cons, tk_map, dp_map, toNat_pred, appE, rowsOf, List.take_length, List.length_cons, List.length_nil, Nat.zero_add, srow, irow, un_s, un_i, Zone.row, Zone_eta, un_Zone, Word.row, Word_eta, Own.row, Own_eta, Part.row, Part_eta, Seen.row, Seen_eta, Book.row, Book_eta, Sector.row, Sector_eta, HCraft.row, HCraft_eta, World.row, World_eta, PKind.row, PKind_eta, PPt.row, PPt_eta, Cell.row, Cell_eta, PBase.row, PBase_eta, un_Word, un_Own, un_Part, un_Seen, un_Book, un_Sector, un_HCraft, un_World, un_PKind, un_PPt, un_Cell, un_PBase]
  all_goals trivial
def t_toPPt : List AV → Option (Prop × AV)
  | [.agg [.str s_nm, .int .i64 s_x, .int .i64 s_y]] => some ((True) ∧ (True), .agg (PPt.row (PPt.mk s_nm s_x s_y)))
  | _ => none
theorem h_toPPt : ∀ args p v, t_toPPt args = some (p, v) → p → Contract P 80 args [] v [] ∧ noref v = true ∧ No99 v := by
  intro args p v h1 h2
  unfold t_toPPt at h1
  split at h1
  · rename_i s_nm s_x s_y
    cases h1
    obtain ⟨_, HP⟩ := h2
    have := c_toPPt (PPt.mk s_nm s_x s_y)
    exact ⟨by simpa only [PPt.row] using this, rfl, by simp [PPt.row, No99, No99L, no99_box, no99_i, no99_str, no99_Zone, no99_Word, no99_Own, no99_Part, no99_Seen, no99_Book, no99_Sector, no99_HCraft, no99_World, no99_PKind, no99_PPt, no99_Cell, no99_PBase, -List.map_map]⟩
  · cases h1
theorem set_PPt {lst : List PPt} {idx : Nat} {vnm : ByteArray} {vx : Int} {vy : Int} : (lst.map PPt.row).set idx (setSeg ((lst.map PPt.row).getD idx []) 0 [.str vnm, .int .i64 vx, .int .i64 vy]) = (lst.set idx (PPt.mk vnm vx vy)).map PPt.row :=
  set_rows (α := PPt) (f := PPt.row) (fun s => (PPt.mk vnm vx vy)) fun x => by simp [PPt.row, setSeg]
def to_PPt (a : List PPt) (i : Nat) : List PPt := a.take i ++ List.replicate (a.length - i) ⟨⟨#[]⟩, 0, 0⟩
theorem to_PPt_st {a : List PPt} {i : Nat} (h : i < a.length) : (to_PPt a i).set i (a.getD i default) = to_PPt a (i + 1) := by
  refine List.ext_getElem (by simp [to_PPt]; omega) fun j h1 h2 => ?_
  by_cases e : j = i
  · subst e
    simp [to_PPt, List.getElem_append, h]
    intro h9; omega
  · simp only [List.getElem_set_ne (Ne.symm e)]
    simp only [to_PPt, List.getElem_append, List.length_take, List.getElem_take, List.getElem_replicate]
    split <;> split <;> first | rfl | omega
theorem c_toPPtS (t : Nat) (a : List PPt) (ha : a.length ≤ 1048576) : Contract P 49 [.sl t 3 (a.map PPt.row)] [] (.sl 0 3 (a.map PPt.row)) [] := by
  refine fn_sound ((Env.nil P).add 80 t_toPPt h_toPPt) hm k_laws_toPlanPointS (Nat.le_of_ble_eq_true rfl) rfl ?_; unfold s_laws_toPlanPointS; simp (config := { maxSteps := 2000000 }) only [bitvec_to_nat, reduceIte, Nat.reduceEqDiff, Nat.reduceAdd, Nat.reduceLeDiff, reduceCtorEq, Nat.reduceBEq, Nat.reduceLT, Nat.reduceMod, List.forall_mem_cons, t_toPPt, tk_map, dp_map, toNat_pred, appE, rowsOf, List.take_length, List.length_cons, List.length_nil, Nat.zero_add, srow, irow, un_s, un_i, Zone.row, Zone_eta, un_Zone, Word.row, Word_eta, Own.row, Own_eta, Part.row, Part_eta, Seen.row, Seen_eta, Book.row, Book_eta, Sector.row, Sector_eta, HCraft.row, HCraft_eta, World.row, World_eta, PKind.row, PKind_eta, PPt.row, PPt_eta, Cell.row, Cell_eta, PBase.row, PBase_eta, un_Word, un_Own, un_Part, un_Seen, un_Book, un_Sector, un_HCraft, un_World, un_PKind, un_PPt, un_Cell, un_PBase, set_PPt, Nat.sub_zero]
  have m0 : List.replicate a.length [.str ⟨#[]⟩, .int .i64 0, .int .i64 0] = (to_PPt a 0).map PPt.row := by simp [to_PPt, PPt.row]
  refine ⟨by omega, ?_⟩
  refine loop_st (fun i : Nat => [(4, .int .i64 i)]) (fun i => [(107, .arr 119 0 3 ((to_PPt a i).map PPt.row))]) (fun i => i ≤ a.length) (fun i => a.length - i) 0 (by simp only [u_E0, u_E1, u_M0, u_M1, w_setE0, w_setE1, w_setM0, w_setM1, reduceIte, Nat.reduceEqDiff]; exact ⟨by repeat' (first | exact trivial | refine ⟨.inr rfl, ?_⟩), ⟨congrArg (fun g => some (AObj.arr 119 0 3 g)) m0, trivial⟩, rfl, rfl⟩) (Nat.zero_le _) ?_
  intro i hi NX hN
  skip
  unfold l_laws_toPlanPointS_0; simp (config := { maxSteps := 2000000 }) only [bitvec_to_nat, reduceIte, Nat.reduceEqDiff, Nat.reduceAdd, Nat.reduceLeDiff, reduceCtorEq, Nat.reduceBEq, Nat.reduceLT, Nat.reduceMod, List.forall_mem_cons, t_toPPt, tk_map, dp_map, toNat_pred, appE, rowsOf, List.take_length, List.length_cons, List.length_nil, Nat.zero_add, srow, irow, un_s, un_i, Zone.row, Zone_eta, un_Zone, Word.row, Word_eta, Own.row, Own_eta, Part.row, Part_eta, Seen.row, Seen_eta, Book.row, Book_eta, Sector.row, Sector_eta, HCraft.row, HCraft_eta, World.row, World_eta, PKind.row, PKind_eta, PPt.row, PPt_eta, Cell.row, Cell_eta, PBase.row, PBase_eta, un_Word, un_Own, un_Part, un_Seen, un_Book, un_Sector, un_HCraft, un_World, un_PKind, un_PPt, un_Cell, un_PBase, set_PPt, Nat.sub_zero]
  refine ⟨fun h => ?_, fun h => ?_⟩
  · repeat' (first | with_reducible apply And.intro | with_reducible intro _)
    all_goals first
      | omega
      | rfl
      | exact hs2 (by omega)
      | (have e := to_PPt_st (a := a) (i := i) (by omega)
         try simp only [PPt.row] at *
         refine hN (i + 1) _ ⟨by repeat' (first | exact trivial | refine ⟨.inr rfl, ?_⟩), ⟨congrArg (fun g => some (AObj.arr 119 0 3 (List.map PPt.row g))) e, trivial⟩, rfl, rfl⟩ ?_ ?_ <;> omega)
  · have e : i = a.length := by omega
    subst e
    simp only [to_PPt, List.take_length, Nat.sub_self, List.replicate_zero, List.append_nil]
    try rw [List.take_of_length_le (by simp)]
def t_toPPtS : List AV → Option (Prop × AV)
  | [.sl st 3 sx] => some ((((sx.map unPPt).map PPt.row = sx)) ∧ ((sx.map unPPt).length ≤ 1048576), .sl 0 3 ((sx.map unPPt).map PPt.row))
  | _ => none
theorem h_toPPtS : ∀ args p v, t_toPPtS args = some (p, v) → p → Contract P 49 args [] v [] ∧ noref v = true ∧ No99 v := by
  intro args p v h1 h2
  unfold t_toPPtS at h1
  split at h1
  · rename_i st sx
    cases h1
    obtain ⟨e0, HP⟩ := h2
    have := c_toPPtS st (sx.map unPPt) HP
    exact ⟨by simpa only [e0] using this, rfl, by simp [No99, No99L, no99_box, no99_i, no99_str, no99_Zone, no99_Word, no99_Own, no99_Part, no99_Seen, no99_Book, no99_Sector, no99_HCraft, no99_World, no99_PKind, no99_PPt, no99_Cell, no99_PBase, -List.map_map]⟩
  · cases h1
theorem c_eqPPt (c d : PPt)  : Contract P 89 [.agg (c.row), .agg (d.row)] [] (.bool (decide (c = d))) [] := by
  obtain ⟨c_nm, c_x, c_y⟩ := c
  obtain ⟨d_nm, d_x, d_y⟩ := d
  simp only [PPt.row]
  refine fn_sound (Env.nil P) hm k_laws_eqPlanPoint (Nat.le_of_ble_eq_true rfl) rfl ?_; unfold s_laws_eqPlanPoint; simp (config := { maxSteps := 2000000 }) only [bitvec_to_nat, reduceIte, Nat.reduceEqDiff, Nat.reduceAdd, Nat.reduceLeDiff, reduceCtorEq, Nat.reduceBEq, Nat.reduceLT, Nat.reduceMod, List.forall_mem_cons, tk_map, dp_map, toNat_pred, appE, rowsOf, List.take_length, List.length_cons, List.length_nil, Nat.zero_add, srow, irow, un_s, un_i, Zone.row, Zone_eta, un_Zone, Word.row, Word_eta, Own.row, Own_eta, Part.row, Part_eta, Seen.row, Seen_eta, Book.row, Book_eta, Sector.row, Sector_eta, HCraft.row, HCraft_eta, World.row, World_eta, PKind.row, PKind_eta, PPt.row, PPt_eta, Cell.row, Cell_eta, PBase.row, PBase_eta, un_Word, un_Own, un_Part, un_Seen, un_Book, un_Sector, un_HCraft, un_World, un_PKind, un_PPt, un_Cell, un_PBase]
  simp only [PPt.mk.injEq]
  repeat' (first | with_reducible apply And.intro | with_reducible intro _)
  all_goals first | omega | (simp_all; done) | grind
def t_eqPPt : List AV → Option (Prop × AV)
  | [.agg [.str c_nm, .int .i64 c_x, .int .i64 c_y], .agg [.str d_nm, .int .i64 d_x, .int .i64 d_y]] => some ((True) ∧ (True), .bool (decide ((PPt.mk c_nm c_x c_y) = (PPt.mk d_nm d_x d_y))))
  | _ => none
theorem h_eqPPt : ∀ args p v, t_eqPPt args = some (p, v) → p → Contract P 89 args [] v [] ∧ noref v = true ∧ No99 v := by
  intro args p v h1 h2
  unfold t_eqPPt at h1
  split at h1
  · rename_i c_nm c_x c_y d_nm d_x d_y
    cases h1
    obtain ⟨_, HP⟩ := h2
    have := c_eqPPt (PPt.mk c_nm c_x c_y) (PPt.mk d_nm d_x d_y)
    exact ⟨by simpa only [PPt.row, PPt.row] using this, rfl, trivial⟩
  · cases h1
theorem c_eqPPtS (t t' : Nat) (p q : List PPt) (hp : p.length ≤ 4611686018427387904) : Contract P 53 [.sl t 3 (p.map PPt.row), .sl t' 3 (q.map PPt.row)] [] (.bool (decide (p = q))) [] := by
  refine fn_sound ((Env.nil P).add 89 t_eqPPt h_eqPPt) hm k_laws_eqPlanPointS (Nat.le_of_ble_eq_true rfl) rfl ?_; unfold s_laws_eqPlanPointS; simp (config := { maxSteps := 2000000 }) only [bitvec_to_nat, reduceIte, Nat.reduceEqDiff, Nat.reduceAdd, Nat.reduceLeDiff, reduceCtorEq, Nat.reduceBEq, Nat.reduceLT, Nat.reduceMod, List.forall_mem_cons, t_eqPPt, tk_map, dp_map, toNat_pred, appE, rowsOf, List.take_length, List.length_cons, List.length_nil, Nat.zero_add, srow, irow, un_s, un_i, Zone.row, Zone_eta, un_Zone, Word.row, Word_eta, Own.row, Own_eta, Part.row, Part_eta, Seen.row, Seen_eta, Book.row, Book_eta, Sector.row, Sector_eta, HCraft.row, HCraft_eta, World.row, World_eta, PKind.row, PKind_eta, PPt.row, PPt_eta, Cell.row, Cell_eta, PBase.row, PBase_eta, un_Word, un_Own, un_Part, un_Seen, un_Book, un_Sector, un_HCraft, un_World, un_PKind, un_PPt, un_Cell, un_PBase]
  refine ⟨fun h1 h => h1 (by rw [h]), fun h1 => ?_⟩
  refine loop_st (fun i : Nat => [(5, .int .i64 i)]) (fun _ => []) (fun i => i ≤ p.length ∧ ∀ j, j < i → p.getD j default = q.getD j default) (fun i => p.length - i) (0) (by simp only [u_E0, u_E1, u_M0, u_M1, w_setE0, w_setE1, w_setM0, w_setM1, reduceIte, Nat.reduceEqDiff]; exact ⟨by repeat' (first | exact trivial | refine ⟨.inr rfl, ?_⟩), by repeat' (first | exact trivial | refine ⟨rfl, ?_⟩), by first | rfl | simp [closedB, refsIn, refsInL, refsInO, dom, refsInL_nr, *], by first | rfl | simp [keepB, dom]⟩) ?_ ?_
  · exact ⟨Nat.zero_le _, by intro j hj; omega⟩
  intro i hi NX hN
  unfold l_laws_eqPlanPointS_0; simp (config := { maxSteps := 2000000 }) only [bitvec_to_nat, reduceIte, Nat.reduceEqDiff, Nat.reduceAdd, Nat.reduceLeDiff, reduceCtorEq, Nat.reduceBEq, Nat.reduceLT, Nat.reduceMod, List.forall_mem_cons, t_eqPPt, tk_map, dp_map, toNat_pred, appE, rowsOf, List.take_length, List.length_cons, List.length_nil, Nat.zero_add, srow, irow, un_s, un_i, Zone.row, Zone_eta, un_Zone, Word.row, Word_eta, Own.row, Own_eta, Part.row, Part_eta, Seen.row, Seen_eta, Book.row, Book_eta, Sector.row, Sector_eta, HCraft.row, HCraft_eta, World.row, World_eta, PKind.row, PKind_eta, PPt.row, PPt_eta, Cell.row, Cell_eta, PBase.row, PBase_eta, un_Word, un_Own, un_Part, un_Seen, un_Book, un_Sector, un_HCraft, un_World, un_PKind, un_PPt, un_Cell, un_PBase]
  skip
  repeat' (first | with_reducible apply And.intro | with_reducible intro _)
  all_goals first
    | omega
    | (refine hN (i + 1) _ (by simp only [u_E0, u_E1, u_M0, u_M1, w_setE0, w_setE1, w_setM0, w_setM1, reduceIte, Nat.reduceEqDiff]; exact ⟨by repeat' (first | exact trivial | refine ⟨.inr rfl, ?_⟩), by repeat' (first | exact trivial | refine ⟨rfl, ?_⟩), by first | rfl | simp [closedB, refsIn, refsInL, refsInO, dom, refsInL_nr, *], by first | rfl | simp [keepB, dom]⟩) ?_ ?_
       · exact ⟨by omega, all_snoc hi.2 (by with_reducible assumption)⟩
       · omega)
    | (intro h; subst h; exact absurd rfl (by with_reducible assumption))
    | (exact ext_of (by omega) fun j hj => hi.2 j (by omega))
    | grind
def t_eqPPtS : List AV → Option (Prop × AV)
  | [.sl ct 3 cx, .sl dt 3 dx] => some ((((cx.map unPPt).map PPt.row = cx) ∧ ((dx.map unPPt).map PPt.row = dx)) ∧ ((cx.map unPPt).length ≤ 4611686018427387904), .bool (decide ((cx.map unPPt) = (dx.map unPPt))))
  | _ => none
theorem h_eqPPtS : ∀ args p v, t_eqPPtS args = some (p, v) → p → Contract P 53 args [] v [] ∧ noref v = true ∧ No99 v := by
  intro args p v h1 h2
  unfold t_eqPPtS at h1
  split at h1
  · rename_i ct cx dt dx
    cases h1
    obtain ⟨⟨e0, e1⟩, HP⟩ := h2
    have := c_eqPPtS ct dt (cx.map unPPt) (dx.map unPPt) HP
    exact ⟨by simpa only [e0, e1] using this, rfl, trivial⟩
  · cases h1
theorem c_toPBase (s : PBase) (hs : s.small) : Contract P 11 [.agg (s.row 1)] [] (.agg (s.row 0)) [] := by
  unfold PBase.small at hs
  simp only [PBase.row]
  refine fn_sound (((Env.nil P).add 48 t_toPKindS h_toPKindS).add 49 t_toPPtS h_toPPtS) hm k_laws_toPlanBase (Nat.le_of_ble_eq_true rfl) rfl ?_; unfold s_laws_toPlanBase; simp (config := { maxSteps := 2000000 }) only [bitvec_to_nat, reduceIte, Nat.reduceEqDiff, Nat.reduceAdd, Nat.reduceLeDiff, reduceCtorEq, Nat.reduceBEq, Nat.reduceLT, Nat.reduceMod, List.forall_mem_cons, t_toPKindS, t_toPPtS, tk_map, dp_map, toNat_pred, appE, rowsOf, List.take_length, List.length_cons, List.length_nil, Nat.zero_add, srow, irow, un_s, un_i, Zone.row, Zone_eta, un_Zone, Word.row, Word_eta, Own.row, Own_eta, Part.row, Part_eta, Seen.row, Seen_eta, Book.row, Book_eta, Sector.row, Sector_eta, HCraft.row, HCraft_eta, World.row, World_eta, PKind.row, PKind_eta, PPt.row, PPt_eta, Cell.row, Cell_eta, PBase.row, PBase_eta, un_Word, un_Own, un_Part, un_Seen, un_Book, un_Sector, un_HCraft, un_World, un_PKind, un_PPt, un_Cell, un_PBase]
  repeat' (first | with_reducible apply And.intro | with_reducible intro _)
  all_goals first | omega | grind | grind [Word.small, Own.small, Part.small, Book.small, Sector.small, HCraft.small, World.small, PBase.small]
def t_toPBase : List AV → Option (Prop × AV)
  | [.agg [.sl 1 3 s_ks, .sl 1 3 s_ps]] => some ((((s_ks.map unPKind).map PKind.row = s_ks) ∧ ((s_ps.map unPPt).map PPt.row = s_ps)) ∧ (PBase.small (PBase.mk (s_ks.map unPKind) (s_ps.map unPPt))), .agg (PBase.row 0 (PBase.mk (s_ks.map unPKind) (s_ps.map unPPt))))
  | _ => none
theorem h_toPBase : ∀ args p v, t_toPBase args = some (p, v) → p → Contract P 11 args [] v [] ∧ noref v = true ∧ No99 v := by
  intro args p v h1 h2
  unfold t_toPBase at h1
  split at h1
  · rename_i s_ks s_ps
    cases h1
    obtain ⟨⟨e0, e1⟩, HP⟩ := h2
    have := c_toPBase (PBase.mk (s_ks.map unPKind) (s_ps.map unPPt)) HP
    exact ⟨by simpa only [e0, e1, PBase.row] using this, rfl, by simp [PBase.row, No99, No99L, no99_box, no99_i, no99_str, no99_Zone, no99_Word, no99_Own, no99_Part, no99_Seen, no99_Book, no99_Sector, no99_HCraft, no99_World, no99_PKind, no99_PPt, no99_Cell, no99_PBase, -List.map_map]⟩
  · cases h1
theorem c_eqPBase (c d : PBase) (hl : c.ks.length ≤ 4611686018427387904 ∧ c.ps.length ≤ 4611686018427387904) : Contract P 13 [.agg (c.row 0), .agg (d.row 0)] [] (.bool (decide (c = d))) [] := by
  obtain ⟨c_ks, c_ps⟩ := c
  obtain ⟨d_ks, d_ps⟩ := d
  simp only [PBase.row]
  refine fn_sound (((Env.nil P).add 52 t_eqPKindS h_eqPKindS).add 53 t_eqPPtS h_eqPPtS) hm k_laws_eqPlanBase (Nat.le_of_ble_eq_true rfl) rfl ?_; unfold s_laws_eqPlanBase; simp (config := { maxSteps := 2000000 }) only [bitvec_to_nat, reduceIte, Nat.reduceEqDiff, Nat.reduceAdd, Nat.reduceLeDiff, reduceCtorEq, Nat.reduceBEq, Nat.reduceLT, Nat.reduceMod, List.forall_mem_cons, t_eqPKindS, t_eqPPtS, tk_map, dp_map, toNat_pred, appE, rowsOf, List.take_length, List.length_cons, List.length_nil, Nat.zero_add, srow, irow, un_s, un_i, Zone.row, Zone_eta, un_Zone, Word.row, Word_eta, Own.row, Own_eta, Part.row, Part_eta, Seen.row, Seen_eta, Book.row, Book_eta, Sector.row, Sector_eta, HCraft.row, HCraft_eta, World.row, World_eta, PKind.row, PKind_eta, PPt.row, PPt_eta, Cell.row, Cell_eta, PBase.row, PBase_eta, un_Word, un_Own, un_Part, un_Seen, un_Book, un_Sector, un_HCraft, un_World, un_PKind, un_PPt, un_Cell, un_PBase]
  simp only [PBase.mk.injEq]
  repeat' (first | with_reducible apply And.intro | with_reducible intro _)
  all_goals first | omega | (simp_all; done) | grind | grind [Word.small, Own.small, Part.small, Book.small, Sector.small, HCraft.small, World.small, PBase.small]
def t_eqPBase : List AV → Option (Prop × AV)
  | [.agg [.sl 0 3 c_ks, .sl 0 3 c_ps], .agg [.sl 0 3 d_ks, .sl 0 3 d_ps]] => some ((((c_ks.map unPKind).map PKind.row = c_ks) ∧ ((c_ps.map unPPt).map PPt.row = c_ps) ∧ ((d_ks.map unPKind).map PKind.row = d_ks) ∧ ((d_ps.map unPPt).map PPt.row = d_ps)) ∧ ((PBase.mk (c_ks.map unPKind) (c_ps.map unPPt)).ks.length ≤ 4611686018427387904 ∧ (PBase.mk (c_ks.map unPKind) (c_ps.map unPPt)).ps.length ≤ 4611686018427387904), .bool (decide ((PBase.mk (c_ks.map unPKind) (c_ps.map unPPt)) = (PBase.mk (d_ks.map unPKind) (d_ps.map unPPt)))))
  | _ => none
theorem h_eqPBase : ∀ args p v, t_eqPBase args = some (p, v) → p → Contract P 13 args [] v [] ∧ noref v = true ∧ No99 v := by
  intro args p v h1 h2
  unfold t_eqPBase at h1
  split at h1
  · rename_i c_ks c_ps d_ks d_ps
    cases h1
    obtain ⟨⟨e0, e1, e2, e3⟩, HP⟩ := h2
    have := c_eqPBase (PBase.mk (c_ks.map unPKind) (c_ps.map unPPt)) (PBase.mk (d_ks.map unPKind) (d_ps.map unPPt)) HP
    exact ⟨by simpa only [e0, e1, e2, e3, PBase.row, PBase.row] using this, rfl, trivial⟩
  · cases h1
end
end Go.Ve

namespace Go.Ve
noncomputable section
open Go.Proofs
set_option linter.unusedSimpArgs false
set_option linter.unusedVariables false
set_option maxRecDepth 100000
end
end Go.Ve

namespace Go.Ve
noncomputable section
open Go.Proofs
set_option linter.unusedSimpArgs false
set_option linter.unusedVariables false
set_option maxRecDepth 100000
def sh_PKind : List LSh := [.str, .int .i64, .int .i64]
theorem fit_PKind (r : List AV) (h : fitsL sh_PKind r) : ∃ x : PKind, r = PKind.row x ∧ x.fitp := by
  simp only [sh_PKind, fitsL, fits] at h
  obtain ⟨_, _, rfl, ⟨nm, rfl, h_nm⟩, _, _, rfl, ⟨q, rfl, _⟩, _, _, rfl, ⟨sl, rfl, _⟩, rfl⟩ := h

  exact ⟨⟨nm, q, sl⟩, rfl, (by have e := toList_size nm; unfold maxLen at h_nm; show nm.toList.length ≤ _; omega)⟩
def sh_PPt : List LSh := [.str, .int .i64, .int .i64]
theorem fit_PPt (r : List AV) (h : fitsL sh_PPt r) : ∃ x : PPt, r = PPt.row x ∧ x.fitp := by
  simp only [sh_PPt, fitsL, fits] at h
  obtain ⟨_, _, rfl, ⟨nm, rfl, h_nm⟩, _, _, rfl, ⟨x, rfl, _⟩, _, _, rfl, ⟨y, rfl, _⟩, rfl⟩ := h

  exact ⟨⟨nm, x, y⟩, rfl, (by have e := toList_size nm; unfold maxLen at h_nm; show nm.toList.length ≤ _; omega)⟩
def sh_PBase : List LSh := [.sl sh_PKind, .sl sh_PPt]
theorem fit_PBase (r : List AV) (h : fitsL sh_PBase r) : ∃ x : PBase, r = (PBase.row 1) x ∧ x.fitp := by
  simp only [sh_PBase, fitsL, fits] at h
  obtain ⟨_, _, rfl, ⟨ks, rfl, h_ks, r_ks⟩, _, _, rfl, ⟨ps, rfl, h_ps, r_ps⟩, rfl⟩ := h
  obtain ⟨ks, rfl, p_ks⟩ := fit_rows2 fit_PKind r_ks
  rw [List.length_map] at h_ks
  obtain ⟨ps, rfl, p_ps⟩ := fit_rows2 fit_PPt r_ps
  rw [List.length_map] at h_ps
  exact ⟨⟨ks, ps⟩, rfl, ⟨⟨(by unfold maxLen at h_ks; omega), p_ks⟩, ⟨(by unfold maxLen at h_ps; omega), p_ps⟩⟩⟩
end
end Go.Ve

namespace Go.Ve
noncomputable section
open Go.Proofs
set_option linter.unusedSimpArgs false
set_option linter.unusedVariables false
set_option maxRecDepth 100000
open Go.ChangeShapes Go.WideShapes
def t_sFits : List AV → Option (Prop × AV)
  | [.agg [.sl t 3 kx, .sl t' 3 px], .int .i64 w, .str v] => some (((kx.map unPKind).map PKind.row = kx ∧ (px.map unPPt).map PPt.row = px) ∧ ((kx.map unPKind).length ≤ 1048576 ∧ (px.map unPPt).length ≤ 1048576 ∧ v.toList.length ≤ 1048576), .bool (decide (baseOk (kx.map unPKind) (px.map unPPt) ∧ plFits (kx.map unPKind) (px.map unPPt) w v)))
  | _ => none
theorem h_sFits : ∀ args p v, t_sFits args = some (p, v) → p → Contract P 10 args [] v [] ∧ noref v = true ∧ No99 v := by
  intro args p v h1 h2
  unfold t_sFits at h1
  split at h1
  · rename_i t kx t' px w v
    cases h1
    obtain ⟨⟨e1, e2⟩, h3⟩ := h2
    have := c_sFits t t' (kx.map unPKind) (px.map unPPt) w v h3.1 h3.2.1 h3.2.2
    simp only [e1, e2] at this
    exact ⟨this, rfl, trivial⟩
  · cases h1
def t_iFits : List AV → Option (Prop × AV)
  | [.agg [.sl t 3 kx, .sl t' 3 px], .int .i64 w, .str v] => some (((kx.map unPKind).map PKind.row = kx ∧ (px.map unPPt).map PPt.row = px) ∧ ((kx.map unPKind).length ≤ 1048576 ∧ (px.map unPPt).length ≤ 1048576 ∧ v.toList.length ≤ 1048576), .bool (decide (plFits (kx.map unPKind) (px.map unPPt) w v)))
  | _ => none
theorem h_iFits : ∀ args p v, t_iFits args = some (p, v) → p → Contract P 51 args [] v [] ∧ noref v = true ∧ No99 v := by
  intro args p v h1 h2
  unfold t_iFits at h1
  split at h1
  · rename_i t kx t' px w v
    cases h1
    obtain ⟨⟨e1, e2⟩, h3⟩ := h2
    have := c_iFits t t' (kx.map unPKind) (px.map unPPt) w v h3.1 h3.2.1 h3.2.2
    simp only [e1, e2] at this
    exact ⟨this, rfl, trivial⟩
  · cases h1
end
end Go.Ve

namespace Go.Ve
noncomputable section
open Go.Proofs
set_option linter.unusedSimpArgs false
set_option linter.unusedVariables false
set_option maxRecDepth 100000
structure Chg where
  fl : ByteArray
  w : Int
  nr : Int
  v : ByteArray
  deriving Inhabited, DecidableEq
def Chg.row (s : Chg) : List AV := [.str s.fl, .int .i64 s.w, .int .i64 s.nr, .str s.v]
def unChg : List AV → Chg
  | [.str vfl, .int .i64 vw, .int .i64 vnr, .str vv] => (Chg.mk vfl vw vnr vv)
  | _ => default
theorem unChg_row (s : Chg) : unChg (Chg.row s) = s := by
  cases s; simp only [Chg.row, unChg]
theorem un_Chg (l : List Chg) : (l.map Chg.row).map unChg = l := by
  rw [List.map_map]; exact List.map_id'' (fun s => unChg_row s) l
theorem Chg_eta (s : Chg) : (Chg.mk s.fl s.w s.nr s.v) = s := (rfl)
theorem no99_Chg (l : List Chg) : No99LL (l.map Chg.row) := by
  induction l with
  | nil => simp [No99LL]
  | cons x l ih => simp only [List.map_cons, No99LL]; exact ⟨by simp [Chg.row, No99L, No99], ih⟩
open Go.ChangeShapes Go.WideShapes
def Chg.ok (ks : List PKind) (ps : List PPt) (c : Chg) : Prop := nameOk c.fl ∧ (1 ≤ c.nr ∧ c.nr ≤ 1000000) ∧ plFits ks ps c.w c.v
noncomputable instance (ks : List PKind) (ps : List PPt) (c : Chg) : Decidable (c.ok ks ps) := Classical.propDecidable _
set_option maxHeartbeats 1000000 in
theorem c_sChange (t t' : Nat) (ks : List PKind) (ps : List PPt) (c : Chg) (hk : ks.length ≤ 1048576) (hp : ps.length ≤ 1048576) (hv : c.v.toList.length ≤ 1048576) : Contract P 15 [.agg [.sl t 3 (ks.map PKind.row), .sl t' 3 (ps.map PPt.row)], .agg c.row] [] (.bool (decide (baseOk ks ps ∧ c.ok ks ps))) [] := by
  obtain ⟨fl, w, nr, v⟩ := c
  simp only [Chg.row] at *
  refine fn_sound ((((Env.nil P).add 54 t_l11NameOk h_l11NameOk).add 45 t_l11In h_l11In).add 10 t_sFits h_sFits) hm k_spec_PlanChangeOk (Nat.le_of_ble_eq_true rfl) rfl ?_; unfold s_spec_PlanChangeOk; simp (config := { maxSteps := 2000000 }) only [bitvec_to_nat, reduceIte, Nat.reduceEqDiff, Nat.reduceAdd, Nat.reduceLeDiff, reduceCtorEq, Nat.reduceBEq, Nat.reduceLT, Nat.reduceMod, List.forall_mem_cons, t_l11NameOk, t_l11In, t_sFits, tk_map, dp_map, toNat_pred, appE, rowsOf, List.take_length, List.length_cons, List.length_nil, Nat.zero_add, srow, irow, un_s, un_i, Zone.row, Zone_eta, un_Zone, Word.row, Word_eta, Own.row, Own_eta, Part.row, Part_eta, Seen.row, Seen_eta, Book.row, Book_eta, Sector.row, Sector_eta, HCraft.row, HCraft_eta, World.row, World_eta, PKind.row, PKind_eta, PPt.row, PPt_eta, Cell.row, Cell_eta, PBase.row, PBase_eta, Chg.row, Chg_eta, un_Word, un_Own, un_Part, un_Seen, un_Book, un_Sector, un_HCraft, un_World, un_PKind, un_PPt, un_Cell, un_PBase, un_Chg, Nat.sub_zero, List.nil_append, Int.toNat_one, un_PKind, un_PPt, PBase.row, PBase_eta, Chg.row, Chg_eta]
  repeat' (first | with_reducible apply And.intro | with_reducible intro _)
  all_goals first
    | omega
    | assumption
    | grind [Chg.ok]
    | (rw [decide_eq_decide]; grind [Chg.ok])
    | trace_state
def t_sChange : List AV → Option (Prop × AV)
  | [.agg [.sl t 3 kx, .sl t' 3 px], .agg [.str fl, .int .i64 w, .int .i64 nr, .str v]] => some (((kx.map unPKind).map PKind.row = kx ∧ (px.map unPPt).map PPt.row = px) ∧ ((kx.map unPKind).length ≤ 1048576 ∧ (px.map unPPt).length ≤ 1048576 ∧ v.toList.length ≤ 1048576), .bool (decide (baseOk (kx.map unPKind) (px.map unPPt) ∧ Chg.ok (kx.map unPKind) (px.map unPPt) (Chg.mk fl w nr v))))
  | _ => none
theorem h_sChange : ∀ args p v, t_sChange args = some (p, v) → p → Contract P 15 args [] v [] ∧ noref v = true ∧ No99 v := by
  intro args p v h1 h2
  unfold t_sChange at h1
  split at h1
  · rename_i t kx t' px fl w nr v
    cases h1
    obtain ⟨⟨e1, e2⟩, h3⟩ := h2
    have := c_sChange t t' (kx.map unPKind) (px.map unPPt) ⟨fl, w, nr, v⟩ h3.1 h3.2.1 h3.2.2
    simp only [e1, e2] at this
    exact ⟨this, rfl, trivial⟩
  · cases h1
set_option maxHeartbeats 1000000 in
theorem c_change (t t' : Nat) (ks : List PKind) (ps : List PPt) (c : Chg) (hk : ks.length ≤ 1048576) (hp : ps.length ≤ 1048576) (hv : c.v.toList.length ≤ 1048576) : Contract P 55 [.agg [.sl t 3 (ks.map PKind.row), .sl t' 3 (ps.map PPt.row)], .agg c.row] [] (.bool (decide (c.ok ks ps))) [] := by
  obtain ⟨fl, w, nr, v⟩ := c
  simp only [Chg.row] at *
  refine fn_sound ((((Env.nil P).add 90 t_isName h_isName).add 87 t_within h_within).add 51 t_iFits h_iFits) hm k_impl_PlanBase_change (Nat.le_of_ble_eq_true rfl) rfl ?_; unfold s_impl_PlanBase_change; simp (config := { maxSteps := 2000000 }) only [bitvec_to_nat, reduceIte, Nat.reduceEqDiff, Nat.reduceAdd, Nat.reduceLeDiff, reduceCtorEq, Nat.reduceBEq, Nat.reduceLT, Nat.reduceMod, List.forall_mem_cons, t_isName, t_within, t_iFits, tk_map, dp_map, toNat_pred, appE, rowsOf, List.take_length, List.length_cons, List.length_nil, Nat.zero_add, srow, irow, un_s, un_i, Zone.row, Zone_eta, un_Zone, Word.row, Word_eta, Own.row, Own_eta, Part.row, Part_eta, Seen.row, Seen_eta, Book.row, Book_eta, Sector.row, Sector_eta, HCraft.row, HCraft_eta, World.row, World_eta, PKind.row, PKind_eta, PPt.row, PPt_eta, Cell.row, Cell_eta, PBase.row, PBase_eta, Chg.row, Chg_eta, un_Word, un_Own, un_Part, un_Seen, un_Book, un_Sector, un_HCraft, un_World, un_PKind, un_PPt, un_Cell, un_PBase, un_Chg, Nat.sub_zero, List.nil_append, Int.toNat_one, un_PKind, un_PPt, PBase.row, PBase_eta, Chg.row, Chg_eta]
  repeat' (first | with_reducible apply And.intro | with_reducible intro _)
  all_goals first
    | omega
    | assumption
    | grind [Chg.ok]
    | (rw [decide_eq_decide]; grind [Chg.ok])
    | trace_state
def t_change : List AV → Option (Prop × AV)
  | [.agg [.sl t 3 kx, .sl t' 3 px], .agg [.str fl, .int .i64 w, .int .i64 nr, .str v]] => some (((kx.map unPKind).map PKind.row = kx ∧ (px.map unPPt).map PPt.row = px) ∧ ((kx.map unPKind).length ≤ 1048576 ∧ (px.map unPPt).length ≤ 1048576 ∧ v.toList.length ≤ 1048576), .bool (decide (Chg.ok (kx.map unPKind) (px.map unPPt) (Chg.mk fl w nr v))))
  | _ => none
theorem h_change : ∀ args p v, t_change args = some (p, v) → p → Contract P 55 args [] v [] ∧ noref v = true ∧ No99 v := by
  intro args p v h1 h2
  unfold t_change at h1
  split at h1
  · rename_i t kx t' px fl w nr v
    cases h1
    obtain ⟨⟨e1, e2⟩, h3⟩ := h2
    have := c_change t t' (kx.map unPKind) (px.map unPPt) ⟨fl, w, nr, v⟩ h3.1 h3.2.1 h3.2.2
    simp only [e1, e2] at this
    exact ⟨this, rfl, trivial⟩
  · cases h1
set_option maxHeartbeats 1000000 in
theorem c_iChange (t t' : Nat) (ks : List PKind) (ps : List PPt) (c : Chg) (hk : ks.length ≤ 1048576) (hp : ps.length ≤ 1048576) (hv : c.v.toList.length ≤ 1048576) (hnk : ∀ x ∈ ks, x.nm.toList.length ≤ 9223372036854775807) (hnp : ∀ x ∈ ps, x.nm.toList.length ≤ 9223372036854775807) : Contract P 17 [.agg [.sl t 3 (ks.map PKind.row), .sl t' 3 (ps.map PPt.row)], .agg c.row] [] (.bool (decide (baseOk ks ps ∧ c.ok ks ps))) [] := by
  obtain ⟨fl, w, nr, v⟩ := c
  simp only [Chg.row] at *
  refine fn_sound (((Env.nil P).add 50 t_iBaseOk h_iBaseOk).add 55 t_change h_change) hm k_impl_PlanChangeOk (Nat.le_of_ble_eq_true rfl) rfl ?_; unfold s_impl_PlanChangeOk; simp (config := { maxSteps := 2000000 }) only [bitvec_to_nat, reduceIte, Nat.reduceEqDiff, Nat.reduceAdd, Nat.reduceLeDiff, reduceCtorEq, Nat.reduceBEq, Nat.reduceLT, Nat.reduceMod, List.forall_mem_cons, t_iBaseOk, t_change, tk_map, dp_map, toNat_pred, appE, rowsOf, List.take_length, List.length_cons, List.length_nil, Nat.zero_add, srow, irow, un_s, un_i, Zone.row, Zone_eta, un_Zone, Word.row, Word_eta, Own.row, Own_eta, Part.row, Part_eta, Seen.row, Seen_eta, Book.row, Book_eta, Sector.row, Sector_eta, HCraft.row, HCraft_eta, World.row, World_eta, PKind.row, PKind_eta, PPt.row, PPt_eta, Cell.row, Cell_eta, PBase.row, PBase_eta, Chg.row, Chg_eta, un_Word, un_Own, un_Part, un_Seen, un_Book, un_Sector, un_HCraft, un_World, un_PKind, un_PPt, un_Cell, un_PBase, un_Chg, Nat.sub_zero, List.nil_append, Int.toNat_one, un_PKind, un_PPt, PBase.row, PBase_eta, Chg.row, Chg_eta]
  repeat' (first | with_reducible apply And.intro | with_reducible intro _)
  all_goals first
    | omega
    | assumption
    | grind [Chg.ok]
    | (rw [decide_eq_decide]; grind [Chg.ok])
    | trace_state
def t_iChange : List AV → Option (Prop × AV)
  | [.agg [.sl t 3 kx, .sl t' 3 px], .agg [.str fl, .int .i64 w, .int .i64 nr, .str v]] => some (((kx.map unPKind).map PKind.row = kx ∧ (px.map unPPt).map PPt.row = px) ∧ ((kx.map unPKind).length ≤ 1048576 ∧ (px.map unPPt).length ≤ 1048576 ∧ v.toList.length ≤ 1048576 ∧ (∀ x ∈ (kx.map unPKind), x.nm.toList.length ≤ 9223372036854775807) ∧ (∀ x ∈ (px.map unPPt), x.nm.toList.length ≤ 9223372036854775807)), .bool (decide (baseOk (kx.map unPKind) (px.map unPPt) ∧ Chg.ok (kx.map unPKind) (px.map unPPt) (Chg.mk fl w nr v))))
  | _ => none
theorem h_iChange : ∀ args p v, t_iChange args = some (p, v) → p → Contract P 17 args [] v [] ∧ noref v = true ∧ No99 v := by
  intro args p v h1 h2
  unfold t_iChange at h1
  split at h1
  · rename_i t kx t' px fl w nr v
    cases h1
    obtain ⟨⟨e1, e2⟩, h3⟩ := h2
    have := c_iChange t t' (kx.map unPKind) (px.map unPPt) ⟨fl, w, nr, v⟩ h3.1 h3.2.1 h3.2.2.1 h3.2.2.2.1 h3.2.2.2.2
    simp only [e1, e2] at this
    exact ⟨this, rfl, trivial⟩
  · cases h1
def Chg.fitp (s : Chg) : Prop := s.fl.toList.length ≤ 9223372036854775807 ∧ s.v.toList.length ≤ 9223372036854775807
def Chg.sz (s : Chg) (z0 : Int) : Int := chk (z0 - (s.fl.toList.length : Nat)) (fun z1 => chk (z1 - (s.v.toList.length : Nat)) (fun z2 => z2))
theorem c_szChg (s : Chg) (a : Int) (ha : 0 ≤ a ∧ a ≤ 1048576) (hs : s.fitp) : Contract P 14 [.agg s.row, .int .i64 a] [] (.int .i64 (s.sz a)) [] := by
  unfold Chg.fitp at hs
  simp only [Chg.row]
  refine fn_sound (Env.nil P) hm k_laws_szPlanChange (Nat.le_of_ble_eq_true rfl) rfl ?_; unfold s_laws_szPlanChange; simp (config := { maxSteps := 2000000 }) only [bitvec_to_nat, reduceIte, Nat.reduceEqDiff, Nat.reduceAdd, Nat.reduceLeDiff, reduceCtorEq, Nat.reduceBEq, Nat.reduceLT, Nat.reduceMod, List.forall_mem_cons, tk_map, dp_map, toNat_pred, appE, rowsOf, List.take_length, List.length_cons, List.length_nil, Nat.zero_add, srow, irow, un_s, un_i, Zone.row, Zone_eta, un_Zone, Word.row, Word_eta, Own.row, Own_eta, Part.row, Part_eta, Seen.row, Seen_eta, Book.row, Book_eta, Sector.row, Sector_eta, HCraft.row, HCraft_eta, World.row, World_eta, PKind.row, PKind_eta, PPt.row, PPt_eta, Cell.row, Cell_eta, PBase.row, PBase_eta, Chg.row, Chg_eta, un_Word, un_Own, un_Part, un_Seen, un_Book, un_Sector, un_HCraft, un_World, un_PKind, un_PPt, un_Cell, un_PBase, un_Chg]
  unfold Chg.sz
  repeat' (first | with_reducible apply And.intro | with_reducible intro _)
  all_goals first | omega | (exact hs) | (exact hs.1) | (exact hs.2.1) | (exact hs.2.2) | (exact hs.2.2.1) | (exact hs.2.2.2) | (exact hs.2.2.2.1) | (exact hs.2.2.2.2) | (exact hs.1.1) | (exact hs.1.2) | (exact hs.2.1.1) | (exact hs.2.1.2) | (unfold chk; grind) | grind
def t_szChg : List AV → Option (Prop × AV)
  | [.agg [.str s_fl, .int .i64 s_w, .int .i64 s_nr, .str s_v], .int .i64 b] => some ((True) ∧ ((0 ≤ b ∧ b ≤ 1048576) ∧ (Chg.fitp (Chg.mk s_fl s_w s_nr s_v))), .int .i64 (Chg.sz (Chg.mk s_fl s_w s_nr s_v) b))
  | _ => none
theorem h_szChg : ∀ args p v, t_szChg args = some (p, v) → p → Contract P 14 args [] v [] ∧ noref v = true ∧ No99 v := by
  intro args p v h1 h2
  unfold t_szChg at h1
  split at h1
  · rename_i s_fl s_w s_nr s_v b
    cases h1
    obtain ⟨_, HP⟩ := h2
    have := c_szChg (Chg.mk s_fl s_w s_nr s_v) b HP.1 HP.2
    exact ⟨by simpa only [Chg.row] using this, rfl, trivial⟩
  · cases h1
theorem c_toChg (s : Chg) : Contract P 16 [.agg (s.row)] [] (.agg (s.row)) [] := by
  simp only [Chg.row]
  refine fn_sound (Env.nil P) hm k_laws_toPlanChange (Nat.le_of_ble_eq_true rfl) rfl ?_; unfold s_laws_toPlanChange; simp (config := { maxSteps := 2000000 }) only [bitvec_to_nat, reduceIte, Nat.reduceEqDiff, Nat.reduceAdd, Nat.reduceLeDiff, reduceCtorEq, Nat.reduceBEq, Nat.reduceLT, Nat.reduceMod, List.forall_mem_cons, tk_map, dp_map, toNat_pred, appE, rowsOf, List.take_length, List.length_cons, List.length_nil, Nat.zero_add, srow, irow, un_s, un_i, Zone.row, Zone_eta, un_Zone, Word.row, Word_eta, Own.row, Own_eta, Part.row, Part_eta, Seen.row, Seen_eta, Book.row, Book_eta, Sector.row, Sector_eta, HCraft.row, HCraft_eta, World.row, World_eta, PKind.row, PKind_eta, PPt.row, PPt_eta, Cell.row, Cell_eta, PBase.row, PBase_eta, Chg.row, Chg_eta, un_Word, un_Own, un_Part, un_Seen, un_Book, un_Sector, un_HCraft, un_World, un_PKind, un_PPt, un_Cell, un_PBase, un_Chg]
  all_goals trivial
def t_toChg : List AV → Option (Prop × AV)
  | [.agg [.str s_fl, .int .i64 s_w, .int .i64 s_nr, .str s_v]] => some ((True) ∧ (True), .agg (Chg.row (Chg.mk s_fl s_w s_nr s_v)))
  | _ => none
theorem h_toChg : ∀ args p v, t_toChg args = some (p, v) → p → Contract P 16 args [] v [] ∧ noref v = true ∧ No99 v := by
  intro args p v h1 h2
  unfold t_toChg at h1
  split at h1
  · rename_i s_fl s_w s_nr s_v
    cases h1
    obtain ⟨_, HP⟩ := h2
    have := c_toChg (Chg.mk s_fl s_w s_nr s_v)
    exact ⟨by simpa only [Chg.row] using this, rfl, by simp [Chg.row, No99, No99L, no99_box, no99_i, no99_str, no99_Zone, no99_Word, no99_Own, no99_Part, no99_Seen, no99_Book, no99_Sector, no99_HCraft, no99_World, no99_PKind, no99_PPt, no99_Cell, no99_PBase, no99_Chg, -List.map_map]⟩
  · cases h1
def sh_Chg : List LSh := [.str, .int .i64, .int .i64, .str]
theorem fit_Chg (r : List AV) (h : fitsL sh_Chg r) : ∃ x : Chg, r = Chg.row x ∧ x.fitp := by
  simp only [sh_Chg, fitsL, fits] at h
  obtain ⟨_, _, rfl, ⟨fl, rfl, h_fl⟩, _, _, rfl, ⟨w, rfl, _⟩, _, _, rfl, ⟨nr, rfl, _⟩, _, _, rfl, ⟨v, rfl, h_v⟩, rfl⟩ := h

  exact ⟨⟨fl, w, nr, v⟩, rfl, ⟨(by have e := toList_size fl; unfold maxLen at h_fl; show fl.toList.length ≤ _; omega), (by have e := toList_size v; unfold maxLen at h_v; show v.toList.length ≤ _; omega)⟩⟩
theorem Chg.sz_v {c : Chg} {a : Int} (ha : a ≤ 1048576) (h : 0 ≤ c.sz a) : c.v.toList.length ≤ 1048576 := by
  unfold Chg.sz at h
  obtain ⟨h1, h⟩ := chk_ok h
  obtain ⟨h2, h⟩ := chk_ok h
  omega
theorem c_FnExactPlanChangeOk (s : PBase) (c : Chg) (hf : s.fitp) (hc : c.fitp) : Contract P 4 [.agg (s.row 1), .agg c.row] [] (.bool true) [] := by
  have z3 : 0 ≤ PBase.sz s 1048576 → s.small := fun h => PBase.sz_ok (by omega) h
  have z4 : 0 ≤ PBase.sz s 1048576 → PBase.sz s 1048576 ≤ 1048576 := fun h => by have := (meas_PBase s 1048576 (by omega)).2.2; omega
  have hnk : ∀ x ∈ s.ks, x.nm.toList.length ≤ 9223372036854775807 := hf.1.2
  have hnp : ∀ x ∈ s.ps, x.nm.toList.length ≤ 9223372036854775807 := hf.2.2
  have z5 : ∀ a : Int, a ≤ 1048576 → 0 ≤ c.sz a → c.v.toList.length ≤ 1048576 := fun a h1 h2 => Chg.sz_v h1 h2
  simp only [PBase.row, Chg.row]
  refine fn_sound ((((((((Env.nil P).add 9 t_szPBase h_szPBase).add 14 t_szChg h_szChg).add 15 t_sChange h_sChange).add 11 t_toPBase h_toPBase).add 16 t_toChg h_toChg).add 17 t_iChange h_iChange).add 13 t_eqPBase h_eqPBase) hm k_laws_FnExactPlanChangeOk (Nat.le_of_ble_eq_true rfl) rfl ?_; unfold s_laws_FnExactPlanChangeOk; simp (config := { maxSteps := 2000000 }) only [bitvec_to_nat, reduceIte, Nat.reduceEqDiff, Nat.reduceAdd, Nat.reduceLeDiff, reduceCtorEq, Nat.reduceBEq, Nat.reduceLT, Nat.reduceMod, List.forall_mem_cons, t_szPBase, t_szChg, t_sChange, t_toPBase, t_toChg, t_iChange, t_eqPBase, tk_map, dp_map, toNat_pred, appE, rowsOf, List.take_length, List.length_cons, List.length_nil, Nat.zero_add, srow, irow, un_s, un_i, Zone.row, Zone_eta, un_Zone, Word.row, Word_eta, Own.row, Own_eta, Part.row, Part_eta, Seen.row, Seen_eta, Book.row, Book_eta, Sector.row, Sector_eta, HCraft.row, HCraft_eta, World.row, World_eta, PKind.row, PKind_eta, PPt.row, PPt_eta, Cell.row, Cell_eta, PBase.row, PBase_eta, Chg.row, Chg_eta, un_Word, un_Own, un_Part, un_Seen, un_Book, un_Sector, un_HCraft, un_World, un_PKind, un_PPt, un_Cell, un_PBase, un_Chg, Nat.sub_zero, List.nil_append, Int.toNat_one, un_PKind, un_PPt, PBase.row, PBase_eta, Chg.row, Chg_eta]
  generalize PBase.sz s 1048576 = n1 at *
  generalize hn2 : Chg.sz c n1 = n2 at *
  have z6 := fun h => z5 n1 h
  rw [hn2] at z6
  repeat' (first | with_reducible apply And.intro | with_reducible intro _)
  all_goals first
    | omega
    | with_reducible assumption
    | exact trivial
    | exact z3 (by omega)
    | (have hs := z3 (by omega); unfold PBase.small at hs; omega)
    | exact z6 (by omega) (by omega)
    | exact hnk _ (by assumption)
    | exact hnp _ (by assumption)
    | grind
    | trace_state
end
end Go.Ve

