/- Part 5 of the proof: laws and contracts of functions, each proved; they are joined in the last part. No conditions beyond those that the theorems state. -/
import Derived.Test.YtgpmpajihobhhaaDoorProg
import Derived.Test.YtgpmpajihobhhaaDoorSr4
set_option linter.all false
namespace Go.Ve
noncomputable section
open Go.Proofs
set_option linter.unusedSimpArgs false
set_option linter.unusedVariables false
set_option maxRecDepth 100000
def dch (i : Nat) : ByteArray := ⟨#[byteOf [AV.int .u8 (IntKind.u8.wrap (48 + (i : Int) % 10))]]⟩
theorem dch_eq (i : Nat) : bytesOf [[AV.int .u8 (IntKind.u8.wrap (48 + (i : Int) % 10))]] = dch i := rfl
def dg (k : Nat) (o : ByteArray) : ByteArray := if h : k = 0 then o else dg (k / 10) (dch k ++ o)
termination_by k
decreasing_by omega
theorem dg_zero (o : ByteArray) : dg 0 o = o := by rw [dg]; simp
theorem dg_step {k : Nat} (o : ByteArray) (h : 0 < k) : dg k o = dg (k / 10) (dch k ++ o) := by rw [dg]; simp [show k ≠ 0 by omega]
def mtx (k : Int) : ByteArray := if k ≤ 0 then ⟨#[109, 48]⟩ else ⟨#[109]⟩ ++ dg k.toNat ⟨#[]⟩
theorem dch_len (i : Nat) : (dch i).toList.length = 1 := by rw [← toList_size]; rfl
theorem app_len (a b : ByteArray) : (a ++ b).toList.length = a.toList.length + b.toList.length := by simp only [← toList_size, ByteArray.size_append]
theorem byte_ok (w : Int) : isByte [AV.int .u8 (IntKind.u8.wrap w)] = true := by
  simp [isByte, IntKind.wrap, IntKind.bits, IntKind.signed]
  try omega
theorem m_len : (⟨#[109]⟩ : ByteArray).toList.length = 1 := by rw [← toList_size]; rfl
theorem e_len : (⟨#[]⟩ : ByteArray).toList.length = 0 := by rw [← toList_size]; rfl
theorem c_markText (k : Int) (hk : 0 ≤ k ∧ k ≤ 1152921504606846976) : Contract P 100 [.int .i64 k] [] (.str (mtx k)) [] := by
  refine fn_sound (Env.nil P) hm k_laws_markText (Nat.le_of_ble_eq_true rfl) rfl ?_; unfold s_laws_markText; simp (config := { maxSteps := 2000000 }) only [bitvec_to_nat, reduceIte, Nat.reduceEqDiff, Nat.reduceAdd, Nat.reduceLeDiff, reduceCtorEq, Nat.reduceBEq, Nat.reduceLT, Nat.reduceMod, List.forall_mem_cons, Nat.zero_add, un_s, List.map_cons, List.map_nil, rowsOf, dch_eq]
  refine ⟨fun h => by rw [mtx, if_pos h], fun hp => ?_⟩
  have hkk : ((k.toNat : Nat) : Int) = k := by omega
  refine loop_st (fun a : Nat × ByteArray => [(0, .int .i64 a.1), (3, .str a.2)]) (fun _ => []) (fun a => dg a.1 a.2 = dg k.toNat ⟨#[]⟩ ∧ a.2.toList.length + a.1 ≤ 1152921504606846976) (fun a => a.1) (k.toNat, ⟨#[]⟩) (by simp only [hkk]; simp only [u_E0, u_E1, u_M0, u_M1, w_setE0, w_setE1, w_setM0, w_setM1, reduceIte, Nat.reduceEqDiff]; exact ⟨by repeat' (first | exact trivial | refine ⟨.inr rfl, ?_⟩), by repeat' (first | exact trivial | refine ⟨rfl, ?_⟩), by first | rfl | simp [closedB, refsIn, refsInL, refsInO, dom, refsInL_nr, *], by first | rfl | simp [keepB, dom]⟩) ⟨rfl, by simp only [e_len]; omega⟩ ?_
  rintro ⟨i, s⟩ ⟨h1, h2⟩ NX hN
  simp only at h1 h2
  unfold l_laws_markText_0; simp (config := { maxSteps := 2000000 }) only [bitvec_to_nat, reduceIte, Nat.reduceEqDiff, Nat.reduceAdd, Nat.reduceLeDiff, reduceCtorEq, Nat.reduceBEq, Nat.reduceLT, Nat.reduceMod, List.forall_mem_cons, Nat.zero_add, un_s, List.map_cons, List.map_nil, rowsOf, dch_eq]
  refine ⟨fun g => ⟨by omega, by omega, by simp only [List.all_cons, List.all_nil, byte_ok, Bool.and_true], ?_⟩, fun g => ?_⟩
  · have e1 := dch_len i
    refine ⟨by rw [e1]; omega, by omega, ?_⟩
    have e2 : ((i : Int) / 10) = ((i / 10 : Nat) : Int) := by omega
    simp only [e2]
    refine hN (i / 10, dch i ++ s) _ (by simp only [u_E0, u_E1, u_M0, u_M1, w_setE0, w_setE1, w_setM0, w_setM1, reduceIte, Nat.reduceEqDiff]; exact ⟨by repeat' (first | exact trivial | refine ⟨.inr rfl, ?_⟩), by repeat' (first | exact trivial | refine ⟨rfl, ?_⟩), by first | rfl | simp [closedB, refsIn, refsInL, refsInO, dom, refsInL_nr, *], by first | rfl | simp [keepB, dom]⟩) ?_ ?_
    · exact ⟨by rw [← dg_step s (by omega)]; exact h1, by simp only [app_len, e1]; omega⟩
    · simp only; omega
  · have e : i = 0 := by omega
    subst e
    rw [dg_zero] at h1
    refine ⟨by rw [m_len]; omega, ?_⟩
    rw [mtx, if_neg hp, ← h1]
def t_markText : List AV → Option (Prop × AV)
  | [.int .i64 k] => some ((True) ∧ (0 ≤ k ∧ k ≤ 1152921504606846976), .str (mtx k))
  | _ => none
theorem h_markText : ∀ args p v, t_markText args = some (p, v) → p → Contract P 100 args [] v [] ∧ noref v = true ∧ No99 v := by
  intro args p v h1 h2
  unfold t_markText at h1
  split at h1
  · rename_i k
    cases h1
    obtain ⟨_, HP⟩ := h2
    have := c_markText k HP
    exact ⟨this, rfl, trivial⟩
  · cases h1
theorem getD_seti' {α : Type} {l : List α} {i : Nat} {x d : α} (h : i < l.length) : (l.set i x).getD i d = x := by simp [h]
theorem getD_setn' {α : Type} {l : List α} {i j : Nat} {x d : α} (h : i ≠ j) : (l.set i x).getD j d = l.getD j d := by simp [List.getElem?_set_ne h]
def mk_ByteArray (k : Int) : ByteArray := mtx k
def ms_ByteArray (k : Int) (n : Nat) : List ByteArray := (List.range n).map fun j : Nat => mk_ByteArray (k + (j : Int))
theorem ms_ByteArray_len {k : Int} {n : Nat} : (ms_ByteArray k n).length = n := by simp [ms_ByteArray]
theorem ms_ByteArray_get {k : Int} {n j : Nat} (h : j < n) : (ms_ByteArray k n).getD j default = mk_ByteArray (k + (j : Int)) := by simp [ms_ByteArray, h]
theorem setm_ByteArray {l : List ByteArray} {i : Nat} {v : ByteArray} : (l.map srow).set i (setSeg ((l.map srow).getD i []) 0 [.str v]) = (l.set i v).map srow :=
  set_rows (α := ByteArray) (f := srow) (fun _ => v) fun x => by simp [srow, setSeg]
set_option maxHeartbeats 1000000 in
theorem c_markByteArrayS (v : Nat) (k : Int) (a : List ByteArray) (ha : a.length ≤ 1048577) (hk : 0 ≤ k ∧ k ≤ 1125899906842624) : Contract P 45 [.own 3 v 0 a.length, .int .i64 k] [(3, .arr 9 v 1 (a.map srow))] (.int .i64 (k + a.length)) [(3, .arr 9 v 1 ((ms_ByteArray k a.length).map srow))] := by
  have hz : ((0 : Nat) : Int) = 0 := rfl
  have gs : True := trivial
  refine fn_sound ((Env.nil P).add 100 t_markText h_markText) hm k_laws_markStringS (Nat.le_of_ble_eq_true rfl) rfl ?_; unfold s_laws_markStringS; simp (config := { maxSteps := 2000000 }) only [bitvec_to_nat, reduceIte, Nat.reduceEqDiff, Nat.reduceAdd, Nat.reduceLeDiff, reduceCtorEq, Nat.reduceBEq, Nat.reduceLT, Nat.reduceMod, List.forall_mem_cons, retG_ret, retQ_eq, retQ_eqN, retOk, keepB, re_tupl, orr_t, t_markText, setm_ByteArray, List.set_set, gs, irow, srow, Int.toNat_natCast, List.length_map, List.length_set, Nat.sub_zero, Nat.zero_add, hz]
  refine loop_st (fun b : Nat × List ByteArray => [(1, .int .i64 (k + b.1)), (5, .int .i64 b.1)]) (fun b => [(3, .arr 9 v 1 (b.2.map srow))]) (fun b => b.2.length = a.length ∧ b.1 ≤ a.length ∧ ∀ j, j < b.1 → b.2.getD j default = mk_ByteArray (k + (j : Int))) (fun b => a.length - b.1) (0, a) ?_ ⟨rfl, Nat.zero_le _, fun j hj => absurd hj (Nat.not_lt_zero _)⟩ ?_
  · have e0 : k + ((0 : Nat) : Int) = k := by omega
    simp only [e0]
    simp only [u_E0, u_E1, u_M0, u_M1, w_setE0, w_setE1, w_setM0, w_setM1, reduceIte, Nat.reduceEqDiff]; exact ⟨by repeat' (first | exact trivial | refine ⟨.inr rfl, ?_⟩), by repeat' (first | exact trivial | refine ⟨rfl, ?_⟩), by first | rfl | simp [closedB, refsIn, refsInL, refsInO, dom, refsInL_nr, *], by first | rfl | simp [keepB, dom]⟩
  rintro ⟨i, l⟩ ⟨h1, h2, h3⟩ NX hN
  simp only at h1 h2 h3
  have gs : i < a.length → ∀ x : ByteArray, (l.set i x).getD i default = x := fun h x => getD_seti' (by omega)
  by_cases hi : i < a.length
  · have gs := gs hi
    have e5 : k + ((i + 1 : Nat) : Int) = k + (i : Int) + 1 := by omega
    unfold l_laws_markStringS_0; simp (config := { maxSteps := 2000000 }) only [bitvec_to_nat, reduceIte, Nat.reduceEqDiff, Nat.reduceAdd, Nat.reduceLeDiff, reduceCtorEq, Nat.reduceBEq, Nat.reduceLT, Nat.reduceMod, List.forall_mem_cons, retG_ret, retQ_eq, retQ_eqN, retOk, keepB, re_tupl, orr_t, t_markText, setm_ByteArray, List.set_set, gs, irow, srow, Int.toNat_natCast, List.length_map, List.length_set, Nat.sub_zero, Nat.zero_add, hz]
    repeat' (first | with_reducible apply And.intro | with_reducible intro _)
    all_goals first
      | omega
      | (refine hN (i + 1, l.set i (mk_ByteArray (k + (i : Int)))) _ (by simp only [e5]; simp only [u_E0, u_E1, u_M0, u_M1, w_setE0, w_setE1, w_setM0, w_setM1, reduceIte, Nat.reduceEqDiff]; exact ⟨by repeat' (first | exact trivial | refine ⟨.inr rfl, ?_⟩), by repeat' (first | exact trivial | refine ⟨rfl, ?_⟩), by first | rfl | simp [closedB, refsIn, refsInL, refsInO, dom, refsInL_nr, *], by first | rfl | simp [keepB, dom]⟩) ⟨by simp only [List.length_set]; exact h1, hi, fun j hj => ?_⟩ (by simp only; omega)
         simp only at hj ⊢
         by_cases e : j = i
         · subst e; exact getD_seti' (by omega)
         · rw [getD_setn' (Ne.symm e)]; exact h3 j (by omega))
      | (exfalso; omega)
  · have hl : l = ms_ByteArray k a.length := ext_of (by rw [ms_ByteArray_len]; exact h1) fun j hj => by rw [ms_ByteArray_get (by omega)]; exact h3 j (by omega)
    have hi' : ¬ (i : Int) < a.length := by omega
    unfold l_laws_markStringS_0; simp (config := { maxSteps := 2000000 }) only [bitvec_to_nat, reduceIte, Nat.reduceEqDiff, Nat.reduceAdd, Nat.reduceLeDiff, reduceCtorEq, Nat.reduceBEq, Nat.reduceLT, Nat.reduceMod, List.forall_mem_cons, retG_ret, retQ_eq, retQ_eqN, retOk, keepB, re_tupl, orr_t, t_markText, setm_ByteArray, List.set_set, gs, irow, srow, Int.toNat_natCast, List.length_map, List.length_set, Nat.sub_zero, Nat.zero_add, hz, hi']
    refine ⟨by omega, ?_⟩
    rw [hl]
theorem g_markByteArrayS (v : Nat) (k : Int) (a : List ByteArray) (ha : a.length ≤ 1048577) (hk : 0 ≤ k ∧ k ≤ 1125899906842624) : Contract P 45 [.own 3 v 0 a.length, .int .i64 k] [(3, .arr 9 v 1 (a.map srow))] (.int .i64 (k + a.length)) [(3, .gone)] :=
  (c_markByteArrayS v k a ha hk).gone rfl
def mk_Pt (k : Int) : Pt := ⟨mtx (k), k + 1, k + 1 + 1⟩
def ms_Pt (k : Int) (n : Nat) : List Pt := (List.range n).map fun j : Nat => mk_Pt (k + 3 * (j : Int))
theorem ms_Pt_len {k : Int} {n : Nat} : (ms_Pt k n).length = n := by simp [ms_Pt]
theorem ms_Pt_get {k : Int} {n j : Nat} (h : j < n) : (ms_Pt k n).getD j default = mk_Pt (k + 3 * (j : Int)) := by simp [ms_Pt, h]
theorem setm_Pt0 {l : List Pt} {i : Nat} {v : ByteArray} : (l.map Pt.row).set i (setSeg ((l.map Pt.row).getD i []) 0 [.str v]) = (l.set i { l.getD i default with nm := v }).map Pt.row :=
  set_rows (α := Pt) (f := Pt.row) (fun s => { s with nm := v }) fun x => by simp [Pt.row, setSeg]
theorem setm_Pt1 {l : List Pt} {i : Nat} {v : Int} : (l.map Pt.row).set i (setSeg ((l.map Pt.row).getD i []) 1 [.int .i64 v]) = (l.set i { l.getD i default with x := v }).map Pt.row :=
  set_rows (α := Pt) (f := Pt.row) (fun s => { s with x := v }) fun x => by simp [Pt.row, setSeg]
theorem setm_Pt2 {l : List Pt} {i : Nat} {v : Int} : (l.map Pt.row).set i (setSeg ((l.map Pt.row).getD i []) 2 [.int .i64 v]) = (l.set i { l.getD i default with y := v }).map Pt.row :=
  set_rows (α := Pt) (f := Pt.row) (fun s => { s with y := v }) fun x => by simp [Pt.row, setSeg]
set_option maxHeartbeats 1000000 in
theorem c_markPtS (v : Nat) (k : Int) (a : List Pt) (ha : a.length ≤ 1048577) (hk : 0 ≤ k ∧ k ≤ 1125899906842624) : Contract P 96 [.own 3 v 0 a.length, .int .i64 k] [(3, .arr 103 v 3 (a.map Pt.row))] (.int .i64 (k + 3 * a.length)) [(3, .arr 103 v 3 ((ms_Pt k a.length).map Pt.row))] := by
  have hz : ((0 : Nat) : Int) = 0 := rfl
  have gs : True := trivial
  refine fn_sound ((Env.nil P).add 100 t_markText h_markText) hm k_laws_markSkyPointS (Nat.le_of_ble_eq_true rfl) rfl ?_; unfold s_laws_markSkyPointS; simp (config := { maxSteps := 2000000 }) only [bitvec_to_nat, reduceIte, Nat.reduceEqDiff, Nat.reduceAdd, Nat.reduceLeDiff, reduceCtorEq, Nat.reduceBEq, Nat.reduceLT, Nat.reduceMod, List.forall_mem_cons, retG_ret, retQ_eq, retQ_eqN, retOk, keepB, re_tupl, orr_t, t_markText, setm_Pt0, setm_Pt1, setm_Pt2, List.set_set, gs, Pt.row, irow, srow, Int.toNat_natCast, List.length_map, List.length_set, Nat.sub_zero, Nat.zero_add, hz]
  refine loop_st (fun b : Nat × List Pt => [(1, .int .i64 (k + 3 * b.1)), (5, .int .i64 b.1)]) (fun b => [(3, .arr 103 v 3 (b.2.map Pt.row))]) (fun b => b.2.length = a.length ∧ b.1 ≤ a.length ∧ ∀ j, j < b.1 → b.2.getD j default = mk_Pt (k + 3 * (j : Int))) (fun b => a.length - b.1) (0, a) ?_ ⟨rfl, Nat.zero_le _, fun j hj => absurd hj (Nat.not_lt_zero _)⟩ ?_
  · have e0 : k + 3 * ((0 : Nat) : Int) = k := by omega
    simp only [e0]
    simp only [u_E0, u_E1, u_M0, u_M1, w_setE0, w_setE1, w_setM0, w_setM1, reduceIte, Nat.reduceEqDiff]; exact ⟨by repeat' (first | exact trivial | refine ⟨.inr rfl, ?_⟩), by repeat' (first | exact trivial | refine ⟨rfl, ?_⟩), by first | rfl | simp [closedB, refsIn, refsInL, refsInO, dom, refsInL_nr, *], by first | rfl | simp [keepB, dom]⟩
  rintro ⟨i, l⟩ ⟨h1, h2, h3⟩ NX hN
  simp only at h1 h2 h3
  have gs : i < a.length → ∀ x : Pt, (l.set i x).getD i default = x := fun h x => getD_seti' (by omega)
  by_cases hi : i < a.length
  · have gs := gs hi
    have e5 : k + 3 * ((i + 1 : Nat) : Int) = k + 3 * (i : Int) + 1 + 1 + 1 := by omega
    unfold l_laws_markSkyPointS_0; simp (config := { maxSteps := 2000000 }) only [bitvec_to_nat, reduceIte, Nat.reduceEqDiff, Nat.reduceAdd, Nat.reduceLeDiff, reduceCtorEq, Nat.reduceBEq, Nat.reduceLT, Nat.reduceMod, List.forall_mem_cons, retG_ret, retQ_eq, retQ_eqN, retOk, keepB, re_tupl, orr_t, t_markText, setm_Pt0, setm_Pt1, setm_Pt2, List.set_set, gs, Pt.row, irow, srow, Int.toNat_natCast, List.length_map, List.length_set, Nat.sub_zero, Nat.zero_add, hz]
    repeat' (first | with_reducible apply And.intro | with_reducible intro _)
    all_goals first
      | omega
      | (refine hN (i + 1, l.set i (mk_Pt (k + 3 * (i : Int)))) _ (by simp only [e5]; simp only [u_E0, u_E1, u_M0, u_M1, w_setE0, w_setE1, w_setM0, w_setM1, reduceIte, Nat.reduceEqDiff]; exact ⟨by repeat' (first | exact trivial | refine ⟨.inr rfl, ?_⟩), by repeat' (first | exact trivial | refine ⟨rfl, ?_⟩), by first | rfl | simp [closedB, refsIn, refsInL, refsInO, dom, refsInL_nr, *], by first | rfl | simp [keepB, dom]⟩) ⟨by simp only [List.length_set]; exact h1, hi, fun j hj => ?_⟩ (by simp only; omega)
         simp only at hj ⊢
         by_cases e : j = i
         · subst e; exact getD_seti' (by omega)
         · rw [getD_setn' (Ne.symm e)]; exact h3 j (by omega))
      | (exfalso; omega)
  · have hl : l = ms_Pt k a.length := ext_of (by rw [ms_Pt_len]; exact h1) fun j hj => by rw [ms_Pt_get (by omega)]; exact h3 j (by omega)
    have hi' : ¬ (i : Int) < a.length := by omega
    unfold l_laws_markSkyPointS_0; simp (config := { maxSteps := 2000000 }) only [bitvec_to_nat, reduceIte, Nat.reduceEqDiff, Nat.reduceAdd, Nat.reduceLeDiff, reduceCtorEq, Nat.reduceBEq, Nat.reduceLT, Nat.reduceMod, List.forall_mem_cons, retG_ret, retQ_eq, retQ_eqN, retOk, keepB, re_tupl, orr_t, t_markText, setm_Pt0, setm_Pt1, setm_Pt2, List.set_set, gs, Pt.row, irow, srow, Int.toNat_natCast, List.length_map, List.length_set, Nat.sub_zero, Nat.zero_add, hz, hi']
    refine ⟨by omega, ?_⟩
    rw [hl]
theorem g_markPtS (v : Nat) (k : Int) (a : List Pt) (ha : a.length ≤ 1048577) (hk : 0 ≤ k ∧ k ≤ 1125899906842624) : Contract P 96 [.own 3 v 0 a.length, .int .i64 k] [(3, .arr 103 v 3 (a.map Pt.row))] (.int .i64 (k + 3 * a.length)) [(3, .gone)] :=
  (c_markPtS v k a ha hk).gone rfl
def mk_Blk (k : Int) : Blk := ⟨k, k + 1, k + 1 + 1, k + 1 + 1 + 1, k + 1 + 1 + 1 + 1, k + 1 + 1 + 1 + 1 + 1⟩
def ms_Blk (k : Int) (n : Nat) : List Blk := (List.range n).map fun j : Nat => mk_Blk (k + 6 * (j : Int))
theorem ms_Blk_len {k : Int} {n : Nat} : (ms_Blk k n).length = n := by simp [ms_Blk]
theorem ms_Blk_get {k : Int} {n j : Nat} (h : j < n) : (ms_Blk k n).getD j default = mk_Blk (k + 6 * (j : Int)) := by simp [ms_Blk, h]
theorem setm_Blk0 {l : List Blk} {i : Nat} {v : Int} : (l.map Blk.row).set i (setSeg ((l.map Blk.row).getD i []) 0 [.int .i64 v]) = (l.set i { l.getD i default with x0 := v }).map Blk.row :=
  set_rows (α := Blk) (f := Blk.row) (fun s => { s with x0 := v }) fun x => by simp [Blk.row, setSeg]
theorem setm_Blk1 {l : List Blk} {i : Nat} {v : Int} : (l.map Blk.row).set i (setSeg ((l.map Blk.row).getD i []) 1 [.int .i64 v]) = (l.set i { l.getD i default with y0 := v }).map Blk.row :=
  set_rows (α := Blk) (f := Blk.row) (fun s => { s with y0 := v }) fun x => by simp [Blk.row, setSeg]
theorem setm_Blk2 {l : List Blk} {i : Nat} {v : Int} : (l.map Blk.row).set i (setSeg ((l.map Blk.row).getD i []) 2 [.int .i64 v]) = (l.set i { l.getD i default with x1 := v }).map Blk.row :=
  set_rows (α := Blk) (f := Blk.row) (fun s => { s with x1 := v }) fun x => by simp [Blk.row, setSeg]
theorem setm_Blk3 {l : List Blk} {i : Nat} {v : Int} : (l.map Blk.row).set i (setSeg ((l.map Blk.row).getD i []) 3 [.int .i64 v]) = (l.set i { l.getD i default with y1 := v }).map Blk.row :=
  set_rows (α := Blk) (f := Blk.row) (fun s => { s with y1 := v }) fun x => by simp [Blk.row, setSeg]
theorem setm_Blk4 {l : List Blk} {i : Nat} {v : Int} : (l.map Blk.row).set i (setSeg ((l.map Blk.row).getD i []) 4 [.int .i64 v]) = (l.set i { l.getD i default with lo := v }).map Blk.row :=
  set_rows (α := Blk) (f := Blk.row) (fun s => { s with lo := v }) fun x => by simp [Blk.row, setSeg]
theorem setm_Blk5 {l : List Blk} {i : Nat} {v : Int} : (l.map Blk.row).set i (setSeg ((l.map Blk.row).getD i []) 5 [.int .i64 v]) = (l.set i { l.getD i default with hi := v }).map Blk.row :=
  set_rows (α := Blk) (f := Blk.row) (fun s => { s with hi := v }) fun x => by simp [Blk.row, setSeg]
set_option maxHeartbeats 1000000 in
theorem c_markBlkS (v : Nat) (k : Int) (a : List Blk) (ha : a.length ≤ 1048577) (hk : 0 ≤ k ∧ k ≤ 1125899906842624) : Contract P 145 [.own 3 v 0 a.length, .int .i64 k] [(3, .arr 113 v 6 (a.map Blk.row))] (.int .i64 (k + 6 * a.length)) [(3, .arr 113 v 6 ((ms_Blk k a.length).map Blk.row))] := by
  have hz : ((0 : Nat) : Int) = 0 := rfl
  have gs : True := trivial
  refine fn_sound (Env.nil P) hm k_laws_markSkyBlockS (Nat.le_of_ble_eq_true rfl) rfl ?_; unfold s_laws_markSkyBlockS; simp (config := { maxSteps := 2000000 }) only [bitvec_to_nat, reduceIte, Nat.reduceEqDiff, Nat.reduceAdd, Nat.reduceLeDiff, reduceCtorEq, Nat.reduceBEq, Nat.reduceLT, Nat.reduceMod, List.forall_mem_cons, retG_ret, retQ_eq, retQ_eqN, retOk, keepB, re_tupl, orr_t, setm_Blk0, setm_Blk1, setm_Blk2, setm_Blk3, setm_Blk4, setm_Blk5, List.set_set, gs, Blk.row, irow, srow, Int.toNat_natCast, List.length_map, List.length_set, Nat.sub_zero, Nat.zero_add, hz]
  refine loop_st (fun b : Nat × List Blk => [(1, .int .i64 (k + 6 * b.1)), (5, .int .i64 b.1)]) (fun b => [(3, .arr 113 v 6 (b.2.map Blk.row))]) (fun b => b.2.length = a.length ∧ b.1 ≤ a.length ∧ ∀ j, j < b.1 → b.2.getD j default = mk_Blk (k + 6 * (j : Int))) (fun b => a.length - b.1) (0, a) ?_ ⟨rfl, Nat.zero_le _, fun j hj => absurd hj (Nat.not_lt_zero _)⟩ ?_
  · have e0 : k + 6 * ((0 : Nat) : Int) = k := by omega
    simp only [e0]
    simp only [u_E0, u_E1, u_M0, u_M1, w_setE0, w_setE1, w_setM0, w_setM1, reduceIte, Nat.reduceEqDiff]; exact ⟨by repeat' (first | exact trivial | refine ⟨.inr rfl, ?_⟩), by repeat' (first | exact trivial | refine ⟨rfl, ?_⟩), by first | rfl | simp [closedB, refsIn, refsInL, refsInO, dom, refsInL_nr, *], by first | rfl | simp [keepB, dom]⟩
  rintro ⟨i, l⟩ ⟨h1, h2, h3⟩ NX hN
  simp only at h1 h2 h3
  have gs : i < a.length → ∀ x : Blk, (l.set i x).getD i default = x := fun h x => getD_seti' (by omega)
  by_cases hi : i < a.length
  · have gs := gs hi
    have e5 : k + 6 * ((i + 1 : Nat) : Int) = k + 6 * (i : Int) + 1 + 1 + 1 + 1 + 1 + 1 := by omega
    unfold l_laws_markSkyBlockS_0; simp (config := { maxSteps := 2000000 }) only [bitvec_to_nat, reduceIte, Nat.reduceEqDiff, Nat.reduceAdd, Nat.reduceLeDiff, reduceCtorEq, Nat.reduceBEq, Nat.reduceLT, Nat.reduceMod, List.forall_mem_cons, retG_ret, retQ_eq, retQ_eqN, retOk, keepB, re_tupl, orr_t, setm_Blk0, setm_Blk1, setm_Blk2, setm_Blk3, setm_Blk4, setm_Blk5, List.set_set, gs, Blk.row, irow, srow, Int.toNat_natCast, List.length_map, List.length_set, Nat.sub_zero, Nat.zero_add, hz]
    repeat' (first | with_reducible apply And.intro | with_reducible intro _)
    all_goals first
      | omega
      | (refine hN (i + 1, l.set i (mk_Blk (k + 6 * (i : Int)))) _ (by simp only [e5]; simp only [u_E0, u_E1, u_M0, u_M1, w_setE0, w_setE1, w_setM0, w_setM1, reduceIte, Nat.reduceEqDiff]; exact ⟨by repeat' (first | exact trivial | refine ⟨.inr rfl, ?_⟩), by repeat' (first | exact trivial | refine ⟨rfl, ?_⟩), by first | rfl | simp [closedB, refsIn, refsInL, refsInO, dom, refsInL_nr, *], by first | rfl | simp [keepB, dom]⟩) ⟨by simp only [List.length_set]; exact h1, hi, fun j hj => ?_⟩ (by simp only; omega)
         simp only at hj ⊢
         by_cases e : j = i
         · subst e; exact getD_seti' (by omega)
         · rw [getD_setn' (Ne.symm e)]; exact h3 j (by omega))
      | (exfalso; omega)
  · have hl : l = ms_Blk k a.length := ext_of (by rw [ms_Blk_len]; exact h1) fun j hj => by rw [ms_Blk_get (by omega)]; exact h3 j (by omega)
    have hi' : ¬ (i : Int) < a.length := by omega
    unfold l_laws_markSkyBlockS_0; simp (config := { maxSteps := 2000000 }) only [bitvec_to_nat, reduceIte, Nat.reduceEqDiff, Nat.reduceAdd, Nat.reduceLeDiff, reduceCtorEq, Nat.reduceBEq, Nat.reduceLT, Nat.reduceMod, List.forall_mem_cons, retG_ret, retQ_eq, retQ_eqN, retOk, keepB, re_tupl, orr_t, setm_Blk0, setm_Blk1, setm_Blk2, setm_Blk3, setm_Blk4, setm_Blk5, List.set_set, gs, Blk.row, irow, srow, Int.toNat_natCast, List.length_map, List.length_set, Nat.sub_zero, Nat.zero_add, hz, hi']
    refine ⟨by omega, ?_⟩
    rw [hl]
theorem g_markBlkS (v : Nat) (k : Int) (a : List Blk) (ha : a.length ≤ 1048577) (hk : 0 ≤ k ∧ k ≤ 1125899906842624) : Contract P 145 [.own 3 v 0 a.length, .int .i64 k] [(3, .arr 113 v 6 (a.map Blk.row))] (.int .i64 (k + 6 * a.length)) [(3, .gone)] :=
  (c_markBlkS v k a ha hk).gone rfl
def mk_Rw (k : Int) : Rw := ⟨mtx (k), k + 1, k + 1 + 1, k + 1 + 1 + 1⟩
def ms_Rw (k : Int) (n : Nat) : List Rw := (List.range n).map fun j : Nat => mk_Rw (k + 4 * (j : Int))
theorem ms_Rw_len {k : Int} {n : Nat} : (ms_Rw k n).length = n := by simp [ms_Rw]
theorem ms_Rw_get {k : Int} {n j : Nat} (h : j < n) : (ms_Rw k n).getD j default = mk_Rw (k + 4 * (j : Int)) := by simp [ms_Rw, h]
theorem setm_Rw0 {l : List Rw} {i : Nat} {v : ByteArray} : (l.map Rw.row).set i (setSeg ((l.map Rw.row).getD i []) 0 [.str v]) = (l.set i { l.getD i default with nm := v }).map Rw.row :=
  set_rows (α := Rw) (f := Rw.row) (fun s => { s with nm := v }) fun x => by simp [Rw.row, setSeg]
theorem setm_Rw1 {l : List Rw} {i : Nat} {v : Int} : (l.map Rw.row).set i (setSeg ((l.map Rw.row).getD i []) 1 [.int .i64 v]) = (l.set i { l.getD i default with x := v }).map Rw.row :=
  set_rows (α := Rw) (f := Rw.row) (fun s => { s with x := v }) fun x => by simp [Rw.row, setSeg]
theorem setm_Rw2 {l : List Rw} {i : Nat} {v : Int} : (l.map Rw.row).set i (setSeg ((l.map Rw.row).getD i []) 2 [.int .i64 v]) = (l.set i { l.getD i default with y := v }).map Rw.row :=
  set_rows (α := Rw) (f := Rw.row) (fun s => { s with y := v }) fun x => by simp [Rw.row, setSeg]
theorem setm_Rw3 {l : List Rw} {i : Nat} {v : Int} : (l.map Rw.row).set i (setSeg ((l.map Rw.row).getD i []) 3 [.int .i64 v]) = (l.set i { l.getD i default with tn := v }).map Rw.row :=
  set_rows (α := Rw) (f := Rw.row) (fun s => { s with tn := v }) fun x => by simp [Rw.row, setSeg]
set_option maxHeartbeats 1000000 in
theorem c_markRwS (v : Nat) (k : Int) (a : List Rw) (ha : a.length ≤ 1048577) (hk : 0 ≤ k ∧ k ≤ 1125899906842624) : Contract P 99 [.own 3 v 0 a.length, .int .i64 k] [(3, .arr 118 v 4 (a.map Rw.row))] (.int .i64 (k + 4 * a.length)) [(3, .arr 118 v 4 ((ms_Rw k a.length).map Rw.row))] := by
  have hz : ((0 : Nat) : Int) = 0 := rfl
  have gs : True := trivial
  refine fn_sound ((Env.nil P).add 100 t_markText h_markText) hm k_laws_markSkyRunwayS (Nat.le_of_ble_eq_true rfl) rfl ?_; unfold s_laws_markSkyRunwayS; simp (config := { maxSteps := 2000000 }) only [bitvec_to_nat, reduceIte, Nat.reduceEqDiff, Nat.reduceAdd, Nat.reduceLeDiff, reduceCtorEq, Nat.reduceBEq, Nat.reduceLT, Nat.reduceMod, List.forall_mem_cons, retG_ret, retQ_eq, retQ_eqN, retOk, keepB, re_tupl, orr_t, t_markText, setm_Rw0, setm_Rw1, setm_Rw2, setm_Rw3, List.set_set, gs, Rw.row, irow, srow, Int.toNat_natCast, List.length_map, List.length_set, Nat.sub_zero, Nat.zero_add, hz]
  refine loop_st (fun b : Nat × List Rw => [(1, .int .i64 (k + 4 * b.1)), (5, .int .i64 b.1)]) (fun b => [(3, .arr 118 v 4 (b.2.map Rw.row))]) (fun b => b.2.length = a.length ∧ b.1 ≤ a.length ∧ ∀ j, j < b.1 → b.2.getD j default = mk_Rw (k + 4 * (j : Int))) (fun b => a.length - b.1) (0, a) ?_ ⟨rfl, Nat.zero_le _, fun j hj => absurd hj (Nat.not_lt_zero _)⟩ ?_
  · have e0 : k + 4 * ((0 : Nat) : Int) = k := by omega
    simp only [e0]
    simp only [u_E0, u_E1, u_M0, u_M1, w_setE0, w_setE1, w_setM0, w_setM1, reduceIte, Nat.reduceEqDiff]; exact ⟨by repeat' (first | exact trivial | refine ⟨.inr rfl, ?_⟩), by repeat' (first | exact trivial | refine ⟨rfl, ?_⟩), by first | rfl | simp [closedB, refsIn, refsInL, refsInO, dom, refsInL_nr, *], by first | rfl | simp [keepB, dom]⟩
  rintro ⟨i, l⟩ ⟨h1, h2, h3⟩ NX hN
  simp only at h1 h2 h3
  have gs : i < a.length → ∀ x : Rw, (l.set i x).getD i default = x := fun h x => getD_seti' (by omega)
  by_cases hi : i < a.length
  · have gs := gs hi
    have e5 : k + 4 * ((i + 1 : Nat) : Int) = k + 4 * (i : Int) + 1 + 1 + 1 + 1 := by omega
    unfold l_laws_markSkyRunwayS_0; simp (config := { maxSteps := 2000000 }) only [bitvec_to_nat, reduceIte, Nat.reduceEqDiff, Nat.reduceAdd, Nat.reduceLeDiff, reduceCtorEq, Nat.reduceBEq, Nat.reduceLT, Nat.reduceMod, List.forall_mem_cons, retG_ret, retQ_eq, retQ_eqN, retOk, keepB, re_tupl, orr_t, t_markText, setm_Rw0, setm_Rw1, setm_Rw2, setm_Rw3, List.set_set, gs, Rw.row, irow, srow, Int.toNat_natCast, List.length_map, List.length_set, Nat.sub_zero, Nat.zero_add, hz]
    repeat' (first | with_reducible apply And.intro | with_reducible intro _)
    all_goals first
      | omega
      | (refine hN (i + 1, l.set i (mk_Rw (k + 4 * (i : Int)))) _ (by simp only [e5]; simp only [u_E0, u_E1, u_M0, u_M1, w_setE0, w_setE1, w_setM0, w_setM1, reduceIte, Nat.reduceEqDiff]; exact ⟨by repeat' (first | exact trivial | refine ⟨.inr rfl, ?_⟩), by repeat' (first | exact trivial | refine ⟨rfl, ?_⟩), by first | rfl | simp [closedB, refsIn, refsInL, refsInO, dom, refsInL_nr, *], by first | rfl | simp [keepB, dom]⟩) ⟨by simp only [List.length_set]; exact h1, hi, fun j hj => ?_⟩ (by simp only; omega)
         simp only at hj ⊢
         by_cases e : j = i
         · subst e; exact getD_seti' (by omega)
         · rw [getD_setn' (Ne.symm e)]; exact h3 j (by omega))
      | (exfalso; omega)
  · have hl : l = ms_Rw k a.length := ext_of (by rw [ms_Rw_len]; exact h1) fun j hj => by rw [ms_Rw_get (by omega)]; exact h3 j (by omega)
    have hi' : ¬ (i : Int) < a.length := by omega
    unfold l_laws_markSkyRunwayS_0; simp (config := { maxSteps := 2000000 }) only [bitvec_to_nat, reduceIte, Nat.reduceEqDiff, Nat.reduceAdd, Nat.reduceLeDiff, reduceCtorEq, Nat.reduceBEq, Nat.reduceLT, Nat.reduceMod, List.forall_mem_cons, retG_ret, retQ_eq, retQ_eqN, retOk, keepB, re_tupl, orr_t, t_markText, setm_Rw0, setm_Rw1, setm_Rw2, setm_Rw3, List.set_set, gs, Rw.row, irow, srow, Int.toNat_natCast, List.length_map, List.length_set, Nat.sub_zero, Nat.zero_add, hz, hi']
    refine ⟨by omega, ?_⟩
    rw [hl]
theorem g_markRwS (v : Nat) (k : Int) (a : List Rw) (ha : a.length ≤ 1048577) (hk : 0 ≤ k ∧ k ≤ 1125899906842624) : Contract P 99 [.own 3 v 0 a.length, .int .i64 k] [(3, .arr 118 v 4 (a.map Rw.row))] (.int .i64 (k + 4 * a.length)) [(3, .gone)] :=
  (c_markRwS v k a ha hk).gone rfl
end
end Go.Ve

namespace Go.Ve
noncomputable section
open Go.Proofs
set_option linter.unusedSimpArgs false
set_option linter.unusedVariables false
set_option maxRecDepth 100000
theorem keep_self {M : List (Nat × AObj)} : keepB M M = true := by
  unfold keepB
  rw [List.all_eq_true]
  intro o ho
  simp only [Bool.or_eq_true]
  right; simpa using ho
theorem wk_fam {k : Nat} {l : List NRow} {o : Nat} {x : AObj} (hf : isFam k l) (ho : o < 1000) : wkM ((o, x) :: nobjs l) (nobjs l) := by
  refine wkM_nobjs hf fun j hj => ?_
  simp only [getM, fam_ne ho, if_false]
  exact nobjs_fam hf hj
theorem fam_100 {k o e sz : Nat} {y : AObj} {x : List (ByteArray × List (List AV))} (hk : k < 100) (ho : o < 100) : (dom ((o, y) :: nobjs (nfam k e sz x))).all (decide <| · % 1000 < 100) = true := by
  rw [List.all_eq_true]
  intro q hq
  simp only [dom, List.map_cons, List.mem_cons] at hq
  rcases hq with rfl | hq
  · simp; omega
  · obtain ⟨p, hp, rfl⟩ := List.mem_map.1 hq
    obtain ⟨i, _, rfl⟩ := nfam_at hp
    simp only [decide_eq_true_eq, fam_mod (show k < 1000 by omega)]; exact hk
def flatObs (l : List NRow) : Prop := ∀ i, i < l.length → (l.getD i default).ob = .gone ∨ ∃ e v sz xs, e < 1000000 ∧ (l.getD i default).ob = .arr e v sz xs
theorem flatObs_all {l : List NRow} {d : List Nat} (h : flatObs l) : ((nobjs l).all fun p => refsInO d p.2) = true := by
  rw [List.all_eq_true]
  intro p hp
  obtain ⟨r, hr, rfl⟩ := List.mem_map.1 hp
  obtain ⟨i, hi, rfl⟩ := List.mem_iff_getElem.1 hr
  have := h i hi
  simp only [List.getD_eq_getElem?_getD, List.getElem?_eq_getElem hi, Option.getD_some] at this
  rcases this with h | ⟨e, v, sz, xs, he, h⟩
  · show refsInO d l[i].ob = true; rw [h]; rfl
  · show refsInO d l[i].ob = true; rw [h]; simp only [refsInO, he, if_true]
theorem dom_rows {l : List NRow} {o : Nat} {x : AObj} : ∀ r ∈ l, (dom ((o, x) :: nobjs l)).contains r.o = true := fun r hr => by
  simp only [dom, List.map_cons, List.contains_cons, Bool.or_eq_true]
  right
  simp only [List.contains_iff_mem, nobjs, List.map_map, List.mem_map]
  exact ⟨r, hr, rfl⟩
theorem nobjs_all {l : List NRow} {o T : Nat} {y : AObj} (h : flatObs l) : (((o, AObj.arr (1000000 + T) 0 2 (l.map NRow.row)) :: nobjs l).all fun p => refsInO (dom ((o, y) :: nobjs l)) p.2) = true := by
  simp only [List.all_cons, Bool.and_eq_true]
  refine ⟨?_, flatObs_all h⟩
  simp only [refsInO]
  rw [if_neg (by omega)]
  exact refs_rows dom_rows
theorem setm_NRow {l : List NRow} {i : Nat} {v : ByteArray} : (l.map NRow.row).set i (setSeg ((l.map NRow.row).getD i []) 0 [.str v]) = (l.set i { l.getD i default with nm := v }).map NRow.row :=
  set_rows (α := NRow) (f := NRow.row) (fun s => { s with nm := v }) fun x => by simp [NRow.row, setSeg]
theorem gone_fam {k : Nat} {l m : List NRow} (hl : isFam k l) (hm : isFam k m) (h : l.length = m.length) : (nobjs l).map (fun p => (p.1, AObj.gone)) = (nobjs m).map (fun p => (p.1, AObj.gone)) := by
  refine List.ext_getElem (by simp [nobjs, h]) fun i h1 h2 => ?_
  have h1' : i < l.length := by simpa [nobjs] using h1
  have h2' : i < m.length := by omega
  have := hl i h1'
  have h3 := hm i h2'
  simp only [List.getD_eq_getElem?_getD, List.getElem?_eq_getElem h1', List.getElem?_eq_getElem h2', Option.getD_some] at this h3
  simp [nobjs, this, h3]
def ct_Aw (a : List Aw) (i : Nat) : Nat := ((a.take i).map fun x => 1 + x.pts.length).sum
theorem ct_Aw_succ {a : List Aw} {i : Nat} (h : i < a.length) : ct_Aw a (i + 1) = ct_Aw a i + (1 + (a.getD i default).pts.length) := by
  unfold ct_Aw
  rw [List.take_succ_eq_append_getElem h, List.map_append, List.sum_append]; simp [h]
theorem ct_Aw_le {a : List Aw} (hs : ∀ x ∈ a, x.small) {i : Nat} (h : i ≤ a.length) : ct_Aw a i ≤ i * 6291457 := by
  induction i with
  | zero => simp [ct_Aw]
  | succ i ih =>
    have h' := ih (by omega)
    have := hs _ (getD_mem' (show i < a.length from h))
    unfold Aw.small at this
    rw [ct_Aw_succ h]; omega
set_option maxHeartbeats 2000000 in
theorem g_markAwS (k : Int) (a : List Aw) (ha : a.length ≤ 1048577) (hs : ∀ x ∈ a, x.small) (hk : 0 ≤ k ∧ k ≤ 35184372088832) : Contract P 97 [.own 3 0 0 a.length, .int .i64 k] ((3, .arr (1000000 + 108) 0 2 ((nfam 7 9 1 (a.map awP)).map NRow.row)) :: nobjs (nfam 7 9 1 (a.map awP)))
    (.int .i64 (k + ct_Aw a a.length)) (((3, .arr (1000000 + 108) 0 2 ((nfam 7 9 1 (a.map awP)).map NRow.row)) :: nobjs (nfam 7 9 1 (a.map awP))).map fun p => (p.1, .gone)) := by
  have hz : ((0 : Nat) : Int) = 0 := rfl
  have gs : True := trivial
  have hli : True := trivial
  have hgm : True := trivial
  have hrw : True := trivial
  have hs1 : True := trivial
  suffices hC : ∃ l : List NRow, (isFam 7 l ∧ l.length = a.length) ∧ Contract P 97 [.own 3 0 0 a.length, .int .i64 k] ((3, .arr (1000000 + 108) 0 2 ((nfam 7 9 1 (a.map awP)).map NRow.row)) :: nobjs (nfam 7 9 1 (a.map awP)))
      (.int .i64 (k + ct_Aw a a.length)) ((3, .arr (1000000 + 108) 0 2 (l.map NRow.row)) :: nobjs l) by
    obtain ⟨l, ⟨h1, h2⟩, h3⟩ := hC
    have h4 := h3.gone rfl
    simp only [List.map_cons] at h4 ⊢
    rw [gone_fam h1 (nfam_fam (k := 7) (e := 9) (sz := 1) (l := a.map awP)) (by rw [nfam_len, List.length_map]; exact h2)] at h4
    exact h4
  refine fn_choose ((Env.nil P).add 100 t_markText h_markText) hm k_laws_markSkyAirwayS (Nat.le_of_ble_eq_true rfl) ?_ (fun l : List NRow => isFam 7 l ∧ l.length = a.length) (fun _ => .int .i64 (k + ct_Aw a a.length)) (fun l => (3, .arr (1000000 + 108) 0 2 (l.map NRow.row)) :: nobjs l) ?_
  · exact fam_100 (by omega) (by omega)
  unfold s_laws_markSkyAirwayS
  simp (config := { maxSteps := 2000000 }) only [bitvec_to_nat, reduceIte, Nat.reduceEqDiff, Nat.reduceAdd, Nat.reduceLeDiff, reduceCtorEq, Nat.reduceBEq, Nat.reduceLT, Nat.reduceMod, List.forall_mem_cons, retG_ret, retQ_eq, retQ_eqN, retOk, keepB, re_tupl, orr_t, t_markText, NRow.row, setm_NRow, gs, hli, hgm, hrw, Int.toNat_natCast, List.length_map, List.length_set, Nat.sub_zero, Nat.zero_add, hz, fam_ne, fam_ne', hs1, List.set_set]
  refine loop_F (fun b : Nat × List NRow => ⟨[(0, .own 3 0 0 a.length), (1, .int .i64 (k + ct_Aw a b.1)), (5, .int .i64 b.1)], (3, .arr (1000000 + 108) 0 2 (b.2.map NRow.row)) :: nobjs b.2⟩)
    (fun b => b.1 ≤ a.length ∧ b.2.length = a.length ∧ isFam 7 b.2 ∧ flatObs b.2 ∧ ∀ j, b.1 ≤ j → j < a.length → b.2.getD j default = ⟨(a.getD j default).nm, (a.getD j default).pts.length, fam 7 j, .arr 9 0 1 ((a.getD j default).pts.map srow)⟩)
    (fun b => a.length - b.1) (0, nfam 7 9 1 (a.map awP)) ?_ ⟨Nat.zero_le _, by rw [nfam_len, List.length_map], nfam_fam, fun i hi => ?_, fun j _ hj => ?_⟩ ?_
  · have e0 : k + ((ct_Aw a 0 : Nat) : Int) = k := by simp [ct_Aw]
    simp only [e0]
    refine ⟨by repeat' (first | exact trivial | refine ⟨.inr rfl, ?_⟩), ⟨rfl, wk_fam nfam_fam (by omega)⟩, ?_, keep_self⟩
    simp only [closedB, List.all_cons, Bool.and_eq_true]
    exact ⟨⟨by simp [refsIn, dom], rfl, rfl, rfl⟩, by simpa only [List.all_cons, Bool.and_eq_true] using fam_refs (k := 7) (o := 3) (e := 9) (sz := 1) (x := a.map awP) (T := 108) (y := .arr (1000000 + 108) 0 2 ((nfam 7 9 1 (a.map awP)).map NRow.row)) (by omega)⟩
  · have hi' : i < a.length := by simpa [nfam_len] using hi
    rw [nfam_get (by simpa using hi')]
    exact .inr ⟨_, _, _, _, by omega, rfl⟩
  · rw [nfam_get (by simpa using hj)]
    simp [awP, hj]
  rintro ⟨i, l⟩ ⟨h1, h2, h3, h4, h5⟩ NX hN
  simp only at h1 h2 h3 h4 h5
  have hct := ct_Aw_le hs h1
  by_cases hi : i < a.length
  · have hli := h5 i (Nat.le_refl _) hi
    have hil : i < l.length := by omega
    have hx := hs _ (getD_mem' hi)
    unfold Aw.small at hx
    have hgm : getM (nobjs l) (fam 7 i) = some (.arr 9 0 1 ((a.getD i default).pts.map srow)) := by rw [nobjs_fam h3 hil, hli]
    have gs : ∀ x : NRow, (l.set i x).getD i default = x := fun x => getD_seti' hil
    have e5 : k + ((ct_Aw a (i + 1) : Nat) : Int) = k + (ct_Aw a i : Int) + 1 + ((a.getD i default).pts.length : Int) := by rw [ct_Aw_succ hi]; omega
    unfold l_laws_markSkyAirwayS_0; simp (config := { maxSteps := 2000000 }) only [bitvec_to_nat, reduceIte, Nat.reduceEqDiff, Nat.reduceAdd, Nat.reduceLeDiff, reduceCtorEq, Nat.reduceBEq, Nat.reduceLT, Nat.reduceMod, List.forall_mem_cons, retG_ret, retQ_eq, retQ_eqN, retOk, keepB, re_tupl, orr_t, t_markText, NRow.row, setm_NRow, gs, hli, hgm, hrw, Int.toNat_natCast, List.length_map, List.length_set, Nat.sub_zero, Nat.zero_add, hz, fam_ne, fam_ne', hs1, List.set_set]
    have hM := (g_markByteArrayS 0 (k + ct_Aw a i + 1) (a.getD i default).pts (by omega) (by omega)).ren (swp 3 (fam 7 i)) (swp_swp _ _)
    simp only [renL, ren, renM, renO, swp, reduceIte, Nat.reduceLT] at hM
    refine ⟨fun _ => ⟨by omega, by omega, by omega, by omega, hil, _, _, .inl ⟨_, hM, by simp [getM, fam_ne, hgm], by simp [dom], by simp [dom], by simp [refsInL, refsIn, dom], by simp [refsInO], rfl, by simp [refsInO]⟩, ?_⟩, fun h => absurd (by omega) h⟩
    have hs1 : setM (nobjs l) (fam 7 i) .gone = nobjs (l.set i ⟨mtx (k + ct_Aw a i), (a.getD i default).pts.length, fam 7 i, .gone⟩) := by
      rw [setM_fam h3 hil, hli]; simp [nobjs, List.map_set]
    have hrw : (l.set i ⟨mtx (k + ct_Aw a i), (a.getD i default).pts.length, fam 7 i, .arr 9 0 1 ((a.getD i default).pts.map srow)⟩).map NRow.row = (l.set i ⟨mtx (k + ct_Aw a i), (a.getD i default).pts.length, fam 7 i, .gone⟩).map NRow.row := by
      simp [List.map_set, NRow.row]
    simp (config := { maxSteps := 2000000 }) only [bitvec_to_nat, reduceIte, Nat.reduceEqDiff, Nat.reduceAdd, Nat.reduceLeDiff, reduceCtorEq, Nat.reduceBEq, Nat.reduceLT, Nat.reduceMod, List.forall_mem_cons, retG_ret, retQ_eq, retQ_eqN, retOk, keepB, re_tupl, orr_t, t_markText, NRow.row, setm_NRow, gs, hli, hgm, hrw, Int.toNat_natCast, List.length_map, List.length_set, Nat.sub_zero, Nat.zero_add, hz, fam_ne, fam_ne', hs1, List.set_set]
    rw [← e5]
    have hf' : isFam 7 (l.set i ⟨mtx (k + ct_Aw a i), (a.getD i default).pts.length, fam 7 i, .gone⟩) := fun j hj => by
      by_cases e : j = i
      · subst e; rw [gs]
      · rw [getD_setn' (Ne.symm e)]; exact h3 j (by simpa using hj)
    have ho' : flatObs (l.set i ⟨mtx (k + ct_Aw a i), (a.getD i default).pts.length, fam 7 i, .gone⟩) := fun j hj => by
      by_cases e : j = i
      · subst e; rw [gs]; exact .inl rfl
      · rw [getD_setn' (Ne.symm e)]; exact h4 j (by simpa using hj)
    refine ⟨by omega, hN (i + 1, l.set i ⟨mtx (k + ct_Aw a i), (a.getD i default).pts.length, fam 7 i, .gone⟩) _ ⟨by repeat' (first | exact trivial | refine ⟨.inr rfl, ?_⟩), ⟨rfl, wk_fam hf' (by omega)⟩, ?_, keep_self⟩ ⟨hi, by rw [List.length_set]; exact h2, hf', ho', fun j h6 h7 => ?_⟩ (by simp only; omega)⟩
    · simp only [closedB, List.all_cons, Bool.and_eq_true]
      exact ⟨⟨by simp [refsIn, dom], rfl, rfl, rfl⟩, by simpa only [List.all_cons, Bool.and_eq_true] using nobjs_all (T := 108) (o := 3) (y := .arr (1000000 + 108) 0 2 ((l.set i ⟨mtx (k + ct_Aw a i), (a.getD i default).pts.length, fam 7 i, .gone⟩).map NRow.row)) ho'⟩
    · simp only at h6 ⊢
      rw [getD_setn' (by omega)]; exact h5 j (by omega) h7
  · have hi' : ¬ (i : Int) < a.length := by omega
    have e : i = a.length := by omega
    subst e
    unfold l_laws_markSkyAirwayS_0; simp (config := { maxSteps := 2000000 }) only [bitvec_to_nat, reduceIte, Nat.reduceEqDiff, Nat.reduceAdd, Nat.reduceLeDiff, reduceCtorEq, Nat.reduceBEq, Nat.reduceLT, Nat.reduceMod, List.forall_mem_cons, retG_ret, retQ_eq, retQ_eqN, retOk, keepB, re_tupl, orr_t, t_markText, NRow.row, setm_NRow, gs, hli, hgm, hrw, Int.toNat_natCast, List.length_map, List.length_set, Nat.sub_zero, Nat.zero_add, hz, fam_ne, fam_ne', hs1, List.set_set, hi']
    exact ⟨l, ⟨h3, h2⟩, ⟨rfl, wk_fam h3 (by omega)⟩, nobjs_all (T := 108) (o := 3) (y := .gone) h4, keep_self (M := (3, .gone) :: nobjs l)⟩
def ct_Sec (a : List Sec) (i : Nat) : Nat := ((a.take i).map fun x => 1 + 6 * x.bl.length).sum
theorem ct_Sec_succ {a : List Sec} {i : Nat} (h : i < a.length) : ct_Sec a (i + 1) = ct_Sec a i + (1 + 6 * (a.getD i default).bl.length) := by
  unfold ct_Sec
  rw [List.take_succ_eq_append_getElem h, List.map_append, List.sum_append]; simp [h]
theorem ct_Sec_le {a : List Sec} (hs : ∀ x ∈ a, x.small) {i : Nat} (h : i ≤ a.length) : ct_Sec a i ≤ i * 6291457 := by
  induction i with
  | zero => simp [ct_Sec]
  | succ i ih =>
    have h' := ih (by omega)
    have := hs _ (getD_mem' (show i < a.length from h))
    unfold Sec.small at this
    rw [ct_Sec_succ h]; omega
set_option maxHeartbeats 2000000 in
theorem g_markSecS (k : Int) (a : List Sec) (ha : a.length ≤ 1048577) (hs : ∀ x ∈ a, x.small) (hk : 0 ≤ k ∧ k ≤ 35184372088832) : Contract P 98 [.own 3 0 0 a.length, .int .i64 k] ((3, .arr (1000000 + 111) 0 2 ((nfam 7 113 6 (a.map secP)).map NRow.row)) :: nobjs (nfam 7 113 6 (a.map secP)))
    (.int .i64 (k + ct_Sec a a.length)) (((3, .arr (1000000 + 111) 0 2 ((nfam 7 113 6 (a.map secP)).map NRow.row)) :: nobjs (nfam 7 113 6 (a.map secP))).map fun p => (p.1, .gone)) := by
  have hz : ((0 : Nat) : Int) = 0 := rfl
  have gs : True := trivial
  have hli : True := trivial
  have hgm : True := trivial
  have hrw : True := trivial
  have hs1 : True := trivial
  suffices hC : ∃ l : List NRow, (isFam 7 l ∧ l.length = a.length) ∧ Contract P 98 [.own 3 0 0 a.length, .int .i64 k] ((3, .arr (1000000 + 111) 0 2 ((nfam 7 113 6 (a.map secP)).map NRow.row)) :: nobjs (nfam 7 113 6 (a.map secP)))
      (.int .i64 (k + ct_Sec a a.length)) ((3, .arr (1000000 + 111) 0 2 (l.map NRow.row)) :: nobjs l) by
    obtain ⟨l, ⟨h1, h2⟩, h3⟩ := hC
    have h4 := h3.gone rfl
    simp only [List.map_cons] at h4 ⊢
    rw [gone_fam h1 (nfam_fam (k := 7) (e := 113) (sz := 6) (l := a.map secP)) (by rw [nfam_len, List.length_map]; exact h2)] at h4
    exact h4
  refine fn_choose ((Env.nil P).add 100 t_markText h_markText) hm k_laws_markSkySectorS (Nat.le_of_ble_eq_true rfl) ?_ (fun l : List NRow => isFam 7 l ∧ l.length = a.length) (fun _ => .int .i64 (k + ct_Sec a a.length)) (fun l => (3, .arr (1000000 + 111) 0 2 (l.map NRow.row)) :: nobjs l) ?_
  · exact fam_100 (by omega) (by omega)
  unfold s_laws_markSkySectorS
  simp (config := { maxSteps := 2000000 }) only [bitvec_to_nat, reduceIte, Nat.reduceEqDiff, Nat.reduceAdd, Nat.reduceLeDiff, reduceCtorEq, Nat.reduceBEq, Nat.reduceLT, Nat.reduceMod, List.forall_mem_cons, retG_ret, retQ_eq, retQ_eqN, retOk, keepB, re_tupl, orr_t, t_markText, NRow.row, setm_NRow, gs, hli, hgm, hrw, Int.toNat_natCast, List.length_map, List.length_set, Nat.sub_zero, Nat.zero_add, hz, fam_ne, fam_ne', hs1, List.set_set]
  refine loop_F (fun b : Nat × List NRow => ⟨[(0, .own 3 0 0 a.length), (1, .int .i64 (k + ct_Sec a b.1)), (5, .int .i64 b.1)], (3, .arr (1000000 + 111) 0 2 (b.2.map NRow.row)) :: nobjs b.2⟩)
    (fun b => b.1 ≤ a.length ∧ b.2.length = a.length ∧ isFam 7 b.2 ∧ flatObs b.2 ∧ ∀ j, b.1 ≤ j → j < a.length → b.2.getD j default = ⟨(a.getD j default).nm, (a.getD j default).bl.length, fam 7 j, .arr 113 0 6 ((a.getD j default).bl.map Blk.row)⟩)
    (fun b => a.length - b.1) (0, nfam 7 113 6 (a.map secP)) ?_ ⟨Nat.zero_le _, by rw [nfam_len, List.length_map], nfam_fam, fun i hi => ?_, fun j _ hj => ?_⟩ ?_
  · have e0 : k + ((ct_Sec a 0 : Nat) : Int) = k := by simp [ct_Sec]
    simp only [e0]
    refine ⟨by repeat' (first | exact trivial | refine ⟨.inr rfl, ?_⟩), ⟨rfl, wk_fam nfam_fam (by omega)⟩, ?_, keep_self⟩
    simp only [closedB, List.all_cons, Bool.and_eq_true]
    exact ⟨⟨by simp [refsIn, dom], rfl, rfl, rfl⟩, by simpa only [List.all_cons, Bool.and_eq_true] using fam_refs (k := 7) (o := 3) (e := 113) (sz := 6) (x := a.map secP) (T := 111) (y := .arr (1000000 + 111) 0 2 ((nfam 7 113 6 (a.map secP)).map NRow.row)) (by omega)⟩
  · have hi' : i < a.length := by simpa [nfam_len] using hi
    rw [nfam_get (by simpa using hi')]
    exact .inr ⟨_, _, _, _, by omega, rfl⟩
  · rw [nfam_get (by simpa using hj)]
    simp [secP, hj]
  rintro ⟨i, l⟩ ⟨h1, h2, h3, h4, h5⟩ NX hN
  simp only at h1 h2 h3 h4 h5
  have hct := ct_Sec_le hs h1
  by_cases hi : i < a.length
  · have hli := h5 i (Nat.le_refl _) hi
    have hil : i < l.length := by omega
    have hx := hs _ (getD_mem' hi)
    unfold Sec.small at hx
    have hgm : getM (nobjs l) (fam 7 i) = some (.arr 113 0 6 ((a.getD i default).bl.map Blk.row)) := by rw [nobjs_fam h3 hil, hli]
    have gs : ∀ x : NRow, (l.set i x).getD i default = x := fun x => getD_seti' hil
    have e5 : k + ((ct_Sec a (i + 1) : Nat) : Int) = k + (ct_Sec a i : Int) + 1 + 6 * ((a.getD i default).bl.length : Int) := by rw [ct_Sec_succ hi]; omega
    unfold l_laws_markSkySectorS_0; simp (config := { maxSteps := 2000000 }) only [bitvec_to_nat, reduceIte, Nat.reduceEqDiff, Nat.reduceAdd, Nat.reduceLeDiff, reduceCtorEq, Nat.reduceBEq, Nat.reduceLT, Nat.reduceMod, List.forall_mem_cons, retG_ret, retQ_eq, retQ_eqN, retOk, keepB, re_tupl, orr_t, t_markText, NRow.row, setm_NRow, gs, hli, hgm, hrw, Int.toNat_natCast, List.length_map, List.length_set, Nat.sub_zero, Nat.zero_add, hz, fam_ne, fam_ne', hs1, List.set_set]
    have hM := (g_markBlkS 0 (k + ct_Sec a i + 1) (a.getD i default).bl (by omega) (by omega)).ren (swp 3 (fam 7 i)) (swp_swp _ _)
    simp only [renL, ren, renM, renO, swp, reduceIte, Nat.reduceLT] at hM
    refine ⟨fun _ => ⟨by omega, by omega, by omega, by omega, hil, _, _, .inl ⟨_, hM, by simp [getM, fam_ne, hgm], by simp [dom], by simp [dom], by simp [refsInL, refsIn, dom], by simp [refsInO], rfl, by simp [refsInO]⟩, ?_⟩, fun h => absurd (by omega) h⟩
    have hs1 : setM (nobjs l) (fam 7 i) .gone = nobjs (l.set i ⟨mtx (k + ct_Sec a i), (a.getD i default).bl.length, fam 7 i, .gone⟩) := by
      rw [setM_fam h3 hil, hli]; simp [nobjs, List.map_set]
    have hrw : (l.set i ⟨mtx (k + ct_Sec a i), (a.getD i default).bl.length, fam 7 i, .arr 113 0 6 ((a.getD i default).bl.map Blk.row)⟩).map NRow.row = (l.set i ⟨mtx (k + ct_Sec a i), (a.getD i default).bl.length, fam 7 i, .gone⟩).map NRow.row := by
      simp [List.map_set, NRow.row]
    simp (config := { maxSteps := 2000000 }) only [bitvec_to_nat, reduceIte, Nat.reduceEqDiff, Nat.reduceAdd, Nat.reduceLeDiff, reduceCtorEq, Nat.reduceBEq, Nat.reduceLT, Nat.reduceMod, List.forall_mem_cons, retG_ret, retQ_eq, retQ_eqN, retOk, keepB, re_tupl, orr_t, t_markText, NRow.row, setm_NRow, gs, hli, hgm, hrw, Int.toNat_natCast, List.length_map, List.length_set, Nat.sub_zero, Nat.zero_add, hz, fam_ne, fam_ne', hs1, List.set_set]
    rw [← e5]
    have hf' : isFam 7 (l.set i ⟨mtx (k + ct_Sec a i), (a.getD i default).bl.length, fam 7 i, .gone⟩) := fun j hj => by
      by_cases e : j = i
      · subst e; rw [gs]
      · rw [getD_setn' (Ne.symm e)]; exact h3 j (by simpa using hj)
    have ho' : flatObs (l.set i ⟨mtx (k + ct_Sec a i), (a.getD i default).bl.length, fam 7 i, .gone⟩) := fun j hj => by
      by_cases e : j = i
      · subst e; rw [gs]; exact .inl rfl
      · rw [getD_setn' (Ne.symm e)]; exact h4 j (by simpa using hj)
    refine ⟨by omega, hN (i + 1, l.set i ⟨mtx (k + ct_Sec a i), (a.getD i default).bl.length, fam 7 i, .gone⟩) _ ⟨by repeat' (first | exact trivial | refine ⟨.inr rfl, ?_⟩), ⟨rfl, wk_fam hf' (by omega)⟩, ?_, keep_self⟩ ⟨hi, by rw [List.length_set]; exact h2, hf', ho', fun j h6 h7 => ?_⟩ (by simp only; omega)⟩
    · simp only [closedB, List.all_cons, Bool.and_eq_true]
      exact ⟨⟨by simp [refsIn, dom], rfl, rfl, rfl⟩, by simpa only [List.all_cons, Bool.and_eq_true] using nobjs_all (T := 111) (o := 3) (y := .arr (1000000 + 111) 0 2 ((l.set i ⟨mtx (k + ct_Sec a i), (a.getD i default).bl.length, fam 7 i, .gone⟩).map NRow.row)) ho'⟩
    · simp only at h6 ⊢
      rw [getD_setn' (by omega)]; exact h5 j (by omega) h7
  · have hi' : ¬ (i : Int) < a.length := by omega
    have e : i = a.length := by omega
    subst e
    unfold l_laws_markSkySectorS_0; simp (config := { maxSteps := 2000000 }) only [bitvec_to_nat, reduceIte, Nat.reduceEqDiff, Nat.reduceAdd, Nat.reduceLeDiff, reduceCtorEq, Nat.reduceBEq, Nat.reduceLT, Nat.reduceMod, List.forall_mem_cons, retG_ret, retQ_eq, retQ_eqN, retOk, keepB, re_tupl, orr_t, t_markText, NRow.row, setm_NRow, gs, hli, hgm, hrw, Int.toNat_natCast, List.length_map, List.length_set, Nat.sub_zero, Nat.zero_add, hz, fam_ne, fam_ne', hs1, List.set_set, hi']
    exact ⟨l, ⟨h3, h2⟩, ⟨rfl, wk_fam h3 (by omega)⟩, nobjs_all (T := 111) (o := 3) (y := .gone) h4, keep_self (M := (3, .gone) :: nobjs l)⟩
end
end Go.Ve

namespace Go.Ve
noncomputable section
open Go.Proofs
set_option linter.unusedSimpArgs false
set_option linter.unusedVariables false
set_option maxRecDepth 100000
def gone (l : List (Nat × AObj)) : List (Nat × AObj) := l.map fun p => (p.1, AObj.gone)
theorem dom_gone {l : List (Nat × AObj)} : dom (gone l) = dom l := by simp [dom, gone]
theorem gone_app {a b : List (Nat × AObj)} : gone (a ++ b) = gone a ++ gone b := by simp [gone]
theorem gone_refs {l : List (Nat × AObj)} {d : List Nat} : ((gone l).all fun p => refsInO d p.2) = true := by
  rw [List.all_eq_true]
  intro p hp
  obtain ⟨q, _, rfl⟩ := List.mem_map.1 hp
  rfl
theorem bigs_gone {l : List (Nat × AObj)} (h : bigs l) : bigs (gone l) := fun p hp => by
  obtain ⟨q, hq, rfl⟩ := List.mem_map.1 hp
  exact h q hq
theorem getM_gone {l : List (Nat × AObj)} {o : Nat} : getM (gone l) o = (getM l o).map fun _ => .gone := by
  induction l with
  | nil => rfl
  | cons p l ih =>
    obtain ⟨k, x⟩ := p
    simp only [gone, List.map_cons, getM] at ih ⊢
    split
    · rfl
    · exact ih
theorem callR_gone {f : FuncId} {args : List AV} {pre : List (Nat × AObj)} {r : AV} {M : Nat → Option AObj} (hC : Contract P f args pre r (gone pre)) (hM : ∀ p ∈ pre, M p.1 = some p.2) (ha : refsInL (dom pre) args = true) (hp : (pre.all fun p => refsInO (dom pre) p.2) = true) (hr : noref r = true) :
    callR P f args M r (gone pre) := by
  refine .inl ⟨pre, hC, hM, fun p hp => .inl ?_, ?_, ha, hp, refsIn_nr _ _ hr, gone_refs⟩
  · obtain ⟨q, hq, rfl⟩ := List.mem_map.1 hp
    simpa using dom_mem hq
  · rw [dom_gone, List.all_eq_true]
    intro o ho; simpa using ho
theorem aCons {U M : List (Nat × AObj)} {o : Nat} {x : AObj} (h : ∀ p ∈ U, p.1 ≠ o) : applyU ((o, x) :: M) U = (o, x) :: applyU M U := by
  induction U with
  | nil => rfl
  | cons p U ih =>
    show setM (applyU ((o, x) :: M) U) p.1 p.2 = _
    rw [ih fun q hq => h q (by simp [hq])]
    show setM ((o, x) :: applyU M U) p.1 p.2 = (o, x) :: setM (applyU M U) p.1 p.2
    simp only [setM]
    rw [if_neg (h p (by simp))]
theorem aOver {U B : List (Nat × AObj)} (h : U.Pairwise fun a b => a.1 ≠ b.1) : applyU (U ++ B) (gone U) = gone U ++ B := by
  induction U with
  | nil => rfl
  | cons p U ih =>
    rw [List.pairwise_cons] at h
    obtain ⟨k, x⟩ := p
    show setM (applyU ((k, x) :: (U ++ B)) (gone U)) k .gone = (k, .gone) :: (gone U ++ B)
    rw [aCons, ih h.2]
    · simp [setM]
    · intro q hq e
      obtain ⟨y, hy, rfl⟩ := List.mem_map.1 hq
      exact h.1 y hy e.symm
theorem aSkip {A U B : List (Nat × AObj)} (h : ∀ p ∈ U, getM A p.1 = none) : applyU (A ++ B) U = A ++ applyU B U := by
  induction A with
  | nil => rfl
  | cons p A ih =>
    obtain ⟨k, x⟩ := p
    rw [List.cons_append, aCons, ih]
    · rfl
    · intro p hp
      have := h p hp
      simp only [getM] at this
      split at this
      · cases this
      · exact this
    · intro p hp e
      have := h p hp
      simp [getM, e] at this
theorem markPt3 (k : Int) (s : Sky) (hs : s.small) (hk : 0 ≤ k ∧ k ≤ 1125899906842624) : Contract P 96 [.own 3 0 0 s.pts.length, .int .i64 k] [(3, .arr 103 0 3 (s.pts.map Pt.row))] (.int .i64 (k + 3 * s.pts.length)) [(3, .gone)] :=
  g_markPtS 0 k s.pts (by unfold Sky.small at hs; omega) hk
theorem markRw6 (k : Int) (s : Sky) (hs : s.small) (hk : 0 ≤ k ∧ k ≤ 1125899906842624) : Contract P 99 [.own 6 0 0 s.rws.length, .int .i64 k] [(6, .arr 118 0 4 (s.rws.map Rw.row))] (.int .i64 (k + 4 * s.rws.length)) [(6, .gone)] := by
  have h := (g_markRwS 0 k s.rws (by unfold Sky.small at hs; omega) hk).ren (swp 3 6) (swp_swp _ _)
  simp only [renL, ren, renM, renO, swp, reduceIte, Nat.reduceLT] at h
  exact h
def preA (s : Sky) : List (Nat × AObj) := (4, .arr (1000000 + 108) 0 2 ((fA 7 s).map NRow.row)) :: nobjs (fA 7 s)
def preS (s : Sky) : List (Nat × AObj) := (5, .arr (1000000 + 111) 0 2 ((fS 8 s).map NRow.row)) :: nobjs (fS 8 s)
theorem renM_gone {s : Nat → Nat} {l : List (Nat × AObj)} : renM s (gone l) = gone (renM s l) := by
  induction l with
  | nil => rfl
  | cons p l ih => obtain ⟨k, x⟩ := p; simp only [gone, List.map_cons, renM, renO] at ih ⊢; rw [ih]
theorem markAw4 (k : Int) (s : Sky) (hs : s.small) (hk : 0 ≤ k ∧ k ≤ 35184372088832) : Contract P 97 [.own 4 0 0 s.aws.length, .int .i64 k] (preA s) (.int .i64 (k + ct_Aw s.aws s.aws.length)) (gone (preA s)) := by
  unfold Sky.small at hs
  have h := (g_markAwS k s.aws (by omega) hs.2.1.2 hk).ren (swp 3 4) (swp_swp _ _)
  have e : renM (swp 3 4) ((3, .arr (1000000 + 108) 0 2 ((nfam 7 9 1 (s.aws.map awP)).map NRow.row)) :: nobjs (nfam 7 9 1 (s.aws.map awP))) = preA s := by
    simp only [renM, renO, swp, reduceIte, Nat.reduceLT, Nat.reduceAdd]
    rw [renM_nobjs, renRows, nfam_swp (by omega) (by omega) (by omega)]; rfl
  rw [show (((3, AObj.arr (1000000 + 108) 0 2 ((nfam 7 9 1 (s.aws.map awP)).map NRow.row)) :: nobjs (nfam 7 9 1 (s.aws.map awP))).map fun p => (p.1, AObj.gone)) = gone ((3, AObj.arr (1000000 + 108) 0 2 ((nfam 7 9 1 (s.aws.map awP)).map NRow.row)) :: nobjs (nfam 7 9 1 (s.aws.map awP))) from rfl, renM_gone, e] at h
  simpa only [renL, ren, swp, reduceIte] using h
theorem markSec5 (k : Int) (s : Sky) (hs : s.small) (hk : 0 ≤ k ∧ k ≤ 35184372088832) : Contract P 98 [.own 5 0 0 s.secs.length, .int .i64 k] (preS s) (.int .i64 (k + ct_Sec s.secs s.secs.length)) (gone (preS s)) := by
  unfold Sky.small at hs
  have h := ((g_markSecS k s.secs (by omega) hs.2.2.1.2 hk).ren (swp 3 5) (swp_swp _ _)).ren (swpF 7 8) (swpF_swpF (by omega) (by omega))
  have e5 : swpF 7 8 (swp 3 5 3) = 5 := rfl
  have e : renM (swpF 7 8) (renM (swp 3 5) ((3, .arr (1000000 + 111) 0 2 ((nfam 7 113 6 (s.secs.map secP)).map NRow.row)) :: nobjs (nfam 7 113 6 (s.secs.map secP)))) = preS s := by
    simp only [renM, renO, e5, reduceIte, Nat.reduceLT, Nat.reduceAdd]
    rw [renM_nobjs, renM_nobjs, renRows, renRows, nfam_swp (by omega) (by omega) (by omega), nfam_swpF (by omega) (by omega)]; rfl
  rw [show (((3, AObj.arr (1000000 + 111) 0 2 ((nfam 7 113 6 (s.secs.map secP)).map NRow.row)) :: nobjs (nfam 7 113 6 (s.secs.map secP))).map fun p => (p.1, AObj.gone)) = gone ((3, AObj.arr (1000000 + 111) 0 2 ((nfam 7 113 6 (s.secs.map secP)).map NRow.row)) :: nobjs (nfam 7 113 6 (s.secs.map secP))) from rfl, renM_gone, renM_gone, e] at h
  simpa only [renL, ren, e5] using h
theorem gpA {s : Sky} : gone (preA s) = (4, .gone) :: gone (nobjs (fA 7 s)) := rfl
theorem gpS {s : Sky} : gone (preS s) = (5, .gone) :: gone (nobjs (fS 8 s)) := rfl
theorem gone_fam_ne {k e sz o : Nat} {x : List (ByteArray × List (List AV))} (ho : o < 1000) : ∀ p ∈ gone (nobjs (nfam k e sz x)), p.1 ≠ o := fun p hp e9 => by
  have := bigs_gone (bigs_nfam (k := k) (e := e) (sz := sz) (x := x)) p hp
  omega
theorem apA {s : Sky} {x3 x4 x5 x6 : AObj} {B : List (Nat × AObj)} : applyU ((3, x3) :: (4, x4) :: (5, x5) :: (6, x6) :: (nobjs (fA 7 s) ++ B)) (gone (nobjs (fA 7 s))) = (3, x3) :: (4, x4) :: (5, x5) :: (6, x6) :: (gone (nobjs (fA 7 s)) ++ B) := by
  simp only [fA, fS]
  rw [aCons (gone_fam_ne (by omega)), aCons (gone_fam_ne (by omega)), aCons (gone_fam_ne (by omega)), aCons (gone_fam_ne (by omega)), aOver nfam_pw]
theorem apS {s : Sky} {x3 x4 x5 x6 : AObj} {B : List (Nat × AObj)} : applyU ((3, x3) :: (4, x4) :: (5, x5) :: (6, x6) :: (gone (nobjs (fA 7 s)) ++ (nobjs (fS 8 s) ++ B))) (gone (nobjs (fS 8 s))) = (3, x3) :: (4, x4) :: (5, x5) :: (6, x6) :: (gone (nobjs (fA 7 s)) ++ (gone (nobjs (fS 8 s)) ++ B)) := by
  simp only [fA, fS]
  rw [aCons (gone_fam_ne (by omega)), aCons (gone_fam_ne (by omega)), aCons (gone_fam_ne (by omega)), aCons (gone_fam_ne (by omega)), aSkip, aOver nfam_pw]
  intro p hp
  obtain ⟨q, hq, rfl⟩ := List.mem_map.1 hp
  obtain ⟨i, _, rfl⟩ := nfam_at hq
  rw [getM_gone, nfam_none (by omega) (by omega) (by omega)]; rfl
theorem keep_of {M M' : List (Nat × AObj)} (h : ∀ p ∈ M, 100 ≤ p.1 % 1000 ∨ p.1 ∈ dom M') : keepB M M' = true := by
  unfold keepB
  rw [List.all_eq_true]
  intro o ho
  obtain ⟨p, hp, rfl⟩ := List.mem_map.1 ho
  rcases h p hp with h | h
  · simp [h]
  · simp [h]
def cntSky (s : Sky) : Nat := 3 * s.pts.length + ct_Aw s.aws s.aws.length + ct_Sec s.secs s.secs.length + 4 * s.rws.length
theorem sky_100 {s : Sky} : (dom (skyM s 3 4 5 6 7 8)).all (decide <| · % 1000 < 100) = true := by
  rw [sky_dom, List.all_eq_true]
  intro o ho
  simp only [List.mem_cons, List.mem_append, List.mem_map] at ho
  rcases ho with rfl | rfl | rfl | rfl | ⟨r, hr, rfl⟩ | ⟨r, hr, rfl⟩
  · rfl
  · rfl
  · rfl
  · rfl
  · rw [nfam_mod (k := 7) (by omega) hr]; rfl
  · rw [nfam_mod (k := 8) (by omega) hr]; rfl
set_option maxHeartbeats 2000000 in
theorem g_markSky (k : Int) (s : Sky) (hs : s.small) (hk : 0 ≤ k ∧ k ≤ 1000000) : Contract P 27 [skyV s 3 4 5 6, .int .i64 k] (skyM s 3 4 5 6 7 8) (.int .i64 (k + cntSky s)) (gone (skyM s 3 4 5 6 7 8)) := by
  have hct := ct_Aw_le hs.2.1.2 (Nat.le_refl _)
  have hct2 := ct_Sec_le hs.2.2.1.2 (Nat.le_refl _)
  have bA : bigs (nobjs (fA 7 s)) := bigs_nfam
  have bS : bigs (nobjs (fS 8 s)) := bigs_nfam
  have bGA := bigs_gone bA
  have bGS := bigs_gone bS
  have hm := hs
  unfold Sky.small at hm
  refine fn_sound (Env.nil P) Go.Ve.hm k_laws_markSky (Nat.le_of_ble_eq_true rfl) sky_100 ?_; unfold s_laws_markSky
  simp (config := { maxSteps := 2000000 }) only [bitvec_to_nat, reduceIte, Nat.reduceEqDiff, Nat.reduceAdd, Nat.reduceLeDiff, reduceCtorEq, Nat.reduceBEq, Nat.reduceLT, Nat.reduceMod, List.forall_mem_cons, retG_ret, retQ_eq, retQ_eqN, retOk, keepB, re_tupl, orr_t, skyV, fam_ne, fam_ne', Nat.sub_zero, Nat.zero_add, gB, gB0, sB, sB0, bA, bS, List.append_assoc, List.cons_append, List.nil_append, List.append_nil, skyM, bGA, bGS, gpA, gpS, apA, apS]
  refine ⟨_, _, callR_gone (pre := [(3, .arr 103 0 3 (s.pts.map Pt.row))]) (markPt3 k s hs (by omega)) (by simp [getM]) (by simp [refsInL, refsIn, dom]) (by simp [refsInO]) rfl, ?_⟩
  simp only [gone, List.map_cons, List.map_nil]
  simp (config := { maxSteps := 2000000 }) only [bitvec_to_nat, reduceIte, Nat.reduceEqDiff, Nat.reduceAdd, Nat.reduceLeDiff, reduceCtorEq, Nat.reduceBEq, Nat.reduceLT, Nat.reduceMod, List.forall_mem_cons, retG_ret, retQ_eq, retQ_eqN, retOk, keepB, re_tupl, orr_t, skyV, fam_ne, fam_ne', Nat.sub_zero, Nat.zero_add, gB, gB0, sB, sB0, bA, bS, List.append_assoc, List.cons_append, List.nil_append, List.append_nil, skyM, bGA, bGS, gpA, gpS, apA, apS]
  refine ⟨_, _, callR_gone (pre := preA s) (markAw4 (k + 3 * s.pts.length) s hs (by omega)) (fun p hp => ?_) (by simp [refsInL, refsIn, dom, preA]) (fam_refs (by omega)) rfl, ?_⟩
  · rcases List.mem_cons.1 hp with rfl | hp
    · simp only [getM, Nat.reduceEqDiff, reduceIte]
    · obtain ⟨i, hi, rfl⟩ := nfam_at hp
      simp only [getM, fam_ne, Nat.reduceLT, if_false, getM_append, fA, nfam_obj hi, Option.some_or]
  simp (config := { maxSteps := 2000000 }) only [bitvec_to_nat, reduceIte, Nat.reduceEqDiff, Nat.reduceAdd, Nat.reduceLeDiff, reduceCtorEq, Nat.reduceBEq, Nat.reduceLT, Nat.reduceMod, List.forall_mem_cons, retG_ret, retQ_eq, retQ_eqN, retOk, keepB, re_tupl, orr_t, skyV, fam_ne, fam_ne', Nat.sub_zero, Nat.zero_add, gB, gB0, sB, sB0, bA, bS, List.append_assoc, List.cons_append, List.nil_append, List.append_nil, skyM, bGA, bGS, gpA, gpS, apA, apS]
  refine ⟨_, _, callR_gone (pre := preS s) (markSec5 (k + 3 * s.pts.length + ct_Aw s.aws s.aws.length) s hs (by omega)) (fun p hp => ?_) (by simp [refsInL, refsIn, dom, preS]) (fam_refs (by omega)) rfl, ?_⟩
  · rcases List.mem_cons.1 hp with rfl | hp
    · simp only [getM, Nat.reduceEqDiff, reduceIte]
    · obtain ⟨i, hi, rfl⟩ := nfam_at hp
      simp only [getM, fam_ne, Nat.reduceLT, if_false, getM_append, getM_gone, fA, fS, nfam_none, ne_eq, Nat.reduceEqDiff, not_false_eq_true, Option.map_none, Option.none_or, nfam_obj hi, Option.some_or]
  simp (config := { maxSteps := 2000000 }) only [bitvec_to_nat, reduceIte, Nat.reduceEqDiff, Nat.reduceAdd, Nat.reduceLeDiff, reduceCtorEq, Nat.reduceBEq, Nat.reduceLT, Nat.reduceMod, List.forall_mem_cons, retG_ret, retQ_eq, retQ_eqN, retOk, keepB, re_tupl, orr_t, skyV, fam_ne, fam_ne', Nat.sub_zero, Nat.zero_add, gB, gB0, sB, sB0, bA, bS, List.append_assoc, List.cons_append, List.nil_append, List.append_nil, skyM, bGA, bGS, gpA, gpS, apA, apS]
  refine ⟨_, _, callR_gone (pre := [(6, .arr 118 0 4 (s.rws.map Rw.row))]) (markRw6 (k + 3 * s.pts.length + ct_Aw s.aws s.aws.length + ct_Sec s.secs s.secs.length) s hs (by omega)) (by simp [getM]) (by simp [refsInL, refsIn, dom]) (by simp [refsInO]) rfl, ?_⟩
  simp only [gone, List.map_cons, List.map_nil]
  simp (config := { maxSteps := 2000000 }) only [bitvec_to_nat, reduceIte, Nat.reduceEqDiff, Nat.reduceAdd, Nat.reduceLeDiff, reduceCtorEq, Nat.reduceBEq, Nat.reduceLT, Nat.reduceMod, List.forall_mem_cons, retG_ret, retQ_eq, retQ_eqN, retOk, keepB, re_tupl, orr_t, skyV, fam_ne, fam_ne', Nat.sub_zero, Nat.zero_add, gB, gB0, sB, sB0, bA, bS, List.append_assoc, List.cons_append, List.nil_append, List.append_nil, skyM, bGA, bGS, gpA, gpS, apA, apS]
  refine ⟨by unfold cntSky; omega, wkM_self fun p hp => ?_, gone_refs, ?_⟩
  · obtain ⟨q, hq, rfl⟩ := List.mem_map.1 hp
    rcases List.mem_append.1 hq with hq | hq
    · obtain ⟨i, hi, rfl⟩ := nfam_at hq
      show getM (_ :: _ :: _ :: _ :: (gone _ ++ (gone _ ++ _))) _ = _
      simp only [getM, fam_ne, Nat.reduceLT, if_false, getM_append, getM_gone, fA, nfam_obj hi, Option.map_some, Option.some_or]
    · obtain ⟨i, hi, rfl⟩ := nfam_at hq
      show getM (_ :: _ :: _ :: _ :: (gone _ ++ (gone _ ++ _))) _ = _
      simp only [getM, fam_ne, Nat.reduceLT, if_false, getM_append, getM_gone, fA, fS, nfam_none, ne_eq, Nat.reduceEqDiff, not_false_eq_true, Option.map_none, Option.none_or, nfam_obj hi, Option.map_some, Option.some_or]
  · refine keep_of (M := (3, .gone) :: (4, .gone) :: (5, .gone) :: (6, .gone) :: (gone (nobjs (fA 7 s)) ++ (gone (nobjs (fS 8 s)) ++ [(102, _)]))) (M' := (3, .gone) :: (4, .gone) :: (5, .gone) :: (6, .gone) :: gone (nobjs (fA 7 s) ++ nobjs (fS 8 s))) fun p hp => ?_
    simp only [List.mem_cons, List.mem_append, List.not_mem_nil, or_false] at hp
    simp only [dom, List.map_cons, List.mem_cons, List.mem_map, gone_app, List.mem_append]
    rcases hp with rfl | rfl | rfl | rfl | hp | hp | rfl
    · exact .inr (.inl rfl)
    · exact .inr (.inr (.inl rfl))
    · exact .inr (.inr (.inr (.inl rfl)))
    · exact .inr (.inr (.inr (.inr (.inl rfl))))
    · exact .inr (.inr (.inr (.inr (.inr ⟨p, .inl hp, rfl⟩))))
    · exact .inr (.inr (.inr (.inr (.inr ⟨p, .inr hp, rfl⟩))))
    · exact .inl (by simp)
end
end Go.Ve

namespace Go.Ve
noncomputable section
open Go.Proofs
set_option linter.unusedSimpArgs false
set_option linter.unusedVariables false
set_option maxRecDepth 100000
theorem purR_flat (K : Nat → Option AObj) : ∀ {r : List AV}, flatOk r = true → purR K r = some r
  | [], _ => rfl
  | x :: xs, h => by
    simp only [flatOk, Bool.and_eq_true] at h
    have ih := purR_flat K h.2
    cases x <;> first | (simp [noref] at h; done) | (simp only [purR, ih]; rw [if_pos]; simp only [h.1.1, h.1.2, Bool.and_self])
theorem purRs_flat (K : Nat → Option AObj) : ∀ {rs : List (List AV)}, (∀ r ∈ rs, flatOk r = true) → purRs K rs = some rs
  | [], _ => rfl
  | r :: rs, h => by
    have ih := purRs_flat K (rs := rs) fun x hx => h x (by simp [hx])
    simp only [purRs, purR_flat K (h r (by simp)), ih]
def NRow.ys (r : NRow) : List (List AV) := match r.ob with | .arr _ _ _ ys => ys | _ => []
theorem purRs_nrow (K : Nat → Option AObj) (sz : Nat) : ∀ {l : List NRow}, (∀ r ∈ l, ∃ e ys, e < 1000000 ∧ r.ob = .arr e 0 sz ys ∧ K r.o = some r.ob ∧ r.n = ys.length) → purRs K (l.map NRow.row) = some (l.map fun r => [.str r.nm, .sl 99 sz r.ys])
  | [], _ => rfl
  | r :: l, h => by
    obtain ⟨e, ys, he, h1, h2, h3⟩ := h r (by simp)
    have ih := purRs_nrow K sz (l := l) fun x hx => h x (by simp [hx])
    rw [h1] at h2
    simp only [List.map_cons, purRs, ih, NRow.row, purR, h2, he, if_true, isLeaf, noref, Bool.and_self, NRow.ys, h1, h3, List.take_length, List.drop_zero]
theorem purRs_nfam (K : Nat → Option AObj) {k e sz : Nat} (he : e < 1000000) {x : List (ByteArray × List (List AV))} (h : ∀ p ∈ nobjs (nfam k e sz x), K p.1 = some p.2) : purRs K ((nfam k e sz x).map NRow.row) = some (x.map fun y => [.str y.1, .sl 99 sz y.2]) := by
  rw [purRs_nrow K sz fun r hr => ?_]
  · congr 1
    refine List.ext_getElem (by simp [nfam]) fun i h1 h2 => ?_
    simp [nfam, NRow.ys]
  · have hk := h (r.o, r.ob) (List.mem_map.2 ⟨r, hr, rfl⟩)
    simp only [nfam, List.mem_mapIdx] at hr
    obtain ⟨i, hi, rfl⟩ := hr
    exact ⟨e, _, he, rfl, hk, rfl⟩
theorem purN_sky {M K : Nat → Option AObj} {s : Sky} {a b c d kA kS : Nat} (hM : ∀ p ∈ skyM s a b c d kA kS, M p.1 = some p.2) (hK : ∀ p ∈ skyM s a b c d kA kS, K p.1 = some p.2) : purN M K (skyV s a b c d) = some (.agg (s.row 99)) := by
  have h1 := hM _ (show (a, AObj.arr 103 0 3 (s.pts.map Pt.row)) ∈ skyM s a b c d kA kS from by simp [skyM])
  have h2 := hM _ (show (b, AObj.arr (1000000 + 108) 0 2 ((fA kA s).map NRow.row)) ∈ skyM s a b c d kA kS from by simp [skyM])
  have h3 := hM _ (show (c, AObj.arr (1000000 + 111) 0 2 ((fS kS s).map NRow.row)) ∈ skyM s a b c d kA kS from by simp [skyM])
  have h4 := hM _ (show (d, AObj.arr 118 0 4 (s.rws.map Rw.row)) ∈ skyM s a b c d kA kS from by simp [skyM])
  simp only at h1 h2 h3 h4
  have hA := purRs_nfam K (k := kA) (e := 9) (sz := 1) (by omega) (x := s.aws.map awP) fun p hp => hK p (by simp only [skyM, List.mem_cons, List.mem_append]; exact .inr (.inr (.inr (.inr (.inl hp)))))
  have hS := purRs_nfam K (k := kS) (e := 113) (sz := 6) (by omega) (x := s.secs.map secP) fun p hp => hK p (by simp only [skyM, List.mem_cons, List.mem_append]; exact .inr (.inr (.inr (.inr (.inr hp)))))
  have t1 : (s.pts.map Pt.row).take s.pts.length = s.pts.map Pt.row := List.take_of_length_le (by simp)
  have t2 : ((fA kA s).map NRow.row).take s.aws.length = (fA kA s).map NRow.row := List.take_of_length_le (by simp [fA, nfam_len])
  have t3 : ((fS kS s).map NRow.row).take s.secs.length = (fS kS s).map NRow.row := List.take_of_length_le (by simp [fS, nfam_len])
  have t4 : (s.rws.map Rw.row).take s.rws.length = s.rws.map Rw.row := List.take_of_length_le (by simp)
  have f1 : purRs K (s.pts.map Pt.row) = some (s.pts.map Pt.row) := purRs_flat K fun r hr => by obtain ⟨x, _, rfl⟩ := List.mem_map.1 hr; rfl
  have f4 : purRs K (s.rws.map Rw.row) = some (s.rws.map Rw.row) := purRs_flat K fun r hr => by obtain ⟨x, _, rfl⟩ := List.mem_map.1 hr; rfl
  simp only [fA, fS] at t2 t3 h2 h3
  simp only [List.map_map] at hA hS
  simp only [skyV, purN, purNL, h1, h2, h3, h4, if_true, List.drop_zero, t1, t2, t3, t4, f1, f4, fA, fS, hA, hS, Option.map_some, Sky.row]
  rfl
theorem sky_self {s : Sky} {a b c d kA kS : Nat} (ha : a < 1000) (hb : b < 1000) (hc : c < 1000) (hd : d < 1000) (hab : b ≠ a) (hac : c ≠ a) (had : d ≠ a) (hbc : c ≠ b) (hbd : d ≠ b) (hcd : d ≠ c) (hA : kA < 1000) (hS : kS < 1000) (hAS : kA ≠ kS) :
    ∀ p ∈ skyM s a b c d kA kS, getM (skyM s a b c d kA kS) p.1 = some p.2 := by
  intro p hp
  simp only [skyM, List.mem_cons, List.mem_append] at hp
  rcases hp with rfl | rfl | rfl | rfl | hp | hp
  · simp [skyM, getM]
  · simp [skyM, getM, hab]
  · simp [skyM, getM, hac, hbc]
  · simp [skyM, getM, had, hbd, hcd]
  · obtain ⟨i, hi, rfl⟩ := nfam_at hp
    simp only [skyM, getM, fam_ne ha, fam_ne hb, fam_ne hc, fam_ne hd, if_false, getM_append, fA, nfam_obj hi, Option.some_or]
  · obtain ⟨i, hi, rfl⟩ := nfam_at hp
    simp only [skyM, getM, fam_ne ha, fam_ne hb, fam_ne hc, fam_ne hd, if_false, getM_append, fA, fS, nfam_none hA hS hAS, nfam_obj hi, Option.none_or]
theorem aKeep {M K : List (Nat × AObj)} (h : ∀ p ∈ K, getM M p.1 = some p.2) : applyU M K = M := by
  induction K with
  | nil => rfl
  | cons p K ih =>
    show setM (applyU M K) p.1 p.2 = M
    rw [ih fun q hq => h q (by simp [hq])]
    have := h p (by simp)
    clear ih h
    induction M with
    | nil => simp [getM] at this
    | cons q M ih =>
      obtain ⟨k, x⟩ := q
      simp only [getM] at this
      simp only [setM]
      split at this
      · rename_i e; cases this; rw [if_pos e]
      · rename_i e; rw [if_neg e, ih this]
theorem tag_rows {α : Type} {f : Nat → α → List AV} {t : Nat} (h : ∀ x, tag0L (f t x) = f 0 x) (l : List α) : tag0LL (l.map (f t)) = l.map (f 0) := by
  rw [tag0LL_map, List.map_map]; exact List.map_congr_left fun x _ => h x
theorem tag_flat {α : Type} {f : α → List AV} (h : ∀ x, tag0L (f x) = f x) (l : List α) : tag0LL (l.map f) = l.map f := by
  rw [tag0LL_map, List.map_map]; exact List.map_congr_left fun x _ => h x
theorem no98_rows {α : Type} {f : α → List AV} (h : ∀ x, no98L (f x) = true) (l : List α) : no98LL (l.map f) = true := by
  induction l with
  | nil => rfl
  | cons x l ih => simp only [List.map_cons, no98LL, h x, ih, Bool.and_self]
theorem tag_sky (t : Nat) (s : Sky) : tag0 (.agg (s.row t)) = .agg (s.row 0) := by
  simp only [Sky.row, tag0, tag0L]
  rw [tag_flat (f := Pt.row) (fun _ => rfl), tag_flat (f := Rw.row) (fun _ => rfl), tag_rows (f := Aw.row) (fun x => by simp only [Aw.row, tag0L, tag0]; rw [tag_flat (f := srow) fun _ => rfl]), tag_rows (f := Sec.row) (fun x => by simp only [Sec.row, tag0L, tag0]; rw [tag_flat (f := Blk.row) fun _ => rfl])]
theorem no98_sky (t : Nat) (ht : t ≠ 98) (s : Sky) : no98 (.agg (s.row t)) = true := by
  simp only [Sky.row, no98, no98L]
  rw [no98_rows (f := Pt.row) (fun _ => rfl), no98_rows (f := Rw.row) (fun _ => rfl), no98_rows (f := Aw.row t) (fun x => by simp only [Aw.row, no98L, no98]; rw [no98_rows (f := srow) fun _ => rfl]; simp [ht]), no98_rows (f := Sec.row t) (fun x => by simp only [Sec.row, no98L, no98]; rw [no98_rows (f := Blk.row) fun _ => rfl]; simp [ht])]
  simp [ht]
/-- A call that only looks at a sky of the function's own. -/
theorem callR_sky {f : FuncId} {s : Sky} {a b c d kA kS : Nat} {rest rest' : List AV} {r : AV} {news : List (Nat × AObj)} {M : Nat → Option AObj} (hC : Contract P f (.agg (s.row 0) :: tag0L rest') [] r news)
    (hM : ∀ p ∈ skyM s a b c d kA kS, M p.1 = some p.2) (hself : ∀ p ∈ skyM s a b c d kA kS, getM (skyM s a b c d kA kS) p.1 = some p.2)
    (hr : purNL M (getM (skyM s a b c d kA kS)) rest = some rest') (h98 : no98L rest' = true) (hp : plainV r = true) (hpo : (news.all fun p => plainO p.2) = true) (hn : ∀ p ∈ news, M p.1 = none) (hrf : refsIn (dom news) r = true)
    (hro : (news.all fun p => refsInO (dom news) p.2) = true) (h9 : No99 r) (h9o : ∀ p ∈ news, No99O p.2) : callR P f (skyV s a b c d :: rest) M r (news ++ skyM s a b c d kA kS) := by
  refine .inr (.inr (.inr ⟨.agg (s.row 99) :: rest', skyM s a b c d kA kS, news, rfl, hM, ?_, ?_, hn, hrf, hro, h9, h9o⟩))
  · simp only [purNL, purN_sky hM hself, hr]
  · refine Contract.tag ?_ ?_ hp hpo
    · simp only [tag0L, tag_sky]; exact hC
    · simp only [no98L, no98_sky 99 (by omega), h98, Bool.and_self]

end
end Go.Ve

namespace Go.Ve
noncomputable section
open Go.Proofs
set_option linter.unusedSimpArgs false
set_option linter.unusedVariables false
set_option maxRecDepth 100000
def Zone.over (z : Zone) (x y : Int) : Prop := (z.x0 ≤ x ∧ x ≤ z.x1) ∧ (z.y0 ≤ y ∧ y ≤ z.y1)
noncomputable instance (z : Zone) (x y : Int) : Decidable (z.over x y) := Classical.propDecidable _
end
end Go.Ve

namespace Go.Ve
noncomputable section
open Go.Proofs
set_option linter.unusedSimpArgs false
set_option linter.unusedVariables false
set_option maxRecDepth 100000
def zoneOf (c : Sec) : Zone := ⟨c.nm, (c.bl.getD 0 default).x0, (c.bl.getD 0 default).y0, (c.bl.getD 0 default).x1, (c.bl.getD 0 default).y1⟩
def secOne (lv : Int) (c : Sec) : Prop := c.bl.length = 1 ∧ (c.bl.getD 0 default).lo = 1 ∧ (c.bl.getD 0 default).hi = lv
def lzOk (s : Sky) : Prop := (∀ i, i < s.secs.length → secOne s.lv (s.secs.getD i default)) ∧ zonesOk (s.secs.map zoneOf)
noncomputable instance (s : Sky) : Decidable (lzOk s) := Classical.propDecidable _
def lzV (s : Sky) : Prop := s.valid ∧ lzOk s
noncomputable instance (s : Sky) : Decidable (lzV s) := Classical.propDecidable _
end
end Go.Ve

namespace Go.Ve
noncomputable section
open Go.Proofs
set_option linter.unusedSimpArgs false
set_option linter.unusedVariables false
set_option maxRecDepth 100000
end
end Go.Ve

namespace Go.Ve
noncomputable section
open Go.Proofs
set_option linter.unusedSimpArgs false
set_option linter.unusedVariables false
set_option maxRecDepth 100000
theorem Contract.post_eq {f : FuncId} {args : List AV} {pre post post' : List (Nat × AObj)} {r : AV} (h : Contract P f args pre r post) (e : getM post' = getM post) : Contract P f args pre r post' := by
  unfold Contract at h ⊢
  rw [e]; exact h
theorem skyM_ren {s : Sky} {a b c d kA kS kA' kS' : Nat} {σ : Nat → Nat} (hA : ∀ i, σ (fam kA i) = fam kA' i) (hS : ∀ i, σ (fam kS i) = fam kS' i) : renM σ (skyM s a b c d kA kS) = skyM s (σ a) (σ b) (σ c) (σ d) kA' kS' := by
  have eA : (fA kA s).map (NRow.ren σ) = fA kA' s := by
    refine List.ext_getElem (by simp [fA, nfam]) fun i h1 h2 => ?_
    simp [fA, nfam, NRow.ren, hA, renO]
  have eS : (fS kS s).map (NRow.ren σ) = fS kS' s := by
    refine List.ext_getElem (by simp [fS, nfam]) fun i h1 h2 => ?_
    simp [fS, nfam, NRow.ren, hS, renO]
  simp only [skyM, renM, renO, renM_app, renM_nobjs, eA, eS, renRows]
  rfl
theorem skyV_ren {s : Sky} {a b c d : Nat} {σ : Nat → Nat} : ren σ (skyV s a b c d) = skyV s (σ a) (σ b) (σ c) (σ d) := by simp only [skyV, ren, renL]
/-- The sky that the law holds. -/
abbrev K0 (s : Sky) : List (Nat × AObj) := skyM s 611 613 614 612 107 108
theorem K0_self (s : Sky) : ∀ p ∈ K0 s, getM (K0 s) p.1 = some p.2 := sky_self (by omega) (by omega) (by omega) (by omega) (by omega) (by omega) (by omega) (by omega) (by omega) (by omega) (by omega) (by omega) (by omega)
theorem K0_keys (s : Sky) : ∀ p ∈ K0 s, p.1 = 611 ∨ p.1 = 613 ∨ p.1 = 614 ∨ p.1 = 612 ∨ 1000 ≤ p.1 := by
  intro p hp
  simp only [K0, skyM, List.mem_cons, List.mem_append] at hp
  rcases hp with rfl | rfl | rfl | rfl | hp | hp
  · simp
  · simp
  · simp
  · simp
  · exact .inr (.inr (.inr (.inr (bigs_nfam p hp))))
  · exact .inr (.inr (.inr (.inr (bigs_nfam p hp))))
theorem K0_pw (s : Sky) : (K0 s).Pairwise fun a b => a.1 ≠ b.1 := by
  have big : ∀ p ∈ nobjs (fA 107 s) ++ nobjs (fS 108 s), 1000 ≤ p.1 := fun p hp => (List.mem_append.1 hp).elim (bigs_nfam p) (bigs_nfam p)
  simp only [K0, skyM, List.pairwise_cons, List.mem_cons]
  refine ⟨?_, ?_, ?_, ?_, ?_⟩
  · rintro p (rfl | rfl | rfl | hp)
    · simp
    · simp
    · simp
    · have := big p hp; (try simp only); omega
  · rintro p (rfl | rfl | hp)
    · simp
    · simp
    · have := big p hp; (try simp only); omega
  · rintro p (rfl | hp)
    · simp
    · have := big p hp; (try simp only); omega
  · rintro p hp
    have := big p hp; (try simp only); omega
  · rw [List.pairwise_append]
    refine ⟨nfam_pw, nfam_pw, fun p hp q hq e => ?_⟩
    obtain ⟨i, _, rfl⟩ := nfam_at hp
    obtain ⟨j, _, rfl⟩ := nfam_at hq
    simp only [fam] at e; omega
theorem gSky {s : Sky} {B : List (Nat × AObj)} {o : Nat} (h : o < 611) : getM (K0 s ++ B) o = getM B o := getM_app_none (by
  cases hg : getM (K0 s) o with
  | none => rfl
  | some x => have := K0_keys s _ (getM_mem hg); simp only at this; omega)
theorem gSky' {s : Sky} {B : List (Nat × AObj)} {o : Nat} (h : 614 < o) (h2 : o < 1000) : getM (K0 s ++ B) o = getM B o := getM_app_none (by
  cases hg : getM (K0 s) o with
  | none => rfl
  | some x => have := K0_keys s _ (getM_mem hg); simp only at this; omega)
theorem sSky {s : Sky} {B : List (Nat × AObj)} {o : Nat} {x : AObj} (h : o < 611) : setM (K0 s ++ B) o x = K0 s ++ setM B o x := setM_app (by have := gSky (s := s) (B := []) h; simpa [getM] using this)
theorem sSky' {s : Sky} {B : List (Nat × AObj)} {o : Nat} {x : AObj} (h : 614 < o) (h2 : o < 1000) : setM (K0 s ++ B) o x = K0 s ++ setM B o x := setM_app (by have := gSky' (s := s) (B := []) h h2; simpa [getM] using this)
theorem getM_gone_none {l : List (Nat × AObj)} {o : Nat} (h : getM l o = none) : getM (gone l) o = none := by rw [getM_gone, h]; rfl
theorem gG {s : Sky} {B : List (Nat × AObj)} {o : Nat} (h : o < 611) : getM (gone (K0 s) ++ B) o = getM B o := getM_app_none (getM_gone_none (by have := gSky (s := s) (B := []) h; simpa [getM] using this))
theorem gG' {s : Sky} {B : List (Nat × AObj)} {o : Nat} (h : 614 < o) (h2 : o < 1000) : getM (gone (K0 s) ++ B) o = getM B o := getM_app_none (getM_gone_none (by have := gSky' (s := s) (B := []) h h2; simpa [getM] using this))
theorem sG {s : Sky} {B : List (Nat × AObj)} {o : Nat} {x : AObj} (h : o < 611) : setM (gone (K0 s) ++ B) o x = gone (K0 s) ++ setM B o x := setM_app (by have := gG (s := s) (B := []) h; simpa [getM] using this)
theorem sG' {s : Sky} {B : List (Nat × AObj)} {o : Nat} {x : AObj} (h : 614 < o) (h2 : o < 1000) : setM (gone (K0 s) ++ B) o x = gone (K0 s) ++ setM B o x := setM_app (by have := gG' (s := s) (B := []) h h2; simpa [getM] using this)
theorem sSky0 {s : Sky} {o : Nat} {x : AObj} (h : o < 611) : setM (K0 s) o x = K0 s ++ [(o, x)] := by
  have := sSky (s := s) (B := []) (x := x) h
  simpa [setM] using this
theorem gSky0 {s : Sky} {o : Nat} (h : o < 611) : getM (K0 s) o = none := by
  have := gSky (s := s) (B := []) h
  simpa [getM] using this
theorem gs1 {s : Sky} {B : List (Nat × AObj)} : getM (K0 s ++ B) 611 = some (.arr 103 0 3 (s.pts.map Pt.row)) := rfl
theorem gs2 {s : Sky} {B : List (Nat × AObj)} : getM (K0 s ++ B) 613 = some (.arr (1000000 + 108) 0 2 ((fA 107 s).map NRow.row)) := rfl
theorem gs3 {s : Sky} {B : List (Nat × AObj)} : getM (K0 s ++ B) 614 = some (.arr (1000000 + 111) 0 2 ((fS 108 s).map NRow.row)) := rfl
theorem gs4 {s : Sky} {B : List (Nat × AObj)} : getM (K0 s ++ B) 612 = some (.arr 118 0 4 (s.rws.map Rw.row)) := rfl
theorem K0_in {s : Sky} {A B : List (Nat × AObj)} (hA : ∀ p ∈ A, p.1 < 611) : ∀ p ∈ K0 s, getM (A ++ (K0 s ++ B)) p.1 = some p.2 := fun p hp => by
  rw [getM_app_none, getM_app_some (K0_self s p hp)]
  cases hg : getM A p.1 with
  | none => rfl
  | some x => have := hA _ (getM_mem hg); have := K0_keys s p hp; simp only at *; omega
theorem K0_in1 {s : Sky} {o : Nat} {x : AObj} {B : List (Nat × AObj)} (ho : o < 611) : ∀ p ∈ K0 s, getM ((o, x) :: (K0 s ++ B)) p.1 = some p.2 := K0_in (A := [(o, x)]) (by simpa using ho)
theorem apNew {s : Sky} {A : List (Nat × AObj)} (hA : ∀ p ∈ A, p.1 < 611) : applyU A (K0 s).reverse = A ++ (K0 s ++ []) := by
  rw [aU, List.reverse_reverse, List.append_nil]
  · intro p hp
    cases hg : getM A p.1 with
    | none => rfl
    | some x => have := hA _ (getM_mem hg); have := K0_keys s p (List.mem_reverse.1 hp); simp only at *; omega
  · rw [List.pairwise_reverse]
    exact (K0_pw s).imp fun h => Ne.symm h
theorem apGone {s : Sky} {A B : List (Nat × AObj)} (hA : ∀ p ∈ A, p.1 < 611) : applyU (A ++ (K0 s ++ B)) (gone (K0 s)) = A ++ (gone (K0 s) ++ B) := by
  rw [aSkip, aOver (K0_pw s)]
  intro p hp
  obtain ⟨q, hq, rfl⟩ := List.mem_map.1 hp
  cases hg : getM A q.1 with
  | none => rfl
  | some x => have := hA _ (getM_mem hg); have := K0_keys s q hq; simp only at *; omega
theorem kG {s : Sky} {B : List (Nat × AObj)} : keepB (gone (K0 s) ++ B) [] = keepB B [] := by
  have h : keepB (gone (K0 s)) [] = true := keep_of fun p hp => by
    obtain ⟨q, hq, rfl⟩ := List.mem_map.1 hp
    left
    simp only [K0, skyM, List.mem_cons, List.mem_append] at hq
    rcases hq with rfl | rfl | rfl | rfl | hq | hq
    · simp
    · simp
    · simp
    · simp
    · exact big100_nfam (by omega) (by omega) q hq
    · exact big100_nfam (by omega) (by omega) q hq
  unfold keepB at h ⊢
  rw [dom_app, List.all_append, h, Bool.true_and]
theorem apK1 {s : Sky} {o : Nat} {x : AObj} {B : List (Nat × AObj)} (ho : o < 611) : applyU ((o, x) :: (K0 s ++ B)) (K0 s) = (o, x) :: (K0 s ++ B) := aKeep (K0_in1 ho)
theorem apNew1 {s : Sky} {o : Nat} {x : AObj} (ho : o < 611) : applyU [(o, x)] (K0 s).reverse = (o, x) :: (K0 s ++ []) := apNew (A := [(o, x)]) (by simpa using ho)
theorem apG1 {s : Sky} {o : Nat} {x : AObj} {B : List (Nat × AObj)} (ho : o < 611) : applyU ((o, x) :: (K0 s ++ B)) (gone (K0 s)) = (o, x) :: (gone (K0 s) ++ B) := apGone (A := [(o, x)]) (by simpa using ho)
theorem K0r_new {s : Sky} {A : List (Nat × AObj)} (hA : ∀ p ∈ A, p.1 < 611) : ∀ p ∈ (K0 s).reverse, getM A p.1 = none := by
  intro p hp
  cases hg : getM A p.1 with
  | none => rfl
  | some x => have := hA _ (getM_mem hg); have := K0_keys s p (List.mem_reverse.1 hp); simp only at *; omega
theorem dom_rev {l : List (Nat × AObj)} : dom l.reverse = (dom l).reverse := by simp [dom]
theorem K0r_refV {s : Sky} : refsIn (dom (K0 s).reverse) (skyV s 611 613 614 612) = true := by
  rw [dom_rev, K0, sky_dom]; simp [skyV, refsIn, refsInL]
theorem K0r_refs {s : Sky} : ((K0 s).reverse.all fun p => refsInO (dom (K0 s).reverse) p.2) = true := by
  rw [List.all_reverse, dom_rev, K0, sky_dom]
  simp only [skyM, List.all_cons, List.all_append, Bool.and_eq_true]
  refine ⟨rfl, ?_, ?_, rfl, refsO_nfam (by omega), refsO_nfam (by omega)⟩
  · simp only [refsInO]
    rw [if_neg (by omega)]
    refine refs_rows fun r hr => ?_
    simp only [List.contains_iff_mem, List.mem_reverse, List.mem_cons, List.mem_append, List.mem_map]
    exact .inr (.inr (.inr (.inr (.inl ⟨r, hr, rfl⟩))))
  · simp only [refsInO]
    rw [if_neg (by omega)]
    refine refs_rows fun r hr => ?_
    simp only [List.contains_iff_mem, List.mem_reverse, List.mem_cons, List.mem_append, List.mem_map]
    exact .inr (.inr (.inr (.inr (.inr ⟨r, hr, rfl⟩))))
theorem K0_99 {s : Sky} : ∀ p ∈ (K0 s).reverse, No99O p.2 := by
  intro p hp
  have hp := List.mem_reverse.1 hp
  simp only [K0, skyM, List.mem_cons, List.mem_append] at hp
  rcases hp with rfl | rfl | rfl | rfl | hp | hp
  · exact no99_Pt _
  · exact no99_NRow _
  · exact no99_NRow _
  · exact no99_Rw _
  · exact awP_99 s p _ hp
  · exact secP_99 s p _ hp
theorem K0_ref2 {s : Sky} {k : Int} : refsInL (dom (K0 s)) [skyV s 611 613 614 612, .int .i64 k] = true := by
  simp only [refsInL, sky_refV, refsIn, Bool.and_self]
theorem purN_flat {M K : Nat → Option AObj} {o e v sz n : Nat} {rows : List (List AV)} (hM : M o = some (.arr e v sz rows)) (hf : ∀ r ∈ rows, flatOk r = true) (hn : n = rows.length) : purN M K (.own o v 0 n) = some (.sl 99 sz rows) := by
  simp only [purN, hM, if_true, hn, List.take_length, List.drop_zero, purRs_flat K hf, Option.map_some]
theorem purNL_one {M K : Nat → Option AObj} {x y : AV} (h : purN M K x = some y) : purNL M K [x] = some [y] := by simp only [purNL, h]
theorem toSkyK (s : Sky) (hs : s.small) : Contract P 14 [.agg (s.row 1)] [] (skyV s 611 613 614 612) (K0 s).reverse :=
  (c_toSkyO s hs).post_eq (funext fun o => getM_rev (K0_pw s) o)
theorem markSkyK (k : Int) (s : Sky) (hs : s.small) (hk : 0 ≤ k ∧ k ≤ 1000000) : Contract P 27 [skyV s 611 613 614 612, .int .i64 k] (K0 s) (.int .i64 (k + cntSky s)) (gone (K0 s)) := by
  have h := ((((((g_markSky k s hs hk).ren (swp 3 611) (swp_swp _ _)).ren (swp 4 613) (swp_swp _ _)).ren (swp 5 614) (swp_swp _ _)).ren (swp 6 612) (swp_swp _ _)).ren (swpF 7 107) (swpF_swpF (by omega) (by omega))).ren (swpF 8 108) (swpF_swpF (by omega) (by omega))
  simp only [renM_gone, renL, skyV_ren, ren] at h
  rw [skyM_ren (kA' := 7) (kS' := 8) (fun i => swp_fam (by omega) (by omega)) (fun i => swp_fam (by omega) (by omega)),
    skyM_ren (kA' := 7) (kS' := 8) (fun i => swp_fam (by omega) (by omega)) (fun i => swp_fam (by omega) (by omega)),
    skyM_ren (kA' := 7) (kS' := 8) (fun i => swp_fam (by omega) (by omega)) (fun i => swp_fam (by omega) (by omega)),
    skyM_ren (kA' := 7) (kS' := 8) (fun i => swp_fam (by omega) (by omega)) (fun i => swp_fam (by omega) (by omega)),
    skyM_ren (kA' := 107) (kS' := 8) (fun i => swpF_fam (by omega)) (fun i => swpF_ne (by omega) (by omega) (by omega)),
    skyM_ren (kA' := 107) (kS' := 108) (fun i => swpF_ne (by omega) (by omega) (by omega)) (fun i => swpF_fam (by omega))] at h
  exact h
theorem eqSkyC (s : Sky) (hs : s.small) : Contract P 16 [.agg (s.row 0), .agg (s.row 0)] [] (.bool true) [] := by
  have h := c_eqSky s s (by have := hs; unfold Sky.small at this; exact ⟨by omega, by omega, by omega, by omega, this.2.1.2, this.2.2.1.2⟩)
  simpa using h
end
end Go.Ve

namespace Go.Ve
noncomputable section
open Go.Proofs
set_option linter.unusedSimpArgs false
set_option linter.unusedVariables false
set_option maxRecDepth 100000
theorem c_szStringS (t : Nat) (l : List ByteArray) (a : Int) (ha : 0 ≤ a ∧ a ≤ 1048576) (hl : l.length ≤ 9223372036854775807 ∧ ∀ y ∈ l, y.toList.length ≤ 9223372036854775807) : Contract P 39 [.sl t 1 (l.map srow), .int .i64 a] [] (.int .i64 (szS szStr l a)) [] := by
  refine fn_sound (Env.nil P) hm k_laws_szStringS (Nat.le_of_ble_eq_true rfl) rfl ?_; unfold s_laws_szStringS; simp (config := { maxSteps := 2000000 }) only [bitvec_to_nat, reduceIte, Nat.reduceEqDiff, Nat.reduceAdd, Nat.reduceLeDiff, reduceCtorEq, Nat.reduceBEq, Nat.reduceLT, Nat.reduceMod, List.forall_mem_cons, srow, un_s, List.take_zero, List.foldl_nil]
  have hz : szOf a l.length = if a - l.length < 0 then -1 else a - l.length := rfl
  refine ⟨by omega, fun h1 => ?_, fun h1 => ?_⟩
  · unfold szS
    rw [(fold_meas meas_str l _ (by omega) (by omega)).2.1 (by omega)]
  have e0 : szOf a l.length = a - l.length := if_neg h1
  refine loop_st (fun i : Nat => [(1, .int .i64 ((l.take i).foldl (fun a x => szStr x a) (a - l.length))), (5, .int .i64 i)]) (fun _ => []) (fun i => i ≤ l.length ∧ 0 ≤ (l.take i).foldl (fun a x => szStr x a) (a - l.length)) (fun i => l.length - i) (0) (by simp only [u_E0, u_E1, u_M0, u_M1, w_setE0, w_setE1, w_setM0, w_setM1, reduceIte, Nat.reduceEqDiff]; exact ⟨by repeat' (first | exact trivial | refine ⟨.inr rfl, ?_⟩), by repeat' (first | exact trivial | refine ⟨rfl, ?_⟩), by first | rfl | simp [closedB, refsIn, refsInL, refsInO, dom, refsInL_nr, *], by first | rfl | simp [keepB, dom]⟩) ?_ ?_
  · simp only [List.take_zero, List.foldl_nil]; omega
  intro i hi NX hN
  unfold l_laws_szStringS_0; simp (config := { maxSteps := 2000000 }) only [bitvec_to_nat, reduceIte, Nat.reduceEqDiff, Nat.reduceAdd, Nat.reduceLeDiff, reduceCtorEq, Nat.reduceBEq, Nat.reduceLT, Nat.reduceMod, List.forall_mem_cons, srow, un_s, List.take_zero, List.foldl_nil]
  have hm := (fold_meas meas_str (l.take i) (a - l.length) (by omega) (by omega)).2.2
  have hg : i < l.length → (l.getD i default).toList.length ≤ 9223372036854775807 := fun h => hl.2 _ (getD_mem' h)
  have hn : i < l.length → (l.take (i + 1)).foldl (fun a x => szStr x a) (a - l.length) = szStr (l.getD i default) ((l.take i).foldl (fun a x => szStr x a) (a - l.length)) := fun h => fold_take h
  have hs : i < l.length → szStr (l.getD i default) ((l.take i).foldl (fun a x => szStr x a) (a - l.length)) < 0 → szS szStr l a = -1 := fun h h2 => by unfold szS; rw [e0]; exact fold_stop meas_str h (by omega) (by omega) h2
  have hd : szStr (l.getD i default) ((l.take i).foldl (fun a x => szStr x a) (a - l.length)) = if ((l.take i).foldl (fun a x => szStr x a) (a - l.length)) - ((l.getD i default).toList.length : Nat) < 0 then -1 else ((l.take i).foldl (fun a x => szStr x a) (a - l.length)) - ((l.getD i default).toList.length : Nat) := rfl
  refine ⟨fun h2 => ⟨by omega, by omega, by omega, fun h3 => by rw [hs (by omega) (by omega)], fun h3 => ⟨by omega, ?_⟩⟩, fun h2 => ?_⟩
  · have e := hn (by omega)
    rw [hd, if_neg h3] at e
    refine hN (i + 1) _ (by simp only [e, List.length_append, List.length_cons, List.length_nil, Nat.zero_add, List.map_append, List.map_cons, List.map_nil, u_E0, u_E1, u_M0, u_M1, w_setE0, w_setE1, w_setM0, w_setM1, reduceIte, Nat.reduceEqDiff]; exact ⟨by repeat' (first | exact trivial | refine ⟨.inr rfl, ?_⟩), by repeat' (first | exact trivial | refine ⟨rfl, ?_⟩), by first | rfl | simp [closedB, refsIn, refsInL, refsInO, dom, refsInL_nr, *], by first | rfl | simp [keepB, dom]⟩) ?_ ?_
    · exact ⟨by omega, by omega⟩
    · omega
  · have e : i = l.length := by omega
    subst e
    simp only [List.take_length]; unfold szS; rw [e0]
def t_szStringS : List AV → Option (Prop × AV)
  | [.sl lt 1 lx, .int .i64 b] => some ((((lx.map unS).map srow = lx)) ∧ ((0 ≤ b ∧ b ≤ 1048576) ∧ ((lx.map unS).length ≤ 9223372036854775807 ∧ ∀ y ∈ (lx.map unS), y.toList.length ≤ 9223372036854775807)), .int .i64 (szS szStr (lx.map unS) b))
  | _ => none
theorem h_szStringS : ∀ args p v, t_szStringS args = some (p, v) → p → Contract P 39 args [] v [] ∧ noref v = true ∧ No99 v := by
  intro args p v h1 h2
  unfold t_szStringS at h1
  split at h1
  · rename_i lt lx b
    cases h1
    obtain ⟨e0, HP⟩ := h2
    have := c_szStringS lt (lx.map unS) b HP.1 HP.2
    exact ⟨by simpa only [e0] using this, rfl, trivial⟩
  · cases h1
theorem c_szBlkS (t sz : Nat) (xs : List (List AV)) (a : Int) (hp : (0 ≤ a ∧ a ≤ 1048576) ∧ xs.length ≤ 9223372036854775807) : Contract P 157 [.sl t sz xs, .int .i64 a] [] (.int .i64 (szOf a xs.length)) [] := by
  refine fn_sound (Env.nil P) hm k_laws_szSkyBlockS (Nat.le_of_ble_eq_true rfl) rfl ?_; unfold s_laws_szSkyBlockS; simp (config := { maxSteps := 2000000 }) only [bitvec_to_nat, reduceIte, Nat.reduceEqDiff, Nat.reduceAdd, Nat.reduceLeDiff, reduceCtorEq, Nat.reduceBEq, Nat.reduceLT, Nat.reduceMod, List.forall_mem_cons]
  refine ⟨by omega, fun h1 => ?_, fun h1 => ?_⟩
  · unfold szOf; rw [if_pos h1]
  · unfold szOf; rw [if_neg h1]
def t_szBlkS : List AV → Option (Prop × AV)
  | [.sl t sz xs, .int .i64 a] => some ((0 ≤ a ∧ a ≤ 1048576) ∧ xs.length ≤ 9223372036854775807, .int .i64 (szOf a xs.length))
  | _ => none
theorem h_szBlkS : ∀ args p v, t_szBlkS args = some (p, v) → p → Contract P 157 args [] v [] ∧ noref v = true ∧ No99 v := by
  intro args p v h1 h2
  unfold t_szBlkS at h1
  split at h1
  · cases h1; exact ⟨c_szBlkS _ _ _ _ h2, rfl, trivial⟩
  · cases h1
theorem c_szPt (s : Pt) (a : Int) (ha : 0 ≤ a ∧ a ≤ 1048576) (hs : s.fitp) : Contract P 118 [.agg s.row, .int .i64 a] [] (.int .i64 (s.sz a)) [] := by
  unfold Pt.fitp at hs
  simp only [Pt.row]
  refine fn_sound (Env.nil P) hm k_laws_szSkyPoint (Nat.le_of_ble_eq_true rfl) rfl ?_; unfold s_laws_szSkyPoint; simp (config := { maxSteps := 2000000 }) only [bitvec_to_nat, reduceIte, Nat.reduceEqDiff, Nat.reduceAdd, Nat.reduceLeDiff, reduceCtorEq, Nat.reduceBEq, Nat.reduceLT, Nat.reduceMod, List.forall_mem_cons, tk_map, dp_map, toNat_pred, appE, rowsOf, List.take_length, List.length_cons, List.length_nil, Nat.zero_add, srow, irow, un_s, un_i, Pt.row, Pt_eta, Aw.row, Aw_eta, Blk.row, Blk_eta, Sec.row, Sec_eta, Rw.row, Rw_eta, Sky.row, Sky_eta, un_Pt, un_Aw, un_Blk, un_Sec, un_Rw, un_Sky]
  unfold Pt.sz
  repeat' (first | with_reducible apply And.intro | with_reducible intro _)
  all_goals first | omega | (exact hs) | (exact hs.1) | (exact hs.2.1) | (exact hs.2.2) | (exact hs.2.2.1) | (exact hs.2.2.2) | (exact hs.2.2.2.1) | (exact hs.2.2.2.2) | (exact hs.1.1) | (exact hs.1.2) | (exact hs.2.1.1) | (exact hs.2.1.2) | (unfold chk; grind) | grind
def t_szPt : List AV → Option (Prop × AV)
  | [.agg [.str s_nm, .int .i64 s_x, .int .i64 s_y], .int .i64 b] => some ((True) ∧ ((0 ≤ b ∧ b ≤ 1048576) ∧ (Pt.fitp (Pt.mk s_nm s_x s_y))), .int .i64 (Pt.sz (Pt.mk s_nm s_x s_y) b))
  | _ => none
theorem h_szPt : ∀ args p v, t_szPt args = some (p, v) → p → Contract P 118 args [] v [] ∧ noref v = true ∧ No99 v := by
  intro args p v h1 h2
  unfold t_szPt at h1
  split at h1
  · rename_i s_nm s_x s_y b
    cases h1
    obtain ⟨_, HP⟩ := h2
    have := c_szPt (Pt.mk s_nm s_x s_y) b HP.1 HP.2
    exact ⟨by simpa only [Pt.row] using this, rfl, trivial⟩
  · cases h1
theorem c_szPtS (t : Nat) (l : List Pt) (a : Int) (ha : 0 ≤ a ∧ a ≤ 1048576) (hl : l.length ≤ 9223372036854775807 ∧ ∀ y ∈ l, y.fitp) : Contract P 60 [.sl t 3 (l.map Pt.row), .int .i64 a] [] (.int .i64 (szS Pt.sz l a)) [] := by
  refine fn_sound ((Env.nil P).add 118 t_szPt h_szPt) hm k_laws_szSkyPointS (Nat.le_of_ble_eq_true rfl) rfl ?_; unfold s_laws_szSkyPointS; simp (config := { maxSteps := 2000000 }) only [bitvec_to_nat, reduceIte, Nat.reduceEqDiff, Nat.reduceAdd, Nat.reduceLeDiff, reduceCtorEq, Nat.reduceBEq, Nat.reduceLT, Nat.reduceMod, List.forall_mem_cons, t_szPt, tk_map, dp_map, toNat_pred, appE, rowsOf, List.take_length, List.length_cons, List.length_nil, Nat.zero_add, srow, irow, un_s, un_i, Pt.row, Pt_eta, Aw.row, Aw_eta, Blk.row, Blk_eta, Sec.row, Sec_eta, Rw.row, Rw_eta, Sky.row, Sky_eta, un_Pt, un_Aw, un_Blk, un_Sec, un_Rw, un_Sky, List.take_zero, List.foldl_nil]
  have hz : szOf a l.length = if a - l.length < 0 then -1 else a - l.length := rfl
  refine ⟨by omega, fun h1 => ?_, fun h1 => ?_⟩
  · unfold szS
    rw [(fold_meas meas_Pt l _ (by omega) (by omega)).2.1 (by omega)]
  have e0 : szOf a l.length = a - l.length := if_neg h1
  refine loop_st (fun i : Nat => [(1, .int .i64 ((l.take i).foldl (fun a x => x.sz a) (a - l.length))), (5, .int .i64 i)]) (fun _ => []) (fun i => i ≤ l.length ∧ 0 ≤ (l.take i).foldl (fun a x => x.sz a) (a - l.length)) (fun i => l.length - i) (0) (by simp only [u_E0, u_E1, u_M0, u_M1, w_setE0, w_setE1, w_setM0, w_setM1, reduceIte, Nat.reduceEqDiff]; exact ⟨by repeat' (first | exact trivial | refine ⟨.inr rfl, ?_⟩), by repeat' (first | exact trivial | refine ⟨rfl, ?_⟩), by first | rfl | simp [closedB, refsIn, refsInL, refsInO, dom, refsInL_nr, *], by first | rfl | simp [keepB, dom]⟩) ?_ ?_
  · simp only [List.take_zero, List.foldl_nil]; omega
  intro i hi NX hN
  have hm := (fold_meas meas_Pt (l.take i) (a - l.length) (by omega) (by omega)).2.2
  have hg : i < l.length → (l.getD i default).fitp := fun h => hl.2 _ (getD_mem' h)
  have hn : i < l.length → (l.take (i + 1)).foldl (fun a x => x.sz a) (a - l.length) = (l.getD i default).sz ((l.take i).foldl (fun a x => x.sz a) (a - l.length)) := fun h => fold_take (f := Pt.sz) h
  have hs : i < l.length → (l.getD i default).sz ((l.take i).foldl (fun a x => x.sz a) (a - l.length)) < 0 → szS Pt.sz l a = -1 := fun h h2 => by unfold szS; rw [e0]; exact fold_stop meas_Pt h (by omega) (by omega) h2
  unfold l_laws_szSkyPointS_0; simp (config := { maxSteps := 2000000 }) only [bitvec_to_nat, reduceIte, Nat.reduceEqDiff, Nat.reduceAdd, Nat.reduceLeDiff, reduceCtorEq, Nat.reduceBEq, Nat.reduceLT, Nat.reduceMod, List.forall_mem_cons, t_szPt, tk_map, dp_map, toNat_pred, appE, rowsOf, List.take_length, List.length_cons, List.length_nil, Nat.zero_add, srow, irow, un_s, un_i, Pt.row, Pt_eta, Aw.row, Aw_eta, Blk.row, Blk_eta, Sec.row, Sec_eta, Rw.row, Rw_eta, Sky.row, Sky_eta, un_Pt, un_Aw, un_Blk, un_Sec, un_Rw, un_Sky, List.take_zero, List.foldl_nil]
  refine ⟨fun h2 => ⟨by omega, by omega, ⟨⟨by omega, by omega⟩, hg (by omega)⟩, fun h3 => by rw [hs (by omega) h3], fun h3 => ⟨by omega, ?_⟩⟩, fun h2 => ?_⟩
  · have e := hn (by omega)
    refine hN (i + 1) _ (by simp only [e, List.length_append, List.length_cons, List.length_nil, Nat.zero_add, List.map_append, List.map_cons, List.map_nil, u_E0, u_E1, u_M0, u_M1, w_setE0, w_setE1, w_setM0, w_setM1, reduceIte, Nat.reduceEqDiff]; exact ⟨by repeat' (first | exact trivial | refine ⟨.inr rfl, ?_⟩), by repeat' (first | exact trivial | refine ⟨rfl, ?_⟩), by first | rfl | simp [closedB, refsIn, refsInL, refsInO, dom, refsInL_nr, *], by first | rfl | simp [keepB, dom]⟩) ?_ ?_
    · exact ⟨by omega, by rw [e]; omega⟩
    · omega
  · have e : i = l.length := by omega
    subst e
    simp only [List.take_length]; unfold szS; rw [e0]
def t_szPtS : List AV → Option (Prop × AV)
  | [.sl lt 3 lx, .int .i64 b] => some ((((lx.map unPt).map Pt.row = lx)) ∧ ((0 ≤ b ∧ b ≤ 1048576) ∧ ((lx.map unPt).length ≤ 9223372036854775807 ∧ ∀ y ∈ (lx.map unPt), Pt.fitp y)), .int .i64 (szS Pt.sz (lx.map unPt) b))
  | _ => none
theorem h_szPtS : ∀ args p v, t_szPtS args = some (p, v) → p → Contract P 60 args [] v [] ∧ noref v = true ∧ No99 v := by
  intro args p v h1 h2
  unfold t_szPtS at h1
  split at h1
  · rename_i lt lx b
    cases h1
    obtain ⟨e0, HP⟩ := h2
    have := c_szPtS lt (lx.map unPt) b HP.1 HP.2
    exact ⟨by simpa only [e0] using this, rfl, trivial⟩
  · cases h1
theorem c_szRw (s : Rw) (a : Int) (ha : 0 ≤ a ∧ a ≤ 1048576) (hs : s.fitp) : Contract P 121 [.agg s.row, .int .i64 a] [] (.int .i64 (s.sz a)) [] := by
  unfold Rw.fitp at hs
  simp only [Rw.row]
  refine fn_sound (Env.nil P) hm k_laws_szSkyRunway (Nat.le_of_ble_eq_true rfl) rfl ?_; unfold s_laws_szSkyRunway; simp (config := { maxSteps := 2000000 }) only [bitvec_to_nat, reduceIte, Nat.reduceEqDiff, Nat.reduceAdd, Nat.reduceLeDiff, reduceCtorEq, Nat.reduceBEq, Nat.reduceLT, Nat.reduceMod, List.forall_mem_cons, tk_map, dp_map, toNat_pred, appE, rowsOf, List.take_length, List.length_cons, List.length_nil, Nat.zero_add, srow, irow, un_s, un_i, Pt.row, Pt_eta, Aw.row, Aw_eta, Blk.row, Blk_eta, Sec.row, Sec_eta, Rw.row, Rw_eta, Sky.row, Sky_eta, un_Pt, un_Aw, un_Blk, un_Sec, un_Rw, un_Sky]
  unfold Rw.sz
  repeat' (first | with_reducible apply And.intro | with_reducible intro _)
  all_goals first | omega | (exact hs) | (exact hs.1) | (exact hs.2.1) | (exact hs.2.2) | (exact hs.2.2.1) | (exact hs.2.2.2) | (exact hs.2.2.2.1) | (exact hs.2.2.2.2) | (exact hs.1.1) | (exact hs.1.2) | (exact hs.2.1.1) | (exact hs.2.1.2) | (unfold chk; grind) | grind
def t_szRw : List AV → Option (Prop × AV)
  | [.agg [.str s_nm, .int .i64 s_x, .int .i64 s_y, .int .i64 s_tn], .int .i64 b] => some ((True) ∧ ((0 ≤ b ∧ b ≤ 1048576) ∧ (Rw.fitp (Rw.mk s_nm s_x s_y s_tn))), .int .i64 (Rw.sz (Rw.mk s_nm s_x s_y s_tn) b))
  | _ => none
theorem h_szRw : ∀ args p v, t_szRw args = some (p, v) → p → Contract P 121 args [] v [] ∧ noref v = true ∧ No99 v := by
  intro args p v h1 h2
  unfold t_szRw at h1
  split at h1
  · rename_i s_nm s_x s_y s_tn b
    cases h1
    obtain ⟨_, HP⟩ := h2
    have := c_szRw (Rw.mk s_nm s_x s_y s_tn) b HP.1 HP.2
    exact ⟨by simpa only [Rw.row] using this, rfl, trivial⟩
  · cases h1
theorem c_szRwS (t : Nat) (l : List Rw) (a : Int) (ha : 0 ≤ a ∧ a ≤ 1048576) (hl : l.length ≤ 9223372036854775807 ∧ ∀ y ∈ l, y.fitp) : Contract P 63 [.sl t 4 (l.map Rw.row), .int .i64 a] [] (.int .i64 (szS Rw.sz l a)) [] := by
  refine fn_sound ((Env.nil P).add 121 t_szRw h_szRw) hm k_laws_szSkyRunwayS (Nat.le_of_ble_eq_true rfl) rfl ?_; unfold s_laws_szSkyRunwayS; simp (config := { maxSteps := 2000000 }) only [bitvec_to_nat, reduceIte, Nat.reduceEqDiff, Nat.reduceAdd, Nat.reduceLeDiff, reduceCtorEq, Nat.reduceBEq, Nat.reduceLT, Nat.reduceMod, List.forall_mem_cons, t_szRw, tk_map, dp_map, toNat_pred, appE, rowsOf, List.take_length, List.length_cons, List.length_nil, Nat.zero_add, srow, irow, un_s, un_i, Pt.row, Pt_eta, Aw.row, Aw_eta, Blk.row, Blk_eta, Sec.row, Sec_eta, Rw.row, Rw_eta, Sky.row, Sky_eta, un_Pt, un_Aw, un_Blk, un_Sec, un_Rw, un_Sky, List.take_zero, List.foldl_nil]
  have hz : szOf a l.length = if a - l.length < 0 then -1 else a - l.length := rfl
  refine ⟨by omega, fun h1 => ?_, fun h1 => ?_⟩
  · unfold szS
    rw [(fold_meas meas_Rw l _ (by omega) (by omega)).2.1 (by omega)]
  have e0 : szOf a l.length = a - l.length := if_neg h1
  refine loop_st (fun i : Nat => [(1, .int .i64 ((l.take i).foldl (fun a x => x.sz a) (a - l.length))), (5, .int .i64 i)]) (fun _ => []) (fun i => i ≤ l.length ∧ 0 ≤ (l.take i).foldl (fun a x => x.sz a) (a - l.length)) (fun i => l.length - i) (0) (by simp only [u_E0, u_E1, u_M0, u_M1, w_setE0, w_setE1, w_setM0, w_setM1, reduceIte, Nat.reduceEqDiff]; exact ⟨by repeat' (first | exact trivial | refine ⟨.inr rfl, ?_⟩), by repeat' (first | exact trivial | refine ⟨rfl, ?_⟩), by first | rfl | simp [closedB, refsIn, refsInL, refsInO, dom, refsInL_nr, *], by first | rfl | simp [keepB, dom]⟩) ?_ ?_
  · simp only [List.take_zero, List.foldl_nil]; omega
  intro i hi NX hN
  have hm := (fold_meas meas_Rw (l.take i) (a - l.length) (by omega) (by omega)).2.2
  have hg : i < l.length → (l.getD i default).fitp := fun h => hl.2 _ (getD_mem' h)
  have hn : i < l.length → (l.take (i + 1)).foldl (fun a x => x.sz a) (a - l.length) = (l.getD i default).sz ((l.take i).foldl (fun a x => x.sz a) (a - l.length)) := fun h => fold_take (f := Rw.sz) h
  have hs : i < l.length → (l.getD i default).sz ((l.take i).foldl (fun a x => x.sz a) (a - l.length)) < 0 → szS Rw.sz l a = -1 := fun h h2 => by unfold szS; rw [e0]; exact fold_stop meas_Rw h (by omega) (by omega) h2
  unfold l_laws_szSkyRunwayS_0; simp (config := { maxSteps := 2000000 }) only [bitvec_to_nat, reduceIte, Nat.reduceEqDiff, Nat.reduceAdd, Nat.reduceLeDiff, reduceCtorEq, Nat.reduceBEq, Nat.reduceLT, Nat.reduceMod, List.forall_mem_cons, t_szRw, tk_map, dp_map, toNat_pred, appE, rowsOf, List.take_length, List.length_cons, List.length_nil, Nat.zero_add, srow, irow, un_s, un_i, Pt.row, Pt_eta, Aw.row, Aw_eta, Blk.row, Blk_eta, Sec.row, Sec_eta, Rw.row, Rw_eta, Sky.row, Sky_eta, un_Pt, un_Aw, un_Blk, un_Sec, un_Rw, un_Sky, List.take_zero, List.foldl_nil]
  refine ⟨fun h2 => ⟨by omega, by omega, ⟨⟨by omega, by omega⟩, hg (by omega)⟩, fun h3 => by rw [hs (by omega) h3], fun h3 => ⟨by omega, ?_⟩⟩, fun h2 => ?_⟩
  · have e := hn (by omega)
    refine hN (i + 1) _ (by simp only [e, List.length_append, List.length_cons, List.length_nil, Nat.zero_add, List.map_append, List.map_cons, List.map_nil, u_E0, u_E1, u_M0, u_M1, w_setE0, w_setE1, w_setM0, w_setM1, reduceIte, Nat.reduceEqDiff]; exact ⟨by repeat' (first | exact trivial | refine ⟨.inr rfl, ?_⟩), by repeat' (first | exact trivial | refine ⟨rfl, ?_⟩), by first | rfl | simp [closedB, refsIn, refsInL, refsInO, dom, refsInL_nr, *], by first | rfl | simp [keepB, dom]⟩) ?_ ?_
    · exact ⟨by omega, by rw [e]; omega⟩
    · omega
  · have e : i = l.length := by omega
    subst e
    simp only [List.take_length]; unfold szS; rw [e0]
def t_szRwS : List AV → Option (Prop × AV)
  | [.sl lt 4 lx, .int .i64 b] => some ((((lx.map unRw).map Rw.row = lx)) ∧ ((0 ≤ b ∧ b ≤ 1048576) ∧ ((lx.map unRw).length ≤ 9223372036854775807 ∧ ∀ y ∈ (lx.map unRw), Rw.fitp y)), .int .i64 (szS Rw.sz (lx.map unRw) b))
  | _ => none
theorem h_szRwS : ∀ args p v, t_szRwS args = some (p, v) → p → Contract P 63 args [] v [] ∧ noref v = true ∧ No99 v := by
  intro args p v h1 h2
  unfold t_szRwS at h1
  split at h1
  · rename_i lt lx b
    cases h1
    obtain ⟨e0, HP⟩ := h2
    have := c_szRwS lt (lx.map unRw) b HP.1 HP.2
    exact ⟨by simpa only [e0] using this, rfl, trivial⟩
  · cases h1
theorem c_szAw (s : Aw) (a : Int) (ha : 0 ≤ a ∧ a ≤ 1048576) (hs : s.fitp) : Contract P 119 [.agg (s.row 1), .int .i64 a] [] (.int .i64 (s.sz a)) [] := by
  unfold Aw.fitp at hs
  simp only [Aw.row]
  refine fn_sound ((Env.nil P).add 39 t_szStringS h_szStringS) hm k_laws_szSkyAirway (Nat.le_of_ble_eq_true rfl) rfl ?_; unfold s_laws_szSkyAirway; simp (config := { maxSteps := 2000000 }) only [bitvec_to_nat, reduceIte, Nat.reduceEqDiff, Nat.reduceAdd, Nat.reduceLeDiff, reduceCtorEq, Nat.reduceBEq, Nat.reduceLT, Nat.reduceMod, List.forall_mem_cons, t_szStringS, tk_map, dp_map, toNat_pred, appE, rowsOf, List.take_length, List.length_cons, List.length_nil, Nat.zero_add, srow, irow, un_s, un_i, Pt.row, Pt_eta, Aw.row, Aw_eta, Blk.row, Blk_eta, Sec.row, Sec_eta, Rw.row, Rw_eta, Sky.row, Sky_eta, un_Pt, un_Aw, un_Blk, un_Sec, un_Rw, un_Sky]
  unfold Aw.sz
  have qpts : (szS szStr s.pts (a - (s.nm.toList.length : Nat))) ≤ max (a - (s.nm.toList.length : Nat)) (-1) := (meas_szS meas_str s.pts (a - (s.nm.toList.length : Nat)) (by omega)).2.2
  repeat' (first | with_reducible apply And.intro | with_reducible intro _)
  all_goals first | omega | (exact hs) | (exact hs.1) | (exact hs.2.1) | (exact hs.2.2) | (exact hs.2.2.1) | (exact hs.2.2.2) | (exact hs.2.2.2.1) | (exact hs.2.2.2.2) | (exact hs.1.1) | (exact hs.1.2) | (exact hs.2.1.1) | (exact hs.2.1.2) | (unfold chk; grind) | grind
def t_szAw : List AV → Option (Prop × AV)
  | [.agg [.str s_nm, .sl 1 1 s_pts], .int .i64 b] => some ((((s_pts.map unS).map srow = s_pts)) ∧ ((0 ≤ b ∧ b ≤ 1048576) ∧ (Aw.fitp (Aw.mk s_nm (s_pts.map unS)))), .int .i64 (Aw.sz (Aw.mk s_nm (s_pts.map unS)) b))
  | _ => none
theorem h_szAw : ∀ args p v, t_szAw args = some (p, v) → p → Contract P 119 args [] v [] ∧ noref v = true ∧ No99 v := by
  intro args p v h1 h2
  unfold t_szAw at h1
  split at h1
  · rename_i s_nm s_pts b
    cases h1
    obtain ⟨e0, HP⟩ := h2
    have := c_szAw (Aw.mk s_nm (s_pts.map unS)) b HP.1 HP.2
    exact ⟨by simpa only [e0, Aw.row] using this, rfl, trivial⟩
  · cases h1
theorem c_szAwS (t : Nat) (l : List Aw) (a : Int) (ha : 0 ≤ a ∧ a ≤ 1048576) (hl : l.length ≤ 9223372036854775807 ∧ ∀ y ∈ l, y.fitp) : Contract P 61 [.sl t 2 (l.map (Aw.row 1)), .int .i64 a] [] (.int .i64 (szS Aw.sz l a)) [] := by
  refine fn_sound ((Env.nil P).add 119 t_szAw h_szAw) hm k_laws_szSkyAirwayS (Nat.le_of_ble_eq_true rfl) rfl ?_; unfold s_laws_szSkyAirwayS; simp (config := { maxSteps := 2000000 }) only [bitvec_to_nat, reduceIte, Nat.reduceEqDiff, Nat.reduceAdd, Nat.reduceLeDiff, reduceCtorEq, Nat.reduceBEq, Nat.reduceLT, Nat.reduceMod, List.forall_mem_cons, t_szAw, tk_map, dp_map, toNat_pred, appE, rowsOf, List.take_length, List.length_cons, List.length_nil, Nat.zero_add, srow, irow, un_s, un_i, Pt.row, Pt_eta, Aw.row, Aw_eta, Blk.row, Blk_eta, Sec.row, Sec_eta, Rw.row, Rw_eta, Sky.row, Sky_eta, un_Pt, un_Aw, un_Blk, un_Sec, un_Rw, un_Sky, List.take_zero, List.foldl_nil]
  have hz : szOf a l.length = if a - l.length < 0 then -1 else a - l.length := rfl
  refine ⟨by omega, fun h1 => ?_, fun h1 => ?_⟩
  · unfold szS
    rw [(fold_meas meas_Aw l _ (by omega) (by omega)).2.1 (by omega)]
  have e0 : szOf a l.length = a - l.length := if_neg h1
  refine loop_st (fun i : Nat => [(1, .int .i64 ((l.take i).foldl (fun a x => x.sz a) (a - l.length))), (5, .int .i64 i)]) (fun _ => []) (fun i => i ≤ l.length ∧ 0 ≤ (l.take i).foldl (fun a x => x.sz a) (a - l.length)) (fun i => l.length - i) (0) (by simp only [u_E0, u_E1, u_M0, u_M1, w_setE0, w_setE1, w_setM0, w_setM1, reduceIte, Nat.reduceEqDiff]; exact ⟨by repeat' (first | exact trivial | refine ⟨.inr rfl, ?_⟩), by repeat' (first | exact trivial | refine ⟨rfl, ?_⟩), by first | rfl | simp [closedB, refsIn, refsInL, refsInO, dom, refsInL_nr, *], by first | rfl | simp [keepB, dom]⟩) ?_ ?_
  · simp only [List.take_zero, List.foldl_nil]; omega
  intro i hi NX hN
  have hm := (fold_meas meas_Aw (l.take i) (a - l.length) (by omega) (by omega)).2.2
  have hg : i < l.length → (l.getD i default).fitp := fun h => hl.2 _ (getD_mem' h)
  have hn : i < l.length → (l.take (i + 1)).foldl (fun a x => x.sz a) (a - l.length) = (l.getD i default).sz ((l.take i).foldl (fun a x => x.sz a) (a - l.length)) := fun h => fold_take (f := Aw.sz) h
  have hs : i < l.length → (l.getD i default).sz ((l.take i).foldl (fun a x => x.sz a) (a - l.length)) < 0 → szS Aw.sz l a = -1 := fun h h2 => by unfold szS; rw [e0]; exact fold_stop meas_Aw h (by omega) (by omega) h2
  unfold l_laws_szSkyAirwayS_0; simp (config := { maxSteps := 2000000 }) only [bitvec_to_nat, reduceIte, Nat.reduceEqDiff, Nat.reduceAdd, Nat.reduceLeDiff, reduceCtorEq, Nat.reduceBEq, Nat.reduceLT, Nat.reduceMod, List.forall_mem_cons, t_szAw, tk_map, dp_map, toNat_pred, appE, rowsOf, List.take_length, List.length_cons, List.length_nil, Nat.zero_add, srow, irow, un_s, un_i, Pt.row, Pt_eta, Aw.row, Aw_eta, Blk.row, Blk_eta, Sec.row, Sec_eta, Rw.row, Rw_eta, Sky.row, Sky_eta, un_Pt, un_Aw, un_Blk, un_Sec, un_Rw, un_Sky, List.take_zero, List.foldl_nil]
  refine ⟨fun h2 => ⟨by omega, by omega, ⟨⟨by omega, by omega⟩, hg (by omega)⟩, fun h3 => by rw [hs (by omega) h3], fun h3 => ⟨by omega, ?_⟩⟩, fun h2 => ?_⟩
  · have e := hn (by omega)
    refine hN (i + 1) _ (by simp only [e, List.length_append, List.length_cons, List.length_nil, Nat.zero_add, List.map_append, List.map_cons, List.map_nil, u_E0, u_E1, u_M0, u_M1, w_setE0, w_setE1, w_setM0, w_setM1, reduceIte, Nat.reduceEqDiff]; exact ⟨by repeat' (first | exact trivial | refine ⟨.inr rfl, ?_⟩), by repeat' (first | exact trivial | refine ⟨rfl, ?_⟩), by first | rfl | simp [closedB, refsIn, refsInL, refsInO, dom, refsInL_nr, *], by first | rfl | simp [keepB, dom]⟩) ?_ ?_
    · exact ⟨by omega, by rw [e]; omega⟩
    · omega
  · have e : i = l.length := by omega
    subst e
    simp only [List.take_length]; unfold szS; rw [e0]
def t_szAwS : List AV → Option (Prop × AV)
  | [.sl lt 2 lx, .int .i64 b] => some ((((lx.map unAw).map (Aw.row 1) = lx)) ∧ ((0 ≤ b ∧ b ≤ 1048576) ∧ ((lx.map unAw).length ≤ 9223372036854775807 ∧ ∀ y ∈ (lx.map unAw), Aw.fitp y)), .int .i64 (szS Aw.sz (lx.map unAw) b))
  | _ => none
theorem h_szAwS : ∀ args p v, t_szAwS args = some (p, v) → p → Contract P 61 args [] v [] ∧ noref v = true ∧ No99 v := by
  intro args p v h1 h2
  unfold t_szAwS at h1
  split at h1
  · rename_i lt lx b
    cases h1
    obtain ⟨e0, HP⟩ := h2
    have := c_szAwS lt (lx.map unAw) b HP.1 HP.2
    exact ⟨by simpa only [e0] using this, rfl, trivial⟩
  · cases h1
theorem c_szSec (s : Sec) (a : Int) (ha : 0 ≤ a ∧ a ≤ 1048576) (hs : s.fitp) : Contract P 120 [.agg (s.row 1), .int .i64 a] [] (.int .i64 (s.sz a)) [] := by
  unfold Sec.fitp at hs
  simp only [Sec.row]
  refine fn_sound ((Env.nil P).add 157 t_szBlkS h_szBlkS) hm k_laws_szSkySector (Nat.le_of_ble_eq_true rfl) rfl ?_; unfold s_laws_szSkySector; simp (config := { maxSteps := 2000000 }) only [bitvec_to_nat, reduceIte, Nat.reduceEqDiff, Nat.reduceAdd, Nat.reduceLeDiff, reduceCtorEq, Nat.reduceBEq, Nat.reduceLT, Nat.reduceMod, List.forall_mem_cons, t_szBlkS, tk_map, dp_map, toNat_pred, appE, rowsOf, List.take_length, List.length_cons, List.length_nil, Nat.zero_add, srow, irow, un_s, un_i, Pt.row, Pt_eta, Aw.row, Aw_eta, Blk.row, Blk_eta, Sec.row, Sec_eta, Rw.row, Rw_eta, Sky.row, Sky_eta, un_Pt, un_Aw, un_Blk, un_Sec, un_Rw, un_Sky]
  unfold Sec.sz
  have qbl : (szOf (a - (s.nm.toList.length : Nat)) s.bl.length) ≤ max (a - (s.nm.toList.length : Nat)) (-1) := by unfold szOf; split <;> omega
  repeat' (first | with_reducible apply And.intro | with_reducible intro _)
  all_goals first | omega | (exact hs) | (exact hs.1) | (exact hs.2.1) | (exact hs.2.2) | (exact hs.2.2.1) | (exact hs.2.2.2) | (exact hs.2.2.2.1) | (exact hs.2.2.2.2) | (exact hs.1.1) | (exact hs.1.2) | (exact hs.2.1.1) | (exact hs.2.1.2) | (unfold chk; grind) | grind
def t_szSec : List AV → Option (Prop × AV)
  | [.agg [.str s_nm, .sl 1 6 s_bl], .int .i64 b] => some ((((s_bl.map unBlk).map Blk.row = s_bl)) ∧ ((0 ≤ b ∧ b ≤ 1048576) ∧ (Sec.fitp (Sec.mk s_nm (s_bl.map unBlk)))), .int .i64 (Sec.sz (Sec.mk s_nm (s_bl.map unBlk)) b))
  | _ => none
theorem h_szSec : ∀ args p v, t_szSec args = some (p, v) → p → Contract P 120 args [] v [] ∧ noref v = true ∧ No99 v := by
  intro args p v h1 h2
  unfold t_szSec at h1
  split at h1
  · rename_i s_nm s_bl b
    cases h1
    obtain ⟨e0, HP⟩ := h2
    have := c_szSec (Sec.mk s_nm (s_bl.map unBlk)) b HP.1 HP.2
    exact ⟨by simpa only [e0, Sec.row] using this, rfl, trivial⟩
  · cases h1
theorem c_szSecS (t : Nat) (l : List Sec) (a : Int) (ha : 0 ≤ a ∧ a ≤ 1048576) (hl : l.length ≤ 9223372036854775807 ∧ ∀ y ∈ l, y.fitp) : Contract P 62 [.sl t 2 (l.map (Sec.row 1)), .int .i64 a] [] (.int .i64 (szS Sec.sz l a)) [] := by
  refine fn_sound ((Env.nil P).add 120 t_szSec h_szSec) hm k_laws_szSkySectorS (Nat.le_of_ble_eq_true rfl) rfl ?_; unfold s_laws_szSkySectorS; simp (config := { maxSteps := 2000000 }) only [bitvec_to_nat, reduceIte, Nat.reduceEqDiff, Nat.reduceAdd, Nat.reduceLeDiff, reduceCtorEq, Nat.reduceBEq, Nat.reduceLT, Nat.reduceMod, List.forall_mem_cons, t_szSec, tk_map, dp_map, toNat_pred, appE, rowsOf, List.take_length, List.length_cons, List.length_nil, Nat.zero_add, srow, irow, un_s, un_i, Pt.row, Pt_eta, Aw.row, Aw_eta, Blk.row, Blk_eta, Sec.row, Sec_eta, Rw.row, Rw_eta, Sky.row, Sky_eta, un_Pt, un_Aw, un_Blk, un_Sec, un_Rw, un_Sky, List.take_zero, List.foldl_nil]
  have hz : szOf a l.length = if a - l.length < 0 then -1 else a - l.length := rfl
  refine ⟨by omega, fun h1 => ?_, fun h1 => ?_⟩
  · unfold szS
    rw [(fold_meas meas_Sec l _ (by omega) (by omega)).2.1 (by omega)]
  have e0 : szOf a l.length = a - l.length := if_neg h1
  refine loop_st (fun i : Nat => [(1, .int .i64 ((l.take i).foldl (fun a x => x.sz a) (a - l.length))), (5, .int .i64 i)]) (fun _ => []) (fun i => i ≤ l.length ∧ 0 ≤ (l.take i).foldl (fun a x => x.sz a) (a - l.length)) (fun i => l.length - i) (0) (by simp only [u_E0, u_E1, u_M0, u_M1, w_setE0, w_setE1, w_setM0, w_setM1, reduceIte, Nat.reduceEqDiff]; exact ⟨by repeat' (first | exact trivial | refine ⟨.inr rfl, ?_⟩), by repeat' (first | exact trivial | refine ⟨rfl, ?_⟩), by first | rfl | simp [closedB, refsIn, refsInL, refsInO, dom, refsInL_nr, *], by first | rfl | simp [keepB, dom]⟩) ?_ ?_
  · simp only [List.take_zero, List.foldl_nil]; omega
  intro i hi NX hN
  have hm := (fold_meas meas_Sec (l.take i) (a - l.length) (by omega) (by omega)).2.2
  have hg : i < l.length → (l.getD i default).fitp := fun h => hl.2 _ (getD_mem' h)
  have hn : i < l.length → (l.take (i + 1)).foldl (fun a x => x.sz a) (a - l.length) = (l.getD i default).sz ((l.take i).foldl (fun a x => x.sz a) (a - l.length)) := fun h => fold_take (f := Sec.sz) h
  have hs : i < l.length → (l.getD i default).sz ((l.take i).foldl (fun a x => x.sz a) (a - l.length)) < 0 → szS Sec.sz l a = -1 := fun h h2 => by unfold szS; rw [e0]; exact fold_stop meas_Sec h (by omega) (by omega) h2
  unfold l_laws_szSkySectorS_0; simp (config := { maxSteps := 2000000 }) only [bitvec_to_nat, reduceIte, Nat.reduceEqDiff, Nat.reduceAdd, Nat.reduceLeDiff, reduceCtorEq, Nat.reduceBEq, Nat.reduceLT, Nat.reduceMod, List.forall_mem_cons, t_szSec, tk_map, dp_map, toNat_pred, appE, rowsOf, List.take_length, List.length_cons, List.length_nil, Nat.zero_add, srow, irow, un_s, un_i, Pt.row, Pt_eta, Aw.row, Aw_eta, Blk.row, Blk_eta, Sec.row, Sec_eta, Rw.row, Rw_eta, Sky.row, Sky_eta, un_Pt, un_Aw, un_Blk, un_Sec, un_Rw, un_Sky, List.take_zero, List.foldl_nil]
  refine ⟨fun h2 => ⟨by omega, by omega, ⟨⟨by omega, by omega⟩, hg (by omega)⟩, fun h3 => by rw [hs (by omega) h3], fun h3 => ⟨by omega, ?_⟩⟩, fun h2 => ?_⟩
  · have e := hn (by omega)
    refine hN (i + 1) _ (by simp only [e, List.length_append, List.length_cons, List.length_nil, Nat.zero_add, List.map_append, List.map_cons, List.map_nil, u_E0, u_E1, u_M0, u_M1, w_setE0, w_setE1, w_setM0, w_setM1, reduceIte, Nat.reduceEqDiff]; exact ⟨by repeat' (first | exact trivial | refine ⟨.inr rfl, ?_⟩), by repeat' (first | exact trivial | refine ⟨rfl, ?_⟩), by first | rfl | simp [closedB, refsIn, refsInL, refsInO, dom, refsInL_nr, *], by first | rfl | simp [keepB, dom]⟩) ?_ ?_
    · exact ⟨by omega, by rw [e]; omega⟩
    · omega
  · have e : i = l.length := by omega
    subst e
    simp only [List.take_length]; unfold szS; rw [e0]
def t_szSecS : List AV → Option (Prop × AV)
  | [.sl lt 2 lx, .int .i64 b] => some ((((lx.map unSec).map (Sec.row 1) = lx)) ∧ ((0 ≤ b ∧ b ≤ 1048576) ∧ ((lx.map unSec).length ≤ 9223372036854775807 ∧ ∀ y ∈ (lx.map unSec), Sec.fitp y)), .int .i64 (szS Sec.sz (lx.map unSec) b))
  | _ => none
theorem h_szSecS : ∀ args p v, t_szSecS args = some (p, v) → p → Contract P 62 args [] v [] ∧ noref v = true ∧ No99 v := by
  intro args p v h1 h2
  unfold t_szSecS at h1
  split at h1
  · rename_i lt lx b
    cases h1
    obtain ⟨e0, HP⟩ := h2
    have := c_szSecS lt (lx.map unSec) b HP.1 HP.2
    exact ⟨by simpa only [e0] using this, rfl, trivial⟩
  · cases h1
theorem c_szSky (s : Sky) (a : Int) (ha : 0 ≤ a ∧ a ≤ 1048576) (hs : s.fitp) : Contract P 12 [.agg (s.row 1), .int .i64 a] [] (.int .i64 (s.sz a)) [] := by
  unfold Sky.fitp at hs
  simp only [Sky.row]
  refine fn_sound (((((Env.nil P).add 61 t_szAwS h_szAwS).add 60 t_szPtS h_szPtS).add 63 t_szRwS h_szRwS).add 62 t_szSecS h_szSecS) hm k_laws_szSky (Nat.le_of_ble_eq_true rfl) rfl ?_; unfold s_laws_szSky; simp (config := { maxSteps := 2000000 }) only [bitvec_to_nat, reduceIte, Nat.reduceEqDiff, Nat.reduceAdd, Nat.reduceLeDiff, reduceCtorEq, Nat.reduceBEq, Nat.reduceLT, Nat.reduceMod, List.forall_mem_cons, t_szAwS, t_szPtS, t_szRwS, t_szSecS, tk_map, dp_map, toNat_pred, appE, rowsOf, List.take_length, List.length_cons, List.length_nil, Nat.zero_add, srow, irow, un_s, un_i, Pt.row, Pt_eta, Aw.row, Aw_eta, Blk.row, Blk_eta, Sec.row, Sec_eta, Rw.row, Rw_eta, Sky.row, Sky_eta, un_Pt, un_Aw, un_Blk, un_Sec, un_Rw, un_Sky]
  unfold Sky.sz
  have qpts : (szS Pt.sz s.pts a) ≤ max a (-1) := (meas_szS meas_Pt s.pts a (by omega)).2.2
  have qaws : (szS Aw.sz s.aws (szS Pt.sz s.pts a)) ≤ max (szS Pt.sz s.pts a) (-1) := (meas_szS meas_Aw s.aws (szS Pt.sz s.pts a) (by omega)).2.2
  have qsecs : (szS Sec.sz s.secs (szS Aw.sz s.aws (szS Pt.sz s.pts a))) ≤ max (szS Aw.sz s.aws (szS Pt.sz s.pts a)) (-1) := (meas_szS meas_Sec s.secs (szS Aw.sz s.aws (szS Pt.sz s.pts a)) (by omega)).2.2
  have qrws : (szS Rw.sz s.rws (szS Sec.sz s.secs (szS Aw.sz s.aws (szS Pt.sz s.pts a)))) ≤ max (szS Sec.sz s.secs (szS Aw.sz s.aws (szS Pt.sz s.pts a))) (-1) := (meas_szS meas_Rw s.rws (szS Sec.sz s.secs (szS Aw.sz s.aws (szS Pt.sz s.pts a))) (by omega)).2.2
  repeat' (first | with_reducible apply And.intro | with_reducible intro _)
  all_goals first | omega | (exact hs) | (exact hs.1) | (exact hs.2.1) | (exact hs.2.2) | (exact hs.2.2.1) | (exact hs.2.2.2) | (exact hs.2.2.2.1) | (exact hs.2.2.2.2) | (exact hs.1.1) | (exact hs.1.2) | (exact hs.2.1.1) | (exact hs.2.1.2) | (unfold chk; grind) | grind
def t_szSky : List AV → Option (Prop × AV)
  | [.agg [.int .i64 s_w, .int .i64 s_h, .int .i64 s_lv, .sl 1 3 s_pts, .sl 1 2 s_aws, .sl 1 2 s_secs, .sl 1 4 s_rws], .int .i64 b] => some ((((s_pts.map unPt).map Pt.row = s_pts) ∧ ((s_aws.map unAw).map (Aw.row 1) = s_aws) ∧ ((s_secs.map unSec).map (Sec.row 1) = s_secs) ∧ ((s_rws.map unRw).map Rw.row = s_rws)) ∧ ((0 ≤ b ∧ b ≤ 1048576) ∧ (Sky.fitp (Sky.mk s_w s_h s_lv (s_pts.map unPt) (s_aws.map unAw) (s_secs.map unSec) (s_rws.map unRw)))), .int .i64 (Sky.sz (Sky.mk s_w s_h s_lv (s_pts.map unPt) (s_aws.map unAw) (s_secs.map unSec) (s_rws.map unRw)) b))
  | _ => none
theorem h_szSky : ∀ args p v, t_szSky args = some (p, v) → p → Contract P 12 args [] v [] ∧ noref v = true ∧ No99 v := by
  intro args p v h1 h2
  unfold t_szSky at h1
  split at h1
  · rename_i s_w s_h s_lv s_pts s_aws s_secs s_rws b
    cases h1
    obtain ⟨⟨e0, e1, e2, e3⟩, HP⟩ := h2
    have := c_szSky (Sky.mk s_w s_h s_lv (s_pts.map unPt) (s_aws.map unAw) (s_secs.map unSec) (s_rws.map unRw)) b HP.1 HP.2
    exact ⟨by simpa only [e0, e1, e2, e3, Sky.row] using this, rfl, trivial⟩
  · cases h1
end
end Go.Ve

namespace Go.Ve
noncomputable section
open Go.Proofs
set_option linter.unusedSimpArgs false
set_option linter.unusedVariables false
set_option maxRecDepth 100000
open Go.ChangeShapes Go.WideShapes
theorem fit_rows {α : Type} {f : α → List AV} {rs : List LSh} (h : ∀ r, fitsL rs r → ∃ x : α, r = f x) : ∀ {rows : List (List AV)}, (∀ r ∈ rows, fitsL rs r) → ∃ l : List α, rows = l.map f
  | [], _ => ⟨[], rfl⟩
  | r :: rows, k => by
    obtain ⟨x, rfl⟩ := h r (k r (by simp))
    obtain ⟨l, rfl⟩ := fit_rows h (rows := rows) fun r' h' => k r' (by simp [h'])
    exact ⟨x :: l, rfl⟩
def sh_ByteArray : List LSh := [.str]
theorem fit_ByteArray (r : List AV) (h : fitsL sh_ByteArray r) : ∃ x : ByteArray, r = srow x ∧ x.toList.length ≤ 9223372036854775807 := by
  simp only [sh_ByteArray, fitsL, fits] at h
  obtain ⟨_, _, rfl, ⟨n, rfl, h⟩, rfl⟩ := h
  exact ⟨n, rfl, by rw [← toList_size]; unfold maxLen at h; omega⟩
def sh_Pt : List LSh := [.str, .int .i64, .int .i64]
theorem fit_Pt (r : List AV) (h : fitsL sh_Pt r) : ∃ x : Pt, r = Pt.row x ∧ x.fitp := by
  simp only [sh_Pt, fitsL, fits] at h
  obtain ⟨_, _, rfl, ⟨nm, rfl, h_nm⟩, _, _, rfl, ⟨x, rfl, _⟩, _, _, rfl, ⟨y, rfl, _⟩, rfl⟩ := h

  exact ⟨⟨nm, x, y⟩, rfl, (by have e := toList_size nm; unfold maxLen at h_nm; show nm.toList.length ≤ _; omega)⟩
def sh_Blk : List LSh := [.int .i64, .int .i64, .int .i64, .int .i64, .int .i64, .int .i64]
theorem fit_Blk (r : List AV) (h : fitsL sh_Blk r) : ∃ x : Blk, r = Blk.row x := by
  simp only [sh_Blk, fitsL, fits] at h
  obtain ⟨_, _, rfl, ⟨x0, rfl, _⟩, _, _, rfl, ⟨y0, rfl, _⟩, _, _, rfl, ⟨x1, rfl, _⟩, _, _, rfl, ⟨y1, rfl, _⟩, _, _, rfl, ⟨lo, rfl, _⟩, _, _, rfl, ⟨hi, rfl, _⟩, rfl⟩ := h

  exact ⟨⟨x0, y0, x1, y1, lo, hi⟩, rfl⟩
def sh_Rw : List LSh := [.str, .int .i64, .int .i64, .int .i64]
theorem fit_Rw (r : List AV) (h : fitsL sh_Rw r) : ∃ x : Rw, r = Rw.row x ∧ x.fitp := by
  simp only [sh_Rw, fitsL, fits] at h
  obtain ⟨_, _, rfl, ⟨nm, rfl, h_nm⟩, _, _, rfl, ⟨x, rfl, _⟩, _, _, rfl, ⟨y, rfl, _⟩, _, _, rfl, ⟨tn, rfl, _⟩, rfl⟩ := h

  exact ⟨⟨nm, x, y, tn⟩, rfl, (by have e := toList_size nm; unfold maxLen at h_nm; show nm.toList.length ≤ _; omega)⟩
def sh_Aw : List LSh := [.str, .sl sh_ByteArray]
theorem fit_Aw (r : List AV) (h : fitsL sh_Aw r) : ∃ x : Aw, r = (Aw.row 1) x ∧ x.fitp := by
  simp only [sh_Aw, fitsL, fits] at h
  obtain ⟨_, _, rfl, ⟨nm, rfl, h_nm⟩, _, _, rfl, ⟨pts, rfl, h_pts, r_pts⟩, rfl⟩ := h
  obtain ⟨pts, rfl, p_pts⟩ := fit_rows2 fit_ByteArray r_pts
  rw [List.length_map] at h_pts
  exact ⟨⟨nm, pts⟩, rfl, ⟨(by have e := toList_size nm; unfold maxLen at h_nm; show nm.toList.length ≤ _; omega), ⟨(by unfold maxLen at h_pts; omega), p_pts⟩⟩⟩
def sh_Sec : List LSh := [.str, .sl sh_Blk]
theorem fit_Sec (r : List AV) (h : fitsL sh_Sec r) : ∃ x : Sec, r = (Sec.row 1) x ∧ x.fitp := by
  simp only [sh_Sec, fitsL, fits] at h
  obtain ⟨_, _, rfl, ⟨nm, rfl, h_nm⟩, _, _, rfl, ⟨bl, rfl, h_bl, r_bl⟩, rfl⟩ := h
  obtain ⟨bl, rfl⟩ := fit_rows fit_Blk r_bl
  rw [List.length_map] at h_bl
  exact ⟨⟨nm, bl⟩, rfl, ⟨(by have e := toList_size nm; unfold maxLen at h_nm; show nm.toList.length ≤ _; omega), (by unfold maxLen at h_bl; omega)⟩⟩
def sh_Sky : List LSh := [.int .i64, .int .i64, .int .i64, .sl sh_Pt, .sl sh_Aw, .sl sh_Sec, .sl sh_Rw]
theorem fit_Sky (r : List AV) (h : fitsL sh_Sky r) : ∃ x : Sky, r = (Sky.row 1) x ∧ x.fitp := by
  simp only [sh_Sky, fitsL, fits] at h
  obtain ⟨_, _, rfl, ⟨w, rfl, _⟩, _, _, rfl, ⟨h, rfl, _⟩, _, _, rfl, ⟨lv, rfl, _⟩, _, _, rfl, ⟨pts, rfl, h_pts, r_pts⟩, _, _, rfl, ⟨aws, rfl, h_aws, r_aws⟩, _, _, rfl, ⟨secs, rfl, h_secs, r_secs⟩, _, _, rfl, ⟨rws, rfl, h_rws, r_rws⟩, rfl⟩ := h
  obtain ⟨pts, rfl, p_pts⟩ := fit_rows2 fit_Pt r_pts
  rw [List.length_map] at h_pts
  obtain ⟨aws, rfl, p_aws⟩ := fit_rows2 fit_Aw r_aws
  rw [List.length_map] at h_aws
  obtain ⟨secs, rfl, p_secs⟩ := fit_rows2 fit_Sec r_secs
  rw [List.length_map] at h_secs
  obtain ⟨rws, rfl, p_rws⟩ := fit_rows2 fit_Rw r_rws
  rw [List.length_map] at h_rws
  exact ⟨⟨w, h, lv, pts, aws, secs, rws⟩, rfl, ⟨⟨(by unfold maxLen at h_pts; omega), p_pts⟩, ⟨(by unfold maxLen at h_aws; omega), p_aws⟩, ⟨(by unfold maxLen at h_secs; omega), p_secs⟩, ⟨(by unfold maxLen at h_rws; omega), p_rws⟩⟩⟩
end
end Go.Ve

namespace Go.Ve
noncomputable section
open Go.Proofs
set_option linter.unusedSimpArgs false
set_option linter.unusedVariables false
set_option maxRecDepth 100000
structure Pass where
  nm : ByteArray
  fr : Int
  to : Int
  deriving Inhabited, DecidableEq
def Pass.row (s : Pass) : List AV := [.str s.nm, .int .i64 s.fr, .int .i64 s.to]
end
end Go.Ve

namespace Go.Ve
open Go.Proofs
set_option maxRecDepth 100000
/-- spec.l6Part: function 148 -/
def sO_spec_l6Part : SFun := { n := 32, res := [.t 6], body := (.seq (.rg [⟨some 6, .mv (.c (.int .i64 0)), none, [6]⟩] [0, 1, 2]) (.seq (.rg [⟨some 9, .mv (.v 1), none, [1]⟩, ⟨some 10, .binN .mul (.c (.int .i64 2)) (.v 9), none, [9]⟩, ⟨some 11, .mv (.v 0), none, [0]⟩, ⟨some 12, .binN .mul (.v 10) (.v 11), none, [10, 11]⟩, ⟨some 13, .mv (.v 2), none, []⟩, ⟨some 14, .binN .add (.v 12) (.v 13), none, [12, 13]⟩, ⟨some 7, .mv (.v 14), none, [14]⟩] [2, 7]) (.seq (.rg [⟨some 15, .mv (.v 7), none, []⟩, ⟨some 16, .mv (.v 2), none, []⟩, ⟨some 17, .binN .mul (.c (.int .i64 2)) (.v 16), none, [16]⟩, ⟨some 18, .bin .quo (.v 15) (.v 17), none, [15, 17]⟩, ⟨some 8, .mv (.v 18), none, [18]⟩] [2, 7, 8]) (.seq (.seq (.rg [⟨some 19, .mv (.v 7), none, []⟩, ⟨some 20, .bin .lss (.v 19) (.c (.int .i64 0)), none, [19]⟩, ⟨some 21, .mv (.v 20), none, [20]⟩, ⟨some 22, .mv (.v 8), some (21, true), []⟩, ⟨some 23, .binN .mul (.v 22) (.c (.int .i64 2)), some (21, true), [22]⟩, ⟨some 24, .mv (.v 2), some (21, true), [2]⟩, ⟨some 25, .binN .mul (.v 23) (.v 24), some (21, true), [23, 24]⟩, ⟨some 26, .mv (.v 7), some (21, true), [7]⟩, ⟨some 27, .bin .neq (.v 25) (.v 26), some (21, true), [25, 26]⟩, ⟨some 28, .pick (.v 21) (.v 27) (.c (.bool false)), none, [21, 27]⟩] [8, 28]) (.cond (.v 28) (.rg [⟨some 29, .mv (.v 8), none, [8]⟩, ⟨some 30, .binN .sub (.v 29) (.c (.int .i64 1)), none, [29]⟩, ⟨some 8, .mv (.v 30), none, [30]⟩] [8]) .skip)) (.seq (.rg [⟨some 31, .mv (.v 8), none, [8]⟩, ⟨some 6, .mv (.v 31), none, [31]⟩] [6]) .ret))))) }
theorem kO_spec_l6Part : okFun Go.Proofs.Tryd.prog 148 sO_spec_l6Part = true := by kernel_rfl
/-- impl.floorDiv: function 149 -/
def sO_impl_floorDiv : SFun := { n := 23, res := [.t 4], body := (.seq (.rg [⟨some 4, .mv (.c (.int .i64 0)), none, [4]⟩] [0, 1]) (.seq (.rg [⟨some 6, .mv (.v 0), none, []⟩, ⟨some 7, .mv (.v 1), none, []⟩, ⟨some 8, .bin .quo (.v 6) (.v 7), none, [6, 7]⟩, ⟨some 5, .mv (.v 8), none, [8]⟩] [0, 1, 5]) (.seq (.seq (.rg [⟨some 9, .mv (.v 0), none, []⟩, ⟨some 10, .mv (.v 1), none, []⟩, ⟨some 11, .bin .rem (.v 9) (.v 10), none, [9, 10]⟩, ⟨some 12, .bin .neq (.v 11) (.c (.int .i64 0)), none, [11]⟩, ⟨some 13, .mv (.v 12), none, [12]⟩, ⟨some 14, .mv (.v 0), some (13, true), [0]⟩, ⟨some 15, .bin .lss (.v 14) (.c (.int .i64 0)), some (13, true), [14]⟩, ⟨some 16, .mv (.v 1), some (13, true), [1]⟩, ⟨some 17, .bin .lss (.v 16) (.c (.int .i64 0)), some (13, true), [16]⟩, ⟨some 18, .eqB true (.v 15) (.v 17), some (13, true), [15, 17]⟩, ⟨some 19, .pick (.v 13) (.v 18) (.c (.bool false)), none, [13, 18]⟩] [5, 19]) (.cond (.v 19) (.rg [⟨some 20, .mv (.v 5), none, [5]⟩, ⟨some 21, .binN .sub (.v 20) (.c (.int .i64 1)), none, [20]⟩, ⟨some 5, .mv (.v 21), none, [21]⟩] [5]) .skip)) (.seq (.rg [⟨some 22, .mv (.v 5), none, [5]⟩, ⟨some 4, .mv (.v 22), none, [22]⟩] [4]) .ret)))) }
theorem kO_impl_floorDiv : okFun Go.Proofs.Tryd.prog 149 sO_impl_floorDiv = true := by kernel_rfl
end Go.Ve

namespace Go.Ve
noncomputable section
open Go.Proofs
set_option linter.unusedSimpArgs false
set_option linter.unusedVariables false
set_option maxRecDepth 100000
structure Cell where
  x : Int
  y : Int
  deriving Inhabited, DecidableEq
def Cell.row (s : Cell) : List AV := [.int .i64 s.x, .int .i64 s.y]
def unCell : List AV → Cell
  | [.int .i64 vx, .int .i64 vy] => (Cell.mk vx vy)
  | _ => default
theorem unCell_row (s : Cell) : unCell (Cell.row s) = s := by
  cases s; simp only [Cell.row, unCell]
theorem un_Cell (l : List Cell) : (l.map Cell.row).map unCell = l := by
  rw [List.map_map]; exact List.map_id'' (fun s => unCell_row s) l
theorem Cell_eta (s : Cell) : (Cell.mk s.x s.y) = s := (rfl)
theorem no99_Cell (l : List Cell) : No99LL (l.map Cell.row) := by
  induction l with
  | nil => simp [No99LL]
  | cons x l ih => simp only [List.map_cons, No99LL]; exact ⟨by simp [Cell.row, No99L, No99], ih⟩
theorem mulB {a b A B : Int} (ha : -A ≤ a ∧ a ≤ A) (hb : -B ≤ b ∧ b ≤ B) (hA : 0 ≤ A) (hB : 0 ≤ B) : -(A * B) ≤ a * b ∧ a * b ≤ A * B := by
  have h1 : (a * b).natAbs ≤ (A * B).natAbs := by
    rw [Int.natAbs_mul, Int.natAbs_mul]
    exact Nat.mul_le_mul (by omega) (by omega)
  have h2 : 0 ≤ A * B := Int.mul_nonneg hA hB
  generalize a * b = t at *
  generalize A * B = u at *
  omega
theorem i64_in' {n : Int} (h : -9223372036854775808 ≤ n ∧ n ≤ 9223372036854775807) : IntKind.i64.wrap n = n := by rw [IntKind.wrap_i64]; omega
/-- The quotient, downward. -/
theorem flDiv {v m : Int} (hm : 0 < m) : v / m = if v.tmod m ≠ 0 ∧ v < 0 then v.tdiv m - 1 else v.tdiv m := by
  have h := Int.tdiv_eq_ediv (a := v) (b := m)
  have h2 := Int.tmod_eq_emod (a := v) (b := m)
  have h3 : (m ∣ v) ↔ v % m = 0 := Int.dvd_iff_emod_eq_zero
  have h4 := Int.emod_nonneg v (show m ≠ 0 by omega)
  have h5 := Int.emod_lt_of_pos v hm
  rw [Int.sign_eq_one_of_pos hm] at h
  by_cases hv : 0 ≤ v
  · rw [if_pos (.inl hv)] at h; rw [if_neg (by omega)]; omega
  · by_cases hd : m ∣ v
    · rw [if_pos (.inr hd)] at h h2
      rw [if_neg (fun k => k.1 (by rw [h2]; simp [h3.1 hd]))]; omega
    · rw [if_neg (by rintro (k | k); exact hv k; exact hd k)] at h h2
      have h6 : v % m ≠ 0 := fun k => hd (h3.2 k)
      rw [if_pos ⟨by rw [h2]; omega, by omega⟩]; omega
theorem tdivB {v m : Int} : -(v.natAbs : Int) ≤ v.tdiv m ∧ v.tdiv m ≤ v.natAbs := by
  have := Int.natAbs_tdiv_le_natAbs v m
  omega
def part (d k n : Int) : Int := (2 * k * d + n) / (2 * n)

theorem c_l6Part (d k n : Int) (hd : -15 ≤ d ∧ d ≤ 15) (hk : 0 ≤ k ∧ k ≤ 15) (hn : 1 ≤ n ∧ n ≤ 15) : Contract P 148 [.int .i64 d, .int .i64 k, .int .i64 n] [] (.int .i64 (part d k n)) [] := by
  have h1 := mulB (a := 2 * k) (b := d) (A := 30) (B := 15) (by omega) (by omega) (by omega) (by omega)
  refine fn_sound (Env.nil P) hm kO_spec_l6Part (Nat.le_of_ble_eq_true rfl) rfl ?_; unfold sO_spec_l6Part; simp (config := { maxSteps := 2000000 }) only [bitvec_to_nat, reduceIte, Nat.reduceEqDiff, Nat.reduceAdd, Nat.reduceLeDiff, reduceCtorEq, Nat.reduceBEq, Nat.reduceLT, Nat.reduceMod, List.forall_mem_cons]
  have h2 := flDiv (v := 2 * k * d + n) (m := 2 * n) (by omega)
  have h3 := tdivB (v := 2 * k * d + n) (m := 2 * n)
  have h4 := Int.mul_tdiv_add_tmod (2 * k * d + n) (2 * n)
  have hp : part d k n = (2 * k * d + n) / (2 * n) := rfl
  generalize 2 * k * d = w at *
  generalize hq : (w + n).tdiv (2 * n) = q at *
  generalize (w + n).tmod (2 * n) = r at *
  have hw : IntKind.i64.wrap q = q := i64_in' (by omega)
  have h5 := mulB (a := q * 2) (b := n) (A := 930) (B := 15) (by omega) (by omega) (by omega) (by omega)
  have h6 : q * 2 * n = 2 * n * q := by rw [Int.mul_assoc, Int.mul_comm]
  simp only [hw]
  rw [hp, h2]
  generalize q * 2 * n = t at *
  generalize 2 * n * q = u at *
  refine ⟨by omega, by omega, by omega, by omega, by omega, fun h => ⟨by omega, by omega, fun h' => ⟨by omega, ?_⟩, fun h' => ?_⟩, fun h => ?_⟩
  · rw [if_pos ⟨by omega, by omega⟩]
  · rw [if_neg (by omega)]
  · rw [if_neg (by omega)]
theorem c_floorDiv (a b : Int) (ha : -1000000 ≤ a ∧ a ≤ 1000000) (hb : 0 < b) : Contract P 149 [.int .i64 a, .int .i64 b] [] (.int .i64 (a / b)) [] := by
  have h1 := tdivB (v := a) (m := b)
  have h2 := flDiv (v := a) hb
  refine fn_sound (Env.nil P) hm kO_impl_floorDiv (Nat.le_of_ble_eq_true rfl) rfl ?_; unfold sO_impl_floorDiv; simp (config := { maxSteps := 2000000 }) only [bitvec_to_nat, reduceIte, Nat.reduceEqDiff, Nat.reduceAdd, Nat.reduceLeDiff, reduceCtorEq, Nat.reduceBEq, Nat.reduceLT, Nat.reduceMod, List.forall_mem_cons]
  have h0 : a.tdiv b = a.tdiv b := rfl
  have hz : 0 ≤ a → 0 ≤ a.tdiv b := fun h => Int.tdiv_nonneg h (by omega)
  generalize a.tdiv b = q at *
  generalize a.tmod b = r at *
  have hw : IntKind.i64.wrap q = q := i64_in' (by omega)
  simp only [hw]
  rw [h2]
  refine ⟨by omega, by omega, fun h => ⟨fun h' => ?_, fun h' => ⟨by omega, ?_⟩⟩, fun h => ?_⟩
  · rw [if_neg (by omega)]
  · rw [if_pos ⟨by omega, by omega⟩]
  · rw [if_neg (by omega)]
def t_l6Part : List AV → Option (Prop × AV)
  | [.int .i64 d, .int .i64 k, .int .i64 n] => some (((-15 ≤ d ∧ d ≤ 15) ∧ (0 ≤ k ∧ k ≤ 15) ∧ (1 ≤ n ∧ n ≤ 15)), .int .i64 (part d k n))
  | _ => none
theorem h_l6Part : ∀ args p v, t_l6Part args = some (p, v) → p → Contract P 148 args [] v [] ∧ noref v = true ∧ No99 v := by
  intro args p v h1 h2
  unfold t_l6Part at h1
  split at h1
  · rename_i d k n
    cases h1
    exact ⟨c_l6Part d k n h2.1 h2.2.1 h2.2.2, rfl, trivial⟩
  · cases h1
def t_floorDiv : List AV → Option (Prop × AV)
  | [.int .i64 a, .int .i64 b] => some (((-1000000 ≤ a ∧ a ≤ 1000000) ∧ 0 < b), .int .i64 (a / b))
  | _ => none
theorem h_floorDiv : ∀ args p v, t_floorDiv args = some (p, v) → p → Contract P 149 args [] v [] ∧ noref v = true ∧ No99 v := by
  intro args p v h1 h2
  unfold t_floorDiv at h1
  split at h1
  · rename_i a b
    cases h1
    exact ⟨c_floorDiv a b h2.1 h2.2, rfl, trivial⟩
  · cases h1
def iabs (a : Int) : Int := if a < 0 then -a else a
theorem c_l6Abs (a : Int) (ha : -1000000 ≤ a ∧ a ≤ 1000000) : Contract P 163 [.int .i64 a] [] (.int .i64 (iabs a)) [] := by
  refine fn_sound (Env.nil P) hm k_spec_l6Abs (Nat.le_of_ble_eq_true rfl) rfl ?_; unfold s_spec_l6Abs; simp (config := { maxSteps := 2000000 }) only [bitvec_to_nat, reduceIte, Nat.reduceEqDiff, Nat.reduceAdd, Nat.reduceLeDiff, reduceCtorEq, Nat.reduceBEq, Nat.reduceLT, Nat.reduceMod, List.forall_mem_cons]
  rw [i64_in' (by omega)]
  unfold iabs
  exact ⟨fun h => by rw [if_pos h]; omega, fun h => by rw [if_neg h]⟩
def t_l6Abs : List AV → Option (Prop × AV)
  | [.int .i64 a] => some ((-1000000 ≤ a ∧ a ≤ 1000000), .int .i64 (iabs a))
  | _ => none
theorem h_l6Abs : ∀ args p v, t_l6Abs args = some (p, v) → p → Contract P 163 args [] v [] ∧ noref v = true ∧ No99 v := by
  intro args p v h1 h2
  unfold t_l6Abs at h1
  split at h1
  · rename_i a
    cases h1
    exact ⟨c_l6Abs a h2, rfl, trivial⟩
  · cases h1
def steps (a b : Cell) : Int := max (iabs (a.x - b.x)) (iabs (a.y - b.y))
def Cell.inn (a : Cell) : Prop := (0 ≤ a.x ∧ a.x ≤ 15) ∧ (0 ≤ a.y ∧ a.y ≤ 15)
instance (a : Cell) : Decidable a.inn := by unfold Cell.inn; infer_instance
theorem c_l6Steps (a b : Cell) (ha : a.inn) (hb : b.inn) : Contract P 147 [.agg a.row, .agg b.row] [] (.int .i64 (steps a b)) [] := by
  unfold Cell.inn at ha hb
  refine fn_sound ((Env.nil P).add 163 t_l6Abs h_l6Abs) hm k_spec_l6Steps (Nat.le_of_ble_eq_true rfl) rfl ?_; unfold s_spec_l6Steps; simp (config := { maxSteps := 2000000 }) only [bitvec_to_nat, reduceIte, Nat.reduceEqDiff, Nat.reduceAdd, Nat.reduceLeDiff, reduceCtorEq, Nat.reduceBEq, Nat.reduceLT, Nat.reduceMod, List.forall_mem_cons, t_l6Abs, Cell.row]
  unfold steps
  exact ⟨by omega, by omega, by omega, by omega, fun h => by omega, fun h => by omega⟩
def t_l6Steps : List AV → Option (Prop × AV)
  | [.agg [.int .i64 a_x, .int .i64 a_y], .agg [.int .i64 b_x, .int .i64 b_y]] => some ((True) ∧ (Cell.inn (Cell.mk a_x a_y) ∧ Cell.inn (Cell.mk b_x b_y)), .int .i64 (steps (Cell.mk a_x a_y) (Cell.mk b_x b_y)))
  | _ => none
theorem h_l6Steps : ∀ args p v, t_l6Steps args = some (p, v) → p → Contract P 147 args [] v [] ∧ noref v = true ∧ No99 v := by
  intro args p v h1 h2
  unfold t_l6Steps at h1
  split at h1
  · rename_i a_x a_y b_x b_y
    cases h1
    obtain ⟨_, HP⟩ := h2
    have := c_l6Steps (Cell.mk a_x a_y) (Cell.mk b_x b_y) HP.1 HP.2
    exact ⟨by simpa only [Cell.row, Cell.row] using this, rfl, trivial⟩
  · cases h1
theorem c_l6Inside (a : Cell) : Contract P 146 [.agg a.row] [] (.bool (decide a.inn)) [] := by
  refine fn_sound ((Env.nil P).add 64 t_l1In h_l1In) hm k_spec_l6Inside (Nat.le_of_ble_eq_true rfl) rfl ?_; unfold s_spec_l6Inside; simp (config := { maxSteps := 2000000 }) only [bitvec_to_nat, reduceIte, Nat.reduceEqDiff, Nat.reduceAdd, Nat.reduceLeDiff, reduceCtorEq, Nat.reduceBEq, Nat.reduceLT, Nat.reduceMod, List.forall_mem_cons, t_l1In, Cell.row]
  unfold Cell.inn
  repeat' (first | with_reducible apply And.intro | with_reducible intro _)
  all_goals first | omega | grind | trace_state
def t_l6Inside : List AV → Option (Prop × AV)
  | [.agg [.int .i64 a_x, .int .i64 a_y]] => some ((True) ∧ (True), .bool (decide (Cell.inn (Cell.mk a_x a_y))))
  | _ => none
theorem h_l6Inside : ∀ args p v, t_l6Inside args = some (p, v) → p → Contract P 146 args [] v [] ∧ noref v = true ∧ No99 v := by
  intro args p v h1 h2
  unfold t_l6Inside at h1
  split at h1
  · rename_i a_x a_y
    cases h1
    obtain ⟨_, HP⟩ := h2
    have := c_l6Inside (Cell.mk a_x a_y)
    exact ⟨by simpa only [Cell.row] using this, rfl, trivial⟩
  · cases h1
theorem steps_le {a b : Cell} (ha : a.inn) (hb : b.inn) : 0 ≤ steps a b ∧ steps a b ≤ 15 ∧ -15 ≤ b.x - a.x ∧ b.x - a.x ≤ 15 ∧ -15 ≤ b.y - a.y ∧ b.y - a.y ≤ 15 := by
  unfold Cell.inn at ha hb
  unfold steps iabs
  split <;> split <;> omega
def lgC (a b : Cell) (k : Int) : Cell := ⟨a.x + part (b.x - a.x) k (steps a b), a.y + part (b.y - a.y) k (steps a b)⟩
def lgK (a b : Cell) (m : Nat) : List Cell := (List.range m).map fun k : Nat => lgC a b k
def legU (a b : Cell) : List Cell := lgK a b ((steps a b).toNat + 1)
def sw (a b : Cell) : Prop := b.x < a.x ∨ (b.x = a.x ∧ b.y < a.y)
instance (a b : Cell) : Decidable (sw a b) := by unfold sw; infer_instance
def legOf (a b : Cell) : List Cell := if sw a b then (legU b a).reverse else legU a b
theorem lgK_len {a b : Cell} {m : Nat} : (lgK a b m).length = m := by simp [lgK]
theorem lgK_succ {a b : Cell} {m : Nat} : (lgK a b m).map Cell.row ++ [Cell.row (lgC a b m)] = (lgK a b (m + 1)).map Cell.row := by
  simp [lgK, List.range_succ]
theorem lgC_0 {a b : Cell} : lgC a b 0 = a := by
  have h : ∀ d n : Int, 0 ≤ n → part d 0 n = 0 := fun d n hn => by
    unfold part
    rw [show 2 * (0 : Int) * d + n = n by omega]
    by_cases h : n = 0
    · subst h; rfl
    · exact Int.ediv_eq_zero_of_lt hn (by omega)
  have hs : 0 ≤ steps a b := by unfold steps iabs; split <;> split <;> omega
  unfold lgC
  rw [h _ _ hs, h _ _ hs]; simp
theorem legU_len {a b : Cell} (ha : a.inn) (hb : b.inn) : (legU a b).length ≤ 16 := by
  have := steps_le ha hb
  rw [legU, lgK_len]; omega
theorem sw_asym {a b : Cell} (h : sw a b) : ¬ sw b a := by unfold sw at *; omega
theorem part_b {d k n : Int} (hd : -15 ≤ d ∧ d ≤ 15) (hk : 0 ≤ k ∧ k ≤ 15) (hn : 1 ≤ n ∧ n ≤ 15) : -1000 ≤ part d k n ∧ part d k n ≤ 1000 := by
  have h1 := mulB (a := 2 * k) (b := d) (A := 30) (B := 15) (by omega) (by omega) (by omega) (by omega)
  have h2 := flDiv (v := 2 * k * d + n) (m := 2 * n) (by omega)
  have h3 := tdivB (v := 2 * k * d + n) (m := 2 * n)
  unfold part
  rw [h2]
  generalize 2 * k * d = w at *
  split <;> omega
theorem lgK_1 {a b : Cell} : (lgK a b 1).map Cell.row = [a.row] := by
  simp [lgK, lgC_0]
theorem c_legU0 (a b : Cell) (ha : a.inn) (hb : b.inn) (hs1 : ¬ b.x < a.x) (hs2 : b.x = a.x → ¬ b.y < a.y) : Contract P 105 [.agg a.row, .agg b.row] [] (.sl 0 2 ((legU a b).map Cell.row)) [] := by
  have hni : decide a.inn = true := by simp [ha]
  have hnj : decide b.inn = true := by simp [hb]
  have hst := steps_le ha hb
  have tkl : True := trivial
  have hs3 : b.x = a.x → (b.y < a.y) = False := fun h => eq_false (hs2 h)
  have run : ∀ (hx' : (b.x = a.x) = True ∨ (b.x = a.x) = False), Contract P 105 [.agg a.row, .agg b.row] [] (.sl 0 2 ((legU a b).map Cell.row)) [] := by
    intro hx'
    rcases hx' with hx' | hx'
    all_goals
      refine fn_sound ((((Env.nil P).add 146 t_l6Inside h_l6Inside).add 147 t_l6Steps h_l6Steps).add 148 t_l6Part h_l6Part) hm k_spec_SkyLeg (Nat.le_of_ble_eq_true rfl) rfl ?_; unfold s_spec_SkyLeg; simp (config := { maxSteps := 2000000 }) only [bitvec_to_nat, reduceIte, Nat.reduceEqDiff, Nat.reduceAdd, Nat.reduceLeDiff, reduceCtorEq, Nat.reduceBEq, Nat.reduceLT, Nat.reduceMod, List.forall_mem_cons, t_l6Inside, t_l6Steps, t_l6Part, tk_map, dp_map, toNat_pred, appE, rowsOf, List.take_length, List.length_cons, List.length_nil, Nat.zero_add, srow, irow, un_s, un_i, Zone.row, Zone_eta, un_Zone, Word.row, Word_eta, Own.row, Own_eta, Part.row, Part_eta, Seen.row, Seen_eta, Book.row, Book_eta, Sector.row, Sector_eta, HCraft.row, HCraft_eta, World.row, World_eta, Pt.row, Pt_eta, Aw.row, Aw_eta, Blk.row, Blk_eta, Sec.row, Sec_eta, Rw.row, Rw_eta, Sky.row, Sky_eta, Place.row, Place_eta, Cell.row, Cell_eta, un_Word, un_Own, un_Part, un_Seen, un_Book, un_Sector, un_HCraft, un_World, un_Pt, un_Aw, un_Blk, un_Sec, un_Rw, un_Sky, un_Place, un_Cell, Nat.sub_zero, List.nil_append, tkl, ghost, hni, hnj, hs1, hx', hs3, not_true_eq_false, not_false_eq_true, true_or, or_true, or_false, false_or]
      refine ⟨⟨ha, hb⟩, ?_⟩
      refine loop_st (fun m : Nat => [(5, .own 110 m 0 m), (9, .int .i64 m)]) (fun m => [(110, .arr 148 m 2 ((lgK a b m).map Cell.row))]) (fun m => 1 ≤ m ∧ (m : Int) ≤ steps a b + 1) (fun m => ((steps a b).toNat + 1) - m) 1 (by rw [lgK_1]; simp only [u_E0, u_E1, u_M0, u_M1, w_setE0, w_setE1, w_setM0, w_setM1, reduceIte, Nat.reduceEqDiff]; exact ⟨by repeat' (first | exact trivial | refine ⟨.inr rfl, ?_⟩), by repeat' (first | exact trivial | refine ⟨rfl, ?_⟩), by first | rfl | simp [closedB, refsIn, refsInL, refsInO, dom, refsInL_nr, *], by first | rfl | simp [keepB, dom]⟩) ⟨Nat.le_refl _, by omega⟩ ?_
      rintro m ⟨h1, h2⟩ NX hN
      have hll := lgK_len (a := a) (b := b) (m := m)
      have hsu := lgK_succ (a := a) (b := b) (m := m)
      have tkl : List.take m ((lgK a b m).map Cell.row) = (lgK a b m).map Cell.row := List.take_of_length_le (by simp [lgK_len])
      by_cases h : (m : Int) ≤ steps a b
      · have hp1 := part_b (d := b.x - a.x) (k := m) (n := steps a b) (by omega) (by omega) (by omega)
        have hp2 := part_b (d := b.y - a.y) (k := m) (n := steps a b) (by omega) (by omega) (by omega)
        unfold Cell.inn at ha hb
        unfold l_spec_SkyLeg_1; simp (config := { maxSteps := 2000000 }) only [bitvec_to_nat, reduceIte, Nat.reduceEqDiff, Nat.reduceAdd, Nat.reduceLeDiff, reduceCtorEq, Nat.reduceBEq, Nat.reduceLT, Nat.reduceMod, List.forall_mem_cons, t_l6Inside, t_l6Steps, t_l6Part, tk_map, dp_map, toNat_pred, appE, rowsOf, List.take_length, List.length_cons, List.length_nil, Nat.zero_add, srow, irow, un_s, un_i, Zone.row, Zone_eta, un_Zone, Word.row, Word_eta, Own.row, Own_eta, Part.row, Part_eta, Seen.row, Seen_eta, Book.row, Book_eta, Sector.row, Sector_eta, HCraft.row, HCraft_eta, World.row, World_eta, Pt.row, Pt_eta, Aw.row, Aw_eta, Blk.row, Blk_eta, Sec.row, Sec_eta, Rw.row, Rw_eta, Sky.row, Sky_eta, Place.row, Place_eta, Cell.row, Cell_eta, un_Word, un_Own, un_Part, un_Seen, un_Book, un_Sector, un_HCraft, un_World, un_Pt, un_Aw, un_Blk, un_Sec, un_Rw, un_Sky, un_Place, un_Cell, Nat.sub_zero, List.nil_append, tkl, ghost, hni, hnj, hs1, hx', hs3, not_true_eq_false, not_false_eq_true, true_or, or_true, or_false, false_or]
        repeat' (first | with_reducible apply And.intro | with_reducible intro _)
        all_goals first
          | omega
          | (refine hN (m + 1) _ ⟨by repeat' (first | exact trivial | refine ⟨.inr rfl, ?_⟩), ⟨rfl, rfl, congrArg (fun g => some (AObj.arr 148 (m + 1) 2 g)) hsu, trivial⟩, rfl, rfl⟩ ⟨by omega, by omega⟩ (by omega))
          | trace_state
      · have e : m = (steps a b).toNat + 1 := by omega
        unfold l_spec_SkyLeg_1; simp (config := { maxSteps := 2000000 }) only [bitvec_to_nat, reduceIte, Nat.reduceEqDiff, Nat.reduceAdd, Nat.reduceLeDiff, reduceCtorEq, Nat.reduceBEq, Nat.reduceLT, Nat.reduceMod, List.forall_mem_cons, t_l6Inside, t_l6Steps, t_l6Part, tk_map, dp_map, toNat_pred, appE, rowsOf, List.take_length, List.length_cons, List.length_nil, Nat.zero_add, srow, irow, un_s, un_i, Zone.row, Zone_eta, un_Zone, Word.row, Word_eta, Own.row, Own_eta, Part.row, Part_eta, Seen.row, Seen_eta, Book.row, Book_eta, Sector.row, Sector_eta, HCraft.row, HCraft_eta, World.row, World_eta, Pt.row, Pt_eta, Aw.row, Aw_eta, Blk.row, Blk_eta, Sec.row, Sec_eta, Rw.row, Rw_eta, Sky.row, Sky_eta, Place.row, Place_eta, Cell.row, Cell_eta, un_Word, un_Own, un_Part, un_Seen, un_Book, un_Sector, un_HCraft, un_World, un_Pt, un_Aw, un_Blk, un_Sec, un_Rw, un_Sky, un_Place, un_Cell, Nat.sub_zero, List.nil_append, tkl, ghost, hni, hnj, hs1, hx', hs3, not_true_eq_false, not_false_eq_true, true_or, or_true, or_false, false_or]
        subst e
        refine ⟨fun h' => absurd h' h, fun _ => ?_⟩
        first | trivial | rfl
  exact run (Classical.propComplete _)
end
end Go.Ve

namespace Go.Ve
noncomputable section
open Go.Proofs
set_option linter.unusedSimpArgs false
set_option linter.unusedVariables false
set_option maxRecDepth 100000
theorem rev_snoc {l : List Cell} {t : Nat} (h : t < l.length) : (l.reverse.take t).map Cell.row ++ [Cell.row (l.getD (l.length - 1 - t) default)] = (l.reverse.take (t + 1)).map Cell.row := by
  rw [List.take_succ_eq_append_getElem (by simpa using h), List.map_append]
  have h2 : l.length - 1 - t < l.length := by omega
  simp [List.getElem_reverse, h2]
theorem c_legSw (a b : Cell) (ha : a.inn) (hb : b.inn) (hs : sw a b) : Contract P 105 [.agg a.row, .agg b.row] [] (.sl 0 2 ((legU b a).reverse.map Cell.row)) [] := by
  have hni : decide a.inn = true := by simp [ha]
  have hnj : decide b.inn = true := by simp [hb]
  have tkl : True := trivial
  have hsb := sw_asym hs
  have hC := c_legU0 b a hb ha (fun h => hsb (.inl h)) (fun h h' => hsb (.inr ⟨h, h'⟩))
  have n9 : No99 (.sl 0 2 ((legU b a).map Cell.row)) := by simp only [No99]; exact ⟨by omega, no99_Cell _⟩
  have hl16 := legU_len hb ha
  have e00 : ((legU b a).length : Int) - 1 - ((0 : Nat) : Int) = ((legU b a).length : Int) - 1 := by omega
  have run : ∀ (hs1 : (b.x < a.x) = True ∨ ((b.x < a.x) = False ∧ (b.x = a.x) = True ∧ (b.y < a.y) = True)), Contract P 105 [.agg a.row, .agg b.row] [] (.sl 0 2 ((legU b a).reverse.map Cell.row)) [] := by
    intro hs1
    have hx' : True := trivial
    have hs3 : True := trivial
    rcases hs1 with hs1 | ⟨hs1, hx', hs3⟩
    all_goals
      refine fn_sound ((((Env.nil P).add 146 t_l6Inside h_l6Inside).add 147 t_l6Steps h_l6Steps).add 148 t_l6Part h_l6Part) hm k_spec_SkyLeg (Nat.le_of_ble_eq_true rfl) rfl ?_; unfold s_spec_SkyLeg; simp (config := { maxSteps := 2000000 }) only [bitvec_to_nat, reduceIte, Nat.reduceEqDiff, Nat.reduceAdd, Nat.reduceLeDiff, reduceCtorEq, Nat.reduceBEq, Nat.reduceLT, Nat.reduceMod, List.forall_mem_cons, t_l6Inside, t_l6Steps, t_l6Part, tk_map, dp_map, toNat_pred, appE, rowsOf, List.take_length, List.length_cons, List.length_nil, Nat.zero_add, srow, irow, un_s, un_i, Zone.row, Zone_eta, un_Zone, Word.row, Word_eta, Own.row, Own_eta, Part.row, Part_eta, Seen.row, Seen_eta, Book.row, Book_eta, Sector.row, Sector_eta, HCraft.row, HCraft_eta, World.row, World_eta, Pt.row, Pt_eta, Aw.row, Aw_eta, Blk.row, Blk_eta, Sec.row, Sec_eta, Rw.row, Rw_eta, Sky.row, Sky_eta, Place.row, Place_eta, Cell.row, Cell_eta, un_Word, un_Own, un_Part, un_Seen, un_Book, un_Sector, un_HCraft, un_World, un_Pt, un_Aw, un_Blk, un_Sec, un_Rw, un_Sky, un_Place, un_Cell, Nat.sub_zero, List.nil_append, tkl, ghost, hni, hnj, hs1, hx', hs3, not_true_eq_false, not_false_eq_true, true_or, or_true, or_false, false_or]
      refine ⟨_, _, .inr (.inl ⟨rfl, _, rfl, hC, rfl, n9⟩), ?_⟩
      simp (config := { maxSteps := 2000000 }) only [bitvec_to_nat, reduceIte, Nat.reduceEqDiff, Nat.reduceAdd, Nat.reduceLeDiff, reduceCtorEq, Nat.reduceBEq, Nat.reduceLT, Nat.reduceMod, List.forall_mem_cons, t_l6Inside, t_l6Steps, t_l6Part, tk_map, dp_map, toNat_pred, appE, rowsOf, List.take_length, List.length_cons, List.length_nil, Nat.zero_add, srow, irow, un_s, un_i, Zone.row, Zone_eta, un_Zone, Word.row, Word_eta, Own.row, Own_eta, Part.row, Part_eta, Seen.row, Seen_eta, Book.row, Book_eta, Sector.row, Sector_eta, HCraft.row, HCraft_eta, World.row, World_eta, Pt.row, Pt_eta, Aw.row, Aw_eta, Blk.row, Blk_eta, Sec.row, Sec_eta, Rw.row, Rw_eta, Sky.row, Sky_eta, Place.row, Place_eta, Cell.row, Cell_eta, un_Word, un_Own, un_Part, un_Seen, un_Book, un_Sector, un_HCraft, un_World, un_Pt, un_Aw, un_Blk, un_Sec, un_Rw, un_Sky, un_Place, un_Cell, Nat.sub_zero, List.nil_append, tkl, ghost, hni, hnj, hs1, hx', hs3, not_true_eq_false, not_false_eq_true, true_or, or_true, or_false, false_or]
      generalize legU b a = l at *
      refine ⟨by omega, ?_⟩
      refine loop_st (fun t : Nat => [(5, .own 110 t 0 t), (7, .int .i64 ((l.length : Int) - 1 - (t : Nat)))]) (fun t => [(110, .arr 148 t 2 ((l.reverse.take t).map Cell.row))]) (fun t => t ≤ l.length) (fun t => l.length - t) 0 (by simp only [List.take_zero, List.map_nil, e00]; simp only [u_E0, u_E1, u_M0, u_M1, w_setE0, w_setE1, w_setM0, w_setM1, reduceIte, Nat.reduceEqDiff]; exact ⟨by repeat' (first | exact trivial | refine ⟨.inr rfl, ?_⟩), by repeat' (first | exact trivial | refine ⟨rfl, ?_⟩), by first | rfl | simp [closedB, refsIn, refsInL, refsInO, dom, refsInL_nr, *], by first | rfl | simp [keepB, dom]⟩) (Nat.zero_le _) ?_
      intro t ht NX hN
      have hsu : t < l.length → _ := fun h => rev_snoc (l := l) h
      have tkl : List.take t ((l.reverse.take t).map Cell.row) = (l.reverse.take t).map Cell.row := List.take_of_length_le (by simp; omega)
      have e5 : (l.length : Int) - 1 - ((t + 1 : Nat) : Int) = (l.length : Int) - 1 - (t : Nat) - 1 := by omega
      have e6 : ((l.length : Int) - 1 - (t : Nat)).toNat = l.length - 1 - t := by omega
      by_cases h : t < l.length
      · have hsu := hsu h
        unfold l_spec_SkyLeg_0; simp (config := { maxSteps := 2000000 }) only [bitvec_to_nat, reduceIte, Nat.reduceEqDiff, Nat.reduceAdd, Nat.reduceLeDiff, reduceCtorEq, Nat.reduceBEq, Nat.reduceLT, Nat.reduceMod, List.forall_mem_cons, t_l6Inside, t_l6Steps, t_l6Part, tk_map, dp_map, toNat_pred, appE, rowsOf, List.take_length, List.length_cons, List.length_nil, Nat.zero_add, srow, irow, un_s, un_i, Zone.row, Zone_eta, un_Zone, Word.row, Word_eta, Own.row, Own_eta, Part.row, Part_eta, Seen.row, Seen_eta, Book.row, Book_eta, Sector.row, Sector_eta, HCraft.row, HCraft_eta, World.row, World_eta, Pt.row, Pt_eta, Aw.row, Aw_eta, Blk.row, Blk_eta, Sec.row, Sec_eta, Rw.row, Rw_eta, Sky.row, Sky_eta, Place.row, Place_eta, Cell.row, Cell_eta, un_Word, un_Own, un_Part, un_Seen, un_Book, un_Sector, un_HCraft, un_World, un_Pt, un_Aw, un_Blk, un_Sec, un_Rw, un_Sky, un_Place, un_Cell, Nat.sub_zero, List.nil_append, tkl, ghost, hni, hnj, hs1, hx', hs3, not_true_eq_false, not_false_eq_true, true_or, or_true, or_false, false_or, e6]
        repeat' (first | with_reducible apply And.intro | with_reducible intro _)
        all_goals first
          | omega
          | (refine hN (t + 1) _ ⟨by simp only [e5]; repeat' (first | exact trivial | refine ⟨.inr rfl, ?_⟩), ⟨rfl, rfl, congrArg (fun g => some (AObj.arr 148 (t + 1) 2 g)) hsu, trivial⟩, rfl, rfl⟩ h (by omega))
          | trace_state
      · have e : t = l.length := by omega
        subst e
        unfold l_spec_SkyLeg_0; simp (config := { maxSteps := 2000000 }) only [bitvec_to_nat, reduceIte, Nat.reduceEqDiff, Nat.reduceAdd, Nat.reduceLeDiff, reduceCtorEq, Nat.reduceBEq, Nat.reduceLT, Nat.reduceMod, List.forall_mem_cons, t_l6Inside, t_l6Steps, t_l6Part, tk_map, dp_map, toNat_pred, appE, rowsOf, List.take_length, List.length_cons, List.length_nil, Nat.zero_add, srow, irow, un_s, un_i, Zone.row, Zone_eta, un_Zone, Word.row, Word_eta, Own.row, Own_eta, Part.row, Part_eta, Seen.row, Seen_eta, Book.row, Book_eta, Sector.row, Sector_eta, HCraft.row, HCraft_eta, World.row, World_eta, Pt.row, Pt_eta, Aw.row, Aw_eta, Blk.row, Blk_eta, Sec.row, Sec_eta, Rw.row, Rw_eta, Sky.row, Sky_eta, Place.row, Place_eta, Cell.row, Cell_eta, un_Word, un_Own, un_Part, un_Seen, un_Book, un_Sector, un_HCraft, un_World, un_Pt, un_Aw, un_Blk, un_Sec, un_Rw, un_Sky, un_Place, un_Cell, Nat.sub_zero, List.nil_append, tkl, ghost, hni, hnj, hs1, hx', hs3, not_true_eq_false, not_false_eq_true, true_or, or_true, or_false, false_or]
        refine ⟨fun h' => absurd h' (by omega), fun _ => ?_⟩
        rw [List.take_of_length_le (by simp)]
  by_cases h : b.x < a.x
  · exact run (.inl (eq_true h))
  · exact run (.inr ⟨eq_false h, eq_true (hs.elim (fun k => absurd k h) fun k => k.1), eq_true (hs.elim (fun k => absurd k h) fun k => k.2)⟩)
theorem c_SkyLeg (a b : Cell) (ha : a.inn) (hb : b.inn) : Contract P 105 [.agg a.row, .agg b.row] [] (.sl 0 2 ((legOf a b).map Cell.row)) [] := by
  by_cases h : sw a b
  · rw [legOf, if_pos h]; exact c_legSw a b ha hb h
  · rw [legOf, if_neg h]; exact c_legU0 a b ha hb (fun k => h (.inl k)) fun k k' => h (.inr ⟨k, k'⟩)
def t_SkyLeg : List AV → Option (Prop × AV)
  | [.agg [.int .i64 a_x, .int .i64 a_y], .agg [.int .i64 b_x, .int .i64 b_y]] => some ((True) ∧ (Cell.inn (Cell.mk a_x a_y) ∧ Cell.inn (Cell.mk b_x b_y)), .sl 0 2 ((legOf (Cell.mk a_x a_y) (Cell.mk b_x b_y)).map Cell.row))
  | _ => none
theorem h_SkyLeg : ∀ args p v, t_SkyLeg args = some (p, v) → p → Contract P 105 args [] v [] ∧ noref v = true ∧ No99 v := by
  intro args p v h1 h2
  unfold t_SkyLeg at h1
  split at h1
  · rename_i a_x a_y b_x b_y
    cases h1
    obtain ⟨_, HP⟩ := h2
    have := c_SkyLeg (Cell.mk a_x a_y) (Cell.mk b_x b_y) HP.1 HP.2
    exact ⟨by simpa only [Cell.row, Cell.row] using this, rfl, by simp only [No99]; exact ⟨by omega, no99_Cell _⟩⟩
  · cases h1
def rvAt (l0 l : List Cell) (i : Nat) : Prop := l.length = l0.length ∧ ∀ t, t < l0.length → l.getD t default = if t < i ∨ l0.length - 1 - i < t then l0.getD (l0.length - 1 - t) default else l0.getD t default
theorem setm_Cell {l : List Cell} {i : Nat} {x y : Int} : (l.map Cell.row).set i (setSeg ((l.map Cell.row).getD i []) 0 [.int .i64 x, .int .i64 y]) = (l.set i ⟨x, y⟩).map Cell.row :=
  set_rows (α := Cell) (f := Cell.row) (fun _ => ⟨x, y⟩) fun c => by simp [Cell.row, setSeg]
set_option maxHeartbeats 1000000 in
theorem c_reverse (v : Nat) (l0 : List Cell) (hl : l0.length ≤ 1048576) : Contract P 150 [.own 3 v 0 l0.length] [(3, .arr 104 v 2 (l0.map Cell.row))] (.tup []) [(3, .arr 104 v 2 (l0.reverse.map Cell.row))] := by
  have tkl : True := trivial
  have hgi : True := trivial
  have hgj : True := trivial
  have e00 : (l0.length : Int) - 1 - ((0 : Nat) : Int) = (l0.length : Int) - 1 := by omega
  refine fn_sound (Env.nil P) hm k_slices_Reverse__2_int (Nat.le_of_ble_eq_true rfl) rfl ?_; unfold s_slices_Reverse__2_int; simp (config := { maxSteps := 2000000 }) only [bitvec_to_nat, reduceIte, Nat.reduceEqDiff, Nat.reduceAdd, Nat.reduceLeDiff, reduceCtorEq, Nat.reduceBEq, Nat.reduceLT, Nat.reduceMod, List.forall_mem_cons, retG_ret, retQ_eq, retQ_eqN, retOk, keepB, re_tupl, orr_t, tk_map, dp_map, toNat_pred, appE, rowsOf, List.take_length, List.length_cons, List.length_nil, Nat.zero_add, srow, irow, un_s, un_i, Zone.row, Zone_eta, un_Zone, Word.row, Word_eta, Own.row, Own_eta, Part.row, Part_eta, Seen.row, Seen_eta, Book.row, Book_eta, Sector.row, Sector_eta, HCraft.row, HCraft_eta, World.row, World_eta, Pt.row, Pt_eta, Aw.row, Aw_eta, Blk.row, Blk_eta, Sec.row, Sec_eta, Rw.row, Rw_eta, Sky.row, Sky_eta, Place.row, Place_eta, Cell.row, Cell_eta, un_Word, un_Own, un_Part, un_Seen, un_Book, un_Sector, un_HCraft, un_World, un_Pt, un_Aw, un_Blk, un_Sec, un_Rw, un_Sky, un_Place, un_Cell, Nat.sub_zero, List.nil_append, tkl, hgi, setm_Cell, Cell_eta, Int.toNat_natCast, List.length_set, List.length_map]
  refine ⟨by omega, ?_⟩
  refine loop_st (fun b : Nat × List Cell => [(2, .int .i64 b.1), (3, .int .i64 ((l0.length : Int) - 1 - (b.1 : Nat)))]) (fun b => [(3, .arr 104 v 2 (b.2.map Cell.row))]) (fun b => rvAt l0 b.2 b.1 ∧ 2 * b.1 ≤ l0.length + 1) (fun b => l0.length + 1 - b.1) (0, l0) (by simp only [e00]; simp only [u_E0, u_E1, u_M0, u_M1, w_setE0, w_setE1, w_setM0, w_setM1, reduceIte, Nat.reduceEqDiff]; exact ⟨by repeat' (first | exact trivial | refine ⟨.inr rfl, ?_⟩), by repeat' (first | exact trivial | refine ⟨rfl, ?_⟩), by first | rfl | simp [closedB, refsIn, refsInL, refsInO, dom, refsInL_nr, *], by first | rfl | simp [keepB, dom]⟩) ⟨⟨rfl, fun t ht => by rw [if_neg (by omega)]⟩, by omega⟩ ?_
  rintro ⟨i, l⟩ ⟨⟨h1, h2⟩, h3⟩ NX hN
  simp only at h1 h2 h3
  have e5 : (l0.length : Int) - 1 - ((i + 1 : Nat) : Int) = (l0.length : Int) - 1 - (i : Nat) - 1 := by omega
  have hgi : ((l0.length : Int) - 1 - (i : Nat)).toNat = l0.length - 1 - i := by omega
  by_cases h : (i : Int) < (l0.length : Int) - 1 - (i : Nat)
  · unfold l_slices_Reverse__2_int_0; simp (config := { maxSteps := 2000000 }) only [bitvec_to_nat, reduceIte, Nat.reduceEqDiff, Nat.reduceAdd, Nat.reduceLeDiff, reduceCtorEq, Nat.reduceBEq, Nat.reduceLT, Nat.reduceMod, List.forall_mem_cons, retG_ret, retQ_eq, retQ_eqN, retOk, keepB, re_tupl, orr_t, tk_map, dp_map, toNat_pred, appE, rowsOf, List.take_length, List.length_cons, List.length_nil, Nat.zero_add, srow, irow, un_s, un_i, Zone.row, Zone_eta, un_Zone, Word.row, Word_eta, Own.row, Own_eta, Part.row, Part_eta, Seen.row, Seen_eta, Book.row, Book_eta, Sector.row, Sector_eta, HCraft.row, HCraft_eta, World.row, World_eta, Pt.row, Pt_eta, Aw.row, Aw_eta, Blk.row, Blk_eta, Sec.row, Sec_eta, Rw.row, Rw_eta, Sky.row, Sky_eta, Place.row, Place_eta, Cell.row, Cell_eta, un_Word, un_Own, un_Part, un_Seen, un_Book, un_Sector, un_HCraft, un_World, un_Pt, un_Aw, un_Blk, un_Sec, un_Rw, un_Sky, un_Place, un_Cell, Nat.sub_zero, List.nil_append, tkl, hgi, setm_Cell, Cell_eta, Int.toNat_natCast, List.length_set, List.length_map]
    have a1 := h2 i (by omega)
    have a2 := h2 (l0.length - 1 - i) (by omega)
    rw [if_neg (by omega)] at a1 a2
    repeat' (first | with_reducible apply And.intro | with_reducible intro _)
    all_goals first
      | omega
      | (refine hN (i + 1, (l.set i (l.getD (l0.length - 1 - i) default)).set (l0.length - 1 - i) (l.getD i default)) _ (by simp only [e5]; simp only [u_E0, u_E1, u_M0, u_M1, w_setE0, w_setE1, w_setM0, w_setM1, reduceIte, Nat.reduceEqDiff]; exact ⟨by repeat' (first | exact trivial | refine ⟨.inr rfl, ?_⟩), by repeat' (first | exact trivial | refine ⟨rfl, ?_⟩), by first | rfl | simp [closedB, refsIn, refsInL, refsInO, dom, refsInL_nr, *], by first | rfl | simp [keepB, dom]⟩) ⟨⟨by simp [h1], fun t ht => ?_⟩, by simp only; omega⟩ (by simp only; omega)
         simp only
         by_cases q1 : t = l0.length - 1 - i
         · subst q1
           rw [getD_seti' (by rw [List.length_set]; omega), if_pos (by omega), a1]; congr 1; omega
         · rw [getD_setn' (Ne.symm q1)]
           by_cases q2 : t = i
           · subst q2; rw [getD_seti' (by omega), if_pos (by omega), a2]
           · rw [getD_setn' (Ne.symm q2), h2 t ht]
             by_cases q3 : t < i ∨ l0.length - 1 - i < t
             · rw [if_pos q3, if_pos (by omega)]
             · rw [if_neg q3, if_neg (by omega)])
      | trace_state
  · unfold l_slices_Reverse__2_int_0; simp (config := { maxSteps := 2000000 }) only [bitvec_to_nat, reduceIte, Nat.reduceEqDiff, Nat.reduceAdd, Nat.reduceLeDiff, reduceCtorEq, Nat.reduceBEq, Nat.reduceLT, Nat.reduceMod, List.forall_mem_cons, retG_ret, retQ_eq, retQ_eqN, retOk, keepB, re_tupl, orr_t, tk_map, dp_map, toNat_pred, appE, rowsOf, List.take_length, List.length_cons, List.length_nil, Nat.zero_add, srow, irow, un_s, un_i, Zone.row, Zone_eta, un_Zone, Word.row, Word_eta, Own.row, Own_eta, Part.row, Part_eta, Seen.row, Seen_eta, Book.row, Book_eta, Sector.row, Sector_eta, HCraft.row, HCraft_eta, World.row, World_eta, Pt.row, Pt_eta, Aw.row, Aw_eta, Blk.row, Blk_eta, Sec.row, Sec_eta, Rw.row, Rw_eta, Sky.row, Sky_eta, Place.row, Place_eta, Cell.row, Cell_eta, un_Word, un_Own, un_Part, un_Seen, un_Book, un_Sector, un_HCraft, un_World, un_Pt, un_Aw, un_Blk, un_Sec, un_Rw, un_Sky, un_Place, un_Cell, Nat.sub_zero, List.nil_append, tkl, hgi, setm_Cell, Cell_eta, Int.toNat_natCast, List.length_set, List.length_map]
    have e : l = l0.reverse := ext_of (by simp [h1]) fun t ht => by
      have ht' : t < l0.length := by omega
      rw [h2 t ht']
      have e9 : l0.reverse.getD t default = l0.getD (l0.length - 1 - t) default := by
        have : l0.length - 1 - t < l0.length := by omega
        simp [List.getElem?_reverse, ht', this]
      rw [e9]
      split
      · rfl
      · congr 1; omega
    refine ⟨fun h' => absurd h' h, fun _ => ?_⟩
    subst e
    exact ⟨⟨[], rfl, rfl⟩, rfl⟩
end
end Go.Ve

namespace Go.Ve
noncomputable section
open Go.Proofs
set_option linter.unusedSimpArgs false
set_option linter.unusedVariables false
set_option maxRecDepth 100000
set_option maxHeartbeats 2000000 in
theorem c_legU (a b : Cell) (ha : a.inn) (hb : b.inn) (hs : ¬ sw a b) : Contract P 106 [.int .i64 a.x, .int .i64 a.y, .int .i64 b.x, .int .i64 b.y] [] (.sl 0 2 ((legOf a b).map Cell.row)) [] := by
  have tkl : True := trivial
  have hlo : legOf a b = legU a b := if_neg hs
  rw [hlo]
  have hst := steps_le ha hb
  have hmx : (if max (a.y - b.y) (b.y - a.y) > max (a.x - b.x) (b.x - a.x) then max (a.y - b.y) (b.y - a.y) else max (a.x - b.x) (b.x - a.x)) = steps a b := by unfold steps iabs; split <;> split <;> split <;> omega
  unfold Cell.inn at ha hb
  unfold sw at hs
  have run : ∀ (hs1 : ((b.x < a.x) = False ∧ (a.x = b.x) = False ∧ True) ∨ ((b.x < a.x) = False ∧ (a.x = b.x) = True ∧ (b.y < a.y) = False)), Contract P 106 [.int .i64 a.x, .int .i64 a.y, .int .i64 b.x, .int .i64 b.y] [] (.sl 0 2 ((legU a b).map Cell.row)) [] := by
    intro hs1
    rcases hs1 with ⟨hs1, hx', hs3⟩ | ⟨hs1, hx', hs3⟩
    all_goals
      refine fn_sound (((Env.nil P).add 141 t_dist h_dist).add 149 t_floorDiv h_floorDiv) hm k_impl_leg (Nat.le_of_ble_eq_true rfl) rfl ?_; unfold s_impl_leg; simp (config := { maxSteps := 2000000 }) only [bitvec_to_nat, reduceIte, Nat.reduceEqDiff, Nat.reduceAdd, Nat.reduceLeDiff, reduceCtorEq, Nat.reduceBEq, Nat.reduceLT, Nat.reduceMod, List.forall_mem_cons, retG_ret, retQ_eq, retQ_eqN, retOk, keepB, re_tupl, orr_t, t_dist, t_floorDiv, tk_map, dp_map, toNat_pred, appE, rowsOf, List.take_length, List.length_cons, List.length_nil, Nat.zero_add, srow, irow, un_s, un_i, Zone.row, Zone_eta, un_Zone, Word.row, Word_eta, Own.row, Own_eta, Part.row, Part_eta, Seen.row, Seen_eta, Book.row, Book_eta, Sector.row, Sector_eta, HCraft.row, HCraft_eta, World.row, World_eta, Pt.row, Pt_eta, Aw.row, Aw_eta, Blk.row, Blk_eta, Sec.row, Sec_eta, Rw.row, Rw_eta, Sky.row, Sky_eta, Place.row, Place_eta, Cell.row, Cell_eta, un_Word, un_Own, un_Part, un_Seen, un_Book, un_Sector, un_HCraft, un_World, un_Pt, un_Aw, un_Blk, un_Sec, un_Rw, un_Sky, un_Place, un_Cell, Nat.sub_zero, List.nil_append, tkl, ghost, hs1, hx', hs3, hmx, not_true_eq_false, not_false_eq_true, true_or, or_true, or_false, false_or]
      refine ⟨by omega, by omega, ?_⟩
      refine loop_st (fun m : Nat => [(11, .own 111 m 0 m), (12, .int .i64 m)]) (fun m => [(111, .arr 104 m 2 ((lgK a b m).map Cell.row))]) (fun m => (m : Int) ≤ steps a b + 1) (fun m => ((steps a b).toNat + 1) - m) 0 (by rw [show (lgK a b 0).map Cell.row = [] from rfl]; simp only [u_E0, u_E1, u_M0, u_M1, w_setE0, w_setE1, w_setM0, w_setM1, reduceIte, Nat.reduceEqDiff]; exact ⟨by repeat' (first | exact trivial | refine ⟨.inr rfl, ?_⟩), by repeat' (first | exact trivial | refine ⟨rfl, ?_⟩), by first | rfl | simp [closedB, refsIn, refsInL, refsInO, dom, refsInL_nr, *], by first | rfl | simp [keepB, dom]⟩) (by omega) ?_
      intro m h2 NX hN
      have hsu := lgK_succ (a := a) (b := b) (m := m)
      have tkl : List.take m ((lgK a b m).map Cell.row) = (lgK a b m).map Cell.row := List.take_of_length_le (by simp [lgK_len])
      by_cases h : (m : Int) ≤ steps a b
      · have hp1 : steps a b ≠ 0 → _ := fun hne => part_b (d := b.x - a.x) (k := m) (n := steps a b) (by omega) (by omega) (by omega)
        have hp2 : steps a b ≠ 0 → _ := fun hne => part_b (d := b.y - a.y) (k := m) (n := steps a b) (by omega) (by omega) (by omega)
        have hm1 := mulB (a := 2 * (m : Int)) (b := b.x - a.x) (A := 30) (B := 15) (by omega) (by omega) (by omega) (by omega)
        have hm2 := mulB (a := 2 * (m : Int)) (b := b.y - a.y) (A := 30) (B := 15) (by omega) (by omega) (by omega) (by omega)
        unfold part at hp1 hp2
        unfold l_impl_leg_0; simp (config := { maxSteps := 2000000 }) only [bitvec_to_nat, reduceIte, Nat.reduceEqDiff, Nat.reduceAdd, Nat.reduceLeDiff, reduceCtorEq, Nat.reduceBEq, Nat.reduceLT, Nat.reduceMod, List.forall_mem_cons, retG_ret, retQ_eq, retQ_eqN, retOk, keepB, re_tupl, orr_t, t_dist, t_floorDiv, tk_map, dp_map, toNat_pred, appE, rowsOf, List.take_length, List.length_cons, List.length_nil, Nat.zero_add, srow, irow, un_s, un_i, Zone.row, Zone_eta, un_Zone, Word.row, Word_eta, Own.row, Own_eta, Part.row, Part_eta, Seen.row, Seen_eta, Book.row, Book_eta, Sector.row, Sector_eta, HCraft.row, HCraft_eta, World.row, World_eta, Pt.row, Pt_eta, Aw.row, Aw_eta, Blk.row, Blk_eta, Sec.row, Sec_eta, Rw.row, Rw_eta, Sky.row, Sky_eta, Place.row, Place_eta, Cell.row, Cell_eta, un_Word, un_Own, un_Part, un_Seen, un_Book, un_Sector, un_HCraft, un_World, un_Pt, un_Aw, un_Blk, un_Sec, un_Rw, un_Sky, un_Place, un_Cell, Nat.sub_zero, List.nil_append, tkl, ghost, hs1, hx', hs3, hmx, not_true_eq_false, not_false_eq_true, true_or, or_true, or_false, false_or]
        refine ⟨fun _ => ⟨fun h0 => ?_, fun h0 => ?_⟩, fun hc => absurd h hc⟩
        · have e1 : legU a b = lgK a b 1 := by rw [legU, h0]; rfl
          obtain rfl : m = 0 := by omega
          exact ⟨by omega, by rw [e1, lgK_1]; rfl⟩
        · have hp1 := hp1 h0
          have hp2 := hp2 h0
          repeat' (first | with_reducible apply And.intro | with_reducible intro _)
          all_goals first
            | omega
            | (refine hN (m + 1) _ ⟨by repeat' (first | exact trivial | refine ⟨.inr rfl, ?_⟩), ⟨congrArg (fun g => some (AObj.arr 104 (m + 1) 2 g)) hsu, trivial⟩, rfl, rfl⟩ (by omega) (by omega))
            | trace_state
      · have e : m = (steps a b).toNat + 1 := by omega
        unfold l_impl_leg_0; simp (config := { maxSteps := 2000000 }) only [bitvec_to_nat, reduceIte, Nat.reduceEqDiff, Nat.reduceAdd, Nat.reduceLeDiff, reduceCtorEq, Nat.reduceBEq, Nat.reduceLT, Nat.reduceMod, List.forall_mem_cons, retG_ret, retQ_eq, retQ_eqN, retOk, keepB, re_tupl, orr_t, t_dist, t_floorDiv, tk_map, dp_map, toNat_pred, appE, rowsOf, List.take_length, List.length_cons, List.length_nil, Nat.zero_add, srow, irow, un_s, un_i, Zone.row, Zone_eta, un_Zone, Word.row, Word_eta, Own.row, Own_eta, Part.row, Part_eta, Seen.row, Seen_eta, Book.row, Book_eta, Sector.row, Sector_eta, HCraft.row, HCraft_eta, World.row, World_eta, Pt.row, Pt_eta, Aw.row, Aw_eta, Blk.row, Blk_eta, Sec.row, Sec_eta, Rw.row, Rw_eta, Sky.row, Sky_eta, Place.row, Place_eta, Cell.row, Cell_eta, un_Word, un_Own, un_Part, un_Seen, un_Book, un_Sector, un_HCraft, un_World, un_Pt, un_Aw, un_Blk, un_Sec, un_Rw, un_Sky, un_Place, un_Cell, Nat.sub_zero, List.nil_append, tkl, ghost, hs1, hx', hs3, hmx, not_true_eq_false, not_false_eq_true, true_or, or_true, or_false, false_or]
        refine ⟨fun h' => absurd h' h, fun _ => ?_⟩
        rw [e]; rfl
  exact run (by by_cases h : a.x = b.x; exact .inr ⟨eq_false (by omega), eq_true h, eq_false (by omega)⟩; exact .inl ⟨eq_false (by omega), eq_false h, trivial⟩)
set_option maxHeartbeats 2000000 in
theorem c_legS (a b : Cell) (ha : a.inn) (hb : b.inn) (hs : sw a b) : Contract P 106 [.int .i64 a.x, .int .i64 a.y, .int .i64 b.x, .int .i64 b.y] [] (.sl 0 2 ((legOf a b).map Cell.row)) [] := by
  have tkl : True := trivial
  have hlo : legOf a b = (legU b a).reverse := if_pos hs
  rw [hlo]
  have hst := steps_le hb ha
  have hmx : (if max (b.y - a.y) (a.y - b.y) > max (b.x - a.x) (a.x - b.x) then max (b.y - a.y) (a.y - b.y) else max (b.x - a.x) (a.x - b.x)) = steps b a := by unfold steps iabs; split <;> split <;> split <;> omega
  unfold Cell.inn at ha hb
  unfold sw at hs
  have run : ∀ (hs1 : ((b.x < a.x) = True ∧ True ∧ True) ∨ ((b.x < a.x) = False ∧ (a.x = b.x) = True ∧ (b.y < a.y) = True)), Contract P 106 [.int .i64 a.x, .int .i64 a.y, .int .i64 b.x, .int .i64 b.y] [] (.sl 0 2 (((legU b a).reverse).map Cell.row)) [] := by
    intro hs1
    rcases hs1 with ⟨hs1, hx', hs3⟩ | ⟨hs1, hx', hs3⟩
    all_goals
      refine fn_sound (((Env.nil P).add 141 t_dist h_dist).add 149 t_floorDiv h_floorDiv) hm k_impl_leg (Nat.le_of_ble_eq_true rfl) rfl ?_; unfold s_impl_leg; simp (config := { maxSteps := 2000000 }) only [bitvec_to_nat, reduceIte, Nat.reduceEqDiff, Nat.reduceAdd, Nat.reduceLeDiff, reduceCtorEq, Nat.reduceBEq, Nat.reduceLT, Nat.reduceMod, List.forall_mem_cons, retG_ret, retQ_eq, retQ_eqN, retOk, keepB, re_tupl, orr_t, t_dist, t_floorDiv, tk_map, dp_map, toNat_pred, appE, rowsOf, List.take_length, List.length_cons, List.length_nil, Nat.zero_add, srow, irow, un_s, un_i, Zone.row, Zone_eta, un_Zone, Word.row, Word_eta, Own.row, Own_eta, Part.row, Part_eta, Seen.row, Seen_eta, Book.row, Book_eta, Sector.row, Sector_eta, HCraft.row, HCraft_eta, World.row, World_eta, Pt.row, Pt_eta, Aw.row, Aw_eta, Blk.row, Blk_eta, Sec.row, Sec_eta, Rw.row, Rw_eta, Sky.row, Sky_eta, Place.row, Place_eta, Cell.row, Cell_eta, un_Word, un_Own, un_Part, un_Seen, un_Book, un_Sector, un_HCraft, un_World, un_Pt, un_Aw, un_Blk, un_Sec, un_Rw, un_Sky, un_Place, un_Cell, Nat.sub_zero, List.nil_append, tkl, ghost, hs1, hx', hs3, hmx, not_true_eq_false, not_false_eq_true, true_or, or_true, or_false, false_or]
      refine ⟨by omega, by omega, ?_⟩
      refine loop_st (fun m : Nat => [(11, .own 111 m 0 m), (12, .int .i64 m)]) (fun m => [(111, .arr 104 m 2 ((lgK b a m).map Cell.row))]) (fun m => (m : Int) ≤ steps b a + 1) (fun m => ((steps b a).toNat + 1) - m) 0 (by rw [show (lgK b a 0).map Cell.row = [] from rfl]; simp only [u_E0, u_E1, u_M0, u_M1, w_setE0, w_setE1, w_setM0, w_setM1, reduceIte, Nat.reduceEqDiff]; exact ⟨by repeat' (first | exact trivial | refine ⟨.inr rfl, ?_⟩), by repeat' (first | exact trivial | refine ⟨rfl, ?_⟩), by first | rfl | simp [closedB, refsIn, refsInL, refsInO, dom, refsInL_nr, *], by first | rfl | simp [keepB, dom]⟩) (by omega) ?_
      intro m h2 NX hN
      have hsu := lgK_succ (a := b) (b := a) (m := m)
      have tkl : List.take m ((lgK b a m).map Cell.row) = (lgK b a m).map Cell.row := List.take_of_length_le (by simp [lgK_len])
      by_cases h : (m : Int) ≤ steps b a
      · have hp1 : steps b a ≠ 0 → _ := fun hne => part_b (d := a.x - b.x) (k := m) (n := steps b a) (by omega) (by omega) (by omega)
        have hp2 : steps b a ≠ 0 → _ := fun hne => part_b (d := a.y - b.y) (k := m) (n := steps b a) (by omega) (by omega) (by omega)
        have hm1 := mulB (a := 2 * (m : Int)) (b := a.x - b.x) (A := 30) (B := 15) (by omega) (by omega) (by omega) (by omega)
        have hm2 := mulB (a := 2 * (m : Int)) (b := a.y - b.y) (A := 30) (B := 15) (by omega) (by omega) (by omega) (by omega)
        unfold part at hp1 hp2
        unfold l_impl_leg_0; simp (config := { maxSteps := 2000000 }) only [bitvec_to_nat, reduceIte, Nat.reduceEqDiff, Nat.reduceAdd, Nat.reduceLeDiff, reduceCtorEq, Nat.reduceBEq, Nat.reduceLT, Nat.reduceMod, List.forall_mem_cons, retG_ret, retQ_eq, retQ_eqN, retOk, keepB, re_tupl, orr_t, t_dist, t_floorDiv, tk_map, dp_map, toNat_pred, appE, rowsOf, List.take_length, List.length_cons, List.length_nil, Nat.zero_add, srow, irow, un_s, un_i, Zone.row, Zone_eta, un_Zone, Word.row, Word_eta, Own.row, Own_eta, Part.row, Part_eta, Seen.row, Seen_eta, Book.row, Book_eta, Sector.row, Sector_eta, HCraft.row, HCraft_eta, World.row, World_eta, Pt.row, Pt_eta, Aw.row, Aw_eta, Blk.row, Blk_eta, Sec.row, Sec_eta, Rw.row, Rw_eta, Sky.row, Sky_eta, Place.row, Place_eta, Cell.row, Cell_eta, un_Word, un_Own, un_Part, un_Seen, un_Book, un_Sector, un_HCraft, un_World, un_Pt, un_Aw, un_Blk, un_Sec, un_Rw, un_Sky, un_Place, un_Cell, Nat.sub_zero, List.nil_append, tkl, ghost, hs1, hx', hs3, hmx, not_true_eq_false, not_false_eq_true, true_or, or_true, or_false, false_or]
        refine ⟨fun _ => ⟨fun h0 => ?_, fun h0 => ?_⟩, fun hc => absurd h hc⟩
        · have e1 : legU b a = lgK b a 1 := by rw [legU, h0]; rfl
          obtain rfl : m = 0 := by omega
          refine ⟨by omega, ?_⟩
          have e2 : (lgK b a 0).map Cell.row ++ [[.int .i64 b.x, .int .i64 b.y]] = (lgK b a 1).map Cell.row := by rw [lgK_1]; rfl
          rw [e2]
          have hR := (c_reverse (0 + 1) (lgK b a 1) (by rw [lgK_len]; omega)).ren (swp 3 111) (swp_swp _ _)
          simp only [renL, ren, renM, renO, swp, reduceIte, Nat.reduceLT, lgK_len] at hR
          refine ⟨_, _, .inl ⟨_, hR, by simp [getM], by simp [dom], rfl, rfl, rfl, rfl, rfl⟩, ?_⟩
          simp (config := { maxSteps := 2000000 }) only [bitvec_to_nat, reduceIte, Nat.reduceEqDiff, Nat.reduceAdd, Nat.reduceLeDiff, reduceCtorEq, Nat.reduceBEq, Nat.reduceLT, Nat.reduceMod, List.forall_mem_cons, retG_ret, retQ_eq, retQ_eqN, retOk, keepB, re_tupl, orr_t, t_dist, t_floorDiv, tk_map, dp_map, toNat_pred, appE, rowsOf, List.take_length, List.length_cons, List.length_nil, Nat.zero_add, srow, irow, un_s, un_i, Zone.row, Zone_eta, un_Zone, Word.row, Word_eta, Own.row, Own_eta, Part.row, Part_eta, Seen.row, Seen_eta, Book.row, Book_eta, Sector.row, Sector_eta, HCraft.row, HCraft_eta, World.row, World_eta, Pt.row, Pt_eta, Aw.row, Aw_eta, Blk.row, Blk_eta, Sec.row, Sec_eta, Rw.row, Rw_eta, Sky.row, Sky_eta, Place.row, Place_eta, Cell.row, Cell_eta, un_Word, un_Own, un_Part, un_Seen, un_Book, un_Sector, un_HCraft, un_World, un_Pt, un_Aw, un_Blk, un_Sec, un_Rw, un_Sky, un_Place, un_Cell, Nat.sub_zero, List.nil_append, tkl, ghost, hs1, hx', hs3, hmx, not_true_eq_false, not_false_eq_true, true_or, or_true, or_false, false_or]
          rw [e1, List.take_of_length_le (by simp [lgK_len])]
        · have hp1 := hp1 h0
          have hp2 := hp2 h0
          repeat' (first | with_reducible apply And.intro | with_reducible intro _)
          all_goals first
            | omega
            | (refine hN (m + 1) _ ⟨by repeat' (first | exact trivial | refine ⟨.inr rfl, ?_⟩), ⟨congrArg (fun g => some (AObj.arr 104 (m + 1) 2 g)) hsu, trivial⟩, rfl, rfl⟩ (by omega) (by omega))
            | trace_state
      · have e : m = (steps b a).toNat + 1 := by omega
        unfold l_impl_leg_0; simp (config := { maxSteps := 2000000 }) only [bitvec_to_nat, reduceIte, Nat.reduceEqDiff, Nat.reduceAdd, Nat.reduceLeDiff, reduceCtorEq, Nat.reduceBEq, Nat.reduceLT, Nat.reduceMod, List.forall_mem_cons, retG_ret, retQ_eq, retQ_eqN, retOk, keepB, re_tupl, orr_t, t_dist, t_floorDiv, tk_map, dp_map, toNat_pred, appE, rowsOf, List.take_length, List.length_cons, List.length_nil, Nat.zero_add, srow, irow, un_s, un_i, Zone.row, Zone_eta, un_Zone, Word.row, Word_eta, Own.row, Own_eta, Part.row, Part_eta, Seen.row, Seen_eta, Book.row, Book_eta, Sector.row, Sector_eta, HCraft.row, HCraft_eta, World.row, World_eta, Pt.row, Pt_eta, Aw.row, Aw_eta, Blk.row, Blk_eta, Sec.row, Sec_eta, Rw.row, Rw_eta, Sky.row, Sky_eta, Place.row, Place_eta, Cell.row, Cell_eta, un_Word, un_Own, un_Part, un_Seen, un_Book, un_Sector, un_HCraft, un_World, un_Pt, un_Aw, un_Blk, un_Sec, un_Rw, un_Sky, un_Place, un_Cell, Nat.sub_zero, List.nil_append, tkl, ghost, hs1, hx', hs3, hmx, not_true_eq_false, not_false_eq_true, true_or, or_true, or_false, false_or]
        refine ⟨fun h' => absurd h' h, fun _ => ?_⟩
        have hR := (c_reverse m (lgK b a m) (by rw [lgK_len]; omega)).ren (swp 3 111) (swp_swp _ _)
        simp only [renL, ren, renM, renO, swp, reduceIte, Nat.reduceLT, lgK_len] at hR
        refine ⟨_, _, .inl ⟨_, hR, by simp [getM], by simp [dom], rfl, rfl, rfl, rfl, rfl⟩, ?_⟩
        simp (config := { maxSteps := 2000000 }) only [bitvec_to_nat, reduceIte, Nat.reduceEqDiff, Nat.reduceAdd, Nat.reduceLeDiff, reduceCtorEq, Nat.reduceBEq, Nat.reduceLT, Nat.reduceMod, List.forall_mem_cons, retG_ret, retQ_eq, retQ_eqN, retOk, keepB, re_tupl, orr_t, t_dist, t_floorDiv, tk_map, dp_map, toNat_pred, appE, rowsOf, List.take_length, List.length_cons, List.length_nil, Nat.zero_add, srow, irow, un_s, un_i, Zone.row, Zone_eta, un_Zone, Word.row, Word_eta, Own.row, Own_eta, Part.row, Part_eta, Seen.row, Seen_eta, Book.row, Book_eta, Sector.row, Sector_eta, HCraft.row, HCraft_eta, World.row, World_eta, Pt.row, Pt_eta, Aw.row, Aw_eta, Blk.row, Blk_eta, Sec.row, Sec_eta, Rw.row, Rw_eta, Sky.row, Sky_eta, Place.row, Place_eta, Cell.row, Cell_eta, un_Word, un_Own, un_Part, un_Seen, un_Book, un_Sector, un_HCraft, un_World, un_Pt, un_Aw, un_Blk, un_Sec, un_Rw, un_Sky, un_Place, un_Cell, Nat.sub_zero, List.nil_append, tkl, ghost, hs1, hx', hs3, hmx, not_true_eq_false, not_false_eq_true, true_or, or_true, or_false, false_or]
        rw [List.take_of_length_le (by simp [lgK_len]), e]; rfl
  exact run (by by_cases h : b.x < a.x; exact .inl ⟨eq_true h, trivial, trivial⟩; exact .inr ⟨eq_false h, eq_true (by omega), eq_true (by omega)⟩)
theorem c_leg (a b : Cell) (ha : a.inn) (hb : b.inn) : Contract P 106 [.int .i64 a.x, .int .i64 a.y, .int .i64 b.x, .int .i64 b.y] [] (.sl 0 2 ((legOf a b).map Cell.row)) [] := by
  by_cases h : sw a b
  · exact c_legS a b ha hb h
  · exact c_legU a b ha hb h
def t_leg : List AV → Option (Prop × AV)
  | [.int .i64 a, .int .i64 b, .int .i64 c, .int .i64 d] => some (Cell.inn ⟨a, b⟩ ∧ Cell.inn ⟨c, d⟩, .sl 0 2 ((legOf ⟨a, b⟩ ⟨c, d⟩).map Cell.row))
  | _ => none
theorem h_leg : ∀ args p v, t_leg args = some (p, v) → p → Contract P 106 args [] v [] ∧ noref v = true ∧ No99 v := by
  intro args p v h1 h2
  unfold t_leg at h1
  split at h1
  · rename_i a b c d
    cases h1
    exact ⟨c_leg ⟨a, b⟩ ⟨c, d⟩ h2.1 h2.2, rfl, by simp only [No99]; exact ⟨by omega, no99_Cell _⟩⟩
  · cases h1
end
end Go.Ve

namespace Go.Ve
noncomputable section
open Go.Proofs
set_option linter.unusedSimpArgs false
set_option linter.unusedVariables false
set_option maxRecDepth 100000
theorem c_IndexFunc_Pt (g : FuncId) (hg : calleeB P g = true) (ls : List AV) (hls : norefL ls = true) (p : Pt → Bool) (t : Nat) (zs : List Pt) (hl : zs.length ≤ 4611686018427387904)
    (hC : ∀ z, Contract P g (.agg (Pt.row z) :: [.ptr 3 0]) [(3, .box ls)] (.bool (p z)) [(3, .box ls)]) : Contract P 139 [.sl t 3 (zs.map Pt.row), .fn g [] [.ptr 3 0]] [(3, .box ls)] (.int .i64 (fIdx p zs)) [(3, .box ls)] := by
  refine fn_sound (Env.nil P) hm k_slices_IndexFunc_SkyPoint (Nat.le_of_ble_eq_true rfl) rfl ?_; unfold s_slices_IndexFunc_SkyPoint; simp (config := { maxSteps := 2000000 }) only [bitvec_to_nat, reduceIte, Nat.reduceEqDiff, Nat.reduceAdd, Nat.reduceLeDiff, reduceCtorEq, Nat.reduceBEq, Nat.reduceLT, Nat.reduceMod, List.forall_mem_cons, retG_ret, retQ_eq, retQ_eqN, retOk, keepB, re_tupl, orr_t, callL_nil]
  refine loop_st (fun i : Nat => [(8, .int .i64 i)]) (fun _ => []) (fun i => i ≤ zs.length ∧ ∀ j, j < i → p (zs.getD j default) = false) (fun i => zs.length - i) (0) (by simp only [u_E0, u_E1, u_M0, u_M1, w_setE0, w_setE1, w_setM0, w_setM1, reduceIte, Nat.reduceEqDiff]; exact ⟨by repeat' (first | exact trivial | refine ⟨.inr rfl, ?_⟩), by repeat' (first | exact trivial | refine ⟨rfl, ?_⟩), by first | rfl | simp [closedB, refsIn, refsInL, refsInO, dom, refsInL_nr, *], by first | rfl | simp [keepB, dom]⟩) ?_ ?_
  · exact ⟨Nat.zero_le _, by intro j hj; omega⟩
  intro i hi NX hN
  unfold l_slices_IndexFunc_SkyPoint_0; simp (config := { maxSteps := 2000000 }) only [bitvec_to_nat, reduceIte, Nat.reduceEqDiff, Nat.reduceAdd, Nat.reduceLeDiff, reduceCtorEq, Nat.reduceBEq, Nat.reduceLT, Nat.reduceMod, List.forall_mem_cons, retG_ret, retQ_eq, retQ_eqN, retOk, keepB, re_tupl, orr_t, callL_nil, Pt_len, Pt_take]
  refine ⟨fun h1 => ⟨by omega, by omega, hg, _, _, .inl ⟨[(3, .box ls)], hC (zs.getD i default), ?_, ?_, ?_, ?_, ?_, rfl, ?_⟩, ?_⟩, fun h1 => ?_⟩
  · simp [getM]
  · intro q hq; left; revert q; simp [dom]
  · simp [dom]
  · simp [refsInL, refsIn, dom, refsInL_nr, Pt_nr]
  · simp [refsInO, refsInL_nr, *]
  · simp [refsInO, refsInL_nr, *]
  · simp (config := { maxSteps := 2000000 }) only [bitvec_to_nat, reduceIte, Nat.reduceEqDiff, Nat.reduceAdd, Nat.reduceLeDiff, reduceCtorEq, Nat.reduceBEq, Nat.reduceLT, Nat.reduceMod, List.forall_mem_cons, retG_ret, retQ_eq, retQ_eqN, retOk, keepB, re_tupl, orr_t, callL_nil]
    refine ⟨fun h2 => ?_, fun h2 => ?_⟩
    · simp (config := { maxSteps := 2000000 }) only [bitvec_to_nat, reduceIte, Nat.reduceEqDiff, Nat.reduceAdd, Nat.reduceLeDiff, reduceCtorEq, Nat.reduceBEq, Nat.reduceLT, Nat.reduceMod, List.forall_mem_cons, retG_ret, retQ_eq, retQ_eqN, retOk, keepB, re_tupl, orr_t, callL_nil]
      rw [fIdx_at (by omega) h2 hi.2]
      simp [dom, refsInL_nr, *]
    · simp (config := { maxSteps := 2000000 }) only [bitvec_to_nat, reduceIte, Nat.reduceEqDiff, Nat.reduceAdd, Nat.reduceLeDiff, reduceCtorEq, Nat.reduceBEq, Nat.reduceLT, Nat.reduceMod, List.forall_mem_cons, retG_ret, retQ_eq, retQ_eqN, retOk, keepB, re_tupl, orr_t, callL_nil]
      refine ⟨by omega, ?_⟩
      refine hN (i + 1) _ (by simp only [u_E0, u_E1, u_M0, u_M1, w_setE0, w_setE1, w_setM0, w_setM1, reduceIte, Nat.reduceEqDiff]; exact ⟨by repeat' (first | exact trivial | refine ⟨.inr rfl, ?_⟩), by repeat' (first | exact trivial | refine ⟨rfl, ?_⟩), by first | rfl | simp [closedB, refsIn, refsInL, refsInO, dom, refsInL_nr, *], by first | rfl | simp [keepB, dom]⟩) ?_ ?_
      · exact ⟨by omega, all_snoc hi.2 h2⟩
      · omega
  · rw [fIdx_none fun j hj => hi.2 j (by omega)]
    simp [dom, refsInL_nr, *]
theorem c_point1 (z : Pt) (s : ByteArray) : Contract P 140 [.agg z.row, .ptr 3 0] [(3, .box [.str s])] (.bool (decide (z.nm = s))) [(3, .box [.str s])] := by
  simp only [Pt.row]
  refine fn_sound (Env.nil P) hm k_impl_Sky_point_1 (Nat.le_of_ble_eq_true rfl) rfl ?_; unfold s_impl_Sky_point_1; simp (config := { maxSteps := 2000000 }) only [bitvec_to_nat, reduceIte, Nat.reduceEqDiff, Nat.reduceAdd, Nat.reduceLeDiff, reduceCtorEq, Nat.reduceBEq, Nat.reduceLT, Nat.reduceMod, List.forall_mem_cons, retG_ret, retQ_eq, retQ_eqN, retOk, keepB, re_tupl, orr_t, Pt_eta]
  all_goals simp [dom]
def r_pointI : RTab
  | [.sl zt 3 zx, .fn 140 [] [.ptr ob off]], M => match M ob with
    | some (.box [.str s]) => some ⟨off = 0 ∧ (zx.map unPt).map Pt.row = zx ∧ (zx.map unPt).length ≤ 4611686018427387904, fun _ : Unit => True, fun _ => .int .i64 (fIdx (fun z => decide (z.nm = s)) (zx.map unPt)), fun _ => [(ob, .box [.str s])]⟩
    | _ => none
  | _, _ => none
theorem h_pointI : okTab P 139 r_pointI := by
  intro args M o h hp
  unfold r_pointI at h
  split at h
  · rename_i zt zx ob off
    split at h
    · rename_i s hM
      cases h
      obtain ⟨rfl, e0, HP⟩ := hp
      have hC := c_IndexFunc_Pt 140 (by kernel_rfl) _ rfl (fun z => decide (z.nm = s)) zt (zx.map unPt) HP fun z => c_point1 z s
      simp only [e0, decide_eq_true_eq] at hC
      exact ⟨(), trivial, callR_box _ hC (by simp [norefL, noref]) rfl (by assumption) (by simp [renL, ren, swp]) (by simp [refsInL, refsIn, noref])⟩
    · cases h
  · cases h
theorem c_iPoint (s : Sky) (nm : ByteArray) (hs : s.small) : Contract P 91 [.agg (s.row 0), .str nm] [] (.int .i64 (pIdx s.pts nm)) [] := by
  unfold Sky.small at hs
  refine fn_sound ((Env.nil P).addR 139 r_pointI h_pointI) hm k_impl_Sky_point (Nat.le_of_ble_eq_true rfl) rfl ?_; unfold s_impl_Sky_point; simp (config := { maxSteps := 2000000 }) only [bitvec_to_nat, reduceIte, Nat.reduceEqDiff, Nat.reduceAdd, Nat.reduceLeDiff, reduceCtorEq, Nat.reduceBEq, Nat.reduceLT, Nat.reduceMod, List.forall_mem_cons, retG_ret, retQ_eq, retQ_eqN, retOk, keepB, re_tupl, orr_t, r_pointI, un_Pt, Sky.row]
  exact ⟨by omega, fun _ => rfl⟩
theorem pIdx_at {l : List Pt} {nm : ByteArray} (h : 0 ≤ pIdx l nm) : (pIdx l nm).toNat < l.length ∧ (l.getD (pIdx l nm).toNat default).nm = nm ∧ pIdx l nm < l.length := by
  unfold pIdx at *
  rcases fIdx_spec (fun p : Pt => decide (p.nm = nm)) l with ⟨h1, h2⟩ | ⟨i, h1, h2, h3, _⟩
  · omega
  · rw [h1]; exact ⟨by simpa using h2, by simpa using h3, by omega⟩
def ptC (s : Sky) (nm : ByteArray) : Cell := ⟨(s.pts.getD (pIdx s.pts nm).toNat default).x, (s.pts.getD (pIdx s.pts nm).toNat default).y⟩
theorem ptC_inn {s : Sky} (hv : s.valid) {nm : ByteArray} (h : 0 ≤ pIdx s.pts nm) : (ptC s nm).inn := by
  obtain ⟨h1, _, _⟩ := pIdx_at h
  have h2 := (hv.2.1.2 _ h1).2.2.1
  have h3 := hv.1
  unfold inSky at h2
  unfold dims at h3
  simp only [Cell.inn, ptC]
  omega
def t_iPoint : List AV → Option (Prop × AV)
  | [.agg [.int .i64 s_w, .int .i64 s_h, .int .i64 s_lv, .sl 0 3 s_pts, .sl 0 2 s_aws, .sl 0 2 s_secs, .sl 0 4 s_rws], .str nm] => some ((((s_pts.map unPt).map Pt.row = s_pts) ∧ ((s_aws.map unAw).map (Aw.row 0) = s_aws) ∧ ((s_secs.map unSec).map (Sec.row 0) = s_secs) ∧ ((s_rws.map unRw).map Rw.row = s_rws)) ∧ (Sky.small (Sky.mk s_w s_h s_lv (s_pts.map unPt) (s_aws.map unAw) (s_secs.map unSec) (s_rws.map unRw))), .int .i64 (pIdx (Sky.pts (Sky.mk s_w s_h s_lv (s_pts.map unPt) (s_aws.map unAw) (s_secs.map unSec) (s_rws.map unRw))) nm))
  | _ => none
theorem h_iPoint : ∀ args p v, t_iPoint args = some (p, v) → p → Contract P 91 args [] v [] ∧ noref v = true ∧ No99 v := by
  intro args p v h1 h2
  unfold t_iPoint at h1
  split at h1
  · rename_i s_w s_h s_lv s_pts s_aws s_secs s_rws nm
    cases h1
    obtain ⟨⟨e0, e1, e2, e3⟩, HP⟩ := h2
    have := c_iPoint (Sky.mk s_w s_h s_lv (s_pts.map unPt) (s_aws.map unAw) (s_secs.map unSec) (s_rws.map unRw)) nm HP
    exact ⟨by simpa only [e0, e1, e2, e3, Sky.row] using this, rfl, trivial⟩
  · cases h1
theorem c_l6At (s : Sky) (nm : ByteArray) (hs : s.small) (h : 0 ≤ pIdx s.pts nm) : Contract P 104 [.agg (s.row 0), .str nm] [] (.agg (ptC s nm).row) [] := by
  unfold Sky.small at hs
  obtain ⟨h1, h2, h3⟩ := pIdx_at h
  refine fn_sound ((Env.nil P).add 103 t_l2Point h_l2Point) hm k_spec_l6At (Nat.le_of_ble_eq_true rfl) rfl ?_; unfold s_spec_l6At; simp (config := { maxSteps := 2000000 }) only [bitvec_to_nat, reduceIte, Nat.reduceEqDiff, Nat.reduceAdd, Nat.reduceLeDiff, reduceCtorEq, Nat.reduceBEq, Nat.reduceLT, Nat.reduceMod, List.forall_mem_cons, t_l2Point, Pt.row, Pt_eta, un_Pt, tk_map, dp_map, toNat_pred, Int.toNat_natCast, Nat.sub_zero, Nat.zero_add, List.length_map, Sky.row, tk_map]
  exact ⟨by omega, h, h3, rfl, rfl⟩
def t_l6At : List AV → Option (Prop × AV)
  | [.agg [.int .i64 s_w, .int .i64 s_h, .int .i64 s_lv, .sl 0 3 s_pts, .sl 0 2 s_aws, .sl 0 2 s_secs, .sl 0 4 s_rws], .str nm] => some ((((s_pts.map unPt).map Pt.row = s_pts) ∧ ((s_aws.map unAw).map (Aw.row 0) = s_aws) ∧ ((s_secs.map unSec).map (Sec.row 0) = s_secs) ∧ ((s_rws.map unRw).map Rw.row = s_rws)) ∧ (Sky.small (Sky.mk s_w s_h s_lv (s_pts.map unPt) (s_aws.map unAw) (s_secs.map unSec) (s_rws.map unRw)) ∧ 0 ≤ pIdx (Sky.pts (Sky.mk s_w s_h s_lv (s_pts.map unPt) (s_aws.map unAw) (s_secs.map unSec) (s_rws.map unRw))) nm), .agg (ptC (Sky.mk s_w s_h s_lv (s_pts.map unPt) (s_aws.map unAw) (s_secs.map unSec) (s_rws.map unRw)) nm).row)
  | _ => none
theorem h_l6At : ∀ args p v, t_l6At args = some (p, v) → p → Contract P 104 args [] v [] ∧ noref v = true ∧ No99 v := by
  intro args p v h1 h2
  unfold t_l6At at h1
  split at h1
  · rename_i s_w s_h s_lv s_pts s_aws s_secs s_rws nm
    cases h1
    obtain ⟨⟨e0, e1, e2, e3⟩, HP⟩ := h2
    have := c_l6At (Sky.mk s_w s_h s_lv (s_pts.map unPt) (s_aws.map unAw) (s_secs.map unSec) (s_rws.map unRw)) nm HP.1 HP.2
    exact ⟨by simpa only [e0, e1, e2, e3, Sky.row] using this, rfl, by simp [Cell.row, No99, No99L]⟩
  · cases h1
end
end Go.Ve

namespace Go.Ve
noncomputable section
open Go.Proofs
set_option linter.unusedSimpArgs false
set_option linter.unusedVariables false
set_option maxRecDepth 100000
def tAdd (s : Sky) (ps : List ByteArray) (i : Nat) : List Cell := if i = 0 then [ptC s (ps.getD 0 default)] else (legOf (ptC s (ps.getD (i - 1) default)) (ptC s (ps.getD i default))).drop 1
def tRun (s : Sky) (ps : List ByteArray) : Nat → List Cell
  | 0 => []
  | i + 1 => tRun s ps i ++ tAdd s ps i
def nmOk (s : Sky) (ps : List ByteArray) (i : Nat) : Prop := 0 ≤ pIdx s.pts (ps.getD i default)
def nmsOk (s : Sky) (ps : List ByteArray) : Prop := ∀ i, i < ps.length → nmOk s ps i
noncomputable instance (s : Sky) (ps : List ByteArray) : Decidable (nmsOk s ps) := Classical.propDecidable _
def noRep (ps : List ByteArray) (i : Nat) : Prop := 0 < i → ps.getD i default ≠ ps.getD (i - 1) default
def trOk (s : Sky) (ps : List ByteArray) : Prop := s.valid ∧ nmsOk s ps ∧ ∀ i, i < ps.length → noRep ps i
noncomputable instance (s : Sky) (ps : List ByteArray) : Decidable (trOk s ps) := Classical.propDecidable _
def trL (s : Sky) (ps : List ByteArray) : List Cell := if trOk s ps then tRun s ps ps.length else []
def trC (s : Sky) (ps : List ByteArray) : Int := if s.valid then (if nmsOk s ps then (if trOk s ps then 0 else 3) else 2) else 1
theorem legOf_len {a b : Cell} (ha : a.inn) (hb : b.inn) : 1 ≤ (legOf a b).length ∧ (legOf a b).length ≤ 16 := by
  have h1 : ∀ a b : Cell, 1 ≤ (legU a b).length := fun a b => by rw [legU, lgK_len]; omega
  unfold legOf
  split
  · rw [List.length_reverse]; exact ⟨h1 _ _, legU_len hb ha⟩
  · exact ⟨h1 _ _, legU_len ha hb⟩
theorem tAdd_len {s : Sky} {ps : List ByteArray} (hv : s.valid) (ho : nmsOk s ps) {i : Nat} (h : i < ps.length) : (tAdd s ps i).length ≤ 16 := by
  unfold tAdd
  split
  · simp
  · have := legOf_len (ptC_inn hv (ho (i - 1) (by omega))) (ptC_inn hv (ho i h))
    rw [List.length_drop]; omega
theorem tRun_len {s : Sky} {ps : List ByteArray} (hv : s.valid) (ho : nmsOk s ps) : ∀ i, i ≤ ps.length → (tRun s ps i).length ≤ 16 * i
  | 0, _ => by simp [tRun]
  | i + 1, h => by
    have := tRun_len hv ho i (by omega)
    have := tAdd_len hv ho (i := i) h
    simp only [tRun, List.length_append]; omega
set_option maxHeartbeats 2000000 in
theorem c_sTrack (s : Sky) (t : Nat) (ps : List ByteArray) (hs : s.small) (hp : ps.length ≤ 1048576) : Contract P 40 [.agg (s.row 0), .sl t 1 (ps.map srow)] [] (.tup [.sl 0 2 ((trL s ps).map Cell.row), .int .i64 (trC s ps)]) [] := by
  have hsm := hs
  unfold Sky.small at hsm
  have tkl : True := trivial
  have e6 : True := trivial
  have hi' : True := trivial
  have hz : True := trivial
  have hz2 : True := trivial
  refine fn_sound (((((Env.nil P).add 13 t_sSkyValid h_sSkyValid).add 103 t_l2Point h_l2Point).add 104 t_l6At h_l6At).add 105 t_SkyLeg h_SkyLeg) hm k_spec_SkyTrack (Nat.le_of_ble_eq_true rfl) rfl ?_; unfold s_spec_SkyTrack; simp (config := { maxSteps := 2000000 }) only [bitvec_to_nat, reduceIte, Nat.reduceEqDiff, Nat.reduceAdd, Nat.reduceLeDiff, reduceCtorEq, Nat.reduceBEq, Nat.reduceLT, Nat.reduceMod, List.forall_mem_cons, t_sSkyValid, t_l2Point, t_l6At, t_SkyLeg, tk_map, dp_map, toNat_pred, appE, rowsOf, List.take_length, List.length_cons, List.length_nil, Nat.zero_add, srow, irow, un_s, un_i, Zone.row, Zone_eta, un_Zone, Word.row, Word_eta, Own.row, Own_eta, Part.row, Part_eta, Seen.row, Seen_eta, Book.row, Book_eta, Sector.row, Sector_eta, HCraft.row, HCraft_eta, World.row, World_eta, Pt.row, Pt_eta, Aw.row, Aw_eta, Blk.row, Blk_eta, Sec.row, Sec_eta, Rw.row, Rw_eta, Sky.row, Sky_eta, Place.row, Place_eta, Cell.row, Cell_eta, un_Word, un_Own, un_Part, un_Seen, un_Book, un_Sector, un_HCraft, un_World, un_Pt, un_Aw, un_Blk, un_Sec, un_Rw, un_Sky, un_Place, un_Cell, Nat.sub_zero, Sky.row, ghost, List.nil_append, take_all, tkl, getD_rows, Cell.row, Cell_eta, un_Cell, un_Pt, e6, hi', hz, hz2]
  refine ⟨hs, fun hv => ?_, fun hv => ?_⟩
  · refine loop_st (fun i : Nat => [(7, .int .i64 i)]) (fun _ => []) (fun i => i ≤ ps.length ∧ ∀ j, j < i → nmOk s ps j) (fun i => ps.length - i) 0 (by simp only [u_E0, u_E1, u_M0, u_M1, w_setE0, w_setE1, w_setM0, w_setM1, reduceIte, Nat.reduceEqDiff]; exact ⟨by repeat' (first | exact trivial | refine ⟨.inr rfl, ?_⟩), by repeat' (first | exact trivial | refine ⟨rfl, ?_⟩), by first | rfl | simp [closedB, refsIn, refsInL, refsInO, dom, refsInL_nr, *], by first | rfl | simp [keepB, dom]⟩) ⟨Nat.zero_le _, fun j hj => absurd hj (Nat.not_lt_zero _)⟩ ?_
    rintro i ⟨hi, h1⟩ NX hN
    by_cases hlt : i < ps.length
    · unfold l_spec_SkyTrack_0; simp (config := { maxSteps := 2000000 }) only [bitvec_to_nat, reduceIte, Nat.reduceEqDiff, Nat.reduceAdd, Nat.reduceLeDiff, reduceCtorEq, Nat.reduceBEq, Nat.reduceLT, Nat.reduceMod, List.forall_mem_cons, t_sSkyValid, t_l2Point, t_l6At, t_SkyLeg, tk_map, dp_map, toNat_pred, appE, rowsOf, List.take_length, List.length_cons, List.length_nil, Nat.zero_add, srow, irow, un_s, un_i, Zone.row, Zone_eta, un_Zone, Word.row, Word_eta, Own.row, Own_eta, Part.row, Part_eta, Seen.row, Seen_eta, Book.row, Book_eta, Sector.row, Sector_eta, HCraft.row, HCraft_eta, World.row, World_eta, Pt.row, Pt_eta, Aw.row, Aw_eta, Blk.row, Blk_eta, Sec.row, Sec_eta, Rw.row, Rw_eta, Sky.row, Sky_eta, Place.row, Place_eta, Cell.row, Cell_eta, un_Word, un_Own, un_Part, un_Seen, un_Book, un_Sector, un_HCraft, un_World, un_Pt, un_Aw, un_Blk, un_Sec, un_Rw, un_Sky, un_Place, un_Cell, Nat.sub_zero, Sky.row, ghost, List.nil_append, take_all, tkl, getD_rows, Cell.row, Cell_eta, un_Cell, un_Pt, e6, hi', hz, hz2]
      repeat' (first | with_reducible apply And.intro | with_reducible intro _)
      all_goals first
        | omega
        | (refine hN (i + 1) _ (by simp only [u_E0, u_E1, u_M0, u_M1, w_setE0, w_setE1, w_setM0, w_setM1, reduceIte, Nat.reduceEqDiff]; exact ⟨by repeat' (first | exact trivial | refine ⟨.inr rfl, ?_⟩), by repeat' (first | exact trivial | refine ⟨rfl, ?_⟩), by first | rfl | simp [closedB, refsIn, refsInL, refsInO, dom, refsInL_nr, *], by first | rfl | simp [keepB, dom]⟩) ⟨hlt, all_snoc h1 (by unfold nmOk; omega)⟩ (by omega))
        | (have hno : ¬ nmsOk s ps := fun h => by have := h i hlt; unfold nmOk at this; omega
           have : ¬ trOk s ps := fun h => hno h.2.1
           simp [trL, trC, this, hv, hno]; done)
        | trace_state
    · have e : i = ps.length := by omega
      subst e
      have hi' : ¬ ((ps.length : Nat) : Int) < ps.length := by omega
      unfold l_spec_SkyTrack_0; simp (config := { maxSteps := 2000000 }) only [bitvec_to_nat, reduceIte, Nat.reduceEqDiff, Nat.reduceAdd, Nat.reduceLeDiff, reduceCtorEq, Nat.reduceBEq, Nat.reduceLT, Nat.reduceMod, List.forall_mem_cons, t_sSkyValid, t_l2Point, t_l6At, t_SkyLeg, tk_map, dp_map, toNat_pred, appE, rowsOf, List.take_length, List.length_cons, List.length_nil, Nat.zero_add, srow, irow, un_s, un_i, Zone.row, Zone_eta, un_Zone, Word.row, Word_eta, Own.row, Own_eta, Part.row, Part_eta, Seen.row, Seen_eta, Book.row, Book_eta, Sector.row, Sector_eta, HCraft.row, HCraft_eta, World.row, World_eta, Pt.row, Pt_eta, Aw.row, Aw_eta, Blk.row, Blk_eta, Sec.row, Sec_eta, Rw.row, Rw_eta, Sky.row, Sky_eta, Place.row, Place_eta, Cell.row, Cell_eta, un_Word, un_Own, un_Part, un_Seen, un_Book, un_Sector, un_HCraft, un_World, un_Pt, un_Aw, un_Blk, un_Sec, un_Rw, un_Sky, un_Place, un_Cell, Nat.sub_zero, Sky.row, ghost, List.nil_append, take_all, tkl, getD_rows, Cell.row, Cell_eta, un_Cell, un_Pt, e6, hi', hz, hz2]
      have ho : nmsOk s ps := h1
      refine loop_st (fun i : Nat => [(6, .own 109 i 0 (tRun s ps i).length), (8, .int .i64 i)]) (fun i => [(109, .arr 148 i 2 ((tRun s ps i).map Cell.row))]) (fun i => i ≤ ps.length ∧ ∀ j, j < i → noRep ps j) (fun i => ps.length - i) 0 (by simp only [u_E0, u_E1, u_M0, u_M1, w_setE0, w_setE1, w_setM0, w_setM1, reduceIte, Nat.reduceEqDiff]; exact ⟨by repeat' (first | exact trivial | refine ⟨.inr rfl, ?_⟩), by repeat' (first | exact trivial | refine ⟨rfl, ?_⟩), by first | rfl | simp [closedB, refsIn, refsInL, refsInO, dom, refsInL_nr, *], by first | rfl | simp [keepB, dom]⟩) ⟨Nat.zero_le _, fun j hj => absurd hj (Nat.not_lt_zero _)⟩ ?_
      rintro i ⟨hi, h1⟩ NX hN
      have hll := tRun_len hv ho i hi
      have tkl : List.take (tRun s ps i).length ((tRun s ps i).map Cell.row) = (tRun s ps i).map Cell.row := List.take_of_length_le (by simp)
      by_cases hlt : i < ps.length
      · have hi' : (i : Int) < ps.length := by omega
        have hrun : tRun s ps (i + 1) = tRun s ps i ++ tAdd s ps i := rfl
        have h9 := ho i hlt
        unfold nmOk at h9
        by_cases i0 : i = 0
        · subst i0
          have hz : (((0 : Nat) : Int) = 0) = True := eq_true rfl
          unfold l_spec_SkyTrack_1; simp (config := { maxSteps := 2000000 }) only [bitvec_to_nat, reduceIte, Nat.reduceEqDiff, Nat.reduceAdd, Nat.reduceLeDiff, reduceCtorEq, Nat.reduceBEq, Nat.reduceLT, Nat.reduceMod, List.forall_mem_cons, t_sSkyValid, t_l2Point, t_l6At, t_SkyLeg, tk_map, dp_map, toNat_pred, appE, rowsOf, List.take_length, List.length_cons, List.length_nil, Nat.zero_add, srow, irow, un_s, un_i, Zone.row, Zone_eta, un_Zone, Word.row, Word_eta, Own.row, Own_eta, Part.row, Part_eta, Seen.row, Seen_eta, Book.row, Book_eta, Sector.row, Sector_eta, HCraft.row, HCraft_eta, World.row, World_eta, Pt.row, Pt_eta, Aw.row, Aw_eta, Blk.row, Blk_eta, Sec.row, Sec_eta, Rw.row, Rw_eta, Sky.row, Sky_eta, Place.row, Place_eta, Cell.row, Cell_eta, un_Word, un_Own, un_Part, un_Seen, un_Book, un_Sector, un_HCraft, un_World, un_Pt, un_Aw, un_Blk, un_Sec, un_Rw, un_Sky, un_Place, un_Cell, Nat.sub_zero, Sky.row, ghost, List.nil_append, take_all, tkl, getD_rows, Cell.row, Cell_eta, un_Cell, un_Pt, e6, hi', hz, hz2]
          have hE : tRun s ps (0 + 1) = tRun s ps 0 ++ [ptC s (ps.getD 0 default)] := rfl
          refine ⟨by omega, by omega, ⟨hs, h9⟩, by omega, by omega, hN (0 + 1) _ (by simp only [hE, List.length_append, List.length_cons, List.length_nil, Nat.zero_add, List.map_append, List.map_cons, List.map_nil, Cell.row]; simp only [u_E0, u_E1, u_M0, u_M1, w_setE0, w_setE1, w_setM0, w_setM1, reduceIte, Nat.reduceEqDiff]; exact ⟨by repeat' (first | exact trivial | refine ⟨.inr rfl, ?_⟩), by repeat' (first | exact trivial | refine ⟨rfl, ?_⟩), by first | rfl | simp [closedB, refsIn, refsInL, refsInO, dom, refsInL_nr, *], by first | rfl | simp [keepB, dom]⟩) ⟨hlt, all_snoc h1 (fun h => absurd h (by omega))⟩ (by omega)⟩
        · have hz : ((i : Int) = 0) = False := eq_false (by omega)
          have h8 := ho (i - 1) (by omega)
          unfold nmOk at h8
          have hz2 : ((i : Int) - 1).toNat = i - 1 := by omega
          have hc1 := ptC_inn hv h8
          have hc2 := ptC_inn hv h9
          unfold l_spec_SkyTrack_1; simp (config := { maxSteps := 2000000 }) only [bitvec_to_nat, reduceIte, Nat.reduceEqDiff, Nat.reduceAdd, Nat.reduceLeDiff, reduceCtorEq, Nat.reduceBEq, Nat.reduceLT, Nat.reduceMod, List.forall_mem_cons, t_sSkyValid, t_l2Point, t_l6At, t_SkyLeg, tk_map, dp_map, toNat_pred, appE, rowsOf, List.take_length, List.length_cons, List.length_nil, Nat.zero_add, srow, irow, un_s, un_i, Zone.row, Zone_eta, un_Zone, Word.row, Word_eta, Own.row, Own_eta, Part.row, Part_eta, Seen.row, Seen_eta, Book.row, Book_eta, Sector.row, Sector_eta, HCraft.row, HCraft_eta, World.row, World_eta, Pt.row, Pt_eta, Aw.row, Aw_eta, Blk.row, Blk_eta, Sec.row, Sec_eta, Rw.row, Rw_eta, Sky.row, Sky_eta, Place.row, Place_eta, Cell.row, Cell_eta, un_Word, un_Own, un_Part, un_Seen, un_Book, un_Sector, un_HCraft, un_World, un_Pt, un_Aw, un_Blk, un_Sec, un_Rw, un_Sky, un_Place, un_Cell, Nat.sub_zero, Sky.row, ghost, List.nil_append, take_all, tkl, getD_rows, Cell.row, Cell_eta, un_Cell, un_Pt, e6, hi', hz, hz2]
          have hlg := legOf_len hc1 hc2
          have hE : tRun s ps (i + 1) = tRun s ps i ++ (legOf (ptC s (ps.getD (i - 1) default)) (ptC s (ps.getD i default))).drop (Int.toNat 1) := by rw [hrun, tAdd, if_neg i0]; rfl
          have hdl : ((legOf (ptC s (ps.getD (i - 1) default)) (ptC s (ps.getD i default))).drop (Int.toNat 1)).length ≤ 16 := by rw [List.length_drop]; omega
          refine ⟨by omega, by omega, by omega, by omega, fun h => ?_, fun h => ⟨by omega, by omega, by omega, ⟨hs, h8⟩, by omega, ⟨hs, h9⟩, ⟨hc1, hc2⟩, ⟨by omega, by omega, by omega⟩, by omega, by omega, hN (i + 1) _ (by simp only [hE, List.length_append, List.map_append]; simp only [u_E0, u_E1, u_M0, u_M1, w_setE0, w_setE1, w_setM0, w_setM1, reduceIte, Nat.reduceEqDiff]; exact ⟨by repeat' (first | exact trivial | refine ⟨.inr rfl, ?_⟩), by repeat' (first | exact trivial | refine ⟨rfl, ?_⟩), by first | rfl | simp [closedB, refsIn, refsInL, refsInO, dom, refsInL_nr, *], by first | rfl | simp [keepB, dom]⟩) ⟨hlt, all_snoc h1 (fun _ => h)⟩ (by omega)⟩⟩
          have hno : ¬ trOk s ps := fun k => k.2.2 i hlt (by omega) h
          simp [trL, trC, hno, hv, ho]
      · have e : i = ps.length := by omega
        subst e
        have hi' : ¬ ((ps.length : Nat) : Int) < ps.length := by omega
        have hok : trOk s ps := ⟨hv, ho, h1⟩
        unfold l_spec_SkyTrack_1; simp (config := { maxSteps := 2000000 }) only [bitvec_to_nat, reduceIte, Nat.reduceEqDiff, Nat.reduceAdd, Nat.reduceLeDiff, reduceCtorEq, Nat.reduceBEq, Nat.reduceLT, Nat.reduceMod, List.forall_mem_cons, t_sSkyValid, t_l2Point, t_l6At, t_SkyLeg, tk_map, dp_map, toNat_pred, appE, rowsOf, List.take_length, List.length_cons, List.length_nil, Nat.zero_add, srow, irow, un_s, un_i, Zone.row, Zone_eta, un_Zone, Word.row, Word_eta, Own.row, Own_eta, Part.row, Part_eta, Seen.row, Seen_eta, Book.row, Book_eta, Sector.row, Sector_eta, HCraft.row, HCraft_eta, World.row, World_eta, Pt.row, Pt_eta, Aw.row, Aw_eta, Blk.row, Blk_eta, Sec.row, Sec_eta, Rw.row, Rw_eta, Sky.row, Sky_eta, Place.row, Place_eta, Cell.row, Cell_eta, un_Word, un_Own, un_Part, un_Seen, un_Book, un_Sector, un_HCraft, un_World, un_Pt, un_Aw, un_Blk, un_Sec, un_Rw, un_Sky, un_Place, un_Cell, Nat.sub_zero, Sky.row, ghost, List.nil_append, take_all, tkl, getD_rows, Cell.row, Cell_eta, un_Cell, un_Pt, e6, hi', hz, hz2]
        simp [trL, trC, hok, hv, ho]
  · have : ¬ trOk s ps := fun h => hv h.1
    simp [trL, trC, this, hv]
end
end Go.Ve

namespace Go.Ve
noncomputable section
open Go.Proofs
set_option linter.unusedSimpArgs false
set_option linter.unusedVariables false
set_option maxRecDepth 100000
def ptOf (s : Sky) (nm : ByteArray) : Pt := s.pts.getD (pIdx s.pts nm).toNat default
def ptL (s : Sky) (ps : List ByteArray) (i : Nat) : List Pt := (ps.take i).map (ptOf s)
theorem ptL_len {s : Sky} {ps : List ByteArray} {i : Nat} (h : i ≤ ps.length) : (ptL s ps i).length = i := by simp [ptL]; omega
theorem ptL_succ {s : Sky} {ps : List ByteArray} {i : Nat} (h : i < ps.length) : (ptL s ps i).map Pt.row ++ [Pt.row (ptOf s (ps.getD i default))] = (ptL s ps (i + 1)).map Pt.row := by
  rw [ptL, ptL, List.take_succ_eq_append_getElem h, List.map_append, List.map_append]; simp [h, -List.map_map]
theorem ptL_get {s : Sky} {ps : List ByteArray} {i j : Nat} (h : j < i) (hi : i ≤ ps.length) : (ptL s ps i).getD j default = ptOf s (ps.getD j default) := by
  have : j < ps.length := by omega
  simp [ptL, this, h]
theorem ptOf_nm {s : Sky} {nm : ByteArray} (h : 0 ≤ pIdx s.pts nm) : (ptOf s nm).nm = nm := (pIdx_at h).2.1
theorem tk_snoc {X : List Cell} {l : List Cell} {j : Nat} (h : j < X.length) : (l ++ X.take j).map Cell.row ++ [[.int .i64 (X.getD j default).x, .int .i64 (X.getD j default).y]] = (l ++ X.take (j + 1)).map Cell.row := by
  have e : l ++ X.take (j + 1) = (l ++ X.take j) ++ [X.getD j default] := by rw [List.take_succ_eq_append_getElem h, List.append_assoc]; simp [h]
  rw [e, List.map_append (l₁ := l ++ X.take j)]; rfl
theorem tm1 : Int.toNat 1 * 1 = 1 := rfl
theorem tm0 : Int.toNat 0 * 1 = 0 := rfl
theorem ptC_mk {s : Sky} {nm : ByteArray} : Cell.mk (ptOf s nm).x (ptOf s nm).y = ptC s nm := rfl
set_option maxHeartbeats 4000000 in
theorem c_iTrackY (s : Sky) (t : Nat) (ps : List ByteArray) (hs : s.small) (hf : s.fitp) (hp : ps.length ≤ 1048576) (hk : trOk s ps) : Contract P 42 [.agg (s.row 0), .sl t 1 (ps.map srow)] [] (.tup [.own 110 (trL s ps).length 0 (trL s ps).length, .int .i64 0]) [(110, .arr 148 (trL s ps).length 2 ((trL s ps).map Cell.row))] := by
  have hsm := hs
  unfold Sky.small at hsm
  have tkl : True := trivial
  have tk2 : True := trivial
  have e6 : True := trivial
  have hi' : True := trivial
  have hz : True := trivial
  have hz2 : True := trivial
  have hg1 : True := trivial
  have hg2 : True := trivial
  have hn1 : True := trivial
  have hn2 : True := trivial
  have hv1 := hk.1
  refine fn_sound ((((Env.nil P).add 15 t_iSkyValid h_iSkyValid).add 91 t_iPoint h_iPoint).add 106 t_leg h_leg) hm kO_impl_SkyTrack (Nat.le_of_ble_eq_true rfl) rfl ?_; unfold sO_impl_SkyTrack; simp (config := { maxSteps := 2000000 }) only [bitvec_to_nat, reduceIte, Nat.reduceEqDiff, Nat.reduceAdd, Nat.reduceLeDiff, reduceCtorEq, Nat.reduceBEq, Nat.reduceLT, Nat.reduceMod, List.forall_mem_cons, retG_ret, retQ_eq, retQ_eqN, retOk, keepB, re_tupl, orr_t, t_iSkyValid, t_iPoint, t_leg, tk_map, dp_map, toNat_pred, appE, rowsOf, List.take_length, List.length_cons, List.length_nil, Nat.zero_add, srow, irow, un_s, un_i, Zone.row, Zone_eta, un_Zone, Word.row, Word_eta, Own.row, Own_eta, Part.row, Part_eta, Seen.row, Seen_eta, Book.row, Book_eta, Sector.row, Sector_eta, HCraft.row, HCraft_eta, World.row, World_eta, Pt.row, Pt_eta, Aw.row, Aw_eta, Blk.row, Blk_eta, Sec.row, Sec_eta, Rw.row, Rw_eta, Sky.row, Sky_eta, Place.row, Place_eta, Cell.row, Cell_eta, un_Word, un_Own, un_Part, un_Seen, un_Book, un_Sector, un_HCraft, un_World, un_Pt, un_Aw, un_Blk, un_Sec, un_Rw, un_Sky, un_Place, un_Cell, Nat.sub_zero, Sky.row, ghost, List.nil_append, take_all, tkl, tk2, getD_rows, Cell.row, Cell_eta, un_Cell, un_Pt, e6, hi', hz, hz2, hg1, hg2, hn1, hn2, ptC_mk, tm1, tm0]
  refine ⟨⟨hs, hf⟩, fun hv => ?_, fun hv => ?_⟩
  · refine loop_st (fun i : Nat => [(6, .own 106 i 0 i), (20, .int .i64 i)]) (fun i => [(106, .arr 103 i 3 ((ptL s ps i).map Pt.row))]) (fun i => i ≤ ps.length ∧ ∀ j, j < i → nmOk s ps j) (fun i => ps.length - i) 0 (by simp only [u_E0, u_E1, u_M0, u_M1, w_setE0, w_setE1, w_setM0, w_setM1, reduceIte, Nat.reduceEqDiff]; exact ⟨by repeat' (first | exact trivial | refine ⟨.inr rfl, ?_⟩), by repeat' (first | exact trivial | refine ⟨rfl, ?_⟩), by first | rfl | simp [closedB, refsIn, refsInL, refsInO, dom, refsInL_nr, *], by first | rfl | simp [keepB, dom]⟩) ⟨Nat.zero_le _, fun j hj => absurd hj (Nat.not_lt_zero _)⟩ ?_
    rintro i ⟨hi, h1⟩ NX hN
    have hll := ptL_len (s := s) hi
    have tkl : List.take i ((ptL s ps i).map Pt.row) = (ptL s ps i).map Pt.row := List.take_of_length_le (by simp [hll])
    by_cases hlt : i < ps.length
    · have hsu := ptL_succ (s := s) hlt
      unfold lO_impl_SkyTrack_0; simp (config := { maxSteps := 2000000 }) only [bitvec_to_nat, reduceIte, Nat.reduceEqDiff, Nat.reduceAdd, Nat.reduceLeDiff, reduceCtorEq, Nat.reduceBEq, Nat.reduceLT, Nat.reduceMod, List.forall_mem_cons, retG_ret, retQ_eq, retQ_eqN, retOk, keepB, re_tupl, orr_t, t_iSkyValid, t_iPoint, t_leg, tk_map, dp_map, toNat_pred, appE, rowsOf, List.take_length, List.length_cons, List.length_nil, Nat.zero_add, srow, irow, un_s, un_i, Zone.row, Zone_eta, un_Zone, Word.row, Word_eta, Own.row, Own_eta, Part.row, Part_eta, Seen.row, Seen_eta, Book.row, Book_eta, Sector.row, Sector_eta, HCraft.row, HCraft_eta, World.row, World_eta, Pt.row, Pt_eta, Aw.row, Aw_eta, Blk.row, Blk_eta, Sec.row, Sec_eta, Rw.row, Rw_eta, Sky.row, Sky_eta, Place.row, Place_eta, Cell.row, Cell_eta, un_Word, un_Own, un_Part, un_Seen, un_Book, un_Sector, un_HCraft, un_World, un_Pt, un_Aw, un_Blk, un_Sec, un_Rw, un_Sky, un_Place, un_Cell, Nat.sub_zero, Sky.row, ghost, List.nil_append, take_all, tkl, tk2, getD_rows, Cell.row, Cell_eta, un_Cell, un_Pt, e6, hi', hz, hz2, hg1, hg2, hn1, hn2, ptC_mk, tm1, tm0]
      refine ⟨fun _ => ⟨by omega, by omega, hs, fun h => ?_, fun h => ⟨by omega, (pIdx_at (by omega)).2.2, by omega, by omega, hN (i + 1) _ ⟨by repeat' (first | exact trivial | refine ⟨.inr rfl, ?_⟩), ⟨rfl, congrArg (fun g => some (AObj.arr 103 (i + 1) 3 g)) hsu, trivial⟩, rfl, rfl⟩ ⟨hlt, all_snoc h1 (by unfold nmOk; omega)⟩ (by omega)⟩⟩, fun hc => absurd (by omega) hc⟩
      have hno : ¬ nmsOk s ps := fun k => by have := k i hlt; unfold nmOk at this; omega
      exact absurd hk.2.1 hno
    · have e : i = ps.length := by omega
      subst e
      have hi' : ¬ ((ps.length : Nat) : Int) < ps.length := by omega
      unfold lO_impl_SkyTrack_0; simp (config := { maxSteps := 2000000 }) only [bitvec_to_nat, reduceIte, Nat.reduceEqDiff, Nat.reduceAdd, Nat.reduceLeDiff, reduceCtorEq, Nat.reduceBEq, Nat.reduceLT, Nat.reduceMod, List.forall_mem_cons, retG_ret, retQ_eq, retQ_eqN, retOk, keepB, re_tupl, orr_t, t_iSkyValid, t_iPoint, t_leg, tk_map, dp_map, toNat_pred, appE, rowsOf, List.take_length, List.length_cons, List.length_nil, Nat.zero_add, srow, irow, un_s, un_i, Zone.row, Zone_eta, un_Zone, Word.row, Word_eta, Own.row, Own_eta, Part.row, Part_eta, Seen.row, Seen_eta, Book.row, Book_eta, Sector.row, Sector_eta, HCraft.row, HCraft_eta, World.row, World_eta, Pt.row, Pt_eta, Aw.row, Aw_eta, Blk.row, Blk_eta, Sec.row, Sec_eta, Rw.row, Rw_eta, Sky.row, Sky_eta, Place.row, Place_eta, Cell.row, Cell_eta, un_Word, un_Own, un_Part, un_Seen, un_Book, un_Sector, un_HCraft, un_World, un_Pt, un_Aw, un_Blk, un_Sec, un_Rw, un_Sky, un_Place, un_Cell, Nat.sub_zero, Sky.row, ghost, List.nil_append, take_all, tkl, tk2, getD_rows, Cell.row, Cell_eta, un_Cell, un_Pt, e6, hi', hz, hz2, hg1, hg2, hn1, hn2, ptC_mk, tm1, tm0]
      have ho : nmsOk s ps := h1
      refine loop_st (fun i : Nat => [(10, .own 110 (tRun s ps i).length 0 (tRun s ps i).length), (40, .int .i64 i)]) (fun i => [(110, .arr 148 (tRun s ps i).length 2 ((tRun s ps i).map Cell.row))]) (fun i => i ≤ ps.length ∧ ∀ j, j < i → noRep ps j) (fun i => ps.length - i) 0 (by simp only [u_E0, u_E1, u_M0, u_M1, w_setE0, w_setE1, w_setM0, w_setM1, reduceIte, Nat.reduceEqDiff]; exact ⟨by repeat' (first | exact trivial | refine ⟨.inr rfl, ?_⟩), by repeat' (first | exact trivial | refine ⟨rfl, ?_⟩), by first | rfl | simp [closedB, refsIn, refsInL, refsInO, dom, refsInL_nr, *], by first | rfl | simp [keepB, dom]⟩) ⟨Nat.zero_le _, fun j hj => absurd hj (Nat.not_lt_zero _)⟩ ?_
      rintro i ⟨hi, h1⟩ NX hN
      have hll := tRun_len hv ho i hi
      have tkl : List.take (tRun s ps i).length ((tRun s ps i).map Cell.row) = (tRun s ps i).map Cell.row := List.take_of_length_le (by simp)
      by_cases hlt : i < ps.length
      · have hrun : tRun s ps (i + 1) = tRun s ps i ++ tAdd s ps i := rfl
        have h9 := ho i hlt
        have hg1 := ptL_get (s := s) hlt (Nat.le_refl ps.length)
        have hn1 := ptOf_nm h9
        have hpl := ptL_len (s := s) (Nat.le_refl ps.length)
        unfold nmOk at h9
        by_cases i0 : i = 0
        · subst i0
          have hz : (((0 : Nat) : Int) = 0) = True := eq_true rfl
          unfold lO_impl_SkyTrack_2; simp (config := { maxSteps := 2000000 }) only [bitvec_to_nat, reduceIte, Nat.reduceEqDiff, Nat.reduceAdd, Nat.reduceLeDiff, reduceCtorEq, Nat.reduceBEq, Nat.reduceLT, Nat.reduceMod, List.forall_mem_cons, retG_ret, retQ_eq, retQ_eqN, retOk, keepB, re_tupl, orr_t, t_iSkyValid, t_iPoint, t_leg, tk_map, dp_map, toNat_pred, appE, rowsOf, List.take_length, List.length_cons, List.length_nil, Nat.zero_add, srow, irow, un_s, un_i, Zone.row, Zone_eta, un_Zone, Word.row, Word_eta, Own.row, Own_eta, Part.row, Part_eta, Seen.row, Seen_eta, Book.row, Book_eta, Sector.row, Sector_eta, HCraft.row, HCraft_eta, World.row, World_eta, Pt.row, Pt_eta, Aw.row, Aw_eta, Blk.row, Blk_eta, Sec.row, Sec_eta, Rw.row, Rw_eta, Sky.row, Sky_eta, Place.row, Place_eta, Cell.row, Cell_eta, un_Word, un_Own, un_Part, un_Seen, un_Book, un_Sector, un_HCraft, un_World, un_Pt, un_Aw, un_Blk, un_Sec, un_Rw, un_Sky, un_Place, un_Cell, Nat.sub_zero, Sky.row, ghost, List.nil_append, take_all, tkl, tk2, getD_rows, Cell.row, Cell_eta, un_Cell, un_Pt, e6, hi', hz, hz2, hg1, hg2, hn1, hn2, ptC_mk, tm1, tm0]
          have hE : tRun s ps (0 + 1) = tRun s ps 0 ++ [⟨(ptOf s (ps.getD 0 default)).x, (ptOf s (ps.getD 0 default)).y⟩] := rfl
          refine ⟨fun _ => ⟨⟨by omega, by omega⟩, by omega, by omega, by omega, hN (0 + 1) _ (by simp only [hE, List.length_append, List.length_cons, List.length_nil, Nat.zero_add, List.map_append, List.map_cons, List.map_nil, Cell.row]; simp only [u_E0, u_E1, u_M0, u_M1, w_setE0, w_setE1, w_setM0, w_setM1, reduceIte, Nat.reduceEqDiff]; exact ⟨by repeat' (first | exact trivial | refine ⟨.inr rfl, ?_⟩), by repeat' (first | exact trivial | refine ⟨rfl, ?_⟩), by first | rfl | simp [closedB, refsIn, refsInL, refsInO, dom, refsInL_nr, *], by first | rfl | simp [keepB, dom]⟩) ⟨hlt, all_snoc h1 (fun h => absurd h (by omega))⟩ (by omega)⟩, fun hc => absurd (by omega) hc⟩
        · have hz : ((i : Int) = 0) = False := eq_false (by omega)
          have h8 := ho (i - 1) (by omega)
          have hg2 := ptL_get (s := s) (show i - 1 < ps.length by omega) (Nat.le_refl ps.length)
          have hn2 := ptOf_nm h8
          unfold nmOk at h8
          have hz2 : ((i : Int) - 1).toNat = i - 1 := by omega
          have hc1 := ptC_inn hv h8
          have hc2 := ptC_inn hv h9
          unfold lO_impl_SkyTrack_2; simp (config := { maxSteps := 2000000 }) only [bitvec_to_nat, reduceIte, Nat.reduceEqDiff, Nat.reduceAdd, Nat.reduceLeDiff, reduceCtorEq, Nat.reduceBEq, Nat.reduceLT, Nat.reduceMod, List.forall_mem_cons, retG_ret, retQ_eq, retQ_eqN, retOk, keepB, re_tupl, orr_t, t_iSkyValid, t_iPoint, t_leg, tk_map, dp_map, toNat_pred, appE, rowsOf, List.take_length, List.length_cons, List.length_nil, Nat.zero_add, srow, irow, un_s, un_i, Zone.row, Zone_eta, un_Zone, Word.row, Word_eta, Own.row, Own_eta, Part.row, Part_eta, Seen.row, Seen_eta, Book.row, Book_eta, Sector.row, Sector_eta, HCraft.row, HCraft_eta, World.row, World_eta, Pt.row, Pt_eta, Aw.row, Aw_eta, Blk.row, Blk_eta, Sec.row, Sec_eta, Rw.row, Rw_eta, Sky.row, Sky_eta, Place.row, Place_eta, Cell.row, Cell_eta, un_Word, un_Own, un_Part, un_Seen, un_Book, un_Sector, un_HCraft, un_World, un_Pt, un_Aw, un_Blk, un_Sec, un_Rw, un_Sky, un_Place, un_Cell, Nat.sub_zero, Sky.row, ghost, List.nil_append, take_all, tkl, tk2, getD_rows, Cell.row, Cell_eta, un_Cell, un_Pt, e6, hi', hz, hz2, hg1, hg2, hn1, hn2, ptC_mk, tm1, tm0]
          have hlg := legOf_len hc1 hc2
          have hE : tRun s ps (i + 1) = tRun s ps i ++ (legOf (ptC s (ps.getD (i - 1) default)) (ptC s (ps.getD i default))).drop (Int.toNat 1) := by rw [hrun, tAdd, if_neg i0]; rfl
          have hdl : ((legOf (ptC s (ps.getD (i - 1) default)) (ptC s (ps.getD i default))).drop (Int.toNat 1)).length ≤ 16 := by rw [List.length_drop]; omega
          refine ⟨fun _ => ⟨⟨by omega, by omega⟩, by omega, by omega, ⟨by omega, by omega⟩, by omega, fun h => ?_, fun h => ⟨by omega, ⟨by omega, by omega⟩, by omega, by omega, ⟨by omega, by omega⟩, by omega, ⟨hc1, hc2⟩, ⟨by omega, by omega, by omega⟩, ?_⟩⟩, fun hc => absurd (by omega) hc⟩
          · have hno : ¬ ∀ i, i < ps.length → noRep ps i := fun k => k i hlt (by omega) h
            exact absurd hk.2.2 hno
          generalize (legOf (ptC s (ps.getD (i - 1) default)) (ptC s (ps.getD i default))).drop (Int.toNat 1) = X at *
          refine loop_st (fun j : Nat => [(10, .own 110 ((tRun s ps i).length + j) 0 ((tRun s ps i).length + j)), (83, .int .i64 j)]) (fun j => [(110, .arr 148 ((tRun s ps i).length + j) 2 ((tRun s ps i ++ X.take j).map Cell.row))]) (fun j => j ≤ X.length) (fun j => X.length - j) 0 (by simp only [List.take_zero, List.append_nil, Nat.add_zero]; simp only [u_E0, u_E1, u_M0, u_M1, w_setE0, w_setE1, w_setM0, w_setM1, reduceIte, Nat.reduceEqDiff]; exact ⟨by repeat' (first | exact trivial | refine ⟨.inr rfl, ?_⟩), by repeat' (first | exact trivial | refine ⟨rfl, ?_⟩), by first | rfl | simp [closedB, refsIn, refsInL, refsInO, dom, refsInL_nr, *], by first | rfl | simp [keepB, dom]⟩) (Nat.zero_le _) ?_
          intro j hj NX2 hN2
          have tk2 : List.take ((tRun s ps i).length + j) ((tRun s ps i ++ X.take j).map Cell.row) = (tRun s ps i ++ X.take j).map Cell.row := List.take_of_length_le (by simp; omega)
          by_cases hjl : j < X.length
          · have hsu := tk_snoc (l := tRun s ps i) hjl
            unfold lO_impl_SkyTrack_1; simp (config := { maxSteps := 2000000 }) only [bitvec_to_nat, reduceIte, Nat.reduceEqDiff, Nat.reduceAdd, Nat.reduceLeDiff, reduceCtorEq, Nat.reduceBEq, Nat.reduceLT, Nat.reduceMod, List.forall_mem_cons, retG_ret, retQ_eq, retQ_eqN, retOk, keepB, re_tupl, orr_t, t_iSkyValid, t_iPoint, t_leg, tk_map, dp_map, toNat_pred, appE, rowsOf, List.take_length, List.length_cons, List.length_nil, Nat.zero_add, srow, irow, un_s, un_i, Zone.row, Zone_eta, un_Zone, Word.row, Word_eta, Own.row, Own_eta, Part.row, Part_eta, Seen.row, Seen_eta, Book.row, Book_eta, Sector.row, Sector_eta, HCraft.row, HCraft_eta, World.row, World_eta, Pt.row, Pt_eta, Aw.row, Aw_eta, Blk.row, Blk_eta, Sec.row, Sec_eta, Rw.row, Rw_eta, Sky.row, Sky_eta, Place.row, Place_eta, Cell.row, Cell_eta, un_Word, un_Own, un_Part, un_Seen, un_Book, un_Sector, un_HCraft, un_World, un_Pt, un_Aw, un_Blk, un_Sec, un_Rw, un_Sky, un_Place, un_Cell, Nat.sub_zero, Sky.row, ghost, List.nil_append, take_all, tkl, tk2, getD_rows, Cell.row, Cell_eta, un_Cell, un_Pt, e6, hi', hz, hz2, hg1, hg2, hn1, hn2, ptC_mk, tm1, tm0]
            repeat' (first | with_reducible apply And.intro | with_reducible intro _)
            all_goals first
              | omega
              | (refine hN2 (j + 1) _ ⟨by repeat' (first | exact trivial | refine ⟨.inr rfl, ?_⟩), ⟨rfl, rfl, congrArg (fun g => some (AObj.arr 148 ((tRun s ps i).length + j + 1) 2 g)) hsu, rfl, trivial⟩, rfl, rfl⟩ hjl (by omega))
              | (exfalso; omega)
              | trace_state
          · have e : j = X.length := by omega
            subst e
            have hi' : ¬ ((X.length : Nat) : Int) < X.length := by omega
            unfold lO_impl_SkyTrack_1; simp (config := { maxSteps := 2000000 }) only [bitvec_to_nat, reduceIte, Nat.reduceEqDiff, Nat.reduceAdd, Nat.reduceLeDiff, reduceCtorEq, Nat.reduceBEq, Nat.reduceLT, Nat.reduceMod, List.forall_mem_cons, retG_ret, retQ_eq, retQ_eqN, retOk, keepB, re_tupl, orr_t, t_iSkyValid, t_iPoint, t_leg, tk_map, dp_map, toNat_pred, appE, rowsOf, List.take_length, List.length_cons, List.length_nil, Nat.zero_add, srow, irow, un_s, un_i, Zone.row, Zone_eta, un_Zone, Word.row, Word_eta, Own.row, Own_eta, Part.row, Part_eta, Seen.row, Seen_eta, Book.row, Book_eta, Sector.row, Sector_eta, HCraft.row, HCraft_eta, World.row, World_eta, Pt.row, Pt_eta, Aw.row, Aw_eta, Blk.row, Blk_eta, Sec.row, Sec_eta, Rw.row, Rw_eta, Sky.row, Sky_eta, Place.row, Place_eta, Cell.row, Cell_eta, un_Word, un_Own, un_Part, un_Seen, un_Book, un_Sector, un_HCraft, un_World, un_Pt, un_Aw, un_Blk, un_Sec, un_Rw, un_Sky, un_Place, un_Cell, Nat.sub_zero, Sky.row, ghost, List.nil_append, take_all, tkl, tk2, getD_rows, Cell.row, Cell_eta, un_Cell, un_Pt, e6, hi', hz, hz2, hg1, hg2, hn1, hn2, ptC_mk, tm1, tm0]
            exact ⟨by omega, hN (i + 1) _ (by simp only [hE, List.length_append]; simp only [u_E0, u_E1, u_M0, u_M1, w_setE0, w_setE1, w_setM0, w_setM1, reduceIte, Nat.reduceEqDiff]; exact ⟨by repeat' (first | exact trivial | refine ⟨.inr rfl, ?_⟩), by repeat' (first | exact trivial | refine ⟨rfl, ?_⟩), by first | rfl | simp [closedB, refsIn, refsInL, refsInO, dom, refsInL_nr, *], by first | rfl | simp [keepB, dom]⟩) ⟨hlt, all_snoc h1 (fun _ => h)⟩ (by omega)⟩
      · have e : i = ps.length := by omega
        subst e
        have hi' : ¬ ((ps.length : Nat) : Int) < ps.length := by omega
        have hok : trOk s ps := ⟨hv, ho, h1⟩
        unfold lO_impl_SkyTrack_2; simp (config := { maxSteps := 2000000 }) only [bitvec_to_nat, reduceIte, Nat.reduceEqDiff, Nat.reduceAdd, Nat.reduceLeDiff, reduceCtorEq, Nat.reduceBEq, Nat.reduceLT, Nat.reduceMod, List.forall_mem_cons, retG_ret, retQ_eq, retQ_eqN, retOk, keepB, re_tupl, orr_t, t_iSkyValid, t_iPoint, t_leg, tk_map, dp_map, toNat_pred, appE, rowsOf, List.take_length, List.length_cons, List.length_nil, Nat.zero_add, srow, irow, un_s, un_i, Zone.row, Zone_eta, un_Zone, Word.row, Word_eta, Own.row, Own_eta, Part.row, Part_eta, Seen.row, Seen_eta, Book.row, Book_eta, Sector.row, Sector_eta, HCraft.row, HCraft_eta, World.row, World_eta, Pt.row, Pt_eta, Aw.row, Aw_eta, Blk.row, Blk_eta, Sec.row, Sec_eta, Rw.row, Rw_eta, Sky.row, Sky_eta, Place.row, Place_eta, Cell.row, Cell_eta, un_Word, un_Own, un_Part, un_Seen, un_Book, un_Sector, un_HCraft, un_World, un_Pt, un_Aw, un_Blk, un_Sec, un_Rw, un_Sky, un_Place, un_Cell, Nat.sub_zero, Sky.row, ghost, List.nil_append, take_all, tkl, tk2, getD_rows, Cell.row, Cell_eta, un_Cell, un_Pt, e6, hi', hz, hz2, hg1, hg2, hn1, hn2, ptC_mk, tm1, tm0]
        rw [show trL s ps = tRun s ps ps.length from if_pos hok]; exact ⟨rfl, rfl, by simp [refsIn], rfl⟩
  · exact absurd hk.1 hv
set_option maxHeartbeats 4000000 in
theorem c_iTrackN (s : Sky) (t : Nat) (ps : List ByteArray) (hs : s.small) (hf : s.fitp) (hp : ps.length ≤ 1048576) (hk : ¬ trOk s ps) : Contract P 42 [.agg (s.row 0), .sl t 1 (ps.map srow)] [] (.tup [.sl 98 2 [], .int .i64 (trC s ps)]) [] := by
  have hsm := hs
  unfold Sky.small at hsm
  have tkl : True := trivial
  have tk2 : True := trivial
  have e6 : True := trivial
  have hi' : True := trivial
  have hz : True := trivial
  have hz2 : True := trivial
  have hg1 : True := trivial
  have hg2 : True := trivial
  have hn1 : True := trivial
  have hn2 : True := trivial
  skip
  refine fn_sound ((((Env.nil P).add 15 t_iSkyValid h_iSkyValid).add 91 t_iPoint h_iPoint).add 106 t_leg h_leg) hm kO_impl_SkyTrack (Nat.le_of_ble_eq_true rfl) rfl ?_; unfold sO_impl_SkyTrack; simp (config := { maxSteps := 2000000 }) only [bitvec_to_nat, reduceIte, Nat.reduceEqDiff, Nat.reduceAdd, Nat.reduceLeDiff, reduceCtorEq, Nat.reduceBEq, Nat.reduceLT, Nat.reduceMod, List.forall_mem_cons, retG_ret, retQ_eq, retQ_eqN, retOk, keepB, re_tupl, orr_t, t_iSkyValid, t_iPoint, t_leg, tk_map, dp_map, toNat_pred, appE, rowsOf, List.take_length, List.length_cons, List.length_nil, Nat.zero_add, srow, irow, un_s, un_i, Zone.row, Zone_eta, un_Zone, Word.row, Word_eta, Own.row, Own_eta, Part.row, Part_eta, Seen.row, Seen_eta, Book.row, Book_eta, Sector.row, Sector_eta, HCraft.row, HCraft_eta, World.row, World_eta, Pt.row, Pt_eta, Aw.row, Aw_eta, Blk.row, Blk_eta, Sec.row, Sec_eta, Rw.row, Rw_eta, Sky.row, Sky_eta, Place.row, Place_eta, Cell.row, Cell_eta, un_Word, un_Own, un_Part, un_Seen, un_Book, un_Sector, un_HCraft, un_World, un_Pt, un_Aw, un_Blk, un_Sec, un_Rw, un_Sky, un_Place, un_Cell, Nat.sub_zero, Sky.row, ghost, List.nil_append, take_all, tkl, tk2, getD_rows, Cell.row, Cell_eta, un_Cell, un_Pt, e6, hi', hz, hz2, hg1, hg2, hn1, hn2, ptC_mk, tm1, tm0]
  refine ⟨⟨hs, hf⟩, fun hv => ?_, fun hv => ?_⟩
  · refine loop_st (fun i : Nat => [(6, .own 106 i 0 i), (20, .int .i64 i)]) (fun i => [(106, .arr 103 i 3 ((ptL s ps i).map Pt.row))]) (fun i => i ≤ ps.length ∧ ∀ j, j < i → nmOk s ps j) (fun i => ps.length - i) 0 (by simp only [u_E0, u_E1, u_M0, u_M1, w_setE0, w_setE1, w_setM0, w_setM1, reduceIte, Nat.reduceEqDiff]; exact ⟨by repeat' (first | exact trivial | refine ⟨.inr rfl, ?_⟩), by repeat' (first | exact trivial | refine ⟨rfl, ?_⟩), by first | rfl | simp [closedB, refsIn, refsInL, refsInO, dom, refsInL_nr, *], by first | rfl | simp [keepB, dom]⟩) ⟨Nat.zero_le _, fun j hj => absurd hj (Nat.not_lt_zero _)⟩ ?_
    rintro i ⟨hi, h1⟩ NX hN
    have hll := ptL_len (s := s) hi
    have tkl : List.take i ((ptL s ps i).map Pt.row) = (ptL s ps i).map Pt.row := List.take_of_length_le (by simp [hll])
    by_cases hlt : i < ps.length
    · have hsu := ptL_succ (s := s) hlt
      unfold lO_impl_SkyTrack_0; simp (config := { maxSteps := 2000000 }) only [bitvec_to_nat, reduceIte, Nat.reduceEqDiff, Nat.reduceAdd, Nat.reduceLeDiff, reduceCtorEq, Nat.reduceBEq, Nat.reduceLT, Nat.reduceMod, List.forall_mem_cons, retG_ret, retQ_eq, retQ_eqN, retOk, keepB, re_tupl, orr_t, t_iSkyValid, t_iPoint, t_leg, tk_map, dp_map, toNat_pred, appE, rowsOf, List.take_length, List.length_cons, List.length_nil, Nat.zero_add, srow, irow, un_s, un_i, Zone.row, Zone_eta, un_Zone, Word.row, Word_eta, Own.row, Own_eta, Part.row, Part_eta, Seen.row, Seen_eta, Book.row, Book_eta, Sector.row, Sector_eta, HCraft.row, HCraft_eta, World.row, World_eta, Pt.row, Pt_eta, Aw.row, Aw_eta, Blk.row, Blk_eta, Sec.row, Sec_eta, Rw.row, Rw_eta, Sky.row, Sky_eta, Place.row, Place_eta, Cell.row, Cell_eta, un_Word, un_Own, un_Part, un_Seen, un_Book, un_Sector, un_HCraft, un_World, un_Pt, un_Aw, un_Blk, un_Sec, un_Rw, un_Sky, un_Place, un_Cell, Nat.sub_zero, Sky.row, ghost, List.nil_append, take_all, tkl, tk2, getD_rows, Cell.row, Cell_eta, un_Cell, un_Pt, e6, hi', hz, hz2, hg1, hg2, hn1, hn2, ptC_mk, tm1, tm0]
      refine ⟨fun _ => ⟨by omega, by omega, hs, fun h => ?_, fun h => ⟨by omega, (pIdx_at (by omega)).2.2, by omega, by omega, hN (i + 1) _ ⟨by repeat' (first | exact trivial | refine ⟨.inr rfl, ?_⟩), ⟨rfl, congrArg (fun g => some (AObj.arr 103 (i + 1) 3 g)) hsu, trivial⟩, rfl, rfl⟩ ⟨hlt, all_snoc h1 (by unfold nmOk; omega)⟩ (by omega)⟩⟩, fun hc => absurd (by omega) hc⟩
      have hno : ¬ nmsOk s ps := fun k => by have := k i hlt; unfold nmOk at this; omega
      simp [trC, hv, hno]
    · have e : i = ps.length := by omega
      subst e
      have hi' : ¬ ((ps.length : Nat) : Int) < ps.length := by omega
      unfold lO_impl_SkyTrack_0; simp (config := { maxSteps := 2000000 }) only [bitvec_to_nat, reduceIte, Nat.reduceEqDiff, Nat.reduceAdd, Nat.reduceLeDiff, reduceCtorEq, Nat.reduceBEq, Nat.reduceLT, Nat.reduceMod, List.forall_mem_cons, retG_ret, retQ_eq, retQ_eqN, retOk, keepB, re_tupl, orr_t, t_iSkyValid, t_iPoint, t_leg, tk_map, dp_map, toNat_pred, appE, rowsOf, List.take_length, List.length_cons, List.length_nil, Nat.zero_add, srow, irow, un_s, un_i, Zone.row, Zone_eta, un_Zone, Word.row, Word_eta, Own.row, Own_eta, Part.row, Part_eta, Seen.row, Seen_eta, Book.row, Book_eta, Sector.row, Sector_eta, HCraft.row, HCraft_eta, World.row, World_eta, Pt.row, Pt_eta, Aw.row, Aw_eta, Blk.row, Blk_eta, Sec.row, Sec_eta, Rw.row, Rw_eta, Sky.row, Sky_eta, Place.row, Place_eta, Cell.row, Cell_eta, un_Word, un_Own, un_Part, un_Seen, un_Book, un_Sector, un_HCraft, un_World, un_Pt, un_Aw, un_Blk, un_Sec, un_Rw, un_Sky, un_Place, un_Cell, Nat.sub_zero, Sky.row, ghost, List.nil_append, take_all, tkl, tk2, getD_rows, Cell.row, Cell_eta, un_Cell, un_Pt, e6, hi', hz, hz2, hg1, hg2, hn1, hn2, ptC_mk, tm1, tm0]
      have ho : nmsOk s ps := h1
      refine loop_st (fun i : Nat => [(10, .own 110 (tRun s ps i).length 0 (tRun s ps i).length), (40, .int .i64 i)]) (fun i => [(110, .arr 148 (tRun s ps i).length 2 ((tRun s ps i).map Cell.row))]) (fun i => i ≤ ps.length ∧ ∀ j, j < i → noRep ps j) (fun i => ps.length - i) 0 (by simp only [u_E0, u_E1, u_M0, u_M1, w_setE0, w_setE1, w_setM0, w_setM1, reduceIte, Nat.reduceEqDiff]; exact ⟨by repeat' (first | exact trivial | refine ⟨.inr rfl, ?_⟩), by repeat' (first | exact trivial | refine ⟨rfl, ?_⟩), by first | rfl | simp [closedB, refsIn, refsInL, refsInO, dom, refsInL_nr, *], by first | rfl | simp [keepB, dom]⟩) ⟨Nat.zero_le _, fun j hj => absurd hj (Nat.not_lt_zero _)⟩ ?_
      rintro i ⟨hi, h1⟩ NX hN
      have hll := tRun_len hv ho i hi
      have tkl : List.take (tRun s ps i).length ((tRun s ps i).map Cell.row) = (tRun s ps i).map Cell.row := List.take_of_length_le (by simp)
      by_cases hlt : i < ps.length
      · have hrun : tRun s ps (i + 1) = tRun s ps i ++ tAdd s ps i := rfl
        have h9 := ho i hlt
        have hg1 := ptL_get (s := s) hlt (Nat.le_refl ps.length)
        have hn1 := ptOf_nm h9
        have hpl := ptL_len (s := s) (Nat.le_refl ps.length)
        unfold nmOk at h9
        by_cases i0 : i = 0
        · subst i0
          have hz : (((0 : Nat) : Int) = 0) = True := eq_true rfl
          unfold lO_impl_SkyTrack_2; simp (config := { maxSteps := 2000000 }) only [bitvec_to_nat, reduceIte, Nat.reduceEqDiff, Nat.reduceAdd, Nat.reduceLeDiff, reduceCtorEq, Nat.reduceBEq, Nat.reduceLT, Nat.reduceMod, List.forall_mem_cons, retG_ret, retQ_eq, retQ_eqN, retOk, keepB, re_tupl, orr_t, t_iSkyValid, t_iPoint, t_leg, tk_map, dp_map, toNat_pred, appE, rowsOf, List.take_length, List.length_cons, List.length_nil, Nat.zero_add, srow, irow, un_s, un_i, Zone.row, Zone_eta, un_Zone, Word.row, Word_eta, Own.row, Own_eta, Part.row, Part_eta, Seen.row, Seen_eta, Book.row, Book_eta, Sector.row, Sector_eta, HCraft.row, HCraft_eta, World.row, World_eta, Pt.row, Pt_eta, Aw.row, Aw_eta, Blk.row, Blk_eta, Sec.row, Sec_eta, Rw.row, Rw_eta, Sky.row, Sky_eta, Place.row, Place_eta, Cell.row, Cell_eta, un_Word, un_Own, un_Part, un_Seen, un_Book, un_Sector, un_HCraft, un_World, un_Pt, un_Aw, un_Blk, un_Sec, un_Rw, un_Sky, un_Place, un_Cell, Nat.sub_zero, Sky.row, ghost, List.nil_append, take_all, tkl, tk2, getD_rows, Cell.row, Cell_eta, un_Cell, un_Pt, e6, hi', hz, hz2, hg1, hg2, hn1, hn2, ptC_mk, tm1, tm0]
          have hE : tRun s ps (0 + 1) = tRun s ps 0 ++ [⟨(ptOf s (ps.getD 0 default)).x, (ptOf s (ps.getD 0 default)).y⟩] := rfl
          refine ⟨fun _ => ⟨⟨by omega, by omega⟩, by omega, by omega, by omega, hN (0 + 1) _ (by simp only [hE, List.length_append, List.length_cons, List.length_nil, Nat.zero_add, List.map_append, List.map_cons, List.map_nil, Cell.row]; simp only [u_E0, u_E1, u_M0, u_M1, w_setE0, w_setE1, w_setM0, w_setM1, reduceIte, Nat.reduceEqDiff]; exact ⟨by repeat' (first | exact trivial | refine ⟨.inr rfl, ?_⟩), by repeat' (first | exact trivial | refine ⟨rfl, ?_⟩), by first | rfl | simp [closedB, refsIn, refsInL, refsInO, dom, refsInL_nr, *], by first | rfl | simp [keepB, dom]⟩) ⟨hlt, all_snoc h1 (fun h => absurd h (by omega))⟩ (by omega)⟩, fun hc => absurd (by omega) hc⟩
        · have hz : ((i : Int) = 0) = False := eq_false (by omega)
          have h8 := ho (i - 1) (by omega)
          have hg2 := ptL_get (s := s) (show i - 1 < ps.length by omega) (Nat.le_refl ps.length)
          have hn2 := ptOf_nm h8
          unfold nmOk at h8
          have hz2 : ((i : Int) - 1).toNat = i - 1 := by omega
          have hc1 := ptC_inn hv h8
          have hc2 := ptC_inn hv h9
          unfold lO_impl_SkyTrack_2; simp (config := { maxSteps := 2000000 }) only [bitvec_to_nat, reduceIte, Nat.reduceEqDiff, Nat.reduceAdd, Nat.reduceLeDiff, reduceCtorEq, Nat.reduceBEq, Nat.reduceLT, Nat.reduceMod, List.forall_mem_cons, retG_ret, retQ_eq, retQ_eqN, retOk, keepB, re_tupl, orr_t, t_iSkyValid, t_iPoint, t_leg, tk_map, dp_map, toNat_pred, appE, rowsOf, List.take_length, List.length_cons, List.length_nil, Nat.zero_add, srow, irow, un_s, un_i, Zone.row, Zone_eta, un_Zone, Word.row, Word_eta, Own.row, Own_eta, Part.row, Part_eta, Seen.row, Seen_eta, Book.row, Book_eta, Sector.row, Sector_eta, HCraft.row, HCraft_eta, World.row, World_eta, Pt.row, Pt_eta, Aw.row, Aw_eta, Blk.row, Blk_eta, Sec.row, Sec_eta, Rw.row, Rw_eta, Sky.row, Sky_eta, Place.row, Place_eta, Cell.row, Cell_eta, un_Word, un_Own, un_Part, un_Seen, un_Book, un_Sector, un_HCraft, un_World, un_Pt, un_Aw, un_Blk, un_Sec, un_Rw, un_Sky, un_Place, un_Cell, Nat.sub_zero, Sky.row, ghost, List.nil_append, take_all, tkl, tk2, getD_rows, Cell.row, Cell_eta, un_Cell, un_Pt, e6, hi', hz, hz2, hg1, hg2, hn1, hn2, ptC_mk, tm1, tm0]
          have hlg := legOf_len hc1 hc2
          have hE : tRun s ps (i + 1) = tRun s ps i ++ (legOf (ptC s (ps.getD (i - 1) default)) (ptC s (ps.getD i default))).drop (Int.toNat 1) := by rw [hrun, tAdd, if_neg i0]; rfl
          have hdl : ((legOf (ptC s (ps.getD (i - 1) default)) (ptC s (ps.getD i default))).drop (Int.toNat 1)).length ≤ 16 := by rw [List.length_drop]; omega
          refine ⟨fun _ => ⟨⟨by omega, by omega⟩, by omega, by omega, ⟨by omega, by omega⟩, by omega, fun h => ?_, fun h => ⟨by omega, ⟨by omega, by omega⟩, by omega, by omega, ⟨by omega, by omega⟩, by omega, ⟨hc1, hc2⟩, ⟨by omega, by omega, by omega⟩, ?_⟩⟩, fun hc => absurd (by omega) hc⟩
          · have hno : ¬ ∀ i, i < ps.length → noRep ps i := fun k => k i hlt (by omega) h
            have hno3 : ¬ trOk s ps := fun k => hno k.2.2; simp [trC, hv, ho, hno3]
          generalize (legOf (ptC s (ps.getD (i - 1) default)) (ptC s (ps.getD i default))).drop (Int.toNat 1) = X at *
          refine loop_st (fun j : Nat => [(10, .own 110 ((tRun s ps i).length + j) 0 ((tRun s ps i).length + j)), (83, .int .i64 j)]) (fun j => [(110, .arr 148 ((tRun s ps i).length + j) 2 ((tRun s ps i ++ X.take j).map Cell.row))]) (fun j => j ≤ X.length) (fun j => X.length - j) 0 (by simp only [List.take_zero, List.append_nil, Nat.add_zero]; simp only [u_E0, u_E1, u_M0, u_M1, w_setE0, w_setE1, w_setM0, w_setM1, reduceIte, Nat.reduceEqDiff]; exact ⟨by repeat' (first | exact trivial | refine ⟨.inr rfl, ?_⟩), by repeat' (first | exact trivial | refine ⟨rfl, ?_⟩), by first | rfl | simp [closedB, refsIn, refsInL, refsInO, dom, refsInL_nr, *], by first | rfl | simp [keepB, dom]⟩) (Nat.zero_le _) ?_
          intro j hj NX2 hN2
          have tk2 : List.take ((tRun s ps i).length + j) ((tRun s ps i ++ X.take j).map Cell.row) = (tRun s ps i ++ X.take j).map Cell.row := List.take_of_length_le (by simp; omega)
          by_cases hjl : j < X.length
          · have hsu := tk_snoc (l := tRun s ps i) hjl
            unfold lO_impl_SkyTrack_1; simp (config := { maxSteps := 2000000 }) only [bitvec_to_nat, reduceIte, Nat.reduceEqDiff, Nat.reduceAdd, Nat.reduceLeDiff, reduceCtorEq, Nat.reduceBEq, Nat.reduceLT, Nat.reduceMod, List.forall_mem_cons, retG_ret, retQ_eq, retQ_eqN, retOk, keepB, re_tupl, orr_t, t_iSkyValid, t_iPoint, t_leg, tk_map, dp_map, toNat_pred, appE, rowsOf, List.take_length, List.length_cons, List.length_nil, Nat.zero_add, srow, irow, un_s, un_i, Zone.row, Zone_eta, un_Zone, Word.row, Word_eta, Own.row, Own_eta, Part.row, Part_eta, Seen.row, Seen_eta, Book.row, Book_eta, Sector.row, Sector_eta, HCraft.row, HCraft_eta, World.row, World_eta, Pt.row, Pt_eta, Aw.row, Aw_eta, Blk.row, Blk_eta, Sec.row, Sec_eta, Rw.row, Rw_eta, Sky.row, Sky_eta, Place.row, Place_eta, Cell.row, Cell_eta, un_Word, un_Own, un_Part, un_Seen, un_Book, un_Sector, un_HCraft, un_World, un_Pt, un_Aw, un_Blk, un_Sec, un_Rw, un_Sky, un_Place, un_Cell, Nat.sub_zero, Sky.row, ghost, List.nil_append, take_all, tkl, tk2, getD_rows, Cell.row, Cell_eta, un_Cell, un_Pt, e6, hi', hz, hz2, hg1, hg2, hn1, hn2, ptC_mk, tm1, tm0]
            repeat' (first | with_reducible apply And.intro | with_reducible intro _)
            all_goals first
              | omega
              | (refine hN2 (j + 1) _ ⟨by repeat' (first | exact trivial | refine ⟨.inr rfl, ?_⟩), ⟨rfl, rfl, congrArg (fun g => some (AObj.arr 148 ((tRun s ps i).length + j + 1) 2 g)) hsu, rfl, trivial⟩, rfl, rfl⟩ hjl (by omega))
              | (exfalso; omega)
              | trace_state
          · have e : j = X.length := by omega
            subst e
            have hi' : ¬ ((X.length : Nat) : Int) < X.length := by omega
            unfold lO_impl_SkyTrack_1; simp (config := { maxSteps := 2000000 }) only [bitvec_to_nat, reduceIte, Nat.reduceEqDiff, Nat.reduceAdd, Nat.reduceLeDiff, reduceCtorEq, Nat.reduceBEq, Nat.reduceLT, Nat.reduceMod, List.forall_mem_cons, retG_ret, retQ_eq, retQ_eqN, retOk, keepB, re_tupl, orr_t, t_iSkyValid, t_iPoint, t_leg, tk_map, dp_map, toNat_pred, appE, rowsOf, List.take_length, List.length_cons, List.length_nil, Nat.zero_add, srow, irow, un_s, un_i, Zone.row, Zone_eta, un_Zone, Word.row, Word_eta, Own.row, Own_eta, Part.row, Part_eta, Seen.row, Seen_eta, Book.row, Book_eta, Sector.row, Sector_eta, HCraft.row, HCraft_eta, World.row, World_eta, Pt.row, Pt_eta, Aw.row, Aw_eta, Blk.row, Blk_eta, Sec.row, Sec_eta, Rw.row, Rw_eta, Sky.row, Sky_eta, Place.row, Place_eta, Cell.row, Cell_eta, un_Word, un_Own, un_Part, un_Seen, un_Book, un_Sector, un_HCraft, un_World, un_Pt, un_Aw, un_Blk, un_Sec, un_Rw, un_Sky, un_Place, un_Cell, Nat.sub_zero, Sky.row, ghost, List.nil_append, take_all, tkl, tk2, getD_rows, Cell.row, Cell_eta, un_Cell, un_Pt, e6, hi', hz, hz2, hg1, hg2, hn1, hn2, ptC_mk, tm1, tm0]
            exact ⟨by omega, hN (i + 1) _ (by simp only [hE, List.length_append]; simp only [u_E0, u_E1, u_M0, u_M1, w_setE0, w_setE1, w_setM0, w_setM1, reduceIte, Nat.reduceEqDiff]; exact ⟨by repeat' (first | exact trivial | refine ⟨.inr rfl, ?_⟩), by repeat' (first | exact trivial | refine ⟨rfl, ?_⟩), by first | rfl | simp [closedB, refsIn, refsInL, refsInO, dom, refsInL_nr, *], by first | rfl | simp [keepB, dom]⟩) ⟨hlt, all_snoc h1 (fun _ => h)⟩ (by omega)⟩
      · have e : i = ps.length := by omega
        subst e
        have hi' : ¬ ((ps.length : Nat) : Int) < ps.length := by omega
        have hok : trOk s ps := ⟨hv, ho, h1⟩
        unfold lO_impl_SkyTrack_2; simp (config := { maxSteps := 2000000 }) only [bitvec_to_nat, reduceIte, Nat.reduceEqDiff, Nat.reduceAdd, Nat.reduceLeDiff, reduceCtorEq, Nat.reduceBEq, Nat.reduceLT, Nat.reduceMod, List.forall_mem_cons, retG_ret, retQ_eq, retQ_eqN, retOk, keepB, re_tupl, orr_t, t_iSkyValid, t_iPoint, t_leg, tk_map, dp_map, toNat_pred, appE, rowsOf, List.take_length, List.length_cons, List.length_nil, Nat.zero_add, srow, irow, un_s, un_i, Zone.row, Zone_eta, un_Zone, Word.row, Word_eta, Own.row, Own_eta, Part.row, Part_eta, Seen.row, Seen_eta, Book.row, Book_eta, Sector.row, Sector_eta, HCraft.row, HCraft_eta, World.row, World_eta, Pt.row, Pt_eta, Aw.row, Aw_eta, Blk.row, Blk_eta, Sec.row, Sec_eta, Rw.row, Rw_eta, Sky.row, Sky_eta, Place.row, Place_eta, Cell.row, Cell_eta, un_Word, un_Own, un_Part, un_Seen, un_Book, un_Sector, un_HCraft, un_World, un_Pt, un_Aw, un_Blk, un_Sec, un_Rw, un_Sky, un_Place, un_Cell, Nat.sub_zero, Sky.row, ghost, List.nil_append, take_all, tkl, tk2, getD_rows, Cell.row, Cell_eta, un_Cell, un_Pt, e6, hi', hz, hz2, hg1, hg2, hn1, hn2, ptC_mk, tm1, tm0]
        exact absurd hok hk
  · simp [trC, hv]
end
end Go.Ve

