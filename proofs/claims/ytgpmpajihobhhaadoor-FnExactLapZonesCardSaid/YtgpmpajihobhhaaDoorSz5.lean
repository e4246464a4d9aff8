/- Part 5 of the proof: laws and contracts of functions, each proved; they are joined in the last part. No conditions beyond those that the theorems state. -/
import Derived.Test.YtgpmpajihobhhaaDoorSz4
set_option linter.all false
namespace Go.Ve
noncomputable section
open Go.Proofs
set_option linter.unusedSimpArgs false
set_option linter.unusedVariables false
set_option maxRecDepth 100000
def dch (i : Nat) : ByteArray := ⟨#[byteOf [AV.int .u8 (IntKind.u8.wrap (48 + (i : Int) % 10))]]⟩
theorem dch_eq (i : Nat) : bytesOf [[AV.int .u8 (IntKind.u8.wrap (48 + (i : Int) % 10))]] = dch i := rfl
def dg (k : Nat) (o : ByteArray) : ByteArray := if h : k = 0 then o else dg (k / 10) (dch k ++ o)
termination_by k
decreasing_by omega
theorem dg_zero (o : ByteArray) : dg 0 o = o := by rw [dg]; simp
theorem dg_step {k : Nat} (o : ByteArray) (h : 0 < k) : dg k o = dg (k / 10) (dch k ++ o) := by rw [dg]; simp [show k ≠ 0 by omega]
def mtx (k : Int) : ByteArray := if k ≤ 0 then ⟨#[109, 48]⟩ else ⟨#[109]⟩ ++ dg k.toNat ⟨#[]⟩
theorem dch_len (i : Nat) : (dch i).toList.length = 1 := by rw [← toList_size]; rfl
theorem app_len (a b : ByteArray) : (a ++ b).toList.length = a.toList.length + b.toList.length := by simp only [← toList_size, ByteArray.size_append]
theorem byte_ok (w : Int) : isByte [AV.int .u8 (IntKind.u8.wrap w)] = true := by
  simp [isByte, IntKind.wrap, IntKind.bits, IntKind.signed]
  try omega
theorem m_len : (⟨#[109]⟩ : ByteArray).toList.length = 1 := by rw [← toList_size]; rfl
theorem e_len : (⟨#[]⟩ : ByteArray).toList.length = 0 := by rw [← toList_size]; rfl
theorem c_markText (k : Int) (hk : 0 ≤ k ∧ k ≤ 1152921504606846976) : Contract P 100 [.int .i64 k] [] (.str (mtx k)) [] := by
  refine fn_sound (Env.nil P) hm k_laws_markText (Nat.le_of_ble_eq_true rfl) rfl ?_; unfold s_laws_markText; simp (config := { maxSteps := 2000000 }) only [bitvec_to_nat, reduceIte, Nat.reduceEqDiff, Nat.reduceAdd, Nat.reduceLeDiff, reduceCtorEq, Nat.reduceBEq, Nat.reduceLT, Nat.reduceMod, List.forall_mem_cons, Nat.zero_add, un_s, List.map_cons, List.map_nil, rowsOf, dch_eq]
  refine ⟨fun h => by rw [mtx, if_pos h], fun hp => ?_⟩
  have hkk : ((k.toNat : Nat) : Int) = k := by omega
  refine loop_st (fun a : Nat × ByteArray => [(0, .int .i64 a.1), (3, .str a.2)]) (fun _ => []) (fun a => dg a.1 a.2 = dg k.toNat ⟨#[]⟩ ∧ a.2.toList.length + a.1 ≤ 1152921504606846976) (fun a => a.1) (k.toNat, ⟨#[]⟩) (by simp only [hkk]; simp only [u_E0, u_E1, u_M0, u_M1, w_setE0, w_setE1, w_setM0, w_setM1, reduceIte, Nat.reduceEqDiff]; exact ⟨by repeat' (first | exact trivial | refine ⟨.inr rfl, ?_⟩), by repeat' (first | exact trivial | refine ⟨rfl, ?_⟩), by first | rfl | simp [closedB, refsIn, refsInL, refsInO, dom, refsInL_nr, *], by first | rfl | simp [keepB, dom]⟩) ⟨rfl, by simp only [e_len]; omega⟩ ?_
  rintro ⟨i, s⟩ ⟨h1, h2⟩ NX hN
  simp only at h1 h2
  unfold l_laws_markText_0; simp (config := { maxSteps := 2000000 }) only [bitvec_to_nat, reduceIte, Nat.reduceEqDiff, Nat.reduceAdd, Nat.reduceLeDiff, reduceCtorEq, Nat.reduceBEq, Nat.reduceLT, Nat.reduceMod, List.forall_mem_cons, Nat.zero_add, un_s, List.map_cons, List.map_nil, rowsOf, dch_eq]
  refine ⟨fun g => ⟨by omega, by omega, by simp only [List.all_cons, List.all_nil, byte_ok, Bool.and_true], ?_⟩, fun g => ?_⟩
  · have e1 := dch_len i
    refine ⟨by rw [e1]; omega, by omega, ?_⟩
    have e2 : ((i : Int) / 10) = ((i / 10 : Nat) : Int) := by omega
    simp only [e2]
    refine hN (i / 10, dch i ++ s) _ (by simp only [u_E0, u_E1, u_M0, u_M1, w_setE0, w_setE1, w_setM0, w_setM1, reduceIte, Nat.reduceEqDiff]; exact ⟨by repeat' (first | exact trivial | refine ⟨.inr rfl, ?_⟩), by repeat' (first | exact trivial | refine ⟨rfl, ?_⟩), by first | rfl | simp [closedB, refsIn, refsInL, refsInO, dom, refsInL_nr, *], by first | rfl | simp [keepB, dom]⟩) ?_ ?_
    · exact ⟨by rw [← dg_step s (by omega)]; exact h1, by simp only [app_len, e1]; omega⟩
    · simp only; omega
  · have e : i = 0 := by omega
    subst e
    rw [dg_zero] at h1
    refine ⟨by rw [m_len]; omega, ?_⟩
    rw [mtx, if_neg hp, ← h1]
def t_markText : List AV → Option (Prop × AV)
  | [.int .i64 k] => some ((True) ∧ (0 ≤ k ∧ k ≤ 1152921504606846976), .str (mtx k))
  | _ => none
theorem h_markText : ∀ args p v, t_markText args = some (p, v) → p → Contract P 100 args [] v [] ∧ noref v = true ∧ No99 v := by
  intro args p v h1 h2
  unfold t_markText at h1
  split at h1
  · rename_i k
    cases h1
    obtain ⟨_, HP⟩ := h2
    have := c_markText k HP
    exact ⟨this, rfl, trivial⟩
  · cases h1
theorem getD_seti' {α : Type} {l : List α} {i : Nat} {x d : α} (h : i < l.length) : (l.set i x).getD i d = x := by simp [h]
theorem getD_setn' {α : Type} {l : List α} {i j : Nat} {x d : α} (h : i ≠ j) : (l.set i x).getD j d = l.getD j d := by simp [List.getElem?_set_ne h]
def mk_ByteArray (k : Int) : ByteArray := mtx k
def ms_ByteArray (k : Int) (n : Nat) : List ByteArray := (List.range n).map fun j : Nat => mk_ByteArray (k + (j : Int))
theorem ms_ByteArray_len {k : Int} {n : Nat} : (ms_ByteArray k n).length = n := by simp [ms_ByteArray]
theorem ms_ByteArray_get {k : Int} {n j : Nat} (h : j < n) : (ms_ByteArray k n).getD j default = mk_ByteArray (k + (j : Int)) := by simp [ms_ByteArray, h]
theorem setm_ByteArray {l : List ByteArray} {i : Nat} {v : ByteArray} : (l.map srow).set i (setSeg ((l.map srow).getD i []) 0 [.str v]) = (l.set i v).map srow :=
  set_rows (α := ByteArray) (f := srow) (fun _ => v) fun x => by simp [srow, setSeg]
set_option maxHeartbeats 1000000 in
theorem c_markByteArrayS (v : Nat) (k : Int) (a : List ByteArray) (ha : a.length ≤ 1048577) (hk : 0 ≤ k ∧ k ≤ 1125899906842624) : Contract P 45 [.own 3 v 0 a.length, .int .i64 k] [(3, .arr 9 v 1 (a.map srow))] (.int .i64 (k + a.length)) [(3, .arr 9 v 1 ((ms_ByteArray k a.length).map srow))] := by
  have hz : ((0 : Nat) : Int) = 0 := rfl
  have gs : True := trivial
  refine fn_sound ((Env.nil P).add 100 t_markText h_markText) hm k_laws_markStringS (Nat.le_of_ble_eq_true rfl) rfl ?_; unfold s_laws_markStringS; simp (config := { maxSteps := 2000000 }) only [bitvec_to_nat, reduceIte, Nat.reduceEqDiff, Nat.reduceAdd, Nat.reduceLeDiff, reduceCtorEq, Nat.reduceBEq, Nat.reduceLT, Nat.reduceMod, List.forall_mem_cons, retG_ret, retQ_eq, retQ_eqN, retOk, keepB, re_tupl, orr_t, t_markText, setm_ByteArray, List.set_set, gs, irow, srow, Int.toNat_natCast, List.length_map, List.length_set, Nat.sub_zero, Nat.zero_add, hz]
  refine loop_st (fun b : Nat × List ByteArray => [(1, .int .i64 (k + b.1)), (5, .int .i64 b.1)]) (fun b => [(3, .arr 9 v 1 (b.2.map srow))]) (fun b => b.2.length = a.length ∧ b.1 ≤ a.length ∧ ∀ j, j < b.1 → b.2.getD j default = mk_ByteArray (k + (j : Int))) (fun b => a.length - b.1) (0, a) ?_ ⟨rfl, Nat.zero_le _, fun j hj => absurd hj (Nat.not_lt_zero _)⟩ ?_
  · have e0 : k + ((0 : Nat) : Int) = k := by omega
    simp only [e0]
    simp only [u_E0, u_E1, u_M0, u_M1, w_setE0, w_setE1, w_setM0, w_setM1, reduceIte, Nat.reduceEqDiff]; exact ⟨by repeat' (first | exact trivial | refine ⟨.inr rfl, ?_⟩), by repeat' (first | exact trivial | refine ⟨rfl, ?_⟩), by first | rfl | simp [closedB, refsIn, refsInL, refsInO, dom, refsInL_nr, *], by first | rfl | simp [keepB, dom]⟩
  rintro ⟨i, l⟩ ⟨h1, h2, h3⟩ NX hN
  simp only at h1 h2 h3
  have gs : i < a.length → ∀ x : ByteArray, (l.set i x).getD i default = x := fun h x => getD_seti' (by omega)
  by_cases hi : i < a.length
  · have gs := gs hi
    have e5 : k + ((i + 1 : Nat) : Int) = k + (i : Int) + 1 := by omega
    unfold l_laws_markStringS_0; simp (config := { maxSteps := 2000000 }) only [bitvec_to_nat, reduceIte, Nat.reduceEqDiff, Nat.reduceAdd, Nat.reduceLeDiff, reduceCtorEq, Nat.reduceBEq, Nat.reduceLT, Nat.reduceMod, List.forall_mem_cons, retG_ret, retQ_eq, retQ_eqN, retOk, keepB, re_tupl, orr_t, t_markText, setm_ByteArray, List.set_set, gs, irow, srow, Int.toNat_natCast, List.length_map, List.length_set, Nat.sub_zero, Nat.zero_add, hz]
    repeat' (first | with_reducible apply And.intro | with_reducible intro _)
    all_goals first
      | omega
      | (refine hN (i + 1, l.set i (mk_ByteArray (k + (i : Int)))) _ (by simp only [e5]; simp only [u_E0, u_E1, u_M0, u_M1, w_setE0, w_setE1, w_setM0, w_setM1, reduceIte, Nat.reduceEqDiff]; exact ⟨by repeat' (first | exact trivial | refine ⟨.inr rfl, ?_⟩), by repeat' (first | exact trivial | refine ⟨rfl, ?_⟩), by first | rfl | simp [closedB, refsIn, refsInL, refsInO, dom, refsInL_nr, *], by first | rfl | simp [keepB, dom]⟩) ⟨by simp only [List.length_set]; exact h1, hi, fun j hj => ?_⟩ (by simp only; omega)
         simp only at hj ⊢
         by_cases e : j = i
         · subst e; exact getD_seti' (by omega)
         · rw [getD_setn' (Ne.symm e)]; exact h3 j (by omega))
      | (exfalso; omega)
  · have hl : l = ms_ByteArray k a.length := ext_of (by rw [ms_ByteArray_len]; exact h1) fun j hj => by rw [ms_ByteArray_get (by omega)]; exact h3 j (by omega)
    have hi' : ¬ (i : Int) < a.length := by omega
    unfold l_laws_markStringS_0; simp (config := { maxSteps := 2000000 }) only [bitvec_to_nat, reduceIte, Nat.reduceEqDiff, Nat.reduceAdd, Nat.reduceLeDiff, reduceCtorEq, Nat.reduceBEq, Nat.reduceLT, Nat.reduceMod, List.forall_mem_cons, retG_ret, retQ_eq, retQ_eqN, retOk, keepB, re_tupl, orr_t, t_markText, setm_ByteArray, List.set_set, gs, irow, srow, Int.toNat_natCast, List.length_map, List.length_set, Nat.sub_zero, Nat.zero_add, hz, hi']
    refine ⟨by omega, ?_⟩
    rw [hl]
theorem g_markByteArrayS (v : Nat) (k : Int) (a : List ByteArray) (ha : a.length ≤ 1048577) (hk : 0 ≤ k ∧ k ≤ 1125899906842624) : Contract P 45 [.own 3 v 0 a.length, .int .i64 k] [(3, .arr 9 v 1 (a.map srow))] (.int .i64 (k + a.length)) [(3, .gone)] :=
  (c_markByteArrayS v k a ha hk).gone rfl
def mk_Pt (k : Int) : Pt := ⟨mtx (k), k + 1, k + 1 + 1⟩
def ms_Pt (k : Int) (n : Nat) : List Pt := (List.range n).map fun j : Nat => mk_Pt (k + 3 * (j : Int))
theorem ms_Pt_len {k : Int} {n : Nat} : (ms_Pt k n).length = n := by simp [ms_Pt]
theorem ms_Pt_get {k : Int} {n j : Nat} (h : j < n) : (ms_Pt k n).getD j default = mk_Pt (k + 3 * (j : Int)) := by simp [ms_Pt, h]
theorem setm_Pt0 {l : List Pt} {i : Nat} {v : ByteArray} : (l.map Pt.row).set i (setSeg ((l.map Pt.row).getD i []) 0 [.str v]) = (l.set i { l.getD i default with nm := v }).map Pt.row :=
  set_rows (α := Pt) (f := Pt.row) (fun s => { s with nm := v }) fun x => by simp [Pt.row, setSeg]
theorem setm_Pt1 {l : List Pt} {i : Nat} {v : Int} : (l.map Pt.row).set i (setSeg ((l.map Pt.row).getD i []) 1 [.int .i64 v]) = (l.set i { l.getD i default with x := v }).map Pt.row :=
  set_rows (α := Pt) (f := Pt.row) (fun s => { s with x := v }) fun x => by simp [Pt.row, setSeg]
theorem setm_Pt2 {l : List Pt} {i : Nat} {v : Int} : (l.map Pt.row).set i (setSeg ((l.map Pt.row).getD i []) 2 [.int .i64 v]) = (l.set i { l.getD i default with y := v }).map Pt.row :=
  set_rows (α := Pt) (f := Pt.row) (fun s => { s with y := v }) fun x => by simp [Pt.row, setSeg]
set_option maxHeartbeats 1000000 in
theorem c_markPtS (v : Nat) (k : Int) (a : List Pt) (ha : a.length ≤ 1048577) (hk : 0 ≤ k ∧ k ≤ 1125899906842624) : Contract P 96 [.own 3 v 0 a.length, .int .i64 k] [(3, .arr 103 v 3 (a.map Pt.row))] (.int .i64 (k + 3 * a.length)) [(3, .arr 103 v 3 ((ms_Pt k a.length).map Pt.row))] := by
  have hz : ((0 : Nat) : Int) = 0 := rfl
  have gs : True := trivial
  refine fn_sound ((Env.nil P).add 100 t_markText h_markText) hm k_laws_markSkyPointS (Nat.le_of_ble_eq_true rfl) rfl ?_; unfold s_laws_markSkyPointS; simp (config := { maxSteps := 2000000 }) only [bitvec_to_nat, reduceIte, Nat.reduceEqDiff, Nat.reduceAdd, Nat.reduceLeDiff, reduceCtorEq, Nat.reduceBEq, Nat.reduceLT, Nat.reduceMod, List.forall_mem_cons, retG_ret, retQ_eq, retQ_eqN, retOk, keepB, re_tupl, orr_t, t_markText, setm_Pt0, setm_Pt1, setm_Pt2, List.set_set, gs, Pt.row, irow, srow, Int.toNat_natCast, List.length_map, List.length_set, Nat.sub_zero, Nat.zero_add, hz]
  refine loop_st (fun b : Nat × List Pt => [(1, .int .i64 (k + 3 * b.1)), (5, .int .i64 b.1)]) (fun b => [(3, .arr 103 v 3 (b.2.map Pt.row))]) (fun b => b.2.length = a.length ∧ b.1 ≤ a.length ∧ ∀ j, j < b.1 → b.2.getD j default = mk_Pt (k + 3 * (j : Int))) (fun b => a.length - b.1) (0, a) ?_ ⟨rfl, Nat.zero_le _, fun j hj => absurd hj (Nat.not_lt_zero _)⟩ ?_
  · have e0 : k + 3 * ((0 : Nat) : Int) = k := by omega
    simp only [e0]
    simp only [u_E0, u_E1, u_M0, u_M1, w_setE0, w_setE1, w_setM0, w_setM1, reduceIte, Nat.reduceEqDiff]; exact ⟨by repeat' (first | exact trivial | refine ⟨.inr rfl, ?_⟩), by repeat' (first | exact trivial | refine ⟨rfl, ?_⟩), by first | rfl | simp [closedB, refsIn, refsInL, refsInO, dom, refsInL_nr, *], by first | rfl | simp [keepB, dom]⟩
  rintro ⟨i, l⟩ ⟨h1, h2, h3⟩ NX hN
  simp only at h1 h2 h3
  have gs : i < a.length → ∀ x : Pt, (l.set i x).getD i default = x := fun h x => getD_seti' (by omega)
  by_cases hi : i < a.length
  · have gs := gs hi
    have e5 : k + 3 * ((i + 1 : Nat) : Int) = k + 3 * (i : Int) + 1 + 1 + 1 := by omega
    unfold l_laws_markSkyPointS_0; simp (config := { maxSteps := 2000000 }) only [bitvec_to_nat, reduceIte, Nat.reduceEqDiff, Nat.reduceAdd, Nat.reduceLeDiff, reduceCtorEq, Nat.reduceBEq, Nat.reduceLT, Nat.reduceMod, List.forall_mem_cons, retG_ret, retQ_eq, retQ_eqN, retOk, keepB, re_tupl, orr_t, t_markText, setm_Pt0, setm_Pt1, setm_Pt2, List.set_set, gs, Pt.row, irow, srow, Int.toNat_natCast, List.length_map, List.length_set, Nat.sub_zero, Nat.zero_add, hz]
    repeat' (first | with_reducible apply And.intro | with_reducible intro _)
    all_goals first
      | omega
      | (refine hN (i + 1, l.set i (mk_Pt (k + 3 * (i : Int)))) _ (by simp only [e5]; simp only [u_E0, u_E1, u_M0, u_M1, w_setE0, w_setE1, w_setM0, w_setM1, reduceIte, Nat.reduceEqDiff]; exact ⟨by repeat' (first | exact trivial | refine ⟨.inr rfl, ?_⟩), by repeat' (first | exact trivial | refine ⟨rfl, ?_⟩), by first | rfl | simp [closedB, refsIn, refsInL, refsInO, dom, refsInL_nr, *], by first | rfl | simp [keepB, dom]⟩) ⟨by simp only [List.length_set]; exact h1, hi, fun j hj => ?_⟩ (by simp only; omega)
         simp only at hj ⊢
         by_cases e : j = i
         · subst e; exact getD_seti' (by omega)
         · rw [getD_setn' (Ne.symm e)]; exact h3 j (by omega))
      | (exfalso; omega)
  · have hl : l = ms_Pt k a.length := ext_of (by rw [ms_Pt_len]; exact h1) fun j hj => by rw [ms_Pt_get (by omega)]; exact h3 j (by omega)
    have hi' : ¬ (i : Int) < a.length := by omega
    unfold l_laws_markSkyPointS_0; simp (config := { maxSteps := 2000000 }) only [bitvec_to_nat, reduceIte, Nat.reduceEqDiff, Nat.reduceAdd, Nat.reduceLeDiff, reduceCtorEq, Nat.reduceBEq, Nat.reduceLT, Nat.reduceMod, List.forall_mem_cons, retG_ret, retQ_eq, retQ_eqN, retOk, keepB, re_tupl, orr_t, t_markText, setm_Pt0, setm_Pt1, setm_Pt2, List.set_set, gs, Pt.row, irow, srow, Int.toNat_natCast, List.length_map, List.length_set, Nat.sub_zero, Nat.zero_add, hz, hi']
    refine ⟨by omega, ?_⟩
    rw [hl]
theorem g_markPtS (v : Nat) (k : Int) (a : List Pt) (ha : a.length ≤ 1048577) (hk : 0 ≤ k ∧ k ≤ 1125899906842624) : Contract P 96 [.own 3 v 0 a.length, .int .i64 k] [(3, .arr 103 v 3 (a.map Pt.row))] (.int .i64 (k + 3 * a.length)) [(3, .gone)] :=
  (c_markPtS v k a ha hk).gone rfl
def mk_Blk (k : Int) : Blk := ⟨k, k + 1, k + 1 + 1, k + 1 + 1 + 1, k + 1 + 1 + 1 + 1, k + 1 + 1 + 1 + 1 + 1⟩
def ms_Blk (k : Int) (n : Nat) : List Blk := (List.range n).map fun j : Nat => mk_Blk (k + 6 * (j : Int))
theorem ms_Blk_len {k : Int} {n : Nat} : (ms_Blk k n).length = n := by simp [ms_Blk]
theorem ms_Blk_get {k : Int} {n j : Nat} (h : j < n) : (ms_Blk k n).getD j default = mk_Blk (k + 6 * (j : Int)) := by simp [ms_Blk, h]
theorem setm_Blk0 {l : List Blk} {i : Nat} {v : Int} : (l.map Blk.row).set i (setSeg ((l.map Blk.row).getD i []) 0 [.int .i64 v]) = (l.set i { l.getD i default with x0 := v }).map Blk.row :=
  set_rows (α := Blk) (f := Blk.row) (fun s => { s with x0 := v }) fun x => by simp [Blk.row, setSeg]
theorem setm_Blk1 {l : List Blk} {i : Nat} {v : Int} : (l.map Blk.row).set i (setSeg ((l.map Blk.row).getD i []) 1 [.int .i64 v]) = (l.set i { l.getD i default with y0 := v }).map Blk.row :=
  set_rows (α := Blk) (f := Blk.row) (fun s => { s with y0 := v }) fun x => by simp [Blk.row, setSeg]
theorem setm_Blk2 {l : List Blk} {i : Nat} {v : Int} : (l.map Blk.row).set i (setSeg ((l.map Blk.row).getD i []) 2 [.int .i64 v]) = (l.set i { l.getD i default with x1 := v }).map Blk.row :=
  set_rows (α := Blk) (f := Blk.row) (fun s => { s with x1 := v }) fun x => by simp [Blk.row, setSeg]
theorem setm_Blk3 {l : List Blk} {i : Nat} {v : Int} : (l.map Blk.row).set i (setSeg ((l.map Blk.row).getD i []) 3 [.int .i64 v]) = (l.set i { l.getD i default with y1 := v }).map Blk.row :=
  set_rows (α := Blk) (f := Blk.row) (fun s => { s with y1 := v }) fun x => by simp [Blk.row, setSeg]
theorem setm_Blk4 {l : List Blk} {i : Nat} {v : Int} : (l.map Blk.row).set i (setSeg ((l.map Blk.row).getD i []) 4 [.int .i64 v]) = (l.set i { l.getD i default with lo := v }).map Blk.row :=
  set_rows (α := Blk) (f := Blk.row) (fun s => { s with lo := v }) fun x => by simp [Blk.row, setSeg]
theorem setm_Blk5 {l : List Blk} {i : Nat} {v : Int} : (l.map Blk.row).set i (setSeg ((l.map Blk.row).getD i []) 5 [.int .i64 v]) = (l.set i { l.getD i default with hi := v }).map Blk.row :=
  set_rows (α := Blk) (f := Blk.row) (fun s => { s with hi := v }) fun x => by simp [Blk.row, setSeg]
set_option maxHeartbeats 1000000 in
theorem c_markBlkS (v : Nat) (k : Int) (a : List Blk) (ha : a.length ≤ 1048577) (hk : 0 ≤ k ∧ k ≤ 1125899906842624) : Contract P 145 [.own 3 v 0 a.length, .int .i64 k] [(3, .arr 113 v 6 (a.map Blk.row))] (.int .i64 (k + 6 * a.length)) [(3, .arr 113 v 6 ((ms_Blk k a.length).map Blk.row))] := by
  have hz : ((0 : Nat) : Int) = 0 := rfl
  have gs : True := trivial
  refine fn_sound (Env.nil P) hm k_laws_markSkyBlockS (Nat.le_of_ble_eq_true rfl) rfl ?_; unfold s_laws_markSkyBlockS; simp (config := { maxSteps := 2000000 }) only [bitvec_to_nat, reduceIte, Nat.reduceEqDiff, Nat.reduceAdd, Nat.reduceLeDiff, reduceCtorEq, Nat.reduceBEq, Nat.reduceLT, Nat.reduceMod, List.forall_mem_cons, retG_ret, retQ_eq, retQ_eqN, retOk, keepB, re_tupl, orr_t, setm_Blk0, setm_Blk1, setm_Blk2, setm_Blk3, setm_Blk4, setm_Blk5, List.set_set, gs, Blk.row, irow, srow, Int.toNat_natCast, List.length_map, List.length_set, Nat.sub_zero, Nat.zero_add, hz]
  refine loop_st (fun b : Nat × List Blk => [(1, .int .i64 (k + 6 * b.1)), (5, .int .i64 b.1)]) (fun b => [(3, .arr 113 v 6 (b.2.map Blk.row))]) (fun b => b.2.length = a.length ∧ b.1 ≤ a.length ∧ ∀ j, j < b.1 → b.2.getD j default = mk_Blk (k + 6 * (j : Int))) (fun b => a.length - b.1) (0, a) ?_ ⟨rfl, Nat.zero_le _, fun j hj => absurd hj (Nat.not_lt_zero _)⟩ ?_
  · have e0 : k + 6 * ((0 : Nat) : Int) = k := by omega
    simp only [e0]
    simp only [u_E0, u_E1, u_M0, u_M1, w_setE0, w_setE1, w_setM0, w_setM1, reduceIte, Nat.reduceEqDiff]; exact ⟨by repeat' (first | exact trivial | refine ⟨.inr rfl, ?_⟩), by repeat' (first | exact trivial | refine ⟨rfl, ?_⟩), by first | rfl | simp [closedB, refsIn, refsInL, refsInO, dom, refsInL_nr, *], by first | rfl | simp [keepB, dom]⟩
  rintro ⟨i, l⟩ ⟨h1, h2, h3⟩ NX hN
  simp only at h1 h2 h3
  have gs : i < a.length → ∀ x : Blk, (l.set i x).getD i default = x := fun h x => getD_seti' (by omega)
  by_cases hi : i < a.length
  · have gs := gs hi
    have e5 : k + 6 * ((i + 1 : Nat) : Int) = k + 6 * (i : Int) + 1 + 1 + 1 + 1 + 1 + 1 := by omega
    unfold l_laws_markSkyBlockS_0; simp (config := { maxSteps := 2000000 }) only [bitvec_to_nat, reduceIte, Nat.reduceEqDiff, Nat.reduceAdd, Nat.reduceLeDiff, reduceCtorEq, Nat.reduceBEq, Nat.reduceLT, Nat.reduceMod, List.forall_mem_cons, retG_ret, retQ_eq, retQ_eqN, retOk, keepB, re_tupl, orr_t, setm_Blk0, setm_Blk1, setm_Blk2, setm_Blk3, setm_Blk4, setm_Blk5, List.set_set, gs, Blk.row, irow, srow, Int.toNat_natCast, List.length_map, List.length_set, Nat.sub_zero, Nat.zero_add, hz]
    repeat' (first | with_reducible apply And.intro | with_reducible intro _)
    all_goals first
      | omega
      | (refine hN (i + 1, l.set i (mk_Blk (k + 6 * (i : Int)))) _ (by simp only [e5]; simp only [u_E0, u_E1, u_M0, u_M1, w_setE0, w_setE1, w_setM0, w_setM1, reduceIte, Nat.reduceEqDiff]; exact ⟨by repeat' (first | exact trivial | refine ⟨.inr rfl, ?_⟩), by repeat' (first | exact trivial | refine ⟨rfl, ?_⟩), by first | rfl | simp [closedB, refsIn, refsInL, refsInO, dom, refsInL_nr, *], by first | rfl | simp [keepB, dom]⟩) ⟨by simp only [List.length_set]; exact h1, hi, fun j hj => ?_⟩ (by simp only; omega)
         simp only at hj ⊢
         by_cases e : j = i
         · subst e; exact getD_seti' (by omega)
         · rw [getD_setn' (Ne.symm e)]; exact h3 j (by omega))
      | (exfalso; omega)
  · have hl : l = ms_Blk k a.length := ext_of (by rw [ms_Blk_len]; exact h1) fun j hj => by rw [ms_Blk_get (by omega)]; exact h3 j (by omega)
    have hi' : ¬ (i : Int) < a.length := by omega
    unfold l_laws_markSkyBlockS_0; simp (config := { maxSteps := 2000000 }) only [bitvec_to_nat, reduceIte, Nat.reduceEqDiff, Nat.reduceAdd, Nat.reduceLeDiff, reduceCtorEq, Nat.reduceBEq, Nat.reduceLT, Nat.reduceMod, List.forall_mem_cons, retG_ret, retQ_eq, retQ_eqN, retOk, keepB, re_tupl, orr_t, setm_Blk0, setm_Blk1, setm_Blk2, setm_Blk3, setm_Blk4, setm_Blk5, List.set_set, gs, Blk.row, irow, srow, Int.toNat_natCast, List.length_map, List.length_set, Nat.sub_zero, Nat.zero_add, hz, hi']
    refine ⟨by omega, ?_⟩
    rw [hl]
theorem g_markBlkS (v : Nat) (k : Int) (a : List Blk) (ha : a.length ≤ 1048577) (hk : 0 ≤ k ∧ k ≤ 1125899906842624) : Contract P 145 [.own 3 v 0 a.length, .int .i64 k] [(3, .arr 113 v 6 (a.map Blk.row))] (.int .i64 (k + 6 * a.length)) [(3, .gone)] :=
  (c_markBlkS v k a ha hk).gone rfl
def mk_Rw (k : Int) : Rw := ⟨mtx (k), k + 1, k + 1 + 1, k + 1 + 1 + 1⟩
def ms_Rw (k : Int) (n : Nat) : List Rw := (List.range n).map fun j : Nat => mk_Rw (k + 4 * (j : Int))
theorem ms_Rw_len {k : Int} {n : Nat} : (ms_Rw k n).length = n := by simp [ms_Rw]
theorem ms_Rw_get {k : Int} {n j : Nat} (h : j < n) : (ms_Rw k n).getD j default = mk_Rw (k + 4 * (j : Int)) := by simp [ms_Rw, h]
theorem setm_Rw0 {l : List Rw} {i : Nat} {v : ByteArray} : (l.map Rw.row).set i (setSeg ((l.map Rw.row).getD i []) 0 [.str v]) = (l.set i { l.getD i default with nm := v }).map Rw.row :=
  set_rows (α := Rw) (f := Rw.row) (fun s => { s with nm := v }) fun x => by simp [Rw.row, setSeg]
theorem setm_Rw1 {l : List Rw} {i : Nat} {v : Int} : (l.map Rw.row).set i (setSeg ((l.map Rw.row).getD i []) 1 [.int .i64 v]) = (l.set i { l.getD i default with x := v }).map Rw.row :=
  set_rows (α := Rw) (f := Rw.row) (fun s => { s with x := v }) fun x => by simp [Rw.row, setSeg]
theorem setm_Rw2 {l : List Rw} {i : Nat} {v : Int} : (l.map Rw.row).set i (setSeg ((l.map Rw.row).getD i []) 2 [.int .i64 v]) = (l.set i { l.getD i default with y := v }).map Rw.row :=
  set_rows (α := Rw) (f := Rw.row) (fun s => { s with y := v }) fun x => by simp [Rw.row, setSeg]
theorem setm_Rw3 {l : List Rw} {i : Nat} {v : Int} : (l.map Rw.row).set i (setSeg ((l.map Rw.row).getD i []) 3 [.int .i64 v]) = (l.set i { l.getD i default with tn := v }).map Rw.row :=
  set_rows (α := Rw) (f := Rw.row) (fun s => { s with tn := v }) fun x => by simp [Rw.row, setSeg]
set_option maxHeartbeats 1000000 in
theorem c_markRwS (v : Nat) (k : Int) (a : List Rw) (ha : a.length ≤ 1048577) (hk : 0 ≤ k ∧ k ≤ 1125899906842624) : Contract P 99 [.own 3 v 0 a.length, .int .i64 k] [(3, .arr 118 v 4 (a.map Rw.row))] (.int .i64 (k + 4 * a.length)) [(3, .arr 118 v 4 ((ms_Rw k a.length).map Rw.row))] := by
  have hz : ((0 : Nat) : Int) = 0 := rfl
  have gs : True := trivial
  refine fn_sound ((Env.nil P).add 100 t_markText h_markText) hm k_laws_markSkyRunwayS (Nat.le_of_ble_eq_true rfl) rfl ?_; unfold s_laws_markSkyRunwayS; simp (config := { maxSteps := 2000000 }) only [bitvec_to_nat, reduceIte, Nat.reduceEqDiff, Nat.reduceAdd, Nat.reduceLeDiff, reduceCtorEq, Nat.reduceBEq, Nat.reduceLT, Nat.reduceMod, List.forall_mem_cons, retG_ret, retQ_eq, retQ_eqN, retOk, keepB, re_tupl, orr_t, t_markText, setm_Rw0, setm_Rw1, setm_Rw2, setm_Rw3, List.set_set, gs, Rw.row, irow, srow, Int.toNat_natCast, List.length_map, List.length_set, Nat.sub_zero, Nat.zero_add, hz]
  refine loop_st (fun b : Nat × List Rw => [(1, .int .i64 (k + 4 * b.1)), (5, .int .i64 b.1)]) (fun b => [(3, .arr 118 v 4 (b.2.map Rw.row))]) (fun b => b.2.length = a.length ∧ b.1 ≤ a.length ∧ ∀ j, j < b.1 → b.2.getD j default = mk_Rw (k + 4 * (j : Int))) (fun b => a.length - b.1) (0, a) ?_ ⟨rfl, Nat.zero_le _, fun j hj => absurd hj (Nat.not_lt_zero _)⟩ ?_
  · have e0 : k + 4 * ((0 : Nat) : Int) = k := by omega
    simp only [e0]
    simp only [u_E0, u_E1, u_M0, u_M1, w_setE0, w_setE1, w_setM0, w_setM1, reduceIte, Nat.reduceEqDiff]; exact ⟨by repeat' (first | exact trivial | refine ⟨.inr rfl, ?_⟩), by repeat' (first | exact trivial | refine ⟨rfl, ?_⟩), by first | rfl | simp [closedB, refsIn, refsInL, refsInO, dom, refsInL_nr, *], by first | rfl | simp [keepB, dom]⟩
  rintro ⟨i, l⟩ ⟨h1, h2, h3⟩ NX hN
  simp only at h1 h2 h3
  have gs : i < a.length → ∀ x : Rw, (l.set i x).getD i default = x := fun h x => getD_seti' (by omega)
  by_cases hi : i < a.length
  · have gs := gs hi
    have e5 : k + 4 * ((i + 1 : Nat) : Int) = k + 4 * (i : Int) + 1 + 1 + 1 + 1 := by omega
    unfold l_laws_markSkyRunwayS_0; simp (config := { maxSteps := 2000000 }) only [bitvec_to_nat, reduceIte, Nat.reduceEqDiff, Nat.reduceAdd, Nat.reduceLeDiff, reduceCtorEq, Nat.reduceBEq, Nat.reduceLT, Nat.reduceMod, List.forall_mem_cons, retG_ret, retQ_eq, retQ_eqN, retOk, keepB, re_tupl, orr_t, t_markText, setm_Rw0, setm_Rw1, setm_Rw2, setm_Rw3, List.set_set, gs, Rw.row, irow, srow, Int.toNat_natCast, List.length_map, List.length_set, Nat.sub_zero, Nat.zero_add, hz]
    repeat' (first | with_reducible apply And.intro | with_reducible intro _)
    all_goals first
      | omega
      | (refine hN (i + 1, l.set i (mk_Rw (k + 4 * (i : Int)))) _ (by simp only [e5]; simp only [u_E0, u_E1, u_M0, u_M1, w_setE0, w_setE1, w_setM0, w_setM1, reduceIte, Nat.reduceEqDiff]; exact ⟨by repeat' (first | exact trivial | refine ⟨.inr rfl, ?_⟩), by repeat' (first | exact trivial | refine ⟨rfl, ?_⟩), by first | rfl | simp [closedB, refsIn, refsInL, refsInO, dom, refsInL_nr, *], by first | rfl | simp [keepB, dom]⟩) ⟨by simp only [List.length_set]; exact h1, hi, fun j hj => ?_⟩ (by simp only; omega)
         simp only at hj ⊢
         by_cases e : j = i
         · subst e; exact getD_seti' (by omega)
         · rw [getD_setn' (Ne.symm e)]; exact h3 j (by omega))
      | (exfalso; omega)
  · have hl : l = ms_Rw k a.length := ext_of (by rw [ms_Rw_len]; exact h1) fun j hj => by rw [ms_Rw_get (by omega)]; exact h3 j (by omega)
    have hi' : ¬ (i : Int) < a.length := by omega
    unfold l_laws_markSkyRunwayS_0; simp (config := { maxSteps := 2000000 }) only [bitvec_to_nat, reduceIte, Nat.reduceEqDiff, Nat.reduceAdd, Nat.reduceLeDiff, reduceCtorEq, Nat.reduceBEq, Nat.reduceLT, Nat.reduceMod, List.forall_mem_cons, retG_ret, retQ_eq, retQ_eqN, retOk, keepB, re_tupl, orr_t, t_markText, setm_Rw0, setm_Rw1, setm_Rw2, setm_Rw3, List.set_set, gs, Rw.row, irow, srow, Int.toNat_natCast, List.length_map, List.length_set, Nat.sub_zero, Nat.zero_add, hz, hi']
    refine ⟨by omega, ?_⟩
    rw [hl]
theorem g_markRwS (v : Nat) (k : Int) (a : List Rw) (ha : a.length ≤ 1048577) (hk : 0 ≤ k ∧ k ≤ 1125899906842624) : Contract P 99 [.own 3 v 0 a.length, .int .i64 k] [(3, .arr 118 v 4 (a.map Rw.row))] (.int .i64 (k + 4 * a.length)) [(3, .gone)] :=
  (c_markRwS v k a ha hk).gone rfl
end
end Go.Ve

namespace Go.Ve
noncomputable section
open Go.Proofs
set_option linter.unusedSimpArgs false
set_option linter.unusedVariables false
set_option maxRecDepth 100000
theorem keep_self {M : List (Nat × AObj)} : keepB M M = true := by
  unfold keepB
  rw [List.all_eq_true]
  intro o ho
  simp only [Bool.or_eq_true]
  right; simpa using ho
theorem wk_fam {k : Nat} {l : List NRow} {o : Nat} {x : AObj} (hf : isFam k l) (ho : o < 1000) : wkM ((o, x) :: nobjs l) (nobjs l) := by
  refine wkM_nobjs hf fun j hj => ?_
  simp only [getM, fam_ne ho, if_false]
  exact nobjs_fam hf hj
theorem fam_100 {k o e sz : Nat} {y : AObj} {x : List (ByteArray × List (List AV))} (hk : k < 100) (ho : o < 100) : (dom ((o, y) :: nobjs (nfam k e sz x))).all (decide <| · % 1000 < 100) = true := by
  rw [List.all_eq_true]
  intro q hq
  simp only [dom, List.map_cons, List.mem_cons] at hq
  rcases hq with rfl | hq
  · simp; omega
  · obtain ⟨p, hp, rfl⟩ := List.mem_map.1 hq
    obtain ⟨i, _, rfl⟩ := nfam_at hp
    simp only [decide_eq_true_eq, fam_mod (show k < 1000 by omega)]; exact hk
def flatObs (l : List NRow) : Prop := ∀ i, i < l.length → (l.getD i default).ob = .gone ∨ ∃ e v sz xs, e < 1000000 ∧ (l.getD i default).ob = .arr e v sz xs
theorem flatObs_all {l : List NRow} {d : List Nat} (h : flatObs l) : ((nobjs l).all fun p => refsInO d p.2) = true := by
  rw [List.all_eq_true]
  intro p hp
  obtain ⟨r, hr, rfl⟩ := List.mem_map.1 hp
  obtain ⟨i, hi, rfl⟩ := List.mem_iff_getElem.1 hr
  have := h i hi
  simp only [List.getD_eq_getElem?_getD, List.getElem?_eq_getElem hi, Option.getD_some] at this
  rcases this with h | ⟨e, v, sz, xs, he, h⟩
  · show refsInO d l[i].ob = true; rw [h]; rfl
  · show refsInO d l[i].ob = true; rw [h]; simp only [refsInO, he, if_true]
theorem dom_rows {l : List NRow} {o : Nat} {x : AObj} : ∀ r ∈ l, (dom ((o, x) :: nobjs l)).contains r.o = true := fun r hr => by
  simp only [dom, List.map_cons, List.contains_cons, Bool.or_eq_true]
  right
  simp only [List.contains_iff_mem, nobjs, List.map_map, List.mem_map]
  exact ⟨r, hr, rfl⟩
theorem nobjs_all {l : List NRow} {o T : Nat} {y : AObj} (h : flatObs l) : (((o, AObj.arr (1000000 + T) 0 2 (l.map NRow.row)) :: nobjs l).all fun p => refsInO (dom ((o, y) :: nobjs l)) p.2) = true := by
  simp only [List.all_cons, Bool.and_eq_true]
  refine ⟨?_, flatObs_all h⟩
  simp only [refsInO]
  rw [if_neg (by omega)]
  exact refs_rows dom_rows
theorem setm_NRow {l : List NRow} {i : Nat} {v : ByteArray} : (l.map NRow.row).set i (setSeg ((l.map NRow.row).getD i []) 0 [.str v]) = (l.set i { l.getD i default with nm := v }).map NRow.row :=
  set_rows (α := NRow) (f := NRow.row) (fun s => { s with nm := v }) fun x => by simp [NRow.row, setSeg]
theorem gone_fam {k : Nat} {l m : List NRow} (hl : isFam k l) (hm : isFam k m) (h : l.length = m.length) : (nobjs l).map (fun p => (p.1, AObj.gone)) = (nobjs m).map (fun p => (p.1, AObj.gone)) := by
  refine List.ext_getElem (by simp [nobjs, h]) fun i h1 h2 => ?_
  have h1' : i < l.length := by simpa [nobjs] using h1
  have h2' : i < m.length := by omega
  have := hl i h1'
  have h3 := hm i h2'
  simp only [List.getD_eq_getElem?_getD, List.getElem?_eq_getElem h1', List.getElem?_eq_getElem h2', Option.getD_some] at this h3
  simp [nobjs, this, h3]
def ct_Aw (a : List Aw) (i : Nat) : Nat := ((a.take i).map fun x => 1 + x.pts.length).sum
theorem ct_Aw_succ {a : List Aw} {i : Nat} (h : i < a.length) : ct_Aw a (i + 1) = ct_Aw a i + (1 + (a.getD i default).pts.length) := by
  unfold ct_Aw
  rw [List.take_succ_eq_append_getElem h, List.map_append, List.sum_append]; simp [h]
theorem ct_Aw_le {a : List Aw} (hs : ∀ x ∈ a, x.small) {i : Nat} (h : i ≤ a.length) : ct_Aw a i ≤ i * 6291457 := by
  induction i with
  | zero => simp [ct_Aw]
  | succ i ih =>
    have h' := ih (by omega)
    have := hs _ (getD_mem' (show i < a.length from h))
    unfold Aw.small at this
    rw [ct_Aw_succ h]; omega
set_option maxHeartbeats 2000000 in
theorem g_markAwS (k : Int) (a : List Aw) (ha : a.length ≤ 1048577) (hs : ∀ x ∈ a, x.small) (hk : 0 ≤ k ∧ k ≤ 35184372088832) : Contract P 97 [.own 3 0 0 a.length, .int .i64 k] ((3, .arr (1000000 + 108) 0 2 ((nfam 7 9 1 (a.map awP)).map NRow.row)) :: nobjs (nfam 7 9 1 (a.map awP)))
    (.int .i64 (k + ct_Aw a a.length)) (((3, .arr (1000000 + 108) 0 2 ((nfam 7 9 1 (a.map awP)).map NRow.row)) :: nobjs (nfam 7 9 1 (a.map awP))).map fun p => (p.1, .gone)) := by
  have hz : ((0 : Nat) : Int) = 0 := rfl
  have gs : True := trivial
  have hli : True := trivial
  have hgm : True := trivial
  have hrw : True := trivial
  have hs1 : True := trivial
  suffices hC : ∃ l : List NRow, (isFam 7 l ∧ l.length = a.length) ∧ Contract P 97 [.own 3 0 0 a.length, .int .i64 k] ((3, .arr (1000000 + 108) 0 2 ((nfam 7 9 1 (a.map awP)).map NRow.row)) :: nobjs (nfam 7 9 1 (a.map awP)))
      (.int .i64 (k + ct_Aw a a.length)) ((3, .arr (1000000 + 108) 0 2 (l.map NRow.row)) :: nobjs l) by
    obtain ⟨l, ⟨h1, h2⟩, h3⟩ := hC
    have h4 := h3.gone rfl
    simp only [List.map_cons] at h4 ⊢
    rw [gone_fam h1 (nfam_fam (k := 7) (e := 9) (sz := 1) (l := a.map awP)) (by rw [nfam_len, List.length_map]; exact h2)] at h4
    exact h4
  refine fn_choose ((Env.nil P).add 100 t_markText h_markText) hm k_laws_markSkyAirwayS (Nat.le_of_ble_eq_true rfl) ?_ (fun l : List NRow => isFam 7 l ∧ l.length = a.length) (fun _ => .int .i64 (k + ct_Aw a a.length)) (fun l => (3, .arr (1000000 + 108) 0 2 (l.map NRow.row)) :: nobjs l) ?_
  · exact fam_100 (by omega) (by omega)
  unfold s_laws_markSkyAirwayS
  simp (config := { maxSteps := 2000000 }) only [bitvec_to_nat, reduceIte, Nat.reduceEqDiff, Nat.reduceAdd, Nat.reduceLeDiff, reduceCtorEq, Nat.reduceBEq, Nat.reduceLT, Nat.reduceMod, List.forall_mem_cons, retG_ret, retQ_eq, retQ_eqN, retOk, keepB, re_tupl, orr_t, t_markText, NRow.row, setm_NRow, gs, hli, hgm, hrw, Int.toNat_natCast, List.length_map, List.length_set, Nat.sub_zero, Nat.zero_add, hz, fam_ne, fam_ne', hs1, List.set_set]
  refine loop_F (fun b : Nat × List NRow => ⟨[(0, .own 3 0 0 a.length), (1, .int .i64 (k + ct_Aw a b.1)), (5, .int .i64 b.1)], (3, .arr (1000000 + 108) 0 2 (b.2.map NRow.row)) :: nobjs b.2⟩)
    (fun b => b.1 ≤ a.length ∧ b.2.length = a.length ∧ isFam 7 b.2 ∧ flatObs b.2 ∧ ∀ j, b.1 ≤ j → j < a.length → b.2.getD j default = ⟨(a.getD j default).nm, (a.getD j default).pts.length, fam 7 j, .arr 9 0 1 ((a.getD j default).pts.map srow)⟩)
    (fun b => a.length - b.1) (0, nfam 7 9 1 (a.map awP)) ?_ ⟨Nat.zero_le _, by rw [nfam_len, List.length_map], nfam_fam, fun i hi => ?_, fun j _ hj => ?_⟩ ?_
  · have e0 : k + ((ct_Aw a 0 : Nat) : Int) = k := by simp [ct_Aw]
    simp only [e0]
    refine ⟨by repeat' (first | exact trivial | refine ⟨.inr rfl, ?_⟩), ⟨rfl, wk_fam nfam_fam (by omega)⟩, ?_, keep_self⟩
    simp only [closedB, List.all_cons, Bool.and_eq_true]
    exact ⟨⟨by simp [refsIn, dom], rfl, rfl, rfl⟩, by simpa only [List.all_cons, Bool.and_eq_true] using fam_refs (k := 7) (o := 3) (e := 9) (sz := 1) (x := a.map awP) (T := 108) (y := .arr (1000000 + 108) 0 2 ((nfam 7 9 1 (a.map awP)).map NRow.row)) (by omega)⟩
  · have hi' : i < a.length := by simpa [nfam_len] using hi
    rw [nfam_get (by simpa using hi')]
    exact .inr ⟨_, _, _, _, by omega, rfl⟩
  · rw [nfam_get (by simpa using hj)]
    simp [awP, hj]
  rintro ⟨i, l⟩ ⟨h1, h2, h3, h4, h5⟩ NX hN
  simp only at h1 h2 h3 h4 h5
  have hct := ct_Aw_le hs h1
  by_cases hi : i < a.length
  · have hli := h5 i (Nat.le_refl _) hi
    have hil : i < l.length := by omega
    have hx := hs _ (getD_mem' hi)
    unfold Aw.small at hx
    have hgm : getM (nobjs l) (fam 7 i) = some (.arr 9 0 1 ((a.getD i default).pts.map srow)) := by rw [nobjs_fam h3 hil, hli]
    have gs : ∀ x : NRow, (l.set i x).getD i default = x := fun x => getD_seti' hil
    have e5 : k + ((ct_Aw a (i + 1) : Nat) : Int) = k + (ct_Aw a i : Int) + 1 + ((a.getD i default).pts.length : Int) := by rw [ct_Aw_succ hi]; omega
    unfold l_laws_markSkyAirwayS_0; simp (config := { maxSteps := 2000000 }) only [bitvec_to_nat, reduceIte, Nat.reduceEqDiff, Nat.reduceAdd, Nat.reduceLeDiff, reduceCtorEq, Nat.reduceBEq, Nat.reduceLT, Nat.reduceMod, List.forall_mem_cons, retG_ret, retQ_eq, retQ_eqN, retOk, keepB, re_tupl, orr_t, t_markText, NRow.row, setm_NRow, gs, hli, hgm, hrw, Int.toNat_natCast, List.length_map, List.length_set, Nat.sub_zero, Nat.zero_add, hz, fam_ne, fam_ne', hs1, List.set_set]
    have hM := (g_markByteArrayS 0 (k + ct_Aw a i + 1) (a.getD i default).pts (by omega) (by omega)).ren (swp 3 (fam 7 i)) (swp_swp _ _)
    simp only [renL, ren, renM, renO, swp, reduceIte, Nat.reduceLT] at hM
    refine ⟨fun _ => ⟨by omega, by omega, by omega, by omega, hil, _, _, .inl ⟨_, hM, by simp [getM, fam_ne, hgm], by simp [dom], by simp [dom], by simp [refsInL, refsIn, dom], by simp [refsInO], rfl, by simp [refsInO]⟩, ?_⟩, fun h => absurd (by omega) h⟩
    have hs1 : setM (nobjs l) (fam 7 i) .gone = nobjs (l.set i ⟨mtx (k + ct_Aw a i), (a.getD i default).pts.length, fam 7 i, .gone⟩) := by
      rw [setM_fam h3 hil, hli]; simp [nobjs, List.map_set]
    have hrw : (l.set i ⟨mtx (k + ct_Aw a i), (a.getD i default).pts.length, fam 7 i, .arr 9 0 1 ((a.getD i default).pts.map srow)⟩).map NRow.row = (l.set i ⟨mtx (k + ct_Aw a i), (a.getD i default).pts.length, fam 7 i, .gone⟩).map NRow.row := by
      simp [List.map_set, NRow.row]
    simp (config := { maxSteps := 2000000 }) only [bitvec_to_nat, reduceIte, Nat.reduceEqDiff, Nat.reduceAdd, Nat.reduceLeDiff, reduceCtorEq, Nat.reduceBEq, Nat.reduceLT, Nat.reduceMod, List.forall_mem_cons, retG_ret, retQ_eq, retQ_eqN, retOk, keepB, re_tupl, orr_t, t_markText, NRow.row, setm_NRow, gs, hli, hgm, hrw, Int.toNat_natCast, List.length_map, List.length_set, Nat.sub_zero, Nat.zero_add, hz, fam_ne, fam_ne', hs1, List.set_set]
    rw [← e5]
    have hf' : isFam 7 (l.set i ⟨mtx (k + ct_Aw a i), (a.getD i default).pts.length, fam 7 i, .gone⟩) := fun j hj => by
      by_cases e : j = i
      · subst e; rw [gs]
      · rw [getD_setn' (Ne.symm e)]; exact h3 j (by simpa using hj)
    have ho' : flatObs (l.set i ⟨mtx (k + ct_Aw a i), (a.getD i default).pts.length, fam 7 i, .gone⟩) := fun j hj => by
      by_cases e : j = i
      · subst e; rw [gs]; exact .inl rfl
      · rw [getD_setn' (Ne.symm e)]; exact h4 j (by simpa using hj)
    refine ⟨by omega, hN (i + 1, l.set i ⟨mtx (k + ct_Aw a i), (a.getD i default).pts.length, fam 7 i, .gone⟩) _ ⟨by repeat' (first | exact trivial | refine ⟨.inr rfl, ?_⟩), ⟨rfl, wk_fam hf' (by omega)⟩, ?_, keep_self⟩ ⟨hi, by rw [List.length_set]; exact h2, hf', ho', fun j h6 h7 => ?_⟩ (by simp only; omega)⟩
    · simp only [closedB, List.all_cons, Bool.and_eq_true]
      exact ⟨⟨by simp [refsIn, dom], rfl, rfl, rfl⟩, by simpa only [List.all_cons, Bool.and_eq_true] using nobjs_all (T := 108) (o := 3) (y := .arr (1000000 + 108) 0 2 ((l.set i ⟨mtx (k + ct_Aw a i), (a.getD i default).pts.length, fam 7 i, .gone⟩).map NRow.row)) ho'⟩
    · simp only at h6 ⊢
      rw [getD_setn' (by omega)]; exact h5 j (by omega) h7
  · have hi' : ¬ (i : Int) < a.length := by omega
    have e : i = a.length := by omega
    subst e
    unfold l_laws_markSkyAirwayS_0; simp (config := { maxSteps := 2000000 }) only [bitvec_to_nat, reduceIte, Nat.reduceEqDiff, Nat.reduceAdd, Nat.reduceLeDiff, reduceCtorEq, Nat.reduceBEq, Nat.reduceLT, Nat.reduceMod, List.forall_mem_cons, retG_ret, retQ_eq, retQ_eqN, retOk, keepB, re_tupl, orr_t, t_markText, NRow.row, setm_NRow, gs, hli, hgm, hrw, Int.toNat_natCast, List.length_map, List.length_set, Nat.sub_zero, Nat.zero_add, hz, fam_ne, fam_ne', hs1, List.set_set, hi']
    exact ⟨l, ⟨h3, h2⟩, ⟨rfl, wk_fam h3 (by omega)⟩, nobjs_all (T := 108) (o := 3) (y := .gone) h4, keep_self (M := (3, .gone) :: nobjs l)⟩
def ct_Sec (a : List Sec) (i : Nat) : Nat := ((a.take i).map fun x => 1 + 6 * x.bl.length).sum
theorem ct_Sec_succ {a : List Sec} {i : Nat} (h : i < a.length) : ct_Sec a (i + 1) = ct_Sec a i + (1 + 6 * (a.getD i default).bl.length) := by
  unfold ct_Sec
  rw [List.take_succ_eq_append_getElem h, List.map_append, List.sum_append]; simp [h]
theorem ct_Sec_le {a : List Sec} (hs : ∀ x ∈ a, x.small) {i : Nat} (h : i ≤ a.length) : ct_Sec a i ≤ i * 6291457 := by
  induction i with
  | zero => simp [ct_Sec]
  | succ i ih =>
    have h' := ih (by omega)
    have := hs _ (getD_mem' (show i < a.length from h))
    unfold Sec.small at this
    rw [ct_Sec_succ h]; omega
set_option maxHeartbeats 2000000 in
theorem g_markSecS (k : Int) (a : List Sec) (ha : a.length ≤ 1048577) (hs : ∀ x ∈ a, x.small) (hk : 0 ≤ k ∧ k ≤ 35184372088832) : Contract P 98 [.own 3 0 0 a.length, .int .i64 k] ((3, .arr (1000000 + 111) 0 2 ((nfam 7 113 6 (a.map secP)).map NRow.row)) :: nobjs (nfam 7 113 6 (a.map secP)))
    (.int .i64 (k + ct_Sec a a.length)) (((3, .arr (1000000 + 111) 0 2 ((nfam 7 113 6 (a.map secP)).map NRow.row)) :: nobjs (nfam 7 113 6 (a.map secP))).map fun p => (p.1, .gone)) := by
  have hz : ((0 : Nat) : Int) = 0 := rfl
  have gs : True := trivial
  have hli : True := trivial
  have hgm : True := trivial
  have hrw : True := trivial
  have hs1 : True := trivial
  suffices hC : ∃ l : List NRow, (isFam 7 l ∧ l.length = a.length) ∧ Contract P 98 [.own 3 0 0 a.length, .int .i64 k] ((3, .arr (1000000 + 111) 0 2 ((nfam 7 113 6 (a.map secP)).map NRow.row)) :: nobjs (nfam 7 113 6 (a.map secP)))
      (.int .i64 (k + ct_Sec a a.length)) ((3, .arr (1000000 + 111) 0 2 (l.map NRow.row)) :: nobjs l) by
    obtain ⟨l, ⟨h1, h2⟩, h3⟩ := hC
    have h4 := h3.gone rfl
    simp only [List.map_cons] at h4 ⊢
    rw [gone_fam h1 (nfam_fam (k := 7) (e := 113) (sz := 6) (l := a.map secP)) (by rw [nfam_len, List.length_map]; exact h2)] at h4
    exact h4
  refine fn_choose ((Env.nil P).add 100 t_markText h_markText) hm k_laws_markSkySectorS (Nat.le_of_ble_eq_true rfl) ?_ (fun l : List NRow => isFam 7 l ∧ l.length = a.length) (fun _ => .int .i64 (k + ct_Sec a a.length)) (fun l => (3, .arr (1000000 + 111) 0 2 (l.map NRow.row)) :: nobjs l) ?_
  · exact fam_100 (by omega) (by omega)
  unfold s_laws_markSkySectorS
  simp (config := { maxSteps := 2000000 }) only [bitvec_to_nat, reduceIte, Nat.reduceEqDiff, Nat.reduceAdd, Nat.reduceLeDiff, reduceCtorEq, Nat.reduceBEq, Nat.reduceLT, Nat.reduceMod, List.forall_mem_cons, retG_ret, retQ_eq, retQ_eqN, retOk, keepB, re_tupl, orr_t, t_markText, NRow.row, setm_NRow, gs, hli, hgm, hrw, Int.toNat_natCast, List.length_map, List.length_set, Nat.sub_zero, Nat.zero_add, hz, fam_ne, fam_ne', hs1, List.set_set]
  refine loop_F (fun b : Nat × List NRow => ⟨[(0, .own 3 0 0 a.length), (1, .int .i64 (k + ct_Sec a b.1)), (5, .int .i64 b.1)], (3, .arr (1000000 + 111) 0 2 (b.2.map NRow.row)) :: nobjs b.2⟩)
    (fun b => b.1 ≤ a.length ∧ b.2.length = a.length ∧ isFam 7 b.2 ∧ flatObs b.2 ∧ ∀ j, b.1 ≤ j → j < a.length → b.2.getD j default = ⟨(a.getD j default).nm, (a.getD j default).bl.length, fam 7 j, .arr 113 0 6 ((a.getD j default).bl.map Blk.row)⟩)
    (fun b => a.length - b.1) (0, nfam 7 113 6 (a.map secP)) ?_ ⟨Nat.zero_le _, by rw [nfam_len, List.length_map], nfam_fam, fun i hi => ?_, fun j _ hj => ?_⟩ ?_
  · have e0 : k + ((ct_Sec a 0 : Nat) : Int) = k := by simp [ct_Sec]
    simp only [e0]
    refine ⟨by repeat' (first | exact trivial | refine ⟨.inr rfl, ?_⟩), ⟨rfl, wk_fam nfam_fam (by omega)⟩, ?_, keep_self⟩
    simp only [closedB, List.all_cons, Bool.and_eq_true]
    exact ⟨⟨by simp [refsIn, dom], rfl, rfl, rfl⟩, by simpa only [List.all_cons, Bool.and_eq_true] using fam_refs (k := 7) (o := 3) (e := 113) (sz := 6) (x := a.map secP) (T := 111) (y := .arr (1000000 + 111) 0 2 ((nfam 7 113 6 (a.map secP)).map NRow.row)) (by omega)⟩
  · have hi' : i < a.length := by simpa [nfam_len] using hi
    rw [nfam_get (by simpa using hi')]
    exact .inr ⟨_, _, _, _, by omega, rfl⟩
  · rw [nfam_get (by simpa using hj)]
    simp [secP, hj]
  rintro ⟨i, l⟩ ⟨h1, h2, h3, h4, h5⟩ NX hN
  simp only at h1 h2 h3 h4 h5
  have hct := ct_Sec_le hs h1
  by_cases hi : i < a.length
  · have hli := h5 i (Nat.le_refl _) hi
    have hil : i < l.length := by omega
    have hx := hs _ (getD_mem' hi)
    unfold Sec.small at hx
    have hgm : getM (nobjs l) (fam 7 i) = some (.arr 113 0 6 ((a.getD i default).bl.map Blk.row)) := by rw [nobjs_fam h3 hil, hli]
    have gs : ∀ x : NRow, (l.set i x).getD i default = x := fun x => getD_seti' hil
    have e5 : k + ((ct_Sec a (i + 1) : Nat) : Int) = k + (ct_Sec a i : Int) + 1 + 6 * ((a.getD i default).bl.length : Int) := by rw [ct_Sec_succ hi]; omega
    unfold l_laws_markSkySectorS_0; simp (config := { maxSteps := 2000000 }) only [bitvec_to_nat, reduceIte, Nat.reduceEqDiff, Nat.reduceAdd, Nat.reduceLeDiff, reduceCtorEq, Nat.reduceBEq, Nat.reduceLT, Nat.reduceMod, List.forall_mem_cons, retG_ret, retQ_eq, retQ_eqN, retOk, keepB, re_tupl, orr_t, t_markText, NRow.row, setm_NRow, gs, hli, hgm, hrw, Int.toNat_natCast, List.length_map, List.length_set, Nat.sub_zero, Nat.zero_add, hz, fam_ne, fam_ne', hs1, List.set_set]
    have hM := (g_markBlkS 0 (k + ct_Sec a i + 1) (a.getD i default).bl (by omega) (by omega)).ren (swp 3 (fam 7 i)) (swp_swp _ _)
    simp only [renL, ren, renM, renO, swp, reduceIte, Nat.reduceLT] at hM
    refine ⟨fun _ => ⟨by omega, by omega, by omega, by omega, hil, _, _, .inl ⟨_, hM, by simp [getM, fam_ne, hgm], by simp [dom], by simp [dom], by simp [refsInL, refsIn, dom], by simp [refsInO], rfl, by simp [refsInO]⟩, ?_⟩, fun h => absurd (by omega) h⟩
    have hs1 : setM (nobjs l) (fam 7 i) .gone = nobjs (l.set i ⟨mtx (k + ct_Sec a i), (a.getD i default).bl.length, fam 7 i, .gone⟩) := by
      rw [setM_fam h3 hil, hli]; simp [nobjs, List.map_set]
    have hrw : (l.set i ⟨mtx (k + ct_Sec a i), (a.getD i default).bl.length, fam 7 i, .arr 113 0 6 ((a.getD i default).bl.map Blk.row)⟩).map NRow.row = (l.set i ⟨mtx (k + ct_Sec a i), (a.getD i default).bl.length, fam 7 i, .gone⟩).map NRow.row := by
      simp [List.map_set, NRow.row]
    simp (config := { maxSteps := 2000000 }) only [bitvec_to_nat, reduceIte, Nat.reduceEqDiff, Nat.reduceAdd, Nat.reduceLeDiff, reduceCtorEq, Nat.reduceBEq, Nat.reduceLT, Nat.reduceMod, List.forall_mem_cons, retG_ret, retQ_eq, retQ_eqN, retOk, keepB, re_tupl, orr_t, t_markText, NRow.row, setm_NRow, gs, hli, hgm, hrw, Int.toNat_natCast, List.length_map, List.length_set, Nat.sub_zero, Nat.zero_add, hz, fam_ne, fam_ne', hs1, List.set_set]
    rw [← e5]
    have hf' : isFam 7 (l.set i ⟨mtx (k + ct_Sec a i), (a.getD i default).bl.length, fam 7 i, .gone⟩) := fun j hj => by
      by_cases e : j = i
      · subst e; rw [gs]
      · rw [getD_setn' (Ne.symm e)]; exact h3 j (by simpa using hj)
    have ho' : flatObs (l.set i ⟨mtx (k + ct_Sec a i), (a.getD i default).bl.length, fam 7 i, .gone⟩) := fun j hj => by
      by_cases e : j = i
      · subst e; rw [gs]; exact .inl rfl
      · rw [getD_setn' (Ne.symm e)]; exact h4 j (by simpa using hj)
    refine ⟨by omega, hN (i + 1, l.set i ⟨mtx (k + ct_Sec a i), (a.getD i default).bl.length, fam 7 i, .gone⟩) _ ⟨by repeat' (first | exact trivial | refine ⟨.inr rfl, ?_⟩), ⟨rfl, wk_fam hf' (by omega)⟩, ?_, keep_self⟩ ⟨hi, by rw [List.length_set]; exact h2, hf', ho', fun j h6 h7 => ?_⟩ (by simp only; omega)⟩
    · simp only [closedB, List.all_cons, Bool.and_eq_true]
      exact ⟨⟨by simp [refsIn, dom], rfl, rfl, rfl⟩, by simpa only [List.all_cons, Bool.and_eq_true] using nobjs_all (T := 111) (o := 3) (y := .arr (1000000 + 111) 0 2 ((l.set i ⟨mtx (k + ct_Sec a i), (a.getD i default).bl.length, fam 7 i, .gone⟩).map NRow.row)) ho'⟩
    · simp only at h6 ⊢
      rw [getD_setn' (by omega)]; exact h5 j (by omega) h7
  · have hi' : ¬ (i : Int) < a.length := by omega
    have e : i = a.length := by omega
    subst e
    unfold l_laws_markSkySectorS_0; simp (config := { maxSteps := 2000000 }) only [bitvec_to_nat, reduceIte, Nat.reduceEqDiff, Nat.reduceAdd, Nat.reduceLeDiff, reduceCtorEq, Nat.reduceBEq, Nat.reduceLT, Nat.reduceMod, List.forall_mem_cons, retG_ret, retQ_eq, retQ_eqN, retOk, keepB, re_tupl, orr_t, t_markText, NRow.row, setm_NRow, gs, hli, hgm, hrw, Int.toNat_natCast, List.length_map, List.length_set, Nat.sub_zero, Nat.zero_add, hz, fam_ne, fam_ne', hs1, List.set_set, hi']
    exact ⟨l, ⟨h3, h2⟩, ⟨rfl, wk_fam h3 (by omega)⟩, nobjs_all (T := 111) (o := 3) (y := .gone) h4, keep_self (M := (3, .gone) :: nobjs l)⟩
end
end Go.Ve

namespace Go.Ve
noncomputable section
open Go.Proofs
set_option linter.unusedSimpArgs false
set_option linter.unusedVariables false
set_option maxRecDepth 100000
def gone (l : List (Nat × AObj)) : List (Nat × AObj) := l.map fun p => (p.1, AObj.gone)
theorem dom_gone {l : List (Nat × AObj)} : dom (gone l) = dom l := by simp [dom, gone]
theorem gone_app {a b : List (Nat × AObj)} : gone (a ++ b) = gone a ++ gone b := by simp [gone]
theorem gone_refs {l : List (Nat × AObj)} {d : List Nat} : ((gone l).all fun p => refsInO d p.2) = true := by
  rw [List.all_eq_true]
  intro p hp
  obtain ⟨q, _, rfl⟩ := List.mem_map.1 hp
  rfl
theorem bigs_gone {l : List (Nat × AObj)} (h : bigs l) : bigs (gone l) := fun p hp => by
  obtain ⟨q, hq, rfl⟩ := List.mem_map.1 hp
  exact h q hq
theorem getM_gone {l : List (Nat × AObj)} {o : Nat} : getM (gone l) o = (getM l o).map fun _ => .gone := by
  induction l with
  | nil => rfl
  | cons p l ih =>
    obtain ⟨k, x⟩ := p
    simp only [gone, List.map_cons, getM] at ih ⊢
    split
    · rfl
    · exact ih
theorem callR_gone {f : FuncId} {args : List AV} {pre : List (Nat × AObj)} {r : AV} {M : Nat → Option AObj} (hC : Contract P f args pre r (gone pre)) (hM : ∀ p ∈ pre, M p.1 = some p.2) (ha : refsInL (dom pre) args = true) (hp : (pre.all fun p => refsInO (dom pre) p.2) = true) (hr : noref r = true) :
    callR P f args M r (gone pre) := by
  refine .inl ⟨pre, hC, hM, fun p hp => .inl ?_, ?_, ha, hp, refsIn_nr _ _ hr, gone_refs⟩
  · obtain ⟨q, hq, rfl⟩ := List.mem_map.1 hp
    simpa using dom_mem hq
  · rw [dom_gone, List.all_eq_true]
    intro o ho; simpa using ho
theorem aCons {U M : List (Nat × AObj)} {o : Nat} {x : AObj} (h : ∀ p ∈ U, p.1 ≠ o) : applyU ((o, x) :: M) U = (o, x) :: applyU M U := by
  induction U with
  | nil => rfl
  | cons p U ih =>
    show setM (applyU ((o, x) :: M) U) p.1 p.2 = _
    rw [ih fun q hq => h q (by simp [hq])]
    show setM ((o, x) :: applyU M U) p.1 p.2 = (o, x) :: setM (applyU M U) p.1 p.2
    simp only [setM]
    rw [if_neg (h p (by simp))]
theorem aOver {U B : List (Nat × AObj)} (h : U.Pairwise fun a b => a.1 ≠ b.1) : applyU (U ++ B) (gone U) = gone U ++ B := by
  induction U with
  | nil => rfl
  | cons p U ih =>
    rw [List.pairwise_cons] at h
    obtain ⟨k, x⟩ := p
    show setM (applyU ((k, x) :: (U ++ B)) (gone U)) k .gone = (k, .gone) :: (gone U ++ B)
    rw [aCons, ih h.2]
    · simp [setM]
    · intro q hq e
      obtain ⟨y, hy, rfl⟩ := List.mem_map.1 hq
      exact h.1 y hy e.symm
theorem aSkip {A U B : List (Nat × AObj)} (h : ∀ p ∈ U, getM A p.1 = none) : applyU (A ++ B) U = A ++ applyU B U := by
  induction A with
  | nil => rfl
  | cons p A ih =>
    obtain ⟨k, x⟩ := p
    rw [List.cons_append, aCons, ih]
    · rfl
    · intro p hp
      have := h p hp
      simp only [getM] at this
      split at this
      · cases this
      · exact this
    · intro p hp e
      have := h p hp
      simp [getM, e] at this
theorem markPt3 (k : Int) (s : Sky) (hs : s.small) (hk : 0 ≤ k ∧ k ≤ 1125899906842624) : Contract P 96 [.own 3 0 0 s.pts.length, .int .i64 k] [(3, .arr 103 0 3 (s.pts.map Pt.row))] (.int .i64 (k + 3 * s.pts.length)) [(3, .gone)] :=
  g_markPtS 0 k s.pts (by unfold Sky.small at hs; omega) hk
theorem markRw6 (k : Int) (s : Sky) (hs : s.small) (hk : 0 ≤ k ∧ k ≤ 1125899906842624) : Contract P 99 [.own 6 0 0 s.rws.length, .int .i64 k] [(6, .arr 118 0 4 (s.rws.map Rw.row))] (.int .i64 (k + 4 * s.rws.length)) [(6, .gone)] := by
  have h := (g_markRwS 0 k s.rws (by unfold Sky.small at hs; omega) hk).ren (swp 3 6) (swp_swp _ _)
  simp only [renL, ren, renM, renO, swp, reduceIte, Nat.reduceLT] at h
  exact h
def preA (s : Sky) : List (Nat × AObj) := (4, .arr (1000000 + 108) 0 2 ((fA 7 s).map NRow.row)) :: nobjs (fA 7 s)
def preS (s : Sky) : List (Nat × AObj) := (5, .arr (1000000 + 111) 0 2 ((fS 8 s).map NRow.row)) :: nobjs (fS 8 s)
theorem renM_gone {s : Nat → Nat} {l : List (Nat × AObj)} : renM s (gone l) = gone (renM s l) := by
  induction l with
  | nil => rfl
  | cons p l ih => obtain ⟨k, x⟩ := p; simp only [gone, List.map_cons, renM, renO] at ih ⊢; rw [ih]
theorem markAw4 (k : Int) (s : Sky) (hs : s.small) (hk : 0 ≤ k ∧ k ≤ 35184372088832) : Contract P 97 [.own 4 0 0 s.aws.length, .int .i64 k] (preA s) (.int .i64 (k + ct_Aw s.aws s.aws.length)) (gone (preA s)) := by
  unfold Sky.small at hs
  have h := (g_markAwS k s.aws (by omega) hs.2.1.2 hk).ren (swp 3 4) (swp_swp _ _)
  have e : renM (swp 3 4) ((3, .arr (1000000 + 108) 0 2 ((nfam 7 9 1 (s.aws.map awP)).map NRow.row)) :: nobjs (nfam 7 9 1 (s.aws.map awP))) = preA s := by
    simp only [renM, renO, swp, reduceIte, Nat.reduceLT, Nat.reduceAdd]
    rw [renM_nobjs, renRows, nfam_swp (by omega) (by omega) (by omega)]; rfl
  rw [show (((3, AObj.arr (1000000 + 108) 0 2 ((nfam 7 9 1 (s.aws.map awP)).map NRow.row)) :: nobjs (nfam 7 9 1 (s.aws.map awP))).map fun p => (p.1, AObj.gone)) = gone ((3, AObj.arr (1000000 + 108) 0 2 ((nfam 7 9 1 (s.aws.map awP)).map NRow.row)) :: nobjs (nfam 7 9 1 (s.aws.map awP))) from rfl, renM_gone, e] at h
  simpa only [renL, ren, swp, reduceIte] using h
theorem markSec5 (k : Int) (s : Sky) (hs : s.small) (hk : 0 ≤ k ∧ k ≤ 35184372088832) : Contract P 98 [.own 5 0 0 s.secs.length, .int .i64 k] (preS s) (.int .i64 (k + ct_Sec s.secs s.secs.length)) (gone (preS s)) := by
  unfold Sky.small at hs
  have h := ((g_markSecS k s.secs (by omega) hs.2.2.1.2 hk).ren (swp 3 5) (swp_swp _ _)).ren (swpF 7 8) (swpF_swpF (by omega) (by omega))
  have e5 : swpF 7 8 (swp 3 5 3) = 5 := rfl
  have e : renM (swpF 7 8) (renM (swp 3 5) ((3, .arr (1000000 + 111) 0 2 ((nfam 7 113 6 (s.secs.map secP)).map NRow.row)) :: nobjs (nfam 7 113 6 (s.secs.map secP)))) = preS s := by
    simp only [renM, renO, e5, reduceIte, Nat.reduceLT, Nat.reduceAdd]
    rw [renM_nobjs, renM_nobjs, renRows, renRows, nfam_swp (by omega) (by omega) (by omega), nfam_swpF (by omega) (by omega)]; rfl
  rw [show (((3, AObj.arr (1000000 + 111) 0 2 ((nfam 7 113 6 (s.secs.map secP)).map NRow.row)) :: nobjs (nfam 7 113 6 (s.secs.map secP))).map fun p => (p.1, AObj.gone)) = gone ((3, AObj.arr (1000000 + 111) 0 2 ((nfam 7 113 6 (s.secs.map secP)).map NRow.row)) :: nobjs (nfam 7 113 6 (s.secs.map secP))) from rfl, renM_gone, renM_gone, e] at h
  simpa only [renL, ren, e5] using h
theorem gpA {s : Sky} : gone (preA s) = (4, .gone) :: gone (nobjs (fA 7 s)) := rfl
theorem gpS {s : Sky} : gone (preS s) = (5, .gone) :: gone (nobjs (fS 8 s)) := rfl
theorem gone_fam_ne {k e sz o : Nat} {x : List (ByteArray × List (List AV))} (ho : o < 1000) : ∀ p ∈ gone (nobjs (nfam k e sz x)), p.1 ≠ o := fun p hp e9 => by
  have := bigs_gone (bigs_nfam (k := k) (e := e) (sz := sz) (x := x)) p hp
  omega
theorem apA {s : Sky} {x3 x4 x5 x6 : AObj} {B : List (Nat × AObj)} : applyU ((3, x3) :: (4, x4) :: (5, x5) :: (6, x6) :: (nobjs (fA 7 s) ++ B)) (gone (nobjs (fA 7 s))) = (3, x3) :: (4, x4) :: (5, x5) :: (6, x6) :: (gone (nobjs (fA 7 s)) ++ B) := by
  simp only [fA, fS]
  rw [aCons (gone_fam_ne (by omega)), aCons (gone_fam_ne (by omega)), aCons (gone_fam_ne (by omega)), aCons (gone_fam_ne (by omega)), aOver nfam_pw]
theorem apS {s : Sky} {x3 x4 x5 x6 : AObj} {B : List (Nat × AObj)} : applyU ((3, x3) :: (4, x4) :: (5, x5) :: (6, x6) :: (gone (nobjs (fA 7 s)) ++ (nobjs (fS 8 s) ++ B))) (gone (nobjs (fS 8 s))) = (3, x3) :: (4, x4) :: (5, x5) :: (6, x6) :: (gone (nobjs (fA 7 s)) ++ (gone (nobjs (fS 8 s)) ++ B)) := by
  simp only [fA, fS]
  rw [aCons (gone_fam_ne (by omega)), aCons (gone_fam_ne (by omega)), aCons (gone_fam_ne (by omega)), aCons (gone_fam_ne (by omega)), aSkip, aOver nfam_pw]
  intro p hp
  obtain ⟨q, hq, rfl⟩ := List.mem_map.1 hp
  obtain ⟨i, _, rfl⟩ := nfam_at hq
  rw [getM_gone, nfam_none (by omega) (by omega) (by omega)]; rfl
theorem keep_of {M M' : List (Nat × AObj)} (h : ∀ p ∈ M, 100 ≤ p.1 % 1000 ∨ p.1 ∈ dom M') : keepB M M' = true := by
  unfold keepB
  rw [List.all_eq_true]
  intro o ho
  obtain ⟨p, hp, rfl⟩ := List.mem_map.1 ho
  rcases h p hp with h | h
  · simp [h]
  · simp [h]
def cntSky (s : Sky) : Nat := 3 * s.pts.length + ct_Aw s.aws s.aws.length + ct_Sec s.secs s.secs.length + 4 * s.rws.length
theorem sky_100 {s : Sky} : (dom (skyM s 3 4 5 6 7 8)).all (decide <| · % 1000 < 100) = true := by
  rw [sky_dom, List.all_eq_true]
  intro o ho
  simp only [List.mem_cons, List.mem_append, List.mem_map] at ho
  rcases ho with rfl | rfl | rfl | rfl | ⟨r, hr, rfl⟩ | ⟨r, hr, rfl⟩
  · rfl
  · rfl
  · rfl
  · rfl
  · rw [nfam_mod (k := 7) (by omega) hr]; rfl
  · rw [nfam_mod (k := 8) (by omega) hr]; rfl
set_option maxHeartbeats 2000000 in
theorem g_markSky (k : Int) (s : Sky) (hs : s.small) (hk : 0 ≤ k ∧ k ≤ 1000000) : Contract P 27 [skyV s 3 4 5 6, .int .i64 k] (skyM s 3 4 5 6 7 8) (.int .i64 (k + cntSky s)) (gone (skyM s 3 4 5 6 7 8)) := by
  have hct := ct_Aw_le hs.2.1.2 (Nat.le_refl _)
  have hct2 := ct_Sec_le hs.2.2.1.2 (Nat.le_refl _)
  have bA : bigs (nobjs (fA 7 s)) := bigs_nfam
  have bS : bigs (nobjs (fS 8 s)) := bigs_nfam
  have bGA := bigs_gone bA
  have bGS := bigs_gone bS
  have hm := hs
  unfold Sky.small at hm
  refine fn_sound (Env.nil P) Go.Ve.hm k_laws_markSky (Nat.le_of_ble_eq_true rfl) sky_100 ?_; unfold s_laws_markSky
  simp (config := { maxSteps := 2000000 }) only [bitvec_to_nat, reduceIte, Nat.reduceEqDiff, Nat.reduceAdd, Nat.reduceLeDiff, reduceCtorEq, Nat.reduceBEq, Nat.reduceLT, Nat.reduceMod, List.forall_mem_cons, retG_ret, retQ_eq, retQ_eqN, retOk, keepB, re_tupl, orr_t, skyV, fam_ne, fam_ne', Nat.sub_zero, Nat.zero_add, gB, gB0, sB, sB0, bA, bS, List.append_assoc, List.cons_append, List.nil_append, List.append_nil, skyM, bGA, bGS, gpA, gpS, apA, apS]
  refine ⟨_, _, callR_gone (pre := [(3, .arr 103 0 3 (s.pts.map Pt.row))]) (markPt3 k s hs (by omega)) (by simp [getM]) (by simp [refsInL, refsIn, dom]) (by simp [refsInO]) rfl, ?_⟩
  simp only [gone, List.map_cons, List.map_nil]
  simp (config := { maxSteps := 2000000 }) only [bitvec_to_nat, reduceIte, Nat.reduceEqDiff, Nat.reduceAdd, Nat.reduceLeDiff, reduceCtorEq, Nat.reduceBEq, Nat.reduceLT, Nat.reduceMod, List.forall_mem_cons, retG_ret, retQ_eq, retQ_eqN, retOk, keepB, re_tupl, orr_t, skyV, fam_ne, fam_ne', Nat.sub_zero, Nat.zero_add, gB, gB0, sB, sB0, bA, bS, List.append_assoc, List.cons_append, List.nil_append, List.append_nil, skyM, bGA, bGS, gpA, gpS, apA, apS]
  refine ⟨_, _, callR_gone (pre := preA s) (markAw4 (k + 3 * s.pts.length) s hs (by omega)) (fun p hp => ?_) (by simp [refsInL, refsIn, dom, preA]) (fam_refs (by omega)) rfl, ?_⟩
  · rcases List.mem_cons.1 hp with rfl | hp
    · simp only [getM, Nat.reduceEqDiff, reduceIte]
    · obtain ⟨i, hi, rfl⟩ := nfam_at hp
      simp only [getM, fam_ne, Nat.reduceLT, if_false, getM_append, fA, nfam_obj hi, Option.some_or]
  simp (config := { maxSteps := 2000000 }) only [bitvec_to_nat, reduceIte, Nat.reduceEqDiff, Nat.reduceAdd, Nat.reduceLeDiff, reduceCtorEq, Nat.reduceBEq, Nat.reduceLT, Nat.reduceMod, List.forall_mem_cons, retG_ret, retQ_eq, retQ_eqN, retOk, keepB, re_tupl, orr_t, skyV, fam_ne, fam_ne', Nat.sub_zero, Nat.zero_add, gB, gB0, sB, sB0, bA, bS, List.append_assoc, List.cons_append, List.nil_append, List.append_nil, skyM, bGA, bGS, gpA, gpS, apA, apS]
  refine ⟨_, _, callR_gone (pre := preS s) (markSec5 (k + 3 * s.pts.length + ct_Aw s.aws s.aws.length) s hs (by omega)) (fun p hp => ?_) (by simp [refsInL, refsIn, dom, preS]) (fam_refs (by omega)) rfl, ?_⟩
  · rcases List.mem_cons.1 hp with rfl | hp
    · simp only [getM, Nat.reduceEqDiff, reduceIte]
    · obtain ⟨i, hi, rfl⟩ := nfam_at hp
      simp only [getM, fam_ne, Nat.reduceLT, if_false, getM_append, getM_gone, fA, fS, nfam_none, ne_eq, Nat.reduceEqDiff, not_false_eq_true, Option.map_none, Option.none_or, nfam_obj hi, Option.some_or]
  simp (config := { maxSteps := 2000000 }) only [bitvec_to_nat, reduceIte, Nat.reduceEqDiff, Nat.reduceAdd, Nat.reduceLeDiff, reduceCtorEq, Nat.reduceBEq, Nat.reduceLT, Nat.reduceMod, List.forall_mem_cons, retG_ret, retQ_eq, retQ_eqN, retOk, keepB, re_tupl, orr_t, skyV, fam_ne, fam_ne', Nat.sub_zero, Nat.zero_add, gB, gB0, sB, sB0, bA, bS, List.append_assoc, List.cons_append, List.nil_append, List.append_nil, skyM, bGA, bGS, gpA, gpS, apA, apS]
  refine ⟨_, _, callR_gone (pre := [(6, .arr 118 0 4 (s.rws.map Rw.row))]) (markRw6 (k + 3 * s.pts.length + ct_Aw s.aws s.aws.length + ct_Sec s.secs s.secs.length) s hs (by omega)) (by simp [getM]) (by simp [refsInL, refsIn, dom]) (by simp [refsInO]) rfl, ?_⟩
  simp only [gone, List.map_cons, List.map_nil]
  simp (config := { maxSteps := 2000000 }) only [bitvec_to_nat, reduceIte, Nat.reduceEqDiff, Nat.reduceAdd, Nat.reduceLeDiff, reduceCtorEq, Nat.reduceBEq, Nat.reduceLT, Nat.reduceMod, List.forall_mem_cons, retG_ret, retQ_eq, retQ_eqN, retOk, keepB, re_tupl, orr_t, skyV, fam_ne, fam_ne', Nat.sub_zero, Nat.zero_add, gB, gB0, sB, sB0, bA, bS, List.append_assoc, List.cons_append, List.nil_append, List.append_nil, skyM, bGA, bGS, gpA, gpS, apA, apS]
  refine ⟨by unfold cntSky; omega, wkM_self fun p hp => ?_, gone_refs, ?_⟩
  · obtain ⟨q, hq, rfl⟩ := List.mem_map.1 hp
    rcases List.mem_append.1 hq with hq | hq
    · obtain ⟨i, hi, rfl⟩ := nfam_at hq
      show getM (_ :: _ :: _ :: _ :: (gone _ ++ (gone _ ++ _))) _ = _
      simp only [getM, fam_ne, Nat.reduceLT, if_false, getM_append, getM_gone, fA, nfam_obj hi, Option.map_some, Option.some_or]
    · obtain ⟨i, hi, rfl⟩ := nfam_at hq
      show getM (_ :: _ :: _ :: _ :: (gone _ ++ (gone _ ++ _))) _ = _
      simp only [getM, fam_ne, Nat.reduceLT, if_false, getM_append, getM_gone, fA, fS, nfam_none, ne_eq, Nat.reduceEqDiff, not_false_eq_true, Option.map_none, Option.none_or, nfam_obj hi, Option.map_some, Option.some_or]
  · refine keep_of (M := (3, .gone) :: (4, .gone) :: (5, .gone) :: (6, .gone) :: (gone (nobjs (fA 7 s)) ++ (gone (nobjs (fS 8 s)) ++ [(102, _)]))) (M' := (3, .gone) :: (4, .gone) :: (5, .gone) :: (6, .gone) :: gone (nobjs (fA 7 s) ++ nobjs (fS 8 s))) fun p hp => ?_
    simp only [List.mem_cons, List.mem_append, List.not_mem_nil, or_false] at hp
    simp only [dom, List.map_cons, List.mem_cons, List.mem_map, gone_app, List.mem_append]
    rcases hp with rfl | rfl | rfl | rfl | hp | hp | rfl
    · exact .inr (.inl rfl)
    · exact .inr (.inr (.inl rfl))
    · exact .inr (.inr (.inr (.inl rfl)))
    · exact .inr (.inr (.inr (.inr (.inl rfl))))
    · exact .inr (.inr (.inr (.inr (.inr ⟨p, .inl hp, rfl⟩))))
    · exact .inr (.inr (.inr (.inr (.inr ⟨p, .inr hp, rfl⟩))))
    · exact .inl (by simp)
end
end Go.Ve

namespace Go.Ve
noncomputable section
open Go.Proofs
set_option linter.unusedSimpArgs false
set_option linter.unusedVariables false
set_option maxRecDepth 100000
theorem purR_flat (K : Nat → Option AObj) : ∀ {r : List AV}, flatOk r = true → purR K r = some r
  | [], _ => rfl
  | x :: xs, h => by
    simp only [flatOk, Bool.and_eq_true] at h
    have ih := purR_flat K h.2
    cases x <;> first | (simp [noref] at h; done) | (simp only [purR, ih]; rw [if_pos]; simp only [h.1.1, h.1.2, Bool.and_self])
theorem purRs_flat (K : Nat → Option AObj) : ∀ {rs : List (List AV)}, (∀ r ∈ rs, flatOk r = true) → purRs K rs = some rs
  | [], _ => rfl
  | r :: rs, h => by
    have ih := purRs_flat K (rs := rs) fun x hx => h x (by simp [hx])
    simp only [purRs, purR_flat K (h r (by simp)), ih]
def NRow.ys (r : NRow) : List (List AV) := match r.ob with | .arr _ _ _ ys => ys | _ => []
theorem purRs_nrow (K : Nat → Option AObj) (sz : Nat) : ∀ {l : List NRow}, (∀ r ∈ l, ∃ e ys, e < 1000000 ∧ r.ob = .arr e 0 sz ys ∧ K r.o = some r.ob ∧ r.n = ys.length) → purRs K (l.map NRow.row) = some (l.map fun r => [.str r.nm, .sl 99 sz r.ys])
  | [], _ => rfl
  | r :: l, h => by
    obtain ⟨e, ys, he, h1, h2, h3⟩ := h r (by simp)
    have ih := purRs_nrow K sz (l := l) fun x hx => h x (by simp [hx])
    rw [h1] at h2
    simp only [List.map_cons, purRs, ih, NRow.row, purR, h2, he, if_true, isLeaf, noref, Bool.and_self, NRow.ys, h1, h3, List.take_length, List.drop_zero]
theorem purRs_nfam (K : Nat → Option AObj) {k e sz : Nat} (he : e < 1000000) {x : List (ByteArray × List (List AV))} (h : ∀ p ∈ nobjs (nfam k e sz x), K p.1 = some p.2) : purRs K ((nfam k e sz x).map NRow.row) = some (x.map fun y => [.str y.1, .sl 99 sz y.2]) := by
  rw [purRs_nrow K sz fun r hr => ?_]
  · congr 1
    refine List.ext_getElem (by simp [nfam]) fun i h1 h2 => ?_
    simp [nfam, NRow.ys]
  · have hk := h (r.o, r.ob) (List.mem_map.2 ⟨r, hr, rfl⟩)
    simp only [nfam, List.mem_mapIdx] at hr
    obtain ⟨i, hi, rfl⟩ := hr
    exact ⟨e, _, he, rfl, hk, rfl⟩
theorem purN_sky {M K : Nat → Option AObj} {s : Sky} {a b c d kA kS : Nat} (hM : ∀ p ∈ skyM s a b c d kA kS, M p.1 = some p.2) (hK : ∀ p ∈ skyM s a b c d kA kS, K p.1 = some p.2) : purN M K (skyV s a b c d) = some (.agg (s.row 99)) := by
  have h1 := hM _ (show (a, AObj.arr 103 0 3 (s.pts.map Pt.row)) ∈ skyM s a b c d kA kS from by simp [skyM])
  have h2 := hM _ (show (b, AObj.arr (1000000 + 108) 0 2 ((fA kA s).map NRow.row)) ∈ skyM s a b c d kA kS from by simp [skyM])
  have h3 := hM _ (show (c, AObj.arr (1000000 + 111) 0 2 ((fS kS s).map NRow.row)) ∈ skyM s a b c d kA kS from by simp [skyM])
  have h4 := hM _ (show (d, AObj.arr 118 0 4 (s.rws.map Rw.row)) ∈ skyM s a b c d kA kS from by simp [skyM])
  simp only at h1 h2 h3 h4
  have hA := purRs_nfam K (k := kA) (e := 9) (sz := 1) (by omega) (x := s.aws.map awP) fun p hp => hK p (by simp only [skyM, List.mem_cons, List.mem_append]; exact .inr (.inr (.inr (.inr (.inl hp)))))
  have hS := purRs_nfam K (k := kS) (e := 113) (sz := 6) (by omega) (x := s.secs.map secP) fun p hp => hK p (by simp only [skyM, List.mem_cons, List.mem_append]; exact .inr (.inr (.inr (.inr (.inr hp)))))
  have t1 : (s.pts.map Pt.row).take s.pts.length = s.pts.map Pt.row := List.take_of_length_le (by simp)
  have t2 : ((fA kA s).map NRow.row).take s.aws.length = (fA kA s).map NRow.row := List.take_of_length_le (by simp [fA, nfam_len])
  have t3 : ((fS kS s).map NRow.row).take s.secs.length = (fS kS s).map NRow.row := List.take_of_length_le (by simp [fS, nfam_len])
  have t4 : (s.rws.map Rw.row).take s.rws.length = s.rws.map Rw.row := List.take_of_length_le (by simp)
  have f1 : purRs K (s.pts.map Pt.row) = some (s.pts.map Pt.row) := purRs_flat K fun r hr => by obtain ⟨x, _, rfl⟩ := List.mem_map.1 hr; rfl
  have f4 : purRs K (s.rws.map Rw.row) = some (s.rws.map Rw.row) := purRs_flat K fun r hr => by obtain ⟨x, _, rfl⟩ := List.mem_map.1 hr; rfl
  simp only [fA, fS] at t2 t3 h2 h3
  simp only [List.map_map] at hA hS
  simp only [skyV, purN, purNL, h1, h2, h3, h4, if_true, List.drop_zero, t1, t2, t3, t4, f1, f4, fA, fS, hA, hS, Option.map_some, Sky.row]
  rfl
theorem sky_self {s : Sky} {a b c d kA kS : Nat} (ha : a < 1000) (hb : b < 1000) (hc : c < 1000) (hd : d < 1000) (hab : b ≠ a) (hac : c ≠ a) (had : d ≠ a) (hbc : c ≠ b) (hbd : d ≠ b) (hcd : d ≠ c) (hA : kA < 1000) (hS : kS < 1000) (hAS : kA ≠ kS) :
    ∀ p ∈ skyM s a b c d kA kS, getM (skyM s a b c d kA kS) p.1 = some p.2 := by
  intro p hp
  simp only [skyM, List.mem_cons, List.mem_append] at hp
  rcases hp with rfl | rfl | rfl | rfl | hp | hp
  · simp [skyM, getM]
  · simp [skyM, getM, hab]
  · simp [skyM, getM, hac, hbc]
  · simp [skyM, getM, had, hbd, hcd]
  · obtain ⟨i, hi, rfl⟩ := nfam_at hp
    simp only [skyM, getM, fam_ne ha, fam_ne hb, fam_ne hc, fam_ne hd, if_false, getM_append, fA, nfam_obj hi, Option.some_or]
  · obtain ⟨i, hi, rfl⟩ := nfam_at hp
    simp only [skyM, getM, fam_ne ha, fam_ne hb, fam_ne hc, fam_ne hd, if_false, getM_append, fA, fS, nfam_none hA hS hAS, nfam_obj hi, Option.none_or]
theorem aKeep {M K : List (Nat × AObj)} (h : ∀ p ∈ K, getM M p.1 = some p.2) : applyU M K = M := by
  induction K with
  | nil => rfl
  | cons p K ih =>
    show setM (applyU M K) p.1 p.2 = M
    rw [ih fun q hq => h q (by simp [hq])]
    have := h p (by simp)
    clear ih h
    induction M with
    | nil => simp [getM] at this
    | cons q M ih =>
      obtain ⟨k, x⟩ := q
      simp only [getM] at this
      simp only [setM]
      split at this
      · rename_i e; cases this; rw [if_pos e]
      · rename_i e; rw [if_neg e, ih this]
theorem tag_rows {α : Type} {f : Nat → α → List AV} {t : Nat} (h : ∀ x, tag0L (f t x) = f 0 x) (l : List α) : tag0LL (l.map (f t)) = l.map (f 0) := by
  rw [tag0LL_map, List.map_map]; exact List.map_congr_left fun x _ => h x
theorem tag_flat {α : Type} {f : α → List AV} (h : ∀ x, tag0L (f x) = f x) (l : List α) : tag0LL (l.map f) = l.map f := by
  rw [tag0LL_map, List.map_map]; exact List.map_congr_left fun x _ => h x
theorem no98_rows {α : Type} {f : α → List AV} (h : ∀ x, no98L (f x) = true) (l : List α) : no98LL (l.map f) = true := by
  induction l with
  | nil => rfl
  | cons x l ih => simp only [List.map_cons, no98LL, h x, ih, Bool.and_self]
theorem tag_sky (t : Nat) (s : Sky) : tag0 (.agg (s.row t)) = .agg (s.row 0) := by
  simp only [Sky.row, tag0, tag0L]
  rw [tag_flat (f := Pt.row) (fun _ => rfl), tag_flat (f := Rw.row) (fun _ => rfl), tag_rows (f := Aw.row) (fun x => by simp only [Aw.row, tag0L, tag0]; rw [tag_flat (f := srow) fun _ => rfl]), tag_rows (f := Sec.row) (fun x => by simp only [Sec.row, tag0L, tag0]; rw [tag_flat (f := Blk.row) fun _ => rfl])]
theorem no98_sky (t : Nat) (ht : t ≠ 98) (s : Sky) : no98 (.agg (s.row t)) = true := by
  simp only [Sky.row, no98, no98L]
  rw [no98_rows (f := Pt.row) (fun _ => rfl), no98_rows (f := Rw.row) (fun _ => rfl), no98_rows (f := Aw.row t) (fun x => by simp only [Aw.row, no98L, no98]; rw [no98_rows (f := srow) fun _ => rfl]; simp [ht]), no98_rows (f := Sec.row t) (fun x => by simp only [Sec.row, no98L, no98]; rw [no98_rows (f := Blk.row) fun _ => rfl]; simp [ht])]
  simp [ht]
/-- A call that only looks at a sky of the function's own. -/
theorem callR_sky {f : FuncId} {s : Sky} {a b c d kA kS : Nat} {rest rest' : List AV} {r : AV} {news : List (Nat × AObj)} {M : Nat → Option AObj} (hC : Contract P f (.agg (s.row 0) :: tag0L rest') [] r news)
    (hM : ∀ p ∈ skyM s a b c d kA kS, M p.1 = some p.2) (hself : ∀ p ∈ skyM s a b c d kA kS, getM (skyM s a b c d kA kS) p.1 = some p.2)
    (hr : purNL M (getM (skyM s a b c d kA kS)) rest = some rest') (h98 : no98L rest' = true) (hp : plainV r = true) (hpo : (news.all fun p => plainO p.2) = true) (hn : ∀ p ∈ news, M p.1 = none) (hrf : refsIn (dom news) r = true)
    (hro : (news.all fun p => refsInO (dom news) p.2) = true) (h9 : No99 r) (h9o : ∀ p ∈ news, No99O p.2) : callR P f (skyV s a b c d :: rest) M r (news ++ skyM s a b c d kA kS) := by
  refine .inr (.inr (.inr ⟨.agg (s.row 99) :: rest', skyM s a b c d kA kS, news, rfl, hM, ?_, ?_, hn, hrf, hro, h9, h9o⟩))
  · simp only [purNL, purN_sky hM hself, hr]
  · refine Contract.tag ?_ ?_ hp hpo
    · simp only [tag0L, tag_sky]; exact hC
    · simp only [no98L, no98_sky 99 (by omega), h98, Bool.and_self]

end
end Go.Ve

namespace Go.Ve
noncomputable section
open Go.Proofs
set_option linter.unusedSimpArgs false
set_option linter.unusedVariables false
set_option maxRecDepth 100000
def t_zonesOk : List AV → Option (Prop × AV)
  | [.sl zst 5 zsx] => some ((((zsx.map unZone).map Zone.row = zsx)) ∧ ((zsx.map unZone).length ≤ 4611686018427387904), .bool (decide (zonesOk (zsx.map unZone))))
  | _ => none
theorem h_zonesOk : ∀ args p v, t_zonesOk args = some (p, v) → p → Contract P 94 args [] v [] ∧ noref v = true ∧ No99 v := by
  intro args p v h1 h2
  unfold t_zonesOk at h1
  split at h1
  · rename_i zst zsx
    cases h1
    obtain ⟨e0, HP⟩ := h2
    have := c_zonesOk zst (zsx.map unZone) HP
    exact ⟨by simpa only [e0] using this, rfl, trivial⟩
  · cases h1
set_option maxHeartbeats 1000000 in
theorem c_sZonesOk (t : Nat) (zs : List Zone) (hl : zs.length ≤ 4611686018427387904) : Contract P 144 [.sl t 5 (zs.map Zone.row)] [] (.bool (decide (zonesOk zs))) [] := by
  refine fn_sound (((Env.nil P).add 161 t_l31In h_l31In).add 162 t_l31NameOk h_l31NameOk) hm k_spec_HandZonesOk (Nat.le_of_ble_eq_true rfl) rfl ?_; unfold s_spec_HandZonesOk; simp (config := { maxSteps := 2000000 }) only [bitvec_to_nat, reduceIte, Nat.reduceEqDiff, Nat.reduceAdd, Nat.reduceLeDiff, reduceCtorEq, Nat.reduceBEq, Nat.reduceLT, Nat.reduceMod, List.forall_mem_cons, t_l31In, t_l31NameOk, Zone.row, Zone_eta, Box6.row, box_eta6, tk_map, dp_map, toNat_pred]
  refine ⟨fun h1 => ?_, fun h1 => by grind [zonesOk]⟩
  · refine loop_st (fun i : Nat => [(3, .int .i64 i)]) (fun _ => []) (fun i => i ≤ zs.length ∧ ∀ j, j < i → zoneAt zs j) (fun i => zs.length - i) (0) (by simp only [u_E0, u_E1, u_M0, u_M1, w_setE0, w_setE1, w_setM0, w_setM1, reduceIte, Nat.reduceEqDiff]; exact ⟨by repeat' (first | exact trivial | refine ⟨.inr rfl, ?_⟩), by repeat' (first | exact trivial | refine ⟨rfl, ?_⟩), by first | rfl | simp [closedB, refsIn, refsInL, refsInO, dom, refsInL_nr, *], by first | rfl | simp [keepB, dom]⟩) ?_ ?_
    · exact ⟨Nat.zero_le _, by intro j hj; omega⟩
    intro i hi NX hN
    unfold l_spec_HandZonesOk_1; simp (config := { maxSteps := 2000000 }) only [bitvec_to_nat, reduceIte, Nat.reduceEqDiff, Nat.reduceAdd, Nat.reduceLeDiff, reduceCtorEq, Nat.reduceBEq, Nat.reduceLT, Nat.reduceMod, List.forall_mem_cons, t_l31In, t_l31NameOk, Zone.row, Zone_eta, Box6.row, box_eta6, tk_map, dp_map, toNat_pred]
    repeat' (first | with_reducible apply And.intro | with_reducible intro _)
    all_goals first
      | omega
      | (intro hq; have := hq.2 i (by omega); unfold zoneAt Zone.ok at this; grind)
      | (refine loop_st (fun k : Nat => [(5, .int .i64 k)]) (fun _ => []) (fun k => k ≤ i ∧ ∀ j, j < k → ¬ (zs.getD j default).meet (zs.getD i default)) (fun k => i - k) (0) (by simp only [u_E0, u_E1, u_M0, u_M1, w_setE0, w_setE1, w_setM0, w_setM1, reduceIte, Nat.reduceEqDiff]; exact ⟨by repeat' (first | exact trivial | refine ⟨.inr rfl, ?_⟩), by repeat' (first | exact trivial | refine ⟨rfl, ?_⟩), by first | rfl | simp [closedB, refsIn, refsInL, refsInO, dom, refsInL_nr, *], by first | rfl | simp [keepB, dom]⟩) ?_ ?_
         · exact ⟨Nat.zero_le _, by intro j hj; omega⟩
         intro k hk NX2 hN2
         unfold l_spec_HandZonesOk_0; simp (config := { maxSteps := 2000000 }) only [bitvec_to_nat, reduceIte, Nat.reduceEqDiff, Nat.reduceAdd, Nat.reduceLeDiff, reduceCtorEq, Nat.reduceBEq, Nat.reduceLT, Nat.reduceMod, List.forall_mem_cons, t_l31In, t_l31NameOk, Zone.row, Zone_eta, Box6.row, box_eta6, tk_map, dp_map, toNat_pred]
         repeat' (first | with_reducible apply And.intro | with_reducible intro _)
         all_goals first
           | omega
           | (refine hN2 (k + 1) _ (by simp only [u_E0, u_E1, u_M0, u_M1, w_setE0, w_setE1, w_setM0, w_setM1, reduceIte, Nat.reduceEqDiff]; exact ⟨by repeat' (first | exact trivial | refine ⟨.inr rfl, ?_⟩), by repeat' (first | exact trivial | refine ⟨rfl, ?_⟩), by first | rfl | simp [closedB, refsIn, refsInL, refsInO, dom, refsInL_nr, *], by first | rfl | simp [keepB, dom]⟩) ?_ ?_
              · refine ⟨by omega, all_snoc hk.2 ?_⟩
                grind [Zone.meet]
              · omega)
           | (refine hN (i + 1) _ (by simp only [u_E0, u_E1, u_M0, u_M1, w_setE0, w_setE1, w_setM0, w_setM1, reduceIte, Nat.reduceEqDiff]; exact ⟨by repeat' (first | exact trivial | refine ⟨.inr rfl, ?_⟩), by repeat' (first | exact trivial | refine ⟨rfl, ?_⟩), by first | rfl | simp [closedB, refsIn, refsInL, refsInO, dom, refsInL_nr, *], by first | rfl | simp [keepB, dom]⟩) ?_ ?_
              · refine ⟨by omega, all_snoc hi.2 ⟨?_, ?_, fun k hk2 => hk.2 k (by omega)⟩⟩
                · grind [Zone.ok]
                · grind
              · omega)
           | (intro hq
              have := (hq.2 i (by omega)).2.2 k (by omega)
              grind [Zone.meet]))
      | (refine ⟨by omega, fun j hj => hi.2 j (by omega)⟩)
def t_sZonesOk : List AV → Option (Prop × AV)
  | [.sl zst 5 zsx] => some ((((zsx.map unZone).map Zone.row = zsx)) ∧ ((zsx.map unZone).length ≤ 4611686018427387904), .bool (decide (zonesOk (zsx.map unZone))))
  | _ => none
theorem h_sZonesOk : ∀ args p v, t_sZonesOk args = some (p, v) → p → Contract P 144 args [] v [] ∧ noref v = true ∧ No99 v := by
  intro args p v h1 h2
  unfold t_sZonesOk at h1
  split at h1
  · rename_i zst zsx
    cases h1
    obtain ⟨e0, HP⟩ := h2
    have := c_sZonesOk zst (zsx.map unZone) HP
    exact ⟨by simpa only [e0] using this, rfl, trivial⟩
  · cases h1
def Zone.over (z : Zone) (x y : Int) : Prop := (z.x0 ≤ x ∧ x ≤ z.x1) ∧ (z.y0 ≤ y ∧ y ≤ z.y1)
noncomputable instance (z : Zone) (x y : Int) : Decidable (z.over x y) := Classical.propDecidable _
end
end Go.Ve

namespace Go.Ve
noncomputable section
open Go.Proofs
set_option linter.unusedSimpArgs false
set_option linter.unusedVariables false
set_option maxRecDepth 100000
def zoneOf (c : Sec) : Zone := ⟨c.nm, (c.bl.getD 0 default).x0, (c.bl.getD 0 default).y0, (c.bl.getD 0 default).x1, (c.bl.getD 0 default).y1⟩
def secOne (lv : Int) (c : Sec) : Prop := c.bl.length = 1 ∧ (c.bl.getD 0 default).lo = 1 ∧ (c.bl.getD 0 default).hi = lv
def lzOk (s : Sky) : Prop := (∀ i, i < s.secs.length → secOne s.lv (s.secs.getD i default)) ∧ zonesOk (s.secs.map zoneOf)
noncomputable instance (s : Sky) : Decidable (lzOk s) := Classical.propDecidable _
def lzs (s : Sky) (i : Nat) : List Zone := (s.secs.take i).map zoneOf
theorem lzs_len {s : Sky} {i : Nat} (h : i ≤ s.secs.length) : (lzs s i).length = i := by simp [lzs]; omega
theorem lzs_succ {s : Sky} {i : Nat} (h : i < s.secs.length) : (lzs s i).map Zone.row ++ [Zone.row (zoneOf (s.secs.getD i default))] = (lzs s (i + 1)).map Zone.row := by
  unfold lzs
  rw [List.take_succ_eq_append_getElem h, List.map_append, List.map_append]; simp [h, -List.map_map]
theorem lzs_all {s : Sky} : lzs s s.secs.length = s.secs.map zoneOf := by simp [lzs]
set_option maxHeartbeats 2000000 in
theorem c_l41 (s : Sky) (hs : s.small) : Contract P 93 [.agg (s.row 0)] [] (.tup [.sl 0 5 ((if lzOk s then s.secs.map zoneOf else []).map Zone.row), .bool (decide (lzOk s))]) [] := by
  have hsm := hs
  unfold Sky.small at hsm
  have tkl : True := trivial
  refine fn_sound ((Env.nil P).add 144 t_sZonesOk h_sZonesOk) hm k_spec_l41Zones (Nat.le_of_ble_eq_true rfl) rfl ?_; unfold s_spec_l41Zones; simp (config := { maxSteps := 2000000 }) only [bitvec_to_nat, reduceIte, Nat.reduceEqDiff, Nat.reduceAdd, Nat.reduceLeDiff, reduceCtorEq, Nat.reduceBEq, Nat.reduceLT, Nat.reduceMod, List.forall_mem_cons, t_sZonesOk, tk_map, dp_map, toNat_pred, appE, rowsOf, List.take_length, List.length_cons, List.length_nil, Nat.zero_add, srow, irow, un_s, un_i, Pt.row, Pt_eta, Aw.row, Aw_eta, Blk.row, Blk_eta, Sec.row, Sec_eta, Rw.row, Rw_eta, Sky.row, Sky_eta, Place.row, Place_eta, un_Pt, un_Aw, un_Blk, un_Sec, un_Rw, un_Sky, un_Place, Nat.sub_zero, Sky.row, ghost, List.nil_append, take_all, Sec.row, zoneOf, getD_rows, tkl]
  refine loop_st (fun i : Nat => [(4, .own 108 i 0 i), (5, .int .i64 i)]) (fun i => [(108, .arr 134 i 5 ((lzs s i).map Zone.row))]) (fun i => i ≤ s.secs.length ∧ ∀ j, j < i → secOne s.lv (s.secs.getD j default)) (fun i => s.secs.length - i) 0 (by simp only [u_E0, u_E1, u_M0, u_M1, w_setE0, w_setE1, w_setM0, w_setM1, reduceIte, Nat.reduceEqDiff]; exact ⟨by repeat' (first | exact trivial | refine ⟨.inr rfl, ?_⟩), by repeat' (first | exact trivial | refine ⟨rfl, ?_⟩), by first | rfl | simp [closedB, refsIn, refsInL, refsInO, dom, refsInL_nr, *], by first | rfl | simp [keepB, dom]⟩) ⟨Nat.zero_le _, fun j hj => absurd hj (Nat.not_lt_zero _)⟩ ?_
  rintro i ⟨hi, h1⟩ NX hN
  have hll := lzs_len hi
  have tkl : List.take i ((lzs s i).map Zone.row) = (lzs s i).map Zone.row := List.take_of_length_le (by simp [hll])
  by_cases h : i < s.secs.length
  · have hx := hsm.2.2.1.2 _ (getD_mem' h)
    unfold Sec.small at hx
    have hsu := lzs_succ h
    have hi' : (i : Int) < s.secs.length := by omega
    have e5 : ((i + 1 : Nat) : Int) = (i : Int) + 1 := by omega
    skip
    unfold l_spec_l41Zones_0; simp (config := { maxSteps := 2000000 }) only [bitvec_to_nat, reduceIte, Nat.reduceEqDiff, Nat.reduceAdd, Nat.reduceLeDiff, reduceCtorEq, Nat.reduceBEq, Nat.reduceLT, Nat.reduceMod, List.forall_mem_cons, t_sZonesOk, tk_map, dp_map, toNat_pred, appE, rowsOf, List.take_length, List.length_cons, List.length_nil, Nat.zero_add, srow, irow, un_s, un_i, Pt.row, Pt_eta, Aw.row, Aw_eta, Blk.row, Blk_eta, Sec.row, Sec_eta, Rw.row, Rw_eta, Sky.row, Sky_eta, Place.row, Place_eta, un_Pt, un_Aw, un_Blk, un_Sec, un_Rw, un_Sky, un_Place, Nat.sub_zero, Sky.row, ghost, List.nil_append, take_all, Sec.row, zoneOf, getD_rows, tkl]
    repeat' (first | with_reducible apply And.intro | with_reducible intro _)
    all_goals first
      | omega
      | (refine hN (i + 1) _ ⟨by repeat' (first | exact trivial | refine ⟨.inr rfl, ?_⟩), ⟨rfl, congrArg (fun g => some (AObj.arr 134 (i + 1) 5 g)) hsu, trivial⟩, rfl, rfl⟩ ⟨h, all_snoc h1 ⟨by omega, by assumption, by assumption⟩⟩ (by omega))
      | (exfalso; grind [lzOk, secOne])
      | grind [lzOk, secOne]
      | (refine hN (i + 1) _ ⟨by repeat' (first | exact trivial | refine ⟨.inr rfl, ?_⟩), ⟨rfl, congrArg (fun g => some (AObj.arr 134 (i + 1) 5 g)) hsu, trivial⟩, rfl, rfl⟩ ⟨h, all_snoc h1 ⟨by omega, by assumption, by assumption⟩⟩ (by omega))
  · have e : i = s.secs.length := by omega
    subst e
    have hi' : ¬ ((s.secs.length : Nat) : Int) < s.secs.length := by omega
    have tka : List.take s.secs.length (s.secs.map zoneOf) = s.secs.map zoneOf := List.take_of_length_le (by simp)
    rw [lzs_all] at hll tkl
    unfold l_spec_l41Zones_0; simp (config := { maxSteps := 2000000 }) only [bitvec_to_nat, reduceIte, Nat.reduceEqDiff, Nat.reduceAdd, Nat.reduceLeDiff, reduceCtorEq, Nat.reduceBEq, Nat.reduceLT, Nat.reduceMod, List.forall_mem_cons, t_sZonesOk, tk_map, dp_map, toNat_pred, appE, rowsOf, List.take_length, List.length_cons, List.length_nil, Nat.zero_add, srow, irow, un_s, un_i, Pt.row, Pt_eta, Aw.row, Aw_eta, Blk.row, Blk_eta, Sec.row, Sec_eta, Rw.row, Rw_eta, Sky.row, Sky_eta, Place.row, Place_eta, un_Pt, un_Aw, un_Blk, un_Sec, un_Rw, un_Sky, un_Place, Nat.sub_zero, Sky.row, ghost, List.nil_append, take_all, tkl, Sec.row, zoneOf, getD_rows, hi', lzs_all, un_Zone, not_false_eq_true, tka]
    have hle : (s.secs.map zoneOf).length ≤ 4611686018427387904 := by rw [List.length_map]; omega
    have hok : lzOk s ↔ zonesOk (s.secs.map zoneOf) := ⟨fun h => h.2, fun h => ⟨h1, h⟩⟩
    refine ⟨by omega, fun hz => ⟨by rw [if_pos (hok.2 hz)], hok.2 hz⟩, fun hz => ⟨by rw [if_neg fun h => hz (hok.1 h)]; rfl, fun h => hz (hok.1 h)⟩⟩
def t_l41 : List AV → Option (Prop × AV)
  | [.agg [.int .i64 s_w, .int .i64 s_h, .int .i64 s_lv, .sl 0 3 s_pts, .sl 0 2 s_aws, .sl 0 2 s_secs, .sl 0 4 s_rws]] => some ((((s_pts.map unPt).map Pt.row = s_pts) ∧ ((s_aws.map unAw).map (Aw.row 0) = s_aws) ∧ ((s_secs.map unSec).map (Sec.row 0) = s_secs) ∧ ((s_rws.map unRw).map Rw.row = s_rws)) ∧ (Sky.small (Sky.mk s_w s_h s_lv (s_pts.map unPt) (s_aws.map unAw) (s_secs.map unSec) (s_rws.map unRw))), .tup [.sl 0 5 ((if lzOk (Sky.mk s_w s_h s_lv (s_pts.map unPt) (s_aws.map unAw) (s_secs.map unSec) (s_rws.map unRw)) then Sky.secs (Sky.mk s_w s_h s_lv (s_pts.map unPt) (s_aws.map unAw) (s_secs.map unSec) (s_rws.map unRw)) |>.map zoneOf else []).map Zone.row), .bool (decide (lzOk (Sky.mk s_w s_h s_lv (s_pts.map unPt) (s_aws.map unAw) (s_secs.map unSec) (s_rws.map unRw))))])
  | _ => none
theorem h_l41 : ∀ args p v, t_l41 args = some (p, v) → p → Contract P 93 args [] v [] ∧ noref v = true ∧ No99 v := by
  intro args p v h1 h2
  unfold t_l41 at h1
  split at h1
  · rename_i s_w s_h s_lv s_pts s_aws s_secs s_rws
    cases h1
    obtain ⟨⟨e0, e1, e2, e3⟩, HP⟩ := h2
    have := c_l41 (Sky.mk s_w s_h s_lv (s_pts.map unPt) (s_aws.map unAw) (s_secs.map unSec) (s_rws.map unRw)) HP
    exact ⟨by simpa only [e0, e1, e2, e3, Sky.row] using this, rfl, by simp [No99, No99L, no99_Zone]⟩
  · cases h1
def lzV (s : Sky) : Prop := s.valid ∧ lzOk s
noncomputable instance (s : Sky) : Decidable (lzV s) := Classical.propDecidable _
def lzR (s : Sky) : List Zone := if lzV s then s.secs.map zoneOf else []
theorem c_sLapZones (s : Sky) (hs : s.small) : Contract P 24 [.agg (s.row 0)] [] (.tup [.sl 0 5 ((lzR s).map Zone.row), .bool (decide (lzV s))]) [] := by
  have tkl : True := trivial
  simp only [Sky.row]
  refine fn_sound (((Env.nil P).add 13 t_sSkyValid h_sSkyValid).add 93 t_l41 h_l41) hm k_spec_LapZones (Nat.le_of_ble_eq_true rfl) rfl ?_; unfold s_spec_LapZones; simp (config := { maxSteps := 2000000 }) only [bitvec_to_nat, reduceIte, Nat.reduceEqDiff, Nat.reduceAdd, Nat.reduceLeDiff, reduceCtorEq, Nat.reduceBEq, Nat.reduceLT, Nat.reduceMod, List.forall_mem_cons, t_sSkyValid, t_l41, tk_map, dp_map, toNat_pred, appE, rowsOf, List.take_length, List.length_cons, List.length_nil, Nat.zero_add, srow, irow, un_s, un_i, Pt.row, Pt_eta, Aw.row, Aw_eta, Blk.row, Blk_eta, Sec.row, Sec_eta, Rw.row, Rw_eta, Sky.row, Sky_eta, Place.row, Place_eta, un_Pt, un_Aw, un_Blk, un_Sec, un_Rw, un_Sky, un_Place, Nat.sub_zero, Sky.row, ghost, List.nil_append, take_all, Sec.row, zoneOf, getD_rows, tkl]
  refine ⟨hs, fun hv => ⟨hs, ?_, ?_⟩, fun hv => ⟨?_, fun h => hv h.1⟩⟩
  · have e : lzV s ↔ lzOk s := ⟨fun h => h.2, fun h => ⟨hv, h⟩⟩
    simp only [lzR, e]
  · exact decide_eq_decide.2 ⟨fun h => ⟨hv, h⟩, fun h => h.2⟩
  · rw [lzR, if_neg fun h => hv h.1]; rfl
set_option maxHeartbeats 2000000 in
theorem c_iLapY (s : Sky) (hs : s.small) (hf : s.fitp) (hv : lzV s) : Contract P 25 [.agg (s.row 0)] [] (.tup [.own 104 s.secs.length 0 s.secs.length, .bool true]) [(104, .arr 134 s.secs.length 5 ((s.secs.map zoneOf).map Zone.row))] := by
  have hsm := hs
  unfold Sky.small at hsm
  have tkl : True := trivial
  refine fn_sound (((Env.nil P).add 15 t_iSkyValid h_iSkyValid).add 94 t_zonesOk h_zonesOk) hm kO_impl_LapZones (Nat.le_of_ble_eq_true rfl) rfl ?_; unfold sO_impl_LapZones; simp (config := { maxSteps := 2000000 }) only [bitvec_to_nat, reduceIte, Nat.reduceEqDiff, Nat.reduceAdd, Nat.reduceLeDiff, reduceCtorEq, Nat.reduceBEq, Nat.reduceLT, Nat.reduceMod, List.forall_mem_cons, retG_ret, retQ_eq, retQ_eqN, retOk, keepB, re_tupl, orr_t, t_iSkyValid, t_zonesOk, tk_map, dp_map, toNat_pred, appE, rowsOf, List.take_length, List.length_cons, List.length_nil, Nat.zero_add, srow, irow, un_s, un_i, Pt.row, Pt_eta, Aw.row, Aw_eta, Blk.row, Blk_eta, Sec.row, Sec_eta, Rw.row, Rw_eta, Sky.row, Sky_eta, Place.row, Place_eta, un_Pt, un_Aw, un_Blk, un_Sec, un_Rw, un_Sky, un_Place, Nat.sub_zero, Sky.row, ghost, List.nil_append, take_all, Sec.row, zoneOf, getD_rows, tkl]
  refine ⟨⟨hs, hf⟩, fun _ => ?_, fun h => absurd hv.1 h⟩
  refine loop_st (fun i : Nat => [(4, .own 104 i 0 i), (14, .int .i64 i)]) (fun i => [(104, .arr 134 i 5 ((lzs s i).map Zone.row))]) (fun i => i ≤ s.secs.length ∧ ∀ j, j < i → secOne s.lv (s.secs.getD j default)) (fun i => s.secs.length - i) 0 (by simp only [u_E0, u_E1, u_M0, u_M1, w_setE0, w_setE1, w_setM0, w_setM1, reduceIte, Nat.reduceEqDiff]; exact ⟨by repeat' (first | exact trivial | refine ⟨.inr rfl, ?_⟩), by repeat' (first | exact trivial | refine ⟨rfl, ?_⟩), by first | rfl | simp [closedB, refsIn, refsInL, refsInO, dom, refsInL_nr, *], by first | rfl | simp [keepB, dom]⟩) ⟨Nat.zero_le _, fun j hj => absurd hj (Nat.not_lt_zero _)⟩ ?_
  rintro i ⟨hi, h1⟩ NX hN
  have hll := lzs_len hi
  have tkl : List.take i ((lzs s i).map Zone.row) = (lzs s i).map Zone.row := List.take_of_length_le (by simp [hll])
  by_cases h : i < s.secs.length
  · have hx := hsm.2.2.1.2 _ (getD_mem' h)
    unfold Sec.small at hx
    have hsu := lzs_succ h
    have hi' : (i : Int) < s.secs.length := by omega
    have e5 : ((i + 1 : Nat) : Int) = (i : Int) + 1 := by omega
    have hb1 := (hv.1.2.2.2.1.2 i h).2.2.1
    unfold lO_impl_LapZones_0; simp (config := { maxSteps := 2000000 }) only [bitvec_to_nat, reduceIte, Nat.reduceEqDiff, Nat.reduceAdd, Nat.reduceLeDiff, reduceCtorEq, Nat.reduceBEq, Nat.reduceLT, Nat.reduceMod, List.forall_mem_cons, retG_ret, retQ_eq, retQ_eqN, retOk, keepB, re_tupl, orr_t, t_iSkyValid, t_zonesOk, tk_map, dp_map, toNat_pred, appE, rowsOf, List.take_length, List.length_cons, List.length_nil, Nat.zero_add, srow, irow, un_s, un_i, Pt.row, Pt_eta, Aw.row, Aw_eta, Blk.row, Blk_eta, Sec.row, Sec_eta, Rw.row, Rw_eta, Sky.row, Sky_eta, Place.row, Place_eta, un_Pt, un_Aw, un_Blk, un_Sec, un_Rw, un_Sky, un_Place, Nat.sub_zero, Sky.row, ghost, List.nil_append, take_all, Sec.row, zoneOf, getD_rows, tkl]
    repeat' (first | with_reducible apply And.intro | with_reducible intro _)
    all_goals first
      | omega
      | (refine hN (i + 1) _ ⟨by repeat' (first | exact trivial | refine ⟨.inr rfl, ?_⟩), ⟨rfl, congrArg (fun g => some (AObj.arr 134 (i + 1) 5 g)) hsu, trivial⟩, rfl, rfl⟩ ⟨h, all_snoc h1 ⟨by omega, by assumption, by assumption⟩⟩ (by omega))
      | (exfalso; grind [lzOk, lzV, secOne])
      | grind [lzOk, lzV, secOne]
      | (refine hN (i + 1) _ ⟨by repeat' (first | exact trivial | refine ⟨.inr rfl, ?_⟩), ⟨rfl, congrArg (fun g => some (AObj.arr 134 (i + 1) 5 g)) hsu, trivial⟩, rfl, rfl⟩ ⟨h, all_snoc h1 ⟨by omega, by assumption, by assumption⟩⟩ (by omega))
  · have e : i = s.secs.length := by omega
    subst e
    have hi' : ¬ ((s.secs.length : Nat) : Int) < s.secs.length := by omega
    have tka : List.take s.secs.length (s.secs.map zoneOf) = s.secs.map zoneOf := List.take_of_length_le (by simp)
    rw [lzs_all] at hll tkl
    unfold lO_impl_LapZones_0; simp (config := { maxSteps := 2000000 }) only [bitvec_to_nat, reduceIte, Nat.reduceEqDiff, Nat.reduceAdd, Nat.reduceLeDiff, reduceCtorEq, Nat.reduceBEq, Nat.reduceLT, Nat.reduceMod, List.forall_mem_cons, retG_ret, retQ_eq, retQ_eqN, retOk, keepB, re_tupl, orr_t, t_iSkyValid, t_zonesOk, tk_map, dp_map, toNat_pred, appE, rowsOf, List.take_length, List.length_cons, List.length_nil, Nat.zero_add, srow, irow, un_s, un_i, Pt.row, Pt_eta, Aw.row, Aw_eta, Blk.row, Blk_eta, Sec.row, Sec_eta, Rw.row, Rw_eta, Sky.row, Sky_eta, Place.row, Place_eta, un_Pt, un_Aw, un_Blk, un_Sec, un_Rw, un_Sky, un_Place, Nat.sub_zero, Sky.row, ghost, List.nil_append, take_all, tkl, Sec.row, zoneOf, getD_rows, hi', lzs_all, un_Zone, not_false_eq_true, tka]
    refine ⟨by omega, fun hz => ⟨by simp [refsIn], rfl⟩, fun hz => absurd hv.2.2 hz⟩
set_option maxHeartbeats 2000000 in
theorem c_iLapN (s : Sky) (hs : s.small) (hf : s.fitp) (hv : ¬ lzV s) : Contract P 25 [.agg (s.row 0)] [] (.tup [.sl 98 5 [], .bool false]) [] := by
  have hsm := hs
  unfold Sky.small at hsm
  have tkl : True := trivial
  refine fn_sound (((Env.nil P).add 15 t_iSkyValid h_iSkyValid).add 94 t_zonesOk h_zonesOk) hm kO_impl_LapZones (Nat.le_of_ble_eq_true rfl) rfl ?_; unfold sO_impl_LapZones; simp (config := { maxSteps := 2000000 }) only [bitvec_to_nat, reduceIte, Nat.reduceEqDiff, Nat.reduceAdd, Nat.reduceLeDiff, reduceCtorEq, Nat.reduceBEq, Nat.reduceLT, Nat.reduceMod, List.forall_mem_cons, retG_ret, retQ_eq, retQ_eqN, retOk, keepB, re_tupl, orr_t, t_iSkyValid, t_zonesOk, tk_map, dp_map, toNat_pred, appE, rowsOf, List.take_length, List.length_cons, List.length_nil, Nat.zero_add, srow, irow, un_s, un_i, Pt.row, Pt_eta, Aw.row, Aw_eta, Blk.row, Blk_eta, Sec.row, Sec_eta, Rw.row, Rw_eta, Sky.row, Sky_eta, Place.row, Place_eta, un_Pt, un_Aw, un_Blk, un_Sec, un_Rw, un_Sky, un_Place, Nat.sub_zero, Sky.row, ghost, List.nil_append, take_all, Sec.row, zoneOf, getD_rows, tkl]
  refine ⟨⟨hs, hf⟩, fun hv1 => ?_⟩
  refine loop_st (fun i : Nat => [(4, .own 104 i 0 i), (14, .int .i64 i)]) (fun i => [(104, .arr 134 i 5 ((lzs s i).map Zone.row))]) (fun i => i ≤ s.secs.length ∧ ∀ j, j < i → secOne s.lv (s.secs.getD j default)) (fun i => s.secs.length - i) 0 (by simp only [u_E0, u_E1, u_M0, u_M1, w_setE0, w_setE1, w_setM0, w_setM1, reduceIte, Nat.reduceEqDiff]; exact ⟨by repeat' (first | exact trivial | refine ⟨.inr rfl, ?_⟩), by repeat' (first | exact trivial | refine ⟨rfl, ?_⟩), by first | rfl | simp [closedB, refsIn, refsInL, refsInO, dom, refsInL_nr, *], by first | rfl | simp [keepB, dom]⟩) ⟨Nat.zero_le _, fun j hj => absurd hj (Nat.not_lt_zero _)⟩ ?_
  rintro i ⟨hi, h1⟩ NX hN
  have hll := lzs_len hi
  have tkl : List.take i ((lzs s i).map Zone.row) = (lzs s i).map Zone.row := List.take_of_length_le (by simp [hll])
  by_cases h : i < s.secs.length
  · have hx := hsm.2.2.1.2 _ (getD_mem' h)
    unfold Sec.small at hx
    have hsu := lzs_succ h
    have hi' : (i : Int) < s.secs.length := by omega
    have e5 : ((i + 1 : Nat) : Int) = (i : Int) + 1 := by omega
    have hb1 := (hv1.2.2.2.1.2 i h).2.2.1
    unfold lO_impl_LapZones_0; simp (config := { maxSteps := 2000000 }) only [bitvec_to_nat, reduceIte, Nat.reduceEqDiff, Nat.reduceAdd, Nat.reduceLeDiff, reduceCtorEq, Nat.reduceBEq, Nat.reduceLT, Nat.reduceMod, List.forall_mem_cons, retG_ret, retQ_eq, retQ_eqN, retOk, keepB, re_tupl, orr_t, t_iSkyValid, t_zonesOk, tk_map, dp_map, toNat_pred, appE, rowsOf, List.take_length, List.length_cons, List.length_nil, Nat.zero_add, srow, irow, un_s, un_i, Pt.row, Pt_eta, Aw.row, Aw_eta, Blk.row, Blk_eta, Sec.row, Sec_eta, Rw.row, Rw_eta, Sky.row, Sky_eta, Place.row, Place_eta, un_Pt, un_Aw, un_Blk, un_Sec, un_Rw, un_Sky, un_Place, Nat.sub_zero, Sky.row, ghost, List.nil_append, take_all, Sec.row, zoneOf, getD_rows, tkl]
    repeat' (first | with_reducible apply And.intro | with_reducible intro _)
    all_goals first
      | omega
      | (refine hN (i + 1) _ ⟨by repeat' (first | exact trivial | refine ⟨.inr rfl, ?_⟩), ⟨rfl, congrArg (fun g => some (AObj.arr 134 (i + 1) 5 g)) hsu, trivial⟩, rfl, rfl⟩ ⟨h, all_snoc h1 ⟨by omega, by assumption, by assumption⟩⟩ (by omega))
      | (exfalso; grind [lzOk, lzV, secOne])
      | grind [lzOk, lzV, secOne]
      | (refine hN (i + 1) _ ⟨by repeat' (first | exact trivial | refine ⟨.inr rfl, ?_⟩), ⟨rfl, congrArg (fun g => some (AObj.arr 134 (i + 1) 5 g)) hsu, trivial⟩, rfl, rfl⟩ ⟨h, all_snoc h1 ⟨by omega, by assumption, by assumption⟩⟩ (by omega))
  · have e : i = s.secs.length := by omega
    subst e
    have hi' : ¬ ((s.secs.length : Nat) : Int) < s.secs.length := by omega
    have tka : List.take s.secs.length (s.secs.map zoneOf) = s.secs.map zoneOf := List.take_of_length_le (by simp)
    rw [lzs_all] at hll tkl
    unfold lO_impl_LapZones_0; simp (config := { maxSteps := 2000000 }) only [bitvec_to_nat, reduceIte, Nat.reduceEqDiff, Nat.reduceAdd, Nat.reduceLeDiff, reduceCtorEq, Nat.reduceBEq, Nat.reduceLT, Nat.reduceMod, List.forall_mem_cons, retG_ret, retQ_eq, retQ_eqN, retOk, keepB, re_tupl, orr_t, t_iSkyValid, t_zonesOk, tk_map, dp_map, toNat_pred, appE, rowsOf, List.take_length, List.length_cons, List.length_nil, Nat.zero_add, srow, irow, un_s, un_i, Pt.row, Pt_eta, Aw.row, Aw_eta, Blk.row, Blk_eta, Sec.row, Sec_eta, Rw.row, Rw_eta, Sky.row, Sky_eta, Place.row, Place_eta, un_Pt, un_Aw, un_Blk, un_Sec, un_Rw, un_Sky, un_Place, Nat.sub_zero, Sky.row, ghost, List.nil_append, take_all, tkl, Sec.row, zoneOf, getD_rows, hi', lzs_all, un_Zone, not_false_eq_true, tka]
    exact ⟨by omega, fun hz => absurd ⟨hv1, h1, hz⟩ hv⟩
end
end Go.Ve

namespace Go.Ve
noncomputable section
open Go.Proofs
set_option linter.unusedSimpArgs false
set_option linter.unusedVariables false
set_option maxRecDepth 100000
theorem c_eqZone (c d : Zone)  : Contract P 95 [.agg (c.row), .agg (d.row)] [] (.bool (decide (c = d))) [] := by
  obtain ⟨c_nm, c_x0, c_y0, c_x1, c_y1⟩ := c
  obtain ⟨d_nm, d_x0, d_y0, d_x1, d_y1⟩ := d
  simp only [Zone.row]
  refine fn_sound (Env.nil P) hm k_laws_eqHandZone (Nat.le_of_ble_eq_true rfl) rfl ?_; unfold s_laws_eqHandZone; simp (config := { maxSteps := 2000000 }) only [bitvec_to_nat, reduceIte, Nat.reduceEqDiff, Nat.reduceAdd, Nat.reduceLeDiff, reduceCtorEq, Nat.reduceBEq, Nat.reduceLT, Nat.reduceMod, List.forall_mem_cons, tk_map, dp_map, toNat_pred, appE, rowsOf, List.take_length, List.length_cons, List.length_nil, Nat.zero_add, srow, irow, un_s, un_i, Zone.row, Zone_eta, un_Zone, Word.row, Word_eta, Own.row, Own_eta, Part.row, Part_eta, Seen.row, Seen_eta, Book.row, Book_eta, Sector.row, Sector_eta, HCraft.row, HCraft_eta, World.row, World_eta, Pt.row, Pt_eta, Aw.row, Aw_eta, Blk.row, Blk_eta, Sec.row, Sec_eta, Rw.row, Rw_eta, Sky.row, Sky_eta, un_Word, un_Own, un_Part, un_Seen, un_Book, un_Sector, un_HCraft, un_World, un_Pt, un_Aw, un_Blk, un_Sec, un_Rw, un_Sky]
  simp only [Zone.mk.injEq]
  repeat' (first | with_reducible apply And.intro | with_reducible intro _)
  all_goals first | omega | (simp_all; done) | grind
def t_eqZone : List AV → Option (Prop × AV)
  | [.agg [.str c_nm, .int .i64 c_x0, .int .i64 c_y0, .int .i64 c_x1, .int .i64 c_y1], .agg [.str d_nm, .int .i64 d_x0, .int .i64 d_y0, .int .i64 d_x1, .int .i64 d_y1]] => some ((True) ∧ (True), .bool (decide ((Zone.mk c_nm c_x0 c_y0 c_x1 c_y1) = (Zone.mk d_nm d_x0 d_y0 d_x1 d_y1))))
  | _ => none
theorem h_eqZone : ∀ args p v, t_eqZone args = some (p, v) → p → Contract P 95 args [] v [] ∧ noref v = true ∧ No99 v := by
  intro args p v h1 h2
  unfold t_eqZone at h1
  split at h1
  · rename_i c_nm c_x0 c_y0 c_x1 c_y1 d_nm d_x0 d_y0 d_x1 d_y1
    cases h1
    obtain ⟨_, HP⟩ := h2
    have := c_eqZone (Zone.mk c_nm c_x0 c_y0 c_x1 c_y1) (Zone.mk d_nm d_x0 d_y0 d_x1 d_y1)
    exact ⟨by simpa only [Zone.row, Zone.row] using this, rfl, trivial⟩
  · cases h1
theorem c_eqZoneS (t t' : Nat) (p q : List Zone) (hp : p.length ≤ 4611686018427387904) : Contract P 26 [.sl t 5 (p.map Zone.row), .sl t' 5 (q.map Zone.row)] [] (.bool (decide (p = q))) [] := by
  refine fn_sound ((Env.nil P).add 95 t_eqZone h_eqZone) hm k_laws_eqHandZoneS (Nat.le_of_ble_eq_true rfl) rfl ?_; unfold s_laws_eqHandZoneS; simp (config := { maxSteps := 2000000 }) only [bitvec_to_nat, reduceIte, Nat.reduceEqDiff, Nat.reduceAdd, Nat.reduceLeDiff, reduceCtorEq, Nat.reduceBEq, Nat.reduceLT, Nat.reduceMod, List.forall_mem_cons, t_eqZone, tk_map, dp_map, toNat_pred, appE, rowsOf, List.take_length, List.length_cons, List.length_nil, Nat.zero_add, srow, irow, un_s, un_i, Zone.row, Zone_eta, un_Zone, Word.row, Word_eta, Own.row, Own_eta, Part.row, Part_eta, Seen.row, Seen_eta, Book.row, Book_eta, Sector.row, Sector_eta, HCraft.row, HCraft_eta, World.row, World_eta, Pt.row, Pt_eta, Aw.row, Aw_eta, Blk.row, Blk_eta, Sec.row, Sec_eta, Rw.row, Rw_eta, Sky.row, Sky_eta, un_Word, un_Own, un_Part, un_Seen, un_Book, un_Sector, un_HCraft, un_World, un_Pt, un_Aw, un_Blk, un_Sec, un_Rw, un_Sky]
  refine ⟨fun h1 h => h1 (by rw [h]), fun h1 => ?_⟩
  refine loop_st (fun i : Nat => [(5, .int .i64 i)]) (fun _ => []) (fun i => i ≤ p.length ∧ ∀ j, j < i → p.getD j default = q.getD j default) (fun i => p.length - i) (0) (by simp only [u_E0, u_E1, u_M0, u_M1, w_setE0, w_setE1, w_setM0, w_setM1, reduceIte, Nat.reduceEqDiff]; exact ⟨by repeat' (first | exact trivial | refine ⟨.inr rfl, ?_⟩), by repeat' (first | exact trivial | refine ⟨rfl, ?_⟩), by first | rfl | simp [closedB, refsIn, refsInL, refsInO, dom, refsInL_nr, *], by first | rfl | simp [keepB, dom]⟩) ?_ ?_
  · exact ⟨Nat.zero_le _, by intro j hj; omega⟩
  intro i hi NX hN
  unfold l_laws_eqHandZoneS_0; simp (config := { maxSteps := 2000000 }) only [bitvec_to_nat, reduceIte, Nat.reduceEqDiff, Nat.reduceAdd, Nat.reduceLeDiff, reduceCtorEq, Nat.reduceBEq, Nat.reduceLT, Nat.reduceMod, List.forall_mem_cons, t_eqZone, tk_map, dp_map, toNat_pred, appE, rowsOf, List.take_length, List.length_cons, List.length_nil, Nat.zero_add, srow, irow, un_s, un_i, Zone.row, Zone_eta, un_Zone, Word.row, Word_eta, Own.row, Own_eta, Part.row, Part_eta, Seen.row, Seen_eta, Book.row, Book_eta, Sector.row, Sector_eta, HCraft.row, HCraft_eta, World.row, World_eta, Pt.row, Pt_eta, Aw.row, Aw_eta, Blk.row, Blk_eta, Sec.row, Sec_eta, Rw.row, Rw_eta, Sky.row, Sky_eta, un_Word, un_Own, un_Part, un_Seen, un_Book, un_Sector, un_HCraft, un_World, un_Pt, un_Aw, un_Blk, un_Sec, un_Rw, un_Sky]
  skip
  repeat' (first | with_reducible apply And.intro | with_reducible intro _)
  all_goals first
    | omega
    | (refine hN (i + 1) _ (by simp only [u_E0, u_E1, u_M0, u_M1, w_setE0, w_setE1, w_setM0, w_setM1, reduceIte, Nat.reduceEqDiff]; exact ⟨by repeat' (first | exact trivial | refine ⟨.inr rfl, ?_⟩), by repeat' (first | exact trivial | refine ⟨rfl, ?_⟩), by first | rfl | simp [closedB, refsIn, refsInL, refsInO, dom, refsInL_nr, *], by first | rfl | simp [keepB, dom]⟩) ?_ ?_
       · exact ⟨by omega, all_snoc hi.2 (by with_reducible assumption)⟩
       · omega)
    | (intro h; subst h; exact absurd rfl (by with_reducible assumption))
    | (exact ext_of (by omega) fun j hj => hi.2 j (by omega))
    | grind
def t_eqZoneS : List AV → Option (Prop × AV)
  | [.sl ct 5 cx, .sl dt 5 dx] => some ((((cx.map unZone).map Zone.row = cx) ∧ ((dx.map unZone).map Zone.row = dx)) ∧ ((cx.map unZone).length ≤ 4611686018427387904), .bool (decide ((cx.map unZone) = (dx.map unZone))))
  | _ => none
theorem h_eqZoneS : ∀ args p v, t_eqZoneS args = some (p, v) → p → Contract P 26 args [] v [] ∧ noref v = true ∧ No99 v := by
  intro args p v h1 h2
  unfold t_eqZoneS at h1
  split at h1
  · rename_i ct cx dt dx
    cases h1
    obtain ⟨⟨e0, e1⟩, HP⟩ := h2
    have := c_eqZoneS ct dt (cx.map unZone) (dx.map unZone) HP
    exact ⟨by simpa only [e0, e1] using this, rfl, trivial⟩
  · cases h1
def mk_Zone (k : Int) : Zone := ⟨mtx (k), k + 1, k + 1 + 1, k + 1 + 1 + 1, k + 1 + 1 + 1 + 1⟩
def ms_Zone (k : Int) (n : Nat) : List Zone := (List.range n).map fun j : Nat => mk_Zone (k + 5 * (j : Int))
theorem ms_Zone_len {k : Int} {n : Nat} : (ms_Zone k n).length = n := by simp [ms_Zone]
theorem ms_Zone_get {k : Int} {n j : Nat} (h : j < n) : (ms_Zone k n).getD j default = mk_Zone (k + 5 * (j : Int)) := by simp [ms_Zone, h]
theorem setm_Zone0 {l : List Zone} {i : Nat} {v : ByteArray} : (l.map Zone.row).set i (setSeg ((l.map Zone.row).getD i []) 0 [.str v]) = (l.set i { l.getD i default with nm := v }).map Zone.row :=
  set_rows (α := Zone) (f := Zone.row) (fun s => { s with nm := v }) fun x => by simp [Zone.row, setSeg]
theorem setm_Zone1 {l : List Zone} {i : Nat} {v : Int} : (l.map Zone.row).set i (setSeg ((l.map Zone.row).getD i []) 1 [.int .i64 v]) = (l.set i { l.getD i default with x0 := v }).map Zone.row :=
  set_rows (α := Zone) (f := Zone.row) (fun s => { s with x0 := v }) fun x => by simp [Zone.row, setSeg]
theorem setm_Zone2 {l : List Zone} {i : Nat} {v : Int} : (l.map Zone.row).set i (setSeg ((l.map Zone.row).getD i []) 2 [.int .i64 v]) = (l.set i { l.getD i default with y0 := v }).map Zone.row :=
  set_rows (α := Zone) (f := Zone.row) (fun s => { s with y0 := v }) fun x => by simp [Zone.row, setSeg]
theorem setm_Zone3 {l : List Zone} {i : Nat} {v : Int} : (l.map Zone.row).set i (setSeg ((l.map Zone.row).getD i []) 3 [.int .i64 v]) = (l.set i { l.getD i default with x1 := v }).map Zone.row :=
  set_rows (α := Zone) (f := Zone.row) (fun s => { s with x1 := v }) fun x => by simp [Zone.row, setSeg]
theorem setm_Zone4 {l : List Zone} {i : Nat} {v : Int} : (l.map Zone.row).set i (setSeg ((l.map Zone.row).getD i []) 4 [.int .i64 v]) = (l.set i { l.getD i default with y1 := v }).map Zone.row :=
  set_rows (α := Zone) (f := Zone.row) (fun s => { s with y1 := v }) fun x => by simp [Zone.row, setSeg]
set_option maxHeartbeats 1000000 in
theorem c_markZoneS (v : Nat) (k : Int) (a : List Zone) (ha : a.length ≤ 1048577) (hk : 0 ≤ k ∧ k ≤ 1125899906842624) : Contract P 28 [.own 3 v 0 a.length, .int .i64 k] [(3, .arr 134 v 5 (a.map Zone.row))] (.int .i64 (k + 5 * a.length)) [(3, .arr 134 v 5 ((ms_Zone k a.length).map Zone.row))] := by
  have hz : ((0 : Nat) : Int) = 0 := rfl
  have gs : True := trivial
  refine fn_sound ((Env.nil P).add 100 t_markText h_markText) hm k_laws_markHandZoneS (Nat.le_of_ble_eq_true rfl) rfl ?_; unfold s_laws_markHandZoneS; simp (config := { maxSteps := 2000000 }) only [bitvec_to_nat, reduceIte, Nat.reduceEqDiff, Nat.reduceAdd, Nat.reduceLeDiff, reduceCtorEq, Nat.reduceBEq, Nat.reduceLT, Nat.reduceMod, List.forall_mem_cons, retG_ret, retQ_eq, retQ_eqN, retOk, keepB, re_tupl, orr_t, t_markText, setm_Zone0, setm_Zone1, setm_Zone2, setm_Zone3, setm_Zone4, List.set_set, gs, Zone.row, irow, srow, Int.toNat_natCast, List.length_map, List.length_set, Nat.sub_zero, Nat.zero_add, hz]
  refine loop_st (fun b : Nat × List Zone => [(1, .int .i64 (k + 5 * b.1)), (5, .int .i64 b.1)]) (fun b => [(3, .arr 134 v 5 (b.2.map Zone.row))]) (fun b => b.2.length = a.length ∧ b.1 ≤ a.length ∧ ∀ j, j < b.1 → b.2.getD j default = mk_Zone (k + 5 * (j : Int))) (fun b => a.length - b.1) (0, a) ?_ ⟨rfl, Nat.zero_le _, fun j hj => absurd hj (Nat.not_lt_zero _)⟩ ?_
  · have e0 : k + 5 * ((0 : Nat) : Int) = k := by omega
    simp only [e0]
    simp only [u_E0, u_E1, u_M0, u_M1, w_setE0, w_setE1, w_setM0, w_setM1, reduceIte, Nat.reduceEqDiff]; exact ⟨by repeat' (first | exact trivial | refine ⟨.inr rfl, ?_⟩), by repeat' (first | exact trivial | refine ⟨rfl, ?_⟩), by first | rfl | simp [closedB, refsIn, refsInL, refsInO, dom, refsInL_nr, *], by first | rfl | simp [keepB, dom]⟩
  rintro ⟨i, l⟩ ⟨h1, h2, h3⟩ NX hN
  simp only at h1 h2 h3
  have gs : i < a.length → ∀ x : Zone, (l.set i x).getD i default = x := fun h x => getD_seti' (by omega)
  by_cases hi : i < a.length
  · have gs := gs hi
    have e5 : k + 5 * ((i + 1 : Nat) : Int) = k + 5 * (i : Int) + 1 + 1 + 1 + 1 + 1 := by omega
    unfold l_laws_markHandZoneS_0; simp (config := { maxSteps := 2000000 }) only [bitvec_to_nat, reduceIte, Nat.reduceEqDiff, Nat.reduceAdd, Nat.reduceLeDiff, reduceCtorEq, Nat.reduceBEq, Nat.reduceLT, Nat.reduceMod, List.forall_mem_cons, retG_ret, retQ_eq, retQ_eqN, retOk, keepB, re_tupl, orr_t, t_markText, setm_Zone0, setm_Zone1, setm_Zone2, setm_Zone3, setm_Zone4, List.set_set, gs, Zone.row, irow, srow, Int.toNat_natCast, List.length_map, List.length_set, Nat.sub_zero, Nat.zero_add, hz]
    repeat' (first | with_reducible apply And.intro | with_reducible intro _)
    all_goals first
      | omega
      | (refine hN (i + 1, l.set i (mk_Zone (k + 5 * (i : Int)))) _ (by simp only [e5]; simp only [u_E0, u_E1, u_M0, u_M1, w_setE0, w_setE1, w_setM0, w_setM1, reduceIte, Nat.reduceEqDiff]; exact ⟨by repeat' (first | exact trivial | refine ⟨.inr rfl, ?_⟩), by repeat' (first | exact trivial | refine ⟨rfl, ?_⟩), by first | rfl | simp [closedB, refsIn, refsInL, refsInO, dom, refsInL_nr, *], by first | rfl | simp [keepB, dom]⟩) ⟨by simp only [List.length_set]; exact h1, hi, fun j hj => ?_⟩ (by simp only; omega)
         simp only at hj ⊢
         by_cases e : j = i
         · subst e; exact getD_seti' (by omega)
         · rw [getD_setn' (Ne.symm e)]; exact h3 j (by omega))
      | (exfalso; omega)
  · have hl : l = ms_Zone k a.length := ext_of (by rw [ms_Zone_len]; exact h1) fun j hj => by rw [ms_Zone_get (by omega)]; exact h3 j (by omega)
    have hi' : ¬ (i : Int) < a.length := by omega
    unfold l_laws_markHandZoneS_0; simp (config := { maxSteps := 2000000 }) only [bitvec_to_nat, reduceIte, Nat.reduceEqDiff, Nat.reduceAdd, Nat.reduceLeDiff, reduceCtorEq, Nat.reduceBEq, Nat.reduceLT, Nat.reduceMod, List.forall_mem_cons, retG_ret, retQ_eq, retQ_eqN, retOk, keepB, re_tupl, orr_t, t_markText, setm_Zone0, setm_Zone1, setm_Zone2, setm_Zone3, setm_Zone4, List.set_set, gs, Zone.row, irow, srow, Int.toNat_natCast, List.length_map, List.length_set, Nat.sub_zero, Nat.zero_add, hz, hi']
    refine ⟨by omega, ?_⟩
    rw [hl]
set_option maxHeartbeats 1000000 in
theorem c_heldZoneS (t : Nat) (k : Int) (n : Nat) (ha : n ≤ 1048577) (hk : 0 ≤ k ∧ k ≤ 1125899906842624) : Contract P 29 [.sl t 5 ((ms_Zone k n).map Zone.row), .int .i64 k] [] (.int .i64 (k + 5 * n)) [] := by
  have hz : ((0 : Nat) : Int) = 0 := rfl
  refine fn_sound ((Env.nil P).add 100 t_markText h_markText) hm k_laws_heldHandZoneS (Nat.le_of_ble_eq_true rfl) rfl ?_; unfold s_laws_heldHandZoneS; simp (config := { maxSteps := 2000000 }) only [bitvec_to_nat, reduceIte, Nat.reduceEqDiff, Nat.reduceAdd, Nat.reduceLeDiff, reduceCtorEq, Nat.reduceBEq, Nat.reduceLT, Nat.reduceMod, List.forall_mem_cons, t_markText, Zone.row, Zone_eta, irow, srow, Int.toNat_natCast, List.length_map, Nat.sub_zero, Nat.zero_add, hz, eq_self, ms_Zone_len]
  refine loop_st (fun i : Nat => [(1, .int .i64 (k + 5 * i)), (5, .int .i64 i)]) (fun _ => []) (fun i => i ≤ n) (fun i => n - i) 0 ?_ (Nat.zero_le _) ?_
  · have e0 : k + 5 * ((0 : Nat) : Int) = k := by omega
    simp only [e0]
    simp only [u_E0, u_E1, u_M0, u_M1, w_setE0, w_setE1, w_setM0, w_setM1, reduceIte, Nat.reduceEqDiff]; exact ⟨by repeat' (first | exact trivial | refine ⟨.inr rfl, ?_⟩), by repeat' (first | exact trivial | refine ⟨rfl, ?_⟩), by first | rfl | simp [closedB, refsIn, refsInL, refsInO, dom, refsInL_nr, *], by first | rfl | simp [keepB, dom]⟩
  intro i hi NX hN
  have e5 : k + 5 * ((i + 1 : Nat) : Int) = k + 5 * (i : Int) + 1 + 1 + 1 + 1 + 1 := by omega
  by_cases h : i < n
  · have hg := ms_Zone_get (k := k) h
    have h' : (i : Int) < n := by omega
    unfold l_laws_heldHandZoneS_0; simp (config := { maxSteps := 2000000 }) only [bitvec_to_nat, reduceIte, Nat.reduceEqDiff, Nat.reduceAdd, Nat.reduceLeDiff, reduceCtorEq, Nat.reduceBEq, Nat.reduceLT, Nat.reduceMod, List.forall_mem_cons, t_markText, Zone.row, Zone_eta, irow, srow, Int.toNat_natCast, List.length_map, Nat.sub_zero, Nat.zero_add, hz, eq_self, ms_Zone_len, h', hg, mk_Zone, not_true_eq_false, ne_eq, bne_self_eq_false]
    repeat' (first | with_reducible apply And.intro | with_reducible intro _)
    all_goals first
      | omega
      | rfl
      | (rename_i h; exact absurd rfl h)
      | (refine hN (i + 1) _ (by simp only [e5]; simp only [u_E0, u_E1, u_M0, u_M1, w_setE0, w_setE1, w_setM0, w_setM1, reduceIte, Nat.reduceEqDiff]; exact ⟨by repeat' (first | exact trivial | refine ⟨.inr rfl, ?_⟩), by repeat' (first | exact trivial | refine ⟨rfl, ?_⟩), by first | rfl | simp [closedB, refsIn, refsInL, refsInO, dom, refsInL_nr, *], by first | rfl | simp [keepB, dom]⟩) ?_ ?_ <;> omega)
  · have h' : ¬ (i : Int) < n := by omega
    unfold l_laws_heldHandZoneS_0; simp (config := { maxSteps := 2000000 }) only [bitvec_to_nat, reduceIte, Nat.reduceEqDiff, Nat.reduceAdd, Nat.reduceLeDiff, reduceCtorEq, Nat.reduceBEq, Nat.reduceLT, Nat.reduceMod, List.forall_mem_cons, t_markText, Zone.row, Zone_eta, irow, srow, Int.toNat_natCast, List.length_map, Nat.sub_zero, Nat.zero_add, hz, eq_self, ms_Zone_len, h']
    omega
theorem c_markNZoneS (t : Nat) (k : Int) : Contract P 28 [.sl t 5 [], .int .i64 k] [] (.int .i64 k) [] := by
  refine fn_sound ((Env.nil P).add 100 t_markText h_markText) hm k_laws_markHandZoneS (Nat.le_of_ble_eq_true rfl) rfl ?_; unfold s_laws_markHandZoneS; simp (config := { maxSteps := 2000000 }) only [bitvec_to_nat, reduceIte, Nat.reduceEqDiff, Nat.reduceAdd, Nat.reduceLeDiff, reduceCtorEq, Nat.reduceBEq, Nat.reduceLT, Nat.reduceMod, List.forall_mem_cons, t_markText, List.map_nil, List.length_nil]
  refine loop_st (fun _ : Nat => [(5, .int .i64 0)]) (fun _ => []) (fun _ => True) (fun i => i) 0 (by simp only [u_E0, u_E1, u_M0, u_M1, w_setE0, w_setE1, w_setM0, w_setM1, reduceIte, Nat.reduceEqDiff]; exact ⟨by repeat' (first | exact trivial | refine ⟨.inr rfl, ?_⟩), by repeat' (first | exact trivial | refine ⟨rfl, ?_⟩), by first | rfl | simp [closedB, refsIn, refsInL, refsInO, dom, refsInL_nr, *], by first | rfl | simp [keepB, dom]⟩) trivial ?_
  intro i _ NX hN
  unfold l_laws_markHandZoneS_0; simp (config := { maxSteps := 2000000 }) only [bitvec_to_nat, reduceIte, Nat.reduceEqDiff, Nat.reduceAdd, Nat.reduceLeDiff, reduceCtorEq, Nat.reduceBEq, Nat.reduceLT, Nat.reduceMod, List.forall_mem_cons, t_markText, List.map_nil, List.length_nil]
  first
    | exact fun h => absurd h (by omega)
    | exact ⟨fun h => absurd h (by omega), fun _ => by first | trivial | rfl⟩
end
end Go.Ve

namespace Go.Ve
noncomputable section
open Go.Proofs
set_option linter.unusedSimpArgs false
set_option linter.unusedVariables false
set_option maxRecDepth 100000
theorem Contract.post_eq {f : FuncId} {args : List AV} {pre post post' : List (Nat × AObj)} {r : AV} (h : Contract P f args pre r post) (e : getM post' = getM post) : Contract P f args pre r post' := by
  unfold Contract at h ⊢
  rw [e]; exact h
theorem skyM_ren {s : Sky} {a b c d kA kS kA' kS' : Nat} {σ : Nat → Nat} (hA : ∀ i, σ (fam kA i) = fam kA' i) (hS : ∀ i, σ (fam kS i) = fam kS' i) : renM σ (skyM s a b c d kA kS) = skyM s (σ a) (σ b) (σ c) (σ d) kA' kS' := by
  have eA : (fA kA s).map (NRow.ren σ) = fA kA' s := by
    refine List.ext_getElem (by simp [fA, nfam]) fun i h1 h2 => ?_
    simp [fA, nfam, NRow.ren, hA, renO]
  have eS : (fS kS s).map (NRow.ren σ) = fS kS' s := by
    refine List.ext_getElem (by simp [fS, nfam]) fun i h1 h2 => ?_
    simp [fS, nfam, NRow.ren, hS, renO]
  simp only [skyM, renM, renO, renM_app, renM_nobjs, eA, eS, renRows]
  rfl
theorem skyV_ren {s : Sky} {a b c d : Nat} {σ : Nat → Nat} : ren σ (skyV s a b c d) = skyV s (σ a) (σ b) (σ c) (σ d) := by simp only [skyV, ren, renL]
/-- The sky that the law holds. -/
abbrev K0 (s : Sky) : List (Nat × AObj) := skyM s 611 613 614 612 107 108
theorem K0_self (s : Sky) : ∀ p ∈ K0 s, getM (K0 s) p.1 = some p.2 := sky_self (by omega) (by omega) (by omega) (by omega) (by omega) (by omega) (by omega) (by omega) (by omega) (by omega) (by omega) (by omega) (by omega)
theorem K0_keys (s : Sky) : ∀ p ∈ K0 s, p.1 = 611 ∨ p.1 = 613 ∨ p.1 = 614 ∨ p.1 = 612 ∨ 1000 ≤ p.1 := by
  intro p hp
  simp only [K0, skyM, List.mem_cons, List.mem_append] at hp
  rcases hp with rfl | rfl | rfl | rfl | hp | hp
  · simp
  · simp
  · simp
  · simp
  · exact .inr (.inr (.inr (.inr (bigs_nfam p hp))))
  · exact .inr (.inr (.inr (.inr (bigs_nfam p hp))))
theorem K0_pw (s : Sky) : (K0 s).Pairwise fun a b => a.1 ≠ b.1 := by
  have big : ∀ p ∈ nobjs (fA 107 s) ++ nobjs (fS 108 s), 1000 ≤ p.1 := fun p hp => (List.mem_append.1 hp).elim (bigs_nfam p) (bigs_nfam p)
  simp only [K0, skyM, List.pairwise_cons, List.mem_cons]
  refine ⟨?_, ?_, ?_, ?_, ?_⟩
  · rintro p (rfl | rfl | rfl | hp)
    · simp
    · simp
    · simp
    · have := big p hp; (try simp only); omega
  · rintro p (rfl | rfl | hp)
    · simp
    · simp
    · have := big p hp; (try simp only); omega
  · rintro p (rfl | hp)
    · simp
    · have := big p hp; (try simp only); omega
  · rintro p hp
    have := big p hp; (try simp only); omega
  · rw [List.pairwise_append]
    refine ⟨nfam_pw, nfam_pw, fun p hp q hq e => ?_⟩
    obtain ⟨i, _, rfl⟩ := nfam_at hp
    obtain ⟨j, _, rfl⟩ := nfam_at hq
    simp only [fam] at e; omega
theorem gSky {s : Sky} {B : List (Nat × AObj)} {o : Nat} (h : o < 611) : getM (K0 s ++ B) o = getM B o := getM_app_none (by
  cases hg : getM (K0 s) o with
  | none => rfl
  | some x => have := K0_keys s _ (getM_mem hg); simp only at this; omega)
theorem gSky' {s : Sky} {B : List (Nat × AObj)} {o : Nat} (h : 614 < o) (h2 : o < 1000) : getM (K0 s ++ B) o = getM B o := getM_app_none (by
  cases hg : getM (K0 s) o with
  | none => rfl
  | some x => have := K0_keys s _ (getM_mem hg); simp only at this; omega)
theorem sSky {s : Sky} {B : List (Nat × AObj)} {o : Nat} {x : AObj} (h : o < 611) : setM (K0 s ++ B) o x = K0 s ++ setM B o x := setM_app (by have := gSky (s := s) (B := []) h; simpa [getM] using this)
theorem sSky' {s : Sky} {B : List (Nat × AObj)} {o : Nat} {x : AObj} (h : 614 < o) (h2 : o < 1000) : setM (K0 s ++ B) o x = K0 s ++ setM B o x := setM_app (by have := gSky' (s := s) (B := []) h h2; simpa [getM] using this)
theorem getM_gone_none {l : List (Nat × AObj)} {o : Nat} (h : getM l o = none) : getM (gone l) o = none := by rw [getM_gone, h]; rfl
theorem gG {s : Sky} {B : List (Nat × AObj)} {o : Nat} (h : o < 611) : getM (gone (K0 s) ++ B) o = getM B o := getM_app_none (getM_gone_none (by have := gSky (s := s) (B := []) h; simpa [getM] using this))
theorem gG' {s : Sky} {B : List (Nat × AObj)} {o : Nat} (h : 614 < o) (h2 : o < 1000) : getM (gone (K0 s) ++ B) o = getM B o := getM_app_none (getM_gone_none (by have := gSky' (s := s) (B := []) h h2; simpa [getM] using this))
theorem sG {s : Sky} {B : List (Nat × AObj)} {o : Nat} {x : AObj} (h : o < 611) : setM (gone (K0 s) ++ B) o x = gone (K0 s) ++ setM B o x := setM_app (by have := gG (s := s) (B := []) h; simpa [getM] using this)
theorem sG' {s : Sky} {B : List (Nat × AObj)} {o : Nat} {x : AObj} (h : 614 < o) (h2 : o < 1000) : setM (gone (K0 s) ++ B) o x = gone (K0 s) ++ setM B o x := setM_app (by have := gG' (s := s) (B := []) h h2; simpa [getM] using this)
theorem sSky0 {s : Sky} {o : Nat} {x : AObj} (h : o < 611) : setM (K0 s) o x = K0 s ++ [(o, x)] := by
  have := sSky (s := s) (B := []) (x := x) h
  simpa [setM] using this
theorem gSky0 {s : Sky} {o : Nat} (h : o < 611) : getM (K0 s) o = none := by
  have := gSky (s := s) (B := []) h
  simpa [getM] using this
theorem gs1 {s : Sky} {B : List (Nat × AObj)} : getM (K0 s ++ B) 611 = some (.arr 103 0 3 (s.pts.map Pt.row)) := rfl
theorem gs2 {s : Sky} {B : List (Nat × AObj)} : getM (K0 s ++ B) 613 = some (.arr (1000000 + 108) 0 2 ((fA 107 s).map NRow.row)) := rfl
theorem gs3 {s : Sky} {B : List (Nat × AObj)} : getM (K0 s ++ B) 614 = some (.arr (1000000 + 111) 0 2 ((fS 108 s).map NRow.row)) := rfl
theorem gs4 {s : Sky} {B : List (Nat × AObj)} : getM (K0 s ++ B) 612 = some (.arr 118 0 4 (s.rws.map Rw.row)) := rfl
theorem K0_in {s : Sky} {A B : List (Nat × AObj)} (hA : ∀ p ∈ A, p.1 < 611) : ∀ p ∈ K0 s, getM (A ++ (K0 s ++ B)) p.1 = some p.2 := fun p hp => by
  rw [getM_app_none, getM_app_some (K0_self s p hp)]
  cases hg : getM A p.1 with
  | none => rfl
  | some x => have := hA _ (getM_mem hg); have := K0_keys s p hp; simp only at *; omega
theorem K0_in1 {s : Sky} {x : AObj} {B : List (Nat × AObj)} : ∀ p ∈ K0 s, getM ((101, x) :: (K0 s ++ B)) p.1 = some p.2 := K0_in (A := [(101, x)]) (by simp)
theorem apNew {s : Sky} {A : List (Nat × AObj)} (hA : ∀ p ∈ A, p.1 < 611) : applyU A (K0 s).reverse = A ++ (K0 s ++ []) := by
  rw [aU, List.reverse_reverse, List.append_nil]
  · intro p hp
    cases hg : getM A p.1 with
    | none => rfl
    | some x => have := hA _ (getM_mem hg); have := K0_keys s p (List.mem_reverse.1 hp); simp only at *; omega
  · rw [List.pairwise_reverse]
    exact (K0_pw s).imp fun h => Ne.symm h
theorem apGone {s : Sky} {A B : List (Nat × AObj)} (hA : ∀ p ∈ A, p.1 < 611) : applyU (A ++ (K0 s ++ B)) (gone (K0 s)) = A ++ (gone (K0 s) ++ B) := by
  rw [aSkip, aOver (K0_pw s)]
  intro p hp
  obtain ⟨q, hq, rfl⟩ := List.mem_map.1 hp
  cases hg : getM A q.1 with
  | none => rfl
  | some x => have := hA _ (getM_mem hg); have := K0_keys s q hq; simp only at *; omega
theorem kG {s : Sky} {B : List (Nat × AObj)} : keepB (gone (K0 s) ++ B) [] = keepB B [] := by
  have h : keepB (gone (K0 s)) [] = true := keep_of fun p hp => by
    obtain ⟨q, hq, rfl⟩ := List.mem_map.1 hp
    left
    simp only [K0, skyM, List.mem_cons, List.mem_append] at hq
    rcases hq with rfl | rfl | rfl | rfl | hq | hq
    · simp
    · simp
    · simp
    · simp
    · exact big100_nfam (by omega) (by omega) q hq
    · exact big100_nfam (by omega) (by omega) q hq
  unfold keepB at h ⊢
  rw [dom_app, List.all_append, h, Bool.true_and]
theorem apK1 {s : Sky} {x : AObj} {B : List (Nat × AObj)} : applyU ((101, x) :: (K0 s ++ B)) (K0 s) = (101, x) :: (K0 s ++ B) := aKeep K0_in1
theorem apNew1 {s : Sky} {x : AObj} : applyU [(101, x)] (K0 s).reverse = (101, x) :: (K0 s ++ []) := apNew (A := [(101, x)]) (by simp)
theorem apG1 {s : Sky} {x : AObj} {B : List (Nat × AObj)} : applyU ((101, x) :: (K0 s ++ B)) (gone (K0 s)) = (101, x) :: (gone (K0 s) ++ B) := apGone (A := [(101, x)]) (by simp)
theorem K0r_new {s : Sky} {A : List (Nat × AObj)} (hA : ∀ p ∈ A, p.1 < 611) : ∀ p ∈ (K0 s).reverse, getM A p.1 = none := by
  intro p hp
  cases hg : getM A p.1 with
  | none => rfl
  | some x => have := hA _ (getM_mem hg); have := K0_keys s p (List.mem_reverse.1 hp); simp only at *; omega
theorem dom_rev {l : List (Nat × AObj)} : dom l.reverse = (dom l).reverse := by simp [dom]
theorem K0r_refV {s : Sky} : refsIn (dom (K0 s).reverse) (skyV s 611 613 614 612) = true := by
  rw [dom_rev, K0, sky_dom]; simp [skyV, refsIn, refsInL]
theorem K0r_refs {s : Sky} : ((K0 s).reverse.all fun p => refsInO (dom (K0 s).reverse) p.2) = true := by
  rw [List.all_reverse, dom_rev, K0, sky_dom]
  simp only [skyM, List.all_cons, List.all_append, Bool.and_eq_true]
  refine ⟨rfl, ?_, ?_, rfl, refsO_nfam (by omega), refsO_nfam (by omega)⟩
  · simp only [refsInO]
    rw [if_neg (by omega)]
    refine refs_rows fun r hr => ?_
    simp only [List.contains_iff_mem, List.mem_reverse, List.mem_cons, List.mem_append, List.mem_map]
    exact .inr (.inr (.inr (.inr (.inl ⟨r, hr, rfl⟩))))
  · simp only [refsInO]
    rw [if_neg (by omega)]
    refine refs_rows fun r hr => ?_
    simp only [List.contains_iff_mem, List.mem_reverse, List.mem_cons, List.mem_append, List.mem_map]
    exact .inr (.inr (.inr (.inr (.inr ⟨r, hr, rfl⟩))))
theorem K0_99 {s : Sky} : ∀ p ∈ (K0 s).reverse, No99O p.2 := by
  intro p hp
  have hp := List.mem_reverse.1 hp
  simp only [K0, skyM, List.mem_cons, List.mem_append] at hp
  rcases hp with rfl | rfl | rfl | rfl | hp | hp
  · exact no99_Pt _
  · exact no99_NRow _
  · exact no99_NRow _
  · exact no99_Rw _
  · exact awP_99 s p _ hp
  · exact secP_99 s p _ hp
theorem K0_ref2 {s : Sky} {k : Int} : refsInL (dom (K0 s)) [skyV s 611 613 614 612, .int .i64 k] = true := by
  simp only [refsInL, sky_refV, refsIn, Bool.and_self]
theorem toSkyK (s : Sky) (hs : s.small) : Contract P 14 [.agg (s.row 1)] [] (skyV s 611 613 614 612) (K0 s).reverse :=
  (c_toSkyO s hs).post_eq (funext fun o => getM_rev (K0_pw s) o)
theorem markSkyK (k : Int) (s : Sky) (hs : s.small) (hk : 0 ≤ k ∧ k ≤ 1000000) : Contract P 27 [skyV s 611 613 614 612, .int .i64 k] (K0 s) (.int .i64 (k + cntSky s)) (gone (K0 s)) := by
  have h := ((((((g_markSky k s hs hk).ren (swp 3 611) (swp_swp _ _)).ren (swp 4 613) (swp_swp _ _)).ren (swp 5 614) (swp_swp _ _)).ren (swp 6 612) (swp_swp _ _)).ren (swpF 7 107) (swpF_swpF (by omega) (by omega))).ren (swpF 8 108) (swpF_swpF (by omega) (by omega))
  simp only [renM_gone, renL, skyV_ren, ren] at h
  rw [skyM_ren (kA' := 7) (kS' := 8) (fun i => swp_fam (by omega) (by omega)) (fun i => swp_fam (by omega) (by omega)),
    skyM_ren (kA' := 7) (kS' := 8) (fun i => swp_fam (by omega) (by omega)) (fun i => swp_fam (by omega) (by omega)),
    skyM_ren (kA' := 7) (kS' := 8) (fun i => swp_fam (by omega) (by omega)) (fun i => swp_fam (by omega) (by omega)),
    skyM_ren (kA' := 7) (kS' := 8) (fun i => swp_fam (by omega) (by omega)) (fun i => swp_fam (by omega) (by omega)),
    skyM_ren (kA' := 107) (kS' := 8) (fun i => swpF_fam (by omega)) (fun i => swpF_ne (by omega) (by omega) (by omega)),
    skyM_ren (kA' := 107) (kS' := 108) (fun i => swpF_ne (by omega) (by omega) (by omega)) (fun i => swpF_fam (by omega))] at h
  exact h
theorem eqSkyC (s : Sky) (hs : s.small) : Contract P 16 [.agg (s.row 0), .agg (s.row 0)] [] (.bool true) [] := by
  have h := c_eqSky s s (by have := hs; unfold Sky.small at this; exact ⟨by omega, by omega, by omega, by omega, this.2.1.2, this.2.2.1.2⟩)
  simpa using h
end
end Go.Ve

namespace Go.Ve
noncomputable section
open Go.Proofs
set_option linter.unusedSimpArgs false
set_option linter.unusedVariables false
set_option maxRecDepth 100000
theorem c_szStringS (t : Nat) (l : List ByteArray) (a : Int) (ha : 0 ≤ a ∧ a ≤ 1048576) (hl : l.length ≤ 9223372036854775807 ∧ ∀ y ∈ l, y.toList.length ≤ 9223372036854775807) : Contract P 39 [.sl t 1 (l.map srow), .int .i64 a] [] (.int .i64 (szS szStr l a)) [] := by
  refine fn_sound (Env.nil P) hm k_laws_szStringS (Nat.le_of_ble_eq_true rfl) rfl ?_; unfold s_laws_szStringS; simp (config := { maxSteps := 2000000 }) only [bitvec_to_nat, reduceIte, Nat.reduceEqDiff, Nat.reduceAdd, Nat.reduceLeDiff, reduceCtorEq, Nat.reduceBEq, Nat.reduceLT, Nat.reduceMod, List.forall_mem_cons, srow, un_s, List.take_zero, List.foldl_nil]
  have hz : szOf a l.length = if a - l.length < 0 then -1 else a - l.length := rfl
  refine ⟨by omega, fun h1 => ?_, fun h1 => ?_⟩
  · unfold szS
    rw [(fold_meas meas_str l _ (by omega) (by omega)).2.1 (by omega)]
  have e0 : szOf a l.length = a - l.length := if_neg h1
  refine loop_st (fun i : Nat => [(1, .int .i64 ((l.take i).foldl (fun a x => szStr x a) (a - l.length))), (5, .int .i64 i)]) (fun _ => []) (fun i => i ≤ l.length ∧ 0 ≤ (l.take i).foldl (fun a x => szStr x a) (a - l.length)) (fun i => l.length - i) (0) (by simp only [u_E0, u_E1, u_M0, u_M1, w_setE0, w_setE1, w_setM0, w_setM1, reduceIte, Nat.reduceEqDiff]; exact ⟨by repeat' (first | exact trivial | refine ⟨.inr rfl, ?_⟩), by repeat' (first | exact trivial | refine ⟨rfl, ?_⟩), by first | rfl | simp [closedB, refsIn, refsInL, refsInO, dom, refsInL_nr, *], by first | rfl | simp [keepB, dom]⟩) ?_ ?_
  · simp only [List.take_zero, List.foldl_nil]; omega
  intro i hi NX hN
  unfold l_laws_szStringS_0; simp (config := { maxSteps := 2000000 }) only [bitvec_to_nat, reduceIte, Nat.reduceEqDiff, Nat.reduceAdd, Nat.reduceLeDiff, reduceCtorEq, Nat.reduceBEq, Nat.reduceLT, Nat.reduceMod, List.forall_mem_cons, srow, un_s, List.take_zero, List.foldl_nil]
  have hm := (fold_meas meas_str (l.take i) (a - l.length) (by omega) (by omega)).2.2
  have hg : i < l.length → (l.getD i default).toList.length ≤ 9223372036854775807 := fun h => hl.2 _ (getD_mem' h)
  have hn : i < l.length → (l.take (i + 1)).foldl (fun a x => szStr x a) (a - l.length) = szStr (l.getD i default) ((l.take i).foldl (fun a x => szStr x a) (a - l.length)) := fun h => fold_take h
  have hs : i < l.length → szStr (l.getD i default) ((l.take i).foldl (fun a x => szStr x a) (a - l.length)) < 0 → szS szStr l a = -1 := fun h h2 => by unfold szS; rw [e0]; exact fold_stop meas_str h (by omega) (by omega) h2
  have hd : szStr (l.getD i default) ((l.take i).foldl (fun a x => szStr x a) (a - l.length)) = if ((l.take i).foldl (fun a x => szStr x a) (a - l.length)) - ((l.getD i default).toList.length : Nat) < 0 then -1 else ((l.take i).foldl (fun a x => szStr x a) (a - l.length)) - ((l.getD i default).toList.length : Nat) := rfl
  refine ⟨fun h2 => ⟨by omega, by omega, by omega, fun h3 => by rw [hs (by omega) (by omega)], fun h3 => ⟨by omega, ?_⟩⟩, fun h2 => ?_⟩
  · have e := hn (by omega)
    rw [hd, if_neg h3] at e
    refine hN (i + 1) _ (by simp only [e, List.length_append, List.length_cons, List.length_nil, Nat.zero_add, List.map_append, List.map_cons, List.map_nil, u_E0, u_E1, u_M0, u_M1, w_setE0, w_setE1, w_setM0, w_setM1, reduceIte, Nat.reduceEqDiff]; exact ⟨by repeat' (first | exact trivial | refine ⟨.inr rfl, ?_⟩), by repeat' (first | exact trivial | refine ⟨rfl, ?_⟩), by first | rfl | simp [closedB, refsIn, refsInL, refsInO, dom, refsInL_nr, *], by first | rfl | simp [keepB, dom]⟩) ?_ ?_
    · exact ⟨by omega, by omega⟩
    · omega
  · have e : i = l.length := by omega
    subst e
    simp only [List.take_length]; unfold szS; rw [e0]
def t_szStringS : List AV → Option (Prop × AV)
  | [.sl lt 1 lx, .int .i64 b] => some ((((lx.map unS).map srow = lx)) ∧ ((0 ≤ b ∧ b ≤ 1048576) ∧ ((lx.map unS).length ≤ 9223372036854775807 ∧ ∀ y ∈ (lx.map unS), y.toList.length ≤ 9223372036854775807)), .int .i64 (szS szStr (lx.map unS) b))
  | _ => none
theorem h_szStringS : ∀ args p v, t_szStringS args = some (p, v) → p → Contract P 39 args [] v [] ∧ noref v = true ∧ No99 v := by
  intro args p v h1 h2
  unfold t_szStringS at h1
  split at h1
  · rename_i lt lx b
    cases h1
    obtain ⟨e0, HP⟩ := h2
    have := c_szStringS lt (lx.map unS) b HP.1 HP.2
    exact ⟨by simpa only [e0] using this, rfl, trivial⟩
  · cases h1
theorem c_szBlkS (t sz : Nat) (xs : List (List AV)) (a : Int) (hp : (0 ≤ a ∧ a ≤ 1048576) ∧ xs.length ≤ 9223372036854775807) : Contract P 157 [.sl t sz xs, .int .i64 a] [] (.int .i64 (szOf a xs.length)) [] := by
  refine fn_sound (Env.nil P) hm k_laws_szSkyBlockS (Nat.le_of_ble_eq_true rfl) rfl ?_; unfold s_laws_szSkyBlockS; simp (config := { maxSteps := 2000000 }) only [bitvec_to_nat, reduceIte, Nat.reduceEqDiff, Nat.reduceAdd, Nat.reduceLeDiff, reduceCtorEq, Nat.reduceBEq, Nat.reduceLT, Nat.reduceMod, List.forall_mem_cons]
  refine ⟨by omega, fun h1 => ?_, fun h1 => ?_⟩
  · unfold szOf; rw [if_pos h1]
  · unfold szOf; rw [if_neg h1]
def t_szBlkS : List AV → Option (Prop × AV)
  | [.sl t sz xs, .int .i64 a] => some ((0 ≤ a ∧ a ≤ 1048576) ∧ xs.length ≤ 9223372036854775807, .int .i64 (szOf a xs.length))
  | _ => none
theorem h_szBlkS : ∀ args p v, t_szBlkS args = some (p, v) → p → Contract P 157 args [] v [] ∧ noref v = true ∧ No99 v := by
  intro args p v h1 h2
  unfold t_szBlkS at h1
  split at h1
  · cases h1; exact ⟨c_szBlkS _ _ _ _ h2, rfl, trivial⟩
  · cases h1
theorem c_szPt (s : Pt) (a : Int) (ha : 0 ≤ a ∧ a ≤ 1048576) (hs : s.fitp) : Contract P 118 [.agg s.row, .int .i64 a] [] (.int .i64 (s.sz a)) [] := by
  unfold Pt.fitp at hs
  simp only [Pt.row]
  refine fn_sound (Env.nil P) hm k_laws_szSkyPoint (Nat.le_of_ble_eq_true rfl) rfl ?_; unfold s_laws_szSkyPoint; simp (config := { maxSteps := 2000000 }) only [bitvec_to_nat, reduceIte, Nat.reduceEqDiff, Nat.reduceAdd, Nat.reduceLeDiff, reduceCtorEq, Nat.reduceBEq, Nat.reduceLT, Nat.reduceMod, List.forall_mem_cons, tk_map, dp_map, toNat_pred, appE, rowsOf, List.take_length, List.length_cons, List.length_nil, Nat.zero_add, srow, irow, un_s, un_i, Pt.row, Pt_eta, Aw.row, Aw_eta, Blk.row, Blk_eta, Sec.row, Sec_eta, Rw.row, Rw_eta, Sky.row, Sky_eta, un_Pt, un_Aw, un_Blk, un_Sec, un_Rw, un_Sky]
  unfold Pt.sz
  repeat' (first | with_reducible apply And.intro | with_reducible intro _)
  all_goals first | omega | (exact hs) | (exact hs.1) | (exact hs.2.1) | (exact hs.2.2) | (exact hs.2.2.1) | (exact hs.2.2.2) | (exact hs.2.2.2.1) | (exact hs.2.2.2.2) | (exact hs.1.1) | (exact hs.1.2) | (exact hs.2.1.1) | (exact hs.2.1.2) | (unfold chk; grind) | grind
def t_szPt : List AV → Option (Prop × AV)
  | [.agg [.str s_nm, .int .i64 s_x, .int .i64 s_y], .int .i64 b] => some ((True) ∧ ((0 ≤ b ∧ b ≤ 1048576) ∧ (Pt.fitp (Pt.mk s_nm s_x s_y))), .int .i64 (Pt.sz (Pt.mk s_nm s_x s_y) b))
  | _ => none
theorem h_szPt : ∀ args p v, t_szPt args = some (p, v) → p → Contract P 118 args [] v [] ∧ noref v = true ∧ No99 v := by
  intro args p v h1 h2
  unfold t_szPt at h1
  split at h1
  · rename_i s_nm s_x s_y b
    cases h1
    obtain ⟨_, HP⟩ := h2
    have := c_szPt (Pt.mk s_nm s_x s_y) b HP.1 HP.2
    exact ⟨by simpa only [Pt.row] using this, rfl, trivial⟩
  · cases h1
theorem c_szPtS (t : Nat) (l : List Pt) (a : Int) (ha : 0 ≤ a ∧ a ≤ 1048576) (hl : l.length ≤ 9223372036854775807 ∧ ∀ y ∈ l, y.fitp) : Contract P 60 [.sl t 3 (l.map Pt.row), .int .i64 a] [] (.int .i64 (szS Pt.sz l a)) [] := by
  refine fn_sound ((Env.nil P).add 118 t_szPt h_szPt) hm k_laws_szSkyPointS (Nat.le_of_ble_eq_true rfl) rfl ?_; unfold s_laws_szSkyPointS; simp (config := { maxSteps := 2000000 }) only [bitvec_to_nat, reduceIte, Nat.reduceEqDiff, Nat.reduceAdd, Nat.reduceLeDiff, reduceCtorEq, Nat.reduceBEq, Nat.reduceLT, Nat.reduceMod, List.forall_mem_cons, t_szPt, tk_map, dp_map, toNat_pred, appE, rowsOf, List.take_length, List.length_cons, List.length_nil, Nat.zero_add, srow, irow, un_s, un_i, Pt.row, Pt_eta, Aw.row, Aw_eta, Blk.row, Blk_eta, Sec.row, Sec_eta, Rw.row, Rw_eta, Sky.row, Sky_eta, un_Pt, un_Aw, un_Blk, un_Sec, un_Rw, un_Sky, List.take_zero, List.foldl_nil]
  have hz : szOf a l.length = if a - l.length < 0 then -1 else a - l.length := rfl
  refine ⟨by omega, fun h1 => ?_, fun h1 => ?_⟩
  · unfold szS
    rw [(fold_meas meas_Pt l _ (by omega) (by omega)).2.1 (by omega)]
  have e0 : szOf a l.length = a - l.length := if_neg h1
  refine loop_st (fun i : Nat => [(1, .int .i64 ((l.take i).foldl (fun a x => x.sz a) (a - l.length))), (5, .int .i64 i)]) (fun _ => []) (fun i => i ≤ l.length ∧ 0 ≤ (l.take i).foldl (fun a x => x.sz a) (a - l.length)) (fun i => l.length - i) (0) (by simp only [u_E0, u_E1, u_M0, u_M1, w_setE0, w_setE1, w_setM0, w_setM1, reduceIte, Nat.reduceEqDiff]; exact ⟨by repeat' (first | exact trivial | refine ⟨.inr rfl, ?_⟩), by repeat' (first | exact trivial | refine ⟨rfl, ?_⟩), by first | rfl | simp [closedB, refsIn, refsInL, refsInO, dom, refsInL_nr, *], by first | rfl | simp [keepB, dom]⟩) ?_ ?_
  · simp only [List.take_zero, List.foldl_nil]; omega
  intro i hi NX hN
  have hm := (fold_meas meas_Pt (l.take i) (a - l.length) (by omega) (by omega)).2.2
  have hg : i < l.length → (l.getD i default).fitp := fun h => hl.2 _ (getD_mem' h)
  have hn : i < l.length → (l.take (i + 1)).foldl (fun a x => x.sz a) (a - l.length) = (l.getD i default).sz ((l.take i).foldl (fun a x => x.sz a) (a - l.length)) := fun h => fold_take (f := Pt.sz) h
  have hs : i < l.length → (l.getD i default).sz ((l.take i).foldl (fun a x => x.sz a) (a - l.length)) < 0 → szS Pt.sz l a = -1 := fun h h2 => by unfold szS; rw [e0]; exact fold_stop meas_Pt h (by omega) (by omega) h2
  unfold l_laws_szSkyPointS_0; simp (config := { maxSteps := 2000000 }) only [bitvec_to_nat, reduceIte, Nat.reduceEqDiff, Nat.reduceAdd, Nat.reduceLeDiff, reduceCtorEq, Nat.reduceBEq, Nat.reduceLT, Nat.reduceMod, List.forall_mem_cons, t_szPt, tk_map, dp_map, toNat_pred, appE, rowsOf, List.take_length, List.length_cons, List.length_nil, Nat.zero_add, srow, irow, un_s, un_i, Pt.row, Pt_eta, Aw.row, Aw_eta, Blk.row, Blk_eta, Sec.row, Sec_eta, Rw.row, Rw_eta, Sky.row, Sky_eta, un_Pt, un_Aw, un_Blk, un_Sec, un_Rw, un_Sky, List.take_zero, List.foldl_nil]
  refine ⟨fun h2 => ⟨by omega, by omega, ⟨⟨by omega, by omega⟩, hg (by omega)⟩, fun h3 => by rw [hs (by omega) h3], fun h3 => ⟨by omega, ?_⟩⟩, fun h2 => ?_⟩
  · have e := hn (by omega)
    refine hN (i + 1) _ (by simp only [e, List.length_append, List.length_cons, List.length_nil, Nat.zero_add, List.map_append, List.map_cons, List.map_nil, u_E0, u_E1, u_M0, u_M1, w_setE0, w_setE1, w_setM0, w_setM1, reduceIte, Nat.reduceEqDiff]; exact ⟨by repeat' (first | exact trivial | refine ⟨.inr rfl, ?_⟩), by repeat' (first | exact trivial | refine ⟨rfl, ?_⟩), by first | rfl | simp [closedB, refsIn, refsInL, refsInO, dom, refsInL_nr, *], by first | rfl | simp [keepB, dom]⟩) ?_ ?_
    · exact ⟨by omega, by rw [e]; omega⟩
    · omega
  · have e : i = l.length := by omega
    subst e
    simp only [List.take_length]; unfold szS; rw [e0]
def t_szPtS : List AV → Option (Prop × AV)
  | [.sl lt 3 lx, .int .i64 b] => some ((((lx.map unPt).map Pt.row = lx)) ∧ ((0 ≤ b ∧ b ≤ 1048576) ∧ ((lx.map unPt).length ≤ 9223372036854775807 ∧ ∀ y ∈ (lx.map unPt), Pt.fitp y)), .int .i64 (szS Pt.sz (lx.map unPt) b))
  | _ => none
theorem h_szPtS : ∀ args p v, t_szPtS args = some (p, v) → p → Contract P 60 args [] v [] ∧ noref v = true ∧ No99 v := by
  intro args p v h1 h2
  unfold t_szPtS at h1
  split at h1
  · rename_i lt lx b
    cases h1
    obtain ⟨e0, HP⟩ := h2
    have := c_szPtS lt (lx.map unPt) b HP.1 HP.2
    exact ⟨by simpa only [e0] using this, rfl, trivial⟩
  · cases h1
theorem c_szRw (s : Rw) (a : Int) (ha : 0 ≤ a ∧ a ≤ 1048576) (hs : s.fitp) : Contract P 121 [.agg s.row, .int .i64 a] [] (.int .i64 (s.sz a)) [] := by
  unfold Rw.fitp at hs
  simp only [Rw.row]
  refine fn_sound (Env.nil P) hm k_laws_szSkyRunway (Nat.le_of_ble_eq_true rfl) rfl ?_; unfold s_laws_szSkyRunway; simp (config := { maxSteps := 2000000 }) only [bitvec_to_nat, reduceIte, Nat.reduceEqDiff, Nat.reduceAdd, Nat.reduceLeDiff, reduceCtorEq, Nat.reduceBEq, Nat.reduceLT, Nat.reduceMod, List.forall_mem_cons, tk_map, dp_map, toNat_pred, appE, rowsOf, List.take_length, List.length_cons, List.length_nil, Nat.zero_add, srow, irow, un_s, un_i, Pt.row, Pt_eta, Aw.row, Aw_eta, Blk.row, Blk_eta, Sec.row, Sec_eta, Rw.row, Rw_eta, Sky.row, Sky_eta, un_Pt, un_Aw, un_Blk, un_Sec, un_Rw, un_Sky]
  unfold Rw.sz
  repeat' (first | with_reducible apply And.intro | with_reducible intro _)
  all_goals first | omega | (exact hs) | (exact hs.1) | (exact hs.2.1) | (exact hs.2.2) | (exact hs.2.2.1) | (exact hs.2.2.2) | (exact hs.2.2.2.1) | (exact hs.2.2.2.2) | (exact hs.1.1) | (exact hs.1.2) | (exact hs.2.1.1) | (exact hs.2.1.2) | (unfold chk; grind) | grind
def t_szRw : List AV → Option (Prop × AV)
  | [.agg [.str s_nm, .int .i64 s_x, .int .i64 s_y, .int .i64 s_tn], .int .i64 b] => some ((True) ∧ ((0 ≤ b ∧ b ≤ 1048576) ∧ (Rw.fitp (Rw.mk s_nm s_x s_y s_tn))), .int .i64 (Rw.sz (Rw.mk s_nm s_x s_y s_tn) b))
  | _ => none
theorem h_szRw : ∀ args p v, t_szRw args = some (p, v) → p → Contract P 121 args [] v [] ∧ noref v = true ∧ No99 v := by
  intro args p v h1 h2
  unfold t_szRw at h1
  split at h1
  · rename_i s_nm s_x s_y s_tn b
    cases h1
    obtain ⟨_, HP⟩ := h2
    have := c_szRw (Rw.mk s_nm s_x s_y s_tn) b HP.1 HP.2
    exact ⟨by simpa only [Rw.row] using this, rfl, trivial⟩
  · cases h1
theorem c_szRwS (t : Nat) (l : List Rw) (a : Int) (ha : 0 ≤ a ∧ a ≤ 1048576) (hl : l.length ≤ 9223372036854775807 ∧ ∀ y ∈ l, y.fitp) : Contract P 63 [.sl t 4 (l.map Rw.row), .int .i64 a] [] (.int .i64 (szS Rw.sz l a)) [] := by
  refine fn_sound ((Env.nil P).add 121 t_szRw h_szRw) hm k_laws_szSkyRunwayS (Nat.le_of_ble_eq_true rfl) rfl ?_; unfold s_laws_szSkyRunwayS; simp (config := { maxSteps := 2000000 }) only [bitvec_to_nat, reduceIte, Nat.reduceEqDiff, Nat.reduceAdd, Nat.reduceLeDiff, reduceCtorEq, Nat.reduceBEq, Nat.reduceLT, Nat.reduceMod, List.forall_mem_cons, t_szRw, tk_map, dp_map, toNat_pred, appE, rowsOf, List.take_length, List.length_cons, List.length_nil, Nat.zero_add, srow, irow, un_s, un_i, Pt.row, Pt_eta, Aw.row, Aw_eta, Blk.row, Blk_eta, Sec.row, Sec_eta, Rw.row, Rw_eta, Sky.row, Sky_eta, un_Pt, un_Aw, un_Blk, un_Sec, un_Rw, un_Sky, List.take_zero, List.foldl_nil]
  have hz : szOf a l.length = if a - l.length < 0 then -1 else a - l.length := rfl
  refine ⟨by omega, fun h1 => ?_, fun h1 => ?_⟩
  · unfold szS
    rw [(fold_meas meas_Rw l _ (by omega) (by omega)).2.1 (by omega)]
  have e0 : szOf a l.length = a - l.length := if_neg h1
  refine loop_st (fun i : Nat => [(1, .int .i64 ((l.take i).foldl (fun a x => x.sz a) (a - l.length))), (5, .int .i64 i)]) (fun _ => []) (fun i => i ≤ l.length ∧ 0 ≤ (l.take i).foldl (fun a x => x.sz a) (a - l.length)) (fun i => l.length - i) (0) (by simp only [u_E0, u_E1, u_M0, u_M1, w_setE0, w_setE1, w_setM0, w_setM1, reduceIte, Nat.reduceEqDiff]; exact ⟨by repeat' (first | exact trivial | refine ⟨.inr rfl, ?_⟩), by repeat' (first | exact trivial | refine ⟨rfl, ?_⟩), by first | rfl | simp [closedB, refsIn, refsInL, refsInO, dom, refsInL_nr, *], by first | rfl | simp [keepB, dom]⟩) ?_ ?_
  · simp only [List.take_zero, List.foldl_nil]; omega
  intro i hi NX hN
  have hm := (fold_meas meas_Rw (l.take i) (a - l.length) (by omega) (by omega)).2.2
  have hg : i < l.length → (l.getD i default).fitp := fun h => hl.2 _ (getD_mem' h)
  have hn : i < l.length → (l.take (i + 1)).foldl (fun a x => x.sz a) (a - l.length) = (l.getD i default).sz ((l.take i).foldl (fun a x => x.sz a) (a - l.length)) := fun h => fold_take (f := Rw.sz) h
  have hs : i < l.length → (l.getD i default).sz ((l.take i).foldl (fun a x => x.sz a) (a - l.length)) < 0 → szS Rw.sz l a = -1 := fun h h2 => by unfold szS; rw [e0]; exact fold_stop meas_Rw h (by omega) (by omega) h2
  unfold l_laws_szSkyRunwayS_0; simp (config := { maxSteps := 2000000 }) only [bitvec_to_nat, reduceIte, Nat.reduceEqDiff, Nat.reduceAdd, Nat.reduceLeDiff, reduceCtorEq, Nat.reduceBEq, Nat.reduceLT, Nat.reduceMod, List.forall_mem_cons, t_szRw, tk_map, dp_map, toNat_pred, appE, rowsOf, List.take_length, List.length_cons, List.length_nil, Nat.zero_add, srow, irow, un_s, un_i, Pt.row, Pt_eta, Aw.row, Aw_eta, Blk.row, Blk_eta, Sec.row, Sec_eta, Rw.row, Rw_eta, Sky.row, Sky_eta, un_Pt, un_Aw, un_Blk, un_Sec, un_Rw, un_Sky, List.take_zero, List.foldl_nil]
  refine ⟨fun h2 => ⟨by omega, by omega, ⟨⟨by omega, by omega⟩, hg (by omega)⟩, fun h3 => by rw [hs (by omega) h3], fun h3 => ⟨by omega, ?_⟩⟩, fun h2 => ?_⟩
  · have e := hn (by omega)
    refine hN (i + 1) _ (by simp only [e, List.length_append, List.length_cons, List.length_nil, Nat.zero_add, List.map_append, List.map_cons, List.map_nil, u_E0, u_E1, u_M0, u_M1, w_setE0, w_setE1, w_setM0, w_setM1, reduceIte, Nat.reduceEqDiff]; exact ⟨by repeat' (first | exact trivial | refine ⟨.inr rfl, ?_⟩), by repeat' (first | exact trivial | refine ⟨rfl, ?_⟩), by first | rfl | simp [closedB, refsIn, refsInL, refsInO, dom, refsInL_nr, *], by first | rfl | simp [keepB, dom]⟩) ?_ ?_
    · exact ⟨by omega, by rw [e]; omega⟩
    · omega
  · have e : i = l.length := by omega
    subst e
    simp only [List.take_length]; unfold szS; rw [e0]
def t_szRwS : List AV → Option (Prop × AV)
  | [.sl lt 4 lx, .int .i64 b] => some ((((lx.map unRw).map Rw.row = lx)) ∧ ((0 ≤ b ∧ b ≤ 1048576) ∧ ((lx.map unRw).length ≤ 9223372036854775807 ∧ ∀ y ∈ (lx.map unRw), Rw.fitp y)), .int .i64 (szS Rw.sz (lx.map unRw) b))
  | _ => none
theorem h_szRwS : ∀ args p v, t_szRwS args = some (p, v) → p → Contract P 63 args [] v [] ∧ noref v = true ∧ No99 v := by
  intro args p v h1 h2
  unfold t_szRwS at h1
  split at h1
  · rename_i lt lx b
    cases h1
    obtain ⟨e0, HP⟩ := h2
    have := c_szRwS lt (lx.map unRw) b HP.1 HP.2
    exact ⟨by simpa only [e0] using this, rfl, trivial⟩
  · cases h1
theorem c_szAw (s : Aw) (a : Int) (ha : 0 ≤ a ∧ a ≤ 1048576) (hs : s.fitp) : Contract P 119 [.agg (s.row 1), .int .i64 a] [] (.int .i64 (s.sz a)) [] := by
  unfold Aw.fitp at hs
  simp only [Aw.row]
  refine fn_sound ((Env.nil P).add 39 t_szStringS h_szStringS) hm k_laws_szSkyAirway (Nat.le_of_ble_eq_true rfl) rfl ?_; unfold s_laws_szSkyAirway; simp (config := { maxSteps := 2000000 }) only [bitvec_to_nat, reduceIte, Nat.reduceEqDiff, Nat.reduceAdd, Nat.reduceLeDiff, reduceCtorEq, Nat.reduceBEq, Nat.reduceLT, Nat.reduceMod, List.forall_mem_cons, t_szStringS, tk_map, dp_map, toNat_pred, appE, rowsOf, List.take_length, List.length_cons, List.length_nil, Nat.zero_add, srow, irow, un_s, un_i, Pt.row, Pt_eta, Aw.row, Aw_eta, Blk.row, Blk_eta, Sec.row, Sec_eta, Rw.row, Rw_eta, Sky.row, Sky_eta, un_Pt, un_Aw, un_Blk, un_Sec, un_Rw, un_Sky]
  unfold Aw.sz
  have qpts : (szS szStr s.pts (a - (s.nm.toList.length : Nat))) ≤ max (a - (s.nm.toList.length : Nat)) (-1) := (meas_szS meas_str s.pts (a - (s.nm.toList.length : Nat)) (by omega)).2.2
  repeat' (first | with_reducible apply And.intro | with_reducible intro _)
  all_goals first | omega | (exact hs) | (exact hs.1) | (exact hs.2.1) | (exact hs.2.2) | (exact hs.2.2.1) | (exact hs.2.2.2) | (exact hs.2.2.2.1) | (exact hs.2.2.2.2) | (exact hs.1.1) | (exact hs.1.2) | (exact hs.2.1.1) | (exact hs.2.1.2) | (unfold chk; grind) | grind
def t_szAw : List AV → Option (Prop × AV)
  | [.agg [.str s_nm, .sl 1 1 s_pts], .int .i64 b] => some ((((s_pts.map unS).map srow = s_pts)) ∧ ((0 ≤ b ∧ b ≤ 1048576) ∧ (Aw.fitp (Aw.mk s_nm (s_pts.map unS)))), .int .i64 (Aw.sz (Aw.mk s_nm (s_pts.map unS)) b))
  | _ => none
theorem h_szAw : ∀ args p v, t_szAw args = some (p, v) → p → Contract P 119 args [] v [] ∧ noref v = true ∧ No99 v := by
  intro args p v h1 h2
  unfold t_szAw at h1
  split at h1
  · rename_i s_nm s_pts b
    cases h1
    obtain ⟨e0, HP⟩ := h2
    have := c_szAw (Aw.mk s_nm (s_pts.map unS)) b HP.1 HP.2
    exact ⟨by simpa only [e0, Aw.row] using this, rfl, trivial⟩
  · cases h1
theorem c_szAwS (t : Nat) (l : List Aw) (a : Int) (ha : 0 ≤ a ∧ a ≤ 1048576) (hl : l.length ≤ 9223372036854775807 ∧ ∀ y ∈ l, y.fitp) : Contract P 61 [.sl t 2 (l.map (Aw.row 1)), .int .i64 a] [] (.int .i64 (szS Aw.sz l a)) [] := by
  refine fn_sound ((Env.nil P).add 119 t_szAw h_szAw) hm k_laws_szSkyAirwayS (Nat.le_of_ble_eq_true rfl) rfl ?_; unfold s_laws_szSkyAirwayS; simp (config := { maxSteps := 2000000 }) only [bitvec_to_nat, reduceIte, Nat.reduceEqDiff, Nat.reduceAdd, Nat.reduceLeDiff, reduceCtorEq, Nat.reduceBEq, Nat.reduceLT, Nat.reduceMod, List.forall_mem_cons, t_szAw, tk_map, dp_map, toNat_pred, appE, rowsOf, List.take_length, List.length_cons, List.length_nil, Nat.zero_add, srow, irow, un_s, un_i, Pt.row, Pt_eta, Aw.row, Aw_eta, Blk.row, Blk_eta, Sec.row, Sec_eta, Rw.row, Rw_eta, Sky.row, Sky_eta, un_Pt, un_Aw, un_Blk, un_Sec, un_Rw, un_Sky, List.take_zero, List.foldl_nil]
  have hz : szOf a l.length = if a - l.length < 0 then -1 else a - l.length := rfl
  refine ⟨by omega, fun h1 => ?_, fun h1 => ?_⟩
  · unfold szS
    rw [(fold_meas meas_Aw l _ (by omega) (by omega)).2.1 (by omega)]
  have e0 : szOf a l.length = a - l.length := if_neg h1
  refine loop_st (fun i : Nat => [(1, .int .i64 ((l.take i).foldl (fun a x => x.sz a) (a - l.length))), (5, .int .i64 i)]) (fun _ => []) (fun i => i ≤ l.length ∧ 0 ≤ (l.take i).foldl (fun a x => x.sz a) (a - l.length)) (fun i => l.length - i) (0) (by simp only [u_E0, u_E1, u_M0, u_M1, w_setE0, w_setE1, w_setM0, w_setM1, reduceIte, Nat.reduceEqDiff]; exact ⟨by repeat' (first | exact trivial | refine ⟨.inr rfl, ?_⟩), by repeat' (first | exact trivial | refine ⟨rfl, ?_⟩), by first | rfl | simp [closedB, refsIn, refsInL, refsInO, dom, refsInL_nr, *], by first | rfl | simp [keepB, dom]⟩) ?_ ?_
  · simp only [List.take_zero, List.foldl_nil]; omega
  intro i hi NX hN
  have hm := (fold_meas meas_Aw (l.take i) (a - l.length) (by omega) (by omega)).2.2
  have hg : i < l.length → (l.getD i default).fitp := fun h => hl.2 _ (getD_mem' h)
  have hn : i < l.length → (l.take (i + 1)).foldl (fun a x => x.sz a) (a - l.length) = (l.getD i default).sz ((l.take i).foldl (fun a x => x.sz a) (a - l.length)) := fun h => fold_take (f := Aw.sz) h
  have hs : i < l.length → (l.getD i default).sz ((l.take i).foldl (fun a x => x.sz a) (a - l.length)) < 0 → szS Aw.sz l a = -1 := fun h h2 => by unfold szS; rw [e0]; exact fold_stop meas_Aw h (by omega) (by omega) h2
  unfold l_laws_szSkyAirwayS_0; simp (config := { maxSteps := 2000000 }) only [bitvec_to_nat, reduceIte, Nat.reduceEqDiff, Nat.reduceAdd, Nat.reduceLeDiff, reduceCtorEq, Nat.reduceBEq, Nat.reduceLT, Nat.reduceMod, List.forall_mem_cons, t_szAw, tk_map, dp_map, toNat_pred, appE, rowsOf, List.take_length, List.length_cons, List.length_nil, Nat.zero_add, srow, irow, un_s, un_i, Pt.row, Pt_eta, Aw.row, Aw_eta, Blk.row, Blk_eta, Sec.row, Sec_eta, Rw.row, Rw_eta, Sky.row, Sky_eta, un_Pt, un_Aw, un_Blk, un_Sec, un_Rw, un_Sky, List.take_zero, List.foldl_nil]
  refine ⟨fun h2 => ⟨by omega, by omega, ⟨⟨by omega, by omega⟩, hg (by omega)⟩, fun h3 => by rw [hs (by omega) h3], fun h3 => ⟨by omega, ?_⟩⟩, fun h2 => ?_⟩
  · have e := hn (by omega)
    refine hN (i + 1) _ (by simp only [e, List.length_append, List.length_cons, List.length_nil, Nat.zero_add, List.map_append, List.map_cons, List.map_nil, u_E0, u_E1, u_M0, u_M1, w_setE0, w_setE1, w_setM0, w_setM1, reduceIte, Nat.reduceEqDiff]; exact ⟨by repeat' (first | exact trivial | refine ⟨.inr rfl, ?_⟩), by repeat' (first | exact trivial | refine ⟨rfl, ?_⟩), by first | rfl | simp [closedB, refsIn, refsInL, refsInO, dom, refsInL_nr, *], by first | rfl | simp [keepB, dom]⟩) ?_ ?_
    · exact ⟨by omega, by rw [e]; omega⟩
    · omega
  · have e : i = l.length := by omega
    subst e
    simp only [List.take_length]; unfold szS; rw [e0]
def t_szAwS : List AV → Option (Prop × AV)
  | [.sl lt 2 lx, .int .i64 b] => some ((((lx.map unAw).map (Aw.row 1) = lx)) ∧ ((0 ≤ b ∧ b ≤ 1048576) ∧ ((lx.map unAw).length ≤ 9223372036854775807 ∧ ∀ y ∈ (lx.map unAw), Aw.fitp y)), .int .i64 (szS Aw.sz (lx.map unAw) b))
  | _ => none
theorem h_szAwS : ∀ args p v, t_szAwS args = some (p, v) → p → Contract P 61 args [] v [] ∧ noref v = true ∧ No99 v := by
  intro args p v h1 h2
  unfold t_szAwS at h1
  split at h1
  · rename_i lt lx b
    cases h1
    obtain ⟨e0, HP⟩ := h2
    have := c_szAwS lt (lx.map unAw) b HP.1 HP.2
    exact ⟨by simpa only [e0] using this, rfl, trivial⟩
  · cases h1
theorem c_szSec (s : Sec) (a : Int) (ha : 0 ≤ a ∧ a ≤ 1048576) (hs : s.fitp) : Contract P 120 [.agg (s.row 1), .int .i64 a] [] (.int .i64 (s.sz a)) [] := by
  unfold Sec.fitp at hs
  simp only [Sec.row]
  refine fn_sound ((Env.nil P).add 157 t_szBlkS h_szBlkS) hm k_laws_szSkySector (Nat.le_of_ble_eq_true rfl) rfl ?_; unfold s_laws_szSkySector; simp (config := { maxSteps := 2000000 }) only [bitvec_to_nat, reduceIte, Nat.reduceEqDiff, Nat.reduceAdd, Nat.reduceLeDiff, reduceCtorEq, Nat.reduceBEq, Nat.reduceLT, Nat.reduceMod, List.forall_mem_cons, t_szBlkS, tk_map, dp_map, toNat_pred, appE, rowsOf, List.take_length, List.length_cons, List.length_nil, Nat.zero_add, srow, irow, un_s, un_i, Pt.row, Pt_eta, Aw.row, Aw_eta, Blk.row, Blk_eta, Sec.row, Sec_eta, Rw.row, Rw_eta, Sky.row, Sky_eta, un_Pt, un_Aw, un_Blk, un_Sec, un_Rw, un_Sky]
  unfold Sec.sz
  have qbl : (szOf (a - (s.nm.toList.length : Nat)) s.bl.length) ≤ max (a - (s.nm.toList.length : Nat)) (-1) := by unfold szOf; split <;> omega
  repeat' (first | with_reducible apply And.intro | with_reducible intro _)
  all_goals first | omega | (exact hs) | (exact hs.1) | (exact hs.2.1) | (exact hs.2.2) | (exact hs.2.2.1) | (exact hs.2.2.2) | (exact hs.2.2.2.1) | (exact hs.2.2.2.2) | (exact hs.1.1) | (exact hs.1.2) | (exact hs.2.1.1) | (exact hs.2.1.2) | (unfold chk; grind) | grind
def t_szSec : List AV → Option (Prop × AV)
  | [.agg [.str s_nm, .sl 1 6 s_bl], .int .i64 b] => some ((((s_bl.map unBlk).map Blk.row = s_bl)) ∧ ((0 ≤ b ∧ b ≤ 1048576) ∧ (Sec.fitp (Sec.mk s_nm (s_bl.map unBlk)))), .int .i64 (Sec.sz (Sec.mk s_nm (s_bl.map unBlk)) b))
  | _ => none
theorem h_szSec : ∀ args p v, t_szSec args = some (p, v) → p → Contract P 120 args [] v [] ∧ noref v = true ∧ No99 v := by
  intro args p v h1 h2
  unfold t_szSec at h1
  split at h1
  · rename_i s_nm s_bl b
    cases h1
    obtain ⟨e0, HP⟩ := h2
    have := c_szSec (Sec.mk s_nm (s_bl.map unBlk)) b HP.1 HP.2
    exact ⟨by simpa only [e0, Sec.row] using this, rfl, trivial⟩
  · cases h1
theorem c_szSecS (t : Nat) (l : List Sec) (a : Int) (ha : 0 ≤ a ∧ a ≤ 1048576) (hl : l.length ≤ 9223372036854775807 ∧ ∀ y ∈ l, y.fitp) : Contract P 62 [.sl t 2 (l.map (Sec.row 1)), .int .i64 a] [] (.int .i64 (szS Sec.sz l a)) [] := by
  refine fn_sound ((Env.nil P).add 120 t_szSec h_szSec) hm k_laws_szSkySectorS (Nat.le_of_ble_eq_true rfl) rfl ?_; unfold s_laws_szSkySectorS; simp (config := { maxSteps := 2000000 }) only [bitvec_to_nat, reduceIte, Nat.reduceEqDiff, Nat.reduceAdd, Nat.reduceLeDiff, reduceCtorEq, Nat.reduceBEq, Nat.reduceLT, Nat.reduceMod, List.forall_mem_cons, t_szSec, tk_map, dp_map, toNat_pred, appE, rowsOf, List.take_length, List.length_cons, List.length_nil, Nat.zero_add, srow, irow, un_s, un_i, Pt.row, Pt_eta, Aw.row, Aw_eta, Blk.row, Blk_eta, Sec.row, Sec_eta, Rw.row, Rw_eta, Sky.row, Sky_eta, un_Pt, un_Aw, un_Blk, un_Sec, un_Rw, un_Sky, List.take_zero, List.foldl_nil]
  have hz : szOf a l.length = if a - l.length < 0 then -1 else a - l.length := rfl
  refine ⟨by omega, fun h1 => ?_, fun h1 => ?_⟩
  · unfold szS
    rw [(fold_meas meas_Sec l _ (by omega) (by omega)).2.1 (by omega)]
  have e0 : szOf a l.length = a - l.length := if_neg h1
  refine loop_st (fun i : Nat => [(1, .int .i64 ((l.take i).foldl (fun a x => x.sz a) (a - l.length))), (5, .int .i64 i)]) (fun _ => []) (fun i => i ≤ l.length ∧ 0 ≤ (l.take i).foldl (fun a x => x.sz a) (a - l.length)) (fun i => l.length - i) (0) (by simp only [u_E0, u_E1, u_M0, u_M1, w_setE0, w_setE1, w_setM0, w_setM1, reduceIte, Nat.reduceEqDiff]; exact ⟨by repeat' (first | exact trivial | refine ⟨.inr rfl, ?_⟩), by repeat' (first | exact trivial | refine ⟨rfl, ?_⟩), by first | rfl | simp [closedB, refsIn, refsInL, refsInO, dom, refsInL_nr, *], by first | rfl | simp [keepB, dom]⟩) ?_ ?_
  · simp only [List.take_zero, List.foldl_nil]; omega
  intro i hi NX hN
  have hm := (fold_meas meas_Sec (l.take i) (a - l.length) (by omega) (by omega)).2.2
  have hg : i < l.length → (l.getD i default).fitp := fun h => hl.2 _ (getD_mem' h)
  have hn : i < l.length → (l.take (i + 1)).foldl (fun a x => x.sz a) (a - l.length) = (l.getD i default).sz ((l.take i).foldl (fun a x => x.sz a) (a - l.length)) := fun h => fold_take (f := Sec.sz) h
  have hs : i < l.length → (l.getD i default).sz ((l.take i).foldl (fun a x => x.sz a) (a - l.length)) < 0 → szS Sec.sz l a = -1 := fun h h2 => by unfold szS; rw [e0]; exact fold_stop meas_Sec h (by omega) (by omega) h2
  unfold l_laws_szSkySectorS_0; simp (config := { maxSteps := 2000000 }) only [bitvec_to_nat, reduceIte, Nat.reduceEqDiff, Nat.reduceAdd, Nat.reduceLeDiff, reduceCtorEq, Nat.reduceBEq, Nat.reduceLT, Nat.reduceMod, List.forall_mem_cons, t_szSec, tk_map, dp_map, toNat_pred, appE, rowsOf, List.take_length, List.length_cons, List.length_nil, Nat.zero_add, srow, irow, un_s, un_i, Pt.row, Pt_eta, Aw.row, Aw_eta, Blk.row, Blk_eta, Sec.row, Sec_eta, Rw.row, Rw_eta, Sky.row, Sky_eta, un_Pt, un_Aw, un_Blk, un_Sec, un_Rw, un_Sky, List.take_zero, List.foldl_nil]
  refine ⟨fun h2 => ⟨by omega, by omega, ⟨⟨by omega, by omega⟩, hg (by omega)⟩, fun h3 => by rw [hs (by omega) h3], fun h3 => ⟨by omega, ?_⟩⟩, fun h2 => ?_⟩
  · have e := hn (by omega)
    refine hN (i + 1) _ (by simp only [e, List.length_append, List.length_cons, List.length_nil, Nat.zero_add, List.map_append, List.map_cons, List.map_nil, u_E0, u_E1, u_M0, u_M1, w_setE0, w_setE1, w_setM0, w_setM1, reduceIte, Nat.reduceEqDiff]; exact ⟨by repeat' (first | exact trivial | refine ⟨.inr rfl, ?_⟩), by repeat' (first | exact trivial | refine ⟨rfl, ?_⟩), by first | rfl | simp [closedB, refsIn, refsInL, refsInO, dom, refsInL_nr, *], by first | rfl | simp [keepB, dom]⟩) ?_ ?_
    · exact ⟨by omega, by rw [e]; omega⟩
    · omega
  · have e : i = l.length := by omega
    subst e
    simp only [List.take_length]; unfold szS; rw [e0]
def t_szSecS : List AV → Option (Prop × AV)
  | [.sl lt 2 lx, .int .i64 b] => some ((((lx.map unSec).map (Sec.row 1) = lx)) ∧ ((0 ≤ b ∧ b ≤ 1048576) ∧ ((lx.map unSec).length ≤ 9223372036854775807 ∧ ∀ y ∈ (lx.map unSec), Sec.fitp y)), .int .i64 (szS Sec.sz (lx.map unSec) b))
  | _ => none
theorem h_szSecS : ∀ args p v, t_szSecS args = some (p, v) → p → Contract P 62 args [] v [] ∧ noref v = true ∧ No99 v := by
  intro args p v h1 h2
  unfold t_szSecS at h1
  split at h1
  · rename_i lt lx b
    cases h1
    obtain ⟨e0, HP⟩ := h2
    have := c_szSecS lt (lx.map unSec) b HP.1 HP.2
    exact ⟨by simpa only [e0] using this, rfl, trivial⟩
  · cases h1
theorem c_szSky (s : Sky) (a : Int) (ha : 0 ≤ a ∧ a ≤ 1048576) (hs : s.fitp) : Contract P 12 [.agg (s.row 1), .int .i64 a] [] (.int .i64 (s.sz a)) [] := by
  unfold Sky.fitp at hs
  simp only [Sky.row]
  refine fn_sound (((((Env.nil P).add 61 t_szAwS h_szAwS).add 60 t_szPtS h_szPtS).add 63 t_szRwS h_szRwS).add 62 t_szSecS h_szSecS) hm k_laws_szSky (Nat.le_of_ble_eq_true rfl) rfl ?_; unfold s_laws_szSky; simp (config := { maxSteps := 2000000 }) only [bitvec_to_nat, reduceIte, Nat.reduceEqDiff, Nat.reduceAdd, Nat.reduceLeDiff, reduceCtorEq, Nat.reduceBEq, Nat.reduceLT, Nat.reduceMod, List.forall_mem_cons, t_szAwS, t_szPtS, t_szRwS, t_szSecS, tk_map, dp_map, toNat_pred, appE, rowsOf, List.take_length, List.length_cons, List.length_nil, Nat.zero_add, srow, irow, un_s, un_i, Pt.row, Pt_eta, Aw.row, Aw_eta, Blk.row, Blk_eta, Sec.row, Sec_eta, Rw.row, Rw_eta, Sky.row, Sky_eta, un_Pt, un_Aw, un_Blk, un_Sec, un_Rw, un_Sky]
  unfold Sky.sz
  have qpts : (szS Pt.sz s.pts a) ≤ max a (-1) := (meas_szS meas_Pt s.pts a (by omega)).2.2
  have qaws : (szS Aw.sz s.aws (szS Pt.sz s.pts a)) ≤ max (szS Pt.sz s.pts a) (-1) := (meas_szS meas_Aw s.aws (szS Pt.sz s.pts a) (by omega)).2.2
  have qsecs : (szS Sec.sz s.secs (szS Aw.sz s.aws (szS Pt.sz s.pts a))) ≤ max (szS Aw.sz s.aws (szS Pt.sz s.pts a)) (-1) := (meas_szS meas_Sec s.secs (szS Aw.sz s.aws (szS Pt.sz s.pts a)) (by omega)).2.2
  have qrws : (szS Rw.sz s.rws (szS Sec.sz s.secs (szS Aw.sz s.aws (szS Pt.sz s.pts a)))) ≤ max (szS Sec.sz s.secs (szS Aw.sz s.aws (szS Pt.sz s.pts a))) (-1) := (meas_szS meas_Rw s.rws (szS Sec.sz s.secs (szS Aw.sz s.aws (szS Pt.sz s.pts a))) (by omega)).2.2
  repeat' (first | with_reducible apply And.intro | with_reducible intro _)
  all_goals first | omega | (exact hs) | (exact hs.1) | (exact hs.2.1) | (exact hs.2.2) | (exact hs.2.2.1) | (exact hs.2.2.2) | (exact hs.2.2.2.1) | (exact hs.2.2.2.2) | (exact hs.1.1) | (exact hs.1.2) | (exact hs.2.1.1) | (exact hs.2.1.2) | (unfold chk; grind) | grind
def t_szSky : List AV → Option (Prop × AV)
  | [.agg [.int .i64 s_w, .int .i64 s_h, .int .i64 s_lv, .sl 1 3 s_pts, .sl 1 2 s_aws, .sl 1 2 s_secs, .sl 1 4 s_rws], .int .i64 b] => some ((((s_pts.map unPt).map Pt.row = s_pts) ∧ ((s_aws.map unAw).map (Aw.row 1) = s_aws) ∧ ((s_secs.map unSec).map (Sec.row 1) = s_secs) ∧ ((s_rws.map unRw).map Rw.row = s_rws)) ∧ ((0 ≤ b ∧ b ≤ 1048576) ∧ (Sky.fitp (Sky.mk s_w s_h s_lv (s_pts.map unPt) (s_aws.map unAw) (s_secs.map unSec) (s_rws.map unRw)))), .int .i64 (Sky.sz (Sky.mk s_w s_h s_lv (s_pts.map unPt) (s_aws.map unAw) (s_secs.map unSec) (s_rws.map unRw)) b))
  | _ => none
theorem h_szSky : ∀ args p v, t_szSky args = some (p, v) → p → Contract P 12 args [] v [] ∧ noref v = true ∧ No99 v := by
  intro args p v h1 h2
  unfold t_szSky at h1
  split at h1
  · rename_i s_w s_h s_lv s_pts s_aws s_secs s_rws b
    cases h1
    obtain ⟨⟨e0, e1, e2, e3⟩, HP⟩ := h2
    have := c_szSky (Sky.mk s_w s_h s_lv (s_pts.map unPt) (s_aws.map unAw) (s_secs.map unSec) (s_rws.map unRw)) b HP.1 HP.2
    exact ⟨by simpa only [e0, e1, e2, e3, Sky.row] using this, rfl, trivial⟩
  · cases h1
end
end Go.Ve

namespace Go.Ve
noncomputable section
open Go.Proofs
set_option linter.unusedSimpArgs false
set_option linter.unusedVariables false
set_option maxRecDepth 100000
open Go.ChangeShapes Go.WideShapes
def t_heldZoneS : List AV → Option (Prop × AV)
  | [.sl _ 5 zx, .int .i64 k] => some (zx = (ms_Zone k zx.length).map Zone.row ∧ zx.length ≤ 1048577 ∧ (0 ≤ k ∧ k ≤ 1125899906842624), .int .i64 (k + 5 * (zx.length : Nat)))
  | _ => none
theorem h_heldZoneS : ∀ args p v, t_heldZoneS args = some (p, v) → p → Contract P 29 args [] v [] ∧ noref v = true ∧ No99 v := by
  intro args p v h1 h2
  unfold t_heldZoneS at h1
  split at h1
  · rename_i t zx k
    cases h1
    obtain ⟨e1, h3, h4⟩ := h2
    have := c_heldZoneS t k zx.length h3 h4
    rw [← e1] at this
    exact ⟨this, rfl, trivial⟩
  · cases h1
theorem un_Zone' (l : List Zone) : (l.map Zone.row).map unZone = l := un_Zone l
def t_sLapZones : List AV → Option (Prop × AV)
  | [.agg [.int .i64 s_w, .int .i64 s_h, .int .i64 s_lv, .sl 0 3 s_pts, .sl 0 2 s_aws, .sl 0 2 s_secs, .sl 0 4 s_rws]] => some ((((s_pts.map unPt).map Pt.row = s_pts) ∧ ((s_aws.map unAw).map (Aw.row 0) = s_aws) ∧ ((s_secs.map unSec).map (Sec.row 0) = s_secs) ∧ ((s_rws.map unRw).map Rw.row = s_rws)) ∧ (Sky.small (Sky.mk s_w s_h s_lv (s_pts.map unPt) (s_aws.map unAw) (s_secs.map unSec) (s_rws.map unRw))), .tup [.sl 0 5 ((lzR (Sky.mk s_w s_h s_lv (s_pts.map unPt) (s_aws.map unAw) (s_secs.map unSec) (s_rws.map unRw))).map Zone.row), .bool (decide (lzV (Sky.mk s_w s_h s_lv (s_pts.map unPt) (s_aws.map unAw) (s_secs.map unSec) (s_rws.map unRw))))])
  | _ => none
theorem h_sLapZones : ∀ args p v, t_sLapZones args = some (p, v) → p → Contract P 24 args [] v [] ∧ noref v = true ∧ No99 v := by
  intro args p v h1 h2
  unfold t_sLapZones at h1
  split at h1
  · rename_i s_w s_h s_lv s_pts s_aws s_secs s_rws
    cases h1
    obtain ⟨⟨e0, e1, e2, e3⟩, HP⟩ := h2
    have := c_sLapZones (Sky.mk s_w s_h s_lv (s_pts.map unPt) (s_aws.map unAw) (s_secs.map unSec) (s_rws.map unRw)) HP
    exact ⟨by simpa only [e0, e1, e2, e3, Sky.row] using this, rfl, by simp [No99, No99L, no99_Zone]⟩
  · cases h1
set_option maxHeartbeats 8000000 in
theorem c_lawZ (s : Sky) (hf : s.fitp) (hv : lzV s) : Contract P 7 [.agg (s.row 1)] [] (.bool true) [] := by
  have hlz : lzR s = s.secs.map zoneOf := if_pos hv
  have hlv : decide (lzV s) = true := by simp [hv]
  have tkZ : List.take s.secs.length ((s.secs.map zoneOf).map Zone.row) = (s.secs.map zoneOf).map Zone.row := List.take_of_length_le (by simp)
  have tkM : ∀ k : Int, List.take s.secs.length ((ms_Zone k s.secs.length).map Zone.row) = (ms_Zone k s.secs.length).map Zone.row := fun k => List.take_of_length_le (by rw [List.length_map, ms_Zone_len]; omega)
  have z2 : Sky.sz s 1048576 ≤ 1048576 := by have := (meas_Sky s 1048576 (by omega)).2.2; omega
  generalize hn1 : Sky.sz s 1048576 = n1 at *
  simp only [Sky.row]
  refine fn_sound (((((Env.nil P).add 12 t_szSky h_szSky).add 24 t_sLapZones h_sLapZones).add 26 t_eqZoneS h_eqZoneS).add 29 t_heldZoneS h_heldZoneS) hm k_laws_FnExactLapZones (Nat.le_of_ble_eq_true rfl) rfl ?_; unfold s_laws_FnExactLapZones; simp (config := { maxSteps := 2000000 }) only [bitvec_to_nat, reduceIte, Nat.reduceEqDiff, Nat.reduceAdd, Nat.reduceLeDiff, reduceCtorEq, Nat.reduceBEq, Nat.reduceLT, Nat.reduceMod, List.forall_mem_cons, t_szSky, t_sLapZones, t_eqZoneS, t_heldZoneS, tk_map, dp_map, toNat_pred, appE, rowsOf, List.take_length, List.length_cons, List.length_nil, Nat.zero_add, srow, irow, un_s, un_i, Zone.row, Zone_eta, un_Zone, Pt.row, Pt_eta, un_Pt, Aw.row, Aw_eta, un_Aw, Blk.row, Blk_eta, un_Blk, Sec.row, Sec_eta, un_Sec, Rw.row, Rw_eta, un_Rw, Sky_eta, Sky.row, ms_Zone_len, List.length_map, gSky, gSky', sSky, sSky', gSky0, sSky0, gG, gG', sG, sG', kG, gs1, gs2, gs3, gs4, tkZ, tkM, not_true_eq_false, ne_eq, eq_self, bne_self_eq_false, Int.toNat_natCast, Nat.sub_zero, and_self, hlz, hlv, hn1, apK1, apNew1, apG1, skyV, List.cons_append, List.nil_append, un_Zone']
  refine ⟨⟨by omega, hf⟩, fun g1 => ?_⟩
  have hs : s.small := Sky.sz_ok (a := 1048576) (by omega) (by omega)
  have hsm := hs
  unfold Sky.small at hsm
  have hT := c_toSky s hs
  have n9T : No99 (.agg (s.row 0)) := by simp [Sky.row, No99, No99L, no99_Pt, no99_Aw, no99_Sec, no99_Rw]
  have hTO := toSkyK s hs
  have hEq := eqSkyC s hs
  have hMk := markSkyK 1 s hs (by omega)
  simp only [Sky.row] at hT n9T hTO
  have hI1 := (c_iLapY s hs hf hv).ren (swp 104 731) (swp_swp _ _)
  have hI2 := (c_iLapY s hs hf hv).ren (swp 104 741) (swp_swp _ _)
  have hZ := (c_markZoneS s.secs.length 1 (s.secs.map zoneOf) (by rw [List.length_map]; omega) (by omega)).ren (swp 3 731) (swp_swp _ _)
  rw [show renL (swp 104 731) [AV.agg (s.row 0)] = [.agg (s.row 0)] from rfl] at hI1
  rw [show renL (swp 104 741) [AV.agg (s.row 0)] = [.agg (s.row 0)] from rfl] at hI2
  simp only [renL, ren, renM, renO, swp, reduceIte, Nat.reduceEqDiff, Nat.reduceLT, List.length_map] at hI1 hI2 hZ
  refine ⟨_, _, .inr (.inl ⟨rfl, _, rfl, hT, rfl, n9T⟩), ?_⟩
  simp (config := { maxSteps := 2000000 }) only [bitvec_to_nat, reduceIte, Nat.reduceEqDiff, Nat.reduceAdd, Nat.reduceLeDiff, reduceCtorEq, Nat.reduceBEq, Nat.reduceLT, Nat.reduceMod, List.forall_mem_cons, t_szSky, t_sLapZones, t_eqZoneS, t_heldZoneS, tk_map, dp_map, toNat_pred, appE, rowsOf, List.take_length, List.length_cons, List.length_nil, Nat.zero_add, srow, irow, un_s, un_i, Zone.row, Zone_eta, un_Zone, Pt.row, Pt_eta, un_Pt, Aw.row, Aw_eta, un_Aw, Blk.row, Blk_eta, un_Blk, Sec.row, Sec_eta, un_Sec, Rw.row, Rw_eta, un_Rw, Sky_eta, Sky.row, ms_Zone_len, List.length_map, gSky, gSky', sSky, sSky', gSky0, sSky0, gG, gG', sG, sG', kG, gs1, gs2, gs3, gs4, tkZ, tkM, not_true_eq_false, ne_eq, eq_self, bne_self_eq_false, Int.toNat_natCast, Nat.sub_zero, and_self, hlz, hlv, hn1, apK1, apNew1, apG1, skyV, List.cons_append, List.nil_append, un_Zone']
  refine ⟨hs, ?_⟩
  refine ⟨_, _, .inr (.inr (.inl ⟨_, rfl, hTO, K0r_new (by simp), K0r_refV, K0r_refs, by simp [skyV, No99, No99L], K0_99⟩)), ?_⟩
  simp (config := { maxSteps := 2000000 }) only [bitvec_to_nat, reduceIte, Nat.reduceEqDiff, Nat.reduceAdd, Nat.reduceLeDiff, reduceCtorEq, Nat.reduceBEq, Nat.reduceLT, Nat.reduceMod, List.forall_mem_cons, t_szSky, t_sLapZones, t_eqZoneS, t_heldZoneS, tk_map, dp_map, toNat_pred, appE, rowsOf, List.take_length, List.length_cons, List.length_nil, Nat.zero_add, srow, irow, un_s, un_i, Zone.row, Zone_eta, un_Zone, Pt.row, Pt_eta, un_Pt, Aw.row, Aw_eta, un_Aw, Blk.row, Blk_eta, un_Blk, Sec.row, Sec_eta, un_Sec, Rw.row, Rw_eta, un_Rw, Sky_eta, Sky.row, ms_Zone_len, List.length_map, gSky, gSky', sSky, sSky', gSky0, sSky0, gG, gG', sG, sG', kG, gs1, gs2, gs3, gs4, tkZ, tkM, not_true_eq_false, ne_eq, eq_self, bne_self_eq_false, Int.toNat_natCast, Nat.sub_zero, and_self, hlz, hlv, hn1, apK1, apNew1, apG1, skyV, List.cons_append, List.nil_append, un_Zone']
  refine ⟨_, _, callR_sky (s := s) (a := 611) (b := 613) (c := 614) (d := 612) (kA := 107) (kS := 108) (rest := []) (rest' := []) hI1 K0_in1 (K0_self s) rfl rfl rfl (by simp [plainO, Zone.row, plainL, plainV]) (by simp only [List.forall_mem_cons, fm0, and_true, w_getM0, w_getM1, gSky, gSky', gG, gG', Nat.reduceLT, Nat.reduceEqDiff, reduceIte]) (by simp [refsIn, refsInL, dom]) (by simp [refsInO]) (by simp [No99, No99L, No99LL]) (by simp only [List.forall_mem_cons, fm0, and_true]; exact no99_Zone _), ?_⟩
  simp (config := { maxSteps := 2000000 }) only [bitvec_to_nat, reduceIte, Nat.reduceEqDiff, Nat.reduceAdd, Nat.reduceLeDiff, reduceCtorEq, Nat.reduceBEq, Nat.reduceLT, Nat.reduceMod, List.forall_mem_cons, t_szSky, t_sLapZones, t_eqZoneS, t_heldZoneS, tk_map, dp_map, toNat_pred, appE, rowsOf, List.take_length, List.length_cons, List.length_nil, Nat.zero_add, srow, irow, un_s, un_i, Zone.row, Zone_eta, un_Zone, Pt.row, Pt_eta, un_Pt, Aw.row, Aw_eta, un_Aw, Blk.row, Blk_eta, un_Blk, Sec.row, Sec_eta, un_Sec, Rw.row, Rw_eta, un_Rw, Sky_eta, Sky.row, ms_Zone_len, List.length_map, gSky, gSky', sSky, sSky', gSky0, sSky0, gG, gG', sG, sG', kG, gs1, gs2, gs3, gs4, tkZ, tkM, not_true_eq_false, ne_eq, eq_self, bne_self_eq_false, Int.toNat_natCast, Nat.sub_zero, and_self, hlz, hlv, hn1, apK1, apNew1, apG1, skyV, List.cons_append, List.nil_append, un_Zone']
  refine ⟨by omega, _, _, .inr (.inl ⟨rfl, _, rfl, hT, rfl, n9T⟩), ?_⟩
  simp (config := { maxSteps := 2000000 }) only [bitvec_to_nat, reduceIte, Nat.reduceEqDiff, Nat.reduceAdd, Nat.reduceLeDiff, reduceCtorEq, Nat.reduceBEq, Nat.reduceLT, Nat.reduceMod, List.forall_mem_cons, t_szSky, t_sLapZones, t_eqZoneS, t_heldZoneS, tk_map, dp_map, toNat_pred, appE, rowsOf, List.take_length, List.length_cons, List.length_nil, Nat.zero_add, srow, irow, un_s, un_i, Zone.row, Zone_eta, un_Zone, Pt.row, Pt_eta, un_Pt, Aw.row, Aw_eta, un_Aw, Blk.row, Blk_eta, un_Blk, Sec.row, Sec_eta, un_Sec, Rw.row, Rw_eta, un_Rw, Sky_eta, Sky.row, ms_Zone_len, List.length_map, gSky, gSky', sSky, sSky', gSky0, sSky0, gG, gG', sG, sG', kG, gs1, gs2, gs3, gs4, tkZ, tkM, not_true_eq_false, ne_eq, eq_self, bne_self_eq_false, Int.toNat_natCast, Nat.sub_zero, and_self, hlz, hlv, hn1, apK1, apNew1, apG1, skyV, List.cons_append, List.nil_append, un_Zone']
  refine ⟨_, _, callR_sky (s := s) (a := 611) (b := 613) (c := 614) (d := 612) (kA := 107) (kS := 108) (news := []) (r := .bool true) (rest' := [.agg (s.row 0)]) (by simp only [tag0L, tag_sky]; exact hEq) K0_in1 (K0_self s) rfl (by simp only [no98L, no98_sky 0 (by omega), Bool.and_self]) rfl rfl (by simp) rfl rfl trivial (by simp), ?_⟩
  simp (config := { maxSteps := 2000000 }) only [bitvec_to_nat, reduceIte, Nat.reduceEqDiff, Nat.reduceAdd, Nat.reduceLeDiff, reduceCtorEq, Nat.reduceBEq, Nat.reduceLT, Nat.reduceMod, List.forall_mem_cons, t_szSky, t_sLapZones, t_eqZoneS, t_heldZoneS, tk_map, dp_map, toNat_pred, appE, rowsOf, List.take_length, List.length_cons, List.length_nil, Nat.zero_add, srow, irow, un_s, un_i, Zone.row, Zone_eta, un_Zone, Pt.row, Pt_eta, un_Pt, Aw.row, Aw_eta, un_Aw, Blk.row, Blk_eta, un_Blk, Sec.row, Sec_eta, un_Sec, Rw.row, Rw_eta, un_Rw, Sky_eta, Sky.row, ms_Zone_len, List.length_map, gSky, gSky', sSky, sSky', gSky0, sSky0, gG, gG', sG, sG', kG, gs1, gs2, gs3, gs4, tkZ, tkM, not_true_eq_false, ne_eq, eq_self, bne_self_eq_false, Int.toNat_natCast, Nat.sub_zero, and_self, hlz, hlv, hn1, apK1, apNew1, apG1, skyV, List.cons_append, List.nil_append, un_Zone']
  refine ⟨_, _, callR_gone hMk K0_in1 K0_ref2 sky_refs rfl, ?_⟩
  simp (config := { maxSteps := 2000000 }) only [bitvec_to_nat, reduceIte, Nat.reduceEqDiff, Nat.reduceAdd, Nat.reduceLeDiff, reduceCtorEq, Nat.reduceBEq, Nat.reduceLT, Nat.reduceMod, List.forall_mem_cons, t_szSky, t_sLapZones, t_eqZoneS, t_heldZoneS, tk_map, dp_map, toNat_pred, appE, rowsOf, List.take_length, List.length_cons, List.length_nil, Nat.zero_add, srow, irow, un_s, un_i, Zone.row, Zone_eta, un_Zone, Pt.row, Pt_eta, un_Pt, Aw.row, Aw_eta, un_Aw, Blk.row, Blk_eta, un_Blk, Sec.row, Sec_eta, un_Sec, Rw.row, Rw_eta, un_Rw, Sky_eta, Sky.row, ms_Zone_len, List.length_map, gSky, gSky', sSky, sSky', gSky0, sSky0, gG, gG', sG, sG', kG, gs1, gs2, gs3, gs4, tkZ, tkM, not_true_eq_false, ne_eq, eq_self, bne_self_eq_false, Int.toNat_natCast, Nat.sub_zero, and_self, hlz, hlv, hn1, apK1, apNew1, apG1, skyV, List.cons_append, List.nil_append, un_Zone']
  refine ⟨fun h => by omega, fun _ => ⟨by omega, _, _, .inl ⟨_, hZ, by simp only [List.forall_mem_cons, fm0, and_true, w_getM0, w_getM1, gSky, gSky', gG, gG', Nat.reduceLT, Nat.reduceEqDiff, reduceIte], by simp [dom], rfl, rfl, rfl, rfl, rfl⟩, ?_⟩⟩
  simp (config := { maxSteps := 2000000 }) only [bitvec_to_nat, reduceIte, Nat.reduceEqDiff, Nat.reduceAdd, Nat.reduceLeDiff, reduceCtorEq, Nat.reduceBEq, Nat.reduceLT, Nat.reduceMod, List.forall_mem_cons, t_szSky, t_sLapZones, t_eqZoneS, t_heldZoneS, tk_map, dp_map, toNat_pred, appE, rowsOf, List.take_length, List.length_cons, List.length_nil, Nat.zero_add, srow, irow, un_s, un_i, Zone.row, Zone_eta, un_Zone, Pt.row, Pt_eta, un_Pt, Aw.row, Aw_eta, un_Aw, Blk.row, Blk_eta, un_Blk, Sec.row, Sec_eta, un_Sec, Rw.row, Rw_eta, un_Rw, Sky_eta, Sky.row, ms_Zone_len, List.length_map, gSky, gSky', sSky, sSky', gSky0, sSky0, gG, gG', sG, sG', kG, gs1, gs2, gs3, gs4, tkZ, tkM, not_true_eq_false, ne_eq, eq_self, bne_self_eq_false, Int.toNat_natCast, Nat.sub_zero, and_self, hlz, hlv, hn1, apK1, apNew1, apG1, skyV, List.cons_append, List.nil_append, un_Zone']
  refine ⟨by omega, fun h => by omega, fun _ => ⟨_, _, .inr (.inl ⟨rfl, _, rfl, hT, rfl, n9T⟩), ?_⟩⟩
  simp (config := { maxSteps := 2000000 }) only [bitvec_to_nat, reduceIte, Nat.reduceEqDiff, Nat.reduceAdd, Nat.reduceLeDiff, reduceCtorEq, Nat.reduceBEq, Nat.reduceLT, Nat.reduceMod, List.forall_mem_cons, t_szSky, t_sLapZones, t_eqZoneS, t_heldZoneS, tk_map, dp_map, toNat_pred, appE, rowsOf, List.take_length, List.length_cons, List.length_nil, Nat.zero_add, srow, irow, un_s, un_i, Zone.row, Zone_eta, un_Zone, Pt.row, Pt_eta, un_Pt, Aw.row, Aw_eta, un_Aw, Blk.row, Blk_eta, un_Blk, Sec.row, Sec_eta, un_Sec, Rw.row, Rw_eta, un_Rw, Sky_eta, Sky.row, ms_Zone_len, List.length_map, gSky, gSky', sSky, sSky', gSky0, sSky0, gG, gG', sG, sG', kG, gs1, gs2, gs3, gs4, tkZ, tkM, not_true_eq_false, ne_eq, eq_self, bne_self_eq_false, Int.toNat_natCast, Nat.sub_zero, and_self, hlz, hlv, hn1, apK1, apNew1, apG1, skyV, List.cons_append, List.nil_append, un_Zone']
  refine ⟨_, _, .inr (.inr (.inl ⟨_, rfl, hI2, by simp only [List.forall_mem_cons, fm0, and_true, w_getM0, w_getM1, gSky, gSky', gG, gG', Nat.reduceLT, Nat.reduceEqDiff, reduceIte], by simp [refsIn, refsInL, dom], rfl, by simp [No99, No99L, No99LL], by simp only [List.forall_mem_cons, fm0, and_true]; exact no99_Zone _⟩)), ?_⟩
  simp (config := { maxSteps := 2000000 }) only [bitvec_to_nat, reduceIte, Nat.reduceEqDiff, Nat.reduceAdd, Nat.reduceLeDiff, reduceCtorEq, Nat.reduceBEq, Nat.reduceLT, Nat.reduceMod, List.forall_mem_cons, t_szSky, t_sLapZones, t_eqZoneS, t_heldZoneS, tk_map, dp_map, toNat_pred, appE, rowsOf, List.take_length, List.length_cons, List.length_nil, Nat.zero_add, srow, irow, un_s, un_i, Zone.row, Zone_eta, un_Zone, Pt.row, Pt_eta, un_Pt, Aw.row, Aw_eta, un_Aw, Blk.row, Blk_eta, un_Blk, Sec.row, Sec_eta, un_Sec, Rw.row, Rw_eta, un_Rw, Sky_eta, Sky.row, ms_Zone_len, List.length_map, gSky, gSky', sSky, sSky', gSky0, sSky0, gG, gG', sG, sG', kG, gs1, gs2, gs3, gs4, tkZ, tkM, not_true_eq_false, ne_eq, eq_self, bne_self_eq_false, Int.toNat_natCast, Nat.sub_zero, and_self, hlz, hlv, hn1, apK1, apNew1, apG1, skyV, List.cons_append, List.nil_append, un_Zone']
  exact ⟨by omega, ⟨by omega, by omega, by omega⟩, fun h => by omega⟩

set_option maxHeartbeats 8000000 in
theorem c_lawZN (s : Sky) (hf : s.fitp) (hv : ¬ lzV s) : Contract P 7 [.agg (s.row 1)] [] (.bool true) [] := by
  have hlz : lzR s = [] := if_neg hv
  have hlv : decide (lzV s) = false := by simp [hv]
  have tkZ : True := trivial
  have tkM : True := trivial
  have z2 : Sky.sz s 1048576 ≤ 1048576 := by have := (meas_Sky s 1048576 (by omega)).2.2; omega
  generalize hn1 : Sky.sz s 1048576 = n1 at *
  simp only [Sky.row]
  refine fn_sound (((((Env.nil P).add 12 t_szSky h_szSky).add 24 t_sLapZones h_sLapZones).add 26 t_eqZoneS h_eqZoneS).add 29 t_heldZoneS h_heldZoneS) hm k_laws_FnExactLapZones (Nat.le_of_ble_eq_true rfl) rfl ?_; unfold s_laws_FnExactLapZones; simp (config := { maxSteps := 2000000 }) only [bitvec_to_nat, reduceIte, Nat.reduceEqDiff, Nat.reduceAdd, Nat.reduceLeDiff, reduceCtorEq, Nat.reduceBEq, Nat.reduceLT, Nat.reduceMod, List.forall_mem_cons, t_szSky, t_sLapZones, t_eqZoneS, t_heldZoneS, tk_map, dp_map, toNat_pred, appE, rowsOf, List.take_length, List.length_cons, List.length_nil, Nat.zero_add, srow, irow, un_s, un_i, Zone.row, Zone_eta, un_Zone, Pt.row, Pt_eta, un_Pt, Aw.row, Aw_eta, un_Aw, Blk.row, Blk_eta, un_Blk, Sec.row, Sec_eta, un_Sec, Rw.row, Rw_eta, un_Rw, Sky_eta, Sky.row, ms_Zone_len, List.length_map, gSky, gSky', sSky, sSky', gSky0, sSky0, gG, gG', sG, sG', kG, gs1, gs2, gs3, gs4, tkZ, tkM, not_true_eq_false, ne_eq, eq_self, bne_self_eq_false, Int.toNat_natCast, Nat.sub_zero, and_self, hlz, hlv, hn1, apK1, apNew1, apG1, skyV, List.cons_append, List.nil_append, un_Zone']
  refine ⟨⟨by omega, hf⟩, fun g1 => ?_⟩
  have hs : s.small := Sky.sz_ok (a := 1048576) (by omega) (by omega)
  have hsm := hs
  unfold Sky.small at hsm
  have hT := c_toSky s hs
  have n9T : No99 (.agg (s.row 0)) := by simp [Sky.row, No99, No99L, no99_Pt, no99_Aw, no99_Sec, no99_Rw]
  have hTO := toSkyK s hs
  have hEq := eqSkyC s hs
  have hMk := markSkyK 1 s hs (by omega)
  simp only [Sky.row] at hT n9T hTO
  have hI1 := c_iLapN s hs hf hv
  refine ⟨_, _, .inr (.inl ⟨rfl, _, rfl, hT, rfl, n9T⟩), ?_⟩
  simp (config := { maxSteps := 2000000 }) only [bitvec_to_nat, reduceIte, Nat.reduceEqDiff, Nat.reduceAdd, Nat.reduceLeDiff, reduceCtorEq, Nat.reduceBEq, Nat.reduceLT, Nat.reduceMod, List.forall_mem_cons, t_szSky, t_sLapZones, t_eqZoneS, t_heldZoneS, tk_map, dp_map, toNat_pred, appE, rowsOf, List.take_length, List.length_cons, List.length_nil, Nat.zero_add, srow, irow, un_s, un_i, Zone.row, Zone_eta, un_Zone, Pt.row, Pt_eta, un_Pt, Aw.row, Aw_eta, un_Aw, Blk.row, Blk_eta, un_Blk, Sec.row, Sec_eta, un_Sec, Rw.row, Rw_eta, un_Rw, Sky_eta, Sky.row, ms_Zone_len, List.length_map, gSky, gSky', sSky, sSky', gSky0, sSky0, gG, gG', sG, sG', kG, gs1, gs2, gs3, gs4, tkZ, tkM, not_true_eq_false, ne_eq, eq_self, bne_self_eq_false, Int.toNat_natCast, Nat.sub_zero, and_self, hlz, hlv, hn1, apK1, apNew1, apG1, skyV, List.cons_append, List.nil_append, un_Zone']
  refine ⟨hs, ?_⟩
  refine ⟨_, _, .inr (.inr (.inl ⟨_, rfl, hTO, K0r_new (by simp), K0r_refV, K0r_refs, by simp [skyV, No99, No99L], K0_99⟩)), ?_⟩
  simp (config := { maxSteps := 2000000 }) only [bitvec_to_nat, reduceIte, Nat.reduceEqDiff, Nat.reduceAdd, Nat.reduceLeDiff, reduceCtorEq, Nat.reduceBEq, Nat.reduceLT, Nat.reduceMod, List.forall_mem_cons, t_szSky, t_sLapZones, t_eqZoneS, t_heldZoneS, tk_map, dp_map, toNat_pred, appE, rowsOf, List.take_length, List.length_cons, List.length_nil, Nat.zero_add, srow, irow, un_s, un_i, Zone.row, Zone_eta, un_Zone, Pt.row, Pt_eta, un_Pt, Aw.row, Aw_eta, un_Aw, Blk.row, Blk_eta, un_Blk, Sec.row, Sec_eta, un_Sec, Rw.row, Rw_eta, un_Rw, Sky_eta, Sky.row, ms_Zone_len, List.length_map, gSky, gSky', sSky, sSky', gSky0, sSky0, gG, gG', sG, sG', kG, gs1, gs2, gs3, gs4, tkZ, tkM, not_true_eq_false, ne_eq, eq_self, bne_self_eq_false, Int.toNat_natCast, Nat.sub_zero, and_self, hlz, hlv, hn1, apK1, apNew1, apG1, skyV, List.cons_append, List.nil_append, un_Zone']
  refine ⟨_, _, callR_sky (s := s) (a := 611) (b := 613) (c := 614) (d := 612) (kA := 107) (kS := 108) (rest := []) (rest' := []) hI1 K0_in1 (K0_self s) rfl rfl rfl (rfl) (by simp) (by simp [refsIn, refsInL, dom]) (by simp [refsInO]) (by simp [No99, No99L, No99LL]) (by simp), ?_⟩
  simp (config := { maxSteps := 2000000 }) only [bitvec_to_nat, reduceIte, Nat.reduceEqDiff, Nat.reduceAdd, Nat.reduceLeDiff, reduceCtorEq, Nat.reduceBEq, Nat.reduceLT, Nat.reduceMod, List.forall_mem_cons, t_szSky, t_sLapZones, t_eqZoneS, t_heldZoneS, tk_map, dp_map, toNat_pred, appE, rowsOf, List.take_length, List.length_cons, List.length_nil, Nat.zero_add, srow, irow, un_s, un_i, Zone.row, Zone_eta, un_Zone, Pt.row, Pt_eta, un_Pt, Aw.row, Aw_eta, un_Aw, Blk.row, Blk_eta, un_Blk, Sec.row, Sec_eta, un_Sec, Rw.row, Rw_eta, un_Rw, Sky_eta, Sky.row, ms_Zone_len, List.length_map, gSky, gSky', sSky, sSky', gSky0, sSky0, gG, gG', sG, sG', kG, gs1, gs2, gs3, gs4, tkZ, tkM, not_true_eq_false, ne_eq, eq_self, bne_self_eq_false, Int.toNat_natCast, Nat.sub_zero, and_self, hlz, hlv, hn1, apK1, apNew1, apG1, skyV, List.cons_append, List.nil_append, un_Zone']
  refine ⟨_, _, .inr (.inl ⟨rfl, _, rfl, hT, rfl, n9T⟩), ?_⟩
  simp (config := { maxSteps := 2000000 }) only [bitvec_to_nat, reduceIte, Nat.reduceEqDiff, Nat.reduceAdd, Nat.reduceLeDiff, reduceCtorEq, Nat.reduceBEq, Nat.reduceLT, Nat.reduceMod, List.forall_mem_cons, t_szSky, t_sLapZones, t_eqZoneS, t_heldZoneS, tk_map, dp_map, toNat_pred, appE, rowsOf, List.take_length, List.length_cons, List.length_nil, Nat.zero_add, srow, irow, un_s, un_i, Zone.row, Zone_eta, un_Zone, Pt.row, Pt_eta, un_Pt, Aw.row, Aw_eta, un_Aw, Blk.row, Blk_eta, un_Blk, Sec.row, Sec_eta, un_Sec, Rw.row, Rw_eta, un_Rw, Sky_eta, Sky.row, ms_Zone_len, List.length_map, gSky, gSky', sSky, sSky', gSky0, sSky0, gG, gG', sG, sG', kG, gs1, gs2, gs3, gs4, tkZ, tkM, not_true_eq_false, ne_eq, eq_self, bne_self_eq_false, Int.toNat_natCast, Nat.sub_zero, and_self, hlz, hlv, hn1, apK1, apNew1, apG1, skyV, List.cons_append, List.nil_append, un_Zone']
  refine ⟨_, _, callR_sky (s := s) (a := 611) (b := 613) (c := 614) (d := 612) (kA := 107) (kS := 108) (news := []) (r := .bool true) (rest' := [.agg (s.row 0)]) (by simp only [tag0L, tag_sky]; exact hEq) K0_in1 (K0_self s) rfl (by simp only [no98L, no98_sky 0 (by omega), Bool.and_self]) rfl rfl (by simp) rfl rfl trivial (by simp), ?_⟩
  simp (config := { maxSteps := 2000000 }) only [bitvec_to_nat, reduceIte, Nat.reduceEqDiff, Nat.reduceAdd, Nat.reduceLeDiff, reduceCtorEq, Nat.reduceBEq, Nat.reduceLT, Nat.reduceMod, List.forall_mem_cons, t_szSky, t_sLapZones, t_eqZoneS, t_heldZoneS, tk_map, dp_map, toNat_pred, appE, rowsOf, List.take_length, List.length_cons, List.length_nil, Nat.zero_add, srow, irow, un_s, un_i, Zone.row, Zone_eta, un_Zone, Pt.row, Pt_eta, un_Pt, Aw.row, Aw_eta, un_Aw, Blk.row, Blk_eta, un_Blk, Sec.row, Sec_eta, un_Sec, Rw.row, Rw_eta, un_Rw, Sky_eta, Sky.row, ms_Zone_len, List.length_map, gSky, gSky', sSky, sSky', gSky0, sSky0, gG, gG', sG, sG', kG, gs1, gs2, gs3, gs4, tkZ, tkM, not_true_eq_false, ne_eq, eq_self, bne_self_eq_false, Int.toNat_natCast, Nat.sub_zero, and_self, hlz, hlv, hn1, apK1, apNew1, apG1, skyV, List.cons_append, List.nil_append, un_Zone']
  refine ⟨_, _, callR_gone hMk K0_in1 K0_ref2 sky_refs rfl, ?_⟩
  simp (config := { maxSteps := 2000000 }) only [bitvec_to_nat, reduceIte, Nat.reduceEqDiff, Nat.reduceAdd, Nat.reduceLeDiff, reduceCtorEq, Nat.reduceBEq, Nat.reduceLT, Nat.reduceMod, List.forall_mem_cons, t_szSky, t_sLapZones, t_eqZoneS, t_heldZoneS, tk_map, dp_map, toNat_pred, appE, rowsOf, List.take_length, List.length_cons, List.length_nil, Nat.zero_add, srow, irow, un_s, un_i, Zone.row, Zone_eta, un_Zone, Pt.row, Pt_eta, un_Pt, Aw.row, Aw_eta, un_Aw, Blk.row, Blk_eta, un_Blk, Sec.row, Sec_eta, un_Sec, Rw.row, Rw_eta, un_Rw, Sky_eta, Sky.row, ms_Zone_len, List.length_map, gSky, gSky', sSky, sSky', gSky0, sSky0, gG, gG', sG, sG', kG, gs1, gs2, gs3, gs4, tkZ, tkM, not_true_eq_false, ne_eq, eq_self, bne_self_eq_false, Int.toNat_natCast, Nat.sub_zero, and_self, hlz, hlv, hn1, apK1, apNew1, apG1, skyV, List.cons_append, List.nil_append, un_Zone']
  refine ⟨fun h => by omega, fun _ => ⟨_, _, .inr (.inl ⟨rfl, _, rfl, c_markNZoneS 98 1, rfl, trivial⟩), ?_⟩⟩
  simp (config := { maxSteps := 2000000 }) only [bitvec_to_nat, reduceIte, Nat.reduceEqDiff, Nat.reduceAdd, Nat.reduceLeDiff, reduceCtorEq, Nat.reduceBEq, Nat.reduceLT, Nat.reduceMod, List.forall_mem_cons, t_szSky, t_sLapZones, t_eqZoneS, t_heldZoneS, tk_map, dp_map, toNat_pred, appE, rowsOf, List.take_length, List.length_cons, List.length_nil, Nat.zero_add, srow, irow, un_s, un_i, Zone.row, Zone_eta, un_Zone, Pt.row, Pt_eta, un_Pt, Aw.row, Aw_eta, un_Aw, Blk.row, Blk_eta, un_Blk, Sec.row, Sec_eta, un_Sec, Rw.row, Rw_eta, un_Rw, Sky_eta, Sky.row, ms_Zone_len, List.length_map, gSky, gSky', sSky, sSky', gSky0, sSky0, gG, gG', sG, sG', kG, gs1, gs2, gs3, gs4, tkZ, tkM, not_true_eq_false, ne_eq, eq_self, bne_self_eq_false, Int.toNat_natCast, Nat.sub_zero, and_self, hlz, hlv, hn1, apK1, apNew1, apG1, skyV, List.cons_append, List.nil_append, un_Zone']
  refine ⟨⟨rfl, by omega, by omega⟩, fun h => by omega, fun _ => ⟨fun h => by omega, fun _ => ⟨_, _, .inr (.inl ⟨rfl, _, rfl, hT, rfl, n9T⟩), ?_⟩⟩⟩
  simp (config := { maxSteps := 2000000 }) only [bitvec_to_nat, reduceIte, Nat.reduceEqDiff, Nat.reduceAdd, Nat.reduceLeDiff, reduceCtorEq, Nat.reduceBEq, Nat.reduceLT, Nat.reduceMod, List.forall_mem_cons, t_szSky, t_sLapZones, t_eqZoneS, t_heldZoneS, tk_map, dp_map, toNat_pred, appE, rowsOf, List.take_length, List.length_cons, List.length_nil, Nat.zero_add, srow, irow, un_s, un_i, Zone.row, Zone_eta, un_Zone, Pt.row, Pt_eta, un_Pt, Aw.row, Aw_eta, un_Aw, Blk.row, Blk_eta, un_Blk, Sec.row, Sec_eta, un_Sec, Rw.row, Rw_eta, un_Rw, Sky_eta, Sky.row, ms_Zone_len, List.length_map, gSky, gSky', sSky, sSky', gSky0, sSky0, gG, gG', sG, sG', kG, gs1, gs2, gs3, gs4, tkZ, tkM, not_true_eq_false, ne_eq, eq_self, bne_self_eq_false, Int.toNat_natCast, Nat.sub_zero, and_self, hlz, hlv, hn1, apK1, apNew1, apG1, skyV, List.cons_append, List.nil_append, un_Zone']
  refine ⟨_, _, .inr (.inl ⟨rfl, _, rfl, hI1, rfl, by simp [No99, No99L, No99LL]⟩), ?_⟩
  simp (config := { maxSteps := 2000000 }) only [bitvec_to_nat, reduceIte, Nat.reduceEqDiff, Nat.reduceAdd, Nat.reduceLeDiff, reduceCtorEq, Nat.reduceBEq, Nat.reduceLT, Nat.reduceMod, List.forall_mem_cons, t_szSky, t_sLapZones, t_eqZoneS, t_heldZoneS, tk_map, dp_map, toNat_pred, appE, rowsOf, List.take_length, List.length_cons, List.length_nil, Nat.zero_add, srow, irow, un_s, un_i, Zone.row, Zone_eta, un_Zone, Pt.row, Pt_eta, un_Pt, Aw.row, Aw_eta, un_Aw, Blk.row, Blk_eta, un_Blk, Sec.row, Sec_eta, un_Sec, Rw.row, Rw_eta, un_Rw, Sky_eta, Sky.row, ms_Zone_len, List.length_map, gSky, gSky', sSky, sSky', gSky0, sSky0, gG, gG', sG, sG', kG, gs1, gs2, gs3, gs4, tkZ, tkM, not_true_eq_false, ne_eq, eq_self, bne_self_eq_false, Int.toNat_natCast, Nat.sub_zero, and_self, hlz, hlv, hn1, apK1, apNew1, apG1, skyV, List.cons_append, List.nil_append, un_Zone']
  refine ⟨⟨rfl, by omega, by omega⟩, fun h => by omega, fun _ h => by omega⟩

theorem c_FnExactLapZones (s : Sky) (hf : s.fitp) : Contract P 7 [.agg (s.row 1)] [] (.bool true) [] := by
  by_cases hv : lzV s
  · exact c_lawZ s hf hv
  · exact c_lawZN s hf hv
end
end Go.Ve

namespace Go.Ve
noncomputable section
open Go.Proofs
set_option linter.unusedSimpArgs false
set_option linter.unusedVariables false
set_option maxRecDepth 100000
open Go.ChangeShapes Go.WideShapes
theorem fit_rows {α : Type} {f : α → List AV} {rs : List LSh} (h : ∀ r, fitsL rs r → ∃ x : α, r = f x) : ∀ {rows : List (List AV)}, (∀ r ∈ rows, fitsL rs r) → ∃ l : List α, rows = l.map f
  | [], _ => ⟨[], rfl⟩
  | r :: rows, k => by
    obtain ⟨x, rfl⟩ := h r (k r (by simp))
    obtain ⟨l, rfl⟩ := fit_rows h (rows := rows) fun r' h' => k r' (by simp [h'])
    exact ⟨x :: l, rfl⟩
def sh_ByteArray : List LSh := [.str]
theorem fit_ByteArray (r : List AV) (h : fitsL sh_ByteArray r) : ∃ x : ByteArray, r = srow x ∧ x.toList.length ≤ 9223372036854775807 := by
  simp only [sh_ByteArray, fitsL, fits] at h
  obtain ⟨_, _, rfl, ⟨n, rfl, h⟩, rfl⟩ := h
  exact ⟨n, rfl, by rw [← toList_size]; unfold maxLen at h; omega⟩
def sh_Pt : List LSh := [.str, .int .i64, .int .i64]
theorem fit_Pt (r : List AV) (h : fitsL sh_Pt r) : ∃ x : Pt, r = Pt.row x ∧ x.fitp := by
  simp only [sh_Pt, fitsL, fits] at h
  obtain ⟨_, _, rfl, ⟨nm, rfl, h_nm⟩, _, _, rfl, ⟨x, rfl, _⟩, _, _, rfl, ⟨y, rfl, _⟩, rfl⟩ := h

  exact ⟨⟨nm, x, y⟩, rfl, (by have e := toList_size nm; unfold maxLen at h_nm; show nm.toList.length ≤ _; omega)⟩
def sh_Blk : List LSh := [.int .i64, .int .i64, .int .i64, .int .i64, .int .i64, .int .i64]
theorem fit_Blk (r : List AV) (h : fitsL sh_Blk r) : ∃ x : Blk, r = Blk.row x := by
  simp only [sh_Blk, fitsL, fits] at h
  obtain ⟨_, _, rfl, ⟨x0, rfl, _⟩, _, _, rfl, ⟨y0, rfl, _⟩, _, _, rfl, ⟨x1, rfl, _⟩, _, _, rfl, ⟨y1, rfl, _⟩, _, _, rfl, ⟨lo, rfl, _⟩, _, _, rfl, ⟨hi, rfl, _⟩, rfl⟩ := h

  exact ⟨⟨x0, y0, x1, y1, lo, hi⟩, rfl⟩
def sh_Rw : List LSh := [.str, .int .i64, .int .i64, .int .i64]
theorem fit_Rw (r : List AV) (h : fitsL sh_Rw r) : ∃ x : Rw, r = Rw.row x ∧ x.fitp := by
  simp only [sh_Rw, fitsL, fits] at h
  obtain ⟨_, _, rfl, ⟨nm, rfl, h_nm⟩, _, _, rfl, ⟨x, rfl, _⟩, _, _, rfl, ⟨y, rfl, _⟩, _, _, rfl, ⟨tn, rfl, _⟩, rfl⟩ := h

  exact ⟨⟨nm, x, y, tn⟩, rfl, (by have e := toList_size nm; unfold maxLen at h_nm; show nm.toList.length ≤ _; omega)⟩
def sh_Aw : List LSh := [.str, .sl sh_ByteArray]
theorem fit_Aw (r : List AV) (h : fitsL sh_Aw r) : ∃ x : Aw, r = (Aw.row 1) x ∧ x.fitp := by
  simp only [sh_Aw, fitsL, fits] at h
  obtain ⟨_, _, rfl, ⟨nm, rfl, h_nm⟩, _, _, rfl, ⟨pts, rfl, h_pts, r_pts⟩, rfl⟩ := h
  obtain ⟨pts, rfl, p_pts⟩ := fit_rows2 fit_ByteArray r_pts
  rw [List.length_map] at h_pts
  exact ⟨⟨nm, pts⟩, rfl, ⟨(by have e := toList_size nm; unfold maxLen at h_nm; show nm.toList.length ≤ _; omega), ⟨(by unfold maxLen at h_pts; omega), p_pts⟩⟩⟩
def sh_Sec : List LSh := [.str, .sl sh_Blk]
theorem fit_Sec (r : List AV) (h : fitsL sh_Sec r) : ∃ x : Sec, r = (Sec.row 1) x ∧ x.fitp := by
  simp only [sh_Sec, fitsL, fits] at h
  obtain ⟨_, _, rfl, ⟨nm, rfl, h_nm⟩, _, _, rfl, ⟨bl, rfl, h_bl, r_bl⟩, rfl⟩ := h
  obtain ⟨bl, rfl⟩ := fit_rows fit_Blk r_bl
  rw [List.length_map] at h_bl
  exact ⟨⟨nm, bl⟩, rfl, ⟨(by have e := toList_size nm; unfold maxLen at h_nm; show nm.toList.length ≤ _; omega), (by unfold maxLen at h_bl; omega)⟩⟩
def sh_Sky : List LSh := [.int .i64, .int .i64, .int .i64, .sl sh_Pt, .sl sh_Aw, .sl sh_Sec, .sl sh_Rw]
theorem fit_Sky (r : List AV) (h : fitsL sh_Sky r) : ∃ x : Sky, r = (Sky.row 1) x ∧ x.fitp := by
  simp only [sh_Sky, fitsL, fits] at h
  obtain ⟨_, _, rfl, ⟨w, rfl, _⟩, _, _, rfl, ⟨h, rfl, _⟩, _, _, rfl, ⟨lv, rfl, _⟩, _, _, rfl, ⟨pts, rfl, h_pts, r_pts⟩, _, _, rfl, ⟨aws, rfl, h_aws, r_aws⟩, _, _, rfl, ⟨secs, rfl, h_secs, r_secs⟩, _, _, rfl, ⟨rws, rfl, h_rws, r_rws⟩, rfl⟩ := h
  obtain ⟨pts, rfl, p_pts⟩ := fit_rows2 fit_Pt r_pts
  rw [List.length_map] at h_pts
  obtain ⟨aws, rfl, p_aws⟩ := fit_rows2 fit_Aw r_aws
  rw [List.length_map] at h_aws
  obtain ⟨secs, rfl, p_secs⟩ := fit_rows2 fit_Sec r_secs
  rw [List.length_map] at h_secs
  obtain ⟨rws, rfl, p_rws⟩ := fit_rows2 fit_Rw r_rws
  rw [List.length_map] at h_rws
  exact ⟨⟨w, h, lv, pts, aws, secs, rws⟩, rfl, ⟨⟨(by unfold maxLen at h_pts; omega), p_pts⟩, ⟨(by unfold maxLen at h_aws; omega), p_aws⟩, ⟨(by unfold maxLen at h_secs; omega), p_secs⟩, ⟨(by unfold maxLen at h_rws; omega), p_rws⟩⟩⟩
end
end Go.Ve


