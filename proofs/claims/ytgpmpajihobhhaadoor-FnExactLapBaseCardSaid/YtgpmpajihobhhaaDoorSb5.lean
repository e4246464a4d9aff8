/- Part 5 of the proof: laws and contracts of functions, each proved; they are joined in the last part. No conditions beyond those that the theorems state. -/
import Derived.Test.YtgpmpajihobhhaaDoorProg
import Derived.Test.YtgpmpajihobhhaaDoorSb4
set_option linter.all false
namespace Go.Ve
noncomputable section
open Go.Proofs
set_option linter.unusedSimpArgs false
set_option linter.unusedVariables false
set_option maxRecDepth 100000
def dch (i : Nat) : ByteArray := ⟨#[byteOf [AV.int .u8 (IntKind.u8.wrap (48 + (i : Int) % 10))]]⟩
theorem dch_eq (i : Nat) : bytesOf [[AV.int .u8 (IntKind.u8.wrap (48 + (i : Int) % 10))]] = dch i := rfl
def dg (k : Nat) (o : ByteArray) : ByteArray := if h : k = 0 then o else dg (k / 10) (dch k ++ o)
termination_by k
decreasing_by omega
theorem dg_zero (o : ByteArray) : dg 0 o = o := by rw [dg]; simp
theorem dg_step {k : Nat} (o : ByteArray) (h : 0 < k) : dg k o = dg (k / 10) (dch k ++ o) := by rw [dg]; simp [show k ≠ 0 by omega]
def mtx (k : Int) : ByteArray := if k ≤ 0 then ⟨#[109, 48]⟩ else ⟨#[109]⟩ ++ dg k.toNat ⟨#[]⟩
theorem dch_len (i : Nat) : (dch i).toList.length = 1 := by rw [← toList_size]; rfl
theorem app_len (a b : ByteArray) : (a ++ b).toList.length = a.toList.length + b.toList.length := by simp only [← toList_size, ByteArray.size_append]
theorem byte_ok (w : Int) : isByte [AV.int .u8 (IntKind.u8.wrap w)] = true := by
  simp [isByte, IntKind.wrap, IntKind.bits, IntKind.signed]
  try omega
theorem m_len : (⟨#[109]⟩ : ByteArray).toList.length = 1 := by rw [← toList_size]; rfl
theorem e_len : (⟨#[]⟩ : ByteArray).toList.length = 0 := by rw [← toList_size]; rfl
theorem c_markText (k : Int) (hk : 0 ≤ k ∧ k ≤ 1152921504606846976) : Contract P 100 [.int .i64 k] [] (.str (mtx k)) [] := by
  refine fn_sound (Env.nil P) hm k_laws_markText (Nat.le_of_ble_eq_true rfl) rfl ?_; unfold s_laws_markText; simp (config := { maxSteps := 2000000 }) only [bitvec_to_nat, reduceIte, Nat.reduceEqDiff, Nat.reduceAdd, Nat.reduceLeDiff, reduceCtorEq, Nat.reduceBEq, Nat.reduceLT, Nat.reduceMod, List.forall_mem_cons, Nat.zero_add, un_s, List.map_cons, List.map_nil, rowsOf, dch_eq]
  refine ⟨fun h => by rw [mtx, if_pos h], fun hp => ?_⟩
  have hkk : ((k.toNat : Nat) : Int) = k := by omega
  refine loop_st (fun a : Nat × ByteArray => [(0, .int .i64 a.1), (3, .str a.2)]) (fun _ => []) (fun a => dg a.1 a.2 = dg k.toNat ⟨#[]⟩ ∧ a.2.toList.length + a.1 ≤ 1152921504606846976) (fun a => a.1) (k.toNat, ⟨#[]⟩) (by simp only [hkk]; simp only [u_E0, u_E1, u_M0, u_M1, w_setE0, w_setE1, w_setM0, w_setM1, reduceIte, Nat.reduceEqDiff]; exact ⟨by repeat' (first | exact trivial | refine ⟨.inr rfl, ?_⟩), by repeat' (first | exact trivial | refine ⟨rfl, ?_⟩), by first | rfl | simp [closedB, refsIn, refsInL, refsInO, dom, refsInL_nr, *], by first | rfl | simp [keepB, dom]⟩) ⟨rfl, by simp only [e_len]; omega⟩ ?_
  rintro ⟨i, s⟩ ⟨h1, h2⟩ NX hN
  simp only at h1 h2
  unfold l_laws_markText_0; simp (config := { maxSteps := 2000000 }) only [bitvec_to_nat, reduceIte, Nat.reduceEqDiff, Nat.reduceAdd, Nat.reduceLeDiff, reduceCtorEq, Nat.reduceBEq, Nat.reduceLT, Nat.reduceMod, List.forall_mem_cons, Nat.zero_add, un_s, List.map_cons, List.map_nil, rowsOf, dch_eq]
  refine ⟨fun g => ⟨by omega, by omega, by simp only [List.all_cons, List.all_nil, byte_ok, Bool.and_true], ?_⟩, fun g => ?_⟩
  · have e1 := dch_len i
    refine ⟨by rw [e1]; omega, by omega, ?_⟩
    have e2 : ((i : Int) / 10) = ((i / 10 : Nat) : Int) := by omega
    simp only [e2]
    refine hN (i / 10, dch i ++ s) _ (by simp only [u_E0, u_E1, u_M0, u_M1, w_setE0, w_setE1, w_setM0, w_setM1, reduceIte, Nat.reduceEqDiff]; exact ⟨by repeat' (first | exact trivial | refine ⟨.inr rfl, ?_⟩), by repeat' (first | exact trivial | refine ⟨rfl, ?_⟩), by first | rfl | simp [closedB, refsIn, refsInL, refsInO, dom, refsInL_nr, *], by first | rfl | simp [keepB, dom]⟩) ?_ ?_
    · exact ⟨by rw [← dg_step s (by omega)]; exact h1, by simp only [app_len, e1]; omega⟩
    · simp only; omega
  · have e : i = 0 := by omega
    subst e
    rw [dg_zero] at h1
    refine ⟨by rw [m_len]; omega, ?_⟩
    rw [mtx, if_neg hp, ← h1]
def t_markText : List AV → Option (Prop × AV)
  | [.int .i64 k] => some ((True) ∧ (0 ≤ k ∧ k ≤ 1152921504606846976), .str (mtx k))
  | _ => none
theorem h_markText : ∀ args p v, t_markText args = some (p, v) → p → Contract P 100 args [] v [] ∧ noref v = true ∧ No99 v := by
  intro args p v h1 h2
  unfold t_markText at h1
  split at h1
  · rename_i k
    cases h1
    obtain ⟨_, HP⟩ := h2
    have := c_markText k HP
    exact ⟨this, rfl, trivial⟩
  · cases h1
theorem getD_seti' {α : Type} {l : List α} {i : Nat} {x d : α} (h : i < l.length) : (l.set i x).getD i d = x := by simp [h]
theorem getD_setn' {α : Type} {l : List α} {i j : Nat} {x d : α} (h : i ≠ j) : (l.set i x).getD j d = l.getD j d := by simp [List.getElem?_set_ne h]
def mk_ByteArray (k : Int) : ByteArray := mtx k
def ms_ByteArray (k : Int) (n : Nat) : List ByteArray := (List.range n).map fun j : Nat => mk_ByteArray (k + (j : Int))
theorem ms_ByteArray_len {k : Int} {n : Nat} : (ms_ByteArray k n).length = n := by simp [ms_ByteArray]
theorem ms_ByteArray_get {k : Int} {n j : Nat} (h : j < n) : (ms_ByteArray k n).getD j default = mk_ByteArray (k + (j : Int)) := by simp [ms_ByteArray, h]
theorem setm_ByteArray {l : List ByteArray} {i : Nat} {v : ByteArray} : (l.map srow).set i (setSeg ((l.map srow).getD i []) 0 [.str v]) = (l.set i v).map srow :=
  set_rows (α := ByteArray) (f := srow) (fun _ => v) fun x => by simp [srow, setSeg]
set_option maxHeartbeats 1000000 in
theorem c_markByteArrayS (v : Nat) (k : Int) (a : List ByteArray) (ha : a.length ≤ 1048577) (hk : 0 ≤ k ∧ k ≤ 1125899906842624) : Contract P 45 [.own 3 v 0 a.length, .int .i64 k] [(3, .arr 9 v 1 (a.map srow))] (.int .i64 (k + a.length)) [(3, .arr 9 v 1 ((ms_ByteArray k a.length).map srow))] := by
  have hz : ((0 : Nat) : Int) = 0 := rfl
  have gs : True := trivial
  refine fn_sound ((Env.nil P).add 100 t_markText h_markText) hm k_laws_markStringS (Nat.le_of_ble_eq_true rfl) rfl ?_; unfold s_laws_markStringS; simp (config := { maxSteps := 2000000 }) only [bitvec_to_nat, reduceIte, Nat.reduceEqDiff, Nat.reduceAdd, Nat.reduceLeDiff, reduceCtorEq, Nat.reduceBEq, Nat.reduceLT, Nat.reduceMod, List.forall_mem_cons, retG_ret, retQ_eq, retQ_eqN, retOk, keepB, re_tupl, orr_t, t_markText, setm_ByteArray, List.set_set, gs, irow, srow, Int.toNat_natCast, List.length_map, List.length_set, Nat.sub_zero, Nat.zero_add, hz]
  refine loop_st (fun b : Nat × List ByteArray => [(1, .int .i64 (k + b.1)), (5, .int .i64 b.1)]) (fun b => [(3, .arr 9 v 1 (b.2.map srow))]) (fun b => b.2.length = a.length ∧ b.1 ≤ a.length ∧ ∀ j, j < b.1 → b.2.getD j default = mk_ByteArray (k + (j : Int))) (fun b => a.length - b.1) (0, a) ?_ ⟨rfl, Nat.zero_le _, fun j hj => absurd hj (Nat.not_lt_zero _)⟩ ?_
  · have e0 : k + ((0 : Nat) : Int) = k := by omega
    simp only [e0]
    simp only [u_E0, u_E1, u_M0, u_M1, w_setE0, w_setE1, w_setM0, w_setM1, reduceIte, Nat.reduceEqDiff]; exact ⟨by repeat' (first | exact trivial | refine ⟨.inr rfl, ?_⟩), by repeat' (first | exact trivial | refine ⟨rfl, ?_⟩), by first | rfl | simp [closedB, refsIn, refsInL, refsInO, dom, refsInL_nr, *], by first | rfl | simp [keepB, dom]⟩
  rintro ⟨i, l⟩ ⟨h1, h2, h3⟩ NX hN
  simp only at h1 h2 h3
  have gs : i < a.length → ∀ x : ByteArray, (l.set i x).getD i default = x := fun h x => getD_seti' (by omega)
  by_cases hi : i < a.length
  · have gs := gs hi
    have e5 : k + ((i + 1 : Nat) : Int) = k + (i : Int) + 1 := by omega
    unfold l_laws_markStringS_0; simp (config := { maxSteps := 2000000 }) only [bitvec_to_nat, reduceIte, Nat.reduceEqDiff, Nat.reduceAdd, Nat.reduceLeDiff, reduceCtorEq, Nat.reduceBEq, Nat.reduceLT, Nat.reduceMod, List.forall_mem_cons, retG_ret, retQ_eq, retQ_eqN, retOk, keepB, re_tupl, orr_t, t_markText, setm_ByteArray, List.set_set, gs, irow, srow, Int.toNat_natCast, List.length_map, List.length_set, Nat.sub_zero, Nat.zero_add, hz]
    repeat' (first | with_reducible apply And.intro | with_reducible intro _)
    all_goals first
      | omega
      | (refine hN (i + 1, l.set i (mk_ByteArray (k + (i : Int)))) _ (by simp only [e5]; simp only [u_E0, u_E1, u_M0, u_M1, w_setE0, w_setE1, w_setM0, w_setM1, reduceIte, Nat.reduceEqDiff]; exact ⟨by repeat' (first | exact trivial | refine ⟨.inr rfl, ?_⟩), by repeat' (first | exact trivial | refine ⟨rfl, ?_⟩), by first | rfl | simp [closedB, refsIn, refsInL, refsInO, dom, refsInL_nr, *], by first | rfl | simp [keepB, dom]⟩) ⟨by simp only [List.length_set]; exact h1, hi, fun j hj => ?_⟩ (by simp only; omega)
         simp only at hj ⊢
         by_cases e : j = i
         · subst e; exact getD_seti' (by omega)
         · rw [getD_setn' (Ne.symm e)]; exact h3 j (by omega))
      | (exfalso; omega)
  · have hl : l = ms_ByteArray k a.length := ext_of (by rw [ms_ByteArray_len]; exact h1) fun j hj => by rw [ms_ByteArray_get (by omega)]; exact h3 j (by omega)
    have hi' : ¬ (i : Int) < a.length := by omega
    unfold l_laws_markStringS_0; simp (config := { maxSteps := 2000000 }) only [bitvec_to_nat, reduceIte, Nat.reduceEqDiff, Nat.reduceAdd, Nat.reduceLeDiff, reduceCtorEq, Nat.reduceBEq, Nat.reduceLT, Nat.reduceMod, List.forall_mem_cons, retG_ret, retQ_eq, retQ_eqN, retOk, keepB, re_tupl, orr_t, t_markText, setm_ByteArray, List.set_set, gs, irow, srow, Int.toNat_natCast, List.length_map, List.length_set, Nat.sub_zero, Nat.zero_add, hz, hi']
    refine ⟨by omega, ?_⟩
    rw [hl]
theorem g_markByteArrayS (v : Nat) (k : Int) (a : List ByteArray) (ha : a.length ≤ 1048577) (hk : 0 ≤ k ∧ k ≤ 1125899906842624) : Contract P 45 [.own 3 v 0 a.length, .int .i64 k] [(3, .arr 9 v 1 (a.map srow))] (.int .i64 (k + a.length)) [(3, .gone)] :=
  (c_markByteArrayS v k a ha hk).gone rfl
def mk_Pt (k : Int) : Pt := ⟨mtx (k), k + 1, k + 1 + 1⟩
def ms_Pt (k : Int) (n : Nat) : List Pt := (List.range n).map fun j : Nat => mk_Pt (k + 3 * (j : Int))
theorem ms_Pt_len {k : Int} {n : Nat} : (ms_Pt k n).length = n := by simp [ms_Pt]
theorem ms_Pt_get {k : Int} {n j : Nat} (h : j < n) : (ms_Pt k n).getD j default = mk_Pt (k + 3 * (j : Int)) := by simp [ms_Pt, h]
theorem setm_Pt0 {l : List Pt} {i : Nat} {v : ByteArray} : (l.map Pt.row).set i (setSeg ((l.map Pt.row).getD i []) 0 [.str v]) = (l.set i { l.getD i default with nm := v }).map Pt.row :=
  set_rows (α := Pt) (f := Pt.row) (fun s => { s with nm := v }) fun x => by simp [Pt.row, setSeg]
theorem setm_Pt1 {l : List Pt} {i : Nat} {v : Int} : (l.map Pt.row).set i (setSeg ((l.map Pt.row).getD i []) 1 [.int .i64 v]) = (l.set i { l.getD i default with x := v }).map Pt.row :=
  set_rows (α := Pt) (f := Pt.row) (fun s => { s with x := v }) fun x => by simp [Pt.row, setSeg]
theorem setm_Pt2 {l : List Pt} {i : Nat} {v : Int} : (l.map Pt.row).set i (setSeg ((l.map Pt.row).getD i []) 2 [.int .i64 v]) = (l.set i { l.getD i default with y := v }).map Pt.row :=
  set_rows (α := Pt) (f := Pt.row) (fun s => { s with y := v }) fun x => by simp [Pt.row, setSeg]
set_option maxHeartbeats 1000000 in
theorem c_markPtS (v : Nat) (k : Int) (a : List Pt) (ha : a.length ≤ 1048577) (hk : 0 ≤ k ∧ k ≤ 1125899906842624) : Contract P 96 [.own 3 v 0 a.length, .int .i64 k] [(3, .arr 103 v 3 (a.map Pt.row))] (.int .i64 (k + 3 * a.length)) [(3, .arr 103 v 3 ((ms_Pt k a.length).map Pt.row))] := by
  have hz : ((0 : Nat) : Int) = 0 := rfl
  have gs : True := trivial
  refine fn_sound ((Env.nil P).add 100 t_markText h_markText) hm k_laws_markSkyPointS (Nat.le_of_ble_eq_true rfl) rfl ?_; unfold s_laws_markSkyPointS; simp (config := { maxSteps := 2000000 }) only [bitvec_to_nat, reduceIte, Nat.reduceEqDiff, Nat.reduceAdd, Nat.reduceLeDiff, reduceCtorEq, Nat.reduceBEq, Nat.reduceLT, Nat.reduceMod, List.forall_mem_cons, retG_ret, retQ_eq, retQ_eqN, retOk, keepB, re_tupl, orr_t, t_markText, setm_Pt0, setm_Pt1, setm_Pt2, List.set_set, gs, Pt.row, irow, srow, Int.toNat_natCast, List.length_map, List.length_set, Nat.sub_zero, Nat.zero_add, hz]
  refine loop_st (fun b : Nat × List Pt => [(1, .int .i64 (k + 3 * b.1)), (5, .int .i64 b.1)]) (fun b => [(3, .arr 103 v 3 (b.2.map Pt.row))]) (fun b => b.2.length = a.length ∧ b.1 ≤ a.length ∧ ∀ j, j < b.1 → b.2.getD j default = mk_Pt (k + 3 * (j : Int))) (fun b => a.length - b.1) (0, a) ?_ ⟨rfl, Nat.zero_le _, fun j hj => absurd hj (Nat.not_lt_zero _)⟩ ?_
  · have e0 : k + 3 * ((0 : Nat) : Int) = k := by omega
    simp only [e0]
    simp only [u_E0, u_E1, u_M0, u_M1, w_setE0, w_setE1, w_setM0, w_setM1, reduceIte, Nat.reduceEqDiff]; exact ⟨by repeat' (first | exact trivial | refine ⟨.inr rfl, ?_⟩), by repeat' (first | exact trivial | refine ⟨rfl, ?_⟩), by first | rfl | simp [closedB, refsIn, refsInL, refsInO, dom, refsInL_nr, *], by first | rfl | simp [keepB, dom]⟩
  rintro ⟨i, l⟩ ⟨h1, h2, h3⟩ NX hN
  simp only at h1 h2 h3
  have gs : i < a.length → ∀ x : Pt, (l.set i x).getD i default = x := fun h x => getD_seti' (by omega)
  by_cases hi : i < a.length
  · have gs := gs hi
    have e5 : k + 3 * ((i + 1 : Nat) : Int) = k + 3 * (i : Int) + 1 + 1 + 1 := by omega
    unfold l_laws_markSkyPointS_0; simp (config := { maxSteps := 2000000 }) only [bitvec_to_nat, reduceIte, Nat.reduceEqDiff, Nat.reduceAdd, Nat.reduceLeDiff, reduceCtorEq, Nat.reduceBEq, Nat.reduceLT, Nat.reduceMod, List.forall_mem_cons, retG_ret, retQ_eq, retQ_eqN, retOk, keepB, re_tupl, orr_t, t_markText, setm_Pt0, setm_Pt1, setm_Pt2, List.set_set, gs, Pt.row, irow, srow, Int.toNat_natCast, List.length_map, List.length_set, Nat.sub_zero, Nat.zero_add, hz]
    repeat' (first | with_reducible apply And.intro | with_reducible intro _)
    all_goals first
      | omega
      | (refine hN (i + 1, l.set i (mk_Pt (k + 3 * (i : Int)))) _ (by simp only [e5]; simp only [u_E0, u_E1, u_M0, u_M1, w_setE0, w_setE1, w_setM0, w_setM1, reduceIte, Nat.reduceEqDiff]; exact ⟨by repeat' (first | exact trivial | refine ⟨.inr rfl, ?_⟩), by repeat' (first | exact trivial | refine ⟨rfl, ?_⟩), by first | rfl | simp [closedB, refsIn, refsInL, refsInO, dom, refsInL_nr, *], by first | rfl | simp [keepB, dom]⟩) ⟨by simp only [List.length_set]; exact h1, hi, fun j hj => ?_⟩ (by simp only; omega)
         simp only at hj ⊢
         by_cases e : j = i
         · subst e; exact getD_seti' (by omega)
         · rw [getD_setn' (Ne.symm e)]; exact h3 j (by omega))
      | (exfalso; omega)
  · have hl : l = ms_Pt k a.length := ext_of (by rw [ms_Pt_len]; exact h1) fun j hj => by rw [ms_Pt_get (by omega)]; exact h3 j (by omega)
    have hi' : ¬ (i : Int) < a.length := by omega
    unfold l_laws_markSkyPointS_0; simp (config := { maxSteps := 2000000 }) only [bitvec_to_nat, reduceIte, Nat.reduceEqDiff, Nat.reduceAdd, Nat.reduceLeDiff, reduceCtorEq, Nat.reduceBEq, Nat.reduceLT, Nat.reduceMod, List.forall_mem_cons, retG_ret, retQ_eq, retQ_eqN, retOk, keepB, re_tupl, orr_t, t_markText, setm_Pt0, setm_Pt1, setm_Pt2, List.set_set, gs, Pt.row, irow, srow, Int.toNat_natCast, List.length_map, List.length_set, Nat.sub_zero, Nat.zero_add, hz, hi']
    refine ⟨by omega, ?_⟩
    rw [hl]
theorem g_markPtS (v : Nat) (k : Int) (a : List Pt) (ha : a.length ≤ 1048577) (hk : 0 ≤ k ∧ k ≤ 1125899906842624) : Contract P 96 [.own 3 v 0 a.length, .int .i64 k] [(3, .arr 103 v 3 (a.map Pt.row))] (.int .i64 (k + 3 * a.length)) [(3, .gone)] :=
  (c_markPtS v k a ha hk).gone rfl
def mk_Blk (k : Int) : Blk := ⟨k, k + 1, k + 1 + 1, k + 1 + 1 + 1, k + 1 + 1 + 1 + 1, k + 1 + 1 + 1 + 1 + 1⟩
def ms_Blk (k : Int) (n : Nat) : List Blk := (List.range n).map fun j : Nat => mk_Blk (k + 6 * (j : Int))
theorem ms_Blk_len {k : Int} {n : Nat} : (ms_Blk k n).length = n := by simp [ms_Blk]
theorem ms_Blk_get {k : Int} {n j : Nat} (h : j < n) : (ms_Blk k n).getD j default = mk_Blk (k + 6 * (j : Int)) := by simp [ms_Blk, h]
theorem setm_Blk0 {l : List Blk} {i : Nat} {v : Int} : (l.map Blk.row).set i (setSeg ((l.map Blk.row).getD i []) 0 [.int .i64 v]) = (l.set i { l.getD i default with x0 := v }).map Blk.row :=
  set_rows (α := Blk) (f := Blk.row) (fun s => { s with x0 := v }) fun x => by simp [Blk.row, setSeg]
theorem setm_Blk1 {l : List Blk} {i : Nat} {v : Int} : (l.map Blk.row).set i (setSeg ((l.map Blk.row).getD i []) 1 [.int .i64 v]) = (l.set i { l.getD i default with y0 := v }).map Blk.row :=
  set_rows (α := Blk) (f := Blk.row) (fun s => { s with y0 := v }) fun x => by simp [Blk.row, setSeg]
theorem setm_Blk2 {l : List Blk} {i : Nat} {v : Int} : (l.map Blk.row).set i (setSeg ((l.map Blk.row).getD i []) 2 [.int .i64 v]) = (l.set i { l.getD i default with x1 := v }).map Blk.row :=
  set_rows (α := Blk) (f := Blk.row) (fun s => { s with x1 := v }) fun x => by simp [Blk.row, setSeg]
theorem setm_Blk3 {l : List Blk} {i : Nat} {v : Int} : (l.map Blk.row).set i (setSeg ((l.map Blk.row).getD i []) 3 [.int .i64 v]) = (l.set i { l.getD i default with y1 := v }).map Blk.row :=
  set_rows (α := Blk) (f := Blk.row) (fun s => { s with y1 := v }) fun x => by simp [Blk.row, setSeg]
theorem setm_Blk4 {l : List Blk} {i : Nat} {v : Int} : (l.map Blk.row).set i (setSeg ((l.map Blk.row).getD i []) 4 [.int .i64 v]) = (l.set i { l.getD i default with lo := v }).map Blk.row :=
  set_rows (α := Blk) (f := Blk.row) (fun s => { s with lo := v }) fun x => by simp [Blk.row, setSeg]
theorem setm_Blk5 {l : List Blk} {i : Nat} {v : Int} : (l.map Blk.row).set i (setSeg ((l.map Blk.row).getD i []) 5 [.int .i64 v]) = (l.set i { l.getD i default with hi := v }).map Blk.row :=
  set_rows (α := Blk) (f := Blk.row) (fun s => { s with hi := v }) fun x => by simp [Blk.row, setSeg]
set_option maxHeartbeats 1000000 in
theorem c_markBlkS (v : Nat) (k : Int) (a : List Blk) (ha : a.length ≤ 1048577) (hk : 0 ≤ k ∧ k ≤ 1125899906842624) : Contract P 145 [.own 3 v 0 a.length, .int .i64 k] [(3, .arr 113 v 6 (a.map Blk.row))] (.int .i64 (k + 6 * a.length)) [(3, .arr 113 v 6 ((ms_Blk k a.length).map Blk.row))] := by
  have hz : ((0 : Nat) : Int) = 0 := rfl
  have gs : True := trivial
  refine fn_sound (Env.nil P) hm k_laws_markSkyBlockS (Nat.le_of_ble_eq_true rfl) rfl ?_; unfold s_laws_markSkyBlockS; simp (config := { maxSteps := 2000000 }) only [bitvec_to_nat, reduceIte, Nat.reduceEqDiff, Nat.reduceAdd, Nat.reduceLeDiff, reduceCtorEq, Nat.reduceBEq, Nat.reduceLT, Nat.reduceMod, List.forall_mem_cons, retG_ret, retQ_eq, retQ_eqN, retOk, keepB, re_tupl, orr_t, setm_Blk0, setm_Blk1, setm_Blk2, setm_Blk3, setm_Blk4, setm_Blk5, List.set_set, gs, Blk.row, irow, srow, Int.toNat_natCast, List.length_map, List.length_set, Nat.sub_zero, Nat.zero_add, hz]
  refine loop_st (fun b : Nat × List Blk => [(1, .int .i64 (k + 6 * b.1)), (5, .int .i64 b.1)]) (fun b => [(3, .arr 113 v 6 (b.2.map Blk.row))]) (fun b => b.2.length = a.length ∧ b.1 ≤ a.length ∧ ∀ j, j < b.1 → b.2.getD j default = mk_Blk (k + 6 * (j : Int))) (fun b => a.length - b.1) (0, a) ?_ ⟨rfl, Nat.zero_le _, fun j hj => absurd hj (Nat.not_lt_zero _)⟩ ?_
  · have e0 : k + 6 * ((0 : Nat) : Int) = k := by omega
    simp only [e0]
    simp only [u_E0, u_E1, u_M0, u_M1, w_setE0, w_setE1, w_setM0, w_setM1, reduceIte, Nat.reduceEqDiff]; exact ⟨by repeat' (first | exact trivial | refine ⟨.inr rfl, ?_⟩), by repeat' (first | exact trivial | refine ⟨rfl, ?_⟩), by first | rfl | simp [closedB, refsIn, refsInL, refsInO, dom, refsInL_nr, *], by first | rfl | simp [keepB, dom]⟩
  rintro ⟨i, l⟩ ⟨h1, h2, h3⟩ NX hN
  simp only at h1 h2 h3
  have gs : i < a.length → ∀ x : Blk, (l.set i x).getD i default = x := fun h x => getD_seti' (by omega)
  by_cases hi : i < a.length
  · have gs := gs hi
    have e5 : k + 6 * ((i + 1 : Nat) : Int) = k + 6 * (i : Int) + 1 + 1 + 1 + 1 + 1 + 1 := by omega
    unfold l_laws_markSkyBlockS_0; simp (config := { maxSteps := 2000000 }) only [bitvec_to_nat, reduceIte, Nat.reduceEqDiff, Nat.reduceAdd, Nat.reduceLeDiff, reduceCtorEq, Nat.reduceBEq, Nat.reduceLT, Nat.reduceMod, List.forall_mem_cons, retG_ret, retQ_eq, retQ_eqN, retOk, keepB, re_tupl, orr_t, setm_Blk0, setm_Blk1, setm_Blk2, setm_Blk3, setm_Blk4, setm_Blk5, List.set_set, gs, Blk.row, irow, srow, Int.toNat_natCast, List.length_map, List.length_set, Nat.sub_zero, Nat.zero_add, hz]
    repeat' (first | with_reducible apply And.intro | with_reducible intro _)
    all_goals first
      | omega
      | (refine hN (i + 1, l.set i (mk_Blk (k + 6 * (i : Int)))) _ (by simp only [e5]; simp only [u_E0, u_E1, u_M0, u_M1, w_setE0, w_setE1, w_setM0, w_setM1, reduceIte, Nat.reduceEqDiff]; exact ⟨by repeat' (first | exact trivial | refine ⟨.inr rfl, ?_⟩), by repeat' (first | exact trivial | refine ⟨rfl, ?_⟩), by first | rfl | simp [closedB, refsIn, refsInL, refsInO, dom, refsInL_nr, *], by first | rfl | simp [keepB, dom]⟩) ⟨by simp only [List.length_set]; exact h1, hi, fun j hj => ?_⟩ (by simp only; omega)
         simp only at hj ⊢
         by_cases e : j = i
         · subst e; exact getD_seti' (by omega)
         · rw [getD_setn' (Ne.symm e)]; exact h3 j (by omega))
      | (exfalso; omega)
  · have hl : l = ms_Blk k a.length := ext_of (by rw [ms_Blk_len]; exact h1) fun j hj => by rw [ms_Blk_get (by omega)]; exact h3 j (by omega)
    have hi' : ¬ (i : Int) < a.length := by omega
    unfold l_laws_markSkyBlockS_0; simp (config := { maxSteps := 2000000 }) only [bitvec_to_nat, reduceIte, Nat.reduceEqDiff, Nat.reduceAdd, Nat.reduceLeDiff, reduceCtorEq, Nat.reduceBEq, Nat.reduceLT, Nat.reduceMod, List.forall_mem_cons, retG_ret, retQ_eq, retQ_eqN, retOk, keepB, re_tupl, orr_t, setm_Blk0, setm_Blk1, setm_Blk2, setm_Blk3, setm_Blk4, setm_Blk5, List.set_set, gs, Blk.row, irow, srow, Int.toNat_natCast, List.length_map, List.length_set, Nat.sub_zero, Nat.zero_add, hz, hi']
    refine ⟨by omega, ?_⟩
    rw [hl]
theorem g_markBlkS (v : Nat) (k : Int) (a : List Blk) (ha : a.length ≤ 1048577) (hk : 0 ≤ k ∧ k ≤ 1125899906842624) : Contract P 145 [.own 3 v 0 a.length, .int .i64 k] [(3, .arr 113 v 6 (a.map Blk.row))] (.int .i64 (k + 6 * a.length)) [(3, .gone)] :=
  (c_markBlkS v k a ha hk).gone rfl
def mk_Rw (k : Int) : Rw := ⟨mtx (k), k + 1, k + 1 + 1, k + 1 + 1 + 1⟩
def ms_Rw (k : Int) (n : Nat) : List Rw := (List.range n).map fun j : Nat => mk_Rw (k + 4 * (j : Int))
theorem ms_Rw_len {k : Int} {n : Nat} : (ms_Rw k n).length = n := by simp [ms_Rw]
theorem ms_Rw_get {k : Int} {n j : Nat} (h : j < n) : (ms_Rw k n).getD j default = mk_Rw (k + 4 * (j : Int)) := by simp [ms_Rw, h]
theorem setm_Rw0 {l : List Rw} {i : Nat} {v : ByteArray} : (l.map Rw.row).set i (setSeg ((l.map Rw.row).getD i []) 0 [.str v]) = (l.set i { l.getD i default with nm := v }).map Rw.row :=
  set_rows (α := Rw) (f := Rw.row) (fun s => { s with nm := v }) fun x => by simp [Rw.row, setSeg]
theorem setm_Rw1 {l : List Rw} {i : Nat} {v : Int} : (l.map Rw.row).set i (setSeg ((l.map Rw.row).getD i []) 1 [.int .i64 v]) = (l.set i { l.getD i default with x := v }).map Rw.row :=
  set_rows (α := Rw) (f := Rw.row) (fun s => { s with x := v }) fun x => by simp [Rw.row, setSeg]
theorem setm_Rw2 {l : List Rw} {i : Nat} {v : Int} : (l.map Rw.row).set i (setSeg ((l.map Rw.row).getD i []) 2 [.int .i64 v]) = (l.set i { l.getD i default with y := v }).map Rw.row :=
  set_rows (α := Rw) (f := Rw.row) (fun s => { s with y := v }) fun x => by simp [Rw.row, setSeg]
theorem setm_Rw3 {l : List Rw} {i : Nat} {v : Int} : (l.map Rw.row).set i (setSeg ((l.map Rw.row).getD i []) 3 [.int .i64 v]) = (l.set i { l.getD i default with tn := v }).map Rw.row :=
  set_rows (α := Rw) (f := Rw.row) (fun s => { s with tn := v }) fun x => by simp [Rw.row, setSeg]
set_option maxHeartbeats 1000000 in
theorem c_markRwS (v : Nat) (k : Int) (a : List Rw) (ha : a.length ≤ 1048577) (hk : 0 ≤ k ∧ k ≤ 1125899906842624) : Contract P 99 [.own 3 v 0 a.length, .int .i64 k] [(3, .arr 118 v 4 (a.map Rw.row))] (.int .i64 (k + 4 * a.length)) [(3, .arr 118 v 4 ((ms_Rw k a.length).map Rw.row))] := by
  have hz : ((0 : Nat) : Int) = 0 := rfl
  have gs : True := trivial
  refine fn_sound ((Env.nil P).add 100 t_markText h_markText) hm k_laws_markSkyRunwayS (Nat.le_of_ble_eq_true rfl) rfl ?_; unfold s_laws_markSkyRunwayS; simp (config := { maxSteps := 2000000 }) only [bitvec_to_nat, reduceIte, Nat.reduceEqDiff, Nat.reduceAdd, Nat.reduceLeDiff, reduceCtorEq, Nat.reduceBEq, Nat.reduceLT, Nat.reduceMod, List.forall_mem_cons, retG_ret, retQ_eq, retQ_eqN, retOk, keepB, re_tupl, orr_t, t_markText, setm_Rw0, setm_Rw1, setm_Rw2, setm_Rw3, List.set_set, gs, Rw.row, irow, srow, Int.toNat_natCast, List.length_map, List.length_set, Nat.sub_zero, Nat.zero_add, hz]
  refine loop_st (fun b : Nat × List Rw => [(1, .int .i64 (k + 4 * b.1)), (5, .int .i64 b.1)]) (fun b => [(3, .arr 118 v 4 (b.2.map Rw.row))]) (fun b => b.2.length = a.length ∧ b.1 ≤ a.length ∧ ∀ j, j < b.1 → b.2.getD j default = mk_Rw (k + 4 * (j : Int))) (fun b => a.length - b.1) (0, a) ?_ ⟨rfl, Nat.zero_le _, fun j hj => absurd hj (Nat.not_lt_zero _)⟩ ?_
  · have e0 : k + 4 * ((0 : Nat) : Int) = k := by omega
    simp only [e0]
    simp only [u_E0, u_E1, u_M0, u_M1, w_setE0, w_setE1, w_setM0, w_setM1, reduceIte, Nat.reduceEqDiff]; exact ⟨by repeat' (first | exact trivial | refine ⟨.inr rfl, ?_⟩), by repeat' (first | exact trivial | refine ⟨rfl, ?_⟩), by first | rfl | simp [closedB, refsIn, refsInL, refsInO, dom, refsInL_nr, *], by first | rfl | simp [keepB, dom]⟩
  rintro ⟨i, l⟩ ⟨h1, h2, h3⟩ NX hN
  simp only at h1 h2 h3
  have gs : i < a.length → ∀ x : Rw, (l.set i x).getD i default = x := fun h x => getD_seti' (by omega)
  by_cases hi : i < a.length
  · have gs := gs hi
    have e5 : k + 4 * ((i + 1 : Nat) : Int) = k + 4 * (i : Int) + 1 + 1 + 1 + 1 := by omega
    unfold l_laws_markSkyRunwayS_0; simp (config := { maxSteps := 2000000 }) only [bitvec_to_nat, reduceIte, Nat.reduceEqDiff, Nat.reduceAdd, Nat.reduceLeDiff, reduceCtorEq, Nat.reduceBEq, Nat.reduceLT, Nat.reduceMod, List.forall_mem_cons, retG_ret, retQ_eq, retQ_eqN, retOk, keepB, re_tupl, orr_t, t_markText, setm_Rw0, setm_Rw1, setm_Rw2, setm_Rw3, List.set_set, gs, Rw.row, irow, srow, Int.toNat_natCast, List.length_map, List.length_set, Nat.sub_zero, Nat.zero_add, hz]
    repeat' (first | with_reducible apply And.intro | with_reducible intro _)
    all_goals first
      | omega
      | (refine hN (i + 1, l.set i (mk_Rw (k + 4 * (i : Int)))) _ (by simp only [e5]; simp only [u_E0, u_E1, u_M0, u_M1, w_setE0, w_setE1, w_setM0, w_setM1, reduceIte, Nat.reduceEqDiff]; exact ⟨by repeat' (first | exact trivial | refine ⟨.inr rfl, ?_⟩), by repeat' (first | exact trivial | refine ⟨rfl, ?_⟩), by first | rfl | simp [closedB, refsIn, refsInL, refsInO, dom, refsInL_nr, *], by first | rfl | simp [keepB, dom]⟩) ⟨by simp only [List.length_set]; exact h1, hi, fun j hj => ?_⟩ (by simp only; omega)
         simp only at hj ⊢
         by_cases e : j = i
         · subst e; exact getD_seti' (by omega)
         · rw [getD_setn' (Ne.symm e)]; exact h3 j (by omega))
      | (exfalso; omega)
  · have hl : l = ms_Rw k a.length := ext_of (by rw [ms_Rw_len]; exact h1) fun j hj => by rw [ms_Rw_get (by omega)]; exact h3 j (by omega)
    have hi' : ¬ (i : Int) < a.length := by omega
    unfold l_laws_markSkyRunwayS_0; simp (config := { maxSteps := 2000000 }) only [bitvec_to_nat, reduceIte, Nat.reduceEqDiff, Nat.reduceAdd, Nat.reduceLeDiff, reduceCtorEq, Nat.reduceBEq, Nat.reduceLT, Nat.reduceMod, List.forall_mem_cons, retG_ret, retQ_eq, retQ_eqN, retOk, keepB, re_tupl, orr_t, t_markText, setm_Rw0, setm_Rw1, setm_Rw2, setm_Rw3, List.set_set, gs, Rw.row, irow, srow, Int.toNat_natCast, List.length_map, List.length_set, Nat.sub_zero, Nat.zero_add, hz, hi']
    refine ⟨by omega, ?_⟩
    rw [hl]
theorem g_markRwS (v : Nat) (k : Int) (a : List Rw) (ha : a.length ≤ 1048577) (hk : 0 ≤ k ∧ k ≤ 1125899906842624) : Contract P 99 [.own 3 v 0 a.length, .int .i64 k] [(3, .arr 118 v 4 (a.map Rw.row))] (.int .i64 (k + 4 * a.length)) [(3, .gone)] :=
  (c_markRwS v k a ha hk).gone rfl
end
end Go.Ve

namespace Go.Ve
noncomputable section
open Go.Proofs
set_option linter.unusedSimpArgs false
set_option linter.unusedVariables false
set_option maxRecDepth 100000
theorem keep_self {M : List (Nat × AObj)} : keepB M M = true := by
  unfold keepB
  rw [List.all_eq_true]
  intro o ho
  simp only [Bool.or_eq_true]
  right; simpa using ho
theorem wk_fam {k : Nat} {l : List NRow} {o : Nat} {x : AObj} (hf : isFam k l) (ho : o < 1000) : wkM ((o, x) :: nobjs l) (nobjs l) := by
  refine wkM_nobjs hf fun j hj => ?_
  simp only [getM, fam_ne ho, if_false]
  exact nobjs_fam hf hj
theorem fam_100 {k o e sz : Nat} {y : AObj} {x : List (ByteArray × List (List AV))} (hk : k < 100) (ho : o < 100) : (dom ((o, y) :: nobjs (nfam k e sz x))).all (decide <| · % 1000 < 100) = true := by
  rw [List.all_eq_true]
  intro q hq
  simp only [dom, List.map_cons, List.mem_cons] at hq
  rcases hq with rfl | hq
  · simp; omega
  · obtain ⟨p, hp, rfl⟩ := List.mem_map.1 hq
    obtain ⟨i, _, rfl⟩ := nfam_at hp
    simp only [decide_eq_true_eq, fam_mod (show k < 1000 by omega)]; exact hk
def flatObs (l : List NRow) : Prop := ∀ i, i < l.length → (l.getD i default).ob = .gone ∨ ∃ e v sz xs, e < 1000000 ∧ (l.getD i default).ob = .arr e v sz xs
theorem flatObs_all {l : List NRow} {d : List Nat} (h : flatObs l) : ((nobjs l).all fun p => refsInO d p.2) = true := by
  rw [List.all_eq_true]
  intro p hp
  obtain ⟨r, hr, rfl⟩ := List.mem_map.1 hp
  obtain ⟨i, hi, rfl⟩ := List.mem_iff_getElem.1 hr
  have := h i hi
  simp only [List.getD_eq_getElem?_getD, List.getElem?_eq_getElem hi, Option.getD_some] at this
  rcases this with h | ⟨e, v, sz, xs, he, h⟩
  · show refsInO d l[i].ob = true; rw [h]; rfl
  · show refsInO d l[i].ob = true; rw [h]; simp only [refsInO, he, if_true]
theorem dom_rows {l : List NRow} {o : Nat} {x : AObj} : ∀ r ∈ l, (dom ((o, x) :: nobjs l)).contains r.o = true := fun r hr => by
  simp only [dom, List.map_cons, List.contains_cons, Bool.or_eq_true]
  right
  simp only [List.contains_iff_mem, nobjs, List.map_map, List.mem_map]
  exact ⟨r, hr, rfl⟩
theorem nobjs_all {l : List NRow} {o T : Nat} {y : AObj} (h : flatObs l) : (((o, AObj.arr (1000000 + T) 0 2 (l.map NRow.row)) :: nobjs l).all fun p => refsInO (dom ((o, y) :: nobjs l)) p.2) = true := by
  simp only [List.all_cons, Bool.and_eq_true]
  refine ⟨?_, flatObs_all h⟩
  simp only [refsInO]
  rw [if_neg (by omega)]
  exact refs_rows dom_rows
theorem setm_NRow {l : List NRow} {i : Nat} {v : ByteArray} : (l.map NRow.row).set i (setSeg ((l.map NRow.row).getD i []) 0 [.str v]) = (l.set i { l.getD i default with nm := v }).map NRow.row :=
  set_rows (α := NRow) (f := NRow.row) (fun s => { s with nm := v }) fun x => by simp [NRow.row, setSeg]
theorem gone_fam {k : Nat} {l m : List NRow} (hl : isFam k l) (hm : isFam k m) (h : l.length = m.length) : (nobjs l).map (fun p => (p.1, AObj.gone)) = (nobjs m).map (fun p => (p.1, AObj.gone)) := by
  refine List.ext_getElem (by simp [nobjs, h]) fun i h1 h2 => ?_
  have h1' : i < l.length := by simpa [nobjs] using h1
  have h2' : i < m.length := by omega
  have := hl i h1'
  have h3 := hm i h2'
  simp only [List.getD_eq_getElem?_getD, List.getElem?_eq_getElem h1', List.getElem?_eq_getElem h2', Option.getD_some] at this h3
  simp [nobjs, this, h3]
def ct_Aw (a : List Aw) (i : Nat) : Nat := ((a.take i).map fun x => 1 + x.pts.length).sum
theorem ct_Aw_succ {a : List Aw} {i : Nat} (h : i < a.length) : ct_Aw a (i + 1) = ct_Aw a i + (1 + (a.getD i default).pts.length) := by
  unfold ct_Aw
  rw [List.take_succ_eq_append_getElem h, List.map_append, List.sum_append]; simp [h]
theorem ct_Aw_le {a : List Aw} (hs : ∀ x ∈ a, x.small) {i : Nat} (h : i ≤ a.length) : ct_Aw a i ≤ i * 6291457 := by
  induction i with
  | zero => simp [ct_Aw]
  | succ i ih =>
    have h' := ih (by omega)
    have := hs _ (getD_mem' (show i < a.length from h))
    unfold Aw.small at this
    rw [ct_Aw_succ h]; omega
set_option maxHeartbeats 2000000 in
theorem g_markAwS (k : Int) (a : List Aw) (ha : a.length ≤ 1048577) (hs : ∀ x ∈ a, x.small) (hk : 0 ≤ k ∧ k ≤ 35184372088832) : Contract P 97 [.own 3 0 0 a.length, .int .i64 k] ((3, .arr (1000000 + 108) 0 2 ((nfam 7 9 1 (a.map awP)).map NRow.row)) :: nobjs (nfam 7 9 1 (a.map awP)))
    (.int .i64 (k + ct_Aw a a.length)) (((3, .arr (1000000 + 108) 0 2 ((nfam 7 9 1 (a.map awP)).map NRow.row)) :: nobjs (nfam 7 9 1 (a.map awP))).map fun p => (p.1, .gone)) := by
  have hz : ((0 : Nat) : Int) = 0 := rfl
  have gs : True := trivial
  have hli : True := trivial
  have hgm : True := trivial
  have hrw : True := trivial
  have hs1 : True := trivial
  suffices hC : ∃ l : List NRow, (isFam 7 l ∧ l.length = a.length) ∧ Contract P 97 [.own 3 0 0 a.length, .int .i64 k] ((3, .arr (1000000 + 108) 0 2 ((nfam 7 9 1 (a.map awP)).map NRow.row)) :: nobjs (nfam 7 9 1 (a.map awP)))
      (.int .i64 (k + ct_Aw a a.length)) ((3, .arr (1000000 + 108) 0 2 (l.map NRow.row)) :: nobjs l) by
    obtain ⟨l, ⟨h1, h2⟩, h3⟩ := hC
    have h4 := h3.gone rfl
    simp only [List.map_cons] at h4 ⊢
    rw [gone_fam h1 (nfam_fam (k := 7) (e := 9) (sz := 1) (l := a.map awP)) (by rw [nfam_len, List.length_map]; exact h2)] at h4
    exact h4
  refine fn_choose ((Env.nil P).add 100 t_markText h_markText) hm k_laws_markSkyAirwayS (Nat.le_of_ble_eq_true rfl) ?_ (fun l : List NRow => isFam 7 l ∧ l.length = a.length) (fun _ => .int .i64 (k + ct_Aw a a.length)) (fun l => (3, .arr (1000000 + 108) 0 2 (l.map NRow.row)) :: nobjs l) ?_
  · exact fam_100 (by omega) (by omega)
  unfold s_laws_markSkyAirwayS
  simp (config := { maxSteps := 2000000 }) only [bitvec_to_nat, reduceIte, Nat.reduceEqDiff, Nat.reduceAdd, Nat.reduceLeDiff, reduceCtorEq, Nat.reduceBEq, Nat.reduceLT, Nat.reduceMod, List.forall_mem_cons, retG_ret, retQ_eq, retQ_eqN, retOk, keepB, re_tupl, orr_t, t_markText, NRow.row, setm_NRow, gs, hli, hgm, hrw, Int.toNat_natCast, List.length_map, List.length_set, Nat.sub_zero, Nat.zero_add, hz, fam_ne, fam_ne', hs1, List.set_set]
  refine loop_F (fun b : Nat × List NRow => ⟨[(0, .own 3 0 0 a.length), (1, .int .i64 (k + ct_Aw a b.1)), (5, .int .i64 b.1)], (3, .arr (1000000 + 108) 0 2 (b.2.map NRow.row)) :: nobjs b.2⟩)
    (fun b => b.1 ≤ a.length ∧ b.2.length = a.length ∧ isFam 7 b.2 ∧ flatObs b.2 ∧ ∀ j, b.1 ≤ j → j < a.length → b.2.getD j default = ⟨(a.getD j default).nm, (a.getD j default).pts.length, fam 7 j, .arr 9 0 1 ((a.getD j default).pts.map srow)⟩)
    (fun b => a.length - b.1) (0, nfam 7 9 1 (a.map awP)) ?_ ⟨Nat.zero_le _, by rw [nfam_len, List.length_map], nfam_fam, fun i hi => ?_, fun j _ hj => ?_⟩ ?_
  · have e0 : k + ((ct_Aw a 0 : Nat) : Int) = k := by simp [ct_Aw]
    simp only [e0]
    refine ⟨by repeat' (first | exact trivial | refine ⟨.inr rfl, ?_⟩), ⟨rfl, wk_fam nfam_fam (by omega)⟩, ?_, keep_self⟩
    simp only [closedB, List.all_cons, Bool.and_eq_true]
    exact ⟨⟨by simp [refsIn, dom], rfl, rfl, rfl⟩, by simpa only [List.all_cons, Bool.and_eq_true] using fam_refs (k := 7) (o := 3) (e := 9) (sz := 1) (x := a.map awP) (T := 108) (y := .arr (1000000 + 108) 0 2 ((nfam 7 9 1 (a.map awP)).map NRow.row)) (by omega)⟩
  · have hi' : i < a.length := by simpa [nfam_len] using hi
    rw [nfam_get (by simpa using hi')]
    exact .inr ⟨_, _, _, _, by omega, rfl⟩
  · rw [nfam_get (by simpa using hj)]
    simp [awP, hj]
  rintro ⟨i, l⟩ ⟨h1, h2, h3, h4, h5⟩ NX hN
  simp only at h1 h2 h3 h4 h5
  have hct := ct_Aw_le hs h1
  by_cases hi : i < a.length
  · have hli := h5 i (Nat.le_refl _) hi
    have hil : i < l.length := by omega
    have hx := hs _ (getD_mem' hi)
    unfold Aw.small at hx
    have hgm : getM (nobjs l) (fam 7 i) = some (.arr 9 0 1 ((a.getD i default).pts.map srow)) := by rw [nobjs_fam h3 hil, hli]
    have gs : ∀ x : NRow, (l.set i x).getD i default = x := fun x => getD_seti' hil
    have e5 : k + ((ct_Aw a (i + 1) : Nat) : Int) = k + (ct_Aw a i : Int) + 1 + ((a.getD i default).pts.length : Int) := by rw [ct_Aw_succ hi]; omega
    unfold l_laws_markSkyAirwayS_0; simp (config := { maxSteps := 2000000 }) only [bitvec_to_nat, reduceIte, Nat.reduceEqDiff, Nat.reduceAdd, Nat.reduceLeDiff, reduceCtorEq, Nat.reduceBEq, Nat.reduceLT, Nat.reduceMod, List.forall_mem_cons, retG_ret, retQ_eq, retQ_eqN, retOk, keepB, re_tupl, orr_t, t_markText, NRow.row, setm_NRow, gs, hli, hgm, hrw, Int.toNat_natCast, List.length_map, List.length_set, Nat.sub_zero, Nat.zero_add, hz, fam_ne, fam_ne', hs1, List.set_set]
    have hM := (g_markByteArrayS 0 (k + ct_Aw a i + 1) (a.getD i default).pts (by omega) (by omega)).ren (swp 3 (fam 7 i)) (swp_swp _ _)
    simp only [renL, ren, renM, renO, swp, reduceIte, Nat.reduceLT] at hM
    refine ⟨fun _ => ⟨by omega, by omega, by omega, by omega, hil, _, _, .inl ⟨_, hM, by simp [getM, fam_ne, hgm], by simp [dom], by simp [dom], by simp [refsInL, refsIn, dom], by simp [refsInO], rfl, by simp [refsInO]⟩, ?_⟩, fun h => absurd (by omega) h⟩
    have hs1 : setM (nobjs l) (fam 7 i) .gone = nobjs (l.set i ⟨mtx (k + ct_Aw a i), (a.getD i default).pts.length, fam 7 i, .gone⟩) := by
      rw [setM_fam h3 hil, hli]; simp [nobjs, List.map_set]
    have hrw : (l.set i ⟨mtx (k + ct_Aw a i), (a.getD i default).pts.length, fam 7 i, .arr 9 0 1 ((a.getD i default).pts.map srow)⟩).map NRow.row = (l.set i ⟨mtx (k + ct_Aw a i), (a.getD i default).pts.length, fam 7 i, .gone⟩).map NRow.row := by
      simp [List.map_set, NRow.row]
    simp (config := { maxSteps := 2000000 }) only [bitvec_to_nat, reduceIte, Nat.reduceEqDiff, Nat.reduceAdd, Nat.reduceLeDiff, reduceCtorEq, Nat.reduceBEq, Nat.reduceLT, Nat.reduceMod, List.forall_mem_cons, retG_ret, retQ_eq, retQ_eqN, retOk, keepB, re_tupl, orr_t, t_markText, NRow.row, setm_NRow, gs, hli, hgm, hrw, Int.toNat_natCast, List.length_map, List.length_set, Nat.sub_zero, Nat.zero_add, hz, fam_ne, fam_ne', hs1, List.set_set]
    rw [← e5]
    have hf' : isFam 7 (l.set i ⟨mtx (k + ct_Aw a i), (a.getD i default).pts.length, fam 7 i, .gone⟩) := fun j hj => by
      by_cases e : j = i
      · subst e; rw [gs]
      · rw [getD_setn' (Ne.symm e)]; exact h3 j (by simpa using hj)
    have ho' : flatObs (l.set i ⟨mtx (k + ct_Aw a i), (a.getD i default).pts.length, fam 7 i, .gone⟩) := fun j hj => by
      by_cases e : j = i
      · subst e; rw [gs]; exact .inl rfl
      · rw [getD_setn' (Ne.symm e)]; exact h4 j (by simpa using hj)
    refine ⟨by omega, hN (i + 1, l.set i ⟨mtx (k + ct_Aw a i), (a.getD i default).pts.length, fam 7 i, .gone⟩) _ ⟨by repeat' (first | exact trivial | refine ⟨.inr rfl, ?_⟩), ⟨rfl, wk_fam hf' (by omega)⟩, ?_, keep_self⟩ ⟨hi, by rw [List.length_set]; exact h2, hf', ho', fun j h6 h7 => ?_⟩ (by simp only; omega)⟩
    · simp only [closedB, List.all_cons, Bool.and_eq_true]
      exact ⟨⟨by simp [refsIn, dom], rfl, rfl, rfl⟩, by simpa only [List.all_cons, Bool.and_eq_true] using nobjs_all (T := 108) (o := 3) (y := .arr (1000000 + 108) 0 2 ((l.set i ⟨mtx (k + ct_Aw a i), (a.getD i default).pts.length, fam 7 i, .gone⟩).map NRow.row)) ho'⟩
    · simp only at h6 ⊢
      rw [getD_setn' (by omega)]; exact h5 j (by omega) h7
  · have hi' : ¬ (i : Int) < a.length := by omega
    have e : i = a.length := by omega
    subst e
    unfold l_laws_markSkyAirwayS_0; simp (config := { maxSteps := 2000000 }) only [bitvec_to_nat, reduceIte, Nat.reduceEqDiff, Nat.reduceAdd, Nat.reduceLeDiff, reduceCtorEq, Nat.reduceBEq, Nat.reduceLT, Nat.reduceMod, List.forall_mem_cons, retG_ret, retQ_eq, retQ_eqN, retOk, keepB, re_tupl, orr_t, t_markText, NRow.row, setm_NRow, gs, hli, hgm, hrw, Int.toNat_natCast, List.length_map, List.length_set, Nat.sub_zero, Nat.zero_add, hz, fam_ne, fam_ne', hs1, List.set_set, hi']
    exact ⟨l, ⟨h3, h2⟩, ⟨rfl, wk_fam h3 (by omega)⟩, nobjs_all (T := 108) (o := 3) (y := .gone) h4, keep_self (M := (3, .gone) :: nobjs l)⟩
def ct_Sec (a : List Sec) (i : Nat) : Nat := ((a.take i).map fun x => 1 + 6 * x.bl.length).sum
theorem ct_Sec_succ {a : List Sec} {i : Nat} (h : i < a.length) : ct_Sec a (i + 1) = ct_Sec a i + (1 + 6 * (a.getD i default).bl.length) := by
  unfold ct_Sec
  rw [List.take_succ_eq_append_getElem h, List.map_append, List.sum_append]; simp [h]
theorem ct_Sec_le {a : List Sec} (hs : ∀ x ∈ a, x.small) {i : Nat} (h : i ≤ a.length) : ct_Sec a i ≤ i * 6291457 := by
  induction i with
  | zero => simp [ct_Sec]
  | succ i ih =>
    have h' := ih (by omega)
    have := hs _ (getD_mem' (show i < a.length from h))
    unfold Sec.small at this
    rw [ct_Sec_succ h]; omega
set_option maxHeartbeats 2000000 in
theorem g_markSecS (k : Int) (a : List Sec) (ha : a.length ≤ 1048577) (hs : ∀ x ∈ a, x.small) (hk : 0 ≤ k ∧ k ≤ 35184372088832) : Contract P 98 [.own 3 0 0 a.length, .int .i64 k] ((3, .arr (1000000 + 111) 0 2 ((nfam 7 113 6 (a.map secP)).map NRow.row)) :: nobjs (nfam 7 113 6 (a.map secP)))
    (.int .i64 (k + ct_Sec a a.length)) (((3, .arr (1000000 + 111) 0 2 ((nfam 7 113 6 (a.map secP)).map NRow.row)) :: nobjs (nfam 7 113 6 (a.map secP))).map fun p => (p.1, .gone)) := by
  have hz : ((0 : Nat) : Int) = 0 := rfl
  have gs : True := trivial
  have hli : True := trivial
  have hgm : True := trivial
  have hrw : True := trivial
  have hs1 : True := trivial
  suffices hC : ∃ l : List NRow, (isFam 7 l ∧ l.length = a.length) ∧ Contract P 98 [.own 3 0 0 a.length, .int .i64 k] ((3, .arr (1000000 + 111) 0 2 ((nfam 7 113 6 (a.map secP)).map NRow.row)) :: nobjs (nfam 7 113 6 (a.map secP)))
      (.int .i64 (k + ct_Sec a a.length)) ((3, .arr (1000000 + 111) 0 2 (l.map NRow.row)) :: nobjs l) by
    obtain ⟨l, ⟨h1, h2⟩, h3⟩ := hC
    have h4 := h3.gone rfl
    simp only [List.map_cons] at h4 ⊢
    rw [gone_fam h1 (nfam_fam (k := 7) (e := 113) (sz := 6) (l := a.map secP)) (by rw [nfam_len, List.length_map]; exact h2)] at h4
    exact h4
  refine fn_choose ((Env.nil P).add 100 t_markText h_markText) hm k_laws_markSkySectorS (Nat.le_of_ble_eq_true rfl) ?_ (fun l : List NRow => isFam 7 l ∧ l.length = a.length) (fun _ => .int .i64 (k + ct_Sec a a.length)) (fun l => (3, .arr (1000000 + 111) 0 2 (l.map NRow.row)) :: nobjs l) ?_
  · exact fam_100 (by omega) (by omega)
  unfold s_laws_markSkySectorS
  simp (config := { maxSteps := 2000000 }) only [bitvec_to_nat, reduceIte, Nat.reduceEqDiff, Nat.reduceAdd, Nat.reduceLeDiff, reduceCtorEq, Nat.reduceBEq, Nat.reduceLT, Nat.reduceMod, List.forall_mem_cons, retG_ret, retQ_eq, retQ_eqN, retOk, keepB, re_tupl, orr_t, t_markText, NRow.row, setm_NRow, gs, hli, hgm, hrw, Int.toNat_natCast, List.length_map, List.length_set, Nat.sub_zero, Nat.zero_add, hz, fam_ne, fam_ne', hs1, List.set_set]
  refine loop_F (fun b : Nat × List NRow => ⟨[(0, .own 3 0 0 a.length), (1, .int .i64 (k + ct_Sec a b.1)), (5, .int .i64 b.1)], (3, .arr (1000000 + 111) 0 2 (b.2.map NRow.row)) :: nobjs b.2⟩)
    (fun b => b.1 ≤ a.length ∧ b.2.length = a.length ∧ isFam 7 b.2 ∧ flatObs b.2 ∧ ∀ j, b.1 ≤ j → j < a.length → b.2.getD j default = ⟨(a.getD j default).nm, (a.getD j default).bl.length, fam 7 j, .arr 113 0 6 ((a.getD j default).bl.map Blk.row)⟩)
    (fun b => a.length - b.1) (0, nfam 7 113 6 (a.map secP)) ?_ ⟨Nat.zero_le _, by rw [nfam_len, List.length_map], nfam_fam, fun i hi => ?_, fun j _ hj => ?_⟩ ?_
  · have e0 : k + ((ct_Sec a 0 : Nat) : Int) = k := by simp [ct_Sec]
    simp only [e0]
    refine ⟨by repeat' (first | exact trivial | refine ⟨.inr rfl, ?_⟩), ⟨rfl, wk_fam nfam_fam (by omega)⟩, ?_, keep_self⟩
    simp only [closedB, List.all_cons, Bool.and_eq_true]
    exact ⟨⟨by simp [refsIn, dom], rfl, rfl, rfl⟩, by simpa only [List.all_cons, Bool.and_eq_true] using fam_refs (k := 7) (o := 3) (e := 113) (sz := 6) (x := a.map secP) (T := 111) (y := .arr (1000000 + 111) 0 2 ((nfam 7 113 6 (a.map secP)).map NRow.row)) (by omega)⟩
  · have hi' : i < a.length := by simpa [nfam_len] using hi
    rw [nfam_get (by simpa using hi')]
    exact .inr ⟨_, _, _, _, by omega, rfl⟩
  · rw [nfam_get (by simpa using hj)]
    simp [secP, hj]
  rintro ⟨i, l⟩ ⟨h1, h2, h3, h4, h5⟩ NX hN
  simp only at h1 h2 h3 h4 h5
  have hct := ct_Sec_le hs h1
  by_cases hi : i < a.length
  · have hli := h5 i (Nat.le_refl _) hi
    have hil : i < l.length := by omega
    have hx := hs _ (getD_mem' hi)
    unfold Sec.small at hx
    have hgm : getM (nobjs l) (fam 7 i) = some (.arr 113 0 6 ((a.getD i default).bl.map Blk.row)) := by rw [nobjs_fam h3 hil, hli]
    have gs : ∀ x : NRow, (l.set i x).getD i default = x := fun x => getD_seti' hil
    have e5 : k + ((ct_Sec a (i + 1) : Nat) : Int) = k + (ct_Sec a i : Int) + 1 + 6 * ((a.getD i default).bl.length : Int) := by rw [ct_Sec_succ hi]; omega
    unfold l_laws_markSkySectorS_0; simp (config := { maxSteps := 2000000 }) only [bitvec_to_nat, reduceIte, Nat.reduceEqDiff, Nat.reduceAdd, Nat.reduceLeDiff, reduceCtorEq, Nat.reduceBEq, Nat.reduceLT, Nat.reduceMod, List.forall_mem_cons, retG_ret, retQ_eq, retQ_eqN, retOk, keepB, re_tupl, orr_t, t_markText, NRow.row, setm_NRow, gs, hli, hgm, hrw, Int.toNat_natCast, List.length_map, List.length_set, Nat.sub_zero, Nat.zero_add, hz, fam_ne, fam_ne', hs1, List.set_set]
    have hM := (g_markBlkS 0 (k + ct_Sec a i + 1) (a.getD i default).bl (by omega) (by omega)).ren (swp 3 (fam 7 i)) (swp_swp _ _)
    simp only [renL, ren, renM, renO, swp, reduceIte, Nat.reduceLT] at hM
    refine ⟨fun _ => ⟨by omega, by omega, by omega, by omega, hil, _, _, .inl ⟨_, hM, by simp [getM, fam_ne, hgm], by simp [dom], by simp [dom], by simp [refsInL, refsIn, dom], by simp [refsInO], rfl, by simp [refsInO]⟩, ?_⟩, fun h => absurd (by omega) h⟩
    have hs1 : setM (nobjs l) (fam 7 i) .gone = nobjs (l.set i ⟨mtx (k + ct_Sec a i), (a.getD i default).bl.length, fam 7 i, .gone⟩) := by
      rw [setM_fam h3 hil, hli]; simp [nobjs, List.map_set]
    have hrw : (l.set i ⟨mtx (k + ct_Sec a i), (a.getD i default).bl.length, fam 7 i, .arr 113 0 6 ((a.getD i default).bl.map Blk.row)⟩).map NRow.row = (l.set i ⟨mtx (k + ct_Sec a i), (a.getD i default).bl.length, fam 7 i, .gone⟩).map NRow.row := by
      simp [List.map_set, NRow.row]
    simp (config := { maxSteps := 2000000 }) only [bitvec_to_nat, reduceIte, Nat.reduceEqDiff, Nat.reduceAdd, Nat.reduceLeDiff, reduceCtorEq, Nat.reduceBEq, Nat.reduceLT, Nat.reduceMod, List.forall_mem_cons, retG_ret, retQ_eq, retQ_eqN, retOk, keepB, re_tupl, orr_t, t_markText, NRow.row, setm_NRow, gs, hli, hgm, hrw, Int.toNat_natCast, List.length_map, List.length_set, Nat.sub_zero, Nat.zero_add, hz, fam_ne, fam_ne', hs1, List.set_set]
    rw [← e5]
    have hf' : isFam 7 (l.set i ⟨mtx (k + ct_Sec a i), (a.getD i default).bl.length, fam 7 i, .gone⟩) := fun j hj => by
      by_cases e : j = i
      · subst e; rw [gs]
      · rw [getD_setn' (Ne.symm e)]; exact h3 j (by simpa using hj)
    have ho' : flatObs (l.set i ⟨mtx (k + ct_Sec a i), (a.getD i default).bl.length, fam 7 i, .gone⟩) := fun j hj => by
      by_cases e : j = i
      · subst e; rw [gs]; exact .inl rfl
      · rw [getD_setn' (Ne.symm e)]; exact h4 j (by simpa using hj)
    refine ⟨by omega, hN (i + 1, l.set i ⟨mtx (k + ct_Sec a i), (a.getD i default).bl.length, fam 7 i, .gone⟩) _ ⟨by repeat' (first | exact trivial | refine ⟨.inr rfl, ?_⟩), ⟨rfl, wk_fam hf' (by omega)⟩, ?_, keep_self⟩ ⟨hi, by rw [List.length_set]; exact h2, hf', ho', fun j h6 h7 => ?_⟩ (by simp only; omega)⟩
    · simp only [closedB, List.all_cons, Bool.and_eq_true]
      exact ⟨⟨by simp [refsIn, dom], rfl, rfl, rfl⟩, by simpa only [List.all_cons, Bool.and_eq_true] using nobjs_all (T := 111) (o := 3) (y := .arr (1000000 + 111) 0 2 ((l.set i ⟨mtx (k + ct_Sec a i), (a.getD i default).bl.length, fam 7 i, .gone⟩).map NRow.row)) ho'⟩
    · simp only at h6 ⊢
      rw [getD_setn' (by omega)]; exact h5 j (by omega) h7
  · have hi' : ¬ (i : Int) < a.length := by omega
    have e : i = a.length := by omega
    subst e
    unfold l_laws_markSkySectorS_0; simp (config := { maxSteps := 2000000 }) only [bitvec_to_nat, reduceIte, Nat.reduceEqDiff, Nat.reduceAdd, Nat.reduceLeDiff, reduceCtorEq, Nat.reduceBEq, Nat.reduceLT, Nat.reduceMod, List.forall_mem_cons, retG_ret, retQ_eq, retQ_eqN, retOk, keepB, re_tupl, orr_t, t_markText, NRow.row, setm_NRow, gs, hli, hgm, hrw, Int.toNat_natCast, List.length_map, List.length_set, Nat.sub_zero, Nat.zero_add, hz, fam_ne, fam_ne', hs1, List.set_set, hi']
    exact ⟨l, ⟨h3, h2⟩, ⟨rfl, wk_fam h3 (by omega)⟩, nobjs_all (T := 111) (o := 3) (y := .gone) h4, keep_self (M := (3, .gone) :: nobjs l)⟩
end
end Go.Ve

namespace Go.Ve
noncomputable section
open Go.Proofs
set_option linter.unusedSimpArgs false
set_option linter.unusedVariables false
set_option maxRecDepth 100000
def gone (l : List (Nat × AObj)) : List (Nat × AObj) := l.map fun p => (p.1, AObj.gone)
theorem dom_gone {l : List (Nat × AObj)} : dom (gone l) = dom l := by simp [dom, gone]
theorem gone_app {a b : List (Nat × AObj)} : gone (a ++ b) = gone a ++ gone b := by simp [gone]
theorem gone_refs {l : List (Nat × AObj)} {d : List Nat} : ((gone l).all fun p => refsInO d p.2) = true := by
  rw [List.all_eq_true]
  intro p hp
  obtain ⟨q, _, rfl⟩ := List.mem_map.1 hp
  rfl
theorem bigs_gone {l : List (Nat × AObj)} (h : bigs l) : bigs (gone l) := fun p hp => by
  obtain ⟨q, hq, rfl⟩ := List.mem_map.1 hp
  exact h q hq
theorem getM_gone {l : List (Nat × AObj)} {o : Nat} : getM (gone l) o = (getM l o).map fun _ => .gone := by
  induction l with
  | nil => rfl
  | cons p l ih =>
    obtain ⟨k, x⟩ := p
    simp only [gone, List.map_cons, getM] at ih ⊢
    split
    · rfl
    · exact ih
theorem callR_gone {f : FuncId} {args : List AV} {pre : List (Nat × AObj)} {r : AV} {M : Nat → Option AObj} (hC : Contract P f args pre r (gone pre)) (hM : ∀ p ∈ pre, M p.1 = some p.2) (ha : refsInL (dom pre) args = true) (hp : (pre.all fun p => refsInO (dom pre) p.2) = true) (hr : noref r = true) :
    callR P f args M r (gone pre) := by
  refine .inl ⟨pre, hC, hM, fun p hp => .inl ?_, ?_, ha, hp, refsIn_nr _ _ hr, gone_refs⟩
  · obtain ⟨q, hq, rfl⟩ := List.mem_map.1 hp
    simpa using dom_mem hq
  · rw [dom_gone, List.all_eq_true]
    intro o ho; simpa using ho
theorem aCons {U M : List (Nat × AObj)} {o : Nat} {x : AObj} (h : ∀ p ∈ U, p.1 ≠ o) : applyU ((o, x) :: M) U = (o, x) :: applyU M U := by
  induction U with
  | nil => rfl
  | cons p U ih =>
    show setM (applyU ((o, x) :: M) U) p.1 p.2 = _
    rw [ih fun q hq => h q (by simp [hq])]
    show setM ((o, x) :: applyU M U) p.1 p.2 = (o, x) :: setM (applyU M U) p.1 p.2
    simp only [setM]
    rw [if_neg (h p (by simp))]
theorem aOver {U B : List (Nat × AObj)} (h : U.Pairwise fun a b => a.1 ≠ b.1) : applyU (U ++ B) (gone U) = gone U ++ B := by
  induction U with
  | nil => rfl
  | cons p U ih =>
    rw [List.pairwise_cons] at h
    obtain ⟨k, x⟩ := p
    show setM (applyU ((k, x) :: (U ++ B)) (gone U)) k .gone = (k, .gone) :: (gone U ++ B)
    rw [aCons, ih h.2]
    · simp [setM]
    · intro q hq e
      obtain ⟨y, hy, rfl⟩ := List.mem_map.1 hq
      exact h.1 y hy e.symm
theorem aSkip {A U B : List (Nat × AObj)} (h : ∀ p ∈ U, getM A p.1 = none) : applyU (A ++ B) U = A ++ applyU B U := by
  induction A with
  | nil => rfl
  | cons p A ih =>
    obtain ⟨k, x⟩ := p
    rw [List.cons_append, aCons, ih]
    · rfl
    · intro p hp
      have := h p hp
      simp only [getM] at this
      split at this
      · cases this
      · exact this
    · intro p hp e
      have := h p hp
      simp [getM, e] at this
theorem markPt3 (k : Int) (s : Sky) (hs : s.small) (hk : 0 ≤ k ∧ k ≤ 1125899906842624) : Contract P 96 [.own 3 0 0 s.pts.length, .int .i64 k] [(3, .arr 103 0 3 (s.pts.map Pt.row))] (.int .i64 (k + 3 * s.pts.length)) [(3, .gone)] :=
  g_markPtS 0 k s.pts (by unfold Sky.small at hs; omega) hk
theorem markRw6 (k : Int) (s : Sky) (hs : s.small) (hk : 0 ≤ k ∧ k ≤ 1125899906842624) : Contract P 99 [.own 6 0 0 s.rws.length, .int .i64 k] [(6, .arr 118 0 4 (s.rws.map Rw.row))] (.int .i64 (k + 4 * s.rws.length)) [(6, .gone)] := by
  have h := (g_markRwS 0 k s.rws (by unfold Sky.small at hs; omega) hk).ren (swp 3 6) (swp_swp _ _)
  simp only [renL, ren, renM, renO, swp, reduceIte, Nat.reduceLT] at h
  exact h
def preA (s : Sky) : List (Nat × AObj) := (4, .arr (1000000 + 108) 0 2 ((fA 7 s).map NRow.row)) :: nobjs (fA 7 s)
def preS (s : Sky) : List (Nat × AObj) := (5, .arr (1000000 + 111) 0 2 ((fS 8 s).map NRow.row)) :: nobjs (fS 8 s)
theorem renM_gone {s : Nat → Nat} {l : List (Nat × AObj)} : renM s (gone l) = gone (renM s l) := by
  induction l with
  | nil => rfl
  | cons p l ih => obtain ⟨k, x⟩ := p; simp only [gone, List.map_cons, renM, renO] at ih ⊢; rw [ih]
theorem markAw4 (k : Int) (s : Sky) (hs : s.small) (hk : 0 ≤ k ∧ k ≤ 35184372088832) : Contract P 97 [.own 4 0 0 s.aws.length, .int .i64 k] (preA s) (.int .i64 (k + ct_Aw s.aws s.aws.length)) (gone (preA s)) := by
  unfold Sky.small at hs
  have h := (g_markAwS k s.aws (by omega) hs.2.1.2 hk).ren (swp 3 4) (swp_swp _ _)
  have e : renM (swp 3 4) ((3, .arr (1000000 + 108) 0 2 ((nfam 7 9 1 (s.aws.map awP)).map NRow.row)) :: nobjs (nfam 7 9 1 (s.aws.map awP))) = preA s := by
    simp only [renM, renO, swp, reduceIte, Nat.reduceLT, Nat.reduceAdd]
    rw [renM_nobjs, renRows, nfam_swp (by omega) (by omega) (by omega)]; rfl
  rw [show (((3, AObj.arr (1000000 + 108) 0 2 ((nfam 7 9 1 (s.aws.map awP)).map NRow.row)) :: nobjs (nfam 7 9 1 (s.aws.map awP))).map fun p => (p.1, AObj.gone)) = gone ((3, AObj.arr (1000000 + 108) 0 2 ((nfam 7 9 1 (s.aws.map awP)).map NRow.row)) :: nobjs (nfam 7 9 1 (s.aws.map awP))) from rfl, renM_gone, e] at h
  simpa only [renL, ren, swp, reduceIte] using h
theorem markSec5 (k : Int) (s : Sky) (hs : s.small) (hk : 0 ≤ k ∧ k ≤ 35184372088832) : Contract P 98 [.own 5 0 0 s.secs.length, .int .i64 k] (preS s) (.int .i64 (k + ct_Sec s.secs s.secs.length)) (gone (preS s)) := by
  unfold Sky.small at hs
  have h := ((g_markSecS k s.secs (by omega) hs.2.2.1.2 hk).ren (swp 3 5) (swp_swp _ _)).ren (swpF 7 8) (swpF_swpF (by omega) (by omega))
  have e5 : swpF 7 8 (swp 3 5 3) = 5 := rfl
  have e : renM (swpF 7 8) (renM (swp 3 5) ((3, .arr (1000000 + 111) 0 2 ((nfam 7 113 6 (s.secs.map secP)).map NRow.row)) :: nobjs (nfam 7 113 6 (s.secs.map secP)))) = preS s := by
    simp only [renM, renO, e5, reduceIte, Nat.reduceLT, Nat.reduceAdd]
    rw [renM_nobjs, renM_nobjs, renRows, renRows, nfam_swp (by omega) (by omega) (by omega), nfam_swpF (by omega) (by omega)]; rfl
  rw [show (((3, AObj.arr (1000000 + 111) 0 2 ((nfam 7 113 6 (s.secs.map secP)).map NRow.row)) :: nobjs (nfam 7 113 6 (s.secs.map secP))).map fun p => (p.1, AObj.gone)) = gone ((3, AObj.arr (1000000 + 111) 0 2 ((nfam 7 113 6 (s.secs.map secP)).map NRow.row)) :: nobjs (nfam 7 113 6 (s.secs.map secP))) from rfl, renM_gone, renM_gone, e] at h
  simpa only [renL, ren, e5] using h
theorem gpA {s : Sky} : gone (preA s) = (4, .gone) :: gone (nobjs (fA 7 s)) := rfl
theorem gpS {s : Sky} : gone (preS s) = (5, .gone) :: gone (nobjs (fS 8 s)) := rfl
theorem gone_fam_ne {k e sz o : Nat} {x : List (ByteArray × List (List AV))} (ho : o < 1000) : ∀ p ∈ gone (nobjs (nfam k e sz x)), p.1 ≠ o := fun p hp e9 => by
  have := bigs_gone (bigs_nfam (k := k) (e := e) (sz := sz) (x := x)) p hp
  omega
theorem apA {s : Sky} {x3 x4 x5 x6 : AObj} {B : List (Nat × AObj)} : applyU ((3, x3) :: (4, x4) :: (5, x5) :: (6, x6) :: (nobjs (fA 7 s) ++ B)) (gone (nobjs (fA 7 s))) = (3, x3) :: (4, x4) :: (5, x5) :: (6, x6) :: (gone (nobjs (fA 7 s)) ++ B) := by
  simp only [fA, fS]
  rw [aCons (gone_fam_ne (by omega)), aCons (gone_fam_ne (by omega)), aCons (gone_fam_ne (by omega)), aCons (gone_fam_ne (by omega)), aOver nfam_pw]
theorem apS {s : Sky} {x3 x4 x5 x6 : AObj} {B : List (Nat × AObj)} : applyU ((3, x3) :: (4, x4) :: (5, x5) :: (6, x6) :: (gone (nobjs (fA 7 s)) ++ (nobjs (fS 8 s) ++ B))) (gone (nobjs (fS 8 s))) = (3, x3) :: (4, x4) :: (5, x5) :: (6, x6) :: (gone (nobjs (fA 7 s)) ++ (gone (nobjs (fS 8 s)) ++ B)) := by
  simp only [fA, fS]
  rw [aCons (gone_fam_ne (by omega)), aCons (gone_fam_ne (by omega)), aCons (gone_fam_ne (by omega)), aCons (gone_fam_ne (by omega)), aSkip, aOver nfam_pw]
  intro p hp
  obtain ⟨q, hq, rfl⟩ := List.mem_map.1 hp
  obtain ⟨i, _, rfl⟩ := nfam_at hq
  rw [getM_gone, nfam_none (by omega) (by omega) (by omega)]; rfl
theorem keep_of {M M' : List (Nat × AObj)} (h : ∀ p ∈ M, 100 ≤ p.1 % 1000 ∨ p.1 ∈ dom M') : keepB M M' = true := by
  unfold keepB
  rw [List.all_eq_true]
  intro o ho
  obtain ⟨p, hp, rfl⟩ := List.mem_map.1 ho
  rcases h p hp with h | h
  · simp [h]
  · simp [h]
def cntSky (s : Sky) : Nat := 3 * s.pts.length + ct_Aw s.aws s.aws.length + ct_Sec s.secs s.secs.length + 4 * s.rws.length
theorem sky_100 {s : Sky} : (dom (skyM s 3 4 5 6 7 8)).all (decide <| · % 1000 < 100) = true := by
  rw [sky_dom, List.all_eq_true]
  intro o ho
  simp only [List.mem_cons, List.mem_append, List.mem_map] at ho
  rcases ho with rfl | rfl | rfl | rfl | ⟨r, hr, rfl⟩ | ⟨r, hr, rfl⟩
  · rfl
  · rfl
  · rfl
  · rfl
  · rw [nfam_mod (k := 7) (by omega) hr]; rfl
  · rw [nfam_mod (k := 8) (by omega) hr]; rfl
set_option maxHeartbeats 2000000 in
theorem g_markSky (k : Int) (s : Sky) (hs : s.small) (hk : 0 ≤ k ∧ k ≤ 1000000) : Contract P 27 [skyV s 3 4 5 6, .int .i64 k] (skyM s 3 4 5 6 7 8) (.int .i64 (k + cntSky s)) (gone (skyM s 3 4 5 6 7 8)) := by
  have hct := ct_Aw_le hs.2.1.2 (Nat.le_refl _)
  have hct2 := ct_Sec_le hs.2.2.1.2 (Nat.le_refl _)
  have bA : bigs (nobjs (fA 7 s)) := bigs_nfam
  have bS : bigs (nobjs (fS 8 s)) := bigs_nfam
  have bGA := bigs_gone bA
  have bGS := bigs_gone bS
  have hm := hs
  unfold Sky.small at hm
  refine fn_sound (Env.nil P) Go.Ve.hm k_laws_markSky (Nat.le_of_ble_eq_true rfl) sky_100 ?_; unfold s_laws_markSky
  simp (config := { maxSteps := 2000000 }) only [bitvec_to_nat, reduceIte, Nat.reduceEqDiff, Nat.reduceAdd, Nat.reduceLeDiff, reduceCtorEq, Nat.reduceBEq, Nat.reduceLT, Nat.reduceMod, List.forall_mem_cons, retG_ret, retQ_eq, retQ_eqN, retOk, keepB, re_tupl, orr_t, skyV, fam_ne, fam_ne', Nat.sub_zero, Nat.zero_add, gB, gB0, sB, sB0, bA, bS, List.append_assoc, List.cons_append, List.nil_append, List.append_nil, skyM, bGA, bGS, gpA, gpS, apA, apS]
  refine ⟨_, _, callR_gone (pre := [(3, .arr 103 0 3 (s.pts.map Pt.row))]) (markPt3 k s hs (by omega)) (by simp [getM]) (by simp [refsInL, refsIn, dom]) (by simp [refsInO]) rfl, ?_⟩
  simp only [gone, List.map_cons, List.map_nil]
  simp (config := { maxSteps := 2000000 }) only [bitvec_to_nat, reduceIte, Nat.reduceEqDiff, Nat.reduceAdd, Nat.reduceLeDiff, reduceCtorEq, Nat.reduceBEq, Nat.reduceLT, Nat.reduceMod, List.forall_mem_cons, retG_ret, retQ_eq, retQ_eqN, retOk, keepB, re_tupl, orr_t, skyV, fam_ne, fam_ne', Nat.sub_zero, Nat.zero_add, gB, gB0, sB, sB0, bA, bS, List.append_assoc, List.cons_append, List.nil_append, List.append_nil, skyM, bGA, bGS, gpA, gpS, apA, apS]
  refine ⟨_, _, callR_gone (pre := preA s) (markAw4 (k + 3 * s.pts.length) s hs (by omega)) (fun p hp => ?_) (by simp [refsInL, refsIn, dom, preA]) (fam_refs (by omega)) rfl, ?_⟩
  · rcases List.mem_cons.1 hp with rfl | hp
    · simp only [getM, Nat.reduceEqDiff, reduceIte]
    · obtain ⟨i, hi, rfl⟩ := nfam_at hp
      simp only [getM, fam_ne, Nat.reduceLT, if_false, getM_append, fA, nfam_obj hi, Option.some_or]
  simp (config := { maxSteps := 2000000 }) only [bitvec_to_nat, reduceIte, Nat.reduceEqDiff, Nat.reduceAdd, Nat.reduceLeDiff, reduceCtorEq, Nat.reduceBEq, Nat.reduceLT, Nat.reduceMod, List.forall_mem_cons, retG_ret, retQ_eq, retQ_eqN, retOk, keepB, re_tupl, orr_t, skyV, fam_ne, fam_ne', Nat.sub_zero, Nat.zero_add, gB, gB0, sB, sB0, bA, bS, List.append_assoc, List.cons_append, List.nil_append, List.append_nil, skyM, bGA, bGS, gpA, gpS, apA, apS]
  refine ⟨_, _, callR_gone (pre := preS s) (markSec5 (k + 3 * s.pts.length + ct_Aw s.aws s.aws.length) s hs (by omega)) (fun p hp => ?_) (by simp [refsInL, refsIn, dom, preS]) (fam_refs (by omega)) rfl, ?_⟩
  · rcases List.mem_cons.1 hp with rfl | hp
    · simp only [getM, Nat.reduceEqDiff, reduceIte]
    · obtain ⟨i, hi, rfl⟩ := nfam_at hp
      simp only [getM, fam_ne, Nat.reduceLT, if_false, getM_append, getM_gone, fA, fS, nfam_none, ne_eq, Nat.reduceEqDiff, not_false_eq_true, Option.map_none, Option.none_or, nfam_obj hi, Option.some_or]
  simp (config := { maxSteps := 2000000 }) only [bitvec_to_nat, reduceIte, Nat.reduceEqDiff, Nat.reduceAdd, Nat.reduceLeDiff, reduceCtorEq, Nat.reduceBEq, Nat.reduceLT, Nat.reduceMod, List.forall_mem_cons, retG_ret, retQ_eq, retQ_eqN, retOk, keepB, re_tupl, orr_t, skyV, fam_ne, fam_ne', Nat.sub_zero, Nat.zero_add, gB, gB0, sB, sB0, bA, bS, List.append_assoc, List.cons_append, List.nil_append, List.append_nil, skyM, bGA, bGS, gpA, gpS, apA, apS]
  refine ⟨_, _, callR_gone (pre := [(6, .arr 118 0 4 (s.rws.map Rw.row))]) (markRw6 (k + 3 * s.pts.length + ct_Aw s.aws s.aws.length + ct_Sec s.secs s.secs.length) s hs (by omega)) (by simp [getM]) (by simp [refsInL, refsIn, dom]) (by simp [refsInO]) rfl, ?_⟩
  simp only [gone, List.map_cons, List.map_nil]
  simp (config := { maxSteps := 2000000 }) only [bitvec_to_nat, reduceIte, Nat.reduceEqDiff, Nat.reduceAdd, Nat.reduceLeDiff, reduceCtorEq, Nat.reduceBEq, Nat.reduceLT, Nat.reduceMod, List.forall_mem_cons, retG_ret, retQ_eq, retQ_eqN, retOk, keepB, re_tupl, orr_t, skyV, fam_ne, fam_ne', Nat.sub_zero, Nat.zero_add, gB, gB0, sB, sB0, bA, bS, List.append_assoc, List.cons_append, List.nil_append, List.append_nil, skyM, bGA, bGS, gpA, gpS, apA, apS]
  refine ⟨by unfold cntSky; omega, wkM_self fun p hp => ?_, gone_refs, ?_⟩
  · obtain ⟨q, hq, rfl⟩ := List.mem_map.1 hp
    rcases List.mem_append.1 hq with hq | hq
    · obtain ⟨i, hi, rfl⟩ := nfam_at hq
      show getM (_ :: _ :: _ :: _ :: (gone _ ++ (gone _ ++ _))) _ = _
      simp only [getM, fam_ne, Nat.reduceLT, if_false, getM_append, getM_gone, fA, nfam_obj hi, Option.map_some, Option.some_or]
    · obtain ⟨i, hi, rfl⟩ := nfam_at hq
      show getM (_ :: _ :: _ :: _ :: (gone _ ++ (gone _ ++ _))) _ = _
      simp only [getM, fam_ne, Nat.reduceLT, if_false, getM_append, getM_gone, fA, fS, nfam_none, ne_eq, Nat.reduceEqDiff, not_false_eq_true, Option.map_none, Option.none_or, nfam_obj hi, Option.map_some, Option.some_or]
  · refine keep_of (M := (3, .gone) :: (4, .gone) :: (5, .gone) :: (6, .gone) :: (gone (nobjs (fA 7 s)) ++ (gone (nobjs (fS 8 s)) ++ [(102, _)]))) (M' := (3, .gone) :: (4, .gone) :: (5, .gone) :: (6, .gone) :: gone (nobjs (fA 7 s) ++ nobjs (fS 8 s))) fun p hp => ?_
    simp only [List.mem_cons, List.mem_append, List.not_mem_nil, or_false] at hp
    simp only [dom, List.map_cons, List.mem_cons, List.mem_map, gone_app, List.mem_append]
    rcases hp with rfl | rfl | rfl | rfl | hp | hp | rfl
    · exact .inr (.inl rfl)
    · exact .inr (.inr (.inl rfl))
    · exact .inr (.inr (.inr (.inl rfl)))
    · exact .inr (.inr (.inr (.inr (.inl rfl))))
    · exact .inr (.inr (.inr (.inr (.inr ⟨p, .inl hp, rfl⟩))))
    · exact .inr (.inr (.inr (.inr (.inr ⟨p, .inr hp, rfl⟩))))
    · exact .inl (by simp)
end
end Go.Ve

namespace Go.Ve
noncomputable section
open Go.Proofs
set_option linter.unusedSimpArgs false
set_option linter.unusedVariables false
set_option maxRecDepth 100000
theorem purR_flat (K : Nat → Option AObj) : ∀ {r : List AV}, flatOk r = true → purR K r = some r
  | [], _ => rfl
  | x :: xs, h => by
    simp only [flatOk, Bool.and_eq_true] at h
    have ih := purR_flat K h.2
    cases x <;> first | (simp [noref] at h; done) | (simp only [purR, ih]; rw [if_pos]; simp only [h.1.1, h.1.2, Bool.and_self])
theorem purRs_flat (K : Nat → Option AObj) : ∀ {rs : List (List AV)}, (∀ r ∈ rs, flatOk r = true) → purRs K rs = some rs
  | [], _ => rfl
  | r :: rs, h => by
    have ih := purRs_flat K (rs := rs) fun x hx => h x (by simp [hx])
    simp only [purRs, purR_flat K (h r (by simp)), ih]
def NRow.ys (r : NRow) : List (List AV) := match r.ob with | .arr _ _ _ ys => ys | _ => []
theorem purRs_nrow (K : Nat → Option AObj) (sz : Nat) : ∀ {l : List NRow}, (∀ r ∈ l, ∃ e ys, e < 1000000 ∧ r.ob = .arr e 0 sz ys ∧ K r.o = some r.ob ∧ r.n = ys.length) → purRs K (l.map NRow.row) = some (l.map fun r => [.str r.nm, .sl 99 sz r.ys])
  | [], _ => rfl
  | r :: l, h => by
    obtain ⟨e, ys, he, h1, h2, h3⟩ := h r (by simp)
    have ih := purRs_nrow K sz (l := l) fun x hx => h x (by simp [hx])
    rw [h1] at h2
    simp only [List.map_cons, purRs, ih, NRow.row, purR, h2, he, if_true, isLeaf, noref, Bool.and_self, NRow.ys, h1, h3, List.take_length, List.drop_zero]
theorem purRs_nfam (K : Nat → Option AObj) {k e sz : Nat} (he : e < 1000000) {x : List (ByteArray × List (List AV))} (h : ∀ p ∈ nobjs (nfam k e sz x), K p.1 = some p.2) : purRs K ((nfam k e sz x).map NRow.row) = some (x.map fun y => [.str y.1, .sl 99 sz y.2]) := by
  rw [purRs_nrow K sz fun r hr => ?_]
  · congr 1
    refine List.ext_getElem (by simp [nfam]) fun i h1 h2 => ?_
    simp [nfam, NRow.ys]
  · have hk := h (r.o, r.ob) (List.mem_map.2 ⟨r, hr, rfl⟩)
    simp only [nfam, List.mem_mapIdx] at hr
    obtain ⟨i, hi, rfl⟩ := hr
    exact ⟨e, _, he, rfl, hk, rfl⟩
theorem purN_sky {M K : Nat → Option AObj} {s : Sky} {a b c d kA kS : Nat} (hM : ∀ p ∈ skyM s a b c d kA kS, M p.1 = some p.2) (hK : ∀ p ∈ skyM s a b c d kA kS, K p.1 = some p.2) : purN M K (skyV s a b c d) = some (.agg (s.row 99)) := by
  have h1 := hM _ (show (a, AObj.arr 103 0 3 (s.pts.map Pt.row)) ∈ skyM s a b c d kA kS from by simp [skyM])
  have h2 := hM _ (show (b, AObj.arr (1000000 + 108) 0 2 ((fA kA s).map NRow.row)) ∈ skyM s a b c d kA kS from by simp [skyM])
  have h3 := hM _ (show (c, AObj.arr (1000000 + 111) 0 2 ((fS kS s).map NRow.row)) ∈ skyM s a b c d kA kS from by simp [skyM])
  have h4 := hM _ (show (d, AObj.arr 118 0 4 (s.rws.map Rw.row)) ∈ skyM s a b c d kA kS from by simp [skyM])
  simp only at h1 h2 h3 h4
  have hA := purRs_nfam K (k := kA) (e := 9) (sz := 1) (by omega) (x := s.aws.map awP) fun p hp => hK p (by simp only [skyM, List.mem_cons, List.mem_append]; exact .inr (.inr (.inr (.inr (.inl hp)))))
  have hS := purRs_nfam K (k := kS) (e := 113) (sz := 6) (by omega) (x := s.secs.map secP) fun p hp => hK p (by simp only [skyM, List.mem_cons, List.mem_append]; exact .inr (.inr (.inr (.inr (.inr hp)))))
  have t1 : (s.pts.map Pt.row).take s.pts.length = s.pts.map Pt.row := List.take_of_length_le (by simp)
  have t2 : ((fA kA s).map NRow.row).take s.aws.length = (fA kA s).map NRow.row := List.take_of_length_le (by simp [fA, nfam_len])
  have t3 : ((fS kS s).map NRow.row).take s.secs.length = (fS kS s).map NRow.row := List.take_of_length_le (by simp [fS, nfam_len])
  have t4 : (s.rws.map Rw.row).take s.rws.length = s.rws.map Rw.row := List.take_of_length_le (by simp)
  have f1 : purRs K (s.pts.map Pt.row) = some (s.pts.map Pt.row) := purRs_flat K fun r hr => by obtain ⟨x, _, rfl⟩ := List.mem_map.1 hr; rfl
  have f4 : purRs K (s.rws.map Rw.row) = some (s.rws.map Rw.row) := purRs_flat K fun r hr => by obtain ⟨x, _, rfl⟩ := List.mem_map.1 hr; rfl
  simp only [fA, fS] at t2 t3 h2 h3
  simp only [List.map_map] at hA hS
  simp only [skyV, purN, purNL, h1, h2, h3, h4, if_true, List.drop_zero, t1, t2, t3, t4, f1, f4, fA, fS, hA, hS, Option.map_some, Sky.row]
  rfl
theorem sky_self {s : Sky} {a b c d kA kS : Nat} (ha : a < 1000) (hb : b < 1000) (hc : c < 1000) (hd : d < 1000) (hab : b ≠ a) (hac : c ≠ a) (had : d ≠ a) (hbc : c ≠ b) (hbd : d ≠ b) (hcd : d ≠ c) (hA : kA < 1000) (hS : kS < 1000) (hAS : kA ≠ kS) :
    ∀ p ∈ skyM s a b c d kA kS, getM (skyM s a b c d kA kS) p.1 = some p.2 := by
  intro p hp
  simp only [skyM, List.mem_cons, List.mem_append] at hp
  rcases hp with rfl | rfl | rfl | rfl | hp | hp
  · simp [skyM, getM]
  · simp [skyM, getM, hab]
  · simp [skyM, getM, hac, hbc]
  · simp [skyM, getM, had, hbd, hcd]
  · obtain ⟨i, hi, rfl⟩ := nfam_at hp
    simp only [skyM, getM, fam_ne ha, fam_ne hb, fam_ne hc, fam_ne hd, if_false, getM_append, fA, nfam_obj hi, Option.some_or]
  · obtain ⟨i, hi, rfl⟩ := nfam_at hp
    simp only [skyM, getM, fam_ne ha, fam_ne hb, fam_ne hc, fam_ne hd, if_false, getM_append, fA, fS, nfam_none hA hS hAS, nfam_obj hi, Option.none_or]
theorem aKeep {M K : List (Nat × AObj)} (h : ∀ p ∈ K, getM M p.1 = some p.2) : applyU M K = M := by
  induction K with
  | nil => rfl
  | cons p K ih =>
    show setM (applyU M K) p.1 p.2 = M
    rw [ih fun q hq => h q (by simp [hq])]
    have := h p (by simp)
    clear ih h
    induction M with
    | nil => simp [getM] at this
    | cons q M ih =>
      obtain ⟨k, x⟩ := q
      simp only [getM] at this
      simp only [setM]
      split at this
      · rename_i e; cases this; rw [if_pos e]
      · rename_i e; rw [if_neg e, ih this]
theorem tag_rows {α : Type} {f : Nat → α → List AV} {t : Nat} (h : ∀ x, tag0L (f t x) = f 0 x) (l : List α) : tag0LL (l.map (f t)) = l.map (f 0) := by
  rw [tag0LL_map, List.map_map]; exact List.map_congr_left fun x _ => h x
theorem tag_flat {α : Type} {f : α → List AV} (h : ∀ x, tag0L (f x) = f x) (l : List α) : tag0LL (l.map f) = l.map f := by
  rw [tag0LL_map, List.map_map]; exact List.map_congr_left fun x _ => h x
theorem no98_rows {α : Type} {f : α → List AV} (h : ∀ x, no98L (f x) = true) (l : List α) : no98LL (l.map f) = true := by
  induction l with
  | nil => rfl
  | cons x l ih => simp only [List.map_cons, no98LL, h x, ih, Bool.and_self]
theorem tag_sky (t : Nat) (s : Sky) : tag0 (.agg (s.row t)) = .agg (s.row 0) := by
  simp only [Sky.row, tag0, tag0L]
  rw [tag_flat (f := Pt.row) (fun _ => rfl), tag_flat (f := Rw.row) (fun _ => rfl), tag_rows (f := Aw.row) (fun x => by simp only [Aw.row, tag0L, tag0]; rw [tag_flat (f := srow) fun _ => rfl]), tag_rows (f := Sec.row) (fun x => by simp only [Sec.row, tag0L, tag0]; rw [tag_flat (f := Blk.row) fun _ => rfl])]
theorem no98_sky (t : Nat) (ht : t ≠ 98) (s : Sky) : no98 (.agg (s.row t)) = true := by
  simp only [Sky.row, no98, no98L]
  rw [no98_rows (f := Pt.row) (fun _ => rfl), no98_rows (f := Rw.row) (fun _ => rfl), no98_rows (f := Aw.row t) (fun x => by simp only [Aw.row, no98L, no98]; rw [no98_rows (f := srow) fun _ => rfl]; simp [ht]), no98_rows (f := Sec.row t) (fun x => by simp only [Sec.row, no98L, no98]; rw [no98_rows (f := Blk.row) fun _ => rfl]; simp [ht])]
  simp [ht]
/-- A call that only looks at a sky of the function's own. -/
theorem callR_sky {f : FuncId} {s : Sky} {a b c d kA kS : Nat} {rest rest' : List AV} {r : AV} {news : List (Nat × AObj)} {M : Nat → Option AObj} (hC : Contract P f (.agg (s.row 0) :: tag0L rest') [] r news)
    (hM : ∀ p ∈ skyM s a b c d kA kS, M p.1 = some p.2) (hself : ∀ p ∈ skyM s a b c d kA kS, getM (skyM s a b c d kA kS) p.1 = some p.2)
    (hr : purNL M (getM (skyM s a b c d kA kS)) rest = some rest') (h98 : no98L rest' = true) (hp : plainV r = true) (hpo : (news.all fun p => plainO p.2) = true) (hn : ∀ p ∈ news, M p.1 = none) (hrf : refsIn (dom news) r = true)
    (hro : (news.all fun p => refsInO (dom news) p.2) = true) (h9 : No99 r) (h9o : ∀ p ∈ news, No99O p.2) : callR P f (skyV s a b c d :: rest) M r (news ++ skyM s a b c d kA kS) := by
  refine .inr (.inr (.inr ⟨.agg (s.row 99) :: rest', skyM s a b c d kA kS, news, rfl, hM, ?_, ?_, hn, hrf, hro, h9, h9o⟩))
  · simp only [purNL, purN_sky hM hself, hr]
  · refine Contract.tag ?_ ?_ hp hpo
    · simp only [tag0L, tag_sky]; exact hC
    · simp only [no98L, no98_sky 99 (by omega), h98, Bool.and_self]

end
end Go.Ve

namespace Go.Ve
noncomputable section
open Go.Proofs
set_option linter.unusedSimpArgs false
set_option linter.unusedVariables false
set_option maxRecDepth 100000
def Zone.over (z : Zone) (x y : Int) : Prop := (z.x0 ≤ x ∧ x ≤ z.x1) ∧ (z.y0 ≤ y ∧ y ≤ z.y1)
noncomputable instance (z : Zone) (x y : Int) : Decidable (z.over x y) := Classical.propDecidable _
end
end Go.Ve

namespace Go.Ve
noncomputable section
open Go.Proofs
set_option linter.unusedSimpArgs false
set_option linter.unusedVariables false
set_option maxRecDepth 100000
def zoneOf (c : Sec) : Zone := ⟨c.nm, (c.bl.getD 0 default).x0, (c.bl.getD 0 default).y0, (c.bl.getD 0 default).x1, (c.bl.getD 0 default).y1⟩
def secOne (lv : Int) (c : Sec) : Prop := c.bl.length = 1 ∧ (c.bl.getD 0 default).lo = 1 ∧ (c.bl.getD 0 default).hi = lv
def lzOk (s : Sky) : Prop := (∀ i, i < s.secs.length → secOne s.lv (s.secs.getD i default)) ∧ zonesOk (s.secs.map zoneOf)
noncomputable instance (s : Sky) : Decidable (lzOk s) := Classical.propDecidable _
def lzV (s : Sky) : Prop := s.valid ∧ lzOk s
noncomputable instance (s : Sky) : Decidable (lzV s) := Classical.propDecidable _
end
end Go.Ve

namespace Go.Ve
noncomputable section
open Go.Proofs
set_option linter.unusedSimpArgs false
set_option linter.unusedVariables false
set_option maxRecDepth 100000
end
end Go.Ve

namespace Go.Ve
noncomputable section
open Go.Proofs
set_option linter.unusedSimpArgs false
set_option linter.unusedVariables false
set_option maxRecDepth 100000
theorem Contract.post_eq {f : FuncId} {args : List AV} {pre post post' : List (Nat × AObj)} {r : AV} (h : Contract P f args pre r post) (e : getM post' = getM post) : Contract P f args pre r post' := by
  unfold Contract at h ⊢
  rw [e]; exact h
theorem skyM_ren {s : Sky} {a b c d kA kS kA' kS' : Nat} {σ : Nat → Nat} (hA : ∀ i, σ (fam kA i) = fam kA' i) (hS : ∀ i, σ (fam kS i) = fam kS' i) : renM σ (skyM s a b c d kA kS) = skyM s (σ a) (σ b) (σ c) (σ d) kA' kS' := by
  have eA : (fA kA s).map (NRow.ren σ) = fA kA' s := by
    refine List.ext_getElem (by simp [fA, nfam]) fun i h1 h2 => ?_
    simp [fA, nfam, NRow.ren, hA, renO]
  have eS : (fS kS s).map (NRow.ren σ) = fS kS' s := by
    refine List.ext_getElem (by simp [fS, nfam]) fun i h1 h2 => ?_
    simp [fS, nfam, NRow.ren, hS, renO]
  simp only [skyM, renM, renO, renM_app, renM_nobjs, eA, eS, renRows]
  rfl
theorem skyV_ren {s : Sky} {a b c d : Nat} {σ : Nat → Nat} : ren σ (skyV s a b c d) = skyV s (σ a) (σ b) (σ c) (σ d) := by simp only [skyV, ren, renL]
/-- The sky that the law holds. -/
abbrev K0 (s : Sky) : List (Nat × AObj) := skyM s 611 613 614 612 107 108
theorem K0_self (s : Sky) : ∀ p ∈ K0 s, getM (K0 s) p.1 = some p.2 := sky_self (by omega) (by omega) (by omega) (by omega) (by omega) (by omega) (by omega) (by omega) (by omega) (by omega) (by omega) (by omega) (by omega)
theorem K0_keys (s : Sky) : ∀ p ∈ K0 s, p.1 = 611 ∨ p.1 = 613 ∨ p.1 = 614 ∨ p.1 = 612 ∨ 1000 ≤ p.1 := by
  intro p hp
  simp only [K0, skyM, List.mem_cons, List.mem_append] at hp
  rcases hp with rfl | rfl | rfl | rfl | hp | hp
  · simp
  · simp
  · simp
  · simp
  · exact .inr (.inr (.inr (.inr (bigs_nfam p hp))))
  · exact .inr (.inr (.inr (.inr (bigs_nfam p hp))))
theorem K0_pw (s : Sky) : (K0 s).Pairwise fun a b => a.1 ≠ b.1 := by
  have big : ∀ p ∈ nobjs (fA 107 s) ++ nobjs (fS 108 s), 1000 ≤ p.1 := fun p hp => (List.mem_append.1 hp).elim (bigs_nfam p) (bigs_nfam p)
  simp only [K0, skyM, List.pairwise_cons, List.mem_cons]
  refine ⟨?_, ?_, ?_, ?_, ?_⟩
  · rintro p (rfl | rfl | rfl | hp)
    · simp
    · simp
    · simp
    · have := big p hp; (try simp only); omega
  · rintro p (rfl | rfl | hp)
    · simp
    · simp
    · have := big p hp; (try simp only); omega
  · rintro p (rfl | hp)
    · simp
    · have := big p hp; (try simp only); omega
  · rintro p hp
    have := big p hp; (try simp only); omega
  · rw [List.pairwise_append]
    refine ⟨nfam_pw, nfam_pw, fun p hp q hq e => ?_⟩
    obtain ⟨i, _, rfl⟩ := nfam_at hp
    obtain ⟨j, _, rfl⟩ := nfam_at hq
    simp only [fam] at e; omega
theorem gSky {s : Sky} {B : List (Nat × AObj)} {o : Nat} (h : o < 611) : getM (K0 s ++ B) o = getM B o := getM_app_none (by
  cases hg : getM (K0 s) o with
  | none => rfl
  | some x => have := K0_keys s _ (getM_mem hg); simp only at this; omega)
theorem gSky' {s : Sky} {B : List (Nat × AObj)} {o : Nat} (h : 614 < o) (h2 : o < 1000) : getM (K0 s ++ B) o = getM B o := getM_app_none (by
  cases hg : getM (K0 s) o with
  | none => rfl
  | some x => have := K0_keys s _ (getM_mem hg); simp only at this; omega)
theorem sSky {s : Sky} {B : List (Nat × AObj)} {o : Nat} {x : AObj} (h : o < 611) : setM (K0 s ++ B) o x = K0 s ++ setM B o x := setM_app (by have := gSky (s := s) (B := []) h; simpa [getM] using this)
theorem sSky' {s : Sky} {B : List (Nat × AObj)} {o : Nat} {x : AObj} (h : 614 < o) (h2 : o < 1000) : setM (K0 s ++ B) o x = K0 s ++ setM B o x := setM_app (by have := gSky' (s := s) (B := []) h h2; simpa [getM] using this)
theorem getM_gone_none {l : List (Nat × AObj)} {o : Nat} (h : getM l o = none) : getM (gone l) o = none := by rw [getM_gone, h]; rfl
theorem gG {s : Sky} {B : List (Nat × AObj)} {o : Nat} (h : o < 611) : getM (gone (K0 s) ++ B) o = getM B o := getM_app_none (getM_gone_none (by have := gSky (s := s) (B := []) h; simpa [getM] using this))
theorem gG' {s : Sky} {B : List (Nat × AObj)} {o : Nat} (h : 614 < o) (h2 : o < 1000) : getM (gone (K0 s) ++ B) o = getM B o := getM_app_none (getM_gone_none (by have := gSky' (s := s) (B := []) h h2; simpa [getM] using this))
theorem sG {s : Sky} {B : List (Nat × AObj)} {o : Nat} {x : AObj} (h : o < 611) : setM (gone (K0 s) ++ B) o x = gone (K0 s) ++ setM B o x := setM_app (by have := gG (s := s) (B := []) h; simpa [getM] using this)
theorem sG' {s : Sky} {B : List (Nat × AObj)} {o : Nat} {x : AObj} (h : 614 < o) (h2 : o < 1000) : setM (gone (K0 s) ++ B) o x = gone (K0 s) ++ setM B o x := setM_app (by have := gG' (s := s) (B := []) h h2; simpa [getM] using this)
theorem sSky0 {s : Sky} {o : Nat} {x : AObj} (h : o < 611) : setM (K0 s) o x = K0 s ++ [(o, x)] := by
  have := sSky (s := s) (B := []) (x := x) h
  simpa [setM] using this
theorem gSky0 {s : Sky} {o : Nat} (h : o < 611) : getM (K0 s) o = none := by
  have := gSky (s := s) (B := []) h
  simpa [getM] using this
theorem gs1 {s : Sky} {B : List (Nat × AObj)} : getM (K0 s ++ B) 611 = some (.arr 103 0 3 (s.pts.map Pt.row)) := rfl
theorem gs2 {s : Sky} {B : List (Nat × AObj)} : getM (K0 s ++ B) 613 = some (.arr (1000000 + 108) 0 2 ((fA 107 s).map NRow.row)) := rfl
theorem gs3 {s : Sky} {B : List (Nat × AObj)} : getM (K0 s ++ B) 614 = some (.arr (1000000 + 111) 0 2 ((fS 108 s).map NRow.row)) := rfl
theorem gs4 {s : Sky} {B : List (Nat × AObj)} : getM (K0 s ++ B) 612 = some (.arr 118 0 4 (s.rws.map Rw.row)) := rfl
theorem K0_in {s : Sky} {A B : List (Nat × AObj)} (hA : ∀ p ∈ A, p.1 < 611) : ∀ p ∈ K0 s, getM (A ++ (K0 s ++ B)) p.1 = some p.2 := fun p hp => by
  rw [getM_app_none, getM_app_some (K0_self s p hp)]
  cases hg : getM A p.1 with
  | none => rfl
  | some x => have := hA _ (getM_mem hg); have := K0_keys s p hp; simp only at *; omega
theorem apNew {s : Sky} {A : List (Nat × AObj)} (hA : ∀ p ∈ A, p.1 < 611) : applyU A (K0 s).reverse = A ++ (K0 s ++ []) := by
  rw [aU, List.reverse_reverse, List.append_nil]
  · intro p hp
    cases hg : getM A p.1 with
    | none => rfl
    | some x => have := hA _ (getM_mem hg); have := K0_keys s p (List.mem_reverse.1 hp); simp only at *; omega
  · rw [List.pairwise_reverse]
    exact (K0_pw s).imp fun h => Ne.symm h
theorem apGone {s : Sky} {A B : List (Nat × AObj)} (hA : ∀ p ∈ A, p.1 < 611) : applyU (A ++ (K0 s ++ B)) (gone (K0 s)) = A ++ (gone (K0 s) ++ B) := by
  rw [aSkip, aOver (K0_pw s)]
  intro p hp
  obtain ⟨q, hq, rfl⟩ := List.mem_map.1 hp
  cases hg : getM A q.1 with
  | none => rfl
  | some x => have := hA _ (getM_mem hg); have := K0_keys s q hq; simp only at *; omega
theorem kG {s : Sky} {B : List (Nat × AObj)} : keepB (gone (K0 s) ++ B) [] = keepB B [] := by
  have h : keepB (gone (K0 s)) [] = true := keep_of fun p hp => by
    obtain ⟨q, hq, rfl⟩ := List.mem_map.1 hp
    left
    simp only [K0, skyM, List.mem_cons, List.mem_append] at hq
    rcases hq with rfl | rfl | rfl | rfl | hq | hq
    · simp
    · simp
    · simp
    · simp
    · exact big100_nfam (by omega) (by omega) q hq
    · exact big100_nfam (by omega) (by omega) q hq
  unfold keepB at h ⊢
  rw [dom_app, List.all_append, h, Bool.true_and]
theorem K0r_new {s : Sky} {A : List (Nat × AObj)} (hA : ∀ p ∈ A, p.1 < 611) : ∀ p ∈ (K0 s).reverse, getM A p.1 = none := by
  intro p hp
  cases hg : getM A p.1 with
  | none => rfl
  | some x => have := hA _ (getM_mem hg); have := K0_keys s p (List.mem_reverse.1 hp); simp only at *; omega
theorem dom_rev {l : List (Nat × AObj)} : dom l.reverse = (dom l).reverse := by simp [dom]
theorem K0r_refV {s : Sky} : refsIn (dom (K0 s).reverse) (skyV s 611 613 614 612) = true := by
  rw [dom_rev, K0, sky_dom]; simp [skyV, refsIn, refsInL]
theorem K0r_refs {s : Sky} : ((K0 s).reverse.all fun p => refsInO (dom (K0 s).reverse) p.2) = true := by
  rw [List.all_reverse, dom_rev, K0, sky_dom]
  simp only [skyM, List.all_cons, List.all_append, Bool.and_eq_true]
  refine ⟨rfl, ?_, ?_, rfl, refsO_nfam (by omega), refsO_nfam (by omega)⟩
  · simp only [refsInO]
    rw [if_neg (by omega)]
    refine refs_rows fun r hr => ?_
    simp only [List.contains_iff_mem, List.mem_reverse, List.mem_cons, List.mem_append, List.mem_map]
    exact .inr (.inr (.inr (.inr (.inl ⟨r, hr, rfl⟩))))
  · simp only [refsInO]
    rw [if_neg (by omega)]
    refine refs_rows fun r hr => ?_
    simp only [List.contains_iff_mem, List.mem_reverse, List.mem_cons, List.mem_append, List.mem_map]
    exact .inr (.inr (.inr (.inr (.inr ⟨r, hr, rfl⟩))))
theorem K0_99 {s : Sky} : ∀ p ∈ (K0 s).reverse, No99O p.2 := by
  intro p hp
  have hp := List.mem_reverse.1 hp
  simp only [K0, skyM, List.mem_cons, List.mem_append] at hp
  rcases hp with rfl | rfl | rfl | rfl | hp | hp
  · exact no99_Pt _
  · exact no99_NRow _
  · exact no99_NRow _
  · exact no99_Rw _
  · exact awP_99 s p _ hp
  · exact secP_99 s p _ hp
theorem K0_ref2 {s : Sky} {k : Int} : refsInL (dom (K0 s)) [skyV s 611 613 614 612, .int .i64 k] = true := by
  simp only [refsInL, sky_refV, refsIn, Bool.and_self]
theorem purN_flat {M K : Nat → Option AObj} {o e v sz n : Nat} {rows : List (List AV)} (hM : M o = some (.arr e v sz rows)) (hf : ∀ r ∈ rows, flatOk r = true) (hn : n = rows.length) : purN M K (.own o v 0 n) = some (.sl 99 sz rows) := by
  simp only [purN, hM, if_true, hn, List.take_length, List.drop_zero, purRs_flat K hf, Option.map_some]
theorem purNL_one {M K : Nat → Option AObj} {x y : AV} (h : purN M K x = some y) : purNL M K [x] = some [y] := by simp only [purNL, h]
theorem toSkyK (s : Sky) (hs : s.small) : Contract P 14 [.agg (s.row 1)] [] (skyV s 611 613 614 612) (K0 s).reverse :=
  (c_toSkyO s hs).post_eq (funext fun o => getM_rev (K0_pw s) o)
theorem markSkyK (k : Int) (s : Sky) (hs : s.small) (hk : 0 ≤ k ∧ k ≤ 1000000) : Contract P 27 [skyV s 611 613 614 612, .int .i64 k] (K0 s) (.int .i64 (k + cntSky s)) (gone (K0 s)) := by
  have h := ((((((g_markSky k s hs hk).ren (swp 3 611) (swp_swp _ _)).ren (swp 4 613) (swp_swp _ _)).ren (swp 5 614) (swp_swp _ _)).ren (swp 6 612) (swp_swp _ _)).ren (swpF 7 107) (swpF_swpF (by omega) (by omega))).ren (swpF 8 108) (swpF_swpF (by omega) (by omega))
  simp only [renM_gone, renL, skyV_ren, ren] at h
  rw [skyM_ren (kA' := 7) (kS' := 8) (fun i => swp_fam (by omega) (by omega)) (fun i => swp_fam (by omega) (by omega)),
    skyM_ren (kA' := 7) (kS' := 8) (fun i => swp_fam (by omega) (by omega)) (fun i => swp_fam (by omega) (by omega)),
    skyM_ren (kA' := 7) (kS' := 8) (fun i => swp_fam (by omega) (by omega)) (fun i => swp_fam (by omega) (by omega)),
    skyM_ren (kA' := 7) (kS' := 8) (fun i => swp_fam (by omega) (by omega)) (fun i => swp_fam (by omega) (by omega)),
    skyM_ren (kA' := 107) (kS' := 8) (fun i => swpF_fam (by omega)) (fun i => swpF_ne (by omega) (by omega) (by omega)),
    skyM_ren (kA' := 107) (kS' := 108) (fun i => swpF_ne (by omega) (by omega) (by omega)) (fun i => swpF_fam (by omega))] at h
  exact h
theorem eqSkyC (s : Sky) (hs : s.small) : Contract P 16 [.agg (s.row 0), .agg (s.row 0)] [] (.bool true) [] := by
  have h := c_eqSky s s (by have := hs; unfold Sky.small at this; exact ⟨by omega, by omega, by omega, by omega, this.2.1.2, this.2.2.1.2⟩)
  simpa using h
end
end Go.Ve

namespace Go.Ve
noncomputable section
open Go.Proofs
set_option linter.unusedSimpArgs false
set_option linter.unusedVariables false
set_option maxRecDepth 100000
theorem c_szStringS (t : Nat) (l : List ByteArray) (a : Int) (ha : 0 ≤ a ∧ a ≤ 1048576) (hl : l.length ≤ 9223372036854775807 ∧ ∀ y ∈ l, y.toList.length ≤ 9223372036854775807) : Contract P 39 [.sl t 1 (l.map srow), .int .i64 a] [] (.int .i64 (szS szStr l a)) [] := by
  refine fn_sound (Env.nil P) hm k_laws_szStringS (Nat.le_of_ble_eq_true rfl) rfl ?_; unfold s_laws_szStringS; simp (config := { maxSteps := 2000000 }) only [bitvec_to_nat, reduceIte, Nat.reduceEqDiff, Nat.reduceAdd, Nat.reduceLeDiff, reduceCtorEq, Nat.reduceBEq, Nat.reduceLT, Nat.reduceMod, List.forall_mem_cons, srow, un_s, List.take_zero, List.foldl_nil]
  have hz : szOf a l.length = if a - l.length < 0 then -1 else a - l.length := rfl
  refine ⟨by omega, fun h1 => ?_, fun h1 => ?_⟩
  · unfold szS
    rw [(fold_meas meas_str l _ (by omega) (by omega)).2.1 (by omega)]
  have e0 : szOf a l.length = a - l.length := if_neg h1
  refine loop_st (fun i : Nat => [(1, .int .i64 ((l.take i).foldl (fun a x => szStr x a) (a - l.length))), (5, .int .i64 i)]) (fun _ => []) (fun i => i ≤ l.length ∧ 0 ≤ (l.take i).foldl (fun a x => szStr x a) (a - l.length)) (fun i => l.length - i) (0) (by simp only [u_E0, u_E1, u_M0, u_M1, w_setE0, w_setE1, w_setM0, w_setM1, reduceIte, Nat.reduceEqDiff]; exact ⟨by repeat' (first | exact trivial | refine ⟨.inr rfl, ?_⟩), by repeat' (first | exact trivial | refine ⟨rfl, ?_⟩), by first | rfl | simp [closedB, refsIn, refsInL, refsInO, dom, refsInL_nr, *], by first | rfl | simp [keepB, dom]⟩) ?_ ?_
  · simp only [List.take_zero, List.foldl_nil]; omega
  intro i hi NX hN
  unfold l_laws_szStringS_0; simp (config := { maxSteps := 2000000 }) only [bitvec_to_nat, reduceIte, Nat.reduceEqDiff, Nat.reduceAdd, Nat.reduceLeDiff, reduceCtorEq, Nat.reduceBEq, Nat.reduceLT, Nat.reduceMod, List.forall_mem_cons, srow, un_s, List.take_zero, List.foldl_nil]
  have hm := (fold_meas meas_str (l.take i) (a - l.length) (by omega) (by omega)).2.2
  have hg : i < l.length → (l.getD i default).toList.length ≤ 9223372036854775807 := fun h => hl.2 _ (getD_mem' h)
  have hn : i < l.length → (l.take (i + 1)).foldl (fun a x => szStr x a) (a - l.length) = szStr (l.getD i default) ((l.take i).foldl (fun a x => szStr x a) (a - l.length)) := fun h => fold_take h
  have hs : i < l.length → szStr (l.getD i default) ((l.take i).foldl (fun a x => szStr x a) (a - l.length)) < 0 → szS szStr l a = -1 := fun h h2 => by unfold szS; rw [e0]; exact fold_stop meas_str h (by omega) (by omega) h2
  have hd : szStr (l.getD i default) ((l.take i).foldl (fun a x => szStr x a) (a - l.length)) = if ((l.take i).foldl (fun a x => szStr x a) (a - l.length)) - ((l.getD i default).toList.length : Nat) < 0 then -1 else ((l.take i).foldl (fun a x => szStr x a) (a - l.length)) - ((l.getD i default).toList.length : Nat) := rfl
  refine ⟨fun h2 => ⟨by omega, by omega, by omega, fun h3 => by rw [hs (by omega) (by omega)], fun h3 => ⟨by omega, ?_⟩⟩, fun h2 => ?_⟩
  · have e := hn (by omega)
    rw [hd, if_neg h3] at e
    refine hN (i + 1) _ (by simp only [e, List.length_append, List.length_cons, List.length_nil, Nat.zero_add, List.map_append, List.map_cons, List.map_nil, u_E0, u_E1, u_M0, u_M1, w_setE0, w_setE1, w_setM0, w_setM1, reduceIte, Nat.reduceEqDiff]; exact ⟨by repeat' (first | exact trivial | refine ⟨.inr rfl, ?_⟩), by repeat' (first | exact trivial | refine ⟨rfl, ?_⟩), by first | rfl | simp [closedB, refsIn, refsInL, refsInO, dom, refsInL_nr, *], by first | rfl | simp [keepB, dom]⟩) ?_ ?_
    · exact ⟨by omega, by omega⟩
    · omega
  · have e : i = l.length := by omega
    subst e
    simp only [List.take_length]; unfold szS; rw [e0]
def t_szStringS : List AV → Option (Prop × AV)
  | [.sl lt 1 lx, .int .i64 b] => some ((((lx.map unS).map srow = lx)) ∧ ((0 ≤ b ∧ b ≤ 1048576) ∧ ((lx.map unS).length ≤ 9223372036854775807 ∧ ∀ y ∈ (lx.map unS), y.toList.length ≤ 9223372036854775807)), .int .i64 (szS szStr (lx.map unS) b))
  | _ => none
theorem h_szStringS : ∀ args p v, t_szStringS args = some (p, v) → p → Contract P 39 args [] v [] ∧ noref v = true ∧ No99 v := by
  intro args p v h1 h2
  unfold t_szStringS at h1
  split at h1
  · rename_i lt lx b
    cases h1
    obtain ⟨e0, HP⟩ := h2
    have := c_szStringS lt (lx.map unS) b HP.1 HP.2
    exact ⟨by simpa only [e0] using this, rfl, trivial⟩
  · cases h1
theorem c_szBlkS (t sz : Nat) (xs : List (List AV)) (a : Int) (hp : (0 ≤ a ∧ a ≤ 1048576) ∧ xs.length ≤ 9223372036854775807) : Contract P 157 [.sl t sz xs, .int .i64 a] [] (.int .i64 (szOf a xs.length)) [] := by
  refine fn_sound (Env.nil P) hm k_laws_szSkyBlockS (Nat.le_of_ble_eq_true rfl) rfl ?_; unfold s_laws_szSkyBlockS; simp (config := { maxSteps := 2000000 }) only [bitvec_to_nat, reduceIte, Nat.reduceEqDiff, Nat.reduceAdd, Nat.reduceLeDiff, reduceCtorEq, Nat.reduceBEq, Nat.reduceLT, Nat.reduceMod, List.forall_mem_cons]
  refine ⟨by omega, fun h1 => ?_, fun h1 => ?_⟩
  · unfold szOf; rw [if_pos h1]
  · unfold szOf; rw [if_neg h1]
def t_szBlkS : List AV → Option (Prop × AV)
  | [.sl t sz xs, .int .i64 a] => some ((0 ≤ a ∧ a ≤ 1048576) ∧ xs.length ≤ 9223372036854775807, .int .i64 (szOf a xs.length))
  | _ => none
theorem h_szBlkS : ∀ args p v, t_szBlkS args = some (p, v) → p → Contract P 157 args [] v [] ∧ noref v = true ∧ No99 v := by
  intro args p v h1 h2
  unfold t_szBlkS at h1
  split at h1
  · cases h1; exact ⟨c_szBlkS _ _ _ _ h2, rfl, trivial⟩
  · cases h1
theorem c_szPt (s : Pt) (a : Int) (ha : 0 ≤ a ∧ a ≤ 1048576) (hs : s.fitp) : Contract P 118 [.agg s.row, .int .i64 a] [] (.int .i64 (s.sz a)) [] := by
  unfold Pt.fitp at hs
  simp only [Pt.row]
  refine fn_sound (Env.nil P) hm k_laws_szSkyPoint (Nat.le_of_ble_eq_true rfl) rfl ?_; unfold s_laws_szSkyPoint; simp (config := { maxSteps := 2000000 }) only [bitvec_to_nat, reduceIte, Nat.reduceEqDiff, Nat.reduceAdd, Nat.reduceLeDiff, reduceCtorEq, Nat.reduceBEq, Nat.reduceLT, Nat.reduceMod, List.forall_mem_cons, tk_map, dp_map, toNat_pred, appE, rowsOf, List.take_length, List.length_cons, List.length_nil, Nat.zero_add, srow, irow, un_s, un_i, Pt.row, Pt_eta, Aw.row, Aw_eta, Blk.row, Blk_eta, Sec.row, Sec_eta, Rw.row, Rw_eta, Sky.row, Sky_eta, un_Pt, un_Aw, un_Blk, un_Sec, un_Rw, un_Sky]
  unfold Pt.sz
  repeat' (first | with_reducible apply And.intro | with_reducible intro _)
  all_goals first | omega | (exact hs) | (exact hs.1) | (exact hs.2.1) | (exact hs.2.2) | (exact hs.2.2.1) | (exact hs.2.2.2) | (exact hs.2.2.2.1) | (exact hs.2.2.2.2) | (exact hs.1.1) | (exact hs.1.2) | (exact hs.2.1.1) | (exact hs.2.1.2) | (unfold chk; grind) | grind
def t_szPt : List AV → Option (Prop × AV)
  | [.agg [.str s_nm, .int .i64 s_x, .int .i64 s_y], .int .i64 b] => some ((True) ∧ ((0 ≤ b ∧ b ≤ 1048576) ∧ (Pt.fitp (Pt.mk s_nm s_x s_y))), .int .i64 (Pt.sz (Pt.mk s_nm s_x s_y) b))
  | _ => none
theorem h_szPt : ∀ args p v, t_szPt args = some (p, v) → p → Contract P 118 args [] v [] ∧ noref v = true ∧ No99 v := by
  intro args p v h1 h2
  unfold t_szPt at h1
  split at h1
  · rename_i s_nm s_x s_y b
    cases h1
    obtain ⟨_, HP⟩ := h2
    have := c_szPt (Pt.mk s_nm s_x s_y) b HP.1 HP.2
    exact ⟨by simpa only [Pt.row] using this, rfl, trivial⟩
  · cases h1
theorem c_szPtS (t : Nat) (l : List Pt) (a : Int) (ha : 0 ≤ a ∧ a ≤ 1048576) (hl : l.length ≤ 9223372036854775807 ∧ ∀ y ∈ l, y.fitp) : Contract P 60 [.sl t 3 (l.map Pt.row), .int .i64 a] [] (.int .i64 (szS Pt.sz l a)) [] := by
  refine fn_sound ((Env.nil P).add 118 t_szPt h_szPt) hm k_laws_szSkyPointS (Nat.le_of_ble_eq_true rfl) rfl ?_; unfold s_laws_szSkyPointS; simp (config := { maxSteps := 2000000 }) only [bitvec_to_nat, reduceIte, Nat.reduceEqDiff, Nat.reduceAdd, Nat.reduceLeDiff, reduceCtorEq, Nat.reduceBEq, Nat.reduceLT, Nat.reduceMod, List.forall_mem_cons, t_szPt, tk_map, dp_map, toNat_pred, appE, rowsOf, List.take_length, List.length_cons, List.length_nil, Nat.zero_add, srow, irow, un_s, un_i, Pt.row, Pt_eta, Aw.row, Aw_eta, Blk.row, Blk_eta, Sec.row, Sec_eta, Rw.row, Rw_eta, Sky.row, Sky_eta, un_Pt, un_Aw, un_Blk, un_Sec, un_Rw, un_Sky, List.take_zero, List.foldl_nil]
  have hz : szOf a l.length = if a - l.length < 0 then -1 else a - l.length := rfl
  refine ⟨by omega, fun h1 => ?_, fun h1 => ?_⟩
  · unfold szS
    rw [(fold_meas meas_Pt l _ (by omega) (by omega)).2.1 (by omega)]
  have e0 : szOf a l.length = a - l.length := if_neg h1
  refine loop_st (fun i : Nat => [(1, .int .i64 ((l.take i).foldl (fun a x => x.sz a) (a - l.length))), (5, .int .i64 i)]) (fun _ => []) (fun i => i ≤ l.length ∧ 0 ≤ (l.take i).foldl (fun a x => x.sz a) (a - l.length)) (fun i => l.length - i) (0) (by simp only [u_E0, u_E1, u_M0, u_M1, w_setE0, w_setE1, w_setM0, w_setM1, reduceIte, Nat.reduceEqDiff]; exact ⟨by repeat' (first | exact trivial | refine ⟨.inr rfl, ?_⟩), by repeat' (first | exact trivial | refine ⟨rfl, ?_⟩), by first | rfl | simp [closedB, refsIn, refsInL, refsInO, dom, refsInL_nr, *], by first | rfl | simp [keepB, dom]⟩) ?_ ?_
  · simp only [List.take_zero, List.foldl_nil]; omega
  intro i hi NX hN
  have hm := (fold_meas meas_Pt (l.take i) (a - l.length) (by omega) (by omega)).2.2
  have hg : i < l.length → (l.getD i default).fitp := fun h => hl.2 _ (getD_mem' h)
  have hn : i < l.length → (l.take (i + 1)).foldl (fun a x => x.sz a) (a - l.length) = (l.getD i default).sz ((l.take i).foldl (fun a x => x.sz a) (a - l.length)) := fun h => fold_take (f := Pt.sz) h
  have hs : i < l.length → (l.getD i default).sz ((l.take i).foldl (fun a x => x.sz a) (a - l.length)) < 0 → szS Pt.sz l a = -1 := fun h h2 => by unfold szS; rw [e0]; exact fold_stop meas_Pt h (by omega) (by omega) h2
  unfold l_laws_szSkyPointS_0; simp (config := { maxSteps := 2000000 }) only [bitvec_to_nat, reduceIte, Nat.reduceEqDiff, Nat.reduceAdd, Nat.reduceLeDiff, reduceCtorEq, Nat.reduceBEq, Nat.reduceLT, Nat.reduceMod, List.forall_mem_cons, t_szPt, tk_map, dp_map, toNat_pred, appE, rowsOf, List.take_length, List.length_cons, List.length_nil, Nat.zero_add, srow, irow, un_s, un_i, Pt.row, Pt_eta, Aw.row, Aw_eta, Blk.row, Blk_eta, Sec.row, Sec_eta, Rw.row, Rw_eta, Sky.row, Sky_eta, un_Pt, un_Aw, un_Blk, un_Sec, un_Rw, un_Sky, List.take_zero, List.foldl_nil]
  refine ⟨fun h2 => ⟨by omega, by omega, ⟨⟨by omega, by omega⟩, hg (by omega)⟩, fun h3 => by rw [hs (by omega) h3], fun h3 => ⟨by omega, ?_⟩⟩, fun h2 => ?_⟩
  · have e := hn (by omega)
    refine hN (i + 1) _ (by simp only [e, List.length_append, List.length_cons, List.length_nil, Nat.zero_add, List.map_append, List.map_cons, List.map_nil, u_E0, u_E1, u_M0, u_M1, w_setE0, w_setE1, w_setM0, w_setM1, reduceIte, Nat.reduceEqDiff]; exact ⟨by repeat' (first | exact trivial | refine ⟨.inr rfl, ?_⟩), by repeat' (first | exact trivial | refine ⟨rfl, ?_⟩), by first | rfl | simp [closedB, refsIn, refsInL, refsInO, dom, refsInL_nr, *], by first | rfl | simp [keepB, dom]⟩) ?_ ?_
    · exact ⟨by omega, by rw [e]; omega⟩
    · omega
  · have e : i = l.length := by omega
    subst e
    simp only [List.take_length]; unfold szS; rw [e0]
def t_szPtS : List AV → Option (Prop × AV)
  | [.sl lt 3 lx, .int .i64 b] => some ((((lx.map unPt).map Pt.row = lx)) ∧ ((0 ≤ b ∧ b ≤ 1048576) ∧ ((lx.map unPt).length ≤ 9223372036854775807 ∧ ∀ y ∈ (lx.map unPt), Pt.fitp y)), .int .i64 (szS Pt.sz (lx.map unPt) b))
  | _ => none
theorem h_szPtS : ∀ args p v, t_szPtS args = some (p, v) → p → Contract P 60 args [] v [] ∧ noref v = true ∧ No99 v := by
  intro args p v h1 h2
  unfold t_szPtS at h1
  split at h1
  · rename_i lt lx b
    cases h1
    obtain ⟨e0, HP⟩ := h2
    have := c_szPtS lt (lx.map unPt) b HP.1 HP.2
    exact ⟨by simpa only [e0] using this, rfl, trivial⟩
  · cases h1
theorem c_szRw (s : Rw) (a : Int) (ha : 0 ≤ a ∧ a ≤ 1048576) (hs : s.fitp) : Contract P 121 [.agg s.row, .int .i64 a] [] (.int .i64 (s.sz a)) [] := by
  unfold Rw.fitp at hs
  simp only [Rw.row]
  refine fn_sound (Env.nil P) hm k_laws_szSkyRunway (Nat.le_of_ble_eq_true rfl) rfl ?_; unfold s_laws_szSkyRunway; simp (config := { maxSteps := 2000000 }) only [bitvec_to_nat, reduceIte, Nat.reduceEqDiff, Nat.reduceAdd, Nat.reduceLeDiff, reduceCtorEq, Nat.reduceBEq, Nat.reduceLT, Nat.reduceMod, List.forall_mem_cons, tk_map, dp_map, toNat_pred, appE, rowsOf, List.take_length, List.length_cons, List.length_nil, Nat.zero_add, srow, irow, un_s, un_i, Pt.row, Pt_eta, Aw.row, Aw_eta, Blk.row, Blk_eta, Sec.row, Sec_eta, Rw.row, Rw_eta, Sky.row, Sky_eta, un_Pt, un_Aw, un_Blk, un_Sec, un_Rw, un_Sky]
  unfold Rw.sz
  repeat' (first | with_reducible apply And.intro | with_reducible intro _)
  all_goals first | omega | (exact hs) | (exact hs.1) | (exact hs.2.1) | (exact hs.2.2) | (exact hs.2.2.1) | (exact hs.2.2.2) | (exact hs.2.2.2.1) | (exact hs.2.2.2.2) | (exact hs.1.1) | (exact hs.1.2) | (exact hs.2.1.1) | (exact hs.2.1.2) | (unfold chk; grind) | grind
def t_szRw : List AV → Option (Prop × AV)
  | [.agg [.str s_nm, .int .i64 s_x, .int .i64 s_y, .int .i64 s_tn], .int .i64 b] => some ((True) ∧ ((0 ≤ b ∧ b ≤ 1048576) ∧ (Rw.fitp (Rw.mk s_nm s_x s_y s_tn))), .int .i64 (Rw.sz (Rw.mk s_nm s_x s_y s_tn) b))
  | _ => none
theorem h_szRw : ∀ args p v, t_szRw args = some (p, v) → p → Contract P 121 args [] v [] ∧ noref v = true ∧ No99 v := by
  intro args p v h1 h2
  unfold t_szRw at h1
  split at h1
  · rename_i s_nm s_x s_y s_tn b
    cases h1
    obtain ⟨_, HP⟩ := h2
    have := c_szRw (Rw.mk s_nm s_x s_y s_tn) b HP.1 HP.2
    exact ⟨by simpa only [Rw.row] using this, rfl, trivial⟩
  · cases h1
theorem c_szRwS (t : Nat) (l : List Rw) (a : Int) (ha : 0 ≤ a ∧ a ≤ 1048576) (hl : l.length ≤ 9223372036854775807 ∧ ∀ y ∈ l, y.fitp) : Contract P 63 [.sl t 4 (l.map Rw.row), .int .i64 a] [] (.int .i64 (szS Rw.sz l a)) [] := by
  refine fn_sound ((Env.nil P).add 121 t_szRw h_szRw) hm k_laws_szSkyRunwayS (Nat.le_of_ble_eq_true rfl) rfl ?_; unfold s_laws_szSkyRunwayS; simp (config := { maxSteps := 2000000 }) only [bitvec_to_nat, reduceIte, Nat.reduceEqDiff, Nat.reduceAdd, Nat.reduceLeDiff, reduceCtorEq, Nat.reduceBEq, Nat.reduceLT, Nat.reduceMod, List.forall_mem_cons, t_szRw, tk_map, dp_map, toNat_pred, appE, rowsOf, List.take_length, List.length_cons, List.length_nil, Nat.zero_add, srow, irow, un_s, un_i, Pt.row, Pt_eta, Aw.row, Aw_eta, Blk.row, Blk_eta, Sec.row, Sec_eta, Rw.row, Rw_eta, Sky.row, Sky_eta, un_Pt, un_Aw, un_Blk, un_Sec, un_Rw, un_Sky, List.take_zero, List.foldl_nil]
  have hz : szOf a l.length = if a - l.length < 0 then -1 else a - l.length := rfl
  refine ⟨by omega, fun h1 => ?_, fun h1 => ?_⟩
  · unfold szS
    rw [(fold_meas meas_Rw l _ (by omega) (by omega)).2.1 (by omega)]
  have e0 : szOf a l.length = a - l.length := if_neg h1
  refine loop_st (fun i : Nat => [(1, .int .i64 ((l.take i).foldl (fun a x => x.sz a) (a - l.length))), (5, .int .i64 i)]) (fun _ => []) (fun i => i ≤ l.length ∧ 0 ≤ (l.take i).foldl (fun a x => x.sz a) (a - l.length)) (fun i => l.length - i) (0) (by simp only [u_E0, u_E1, u_M0, u_M1, w_setE0, w_setE1, w_setM0, w_setM1, reduceIte, Nat.reduceEqDiff]; exact ⟨by repeat' (first | exact trivial | refine ⟨.inr rfl, ?_⟩), by repeat' (first | exact trivial | refine ⟨rfl, ?_⟩), by first | rfl | simp [closedB, refsIn, refsInL, refsInO, dom, refsInL_nr, *], by first | rfl | simp [keepB, dom]⟩) ?_ ?_
  · simp only [List.take_zero, List.foldl_nil]; omega
  intro i hi NX hN
  have hm := (fold_meas meas_Rw (l.take i) (a - l.length) (by omega) (by omega)).2.2
  have hg : i < l.length → (l.getD i default).fitp := fun h => hl.2 _ (getD_mem' h)
  have hn : i < l.length → (l.take (i + 1)).foldl (fun a x => x.sz a) (a - l.length) = (l.getD i default).sz ((l.take i).foldl (fun a x => x.sz a) (a - l.length)) := fun h => fold_take (f := Rw.sz) h
  have hs : i < l.length → (l.getD i default).sz ((l.take i).foldl (fun a x => x.sz a) (a - l.length)) < 0 → szS Rw.sz l a = -1 := fun h h2 => by unfold szS; rw [e0]; exact fold_stop meas_Rw h (by omega) (by omega) h2
  unfold l_laws_szSkyRunwayS_0; simp (config := { maxSteps := 2000000 }) only [bitvec_to_nat, reduceIte, Nat.reduceEqDiff, Nat.reduceAdd, Nat.reduceLeDiff, reduceCtorEq, Nat.reduceBEq, Nat.reduceLT, Nat.reduceMod, List.forall_mem_cons, t_szRw, tk_map, dp_map, toNat_pred, appE, rowsOf, List.take_length, List.length_cons, List.length_nil, Nat.zero_add, srow, irow, un_s, un_i, Pt.row, Pt_eta, Aw.row, Aw_eta, Blk.row, Blk_eta, Sec.row, Sec_eta, Rw.row, Rw_eta, Sky.row, Sky_eta, un_Pt, un_Aw, un_Blk, un_Sec, un_Rw, un_Sky, List.take_zero, List.foldl_nil]
  refine ⟨fun h2 => ⟨by omega, by omega, ⟨⟨by omega, by omega⟩, hg (by omega)⟩, fun h3 => by rw [hs (by omega) h3], fun h3 => ⟨by omega, ?_⟩⟩, fun h2 => ?_⟩
  · have e := hn (by omega)
    refine hN (i + 1) _ (by simp only [e, List.length_append, List.length_cons, List.length_nil, Nat.zero_add, List.map_append, List.map_cons, List.map_nil, u_E0, u_E1, u_M0, u_M1, w_setE0, w_setE1, w_setM0, w_setM1, reduceIte, Nat.reduceEqDiff]; exact ⟨by repeat' (first | exact trivial | refine ⟨.inr rfl, ?_⟩), by repeat' (first | exact trivial | refine ⟨rfl, ?_⟩), by first | rfl | simp [closedB, refsIn, refsInL, refsInO, dom, refsInL_nr, *], by first | rfl | simp [keepB, dom]⟩) ?_ ?_
    · exact ⟨by omega, by rw [e]; omega⟩
    · omega
  · have e : i = l.length := by omega
    subst e
    simp only [List.take_length]; unfold szS; rw [e0]
def t_szRwS : List AV → Option (Prop × AV)
  | [.sl lt 4 lx, .int .i64 b] => some ((((lx.map unRw).map Rw.row = lx)) ∧ ((0 ≤ b ∧ b ≤ 1048576) ∧ ((lx.map unRw).length ≤ 9223372036854775807 ∧ ∀ y ∈ (lx.map unRw), Rw.fitp y)), .int .i64 (szS Rw.sz (lx.map unRw) b))
  | _ => none
theorem h_szRwS : ∀ args p v, t_szRwS args = some (p, v) → p → Contract P 63 args [] v [] ∧ noref v = true ∧ No99 v := by
  intro args p v h1 h2
  unfold t_szRwS at h1
  split at h1
  · rename_i lt lx b
    cases h1
    obtain ⟨e0, HP⟩ := h2
    have := c_szRwS lt (lx.map unRw) b HP.1 HP.2
    exact ⟨by simpa only [e0] using this, rfl, trivial⟩
  · cases h1
theorem c_szAw (s : Aw) (a : Int) (ha : 0 ≤ a ∧ a ≤ 1048576) (hs : s.fitp) : Contract P 119 [.agg (s.row 1), .int .i64 a] [] (.int .i64 (s.sz a)) [] := by
  unfold Aw.fitp at hs
  simp only [Aw.row]
  refine fn_sound ((Env.nil P).add 39 t_szStringS h_szStringS) hm k_laws_szSkyAirway (Nat.le_of_ble_eq_true rfl) rfl ?_; unfold s_laws_szSkyAirway; simp (config := { maxSteps := 2000000 }) only [bitvec_to_nat, reduceIte, Nat.reduceEqDiff, Nat.reduceAdd, Nat.reduceLeDiff, reduceCtorEq, Nat.reduceBEq, Nat.reduceLT, Nat.reduceMod, List.forall_mem_cons, t_szStringS, tk_map, dp_map, toNat_pred, appE, rowsOf, List.take_length, List.length_cons, List.length_nil, Nat.zero_add, srow, irow, un_s, un_i, Pt.row, Pt_eta, Aw.row, Aw_eta, Blk.row, Blk_eta, Sec.row, Sec_eta, Rw.row, Rw_eta, Sky.row, Sky_eta, un_Pt, un_Aw, un_Blk, un_Sec, un_Rw, un_Sky]
  unfold Aw.sz
  have qpts : (szS szStr s.pts (a - (s.nm.toList.length : Nat))) ≤ max (a - (s.nm.toList.length : Nat)) (-1) := (meas_szS meas_str s.pts (a - (s.nm.toList.length : Nat)) (by omega)).2.2
  repeat' (first | with_reducible apply And.intro | with_reducible intro _)
  all_goals first | omega | (exact hs) | (exact hs.1) | (exact hs.2.1) | (exact hs.2.2) | (exact hs.2.2.1) | (exact hs.2.2.2) | (exact hs.2.2.2.1) | (exact hs.2.2.2.2) | (exact hs.1.1) | (exact hs.1.2) | (exact hs.2.1.1) | (exact hs.2.1.2) | (unfold chk; grind) | grind
def t_szAw : List AV → Option (Prop × AV)
  | [.agg [.str s_nm, .sl 1 1 s_pts], .int .i64 b] => some ((((s_pts.map unS).map srow = s_pts)) ∧ ((0 ≤ b ∧ b ≤ 1048576) ∧ (Aw.fitp (Aw.mk s_nm (s_pts.map unS)))), .int .i64 (Aw.sz (Aw.mk s_nm (s_pts.map unS)) b))
  | _ => none
theorem h_szAw : ∀ args p v, t_szAw args = some (p, v) → p → Contract P 119 args [] v [] ∧ noref v = true ∧ No99 v := by
  intro args p v h1 h2
  unfold t_szAw at h1
  split at h1
  · rename_i s_nm s_pts b
    cases h1
    obtain ⟨e0, HP⟩ := h2
    have := c_szAw (Aw.mk s_nm (s_pts.map unS)) b HP.1 HP.2
    exact ⟨by simpa only [e0, Aw.row] using this, rfl, trivial⟩
  · cases h1
theorem c_szAwS (t : Nat) (l : List Aw) (a : Int) (ha : 0 ≤ a ∧ a ≤ 1048576) (hl : l.length ≤ 9223372036854775807 ∧ ∀ y ∈ l, y.fitp) : Contract P 61 [.sl t 2 (l.map (Aw.row 1)), .int .i64 a] [] (.int .i64 (szS Aw.sz l a)) [] := by
  refine fn_sound ((Env.nil P).add 119 t_szAw h_szAw) hm k_laws_szSkyAirwayS (Nat.le_of_ble_eq_true rfl) rfl ?_; unfold s_laws_szSkyAirwayS; simp (config := { maxSteps := 2000000 }) only [bitvec_to_nat, reduceIte, Nat.reduceEqDiff, Nat.reduceAdd, Nat.reduceLeDiff, reduceCtorEq, Nat.reduceBEq, Nat.reduceLT, Nat.reduceMod, List.forall_mem_cons, t_szAw, tk_map, dp_map, toNat_pred, appE, rowsOf, List.take_length, List.length_cons, List.length_nil, Nat.zero_add, srow, irow, un_s, un_i, Pt.row, Pt_eta, Aw.row, Aw_eta, Blk.row, Blk_eta, Sec.row, Sec_eta, Rw.row, Rw_eta, Sky.row, Sky_eta, un_Pt, un_Aw, un_Blk, un_Sec, un_Rw, un_Sky, List.take_zero, List.foldl_nil]
  have hz : szOf a l.length = if a - l.length < 0 then -1 else a - l.length := rfl
  refine ⟨by omega, fun h1 => ?_, fun h1 => ?_⟩
  · unfold szS
    rw [(fold_meas meas_Aw l _ (by omega) (by omega)).2.1 (by omega)]
  have e0 : szOf a l.length = a - l.length := if_neg h1
  refine loop_st (fun i : Nat => [(1, .int .i64 ((l.take i).foldl (fun a x => x.sz a) (a - l.length))), (5, .int .i64 i)]) (fun _ => []) (fun i => i ≤ l.length ∧ 0 ≤ (l.take i).foldl (fun a x => x.sz a) (a - l.length)) (fun i => l.length - i) (0) (by simp only [u_E0, u_E1, u_M0, u_M1, w_setE0, w_setE1, w_setM0, w_setM1, reduceIte, Nat.reduceEqDiff]; exact ⟨by repeat' (first | exact trivial | refine ⟨.inr rfl, ?_⟩), by repeat' (first | exact trivial | refine ⟨rfl, ?_⟩), by first | rfl | simp [closedB, refsIn, refsInL, refsInO, dom, refsInL_nr, *], by first | rfl | simp [keepB, dom]⟩) ?_ ?_
  · simp only [List.take_zero, List.foldl_nil]; omega
  intro i hi NX hN
  have hm := (fold_meas meas_Aw (l.take i) (a - l.length) (by omega) (by omega)).2.2
  have hg : i < l.length → (l.getD i default).fitp := fun h => hl.2 _ (getD_mem' h)
  have hn : i < l.length → (l.take (i + 1)).foldl (fun a x => x.sz a) (a - l.length) = (l.getD i default).sz ((l.take i).foldl (fun a x => x.sz a) (a - l.length)) := fun h => fold_take (f := Aw.sz) h
  have hs : i < l.length → (l.getD i default).sz ((l.take i).foldl (fun a x => x.sz a) (a - l.length)) < 0 → szS Aw.sz l a = -1 := fun h h2 => by unfold szS; rw [e0]; exact fold_stop meas_Aw h (by omega) (by omega) h2
  unfold l_laws_szSkyAirwayS_0; simp (config := { maxSteps := 2000000 }) only [bitvec_to_nat, reduceIte, Nat.reduceEqDiff, Nat.reduceAdd, Nat.reduceLeDiff, reduceCtorEq, Nat.reduceBEq, Nat.reduceLT, Nat.reduceMod, List.forall_mem_cons, t_szAw, tk_map, dp_map, toNat_pred, appE, rowsOf, List.take_length, List.length_cons, List.length_nil, Nat.zero_add, srow, irow, un_s, un_i, Pt.row, Pt_eta, Aw.row, Aw_eta, Blk.row, Blk_eta, Sec.row, Sec_eta, Rw.row, Rw_eta, Sky.row, Sky_eta, un_Pt, un_Aw, un_Blk, un_Sec, un_Rw, un_Sky, List.take_zero, List.foldl_nil]
  refine ⟨fun h2 => ⟨by omega, by omega, ⟨⟨by omega, by omega⟩, hg (by omega)⟩, fun h3 => by rw [hs (by omega) h3], fun h3 => ⟨by omega, ?_⟩⟩, fun h2 => ?_⟩
  · have e := hn (by omega)
    refine hN (i + 1) _ (by simp only [e, List.length_append, List.length_cons, List.length_nil, Nat.zero_add, List.map_append, List.map_cons, List.map_nil, u_E0, u_E1, u_M0, u_M1, w_setE0, w_setE1, w_setM0, w_setM1, reduceIte, Nat.reduceEqDiff]; exact ⟨by repeat' (first | exact trivial | refine ⟨.inr rfl, ?_⟩), by repeat' (first | exact trivial | refine ⟨rfl, ?_⟩), by first | rfl | simp [closedB, refsIn, refsInL, refsInO, dom, refsInL_nr, *], by first | rfl | simp [keepB, dom]⟩) ?_ ?_
    · exact ⟨by omega, by rw [e]; omega⟩
    · omega
  · have e : i = l.length := by omega
    subst e
    simp only [List.take_length]; unfold szS; rw [e0]
def t_szAwS : List AV → Option (Prop × AV)
  | [.sl lt 2 lx, .int .i64 b] => some ((((lx.map unAw).map (Aw.row 1) = lx)) ∧ ((0 ≤ b ∧ b ≤ 1048576) ∧ ((lx.map unAw).length ≤ 9223372036854775807 ∧ ∀ y ∈ (lx.map unAw), Aw.fitp y)), .int .i64 (szS Aw.sz (lx.map unAw) b))
  | _ => none
theorem h_szAwS : ∀ args p v, t_szAwS args = some (p, v) → p → Contract P 61 args [] v [] ∧ noref v = true ∧ No99 v := by
  intro args p v h1 h2
  unfold t_szAwS at h1
  split at h1
  · rename_i lt lx b
    cases h1
    obtain ⟨e0, HP⟩ := h2
    have := c_szAwS lt (lx.map unAw) b HP.1 HP.2
    exact ⟨by simpa only [e0] using this, rfl, trivial⟩
  · cases h1
theorem c_szSec (s : Sec) (a : Int) (ha : 0 ≤ a ∧ a ≤ 1048576) (hs : s.fitp) : Contract P 120 [.agg (s.row 1), .int .i64 a] [] (.int .i64 (s.sz a)) [] := by
  unfold Sec.fitp at hs
  simp only [Sec.row]
  refine fn_sound ((Env.nil P).add 157 t_szBlkS h_szBlkS) hm k_laws_szSkySector (Nat.le_of_ble_eq_true rfl) rfl ?_; unfold s_laws_szSkySector; simp (config := { maxSteps := 2000000 }) only [bitvec_to_nat, reduceIte, Nat.reduceEqDiff, Nat.reduceAdd, Nat.reduceLeDiff, reduceCtorEq, Nat.reduceBEq, Nat.reduceLT, Nat.reduceMod, List.forall_mem_cons, t_szBlkS, tk_map, dp_map, toNat_pred, appE, rowsOf, List.take_length, List.length_cons, List.length_nil, Nat.zero_add, srow, irow, un_s, un_i, Pt.row, Pt_eta, Aw.row, Aw_eta, Blk.row, Blk_eta, Sec.row, Sec_eta, Rw.row, Rw_eta, Sky.row, Sky_eta, un_Pt, un_Aw, un_Blk, un_Sec, un_Rw, un_Sky]
  unfold Sec.sz
  have qbl : (szOf (a - (s.nm.toList.length : Nat)) s.bl.length) ≤ max (a - (s.nm.toList.length : Nat)) (-1) := by unfold szOf; split <;> omega
  repeat' (first | with_reducible apply And.intro | with_reducible intro _)
  all_goals first | omega | (exact hs) | (exact hs.1) | (exact hs.2.1) | (exact hs.2.2) | (exact hs.2.2.1) | (exact hs.2.2.2) | (exact hs.2.2.2.1) | (exact hs.2.2.2.2) | (exact hs.1.1) | (exact hs.1.2) | (exact hs.2.1.1) | (exact hs.2.1.2) | (unfold chk; grind) | grind
def t_szSec : List AV → Option (Prop × AV)
  | [.agg [.str s_nm, .sl 1 6 s_bl], .int .i64 b] => some ((((s_bl.map unBlk).map Blk.row = s_bl)) ∧ ((0 ≤ b ∧ b ≤ 1048576) ∧ (Sec.fitp (Sec.mk s_nm (s_bl.map unBlk)))), .int .i64 (Sec.sz (Sec.mk s_nm (s_bl.map unBlk)) b))
  | _ => none
theorem h_szSec : ∀ args p v, t_szSec args = some (p, v) → p → Contract P 120 args [] v [] ∧ noref v = true ∧ No99 v := by
  intro args p v h1 h2
  unfold t_szSec at h1
  split at h1
  · rename_i s_nm s_bl b
    cases h1
    obtain ⟨e0, HP⟩ := h2
    have := c_szSec (Sec.mk s_nm (s_bl.map unBlk)) b HP.1 HP.2
    exact ⟨by simpa only [e0, Sec.row] using this, rfl, trivial⟩
  · cases h1
theorem c_szSecS (t : Nat) (l : List Sec) (a : Int) (ha : 0 ≤ a ∧ a ≤ 1048576) (hl : l.length ≤ 9223372036854775807 ∧ ∀ y ∈ l, y.fitp) : Contract P 62 [.sl t 2 (l.map (Sec.row 1)), .int .i64 a] [] (.int .i64 (szS Sec.sz l a)) [] := by
  refine fn_sound ((Env.nil P).add 120 t_szSec h_szSec) hm k_laws_szSkySectorS (Nat.le_of_ble_eq_true rfl) rfl ?_; unfold s_laws_szSkySectorS; simp (config := { maxSteps := 2000000 }) only [bitvec_to_nat, reduceIte, Nat.reduceEqDiff, Nat.reduceAdd, Nat.reduceLeDiff, reduceCtorEq, Nat.reduceBEq, Nat.reduceLT, Nat.reduceMod, List.forall_mem_cons, t_szSec, tk_map, dp_map, toNat_pred, appE, rowsOf, List.take_length, List.length_cons, List.length_nil, Nat.zero_add, srow, irow, un_s, un_i, Pt.row, Pt_eta, Aw.row, Aw_eta, Blk.row, Blk_eta, Sec.row, Sec_eta, Rw.row, Rw_eta, Sky.row, Sky_eta, un_Pt, un_Aw, un_Blk, un_Sec, un_Rw, un_Sky, List.take_zero, List.foldl_nil]
  have hz : szOf a l.length = if a - l.length < 0 then -1 else a - l.length := rfl
  refine ⟨by omega, fun h1 => ?_, fun h1 => ?_⟩
  · unfold szS
    rw [(fold_meas meas_Sec l _ (by omega) (by omega)).2.1 (by omega)]
  have e0 : szOf a l.length = a - l.length := if_neg h1
  refine loop_st (fun i : Nat => [(1, .int .i64 ((l.take i).foldl (fun a x => x.sz a) (a - l.length))), (5, .int .i64 i)]) (fun _ => []) (fun i => i ≤ l.length ∧ 0 ≤ (l.take i).foldl (fun a x => x.sz a) (a - l.length)) (fun i => l.length - i) (0) (by simp only [u_E0, u_E1, u_M0, u_M1, w_setE0, w_setE1, w_setM0, w_setM1, reduceIte, Nat.reduceEqDiff]; exact ⟨by repeat' (first | exact trivial | refine ⟨.inr rfl, ?_⟩), by repeat' (first | exact trivial | refine ⟨rfl, ?_⟩), by first | rfl | simp [closedB, refsIn, refsInL, refsInO, dom, refsInL_nr, *], by first | rfl | simp [keepB, dom]⟩) ?_ ?_
  · simp only [List.take_zero, List.foldl_nil]; omega
  intro i hi NX hN
  have hm := (fold_meas meas_Sec (l.take i) (a - l.length) (by omega) (by omega)).2.2
  have hg : i < l.length → (l.getD i default).fitp := fun h => hl.2 _ (getD_mem' h)
  have hn : i < l.length → (l.take (i + 1)).foldl (fun a x => x.sz a) (a - l.length) = (l.getD i default).sz ((l.take i).foldl (fun a x => x.sz a) (a - l.length)) := fun h => fold_take (f := Sec.sz) h
  have hs : i < l.length → (l.getD i default).sz ((l.take i).foldl (fun a x => x.sz a) (a - l.length)) < 0 → szS Sec.sz l a = -1 := fun h h2 => by unfold szS; rw [e0]; exact fold_stop meas_Sec h (by omega) (by omega) h2
  unfold l_laws_szSkySectorS_0; simp (config := { maxSteps := 2000000 }) only [bitvec_to_nat, reduceIte, Nat.reduceEqDiff, Nat.reduceAdd, Nat.reduceLeDiff, reduceCtorEq, Nat.reduceBEq, Nat.reduceLT, Nat.reduceMod, List.forall_mem_cons, t_szSec, tk_map, dp_map, toNat_pred, appE, rowsOf, List.take_length, List.length_cons, List.length_nil, Nat.zero_add, srow, irow, un_s, un_i, Pt.row, Pt_eta, Aw.row, Aw_eta, Blk.row, Blk_eta, Sec.row, Sec_eta, Rw.row, Rw_eta, Sky.row, Sky_eta, un_Pt, un_Aw, un_Blk, un_Sec, un_Rw, un_Sky, List.take_zero, List.foldl_nil]
  refine ⟨fun h2 => ⟨by omega, by omega, ⟨⟨by omega, by omega⟩, hg (by omega)⟩, fun h3 => by rw [hs (by omega) h3], fun h3 => ⟨by omega, ?_⟩⟩, fun h2 => ?_⟩
  · have e := hn (by omega)
    refine hN (i + 1) _ (by simp only [e, List.length_append, List.length_cons, List.length_nil, Nat.zero_add, List.map_append, List.map_cons, List.map_nil, u_E0, u_E1, u_M0, u_M1, w_setE0, w_setE1, w_setM0, w_setM1, reduceIte, Nat.reduceEqDiff]; exact ⟨by repeat' (first | exact trivial | refine ⟨.inr rfl, ?_⟩), by repeat' (first | exact trivial | refine ⟨rfl, ?_⟩), by first | rfl | simp [closedB, refsIn, refsInL, refsInO, dom, refsInL_nr, *], by first | rfl | simp [keepB, dom]⟩) ?_ ?_
    · exact ⟨by omega, by rw [e]; omega⟩
    · omega
  · have e : i = l.length := by omega
    subst e
    simp only [List.take_length]; unfold szS; rw [e0]
def t_szSecS : List AV → Option (Prop × AV)
  | [.sl lt 2 lx, .int .i64 b] => some ((((lx.map unSec).map (Sec.row 1) = lx)) ∧ ((0 ≤ b ∧ b ≤ 1048576) ∧ ((lx.map unSec).length ≤ 9223372036854775807 ∧ ∀ y ∈ (lx.map unSec), Sec.fitp y)), .int .i64 (szS Sec.sz (lx.map unSec) b))
  | _ => none
theorem h_szSecS : ∀ args p v, t_szSecS args = some (p, v) → p → Contract P 62 args [] v [] ∧ noref v = true ∧ No99 v := by
  intro args p v h1 h2
  unfold t_szSecS at h1
  split at h1
  · rename_i lt lx b
    cases h1
    obtain ⟨e0, HP⟩ := h2
    have := c_szSecS lt (lx.map unSec) b HP.1 HP.2
    exact ⟨by simpa only [e0] using this, rfl, trivial⟩
  · cases h1
theorem c_szSky (s : Sky) (a : Int) (ha : 0 ≤ a ∧ a ≤ 1048576) (hs : s.fitp) : Contract P 12 [.agg (s.row 1), .int .i64 a] [] (.int .i64 (s.sz a)) [] := by
  unfold Sky.fitp at hs
  simp only [Sky.row]
  refine fn_sound (((((Env.nil P).add 61 t_szAwS h_szAwS).add 60 t_szPtS h_szPtS).add 63 t_szRwS h_szRwS).add 62 t_szSecS h_szSecS) hm k_laws_szSky (Nat.le_of_ble_eq_true rfl) rfl ?_; unfold s_laws_szSky; simp (config := { maxSteps := 2000000 }) only [bitvec_to_nat, reduceIte, Nat.reduceEqDiff, Nat.reduceAdd, Nat.reduceLeDiff, reduceCtorEq, Nat.reduceBEq, Nat.reduceLT, Nat.reduceMod, List.forall_mem_cons, t_szAwS, t_szPtS, t_szRwS, t_szSecS, tk_map, dp_map, toNat_pred, appE, rowsOf, List.take_length, List.length_cons, List.length_nil, Nat.zero_add, srow, irow, un_s, un_i, Pt.row, Pt_eta, Aw.row, Aw_eta, Blk.row, Blk_eta, Sec.row, Sec_eta, Rw.row, Rw_eta, Sky.row, Sky_eta, un_Pt, un_Aw, un_Blk, un_Sec, un_Rw, un_Sky]
  unfold Sky.sz
  have qpts : (szS Pt.sz s.pts a) ≤ max a (-1) := (meas_szS meas_Pt s.pts a (by omega)).2.2
  have qaws : (szS Aw.sz s.aws (szS Pt.sz s.pts a)) ≤ max (szS Pt.sz s.pts a) (-1) := (meas_szS meas_Aw s.aws (szS Pt.sz s.pts a) (by omega)).2.2
  have qsecs : (szS Sec.sz s.secs (szS Aw.sz s.aws (szS Pt.sz s.pts a))) ≤ max (szS Aw.sz s.aws (szS Pt.sz s.pts a)) (-1) := (meas_szS meas_Sec s.secs (szS Aw.sz s.aws (szS Pt.sz s.pts a)) (by omega)).2.2
  have qrws : (szS Rw.sz s.rws (szS Sec.sz s.secs (szS Aw.sz s.aws (szS Pt.sz s.pts a)))) ≤ max (szS Sec.sz s.secs (szS Aw.sz s.aws (szS Pt.sz s.pts a))) (-1) := (meas_szS meas_Rw s.rws (szS Sec.sz s.secs (szS Aw.sz s.aws (szS Pt.sz s.pts a))) (by omega)).2.2
  repeat' (first | with_reducible apply And.intro | with_reducible intro _)
  all_goals first | omega | (exact hs) | (exact hs.1) | (exact hs.2.1) | (exact hs.2.2) | (exact hs.2.2.1) | (exact hs.2.2.2) | (exact hs.2.2.2.1) | (exact hs.2.2.2.2) | (exact hs.1.1) | (exact hs.1.2) | (exact hs.2.1.1) | (exact hs.2.1.2) | (unfold chk; grind) | grind
def t_szSky : List AV → Option (Prop × AV)
  | [.agg [.int .i64 s_w, .int .i64 s_h, .int .i64 s_lv, .sl 1 3 s_pts, .sl 1 2 s_aws, .sl 1 2 s_secs, .sl 1 4 s_rws], .int .i64 b] => some ((((s_pts.map unPt).map Pt.row = s_pts) ∧ ((s_aws.map unAw).map (Aw.row 1) = s_aws) ∧ ((s_secs.map unSec).map (Sec.row 1) = s_secs) ∧ ((s_rws.map unRw).map Rw.row = s_rws)) ∧ ((0 ≤ b ∧ b ≤ 1048576) ∧ (Sky.fitp (Sky.mk s_w s_h s_lv (s_pts.map unPt) (s_aws.map unAw) (s_secs.map unSec) (s_rws.map unRw)))), .int .i64 (Sky.sz (Sky.mk s_w s_h s_lv (s_pts.map unPt) (s_aws.map unAw) (s_secs.map unSec) (s_rws.map unRw)) b))
  | _ => none
theorem h_szSky : ∀ args p v, t_szSky args = some (p, v) → p → Contract P 12 args [] v [] ∧ noref v = true ∧ No99 v := by
  intro args p v h1 h2
  unfold t_szSky at h1
  split at h1
  · rename_i s_w s_h s_lv s_pts s_aws s_secs s_rws b
    cases h1
    obtain ⟨⟨e0, e1, e2, e3⟩, HP⟩ := h2
    have := c_szSky (Sky.mk s_w s_h s_lv (s_pts.map unPt) (s_aws.map unAw) (s_secs.map unSec) (s_rws.map unRw)) b HP.1 HP.2
    exact ⟨by simpa only [e0, e1, e2, e3, Sky.row] using this, rfl, trivial⟩
  · cases h1
end
end Go.Ve

namespace Go.Ve
noncomputable section
open Go.Proofs
set_option linter.unusedSimpArgs false
set_option linter.unusedVariables false
set_option maxRecDepth 100000
open Go.ChangeShapes Go.WideShapes
theorem fit_rows {α : Type} {f : α → List AV} {rs : List LSh} (h : ∀ r, fitsL rs r → ∃ x : α, r = f x) : ∀ {rows : List (List AV)}, (∀ r ∈ rows, fitsL rs r) → ∃ l : List α, rows = l.map f
  | [], _ => ⟨[], rfl⟩
  | r :: rows, k => by
    obtain ⟨x, rfl⟩ := h r (k r (by simp))
    obtain ⟨l, rfl⟩ := fit_rows h (rows := rows) fun r' h' => k r' (by simp [h'])
    exact ⟨x :: l, rfl⟩
def sh_ByteArray : List LSh := [.str]
theorem fit_ByteArray (r : List AV) (h : fitsL sh_ByteArray r) : ∃ x : ByteArray, r = srow x ∧ x.toList.length ≤ 9223372036854775807 := by
  simp only [sh_ByteArray, fitsL, fits] at h
  obtain ⟨_, _, rfl, ⟨n, rfl, h⟩, rfl⟩ := h
  exact ⟨n, rfl, by rw [← toList_size]; unfold maxLen at h; omega⟩
def sh_Pt : List LSh := [.str, .int .i64, .int .i64]
theorem fit_Pt (r : List AV) (h : fitsL sh_Pt r) : ∃ x : Pt, r = Pt.row x ∧ x.fitp := by
  simp only [sh_Pt, fitsL, fits] at h
  obtain ⟨_, _, rfl, ⟨nm, rfl, h_nm⟩, _, _, rfl, ⟨x, rfl, _⟩, _, _, rfl, ⟨y, rfl, _⟩, rfl⟩ := h

  exact ⟨⟨nm, x, y⟩, rfl, (by have e := toList_size nm; unfold maxLen at h_nm; show nm.toList.length ≤ _; omega)⟩
def sh_Blk : List LSh := [.int .i64, .int .i64, .int .i64, .int .i64, .int .i64, .int .i64]
theorem fit_Blk (r : List AV) (h : fitsL sh_Blk r) : ∃ x : Blk, r = Blk.row x := by
  simp only [sh_Blk, fitsL, fits] at h
  obtain ⟨_, _, rfl, ⟨x0, rfl, _⟩, _, _, rfl, ⟨y0, rfl, _⟩, _, _, rfl, ⟨x1, rfl, _⟩, _, _, rfl, ⟨y1, rfl, _⟩, _, _, rfl, ⟨lo, rfl, _⟩, _, _, rfl, ⟨hi, rfl, _⟩, rfl⟩ := h

  exact ⟨⟨x0, y0, x1, y1, lo, hi⟩, rfl⟩
def sh_Rw : List LSh := [.str, .int .i64, .int .i64, .int .i64]
theorem fit_Rw (r : List AV) (h : fitsL sh_Rw r) : ∃ x : Rw, r = Rw.row x ∧ x.fitp := by
  simp only [sh_Rw, fitsL, fits] at h
  obtain ⟨_, _, rfl, ⟨nm, rfl, h_nm⟩, _, _, rfl, ⟨x, rfl, _⟩, _, _, rfl, ⟨y, rfl, _⟩, _, _, rfl, ⟨tn, rfl, _⟩, rfl⟩ := h

  exact ⟨⟨nm, x, y, tn⟩, rfl, (by have e := toList_size nm; unfold maxLen at h_nm; show nm.toList.length ≤ _; omega)⟩
def sh_Aw : List LSh := [.str, .sl sh_ByteArray]
theorem fit_Aw (r : List AV) (h : fitsL sh_Aw r) : ∃ x : Aw, r = (Aw.row 1) x ∧ x.fitp := by
  simp only [sh_Aw, fitsL, fits] at h
  obtain ⟨_, _, rfl, ⟨nm, rfl, h_nm⟩, _, _, rfl, ⟨pts, rfl, h_pts, r_pts⟩, rfl⟩ := h
  obtain ⟨pts, rfl, p_pts⟩ := fit_rows2 fit_ByteArray r_pts
  rw [List.length_map] at h_pts
  exact ⟨⟨nm, pts⟩, rfl, ⟨(by have e := toList_size nm; unfold maxLen at h_nm; show nm.toList.length ≤ _; omega), ⟨(by unfold maxLen at h_pts; omega), p_pts⟩⟩⟩
def sh_Sec : List LSh := [.str, .sl sh_Blk]
theorem fit_Sec (r : List AV) (h : fitsL sh_Sec r) : ∃ x : Sec, r = (Sec.row 1) x ∧ x.fitp := by
  simp only [sh_Sec, fitsL, fits] at h
  obtain ⟨_, _, rfl, ⟨nm, rfl, h_nm⟩, _, _, rfl, ⟨bl, rfl, h_bl, r_bl⟩, rfl⟩ := h
  obtain ⟨bl, rfl⟩ := fit_rows fit_Blk r_bl
  rw [List.length_map] at h_bl
  exact ⟨⟨nm, bl⟩, rfl, ⟨(by have e := toList_size nm; unfold maxLen at h_nm; show nm.toList.length ≤ _; omega), (by unfold maxLen at h_bl; omega)⟩⟩
def sh_Sky : List LSh := [.int .i64, .int .i64, .int .i64, .sl sh_Pt, .sl sh_Aw, .sl sh_Sec, .sl sh_Rw]
theorem fit_Sky (r : List AV) (h : fitsL sh_Sky r) : ∃ x : Sky, r = (Sky.row 1) x ∧ x.fitp := by
  simp only [sh_Sky, fitsL, fits] at h
  obtain ⟨_, _, rfl, ⟨w, rfl, _⟩, _, _, rfl, ⟨h, rfl, _⟩, _, _, rfl, ⟨lv, rfl, _⟩, _, _, rfl, ⟨pts, rfl, h_pts, r_pts⟩, _, _, rfl, ⟨aws, rfl, h_aws, r_aws⟩, _, _, rfl, ⟨secs, rfl, h_secs, r_secs⟩, _, _, rfl, ⟨rws, rfl, h_rws, r_rws⟩, rfl⟩ := h
  obtain ⟨pts, rfl, p_pts⟩ := fit_rows2 fit_Pt r_pts
  rw [List.length_map] at h_pts
  obtain ⟨aws, rfl, p_aws⟩ := fit_rows2 fit_Aw r_aws
  rw [List.length_map] at h_aws
  obtain ⟨secs, rfl, p_secs⟩ := fit_rows2 fit_Sec r_secs
  rw [List.length_map] at h_secs
  obtain ⟨rws, rfl, p_rws⟩ := fit_rows2 fit_Rw r_rws
  rw [List.length_map] at h_rws
  exact ⟨⟨w, h, lv, pts, aws, secs, rws⟩, rfl, ⟨⟨(by unfold maxLen at h_pts; omega), p_pts⟩, ⟨(by unfold maxLen at h_aws; omega), p_aws⟩, ⟨(by unfold maxLen at h_secs; omega), p_secs⟩, ⟨(by unfold maxLen at h_rws; omega), p_rws⟩⟩⟩
end
end Go.Ve

namespace Go.Ve
noncomputable section
open Go.Proofs
set_option linter.unusedSimpArgs false
set_option linter.unusedVariables false
set_option maxRecDepth 100000
structure Pass where
  nm : ByteArray
  fr : Int
  to : Int
  deriving Inhabited, DecidableEq
def Pass.row (s : Pass) : List AV := [.str s.nm, .int .i64 s.fr, .int .i64 s.to]
def unPass : List AV → Pass
  | [.str vnm, .int .i64 vfr, .int .i64 vto] => (Pass.mk vnm vfr vto)
  | _ => default
theorem unPass_row (s : Pass) : unPass (Pass.row s) = s := by
  cases s; simp only [Pass.row, unPass]
theorem un_Pass (l : List Pass) : (l.map Pass.row).map unPass = l := by
  rw [List.map_map]; exact List.map_id'' (fun s => unPass_row s) l
theorem Pass_eta (s : Pass) : (Pass.mk s.nm s.fr s.to) = s := (rfl)
theorem no99_Pass (l : List Pass) : No99LL (l.map Pass.row) := by
  induction l with
  | nil => simp [No99LL]
  | cons x l ih => simp only [List.map_cons, No99LL]; exact ⟨by simp [Pass.row, No99L, No99], ih⟩
end
end Go.Ve

namespace Go.Ve
noncomputable section
open Go.Proofs
set_option linter.unusedSimpArgs false
set_option linter.unusedVariables false
set_option maxRecDepth 100000
structure PKind where
  nm : ByteArray
  q : Int
  sl : Int
  deriving Inhabited, DecidableEq
def PKind.row (s : PKind) : List AV := [.str s.nm, .int .i64 s.q, .int .i64 s.sl]
def unPKind : List AV → PKind
  | [.str vnm, .int .i64 vq, .int .i64 vsl] => (PKind.mk vnm vq vsl)
  | _ => default
theorem unPKind_row (s : PKind) : unPKind (PKind.row s) = s := by
  cases s; simp only [PKind.row, unPKind]
theorem un_PKind (l : List PKind) : (l.map PKind.row).map unPKind = l := by
  rw [List.map_map]; exact List.map_id'' (fun s => unPKind_row s) l
theorem PKind_eta (s : PKind) : (PKind.mk s.nm s.q s.sl) = s := (rfl)
theorem no99_PKind (l : List PKind) : No99LL (l.map PKind.row) := by
  induction l with
  | nil => simp [No99LL]
  | cons x l ih => simp only [List.map_cons, No99LL]; exact ⟨by simp [PKind.row, No99L, No99], ih⟩
structure PPt where
  nm : ByteArray
  x : Int
  y : Int
  deriving Inhabited, DecidableEq
def PPt.row (s : PPt) : List AV := [.str s.nm, .int .i64 s.x, .int .i64 s.y]
def unPPt : List AV → PPt
  | [.str vnm, .int .i64 vx, .int .i64 vy] => (PPt.mk vnm vx vy)
  | _ => default
theorem unPPt_row (s : PPt) : unPPt (PPt.row s) = s := by
  cases s; simp only [PPt.row, unPPt]
theorem un_PPt (l : List PPt) : (l.map PPt.row).map unPPt = l := by
  rw [List.map_map]; exact List.map_id'' (fun s => unPPt_row s) l
theorem PPt_eta (s : PPt) : (PPt.mk s.nm s.x s.y) = s := (rfl)
theorem no99_PPt (l : List PPt) : No99LL (l.map PPt.row) := by
  induction l with
  | nil => simp [No99LL]
  | cons x l ih => simp only [List.map_cons, No99LL]; exact ⟨by simp [PPt.row, No99L, No99], ih⟩
theorem c_l11In (n a b : Int) : Contract P 168 [.int .i64 n, .int .i64 a, .int .i64 b] [] (.bool (decide (a ≤ n ∧ n ≤ b))) [] := by
  refine fn_sound (Env.nil P) hm k_spec_l11In (Nat.le_of_ble_eq_true rfl) rfl ?_; unfold s_spec_l11In; simp (config := { maxSteps := 2000000 }) only [bitvec_to_nat, reduceIte, Nat.reduceEqDiff, Nat.reduceAdd, Nat.reduceLeDiff, reduceCtorEq, Nat.reduceBEq, Nat.reduceLT, Nat.reduceMod, List.forall_mem_cons]
  repeat' (first | with_reducible apply And.intro | with_reducible intro _)
  all_goals first | omega | grind
def t_l11In : List AV → Option (Prop × AV)
  | [.int .i64 n, .int .i64 a, .int .i64 b] => some ((True) ∧ (True), .bool (decide (a ≤ n ∧ n ≤ b)))
  | _ => none
theorem h_l11In : ∀ args p v, t_l11In args = some (p, v) → p → Contract P 168 args [] v [] ∧ noref v = true ∧ No99 v := by
  intro args p v h1 h2
  unfold t_l11In at h1
  split at h1
  · rename_i n a b
    cases h1
    obtain ⟨_, HP⟩ := h2
    have := c_l11In n a b
    exact ⟨this, rfl, trivial⟩
  · cases h1
theorem c_l11NameOk (s : ByteArray) (hp : True) : Contract P 167 [.str s] [] (.bool (decide (nameOk s))) [] := by
  refine fn_sound ((Env.nil P).add 168 t_l11In h_l11In) hm k_spec_l11NameOk (Nat.le_of_ble_eq_true rfl) rfl ?_; unfold s_spec_l11NameOk; simp (config := { maxSteps := 2000000 }) only [bitvec_to_nat, reduceIte, Nat.reduceEqDiff, Nat.reduceAdd, Nat.reduceLeDiff, reduceCtorEq, Nat.reduceBEq, Nat.reduceLT, Nat.reduceMod, List.forall_mem_cons, t_l11In]
  refine ⟨fun h1 => ?_, fun h1 => ?_⟩
  · refine loop_st (fun i : Nat => [(3, .int .i64 i)]) (fun _ => []) (fun i => i ≤ s.toList.length ∧ ∀ j, j < i → charOk (s.toList.getD j 0)) (fun i => s.toList.length - i) (0) (by simp only [u_E0, u_E1, u_M0, u_M1, w_setE0, w_setE1, w_setM0, w_setM1, reduceIte, Nat.reduceEqDiff]; exact ⟨by repeat' (first | exact trivial | refine ⟨.inr rfl, ?_⟩), by repeat' (first | exact trivial | refine ⟨rfl, ?_⟩), by first | rfl | simp [closedB, refsIn, refsInL, refsInO, dom, refsInL_nr, *], by first | rfl | simp [keepB, dom]⟩) ?_ ?_
    · exact ⟨Nat.zero_le _, by intro j hj; omega⟩
    intro i hi NX hN
    unfold l_spec_l11NameOk_0; simp (config := { maxSteps := 2000000 }) only [bitvec_to_nat, reduceIte, Nat.reduceEqDiff, Nat.reduceAdd, Nat.reduceLeDiff, reduceCtorEq, Nat.reduceBEq, Nat.reduceLT, Nat.reduceMod, List.forall_mem_cons]
    repeat' (first | with_reducible apply And.intro | with_reducible intro _)
    all_goals first
      | exact trivial
      | omega
      | (refine hN (i + 1) _ (by simp only [u_E0, u_E1, u_M0, u_M1, w_setE0, w_setE1, w_setM0, w_setM1, reduceIte, Nat.reduceEqDiff]; exact ⟨by repeat' (first | exact trivial | refine ⟨.inr rfl, ?_⟩), by repeat' (first | exact trivial | refine ⟨rfl, ?_⟩), by first | rfl | simp [closedB, refsIn, refsInL, refsInO, dom, refsInL_nr, *], by first | rfl | simp [keepB, dom]⟩) ?_ ?_
         · exact ⟨by omega, all_snoc hi.2 (by grind [nameOk, charOk])⟩
         · omega)
      | grind [nameOk, charOk]
  · grind [nameOk]
def t_l11NameOk : List AV → Option (Prop × AV)
  | [.str s] => some ((True) ∧ (True), .bool (decide (nameOk s)))
  | _ => none
theorem h_l11NameOk : ∀ args p v, t_l11NameOk args = some (p, v) → p → Contract P 167 args [] v [] ∧ noref v = true ∧ No99 v := by
  intro args p v h1 h2
  unfold t_l11NameOk at h1
  split at h1
  · rename_i s
    cases h1
    obtain ⟨_, HP⟩ := h2
    have := c_l11NameOk s HP
    exact ⟨this, rfl, trivial⟩
  · cases h1
def PKind.ok (k : PKind) : Prop := nameOk k.nm ∧ (1 ≤ k.q ∧ k.q ≤ k.sl) ∧ k.sl ≤ 50
def PPt.ok (k : PPt) : Prop := nameOk k.nm ∧ (0 ≤ k.x ∧ k.x ≤ 15) ∧ (0 ≤ k.y ∧ k.y ≤ 15)
instance (k : PKind) : Decidable k.ok := by unfold PKind.ok; infer_instance
instance (k : PPt) : Decidable k.ok := by unfold PPt.ok; infer_instance
def kAt (l : List PKind) (i : Nat) : Prop := (l.getD i default).ok ∧ (0 < i → slt (l.getD (i - 1) default).nm (l.getD i default).nm)
def pAt (l : List PPt) (i : Nat) : Prop := (l.getD i default).ok ∧ (0 < i → slt (l.getD (i - 1) default).nm (l.getD i default).nm) ∧ ∀ k, k < i → ¬ ((l.getD k default).x = (l.getD i default).x ∧ (l.getD k default).y = (l.getD i default).y)
def baseOk (ks : List PKind) (ps : List PPt) : Prop := (ks.length ≤ 6 ∧ ps.length ≤ 16) ∧ (∀ i, i < ks.length → kAt ks i) ∧ ∀ i, i < ps.length → pAt ps i
noncomputable instance (ks : List PKind) (ps : List PPt) : Decidable (baseOk ks ps) := Classical.propDecidable _
theorem c_l11KindOk (k : PKind) : Contract P 152 [.agg k.row] [] (.bool (decide k.ok)) [] := by
  simp only [PKind.row, PPt.row]
  refine fn_sound (((Env.nil P).add 168 t_l11In h_l11In).add 167 t_l11NameOk h_l11NameOk) hm k_spec_l11KindOk (Nat.le_of_ble_eq_true rfl) rfl ?_; unfold s_spec_l11KindOk; simp (config := { maxSteps := 2000000 }) only [bitvec_to_nat, reduceIte, Nat.reduceEqDiff, Nat.reduceAdd, Nat.reduceLeDiff, reduceCtorEq, Nat.reduceBEq, Nat.reduceLT, Nat.reduceMod, List.forall_mem_cons, t_l11In, t_l11NameOk, PKind.row, PPt.row]
  repeat' (first | with_reducible apply And.intro | with_reducible intro _)
  all_goals first | omega | grind [PKind.ok, PPt.ok]
def t_l11KindOk : List AV → Option (Prop × AV)
  | [.agg [.str k_nm, .int .i64 k_q, .int .i64 k_sl]] => some ((True) ∧ (True), .bool (decide (PKind.ok (PKind.mk k_nm k_q k_sl))))
  | _ => none
theorem h_l11KindOk : ∀ args p v, t_l11KindOk args = some (p, v) → p → Contract P 152 args [] v [] ∧ noref v = true ∧ No99 v := by
  intro args p v h1 h2
  unfold t_l11KindOk at h1
  split at h1
  · rename_i k_nm k_q k_sl
    cases h1
    obtain ⟨_, HP⟩ := h2
    have := c_l11KindOk (PKind.mk k_nm k_q k_sl)
    exact ⟨by simpa only [PKind.row] using this, rfl, trivial⟩
  · cases h1
theorem c_l11PointOk (k : PPt) : Contract P 153 [.agg k.row] [] (.bool (decide k.ok)) [] := by
  simp only [PKind.row, PPt.row]
  refine fn_sound (((Env.nil P).add 168 t_l11In h_l11In).add 167 t_l11NameOk h_l11NameOk) hm k_spec_l11PointOk (Nat.le_of_ble_eq_true rfl) rfl ?_; unfold s_spec_l11PointOk; simp (config := { maxSteps := 2000000 }) only [bitvec_to_nat, reduceIte, Nat.reduceEqDiff, Nat.reduceAdd, Nat.reduceLeDiff, reduceCtorEq, Nat.reduceBEq, Nat.reduceLT, Nat.reduceMod, List.forall_mem_cons, t_l11In, t_l11NameOk, PKind.row, PPt.row]
  repeat' (first | with_reducible apply And.intro | with_reducible intro _)
  all_goals first | omega | grind [PKind.ok, PPt.ok]
def t_l11PointOk : List AV → Option (Prop × AV)
  | [.agg [.str k_nm, .int .i64 k_x, .int .i64 k_y]] => some ((True) ∧ (True), .bool (decide (PPt.ok (PPt.mk k_nm k_x k_y))))
  | _ => none
theorem h_l11PointOk : ∀ args p v, t_l11PointOk args = some (p, v) → p → Contract P 153 args [] v [] ∧ noref v = true ∧ No99 v := by
  intro args p v h1 h2
  unfold t_l11PointOk at h1
  split at h1
  · rename_i k_nm k_x k_y
    cases h1
    obtain ⟨_, HP⟩ := h2
    have := c_l11PointOk (PPt.mk k_nm k_x k_y)
    exact ⟨by simpa only [PPt.row] using this, rfl, trivial⟩
  · cases h1
theorem c_kindOk (k : PKind) (hn : k.nm.toList.length ≤ 9223372036854775807) : Contract P 154 [.agg k.row] [] (.bool (decide k.ok)) [] := by
  simp only [PKind.row, PPt.row]
  refine fn_sound (((Env.nil P).add 74 t_within h_within).add 75 t_isName h_isName) hm k_impl_kindOk (Nat.le_of_ble_eq_true rfl) rfl ?_; unfold s_impl_kindOk; simp (config := { maxSteps := 2000000 }) only [bitvec_to_nat, reduceIte, Nat.reduceEqDiff, Nat.reduceAdd, Nat.reduceLeDiff, reduceCtorEq, Nat.reduceBEq, Nat.reduceLT, Nat.reduceMod, List.forall_mem_cons, t_within, t_isName, PKind.row, PPt.row]
  repeat' (first | with_reducible apply And.intro | with_reducible intro _)
  all_goals first | omega | grind [PKind.ok, PPt.ok]
def t_kindOk : List AV → Option (Prop × AV)
  | [.agg [.str k_nm, .int .i64 k_q, .int .i64 k_sl]] => some ((True) ∧ ((PKind.mk k_nm k_q k_sl).nm.toList.length ≤ 9223372036854775807), .bool (decide (PKind.ok (PKind.mk k_nm k_q k_sl))))
  | _ => none
theorem h_kindOk : ∀ args p v, t_kindOk args = some (p, v) → p → Contract P 154 args [] v [] ∧ noref v = true ∧ No99 v := by
  intro args p v h1 h2
  unfold t_kindOk at h1
  split at h1
  · rename_i k_nm k_q k_sl
    cases h1
    obtain ⟨_, HP⟩ := h2
    have := c_kindOk (PKind.mk k_nm k_q k_sl) HP
    exact ⟨by simpa only [PKind.row] using this, rfl, trivial⟩
  · cases h1
theorem c_pointOk (k : PPt) (hn : k.nm.toList.length ≤ 9223372036854775807) : Contract P 155 [.agg k.row] [] (.bool (decide k.ok)) [] := by
  simp only [PKind.row, PPt.row]
  refine fn_sound (((Env.nil P).add 74 t_within h_within).add 75 t_isName h_isName) hm k_impl_pointOk (Nat.le_of_ble_eq_true rfl) rfl ?_; unfold s_impl_pointOk; simp (config := { maxSteps := 2000000 }) only [bitvec_to_nat, reduceIte, Nat.reduceEqDiff, Nat.reduceAdd, Nat.reduceLeDiff, reduceCtorEq, Nat.reduceBEq, Nat.reduceLT, Nat.reduceMod, List.forall_mem_cons, t_within, t_isName, PKind.row, PPt.row]
  repeat' (first | with_reducible apply And.intro | with_reducible intro _)
  all_goals first | omega | grind [PKind.ok, PPt.ok]
def t_pointOk : List AV → Option (Prop × AV)
  | [.agg [.str k_nm, .int .i64 k_x, .int .i64 k_y]] => some ((True) ∧ ((PPt.mk k_nm k_x k_y).nm.toList.length ≤ 9223372036854775807), .bool (decide (PPt.ok (PPt.mk k_nm k_x k_y))))
  | _ => none
theorem h_pointOk : ∀ args p v, t_pointOk args = some (p, v) → p → Contract P 155 args [] v [] ∧ noref v = true ∧ No99 v := by
  intro args p v h1 h2
  unfold t_pointOk at h1
  split at h1
  · rename_i k_nm k_x k_y
    cases h1
    obtain ⟨_, HP⟩ := h2
    have := c_pointOk (PPt.mk k_nm k_x k_y) HP
    exact ⟨by simpa only [PPt.row] using this, rfl, trivial⟩
  · cases h1
end
end Go.Ve

namespace Go.Ve
noncomputable section
open Go.Proofs
set_option linter.unusedSimpArgs false
set_option linter.unusedVariables false
set_option maxRecDepth 100000
set_option maxHeartbeats 1000000 in
theorem c_sBaseOk (t t' : Nat) (ks : List PKind) (ps : List PPt) (hk : ks.length ≤ 1048576) (hp : ps.length ≤ 1048576) : Contract P 110 [.agg [.sl t 3 (ks.map PKind.row), .sl t' 3 (ps.map PPt.row)]] [] (.bool (decide (baseOk ks ps))) [] := by
  refine fn_sound (((Env.nil P).add 152 t_l11KindOk h_l11KindOk).add 153 t_l11PointOk h_l11PointOk) hm k_spec_PlanBaseOk (Nat.le_of_ble_eq_true rfl) rfl ?_; unfold s_spec_PlanBaseOk; simp (config := { maxSteps := 2000000 }) only [bitvec_to_nat, reduceIte, Nat.reduceEqDiff, Nat.reduceAdd, Nat.reduceLeDiff, reduceCtorEq, Nat.reduceBEq, Nat.reduceLT, Nat.reduceMod, List.forall_mem_cons, t_l11KindOk, t_l11PointOk, tk_map, dp_map, toNat_pred, appE, rowsOf, List.take_length, List.length_cons, List.length_nil, Nat.zero_add, srow, irow, un_s, un_i, Zone.row, Zone_eta, un_Zone, Word.row, Word_eta, Own.row, Own_eta, Part.row, Part_eta, Seen.row, Seen_eta, Book.row, Book_eta, Sector.row, Sector_eta, HCraft.row, HCraft_eta, World.row, World_eta, Pt.row, Pt_eta, Aw.row, Aw_eta, Blk.row, Blk_eta, Sec.row, Sec_eta, Rw.row, Rw_eta, Sky.row, Sky_eta, Place.row, Place_eta, Pass.row, Pass_eta, PKind.row, PKind_eta, PPt.row, PPt_eta, un_Word, un_Own, un_Part, un_Seen, un_Book, un_Sector, un_HCraft, un_World, un_Pt, un_Aw, un_Blk, un_Sec, un_Rw, un_Sky, un_Place, un_Pass, un_PKind, un_PPt, Nat.sub_zero]
  repeat' (first | with_reducible apply And.intro | with_reducible intro _)
  all_goals first
    | omega
    | (intro h; have := h.1; omega)
    | skip
  refine loop_st (fun i : Nat => [(3, .int .i64 i)]) (fun _ => []) (fun i => i ≤ ks.length ∧ ∀ j, j < i → kAt ks j) (fun i => ks.length - i) (0) (by simp only [u_E0, u_E1, u_M0, u_M1, w_setE0, w_setE1, w_setM0, w_setM1, reduceIte, Nat.reduceEqDiff]; exact ⟨by repeat' (first | exact trivial | refine ⟨.inr rfl, ?_⟩), by repeat' (first | exact trivial | refine ⟨rfl, ?_⟩), by first | rfl | simp [closedB, refsIn, refsInL, refsInO, dom, refsInL_nr, *], by first | rfl | simp [keepB, dom]⟩) ?_ ?_
  · exact ⟨Nat.zero_le _, by intro j hj; omega⟩
  intro i hi NX hN
  unfold l_spec_PlanBaseOk_0; simp (config := { maxSteps := 2000000 }) only [bitvec_to_nat, reduceIte, Nat.reduceEqDiff, Nat.reduceAdd, Nat.reduceLeDiff, reduceCtorEq, Nat.reduceBEq, Nat.reduceLT, Nat.reduceMod, List.forall_mem_cons, t_l11KindOk, t_l11PointOk, tk_map, dp_map, toNat_pred, appE, rowsOf, List.take_length, List.length_cons, List.length_nil, Nat.zero_add, srow, irow, un_s, un_i, Zone.row, Zone_eta, un_Zone, Word.row, Word_eta, Own.row, Own_eta, Part.row, Part_eta, Seen.row, Seen_eta, Book.row, Book_eta, Sector.row, Sector_eta, HCraft.row, HCraft_eta, World.row, World_eta, Pt.row, Pt_eta, Aw.row, Aw_eta, Blk.row, Blk_eta, Sec.row, Sec_eta, Rw.row, Rw_eta, Sky.row, Sky_eta, Place.row, Place_eta, Pass.row, Pass_eta, PKind.row, PKind_eta, PPt.row, PPt_eta, un_Word, un_Own, un_Part, un_Seen, un_Book, un_Sector, un_HCraft, un_World, un_Pt, un_Aw, un_Blk, un_Sec, un_Rw, un_Sky, un_Place, un_Pass, un_PKind, un_PPt, Nat.sub_zero]
  have A : baseOk ks ps → i < ks.length → kAt ks i := fun h g => h.2.1 i g
  unfold kAt at A
  by_cases hlt : i < ks.length
  · refine ⟨fun g1 => ?_, fun g1 => absurd (by omega) g1⟩
    repeat' (first | with_reducible apply And.intro | with_reducible intro _)
    all_goals first
      | omega
      | (refine hN (i + 1) _ (by simp only [u_E0, u_E1, u_M0, u_M1, w_setE0, w_setE1, w_setM0, w_setM1, reduceIte, Nat.reduceEqDiff]; exact ⟨by repeat' (first | exact trivial | refine ⟨.inr rfl, ?_⟩), by repeat' (first | exact trivial | refine ⟨rfl, ?_⟩), by first | rfl | simp [closedB, refsIn, refsInL, refsInO, dom, refsInL_nr, *], by first | rfl | simp [keepB, dom]⟩) ?_ ?_
         · exact ⟨by omega, all_snoc hi.2 ⟨by assumption, by grind⟩⟩
         · omega)
      | (intro hq; have := A hq hlt; grind)
      | trace_state
  · have e : i = ks.length := by omega
    subst e
    refine ⟨fun g1 => absurd g1 (by omega), fun g1 => ?_⟩
    have hks := hi.2
    clear hi hN NX
    refine loop_st (fun i : Nat => [(4, .int .i64 i)]) (fun _ => []) (fun i => i ≤ ps.length ∧ ∀ j, j < i → pAt ps j) (fun i => ps.length - i) (0) (by simp only [u_E0, u_E1, u_M0, u_M1, w_setE0, w_setE1, w_setM0, w_setM1, reduceIte, Nat.reduceEqDiff]; exact ⟨by repeat' (first | exact trivial | refine ⟨.inr rfl, ?_⟩), by repeat' (first | exact trivial | refine ⟨rfl, ?_⟩), by first | rfl | simp [closedB, refsIn, refsInL, refsInO, dom, refsInL_nr, *], by first | rfl | simp [keepB, dom]⟩) ?_ ?_
    · exact ⟨Nat.zero_le _, by intro j hj; omega⟩
    intro i hi NX hN
    have A : baseOk ks ps → i < ps.length → pAt ps i := fun h g => h.2.2 i g
    unfold pAt at A
    by_cases hlt : i < ps.length
    · unfold l_spec_PlanBaseOk_2; simp (config := { maxSteps := 2000000 }) only [bitvec_to_nat, reduceIte, Nat.reduceEqDiff, Nat.reduceAdd, Nat.reduceLeDiff, reduceCtorEq, Nat.reduceBEq, Nat.reduceLT, Nat.reduceMod, List.forall_mem_cons, t_l11KindOk, t_l11PointOk, tk_map, dp_map, toNat_pred, appE, rowsOf, List.take_length, List.length_cons, List.length_nil, Nat.zero_add, srow, irow, un_s, un_i, Zone.row, Zone_eta, un_Zone, Word.row, Word_eta, Own.row, Own_eta, Part.row, Part_eta, Seen.row, Seen_eta, Book.row, Book_eta, Sector.row, Sector_eta, HCraft.row, HCraft_eta, World.row, World_eta, Pt.row, Pt_eta, Aw.row, Aw_eta, Blk.row, Blk_eta, Sec.row, Sec_eta, Rw.row, Rw_eta, Sky.row, Sky_eta, Place.row, Place_eta, Pass.row, Pass_eta, PKind.row, PKind_eta, PPt.row, PPt_eta, un_Word, un_Own, un_Part, un_Seen, un_Book, un_Sector, un_HCraft, un_World, un_Pt, un_Aw, un_Blk, un_Sec, un_Rw, un_Sky, un_Place, un_Pass, un_PKind, un_PPt, Nat.sub_zero]
      refine ⟨fun g1 => ?_, fun g1 => absurd (by omega) g1⟩
      repeat' (first | with_reducible apply And.intro | with_reducible intro _)
      all_goals first
        | omega
        | (intro hq; have := A hq hlt; grind)
        | skip
      all_goals
        refine loop_st (fun k : Nat => [(5, .int .i64 k)]) (fun _ => []) (fun k => k ≤ i ∧ ∀ j, j < k → ¬ ((ps.getD j default).x = (ps.getD i default).x ∧ (ps.getD j default).y = (ps.getD i default).y)) (fun k => i - k) (0) (by simp only [u_E0, u_E1, u_M0, u_M1, w_setE0, w_setE1, w_setM0, w_setM1, reduceIte, Nat.reduceEqDiff]; exact ⟨by repeat' (first | exact trivial | refine ⟨.inr rfl, ?_⟩), by repeat' (first | exact trivial | refine ⟨rfl, ?_⟩), by first | rfl | simp [closedB, refsIn, refsInL, refsInO, dom, refsInL_nr, *], by first | rfl | simp [keepB, dom]⟩) ?_ ?_
        · exact ⟨Nat.zero_le _, by intro j hj; omega⟩
        intro k hk NX2 hN2
        unfold l_spec_PlanBaseOk_1; simp (config := { maxSteps := 2000000 }) only [bitvec_to_nat, reduceIte, Nat.reduceEqDiff, Nat.reduceAdd, Nat.reduceLeDiff, reduceCtorEq, Nat.reduceBEq, Nat.reduceLT, Nat.reduceMod, List.forall_mem_cons, t_l11KindOk, t_l11PointOk, tk_map, dp_map, toNat_pred, appE, rowsOf, List.take_length, List.length_cons, List.length_nil, Nat.zero_add, srow, irow, un_s, un_i, Zone.row, Zone_eta, un_Zone, Word.row, Word_eta, Own.row, Own_eta, Part.row, Part_eta, Seen.row, Seen_eta, Book.row, Book_eta, Sector.row, Sector_eta, HCraft.row, HCraft_eta, World.row, World_eta, Pt.row, Pt_eta, Aw.row, Aw_eta, Blk.row, Blk_eta, Sec.row, Sec_eta, Rw.row, Rw_eta, Sky.row, Sky_eta, Place.row, Place_eta, Pass.row, Pass_eta, PKind.row, PKind_eta, PPt.row, PPt_eta, un_Word, un_Own, un_Part, un_Seen, un_Book, un_Sector, un_HCraft, un_World, un_Pt, un_Aw, un_Blk, un_Sec, un_Rw, un_Sky, un_Place, un_Pass, un_PKind, un_PPt, Nat.sub_zero]
        repeat' (first | with_reducible apply And.intro | with_reducible intro _)
        all_goals first
          | omega
          | (refine hN2 (k + 1) _ (by simp only [u_E0, u_E1, u_M0, u_M1, w_setE0, w_setE1, w_setM0, w_setM1, reduceIte, Nat.reduceEqDiff]; exact ⟨by repeat' (first | exact trivial | refine ⟨.inr rfl, ?_⟩), by repeat' (first | exact trivial | refine ⟨rfl, ?_⟩), by first | rfl | simp [closedB, refsIn, refsInL, refsInO, dom, refsInL_nr, *], by first | rfl | simp [keepB, dom]⟩) ⟨by omega, all_snoc hk.2 (by grind)⟩ (by omega))
          | (intro hq; have := (A hq hlt).2.2 k (by omega); grind)
          | (refine hN (i + 1) _ (by simp only [u_E0, u_E1, u_M0, u_M1, w_setE0, w_setE1, w_setM0, w_setM1, reduceIte, Nat.reduceEqDiff]; exact ⟨by repeat' (first | exact trivial | refine ⟨.inr rfl, ?_⟩), by repeat' (first | exact trivial | refine ⟨rfl, ?_⟩), by first | rfl | simp [closedB, refsIn, refsInL, refsInO, dom, refsInL_nr, *], by first | rfl | simp [keepB, dom]⟩) ⟨by omega, all_snoc hi.2 ⟨by assumption, by grind, fun j hj => hk.2 j (by omega)⟩⟩ (by omega))
          | trace_state
    · have e : i = ps.length := by omega
      subst e
      unfold l_spec_PlanBaseOk_2; simp (config := { maxSteps := 2000000 }) only [bitvec_to_nat, reduceIte, Nat.reduceEqDiff, Nat.reduceAdd, Nat.reduceLeDiff, reduceCtorEq, Nat.reduceBEq, Nat.reduceLT, Nat.reduceMod, List.forall_mem_cons, t_l11KindOk, t_l11PointOk, tk_map, dp_map, toNat_pred, appE, rowsOf, List.take_length, List.length_cons, List.length_nil, Nat.zero_add, srow, irow, un_s, un_i, Zone.row, Zone_eta, un_Zone, Word.row, Word_eta, Own.row, Own_eta, Part.row, Part_eta, Seen.row, Seen_eta, Book.row, Book_eta, Sector.row, Sector_eta, HCraft.row, HCraft_eta, World.row, World_eta, Pt.row, Pt_eta, Aw.row, Aw_eta, Blk.row, Blk_eta, Sec.row, Sec_eta, Rw.row, Rw_eta, Sky.row, Sky_eta, Place.row, Place_eta, Pass.row, Pass_eta, PKind.row, PKind_eta, PPt.row, PPt_eta, un_Word, un_Own, un_Part, un_Seen, un_Book, un_Sector, un_HCraft, un_World, un_Pt, un_Aw, un_Blk, un_Sec, un_Rw, un_Sky, un_Place, un_Pass, un_PKind, un_PPt, Nat.sub_zero]
      refine ⟨fun g1 => absurd g1 (by omega), fun g1 => ?_⟩
      exact ⟨⟨by omega, by omega⟩, hks, hi.2⟩
set_option maxHeartbeats 1000000 in
theorem c_iBaseOk (t t' : Nat) (ks : List PKind) (ps : List PPt) (hk : ks.length ≤ 1048576) (hp : ps.length ≤ 1048576) (hnk : ∀ x ∈ ks, x.nm.toList.length ≤ 9223372036854775807) (hnp : ∀ x ∈ ps, x.nm.toList.length ≤ 9223372036854775807) : Contract P 112 [.agg [.sl t 3 (ks.map PKind.row), .sl t' 3 (ps.map PPt.row)]] [] (.bool (decide (baseOk ks ps))) [] := by
  have he : True := trivial
  refine fn_sound (((Env.nil P).add 154 t_kindOk h_kindOk).add 155 t_pointOk h_pointOk) hm k_impl_PlanBaseOk (Nat.le_of_ble_eq_true rfl) rfl ?_; unfold s_impl_PlanBaseOk; simp (config := { maxSteps := 2000000 }) only [bitvec_to_nat, reduceIte, Nat.reduceEqDiff, Nat.reduceAdd, Nat.reduceLeDiff, reduceCtorEq, Nat.reduceBEq, Nat.reduceLT, Nat.reduceMod, List.forall_mem_cons, t_kindOk, t_pointOk, tk_map, dp_map, toNat_pred, appE, rowsOf, List.take_length, List.length_cons, List.length_nil, Nat.zero_add, srow, irow, un_s, un_i, Zone.row, Zone_eta, un_Zone, Word.row, Word_eta, Own.row, Own_eta, Part.row, Part_eta, Seen.row, Seen_eta, Book.row, Book_eta, Sector.row, Sector_eta, HCraft.row, HCraft_eta, World.row, World_eta, Pt.row, Pt_eta, Aw.row, Aw_eta, Blk.row, Blk_eta, Sec.row, Sec_eta, Rw.row, Rw_eta, Sky.row, Sky_eta, Place.row, Place_eta, Pass.row, Pass_eta, PKind.row, PKind_eta, PPt.row, PPt_eta, un_Word, un_Own, un_Part, un_Seen, un_Book, un_Sector, un_HCraft, un_World, un_Pt, un_Aw, un_Blk, un_Sec, un_Rw, un_Sky, un_Place, un_Pass, un_PKind, un_PPt, Nat.sub_zero, lookE, msetE, find_str, find_cell, keyP_str, keyP_cell, put_str, put_cell, he]
  repeat' (first | with_reducible apply And.intro | with_reducible intro _)
  all_goals first
    | omega
    | (intro h; have := h.1; omega)
    | skip
  refine loop_st (fun i : Nat => [(22, .int .i64 i)]) (fun _ => []) (fun i => i ≤ ks.length ∧ ∀ j, j < i → kAt ks j) (fun i => ks.length - i) (0) (by simp only [u_E0, u_E1, u_M0, u_M1, w_setE0, w_setE1, w_setM0, w_setM1, reduceIte, Nat.reduceEqDiff]; exact ⟨by repeat' (first | exact trivial | refine ⟨.inr rfl, ?_⟩), by repeat' (first | exact trivial | refine ⟨rfl, ?_⟩), by first | rfl | simp [closedB, refsIn, refsInL, refsInO, dom, refsInL_nr, *], by first | rfl | simp [keepB, dom]⟩) ?_ ?_
  · exact ⟨Nat.zero_le _, by intro j hj; omega⟩
  intro i hi NX hN
  unfold l_impl_PlanBaseOk_0; simp (config := { maxSteps := 2000000 }) only [bitvec_to_nat, reduceIte, Nat.reduceEqDiff, Nat.reduceAdd, Nat.reduceLeDiff, reduceCtorEq, Nat.reduceBEq, Nat.reduceLT, Nat.reduceMod, List.forall_mem_cons, t_kindOk, t_pointOk, tk_map, dp_map, toNat_pred, appE, rowsOf, List.take_length, List.length_cons, List.length_nil, Nat.zero_add, srow, irow, un_s, un_i, Zone.row, Zone_eta, un_Zone, Word.row, Word_eta, Own.row, Own_eta, Part.row, Part_eta, Seen.row, Seen_eta, Book.row, Book_eta, Sector.row, Sector_eta, HCraft.row, HCraft_eta, World.row, World_eta, Pt.row, Pt_eta, Aw.row, Aw_eta, Blk.row, Blk_eta, Sec.row, Sec_eta, Rw.row, Rw_eta, Sky.row, Sky_eta, Place.row, Place_eta, Pass.row, Pass_eta, PKind.row, PKind_eta, PPt.row, PPt_eta, un_Word, un_Own, un_Part, un_Seen, un_Book, un_Sector, un_HCraft, un_World, un_Pt, un_Aw, un_Blk, un_Sec, un_Rw, un_Sky, un_Place, un_Pass, un_PKind, un_PPt, Nat.sub_zero, lookE, msetE, find_str, find_cell, keyP_str, keyP_cell, put_str, put_cell, he]
  have A : baseOk ks ps → i < ks.length → kAt ks i := fun h g => h.2.1 i g
  unfold kAt at A
  by_cases hlt : i < ks.length
  · have hn9 := hnk _ (getD_mem' hlt)
    refine ⟨fun g1 => ?_, fun g1 => absurd (by omega) g1⟩
    repeat' (first | with_reducible apply And.intro | with_reducible intro _)
    all_goals first
      | omega
      | (refine hN (i + 1) _ (by simp only [u_E0, u_E1, u_M0, u_M1, w_setE0, w_setE1, w_setM0, w_setM1, reduceIte, Nat.reduceEqDiff]; exact ⟨by repeat' (first | exact trivial | refine ⟨.inr rfl, ?_⟩), by repeat' (first | exact trivial | refine ⟨rfl, ?_⟩), by first | rfl | simp [closedB, refsIn, refsInL, refsInO, dom, refsInL_nr, *], by first | rfl | simp [keepB, dom]⟩) ?_ ?_
         · exact ⟨by omega, all_snoc hi.2 ⟨by assumption, by grind⟩⟩
         · omega)
      | (intro hq; have := A hq hlt; grind)
      | trace_state
  · have e : i = ks.length := by omega
    subst e
    refine ⟨fun g1 => absurd g1 (by omega), fun g1 => ?_⟩
    have hks := hi.2
    clear hi hN NX
    refine loop_st (fun i : Nat => [(51, .int .i64 i)]) (fun i => [(147, .mp 2 (setOf cellKey ((ps.take i).map fun p => (p.x, p.y))))]) (fun i => i ≤ ps.length ∧ ∀ j, j < i → pAt ps j) (fun i => ps.length - i) (0) (by simp only [u_E0, u_E1, u_M0, u_M1, w_setE0, w_setE1, w_setM0, w_setM1, reduceIte, Nat.reduceEqDiff]; exact ⟨by repeat' (first | exact trivial | refine ⟨.inr rfl, ?_⟩), by repeat' (first | exact trivial | refine ⟨rfl, ?_⟩), by first | rfl | simp [closedB, refsIn, refsInL, refsInO, dom, refsInL_nr, *], by first | rfl | simp [keepB, dom]⟩) ?_ ?_
    · exact ⟨Nat.zero_le _, by intro j hj; omega⟩
    intro i hi NX hN
    have A : baseOk ks ps → i < ps.length → pAt ps i := fun h g => h.2.2 i g
    unfold pAt at A
    by_cases hlt : i < ps.length
    · have hn9 := hnp _ (getD_mem' hlt)
      have hc := isIn_cell (f := fun p : PPt => (p.x, p.y)) (l := ps) (i := i) (by omega) (q := ((ps.getD i default).x, (ps.getD i default).y))
      have e2 := take_map_snoc (f := fun p : PPt => (p.x, p.y)) (l := ps) (i := i) (by omega)
      have hb : (ps.getD i default).ok → (0 ≤ (ps.getD i default).x ∧ (ps.getD i default).x ≤ 15) ∧ (0 ≤ (ps.getD i default).y ∧ (ps.getD i default).y ≤ 15) := fun h => h.2
      have hno1 : isIn ((ps.getD i default).x, (ps.getD i default).y) ((ps.take i).map fun p => (p.x, p.y)) → ¬ baseOk ks ps := fun h hq => by
        obtain ⟨k, hk, e⟩ := hc.1 h
        simp only [Prod.mk.injEq] at e
        exact (A hq hlt).2.2 k hk e
      have hno2 : ¬ isIn ((ps.getD i default).x, (ps.getD i default).y) ((ps.take i).map fun p => (p.x, p.y)) → ∀ k, k < i → ¬ ((ps.getD k default).x = (ps.getD i default).x ∧ (ps.getD k default).y = (ps.getD i default).y) := fun h k hk e => h (hc.2 ⟨k, hk, by rw [e.1, e.2]⟩)
      unfold l_impl_PlanBaseOk_1; simp (config := { maxSteps := 2000000 }) only [bitvec_to_nat, reduceIte, Nat.reduceEqDiff, Nat.reduceAdd, Nat.reduceLeDiff, reduceCtorEq, Nat.reduceBEq, Nat.reduceLT, Nat.reduceMod, List.forall_mem_cons, t_kindOk, t_pointOk, tk_map, dp_map, toNat_pred, appE, rowsOf, List.take_length, List.length_cons, List.length_nil, Nat.zero_add, srow, irow, un_s, un_i, Zone.row, Zone_eta, un_Zone, Word.row, Word_eta, Own.row, Own_eta, Part.row, Part_eta, Seen.row, Seen_eta, Book.row, Book_eta, Sector.row, Sector_eta, HCraft.row, HCraft_eta, World.row, World_eta, Pt.row, Pt_eta, Aw.row, Aw_eta, Blk.row, Blk_eta, Sec.row, Sec_eta, Rw.row, Rw_eta, Sky.row, Sky_eta, Place.row, Place_eta, Pass.row, Pass_eta, PKind.row, PKind_eta, PPt.row, PPt_eta, un_Word, un_Own, un_Part, un_Seen, un_Book, un_Sector, un_HCraft, un_World, un_Pt, un_Aw, un_Blk, un_Sec, un_Rw, un_Sky, un_Place, un_Pass, un_PKind, un_PPt, Nat.sub_zero, lookE, msetE, find_str, find_cell, keyP_str, keyP_cell, put_str, put_cell, he]
      refine ⟨fun g1 => ?_, fun g1 => absurd (by omega) g1⟩
      repeat' (first | with_reducible apply And.intro | with_reducible intro _)
      all_goals first
        | omega
        | (have := hb (by assumption); omega)
        | exact hno1 (by assumption)
        | (intro hq; have := A hq hlt; grind)
        | (refine hN (i + 1) _ (by simp only [e2, List.length_append, List.length_cons, List.length_nil, Nat.zero_add, List.map_append, List.map_cons, List.map_nil, u_E0, u_E1, u_M0, u_M1, w_setE0, w_setE1, w_setM0, w_setM1, reduceIte, Nat.reduceEqDiff]; exact ⟨by repeat' (first | exact trivial | refine ⟨.inr rfl, ?_⟩), by repeat' (first | exact trivial | refine ⟨rfl, ?_⟩), by first | rfl | simp [closedB, refsIn, refsInL, refsInO, dom, refsInL_nr, *], by first | rfl | simp [keepB, dom]⟩) ?_ ?_
           · exact ⟨by omega, all_snoc hi.2 ⟨by assumption, by grind, hno2 (by assumption)⟩⟩
           · omega)
        | trace_state
    · have e : i = ps.length := by omega
      subst e
      unfold l_impl_PlanBaseOk_1; simp (config := { maxSteps := 2000000 }) only [bitvec_to_nat, reduceIte, Nat.reduceEqDiff, Nat.reduceAdd, Nat.reduceLeDiff, reduceCtorEq, Nat.reduceBEq, Nat.reduceLT, Nat.reduceMod, List.forall_mem_cons, t_kindOk, t_pointOk, tk_map, dp_map, toNat_pred, appE, rowsOf, List.take_length, List.length_cons, List.length_nil, Nat.zero_add, srow, irow, un_s, un_i, Zone.row, Zone_eta, un_Zone, Word.row, Word_eta, Own.row, Own_eta, Part.row, Part_eta, Seen.row, Seen_eta, Book.row, Book_eta, Sector.row, Sector_eta, HCraft.row, HCraft_eta, World.row, World_eta, Pt.row, Pt_eta, Aw.row, Aw_eta, Blk.row, Blk_eta, Sec.row, Sec_eta, Rw.row, Rw_eta, Sky.row, Sky_eta, Place.row, Place_eta, Pass.row, Pass_eta, PKind.row, PKind_eta, PPt.row, PPt_eta, un_Word, un_Own, un_Part, un_Seen, un_Book, un_Sector, un_HCraft, un_World, un_Pt, un_Aw, un_Blk, un_Sec, un_Rw, un_Sky, un_Place, un_Pass, un_PKind, un_PPt, Nat.sub_zero, lookE, msetE, find_str, find_cell, keyP_str, keyP_cell, put_str, put_cell, he]
      refine ⟨fun g1 => absurd g1 (by omega), fun g1 => ?_⟩
      exact ⟨⟨by omega, by omega⟩, hks, hi.2⟩
end
end Go.Ve

namespace Go.Ve
open Go.Proofs
set_option maxRecDepth 100000
def lO_spec_LapBase_0 : SCode := (.seq (.seq (.rg [⟨some 15, .mv (.v 6), none, []⟩, ⟨some 16, .faddr 3 (.v 2), none, []⟩, ⟨some 17, .load1 (.v 16), none, [16]⟩, ⟨some 18, .lenL (.v 17), none, [17]⟩, ⟨some 19, .bin .lss (.v 15) (.v 18), none, [15, 18]⟩] [2, 4, 5, 6, 19]) (.cond (.v 19) .skip (.exit 0))) (.seq (.block 1 (.rgd [⟨some 22, .faddr 1 (.v 5), none, []⟩, ⟨some 23, .load1 (.v 22), none, []⟩, ⟨some 24, .faddr 3 (.v 2), none, []⟩, ⟨some 25, .load1 (.v 24), none, []⟩, ⟨some 26, .mv (.v 6), none, []⟩, ⟨some 27, .iaddr 3 (.v 25) (.v 26), none, []⟩, ⟨some 28, .faddr 0 (.v 27), none, []⟩, ⟨some 29, .load1 (.v 28), none, []⟩, ⟨some 30, .faddr 3 (.v 2), none, []⟩, ⟨some 31, .load1 (.v 30), none, []⟩, ⟨some 32, .mv (.v 6), none, []⟩, ⟨some 33, .iaddr 3 (.v 31) (.v 32), none, []⟩, ⟨some 34, .faddr 1 (.v 33), none, []⟩, ⟨some 35, .load1 (.v 34), none, []⟩, ⟨some 36, .faddr 3 (.v 2), none, []⟩, ⟨some 37, .load1 (.v 36), none, []⟩, ⟨some 38, .mv (.v 6), none, []⟩, ⟨some 39, .iaddr 3 (.v 37) (.v 38), none, []⟩, ⟨some 40, .faddr 2 (.v 39), none, []⟩, ⟨some 41, .load1 (.v 40), none, []⟩, ⟨some 42, .build [.str ⟨#[]⟩, .int .i64 0, .int .i64 0] [(0, 1, .v 29), (1, 1, .v 35), (2, 1, .v 41)], none, []⟩, ⟨some 43, .lit 157 3 [.v 42], none, []⟩, ⟨some 44, .app 144 157 3 (.v 23) (.v 43), none, []⟩, ⟨some 45, .faddr 1 (.v 5), none, []⟩, ⟨none, .store 1 (.v 45) (.v 44), none, []⟩] [2, 4, 5, 6] [none, none, none, none, none, none, none, none, none, none, none, none, none, none, none, none, none, none, none, none, none, none, none, none, none])) (.rg [⟨some 20, .mv (.v 6), none, [6]⟩, ⟨some 21, .binN .add (.v 20) (.c (.int .i64 1)), none, [20]⟩, ⟨some 6, .mv (.v 21), none, [21]⟩] [2, 4, 5, 6])))
/-- spec.LapBase: function 52 -/
def sO_spec_LapBase : SFun := { n := 51, res := [.cN 4 2], body := (.seq (.rg [⟨some 2, .box 102 (.v 0), none, [0]⟩, ⟨some 4, .alloc 104 [.sl 0 3 [], .sl 0 3 []], none, []⟩] [1, 2, 4]) (.seq (.rg [⟨some 7, .litOwn 107 159 3 [], none, []⟩, ⟨some 8, .mv (.v 1), none, [1]⟩, ⟨some 9, .app 107 159 3 (.v 7) (.v 8), none, [7, 8]⟩, ⟨some 10, .build [.sl 98 3 [], .sl 98 3 []] [(0, 1, .v 9)], none, [9]⟩, ⟨some 5, .alloc 105 [.sl 0 3 [], .sl 0 3 []], none, []⟩, ⟨none, .store 2 (.v 5) (.v 10), none, [10]⟩] [2, 4, 5]) (.seq (.seq (.rg [⟨some 11, .loadN 7 (.v 2), none, []⟩, ⟨some 12, .call 13 [.v 11], none, [11]⟩, ⟨some 13, .not (.v 12), none, [12]⟩] [2, 4, 5, 13]) (.cond (.v 13) (.seq (.rg [⟨some 14, .build [.sl 0 3 [], .sl 0 3 []] [], none, []⟩, ⟨none, .store 2 (.v 4) (.v 14), none, [14]⟩] [4]) (.gh (.frzB 104 0) (.gh (.frzB 104 1) .ret))) .skip)) (.seq (.seq (.rg [⟨some 6, .mv (.c (.int .i64 0)), none, []⟩] [2, 4, 5, 6]) (.block 0 (.gh (.nilB 105 1 144 157) (.loop lO_spec_LapBase_0)))) (.seq (.seq (.rg [⟨some 46, .loadN 2 (.v 5), none, []⟩, ⟨some 47, .call 110 [.v 46], none, [46]⟩, ⟨some 48, .not (.v 47), none, [47]⟩] [4, 5, 48]) (.cond (.v 48) (.seq (.rg [⟨some 49, .build [.sl 0 3 [], .sl 0 3 []] [], none, []⟩, ⟨none, .store 2 (.v 4) (.v 49), none, [49]⟩] [4]) (.gh (.frzB 104 0) (.gh (.frzB 104 1) .ret))) .skip)) (.seq (.rg [⟨some 50, .loadN 2 (.v 5), none, [5]⟩, ⟨none, .store 2 (.v 4) (.v 50), none, [50]⟩] [4]) (.gh (.frzB 104 0) (.gh (.frzB 104 1) .ret)))))))) }
theorem kO_spec_LapBase : okFun Go.Proofs.Tryd.prog 52 sO_spec_LapBase = true := by kernel_rfl
def lO_impl_LapBaseX_0 : SCode := (.seq (.rg [⟨some 19, .bin .lss (.v 18) (.v 17), none, []⟩] [4, 5, 16, 17, 18, 19]) (.seq (.cond (.v 19) .skip (.exit 0)) (.seq (.block 1 (.seq (.rg [⟨some 20, .iaddr 3 (.v 16) (.v 18), none, []⟩, ⟨some 21, .loadN 3 (.v 20), none, [20]⟩, ⟨some 7, .alloc 107 [.str ⟨#[]⟩, .int .i64 0, .int .i64 0], none, []⟩, ⟨none, .store 3 (.v 7) (.v 21), none, [21]⟩] [4, 5, 7, 16, 17, 18]) (.rg [⟨some 22, .faddr 1 (.v 5), none, []⟩, ⟨some 23, .load1 (.v 22), none, [22]⟩, ⟨some 24, .faddr 0 (.v 7), none, []⟩, ⟨some 25, .load1 (.v 24), none, [24]⟩, ⟨some 26, .faddr 1 (.v 7), none, []⟩, ⟨some 27, .load1 (.v 26), none, [26]⟩, ⟨some 28, .faddr 2 (.v 7), none, [7]⟩, ⟨some 29, .load1 (.v 28), none, [28]⟩, ⟨some 30, .build [.str ⟨#[]⟩, .int .i64 0, .int .i64 0] [(0, 1, .v 25), (1, 1, .v 27), (2, 1, .v 29)], none, [25, 27, 29]⟩, ⟨some 31, .lit 157 3 [.v 30], none, [30]⟩, ⟨some 32, .app 132 157 3 (.v 23) (.v 31), none, [23, 31]⟩, ⟨some 33, .faddr 1 (.v 5), none, []⟩, ⟨none, .store 1 (.v 33) (.v 32), none, [32, 33]⟩] [4, 5, 16, 17, 18]))) (.rg [⟨some 34, .binN .add (.v 18) (.c (.int .i64 1)), none, [18]⟩, ⟨some 18, .mv (.v 34), none, [34]⟩] [4, 5, 16, 17, 18]))))
/-- impl.LapBase: function 54 -/
def sO_impl_LapBaseX : SFun := { n := 40, res := [.cN 4 2], body := (.seq (.rg [⟨some 2, .box 102 (.v 0), none, [0]⟩, ⟨some 4, .alloc 104 [.sl 0 3 [], .sl 0 3 []], none, []⟩] [1, 2, 4]) (.seq (.seq (.rg [⟨some 8, .loadN 7 (.v 2), none, []⟩, ⟨some 9, .call 15 [.v 8], none, [8]⟩, ⟨some 10, .not (.v 9), none, [9]⟩] [1, 2, 4, 10]) (.cond (.v 10) (.seq (.rg [⟨some 11, .build [.sl 98 3 [], .sl 98 3 []] [], none, []⟩, ⟨none, .store 2 (.v 4) (.v 11), none, [11]⟩] [4]) .ret) .skip)) (.seq (.rg [⟨some 12, .mv (.v 1), none, [1]⟩, ⟨some 13, .app 113 159 3 (.c (.sl 0 3 [])) (.v 12), none, [12]⟩, ⟨some 14, .build [.sl 98 3 [], .sl 98 3 []] [(0, 1, .v 13)], none, [13]⟩, ⟨some 5, .alloc 105 [.sl 0 3 [], .sl 0 3 []], none, []⟩, ⟨none, .store 2 (.v 5) (.v 14), none, [14]⟩] [2, 4, 5]) (.seq (.seq (.rg [⟨some 15, .faddr 3 (.v 2), none, [2]⟩, ⟨some 16, .load1 (.v 15), none, [15]⟩, ⟨some 17, .lenL (.v 16), none, []⟩, ⟨some 18, .mv (.c (.int .i64 0)), none, []⟩] [4, 5, 16, 17, 18]) (.block 0 (.gh (.nilB 105 1 132 157) (.loop lO_impl_LapBaseX_0)))) (.seq (.seq (.rg [⟨some 35, .loadN 2 (.v 5), none, []⟩, ⟨some 36, .call 112 [.v 35], none, [35]⟩, ⟨some 37, .not (.v 36), none, [36]⟩] [4, 5, 37]) (.cond (.v 37) (.seq (.rg [⟨some 38, .build [.sl 98 3 [], .sl 98 3 []] [], none, []⟩, ⟨none, .store 2 (.v 4) (.v 38), none, [38]⟩] [4]) .ret) .skip)) (.seq (.rg [⟨some 39, .loadN 2 (.v 5), none, [5]⟩, ⟨none, .store 2 (.v 4) (.v 39), none, [39]⟩] [4]) .ret)))))) }
theorem kO_impl_LapBaseX : okFun Go.Proofs.Tryd.prog 54 sO_impl_LapBaseX = true := by kernel_rfl
end Go.Ve

namespace Go.Ve
noncomputable section
open Go.Proofs
set_option linter.unusedSimpArgs false
set_option linter.unusedVariables false
set_option maxRecDepth 100000
def t_sBaseOk : List AV → Option (Prop × AV)
  | [.agg [.sl _ 3 kx, .sl _ 3 px]] => some (((kx.map unPKind).map PKind.row = kx ∧ (px.map unPPt).map PPt.row = px) ∧ ((kx.map unPKind).length ≤ 1048576 ∧ (px.map unPPt).length ≤ 1048576), .bool (decide (baseOk (kx.map unPKind) (px.map unPPt))))
  | _ => none
theorem h_sBaseOk : ∀ args p v, t_sBaseOk args = some (p, v) → p → Contract P 110 args [] v [] ∧ noref v = true ∧ No99 v := by
  intro args p v h1 h2
  unfold t_sBaseOk at h1
  split at h1
  · rename_i t kx t' px
    cases h1
    obtain ⟨⟨e1, e2⟩, h3⟩ := h2
    have := c_sBaseOk t t' (kx.map unPKind) (px.map unPPt) h3.1 h3.2
    simp only [e1, e2] at this
    exact ⟨this, rfl, trivial⟩
  · cases h1
def t_iBaseOk : List AV → Option (Prop × AV)
  | [.agg [.sl _ 3 kx, .sl _ 3 px]] => some (((kx.map unPKind).map PKind.row = kx ∧ (px.map unPPt).map PPt.row = px) ∧ ((kx.map unPKind).length ≤ 1048576 ∧ (px.map unPPt).length ≤ 1048576) ∧ (∀ x ∈ kx.map unPKind, x.nm.toList.length ≤ 9223372036854775807) ∧ (∀ x ∈ px.map unPPt, x.nm.toList.length ≤ 9223372036854775807), .bool (decide (baseOk (kx.map unPKind) (px.map unPPt))))
  | _ => none
theorem h_iBaseOk : ∀ args p v, t_iBaseOk args = some (p, v) → p → Contract P 112 args [] v [] ∧ noref v = true ∧ No99 v := by
  intro args p v h1 h2
  unfold t_iBaseOk at h1
  split at h1
  · rename_i t kx t' px
    cases h1
    obtain ⟨⟨e1, e2⟩, h3⟩ := h2
    have := c_iBaseOk t t' (kx.map unPKind) (px.map unPPt) h3.1.1 h3.1.2 h3.2.1 h3.2.2
    simp only [e1, e2] at this
    exact ⟨this, rfl, trivial⟩
  · cases h1
def toPP (p : Pt) : PPt := ⟨p.nm, p.x, p.y⟩
def lbOk (s : Sky) (ks : List PKind) : Prop := s.valid ∧ baseOk ks (s.pts.map toPP)
noncomputable instance (s : Sky) (ks : List PKind) : Decidable (lbOk s ks) := Classical.propDecidable _
def lbK (s : Sky) (ks : List PKind) : List PKind := if lbOk s ks then ks else []
def lbP (s : Sky) (ks : List PKind) : List PPt := if lbOk s ks then s.pts.map toPP else []
def ppT (s : Sky) (i : Nat) : List PPt := (s.pts.take i).map toPP
theorem ppT_len {s : Sky} {i : Nat} (h : i ≤ s.pts.length) : (ppT s i).length = i := by simp [ppT]; omega
theorem ppT_succ {s : Sky} {i : Nat} (h : i < s.pts.length) : (ppT s i).map PPt.row ++ [PPt.row (toPP (s.pts.getD i default))] = (ppT s (i + 1)).map PPt.row := by
  rw [ppT, ppT, List.take_succ_eq_append_getElem h, List.map_append, List.map_append]; simp [h, -List.map_map]
theorem ppT_all {s : Sky} : ppT s s.pts.length = s.pts.map toPP := by simp [ppT]
set_option maxHeartbeats 2000000 in
theorem c_sLB (s : Sky) (t : Nat) (ks : List PKind) (hs : s.small) (hk : ks.length ≤ 1048576) : Contract P 52 [.agg (s.row 0), .sl t 3 (ks.map PKind.row)] [] (.agg [.sl 0 3 ((lbK s ks).map PKind.row), .sl 0 3 ((lbP s ks).map PPt.row)]) [] := by
  have hsm := hs
  unfold Sky.small at hsm
  have tkl : True := trivial
  have hi' : True := trivial
  have tkk : List.take ks.length (ks.map PKind.row) = ks.map PKind.row := List.take_of_length_le (by simp)
  refine fn_sound (((Env.nil P).add 13 t_sSkyValid h_sSkyValid).add 110 t_sBaseOk h_sBaseOk) hm kO_spec_LapBase (Nat.le_of_ble_eq_true rfl) rfl ?_; unfold sO_spec_LapBase; simp (config := { maxSteps := 2000000 }) only [bitvec_to_nat, reduceIte, Nat.reduceEqDiff, Nat.reduceAdd, Nat.reduceLeDiff, reduceCtorEq, Nat.reduceBEq, Nat.reduceLT, Nat.reduceMod, List.forall_mem_cons, t_sSkyValid, t_sBaseOk, tk_map, dp_map, toNat_pred, appE, rowsOf, List.take_length, List.length_cons, List.length_nil, Nat.zero_add, srow, irow, un_s, un_i, Zone.row, Zone_eta, un_Zone, Word.row, Word_eta, Own.row, Own_eta, Part.row, Part_eta, Seen.row, Seen_eta, Book.row, Book_eta, Sector.row, Sector_eta, HCraft.row, HCraft_eta, World.row, World_eta, Pt.row, Pt_eta, Aw.row, Aw_eta, Blk.row, Blk_eta, Sec.row, Sec_eta, Rw.row, Rw_eta, Sky.row, Sky_eta, Place.row, Place_eta, Pass.row, Pass_eta, PKind.row, PKind_eta, PPt.row, PPt_eta, un_Word, un_Own, un_Part, un_Seen, un_Book, un_Sector, un_HCraft, un_World, un_Pt, un_Aw, un_Blk, un_Sec, un_Rw, un_Sky, un_Place, un_Pass, un_PKind, un_PPt, Nat.sub_zero, Sky.row, ghost, List.nil_append, tkl, tkk, getD_rows, hi', ppT_all, un_PKind, un_PPt]
  refine ⟨by omega, hs, fun hv => ?_, fun hv => ?_⟩
  · refine loop_st (fun i : Nat => [(6, .int .i64 i)]) (fun i => [(105, .box [.own 107 1 0 ks.length, .own 144 i 0 i]), (144, .arr 157 i 3 ((ppT s i).map PPt.row))]) (fun i => i ≤ s.pts.length) (fun i => s.pts.length - i) 0 (by simp only [u_E0, u_E1, u_M0, u_M1, w_setE0, w_setE1, w_setM0, w_setM1, reduceIte, Nat.reduceEqDiff]; exact ⟨by repeat' (first | exact trivial | refine ⟨.inr rfl, ?_⟩), by repeat' (first | exact trivial | refine ⟨rfl, ?_⟩), by first | rfl | simp [closedB, refsIn, refsInL, refsInO, dom, refsInL_nr, *], by first | rfl | simp [keepB, dom]⟩) (Nat.zero_le _) ?_
    intro i hi NX hN
    have hll := ppT_len hi
    have tkl : List.take i ((ppT s i).map PPt.row) = (ppT s i).map PPt.row := List.take_of_length_le (by simp [hll])
    by_cases hlt : i < s.pts.length
    · have hsu := ppT_succ hlt
      unfold lO_spec_LapBase_0; simp (config := { maxSteps := 2000000 }) only [bitvec_to_nat, reduceIte, Nat.reduceEqDiff, Nat.reduceAdd, Nat.reduceLeDiff, reduceCtorEq, Nat.reduceBEq, Nat.reduceLT, Nat.reduceMod, List.forall_mem_cons, t_sSkyValid, t_sBaseOk, tk_map, dp_map, toNat_pred, appE, rowsOf, List.take_length, List.length_cons, List.length_nil, Nat.zero_add, srow, irow, un_s, un_i, Zone.row, Zone_eta, un_Zone, Word.row, Word_eta, Own.row, Own_eta, Part.row, Part_eta, Seen.row, Seen_eta, Book.row, Book_eta, Sector.row, Sector_eta, HCraft.row, HCraft_eta, World.row, World_eta, Pt.row, Pt_eta, Aw.row, Aw_eta, Blk.row, Blk_eta, Sec.row, Sec_eta, Rw.row, Rw_eta, Sky.row, Sky_eta, Place.row, Place_eta, Pass.row, Pass_eta, PKind.row, PKind_eta, PPt.row, PPt_eta, un_Word, un_Own, un_Part, un_Seen, un_Book, un_Sector, un_HCraft, un_World, un_Pt, un_Aw, un_Blk, un_Sec, un_Rw, un_Sky, un_Place, un_Pass, un_PKind, un_PPt, Nat.sub_zero, Sky.row, ghost, List.nil_append, tkl, tkk, getD_rows, hi', ppT_all, un_PKind, un_PPt]
      repeat' (first | with_reducible apply And.intro | with_reducible intro _)
      all_goals first
        | omega
        | (refine hN (i + 1) _ ⟨by repeat' (first | exact trivial | refine ⟨.inr rfl, ?_⟩), ⟨rfl, rfl, rfl, rfl, congrArg (fun g => some (AObj.arr 157 (i + 1) 3 g)) hsu, trivial⟩, rfl, rfl⟩ (by omega) (by omega))
        | (exfalso; omega)
        | trace_state
    · have e : i = s.pts.length := by omega
      subst e
      have hi' : ¬ ((s.pts.length : Nat) : Int) < s.pts.length := by omega
      have tka : List.take s.pts.length ((s.pts.map toPP).map PPt.row) = (s.pts.map toPP).map PPt.row := List.take_of_length_le (by simp)
      rw [ppT_all] at tkl
      unfold lO_spec_LapBase_0; simp (config := { maxSteps := 2000000 }) only [bitvec_to_nat, reduceIte, Nat.reduceEqDiff, Nat.reduceAdd, Nat.reduceLeDiff, reduceCtorEq, Nat.reduceBEq, Nat.reduceLT, Nat.reduceMod, List.forall_mem_cons, t_sSkyValid, t_sBaseOk, tk_map, dp_map, toNat_pred, appE, rowsOf, List.take_length, List.length_cons, List.length_nil, Nat.zero_add, srow, irow, un_s, un_i, Zone.row, Zone_eta, un_Zone, Word.row, Word_eta, Own.row, Own_eta, Part.row, Part_eta, Seen.row, Seen_eta, Book.row, Book_eta, Sector.row, Sector_eta, HCraft.row, HCraft_eta, World.row, World_eta, Pt.row, Pt_eta, Aw.row, Aw_eta, Blk.row, Blk_eta, Sec.row, Sec_eta, Rw.row, Rw_eta, Sky.row, Sky_eta, Place.row, Place_eta, Pass.row, Pass_eta, PKind.row, PKind_eta, PPt.row, PPt_eta, un_Word, un_Own, un_Part, un_Seen, un_Book, un_Sector, un_HCraft, un_World, un_Pt, un_Aw, un_Blk, un_Sec, un_Rw, un_Sky, un_Place, un_Pass, un_PKind, un_PPt, Nat.sub_zero, Sky.row, ghost, List.nil_append, tkl, tkk, getD_rows, hi', ppT_all, un_PKind, un_PPt]
      have hiff : lbOk s ks ↔ baseOk ks (s.pts.map toPP) := ⟨fun h => h.2, fun h => ⟨hv, h⟩⟩
      exact ⟨⟨hk, by omega⟩, fun h => by simp only [lbK, lbP, if_pos (hiff.2 h)], fun h => by simp only [lbK, lbP, if_neg (fun k => h (hiff.1 k))]; rfl⟩
  · have : ¬ lbOk s ks := fun h => hv h.1
    simp [lbK, lbP, this]
set_option maxHeartbeats 2000000 in
theorem c_iLBY (s : Sky) (t : Nat) (ks : List PKind) (hs : s.small) (hf : s.fitp) (hk : ks.length ≤ 1048576) (hkn : ∀ x ∈ ks, x.nm.toList.length ≤ 9223372036854775807) (hok : lbOk s ks) : Contract P 54 [.agg (s.row 0), .sl t 3 (ks.map PKind.row)] [] (.agg [.own 113 0 0 ks.length, .own 132 s.pts.length 0 s.pts.length]) [(113, .arr 159 0 3 (ks.map PKind.row)), (132, .arr 157 s.pts.length 3 ((s.pts.map toPP).map PPt.row))] := by
  have hsm := hs
  unfold Sky.small at hsm
  have tkl : True := trivial
  have hi' : True := trivial
  have tkk : List.take ks.length (ks.map PKind.row) = ks.map PKind.row := List.take_of_length_le (by simp)
  have hpn : ∀ x ∈ s.pts.map toPP, x.nm.toList.length ≤ 9223372036854775807 := fun x hx => by
    obtain ⟨p, hp, rfl⟩ := List.mem_map.1 hx
    exact hf.1.2 p hp
  refine fn_sound (((Env.nil P).add 15 t_iSkyValid h_iSkyValid).add 112 t_iBaseOk h_iBaseOk) hm kO_impl_LapBaseX (Nat.le_of_ble_eq_true rfl) rfl ?_; unfold sO_impl_LapBaseX; simp (config := { maxSteps := 2000000 }) only [bitvec_to_nat, reduceIte, Nat.reduceEqDiff, Nat.reduceAdd, Nat.reduceLeDiff, reduceCtorEq, Nat.reduceBEq, Nat.reduceLT, Nat.reduceMod, List.forall_mem_cons, retG_ret, retQ_eq, retQ_eqN, retOk, keepB, re_tupl, orr_t, t_iSkyValid, t_iBaseOk, tk_map, dp_map, toNat_pred, appE, rowsOf, List.take_length, List.length_cons, List.length_nil, Nat.zero_add, srow, irow, un_s, un_i, Zone.row, Zone_eta, un_Zone, Word.row, Word_eta, Own.row, Own_eta, Part.row, Part_eta, Seen.row, Seen_eta, Book.row, Book_eta, Sector.row, Sector_eta, HCraft.row, HCraft_eta, World.row, World_eta, Pt.row, Pt_eta, Aw.row, Aw_eta, Blk.row, Blk_eta, Sec.row, Sec_eta, Rw.row, Rw_eta, Sky.row, Sky_eta, Place.row, Place_eta, Pass.row, Pass_eta, PKind.row, PKind_eta, PPt.row, PPt_eta, un_Word, un_Own, un_Part, un_Seen, un_Book, un_Sector, un_HCraft, un_World, un_Pt, un_Aw, un_Blk, un_Sec, un_Rw, un_Sky, un_Place, un_Pass, un_PKind, un_PPt, Nat.sub_zero, Sky.row, ghost, List.nil_append, tkl, tkk, getD_rows, hi', ppT_all, un_PKind, un_PPt]
  refine ⟨⟨hs, hf⟩, fun hv => ⟨by omega, ?_⟩, fun hv => ?_⟩
  · refine loop_st (fun i : Nat => [(18, .int .i64 i)]) (fun i => [(105, .box [.own 113 0 0 ks.length, .own 132 i 0 i]), (132, .arr 157 i 3 ((ppT s i).map PPt.row))]) (fun i => i ≤ s.pts.length) (fun i => s.pts.length - i) 0 (by simp only [u_E0, u_E1, u_M0, u_M1, w_setE0, w_setE1, w_setM0, w_setM1, reduceIte, Nat.reduceEqDiff]; exact ⟨by repeat' (first | exact trivial | refine ⟨.inr rfl, ?_⟩), by repeat' (first | exact trivial | refine ⟨rfl, ?_⟩), by first | rfl | simp [closedB, refsIn, refsInL, refsInO, dom, refsInL_nr, *], by first | rfl | simp [keepB, dom]⟩) (Nat.zero_le _) ?_
    intro i hi NX hN
    have hll := ppT_len hi
    have tkl : List.take i ((ppT s i).map PPt.row) = (ppT s i).map PPt.row := List.take_of_length_le (by simp [hll])
    by_cases hlt : i < s.pts.length
    · have hsu := ppT_succ hlt
      unfold lO_impl_LapBaseX_0; simp (config := { maxSteps := 2000000 }) only [bitvec_to_nat, reduceIte, Nat.reduceEqDiff, Nat.reduceAdd, Nat.reduceLeDiff, reduceCtorEq, Nat.reduceBEq, Nat.reduceLT, Nat.reduceMod, List.forall_mem_cons, retG_ret, retQ_eq, retQ_eqN, retOk, keepB, re_tupl, orr_t, t_iSkyValid, t_iBaseOk, tk_map, dp_map, toNat_pred, appE, rowsOf, List.take_length, List.length_cons, List.length_nil, Nat.zero_add, srow, irow, un_s, un_i, Zone.row, Zone_eta, un_Zone, Word.row, Word_eta, Own.row, Own_eta, Part.row, Part_eta, Seen.row, Seen_eta, Book.row, Book_eta, Sector.row, Sector_eta, HCraft.row, HCraft_eta, World.row, World_eta, Pt.row, Pt_eta, Aw.row, Aw_eta, Blk.row, Blk_eta, Sec.row, Sec_eta, Rw.row, Rw_eta, Sky.row, Sky_eta, Place.row, Place_eta, Pass.row, Pass_eta, PKind.row, PKind_eta, PPt.row, PPt_eta, un_Word, un_Own, un_Part, un_Seen, un_Book, un_Sector, un_HCraft, un_World, un_Pt, un_Aw, un_Blk, un_Sec, un_Rw, un_Sky, un_Place, un_Pass, un_PKind, un_PPt, Nat.sub_zero, Sky.row, ghost, List.nil_append, tkl, tkk, getD_rows, hi', ppT_all, un_PKind, un_PPt]
      repeat' (first | with_reducible apply And.intro | with_reducible intro _)
      all_goals first
        | omega
        | (refine hN (i + 1) _ ⟨by repeat' (first | exact trivial | refine ⟨.inr rfl, ?_⟩), ⟨rfl, rfl, rfl, rfl, congrArg (fun g => some (AObj.arr 157 (i + 1) 3 g)) hsu, trivial⟩, rfl, rfl⟩ (by omega) (by omega))
        | (exfalso; omega)
        | trace_state
    · have e : i = s.pts.length := by omega
      subst e
      have hi' : ¬ ((s.pts.length : Nat) : Int) < s.pts.length := by omega
      rw [ppT_all] at tkl
      have hiff : lbOk s ks ↔ baseOk ks (s.pts.map toPP) := ⟨fun h => h.2, fun h => ⟨hv, h⟩⟩
      unfold lO_impl_LapBaseX_0; simp (config := { maxSteps := 2000000 }) only [bitvec_to_nat, reduceIte, Nat.reduceEqDiff, Nat.reduceAdd, Nat.reduceLeDiff, reduceCtorEq, Nat.reduceBEq, Nat.reduceLT, Nat.reduceMod, List.forall_mem_cons, retG_ret, retQ_eq, retQ_eqN, retOk, keepB, re_tupl, orr_t, t_iSkyValid, t_iBaseOk, tk_map, dp_map, toNat_pred, appE, rowsOf, List.take_length, List.length_cons, List.length_nil, Nat.zero_add, srow, irow, un_s, un_i, Zone.row, Zone_eta, un_Zone, Word.row, Word_eta, Own.row, Own_eta, Part.row, Part_eta, Seen.row, Seen_eta, Book.row, Book_eta, Sector.row, Sector_eta, HCraft.row, HCraft_eta, World.row, World_eta, Pt.row, Pt_eta, Aw.row, Aw_eta, Blk.row, Blk_eta, Sec.row, Sec_eta, Rw.row, Rw_eta, Sky.row, Sky_eta, Place.row, Place_eta, Pass.row, Pass_eta, PKind.row, PKind_eta, PPt.row, PPt_eta, un_Word, un_Own, un_Part, un_Seen, un_Book, un_Sector, un_HCraft, un_World, un_Pt, un_Aw, un_Blk, un_Sec, un_Rw, un_Sky, un_Place, un_Pass, un_PKind, un_PPt, Nat.sub_zero, Sky.row, ghost, List.nil_append, tkl, tkk, getD_rows, hi', ppT_all, un_PKind, un_PPt]
      exact ⟨⟨⟨hk, by omega⟩, hkn, hpn⟩, fun _ => ⟨by simp [refsIn], rfl⟩, fun h => absurd (hiff.1 hok) h⟩
  · exact absurd hok.1 hv
set_option maxHeartbeats 2000000 in
theorem c_iLBN (s : Sky) (t : Nat) (ks : List PKind) (hs : s.small) (hf : s.fitp) (hk : ks.length ≤ 1048576) (hkn : ∀ x ∈ ks, x.nm.toList.length ≤ 9223372036854775807) (hok : ¬ lbOk s ks) : Contract P 54 [.agg (s.row 0), .sl t 3 (ks.map PKind.row)] [] (.agg [.sl 98 3 [], .sl 98 3 []]) [] := by
  have hsm := hs
  unfold Sky.small at hsm
  have tkl : True := trivial
  have hi' : True := trivial
  have tkk : List.take ks.length (ks.map PKind.row) = ks.map PKind.row := List.take_of_length_le (by simp)
  have hpn : ∀ x ∈ s.pts.map toPP, x.nm.toList.length ≤ 9223372036854775807 := fun x hx => by
    obtain ⟨p, hp, rfl⟩ := List.mem_map.1 hx
    exact hf.1.2 p hp
  refine fn_sound (((Env.nil P).add 15 t_iSkyValid h_iSkyValid).add 112 t_iBaseOk h_iBaseOk) hm kO_impl_LapBaseX (Nat.le_of_ble_eq_true rfl) rfl ?_; unfold sO_impl_LapBaseX; simp (config := { maxSteps := 2000000 }) only [bitvec_to_nat, reduceIte, Nat.reduceEqDiff, Nat.reduceAdd, Nat.reduceLeDiff, reduceCtorEq, Nat.reduceBEq, Nat.reduceLT, Nat.reduceMod, List.forall_mem_cons, retG_ret, retQ_eq, retQ_eqN, retOk, keepB, re_tupl, orr_t, t_iSkyValid, t_iBaseOk, tk_map, dp_map, toNat_pred, appE, rowsOf, List.take_length, List.length_cons, List.length_nil, Nat.zero_add, srow, irow, un_s, un_i, Zone.row, Zone_eta, un_Zone, Word.row, Word_eta, Own.row, Own_eta, Part.row, Part_eta, Seen.row, Seen_eta, Book.row, Book_eta, Sector.row, Sector_eta, HCraft.row, HCraft_eta, World.row, World_eta, Pt.row, Pt_eta, Aw.row, Aw_eta, Blk.row, Blk_eta, Sec.row, Sec_eta, Rw.row, Rw_eta, Sky.row, Sky_eta, Place.row, Place_eta, Pass.row, Pass_eta, PKind.row, PKind_eta, PPt.row, PPt_eta, un_Word, un_Own, un_Part, un_Seen, un_Book, un_Sector, un_HCraft, un_World, un_Pt, un_Aw, un_Blk, un_Sec, un_Rw, un_Sky, un_Place, un_Pass, un_PKind, un_PPt, Nat.sub_zero, Sky.row, ghost, List.nil_append, tkl, tkk, getD_rows, hi', ppT_all, un_PKind, un_PPt]
  refine ⟨⟨hs, hf⟩, fun hv => ⟨by omega, ?_⟩⟩
  · refine loop_st (fun i : Nat => [(18, .int .i64 i)]) (fun i => [(105, .box [.own 113 0 0 ks.length, .own 132 i 0 i]), (132, .arr 157 i 3 ((ppT s i).map PPt.row))]) (fun i => i ≤ s.pts.length) (fun i => s.pts.length - i) 0 (by simp only [u_E0, u_E1, u_M0, u_M1, w_setE0, w_setE1, w_setM0, w_setM1, reduceIte, Nat.reduceEqDiff]; exact ⟨by repeat' (first | exact trivial | refine ⟨.inr rfl, ?_⟩), by repeat' (first | exact trivial | refine ⟨rfl, ?_⟩), by first | rfl | simp [closedB, refsIn, refsInL, refsInO, dom, refsInL_nr, *], by first | rfl | simp [keepB, dom]⟩) (Nat.zero_le _) ?_
    intro i hi NX hN
    have hll := ppT_len hi
    have tkl : List.take i ((ppT s i).map PPt.row) = (ppT s i).map PPt.row := List.take_of_length_le (by simp [hll])
    by_cases hlt : i < s.pts.length
    · have hsu := ppT_succ hlt
      unfold lO_impl_LapBaseX_0; simp (config := { maxSteps := 2000000 }) only [bitvec_to_nat, reduceIte, Nat.reduceEqDiff, Nat.reduceAdd, Nat.reduceLeDiff, reduceCtorEq, Nat.reduceBEq, Nat.reduceLT, Nat.reduceMod, List.forall_mem_cons, retG_ret, retQ_eq, retQ_eqN, retOk, keepB, re_tupl, orr_t, t_iSkyValid, t_iBaseOk, tk_map, dp_map, toNat_pred, appE, rowsOf, List.take_length, List.length_cons, List.length_nil, Nat.zero_add, srow, irow, un_s, un_i, Zone.row, Zone_eta, un_Zone, Word.row, Word_eta, Own.row, Own_eta, Part.row, Part_eta, Seen.row, Seen_eta, Book.row, Book_eta, Sector.row, Sector_eta, HCraft.row, HCraft_eta, World.row, World_eta, Pt.row, Pt_eta, Aw.row, Aw_eta, Blk.row, Blk_eta, Sec.row, Sec_eta, Rw.row, Rw_eta, Sky.row, Sky_eta, Place.row, Place_eta, Pass.row, Pass_eta, PKind.row, PKind_eta, PPt.row, PPt_eta, un_Word, un_Own, un_Part, un_Seen, un_Book, un_Sector, un_HCraft, un_World, un_Pt, un_Aw, un_Blk, un_Sec, un_Rw, un_Sky, un_Place, un_Pass, un_PKind, un_PPt, Nat.sub_zero, Sky.row, ghost, List.nil_append, tkl, tkk, getD_rows, hi', ppT_all, un_PKind, un_PPt]
      repeat' (first | with_reducible apply And.intro | with_reducible intro _)
      all_goals first
        | omega
        | (refine hN (i + 1) _ ⟨by repeat' (first | exact trivial | refine ⟨.inr rfl, ?_⟩), ⟨rfl, rfl, rfl, rfl, congrArg (fun g => some (AObj.arr 157 (i + 1) 3 g)) hsu, trivial⟩, rfl, rfl⟩ (by omega) (by omega))
        | (exfalso; omega)
        | trace_state
    · have e : i = s.pts.length := by omega
      subst e
      have hi' : ¬ ((s.pts.length : Nat) : Int) < s.pts.length := by omega
      rw [ppT_all] at tkl
      have hiff : lbOk s ks ↔ baseOk ks (s.pts.map toPP) := ⟨fun h => h.2, fun h => ⟨hv, h⟩⟩
      unfold lO_impl_LapBaseX_0; simp (config := { maxSteps := 2000000 }) only [bitvec_to_nat, reduceIte, Nat.reduceEqDiff, Nat.reduceAdd, Nat.reduceLeDiff, reduceCtorEq, Nat.reduceBEq, Nat.reduceLT, Nat.reduceMod, List.forall_mem_cons, retG_ret, retQ_eq, retQ_eqN, retOk, keepB, re_tupl, orr_t, t_iSkyValid, t_iBaseOk, tk_map, dp_map, toNat_pred, appE, rowsOf, List.take_length, List.length_cons, List.length_nil, Nat.zero_add, srow, irow, un_s, un_i, Zone.row, Zone_eta, un_Zone, Word.row, Word_eta, Own.row, Own_eta, Part.row, Part_eta, Seen.row, Seen_eta, Book.row, Book_eta, Sector.row, Sector_eta, HCraft.row, HCraft_eta, World.row, World_eta, Pt.row, Pt_eta, Aw.row, Aw_eta, Blk.row, Blk_eta, Sec.row, Sec_eta, Rw.row, Rw_eta, Sky.row, Sky_eta, Place.row, Place_eta, Pass.row, Pass_eta, PKind.row, PKind_eta, PPt.row, PPt_eta, un_Word, un_Own, un_Part, un_Seen, un_Book, un_Sector, un_HCraft, un_World, un_Pt, un_Aw, un_Blk, un_Sec, un_Rw, un_Sky, un_Place, un_Pass, un_PKind, un_PPt, Nat.sub_zero, Sky.row, ghost, List.nil_append, tkl, tkk, getD_rows, hi', ppT_all, un_PKind, un_PPt]
      exact ⟨⟨⟨hk, by omega⟩, hkn, hpn⟩, fun h => absurd (hiff.2 h) hok⟩
  
end
end Go.Ve

namespace Go.Ve
noncomputable section
open Go.Proofs
set_option linter.unusedSimpArgs false
set_option linter.unusedVariables false
set_option maxRecDepth 100000
def PKind.fitp (s : PKind) : Prop := s.nm.toList.length ≤ 9223372036854775807
def PKind.sz (s : PKind) (z0 : Int) : Int := chk (z0 - (s.nm.toList.length : Nat)) (fun z1 => z1)
theorem meas_PKind : Meas PKind.sz := fun s => chk_sub _ (measP_id)
theorem c_szPKind (s : PKind) (a : Int) (ha : 0 ≤ a ∧ a ≤ 1048576) (hs : s.fitp) : Contract P 109 [.agg s.row, .int .i64 a] [] (.int .i64 (s.sz a)) [] := by
  unfold PKind.fitp at hs
  simp only [PKind.row]
  refine fn_sound (Env.nil P) hm k_laws_szPlanKind (Nat.le_of_ble_eq_true rfl) rfl ?_; unfold s_laws_szPlanKind; simp (config := { maxSteps := 2000000 }) only [bitvec_to_nat, reduceIte, Nat.reduceEqDiff, Nat.reduceAdd, Nat.reduceLeDiff, reduceCtorEq, Nat.reduceBEq, Nat.reduceLT, Nat.reduceMod, List.forall_mem_cons, tk_map, dp_map, toNat_pred, appE, rowsOf, List.take_length, List.length_cons, List.length_nil, Nat.zero_add, srow, irow, un_s, un_i, Zone.row, Zone_eta, un_Zone, Word.row, Word_eta, Own.row, Own_eta, Part.row, Part_eta, Seen.row, Seen_eta, Book.row, Book_eta, Sector.row, Sector_eta, HCraft.row, HCraft_eta, World.row, World_eta, Pt.row, Pt_eta, Aw.row, Aw_eta, Blk.row, Blk_eta, Sec.row, Sec_eta, Rw.row, Rw_eta, Sky.row, Sky_eta, Place.row, Place_eta, Pass.row, Pass_eta, PKind.row, PKind_eta, PPt.row, PPt_eta, un_Word, un_Own, un_Part, un_Seen, un_Book, un_Sector, un_HCraft, un_World, un_Pt, un_Aw, un_Blk, un_Sec, un_Rw, un_Sky, un_Place, un_Pass, un_PKind, un_PPt]
  unfold PKind.sz
  repeat' (first | with_reducible apply And.intro | with_reducible intro _)
  all_goals first | omega | (exact hs) | (exact hs.1) | (exact hs.2.1) | (exact hs.2.2) | (exact hs.2.2.1) | (exact hs.2.2.2) | (exact hs.2.2.2.1) | (exact hs.2.2.2.2) | (exact hs.1.1) | (exact hs.1.2) | (exact hs.2.1.1) | (exact hs.2.1.2) | (unfold chk; grind) | grind
def t_szPKind : List AV → Option (Prop × AV)
  | [.agg [.str s_nm, .int .i64 s_q, .int .i64 s_sl], .int .i64 b] => some ((True) ∧ ((0 ≤ b ∧ b ≤ 1048576) ∧ (PKind.fitp (PKind.mk s_nm s_q s_sl))), .int .i64 (PKind.sz (PKind.mk s_nm s_q s_sl) b))
  | _ => none
theorem h_szPKind : ∀ args p v, t_szPKind args = some (p, v) → p → Contract P 109 args [] v [] ∧ noref v = true ∧ No99 v := by
  intro args p v h1 h2
  unfold t_szPKind at h1
  split at h1
  · rename_i s_nm s_q s_sl b
    cases h1
    obtain ⟨_, HP⟩ := h2
    have := c_szPKind (PKind.mk s_nm s_q s_sl) b HP.1 HP.2
    exact ⟨by simpa only [PKind.row] using this, rfl, trivial⟩
  · cases h1
theorem c_szPKindS (t : Nat) (l : List PKind) (a : Int) (ha : 0 ≤ a ∧ a ≤ 1048576) (hl : l.length ≤ 9223372036854775807 ∧ ∀ y ∈ l, y.fitp) : Contract P 51 [.sl t 3 (l.map PKind.row), .int .i64 a] [] (.int .i64 (szS PKind.sz l a)) [] := by
  refine fn_sound ((Env.nil P).add 109 t_szPKind h_szPKind) hm k_laws_szPlanKindS (Nat.le_of_ble_eq_true rfl) rfl ?_; unfold s_laws_szPlanKindS; simp (config := { maxSteps := 2000000 }) only [bitvec_to_nat, reduceIte, Nat.reduceEqDiff, Nat.reduceAdd, Nat.reduceLeDiff, reduceCtorEq, Nat.reduceBEq, Nat.reduceLT, Nat.reduceMod, List.forall_mem_cons, t_szPKind, tk_map, dp_map, toNat_pred, appE, rowsOf, List.take_length, List.length_cons, List.length_nil, Nat.zero_add, srow, irow, un_s, un_i, Zone.row, Zone_eta, un_Zone, Word.row, Word_eta, Own.row, Own_eta, Part.row, Part_eta, Seen.row, Seen_eta, Book.row, Book_eta, Sector.row, Sector_eta, HCraft.row, HCraft_eta, World.row, World_eta, Pt.row, Pt_eta, Aw.row, Aw_eta, Blk.row, Blk_eta, Sec.row, Sec_eta, Rw.row, Rw_eta, Sky.row, Sky_eta, Place.row, Place_eta, Pass.row, Pass_eta, PKind.row, PKind_eta, PPt.row, PPt_eta, un_Word, un_Own, un_Part, un_Seen, un_Book, un_Sector, un_HCraft, un_World, un_Pt, un_Aw, un_Blk, un_Sec, un_Rw, un_Sky, un_Place, un_Pass, un_PKind, un_PPt, List.take_zero, List.foldl_nil]
  have hz : szOf a l.length = if a - l.length < 0 then -1 else a - l.length := rfl
  refine ⟨by omega, fun h1 => ?_, fun h1 => ?_⟩
  · unfold szS
    rw [(fold_meas meas_PKind l _ (by omega) (by omega)).2.1 (by omega)]
  have e0 : szOf a l.length = a - l.length := if_neg h1
  refine loop_st (fun i : Nat => [(1, .int .i64 ((l.take i).foldl (fun a x => x.sz a) (a - l.length))), (5, .int .i64 i)]) (fun _ => []) (fun i => i ≤ l.length ∧ 0 ≤ (l.take i).foldl (fun a x => x.sz a) (a - l.length)) (fun i => l.length - i) (0) (by simp only [u_E0, u_E1, u_M0, u_M1, w_setE0, w_setE1, w_setM0, w_setM1, reduceIte, Nat.reduceEqDiff]; exact ⟨by repeat' (first | exact trivial | refine ⟨.inr rfl, ?_⟩), by repeat' (first | exact trivial | refine ⟨rfl, ?_⟩), by first | rfl | simp [closedB, refsIn, refsInL, refsInO, dom, refsInL_nr, *], by first | rfl | simp [keepB, dom]⟩) ?_ ?_
  · simp only [List.take_zero, List.foldl_nil]; omega
  intro i hi NX hN
  have hm := (fold_meas meas_PKind (l.take i) (a - l.length) (by omega) (by omega)).2.2
  have hg : i < l.length → (l.getD i default).fitp := fun h => hl.2 _ (getD_mem' h)
  have hn : i < l.length → (l.take (i + 1)).foldl (fun a x => x.sz a) (a - l.length) = (l.getD i default).sz ((l.take i).foldl (fun a x => x.sz a) (a - l.length)) := fun h => fold_take (f := PKind.sz) h
  have hs : i < l.length → (l.getD i default).sz ((l.take i).foldl (fun a x => x.sz a) (a - l.length)) < 0 → szS PKind.sz l a = -1 := fun h h2 => by unfold szS; rw [e0]; exact fold_stop meas_PKind h (by omega) (by omega) h2
  unfold l_laws_szPlanKindS_0; simp (config := { maxSteps := 2000000 }) only [bitvec_to_nat, reduceIte, Nat.reduceEqDiff, Nat.reduceAdd, Nat.reduceLeDiff, reduceCtorEq, Nat.reduceBEq, Nat.reduceLT, Nat.reduceMod, List.forall_mem_cons, t_szPKind, tk_map, dp_map, toNat_pred, appE, rowsOf, List.take_length, List.length_cons, List.length_nil, Nat.zero_add, srow, irow, un_s, un_i, Zone.row, Zone_eta, un_Zone, Word.row, Word_eta, Own.row, Own_eta, Part.row, Part_eta, Seen.row, Seen_eta, Book.row, Book_eta, Sector.row, Sector_eta, HCraft.row, HCraft_eta, World.row, World_eta, Pt.row, Pt_eta, Aw.row, Aw_eta, Blk.row, Blk_eta, Sec.row, Sec_eta, Rw.row, Rw_eta, Sky.row, Sky_eta, Place.row, Place_eta, Pass.row, Pass_eta, PKind.row, PKind_eta, PPt.row, PPt_eta, un_Word, un_Own, un_Part, un_Seen, un_Book, un_Sector, un_HCraft, un_World, un_Pt, un_Aw, un_Blk, un_Sec, un_Rw, un_Sky, un_Place, un_Pass, un_PKind, un_PPt, List.take_zero, List.foldl_nil]
  refine ⟨fun h2 => ⟨by omega, by omega, ⟨⟨by omega, by omega⟩, hg (by omega)⟩, fun h3 => by rw [hs (by omega) h3], fun h3 => ⟨by omega, ?_⟩⟩, fun h2 => ?_⟩
  · have e := hn (by omega)
    refine hN (i + 1) _ (by simp only [e, List.length_append, List.length_cons, List.length_nil, Nat.zero_add, List.map_append, List.map_cons, List.map_nil, u_E0, u_E1, u_M0, u_M1, w_setE0, w_setE1, w_setM0, w_setM1, reduceIte, Nat.reduceEqDiff]; exact ⟨by repeat' (first | exact trivial | refine ⟨.inr rfl, ?_⟩), by repeat' (first | exact trivial | refine ⟨rfl, ?_⟩), by first | rfl | simp [closedB, refsIn, refsInL, refsInO, dom, refsInL_nr, *], by first | rfl | simp [keepB, dom]⟩) ?_ ?_
    · exact ⟨by omega, by rw [e]; omega⟩
    · omega
  · have e : i = l.length := by omega
    subst e
    simp only [List.take_length]; unfold szS; rw [e0]
def t_szPKindS : List AV → Option (Prop × AV)
  | [.sl lt 3 lx, .int .i64 b] => some ((((lx.map unPKind).map PKind.row = lx)) ∧ ((0 ≤ b ∧ b ≤ 1048576) ∧ ((lx.map unPKind).length ≤ 9223372036854775807 ∧ ∀ y ∈ (lx.map unPKind), PKind.fitp y)), .int .i64 (szS PKind.sz (lx.map unPKind) b))
  | _ => none
theorem h_szPKindS : ∀ args p v, t_szPKindS args = some (p, v) → p → Contract P 51 args [] v [] ∧ noref v = true ∧ No99 v := by
  intro args p v h1 h2
  unfold t_szPKindS at h1
  split at h1
  · rename_i lt lx b
    cases h1
    obtain ⟨e0, HP⟩ := h2
    have := c_szPKindS lt (lx.map unPKind) b HP.1 HP.2
    exact ⟨by simpa only [e0] using this, rfl, trivial⟩
  · cases h1
theorem c_toPKind (s : PKind) : Contract P 111 [.agg (s.row)] [] (.agg (s.row)) [] := by
  simp only [PKind.row]
  refine fn_sound (Env.nil P) hm k_laws_toPlanKind (Nat.le_of_ble_eq_true rfl) rfl ?_; unfold s_laws_toPlanKind; simp (config := { maxSteps := 2000000 }) only [bitvec_to_nat, reduceIte, Nat.reduceEqDiff, Nat.reduceAdd, Nat.reduceLeDiff, reduceCtorEq, Nat.reduceBEq, Nat.reduceLT, Nat.reduceMod, List.forall_mem_cons, tk_map, dp_map, toNat_pred, appE, rowsOf, List.take_length, List.length_cons, List.length_nil, Nat.zero_add, srow, irow, un_s, un_i, Zone.row, Zone_eta, un_Zone, Word.row, Word_eta, Own.row, Own_eta, Part.row, Part_eta, Seen.row, Seen_eta, Book.row, Book_eta, Sector.row, Sector_eta, HCraft.row, HCraft_eta, World.row, World_eta, Pt.row, Pt_eta, Aw.row, Aw_eta, Blk.row, Blk_eta, Sec.row, Sec_eta, Rw.row, Rw_eta, Sky.row, Sky_eta, Place.row, Place_eta, Pass.row, Pass_eta, PKind.row, PKind_eta, PPt.row, PPt_eta, un_Word, un_Own, un_Part, un_Seen, un_Book, un_Sector, un_HCraft, un_World, un_Pt, un_Aw, un_Blk, un_Sec, un_Rw, un_Sky, un_Place, un_Pass, un_PKind, un_PPt]
  all_goals trivial
def t_toPKind : List AV → Option (Prop × AV)
  | [.agg [.str s_nm, .int .i64 s_q, .int .i64 s_sl]] => some ((True) ∧ (True), .agg (PKind.row (PKind.mk s_nm s_q s_sl)))
  | _ => none
theorem h_toPKind : ∀ args p v, t_toPKind args = some (p, v) → p → Contract P 111 args [] v [] ∧ noref v = true ∧ No99 v := by
  intro args p v h1 h2
  unfold t_toPKind at h1
  split at h1
  · rename_i s_nm s_q s_sl
    cases h1
    obtain ⟨_, HP⟩ := h2
    have := c_toPKind (PKind.mk s_nm s_q s_sl)
    exact ⟨by simpa only [PKind.row] using this, rfl, by simp [PKind.row, No99, No99L, no99_box, no99_i, no99_str, no99_Zone, no99_Word, no99_Own, no99_Part, no99_Seen, no99_Book, no99_Sector, no99_HCraft, no99_World, no99_Pt, no99_Aw, no99_Blk, no99_Sec, no99_Rw, no99_Sky, no99_Place, no99_Pass, no99_PKind, no99_PPt, -List.map_map]⟩
  · cases h1
theorem set_PKind {lst : List PKind} {idx : Nat} {vnm : ByteArray} {vq : Int} {vsl : Int} : (lst.map PKind.row).set idx (setSeg ((lst.map PKind.row).getD idx []) 0 [.str vnm, .int .i64 vq, .int .i64 vsl]) = (lst.set idx (PKind.mk vnm vq vsl)).map PKind.row :=
  set_rows (α := PKind) (f := PKind.row) (fun s => (PKind.mk vnm vq vsl)) fun x => by simp [PKind.row, setSeg]
def to_PKind (a : List PKind) (i : Nat) : List PKind := a.take i ++ List.replicate (a.length - i) ⟨⟨#[]⟩, 0, 0⟩
theorem to_PKind_st {a : List PKind} {i : Nat} (h : i < a.length) : (to_PKind a i).set i (a.getD i default) = to_PKind a (i + 1) := by
  refine List.ext_getElem (by simp [to_PKind]; omega) fun j h1 h2 => ?_
  by_cases e : j = i
  · subst e
    simp [to_PKind, List.getElem_append, h]
    intro h9; omega
  · simp only [List.getElem_set_ne (Ne.symm e)]
    simp only [to_PKind, List.getElem_append, List.length_take, List.getElem_take, List.getElem_replicate]
    split <;> split <;> first | rfl | omega
theorem c_toPKindS (t : Nat) (a : List PKind) (ha : a.length ≤ 1048576) : Contract P 53 [.sl t 3 (a.map PKind.row)] [] (.sl 0 3 (a.map PKind.row)) [] := by
  refine fn_sound ((Env.nil P).add 111 t_toPKind h_toPKind) hm k_laws_toPlanKindS (Nat.le_of_ble_eq_true rfl) rfl ?_; unfold s_laws_toPlanKindS; simp (config := { maxSteps := 2000000 }) only [bitvec_to_nat, reduceIte, Nat.reduceEqDiff, Nat.reduceAdd, Nat.reduceLeDiff, reduceCtorEq, Nat.reduceBEq, Nat.reduceLT, Nat.reduceMod, List.forall_mem_cons, t_toPKind, tk_map, dp_map, toNat_pred, appE, rowsOf, List.take_length, List.length_cons, List.length_nil, Nat.zero_add, srow, irow, un_s, un_i, Zone.row, Zone_eta, un_Zone, Word.row, Word_eta, Own.row, Own_eta, Part.row, Part_eta, Seen.row, Seen_eta, Book.row, Book_eta, Sector.row, Sector_eta, HCraft.row, HCraft_eta, World.row, World_eta, Pt.row, Pt_eta, Aw.row, Aw_eta, Blk.row, Blk_eta, Sec.row, Sec_eta, Rw.row, Rw_eta, Sky.row, Sky_eta, Place.row, Place_eta, Pass.row, Pass_eta, PKind.row, PKind_eta, PPt.row, PPt_eta, un_Word, un_Own, un_Part, un_Seen, un_Book, un_Sector, un_HCraft, un_World, un_Pt, un_Aw, un_Blk, un_Sec, un_Rw, un_Sky, un_Place, un_Pass, un_PKind, un_PPt, set_PKind, Nat.sub_zero]
  have m0 : List.replicate a.length [.str ⟨#[]⟩, .int .i64 0, .int .i64 0] = (to_PKind a 0).map PKind.row := by simp [to_PKind, PKind.row]
  refine ⟨by omega, ?_⟩
  refine loop_st (fun i : Nat => [(4, .int .i64 i)]) (fun i => [(107, .arr 159 0 3 ((to_PKind a i).map PKind.row))]) (fun i => i ≤ a.length) (fun i => a.length - i) 0 (by simp only [u_E0, u_E1, u_M0, u_M1, w_setE0, w_setE1, w_setM0, w_setM1, reduceIte, Nat.reduceEqDiff]; exact ⟨by repeat' (first | exact trivial | refine ⟨.inr rfl, ?_⟩), ⟨congrArg (fun g => some (AObj.arr 159 0 3 g)) m0, trivial⟩, rfl, rfl⟩) (Nat.zero_le _) ?_
  intro i hi NX hN
  skip
  unfold l_laws_toPlanKindS_0; simp (config := { maxSteps := 2000000 }) only [bitvec_to_nat, reduceIte, Nat.reduceEqDiff, Nat.reduceAdd, Nat.reduceLeDiff, reduceCtorEq, Nat.reduceBEq, Nat.reduceLT, Nat.reduceMod, List.forall_mem_cons, t_toPKind, tk_map, dp_map, toNat_pred, appE, rowsOf, List.take_length, List.length_cons, List.length_nil, Nat.zero_add, srow, irow, un_s, un_i, Zone.row, Zone_eta, un_Zone, Word.row, Word_eta, Own.row, Own_eta, Part.row, Part_eta, Seen.row, Seen_eta, Book.row, Book_eta, Sector.row, Sector_eta, HCraft.row, HCraft_eta, World.row, World_eta, Pt.row, Pt_eta, Aw.row, Aw_eta, Blk.row, Blk_eta, Sec.row, Sec_eta, Rw.row, Rw_eta, Sky.row, Sky_eta, Place.row, Place_eta, Pass.row, Pass_eta, PKind.row, PKind_eta, PPt.row, PPt_eta, un_Word, un_Own, un_Part, un_Seen, un_Book, un_Sector, un_HCraft, un_World, un_Pt, un_Aw, un_Blk, un_Sec, un_Rw, un_Sky, un_Place, un_Pass, un_PKind, un_PPt, set_PKind, Nat.sub_zero]
  refine ⟨fun h => ?_, fun h => ?_⟩
  · repeat' (first | with_reducible apply And.intro | with_reducible intro _)
    all_goals first
      | omega
      | rfl
      | exact hs2 (by omega)
      | (have e := to_PKind_st (a := a) (i := i) (by omega)
         try simp only [PKind.row] at *
         refine hN (i + 1) _ ⟨by repeat' (first | exact trivial | refine ⟨.inr rfl, ?_⟩), ⟨congrArg (fun g => some (AObj.arr 159 0 3 (List.map PKind.row g))) e, trivial⟩, rfl, rfl⟩ ?_ ?_ <;> omega)
  · have e : i = a.length := by omega
    subst e
    simp only [to_PKind, List.take_length, Nat.sub_self, List.replicate_zero, List.append_nil]
    try rw [List.take_of_length_le (by simp)]
theorem c_toPKindSO (t : Nat) (a : List PKind) (ha : a.length ≤ 1048576) : Contract P 53 [.sl t 3 (a.map PKind.row)] [] (.own 107 0 0 a.length) [(107, .arr 159 0 3 (a.map PKind.row))] := by
  have tkA : List.take a.length (a.map PKind.row) = a.map PKind.row := List.take_of_length_le (by simp)
  refine fn_sound ((Env.nil P).add 111 t_toPKind h_toPKind) hm kO_laws_toPlanKindS (Nat.le_of_ble_eq_true rfl) rfl ?_; unfold sO_laws_toPlanKindS; simp (config := { maxSteps := 2000000 }) only [bitvec_to_nat, reduceIte, Nat.reduceEqDiff, Nat.reduceAdd, Nat.reduceLeDiff, reduceCtorEq, Nat.reduceBEq, Nat.reduceLT, Nat.reduceMod, List.forall_mem_cons, retG_ret, retQ_eq, retQ_eqN, retOk, keepB, re_tupl, orr_t, t_toPKind, tk_map, dp_map, toNat_pred, appE, rowsOf, List.take_length, List.length_cons, List.length_nil, Nat.zero_add, srow, irow, un_s, un_i, Zone.row, Zone_eta, un_Zone, Word.row, Word_eta, Own.row, Own_eta, Part.row, Part_eta, Seen.row, Seen_eta, Book.row, Book_eta, Sector.row, Sector_eta, HCraft.row, HCraft_eta, World.row, World_eta, Pt.row, Pt_eta, Aw.row, Aw_eta, Blk.row, Blk_eta, Sec.row, Sec_eta, Rw.row, Rw_eta, Sky.row, Sky_eta, Place.row, Place_eta, Pass.row, Pass_eta, PKind.row, PKind_eta, PPt.row, PPt_eta, un_Word, un_Own, un_Part, un_Seen, un_Book, un_Sector, un_HCraft, un_World, un_Pt, un_Aw, un_Blk, un_Sec, un_Rw, un_Sky, un_Place, un_Pass, un_PKind, un_PPt, set_PKind, Nat.sub_zero]
  have m0 : List.replicate a.length [.str ⟨#[]⟩, .int .i64 0, .int .i64 0] = (to_PKind a 0).map PKind.row := by simp [to_PKind, PKind.row]
  refine ⟨by omega, ?_⟩
  refine loop_st (fun i : Nat => [(4, .int .i64 i)]) (fun i => [(107, .arr 159 0 3 ((to_PKind a i).map PKind.row))]) (fun i => i ≤ a.length) (fun i => a.length - i) 0 (by simp only [u_E0, u_E1, u_M0, u_M1, w_setE0, w_setE1, w_setM0, w_setM1, reduceIte, Nat.reduceEqDiff]; exact ⟨by repeat' (first | exact trivial | refine ⟨.inr rfl, ?_⟩), ⟨congrArg (fun g => some (AObj.arr 159 0 3 g)) m0, trivial⟩, rfl, rfl⟩) (Nat.zero_le _) ?_
  intro i hi NX hN
  unfold lO_laws_toPlanKindS_0; simp (config := { maxSteps := 2000000 }) only [bitvec_to_nat, reduceIte, Nat.reduceEqDiff, Nat.reduceAdd, Nat.reduceLeDiff, reduceCtorEq, Nat.reduceBEq, Nat.reduceLT, Nat.reduceMod, List.forall_mem_cons, retG_ret, retQ_eq, retQ_eqN, retOk, keepB, re_tupl, orr_t, t_toPKind, tk_map, dp_map, toNat_pred, appE, rowsOf, List.take_length, List.length_cons, List.length_nil, Nat.zero_add, srow, irow, un_s, un_i, Zone.row, Zone_eta, un_Zone, Word.row, Word_eta, Own.row, Own_eta, Part.row, Part_eta, Seen.row, Seen_eta, Book.row, Book_eta, Sector.row, Sector_eta, HCraft.row, HCraft_eta, World.row, World_eta, Pt.row, Pt_eta, Aw.row, Aw_eta, Blk.row, Blk_eta, Sec.row, Sec_eta, Rw.row, Rw_eta, Sky.row, Sky_eta, Place.row, Place_eta, Pass.row, Pass_eta, PKind.row, PKind_eta, PPt.row, PPt_eta, un_Word, un_Own, un_Part, un_Seen, un_Book, un_Sector, un_HCraft, un_World, un_Pt, un_Aw, un_Blk, un_Sec, un_Rw, un_Sky, un_Place, un_Pass, un_PKind, un_PPt, set_PKind, Nat.sub_zero]
  refine ⟨fun h => ?_, fun h => ?_⟩
  · repeat' (first | with_reducible apply And.intro | with_reducible intro _)
    all_goals first
      | omega
      | rfl
      | (have e := to_PKind_st (a := a) (i := i) (by omega)
         try simp only [PKind.row] at *
         refine hN (i + 1) _ ⟨by repeat' (first | exact trivial | refine ⟨.inr rfl, ?_⟩), ⟨congrArg (fun g => some (AObj.arr 159 0 3 (List.map PKind.row g))) e, trivial⟩, rfl, rfl⟩ ?_ ?_ <;> omega)
  · have e : i = a.length := by omega
    subst e
    simp only [to_PKind, List.take_length, Nat.sub_self, List.replicate_zero, List.append_nil]
    exact ⟨trivial, rfl, rfl⟩
theorem c_eqPKind (c d : PKind)  : Contract P 114 [.agg (c.row), .agg (d.row)] [] (.bool (decide (c = d))) [] := by
  obtain ⟨c_nm, c_q, c_sl⟩ := c
  obtain ⟨d_nm, d_q, d_sl⟩ := d
  simp only [PKind.row]
  refine fn_sound (Env.nil P) hm k_laws_eqPlanKind (Nat.le_of_ble_eq_true rfl) rfl ?_; unfold s_laws_eqPlanKind; simp (config := { maxSteps := 2000000 }) only [bitvec_to_nat, reduceIte, Nat.reduceEqDiff, Nat.reduceAdd, Nat.reduceLeDiff, reduceCtorEq, Nat.reduceBEq, Nat.reduceLT, Nat.reduceMod, List.forall_mem_cons, tk_map, dp_map, toNat_pred, appE, rowsOf, List.take_length, List.length_cons, List.length_nil, Nat.zero_add, srow, irow, un_s, un_i, Zone.row, Zone_eta, un_Zone, Word.row, Word_eta, Own.row, Own_eta, Part.row, Part_eta, Seen.row, Seen_eta, Book.row, Book_eta, Sector.row, Sector_eta, HCraft.row, HCraft_eta, World.row, World_eta, Pt.row, Pt_eta, Aw.row, Aw_eta, Blk.row, Blk_eta, Sec.row, Sec_eta, Rw.row, Rw_eta, Sky.row, Sky_eta, Place.row, Place_eta, Pass.row, Pass_eta, PKind.row, PKind_eta, PPt.row, PPt_eta, un_Word, un_Own, un_Part, un_Seen, un_Book, un_Sector, un_HCraft, un_World, un_Pt, un_Aw, un_Blk, un_Sec, un_Rw, un_Sky, un_Place, un_Pass, un_PKind, un_PPt]
  simp only [PKind.mk.injEq]
  repeat' (first | with_reducible apply And.intro | with_reducible intro _)
  all_goals first | omega | (simp_all; done) | grind
def t_eqPKind : List AV → Option (Prop × AV)
  | [.agg [.str c_nm, .int .i64 c_q, .int .i64 c_sl], .agg [.str d_nm, .int .i64 d_q, .int .i64 d_sl]] => some ((True) ∧ (True), .bool (decide ((PKind.mk c_nm c_q c_sl) = (PKind.mk d_nm d_q d_sl))))
  | _ => none
theorem h_eqPKind : ∀ args p v, t_eqPKind args = some (p, v) → p → Contract P 114 args [] v [] ∧ noref v = true ∧ No99 v := by
  intro args p v h1 h2
  unfold t_eqPKind at h1
  split at h1
  · rename_i c_nm c_q c_sl d_nm d_q d_sl
    cases h1
    obtain ⟨_, HP⟩ := h2
    have := c_eqPKind (PKind.mk c_nm c_q c_sl) (PKind.mk d_nm d_q d_sl)
    exact ⟨by simpa only [PKind.row, PKind.row] using this, rfl, trivial⟩
  · cases h1
theorem c_eqPKindS (t t' : Nat) (p q : List PKind) (hp : p.length ≤ 4611686018427387904) : Contract P 56 [.sl t 3 (p.map PKind.row), .sl t' 3 (q.map PKind.row)] [] (.bool (decide (p = q))) [] := by
  refine fn_sound ((Env.nil P).add 114 t_eqPKind h_eqPKind) hm k_laws_eqPlanKindS (Nat.le_of_ble_eq_true rfl) rfl ?_; unfold s_laws_eqPlanKindS; simp (config := { maxSteps := 2000000 }) only [bitvec_to_nat, reduceIte, Nat.reduceEqDiff, Nat.reduceAdd, Nat.reduceLeDiff, reduceCtorEq, Nat.reduceBEq, Nat.reduceLT, Nat.reduceMod, List.forall_mem_cons, t_eqPKind, tk_map, dp_map, toNat_pred, appE, rowsOf, List.take_length, List.length_cons, List.length_nil, Nat.zero_add, srow, irow, un_s, un_i, Zone.row, Zone_eta, un_Zone, Word.row, Word_eta, Own.row, Own_eta, Part.row, Part_eta, Seen.row, Seen_eta, Book.row, Book_eta, Sector.row, Sector_eta, HCraft.row, HCraft_eta, World.row, World_eta, Pt.row, Pt_eta, Aw.row, Aw_eta, Blk.row, Blk_eta, Sec.row, Sec_eta, Rw.row, Rw_eta, Sky.row, Sky_eta, Place.row, Place_eta, Pass.row, Pass_eta, PKind.row, PKind_eta, PPt.row, PPt_eta, un_Word, un_Own, un_Part, un_Seen, un_Book, un_Sector, un_HCraft, un_World, un_Pt, un_Aw, un_Blk, un_Sec, un_Rw, un_Sky, un_Place, un_Pass, un_PKind, un_PPt]
  refine ⟨fun h1 h => h1 (by rw [h]), fun h1 => ?_⟩
  refine loop_st (fun i : Nat => [(5, .int .i64 i)]) (fun _ => []) (fun i => i ≤ p.length ∧ ∀ j, j < i → p.getD j default = q.getD j default) (fun i => p.length - i) (0) (by simp only [u_E0, u_E1, u_M0, u_M1, w_setE0, w_setE1, w_setM0, w_setM1, reduceIte, Nat.reduceEqDiff]; exact ⟨by repeat' (first | exact trivial | refine ⟨.inr rfl, ?_⟩), by repeat' (first | exact trivial | refine ⟨rfl, ?_⟩), by first | rfl | simp [closedB, refsIn, refsInL, refsInO, dom, refsInL_nr, *], by first | rfl | simp [keepB, dom]⟩) ?_ ?_
  · exact ⟨Nat.zero_le _, by intro j hj; omega⟩
  intro i hi NX hN
  unfold l_laws_eqPlanKindS_0; simp (config := { maxSteps := 2000000 }) only [bitvec_to_nat, reduceIte, Nat.reduceEqDiff, Nat.reduceAdd, Nat.reduceLeDiff, reduceCtorEq, Nat.reduceBEq, Nat.reduceLT, Nat.reduceMod, List.forall_mem_cons, t_eqPKind, tk_map, dp_map, toNat_pred, appE, rowsOf, List.take_length, List.length_cons, List.length_nil, Nat.zero_add, srow, irow, un_s, un_i, Zone.row, Zone_eta, un_Zone, Word.row, Word_eta, Own.row, Own_eta, Part.row, Part_eta, Seen.row, Seen_eta, Book.row, Book_eta, Sector.row, Sector_eta, HCraft.row, HCraft_eta, World.row, World_eta, Pt.row, Pt_eta, Aw.row, Aw_eta, Blk.row, Blk_eta, Sec.row, Sec_eta, Rw.row, Rw_eta, Sky.row, Sky_eta, Place.row, Place_eta, Pass.row, Pass_eta, PKind.row, PKind_eta, PPt.row, PPt_eta, un_Word, un_Own, un_Part, un_Seen, un_Book, un_Sector, un_HCraft, un_World, un_Pt, un_Aw, un_Blk, un_Sec, un_Rw, un_Sky, un_Place, un_Pass, un_PKind, un_PPt]
  skip
  repeat' (first | with_reducible apply And.intro | with_reducible intro _)
  all_goals first
    | omega
    | (refine hN (i + 1) _ (by simp only [u_E0, u_E1, u_M0, u_M1, w_setE0, w_setE1, w_setM0, w_setM1, reduceIte, Nat.reduceEqDiff]; exact ⟨by repeat' (first | exact trivial | refine ⟨.inr rfl, ?_⟩), by repeat' (first | exact trivial | refine ⟨rfl, ?_⟩), by first | rfl | simp [closedB, refsIn, refsInL, refsInO, dom, refsInL_nr, *], by first | rfl | simp [keepB, dom]⟩) ?_ ?_
       · exact ⟨by omega, all_snoc hi.2 (by with_reducible assumption)⟩
       · omega)
    | (intro h; subst h; exact absurd rfl (by with_reducible assumption))
    | (exact ext_of (by omega) fun j hj => hi.2 j (by omega))
    | grind
def t_eqPKindS : List AV → Option (Prop × AV)
  | [.sl ct 3 cx, .sl dt 3 dx] => some ((((cx.map unPKind).map PKind.row = cx) ∧ ((dx.map unPKind).map PKind.row = dx)) ∧ ((cx.map unPKind).length ≤ 4611686018427387904), .bool (decide ((cx.map unPKind) = (dx.map unPKind))))
  | _ => none
theorem h_eqPKindS : ∀ args p v, t_eqPKindS args = some (p, v) → p → Contract P 56 args [] v [] ∧ noref v = true ∧ No99 v := by
  intro args p v h1 h2
  unfold t_eqPKindS at h1
  split at h1
  · rename_i ct cx dt dx
    cases h1
    obtain ⟨⟨e0, e1⟩, HP⟩ := h2
    have := c_eqPKindS ct dt (cx.map unPKind) (dx.map unPKind) HP
    exact ⟨by simpa only [e0, e1] using this, rfl, trivial⟩
  · cases h1
def mk_PKind (k : Int) : PKind := ⟨mtx (k), k + 1, k + 1 + 1⟩
def ms_PKind (k : Int) (n : Nat) : List PKind := (List.range n).map fun j : Nat => mk_PKind (k + 3 * (j : Int))
theorem ms_PKind_len {k : Int} {n : Nat} : (ms_PKind k n).length = n := by simp [ms_PKind]
theorem ms_PKind_get {k : Int} {n j : Nat} (h : j < n) : (ms_PKind k n).getD j default = mk_PKind (k + 3 * (j : Int)) := by simp [ms_PKind, h]
theorem setm_PKind0 {l : List PKind} {i : Nat} {v : ByteArray} : (l.map PKind.row).set i (setSeg ((l.map PKind.row).getD i []) 0 [.str v]) = (l.set i { l.getD i default with nm := v }).map PKind.row :=
  set_rows (α := PKind) (f := PKind.row) (fun s => { s with nm := v }) fun x => by simp [PKind.row, setSeg]
theorem setm_PKind1 {l : List PKind} {i : Nat} {v : Int} : (l.map PKind.row).set i (setSeg ((l.map PKind.row).getD i []) 1 [.int .i64 v]) = (l.set i { l.getD i default with q := v }).map PKind.row :=
  set_rows (α := PKind) (f := PKind.row) (fun s => { s with q := v }) fun x => by simp [PKind.row, setSeg]
theorem setm_PKind2 {l : List PKind} {i : Nat} {v : Int} : (l.map PKind.row).set i (setSeg ((l.map PKind.row).getD i []) 2 [.int .i64 v]) = (l.set i { l.getD i default with sl := v }).map PKind.row :=
  set_rows (α := PKind) (f := PKind.row) (fun s => { s with sl := v }) fun x => by simp [PKind.row, setSeg]
set_option maxHeartbeats 1000000 in
theorem c_markPKindS (v : Nat) (k : Int) (a : List PKind) (ha : a.length ≤ 1048577) (hk : 0 ≤ k ∧ k ≤ 1125899906842624) : Contract P 57 [.own 3 v 0 a.length, .int .i64 k] [(3, .arr 159 v 3 (a.map PKind.row))] (.int .i64 (k + 3 * a.length)) [(3, .arr 159 v 3 ((ms_PKind k a.length).map PKind.row))] := by
  have hz : ((0 : Nat) : Int) = 0 := rfl
  have gs : True := trivial
  refine fn_sound ((Env.nil P).add 100 t_markText h_markText) hm k_laws_markPlanKindS (Nat.le_of_ble_eq_true rfl) rfl ?_; unfold s_laws_markPlanKindS; simp (config := { maxSteps := 2000000 }) only [bitvec_to_nat, reduceIte, Nat.reduceEqDiff, Nat.reduceAdd, Nat.reduceLeDiff, reduceCtorEq, Nat.reduceBEq, Nat.reduceLT, Nat.reduceMod, List.forall_mem_cons, retG_ret, retQ_eq, retQ_eqN, retOk, keepB, re_tupl, orr_t, t_markText, setm_PKind0, setm_PKind1, setm_PKind2, List.set_set, gs, PKind.row, irow, srow, Int.toNat_natCast, List.length_map, List.length_set, Nat.sub_zero, Nat.zero_add, hz]
  refine loop_st (fun b : Nat × List PKind => [(1, .int .i64 (k + 3 * b.1)), (5, .int .i64 b.1)]) (fun b => [(3, .arr 159 v 3 (b.2.map PKind.row))]) (fun b => b.2.length = a.length ∧ b.1 ≤ a.length ∧ ∀ j, j < b.1 → b.2.getD j default = mk_PKind (k + 3 * (j : Int))) (fun b => a.length - b.1) (0, a) ?_ ⟨rfl, Nat.zero_le _, fun j hj => absurd hj (Nat.not_lt_zero _)⟩ ?_
  · have e0 : k + 3 * ((0 : Nat) : Int) = k := by omega
    simp only [e0]
    simp only [u_E0, u_E1, u_M0, u_M1, w_setE0, w_setE1, w_setM0, w_setM1, reduceIte, Nat.reduceEqDiff]; exact ⟨by repeat' (first | exact trivial | refine ⟨.inr rfl, ?_⟩), by repeat' (first | exact trivial | refine ⟨rfl, ?_⟩), by first | rfl | simp [closedB, refsIn, refsInL, refsInO, dom, refsInL_nr, *], by first | rfl | simp [keepB, dom]⟩
  rintro ⟨i, l⟩ ⟨h1, h2, h3⟩ NX hN
  simp only at h1 h2 h3
  have gs : i < a.length → ∀ x : PKind, (l.set i x).getD i default = x := fun h x => getD_seti' (by omega)
  by_cases hi : i < a.length
  · have gs := gs hi
    have e5 : k + 3 * ((i + 1 : Nat) : Int) = k + 3 * (i : Int) + 1 + 1 + 1 := by omega
    unfold l_laws_markPlanKindS_0; simp (config := { maxSteps := 2000000 }) only [bitvec_to_nat, reduceIte, Nat.reduceEqDiff, Nat.reduceAdd, Nat.reduceLeDiff, reduceCtorEq, Nat.reduceBEq, Nat.reduceLT, Nat.reduceMod, List.forall_mem_cons, retG_ret, retQ_eq, retQ_eqN, retOk, keepB, re_tupl, orr_t, t_markText, setm_PKind0, setm_PKind1, setm_PKind2, List.set_set, gs, PKind.row, irow, srow, Int.toNat_natCast, List.length_map, List.length_set, Nat.sub_zero, Nat.zero_add, hz]
    repeat' (first | with_reducible apply And.intro | with_reducible intro _)
    all_goals first
      | omega
      | (refine hN (i + 1, l.set i (mk_PKind (k + 3 * (i : Int)))) _ (by simp only [e5]; simp only [u_E0, u_E1, u_M0, u_M1, w_setE0, w_setE1, w_setM0, w_setM1, reduceIte, Nat.reduceEqDiff]; exact ⟨by repeat' (first | exact trivial | refine ⟨.inr rfl, ?_⟩), by repeat' (first | exact trivial | refine ⟨rfl, ?_⟩), by first | rfl | simp [closedB, refsIn, refsInL, refsInO, dom, refsInL_nr, *], by first | rfl | simp [keepB, dom]⟩) ⟨by simp only [List.length_set]; exact h1, hi, fun j hj => ?_⟩ (by simp only; omega)
         simp only at hj ⊢
         by_cases e : j = i
         · subst e; exact getD_seti' (by omega)
         · rw [getD_setn' (Ne.symm e)]; exact h3 j (by omega))
      | (exfalso; omega)
  · have hl : l = ms_PKind k a.length := ext_of (by rw [ms_PKind_len]; exact h1) fun j hj => by rw [ms_PKind_get (by omega)]; exact h3 j (by omega)
    have hi' : ¬ (i : Int) < a.length := by omega
    unfold l_laws_markPlanKindS_0; simp (config := { maxSteps := 2000000 }) only [bitvec_to_nat, reduceIte, Nat.reduceEqDiff, Nat.reduceAdd, Nat.reduceLeDiff, reduceCtorEq, Nat.reduceBEq, Nat.reduceLT, Nat.reduceMod, List.forall_mem_cons, retG_ret, retQ_eq, retQ_eqN, retOk, keepB, re_tupl, orr_t, t_markText, setm_PKind0, setm_PKind1, setm_PKind2, List.set_set, gs, PKind.row, irow, srow, Int.toNat_natCast, List.length_map, List.length_set, Nat.sub_zero, Nat.zero_add, hz, hi']
    refine ⟨by omega, ?_⟩
    rw [hl]
set_option maxHeartbeats 1000000 in
theorem c_heldPKindS (t : Nat) (k : Int) (n : Nat) (ha : n ≤ 1048577) (hk : 0 ≤ k ∧ k ≤ 1125899906842624) : Contract P 116 [.sl t 3 ((ms_PKind k n).map PKind.row), .int .i64 k] [] (.int .i64 (k + 3 * n)) [] := by
  have hz : ((0 : Nat) : Int) = 0 := rfl
  refine fn_sound ((Env.nil P).add 100 t_markText h_markText) hm k_laws_heldPlanKindS (Nat.le_of_ble_eq_true rfl) rfl ?_; unfold s_laws_heldPlanKindS; simp (config := { maxSteps := 2000000 }) only [bitvec_to_nat, reduceIte, Nat.reduceEqDiff, Nat.reduceAdd, Nat.reduceLeDiff, reduceCtorEq, Nat.reduceBEq, Nat.reduceLT, Nat.reduceMod, List.forall_mem_cons, t_markText, PKind.row, PKind_eta, irow, srow, Int.toNat_natCast, List.length_map, Nat.sub_zero, Nat.zero_add, hz, eq_self, ms_PKind_len]
  refine loop_st (fun i : Nat => [(1, .int .i64 (k + 3 * i)), (5, .int .i64 i)]) (fun _ => []) (fun i => i ≤ n) (fun i => n - i) 0 ?_ (Nat.zero_le _) ?_
  · have e0 : k + 3 * ((0 : Nat) : Int) = k := by omega
    simp only [e0]
    simp only [u_E0, u_E1, u_M0, u_M1, w_setE0, w_setE1, w_setM0, w_setM1, reduceIte, Nat.reduceEqDiff]; exact ⟨by repeat' (first | exact trivial | refine ⟨.inr rfl, ?_⟩), by repeat' (first | exact trivial | refine ⟨rfl, ?_⟩), by first | rfl | simp [closedB, refsIn, refsInL, refsInO, dom, refsInL_nr, *], by first | rfl | simp [keepB, dom]⟩
  intro i hi NX hN
  have e5 : k + 3 * ((i + 1 : Nat) : Int) = k + 3 * (i : Int) + 1 + 1 + 1 := by omega
  by_cases h : i < n
  · have hg := ms_PKind_get (k := k) h
    have h' : (i : Int) < n := by omega
    unfold l_laws_heldPlanKindS_0; simp (config := { maxSteps := 2000000 }) only [bitvec_to_nat, reduceIte, Nat.reduceEqDiff, Nat.reduceAdd, Nat.reduceLeDiff, reduceCtorEq, Nat.reduceBEq, Nat.reduceLT, Nat.reduceMod, List.forall_mem_cons, t_markText, PKind.row, PKind_eta, irow, srow, Int.toNat_natCast, List.length_map, Nat.sub_zero, Nat.zero_add, hz, eq_self, ms_PKind_len, h', hg, mk_PKind, not_true_eq_false, ne_eq, bne_self_eq_false]
    repeat' (first | with_reducible apply And.intro | with_reducible intro _)
    all_goals first
      | omega
      | rfl
      | (rename_i h; exact absurd rfl h)
      | (refine hN (i + 1) _ (by simp only [e5]; simp only [u_E0, u_E1, u_M0, u_M1, w_setE0, w_setE1, w_setM0, w_setM1, reduceIte, Nat.reduceEqDiff]; exact ⟨by repeat' (first | exact trivial | refine ⟨.inr rfl, ?_⟩), by repeat' (first | exact trivial | refine ⟨rfl, ?_⟩), by first | rfl | simp [closedB, refsIn, refsInL, refsInO, dom, refsInL_nr, *], by first | rfl | simp [keepB, dom]⟩) ?_ ?_ <;> omega)
  · have h' : ¬ (i : Int) < n := by omega
    unfold l_laws_heldPlanKindS_0; simp (config := { maxSteps := 2000000 }) only [bitvec_to_nat, reduceIte, Nat.reduceEqDiff, Nat.reduceAdd, Nat.reduceLeDiff, reduceCtorEq, Nat.reduceBEq, Nat.reduceLT, Nat.reduceMod, List.forall_mem_cons, t_markText, PKind.row, PKind_eta, irow, srow, Int.toNat_natCast, List.length_map, Nat.sub_zero, Nat.zero_add, hz, eq_self, ms_PKind_len, h']
    omega
theorem c_markNPKindS (t : Nat) (k : Int) : Contract P 57 [.sl t 3 [], .int .i64 k] [] (.int .i64 k) [] := by
  refine fn_sound ((Env.nil P).add 100 t_markText h_markText) hm k_laws_markPlanKindS (Nat.le_of_ble_eq_true rfl) rfl ?_; unfold s_laws_markPlanKindS; simp (config := { maxSteps := 2000000 }) only [bitvec_to_nat, reduceIte, Nat.reduceEqDiff, Nat.reduceAdd, Nat.reduceLeDiff, reduceCtorEq, Nat.reduceBEq, Nat.reduceLT, Nat.reduceMod, List.forall_mem_cons, t_markText, List.map_nil, List.length_nil]
  refine loop_st (fun _ : Nat => [(5, .int .i64 0)]) (fun _ => []) (fun _ => True) (fun i => i) 0 (by simp only [u_E0, u_E1, u_M0, u_M1, w_setE0, w_setE1, w_setM0, w_setM1, reduceIte, Nat.reduceEqDiff]; exact ⟨by repeat' (first | exact trivial | refine ⟨.inr rfl, ?_⟩), by repeat' (first | exact trivial | refine ⟨rfl, ?_⟩), by first | rfl | simp [closedB, refsIn, refsInL, refsInO, dom, refsInL_nr, *], by first | rfl | simp [keepB, dom]⟩) trivial ?_
  intro i _ NX hN
  unfold l_laws_markPlanKindS_0; simp (config := { maxSteps := 2000000 }) only [bitvec_to_nat, reduceIte, Nat.reduceEqDiff, Nat.reduceAdd, Nat.reduceLeDiff, reduceCtorEq, Nat.reduceBEq, Nat.reduceLT, Nat.reduceMod, List.forall_mem_cons, t_markText, List.map_nil, List.length_nil]
  first
    | exact fun h => absurd h (by omega)
    | exact ⟨fun h => absurd h (by omega), fun _ => by first | trivial | rfl⟩
theorem c_eqPPt (c d : PPt)  : Contract P 156 [.agg (c.row), .agg (d.row)] [] (.bool (decide (c = d))) [] := by
  obtain ⟨c_nm, c_x, c_y⟩ := c
  obtain ⟨d_nm, d_x, d_y⟩ := d
  simp only [PPt.row]
  refine fn_sound (Env.nil P) hm k_laws_eqPlanPoint (Nat.le_of_ble_eq_true rfl) rfl ?_; unfold s_laws_eqPlanPoint; simp (config := { maxSteps := 2000000 }) only [bitvec_to_nat, reduceIte, Nat.reduceEqDiff, Nat.reduceAdd, Nat.reduceLeDiff, reduceCtorEq, Nat.reduceBEq, Nat.reduceLT, Nat.reduceMod, List.forall_mem_cons, tk_map, dp_map, toNat_pred, appE, rowsOf, List.take_length, List.length_cons, List.length_nil, Nat.zero_add, srow, irow, un_s, un_i, Zone.row, Zone_eta, un_Zone, Word.row, Word_eta, Own.row, Own_eta, Part.row, Part_eta, Seen.row, Seen_eta, Book.row, Book_eta, Sector.row, Sector_eta, HCraft.row, HCraft_eta, World.row, World_eta, Pt.row, Pt_eta, Aw.row, Aw_eta, Blk.row, Blk_eta, Sec.row, Sec_eta, Rw.row, Rw_eta, Sky.row, Sky_eta, Place.row, Place_eta, Pass.row, Pass_eta, PKind.row, PKind_eta, PPt.row, PPt_eta, un_Word, un_Own, un_Part, un_Seen, un_Book, un_Sector, un_HCraft, un_World, un_Pt, un_Aw, un_Blk, un_Sec, un_Rw, un_Sky, un_Place, un_Pass, un_PKind, un_PPt]
  simp only [PPt.mk.injEq]
  repeat' (first | with_reducible apply And.intro | with_reducible intro _)
  all_goals first | omega | (simp_all; done) | grind
def t_eqPPt : List AV → Option (Prop × AV)
  | [.agg [.str c_nm, .int .i64 c_x, .int .i64 c_y], .agg [.str d_nm, .int .i64 d_x, .int .i64 d_y]] => some ((True) ∧ (True), .bool (decide ((PPt.mk c_nm c_x c_y) = (PPt.mk d_nm d_x d_y))))
  | _ => none
theorem h_eqPPt : ∀ args p v, t_eqPPt args = some (p, v) → p → Contract P 156 args [] v [] ∧ noref v = true ∧ No99 v := by
  intro args p v h1 h2
  unfold t_eqPPt at h1
  split at h1
  · rename_i c_nm c_x c_y d_nm d_x d_y
    cases h1
    obtain ⟨_, HP⟩ := h2
    have := c_eqPPt (PPt.mk c_nm c_x c_y) (PPt.mk d_nm d_x d_y)
    exact ⟨by simpa only [PPt.row, PPt.row] using this, rfl, trivial⟩
  · cases h1
theorem c_eqPPtS (t t' : Nat) (p q : List PPt) (hp : p.length ≤ 4611686018427387904) : Contract P 113 [.sl t 3 (p.map PPt.row), .sl t' 3 (q.map PPt.row)] [] (.bool (decide (p = q))) [] := by
  refine fn_sound ((Env.nil P).add 156 t_eqPPt h_eqPPt) hm k_laws_eqPlanPointS (Nat.le_of_ble_eq_true rfl) rfl ?_; unfold s_laws_eqPlanPointS; simp (config := { maxSteps := 2000000 }) only [bitvec_to_nat, reduceIte, Nat.reduceEqDiff, Nat.reduceAdd, Nat.reduceLeDiff, reduceCtorEq, Nat.reduceBEq, Nat.reduceLT, Nat.reduceMod, List.forall_mem_cons, t_eqPPt, tk_map, dp_map, toNat_pred, appE, rowsOf, List.take_length, List.length_cons, List.length_nil, Nat.zero_add, srow, irow, un_s, un_i, Zone.row, Zone_eta, un_Zone, Word.row, Word_eta, Own.row, Own_eta, Part.row, Part_eta, Seen.row, Seen_eta, Book.row, Book_eta, Sector.row, Sector_eta, HCraft.row, HCraft_eta, World.row, World_eta, Pt.row, Pt_eta, Aw.row, Aw_eta, Blk.row, Blk_eta, Sec.row, Sec_eta, Rw.row, Rw_eta, Sky.row, Sky_eta, Place.row, Place_eta, Pass.row, Pass_eta, PKind.row, PKind_eta, PPt.row, PPt_eta, un_Word, un_Own, un_Part, un_Seen, un_Book, un_Sector, un_HCraft, un_World, un_Pt, un_Aw, un_Blk, un_Sec, un_Rw, un_Sky, un_Place, un_Pass, un_PKind, un_PPt]
  refine ⟨fun h1 h => h1 (by rw [h]), fun h1 => ?_⟩
  refine loop_st (fun i : Nat => [(5, .int .i64 i)]) (fun _ => []) (fun i => i ≤ p.length ∧ ∀ j, j < i → p.getD j default = q.getD j default) (fun i => p.length - i) (0) (by simp only [u_E0, u_E1, u_M0, u_M1, w_setE0, w_setE1, w_setM0, w_setM1, reduceIte, Nat.reduceEqDiff]; exact ⟨by repeat' (first | exact trivial | refine ⟨.inr rfl, ?_⟩), by repeat' (first | exact trivial | refine ⟨rfl, ?_⟩), by first | rfl | simp [closedB, refsIn, refsInL, refsInO, dom, refsInL_nr, *], by first | rfl | simp [keepB, dom]⟩) ?_ ?_
  · exact ⟨Nat.zero_le _, by intro j hj; omega⟩
  intro i hi NX hN
  unfold l_laws_eqPlanPointS_0; simp (config := { maxSteps := 2000000 }) only [bitvec_to_nat, reduceIte, Nat.reduceEqDiff, Nat.reduceAdd, Nat.reduceLeDiff, reduceCtorEq, Nat.reduceBEq, Nat.reduceLT, Nat.reduceMod, List.forall_mem_cons, t_eqPPt, tk_map, dp_map, toNat_pred, appE, rowsOf, List.take_length, List.length_cons, List.length_nil, Nat.zero_add, srow, irow, un_s, un_i, Zone.row, Zone_eta, un_Zone, Word.row, Word_eta, Own.row, Own_eta, Part.row, Part_eta, Seen.row, Seen_eta, Book.row, Book_eta, Sector.row, Sector_eta, HCraft.row, HCraft_eta, World.row, World_eta, Pt.row, Pt_eta, Aw.row, Aw_eta, Blk.row, Blk_eta, Sec.row, Sec_eta, Rw.row, Rw_eta, Sky.row, Sky_eta, Place.row, Place_eta, Pass.row, Pass_eta, PKind.row, PKind_eta, PPt.row, PPt_eta, un_Word, un_Own, un_Part, un_Seen, un_Book, un_Sector, un_HCraft, un_World, un_Pt, un_Aw, un_Blk, un_Sec, un_Rw, un_Sky, un_Place, un_Pass, un_PKind, un_PPt]
  skip
  repeat' (first | with_reducible apply And.intro | with_reducible intro _)
  all_goals first
    | omega
    | (refine hN (i + 1) _ (by simp only [u_E0, u_E1, u_M0, u_M1, w_setE0, w_setE1, w_setM0, w_setM1, reduceIte, Nat.reduceEqDiff]; exact ⟨by repeat' (first | exact trivial | refine ⟨.inr rfl, ?_⟩), by repeat' (first | exact trivial | refine ⟨rfl, ?_⟩), by first | rfl | simp [closedB, refsIn, refsInL, refsInO, dom, refsInL_nr, *], by first | rfl | simp [keepB, dom]⟩) ?_ ?_
       · exact ⟨by omega, all_snoc hi.2 (by with_reducible assumption)⟩
       · omega)
    | (intro h; subst h; exact absurd rfl (by with_reducible assumption))
    | (exact ext_of (by omega) fun j hj => hi.2 j (by omega))
    | grind
def t_eqPPtS : List AV → Option (Prop × AV)
  | [.sl ct 3 cx, .sl dt 3 dx] => some ((((cx.map unPPt).map PPt.row = cx) ∧ ((dx.map unPPt).map PPt.row = dx)) ∧ ((cx.map unPPt).length ≤ 4611686018427387904), .bool (decide ((cx.map unPPt) = (dx.map unPPt))))
  | _ => none
theorem h_eqPPtS : ∀ args p v, t_eqPPtS args = some (p, v) → p → Contract P 113 args [] v [] ∧ noref v = true ∧ No99 v := by
  intro args p v h1 h2
  unfold t_eqPPtS at h1
  split at h1
  · rename_i ct cx dt dx
    cases h1
    obtain ⟨⟨e0, e1⟩, HP⟩ := h2
    have := c_eqPPtS ct dt (cx.map unPPt) (dx.map unPPt) HP
    exact ⟨by simpa only [e0, e1] using this, rfl, trivial⟩
  · cases h1
def mk_PPt (k : Int) : PPt := ⟨mtx (k), k + 1, k + 1 + 1⟩
def ms_PPt (k : Int) (n : Nat) : List PPt := (List.range n).map fun j : Nat => mk_PPt (k + 3 * (j : Int))
theorem ms_PPt_len {k : Int} {n : Nat} : (ms_PPt k n).length = n := by simp [ms_PPt]
theorem ms_PPt_get {k : Int} {n j : Nat} (h : j < n) : (ms_PPt k n).getD j default = mk_PPt (k + 3 * (j : Int)) := by simp [ms_PPt, h]
theorem setm_PPt0 {l : List PPt} {i : Nat} {v : ByteArray} : (l.map PPt.row).set i (setSeg ((l.map PPt.row).getD i []) 0 [.str v]) = (l.set i { l.getD i default with nm := v }).map PPt.row :=
  set_rows (α := PPt) (f := PPt.row) (fun s => { s with nm := v }) fun x => by simp [PPt.row, setSeg]
theorem setm_PPt1 {l : List PPt} {i : Nat} {v : Int} : (l.map PPt.row).set i (setSeg ((l.map PPt.row).getD i []) 1 [.int .i64 v]) = (l.set i { l.getD i default with x := v }).map PPt.row :=
  set_rows (α := PPt) (f := PPt.row) (fun s => { s with x := v }) fun x => by simp [PPt.row, setSeg]
theorem setm_PPt2 {l : List PPt} {i : Nat} {v : Int} : (l.map PPt.row).set i (setSeg ((l.map PPt.row).getD i []) 2 [.int .i64 v]) = (l.set i { l.getD i default with y := v }).map PPt.row :=
  set_rows (α := PPt) (f := PPt.row) (fun s => { s with y := v }) fun x => by simp [PPt.row, setSeg]
set_option maxHeartbeats 1000000 in
theorem c_markPPtS (v : Nat) (k : Int) (a : List PPt) (ha : a.length ≤ 1048577) (hk : 0 ≤ k ∧ k ≤ 1125899906842624) : Contract P 115 [.own 3 v 0 a.length, .int .i64 k] [(3, .arr 157 v 3 (a.map PPt.row))] (.int .i64 (k + 3 * a.length)) [(3, .arr 157 v 3 ((ms_PPt k a.length).map PPt.row))] := by
  have hz : ((0 : Nat) : Int) = 0 := rfl
  have gs : True := trivial
  refine fn_sound ((Env.nil P).add 100 t_markText h_markText) hm k_laws_markPlanPointS (Nat.le_of_ble_eq_true rfl) rfl ?_; unfold s_laws_markPlanPointS; simp (config := { maxSteps := 2000000 }) only [bitvec_to_nat, reduceIte, Nat.reduceEqDiff, Nat.reduceAdd, Nat.reduceLeDiff, reduceCtorEq, Nat.reduceBEq, Nat.reduceLT, Nat.reduceMod, List.forall_mem_cons, retG_ret, retQ_eq, retQ_eqN, retOk, keepB, re_tupl, orr_t, t_markText, setm_PPt0, setm_PPt1, setm_PPt2, List.set_set, gs, PPt.row, irow, srow, Int.toNat_natCast, List.length_map, List.length_set, Nat.sub_zero, Nat.zero_add, hz]
  refine loop_st (fun b : Nat × List PPt => [(1, .int .i64 (k + 3 * b.1)), (5, .int .i64 b.1)]) (fun b => [(3, .arr 157 v 3 (b.2.map PPt.row))]) (fun b => b.2.length = a.length ∧ b.1 ≤ a.length ∧ ∀ j, j < b.1 → b.2.getD j default = mk_PPt (k + 3 * (j : Int))) (fun b => a.length - b.1) (0, a) ?_ ⟨rfl, Nat.zero_le _, fun j hj => absurd hj (Nat.not_lt_zero _)⟩ ?_
  · have e0 : k + 3 * ((0 : Nat) : Int) = k := by omega
    simp only [e0]
    simp only [u_E0, u_E1, u_M0, u_M1, w_setE0, w_setE1, w_setM0, w_setM1, reduceIte, Nat.reduceEqDiff]; exact ⟨by repeat' (first | exact trivial | refine ⟨.inr rfl, ?_⟩), by repeat' (first | exact trivial | refine ⟨rfl, ?_⟩), by first | rfl | simp [closedB, refsIn, refsInL, refsInO, dom, refsInL_nr, *], by first | rfl | simp [keepB, dom]⟩
  rintro ⟨i, l⟩ ⟨h1, h2, h3⟩ NX hN
  simp only at h1 h2 h3
  have gs : i < a.length → ∀ x : PPt, (l.set i x).getD i default = x := fun h x => getD_seti' (by omega)
  by_cases hi : i < a.length
  · have gs := gs hi
    have e5 : k + 3 * ((i + 1 : Nat) : Int) = k + 3 * (i : Int) + 1 + 1 + 1 := by omega
    unfold l_laws_markPlanPointS_0; simp (config := { maxSteps := 2000000 }) only [bitvec_to_nat, reduceIte, Nat.reduceEqDiff, Nat.reduceAdd, Nat.reduceLeDiff, reduceCtorEq, Nat.reduceBEq, Nat.reduceLT, Nat.reduceMod, List.forall_mem_cons, retG_ret, retQ_eq, retQ_eqN, retOk, keepB, re_tupl, orr_t, t_markText, setm_PPt0, setm_PPt1, setm_PPt2, List.set_set, gs, PPt.row, irow, srow, Int.toNat_natCast, List.length_map, List.length_set, Nat.sub_zero, Nat.zero_add, hz]
    repeat' (first | with_reducible apply And.intro | with_reducible intro _)
    all_goals first
      | omega
      | (refine hN (i + 1, l.set i (mk_PPt (k + 3 * (i : Int)))) _ (by simp only [e5]; simp only [u_E0, u_E1, u_M0, u_M1, w_setE0, w_setE1, w_setM0, w_setM1, reduceIte, Nat.reduceEqDiff]; exact ⟨by repeat' (first | exact trivial | refine ⟨.inr rfl, ?_⟩), by repeat' (first | exact trivial | refine ⟨rfl, ?_⟩), by first | rfl | simp [closedB, refsIn, refsInL, refsInO, dom, refsInL_nr, *], by first | rfl | simp [keepB, dom]⟩) ⟨by simp only [List.length_set]; exact h1, hi, fun j hj => ?_⟩ (by simp only; omega)
         simp only at hj ⊢
         by_cases e : j = i
         · subst e; exact getD_seti' (by omega)
         · rw [getD_setn' (Ne.symm e)]; exact h3 j (by omega))
      | (exfalso; omega)
  · have hl : l = ms_PPt k a.length := ext_of (by rw [ms_PPt_len]; exact h1) fun j hj => by rw [ms_PPt_get (by omega)]; exact h3 j (by omega)
    have hi' : ¬ (i : Int) < a.length := by omega
    unfold l_laws_markPlanPointS_0; simp (config := { maxSteps := 2000000 }) only [bitvec_to_nat, reduceIte, Nat.reduceEqDiff, Nat.reduceAdd, Nat.reduceLeDiff, reduceCtorEq, Nat.reduceBEq, Nat.reduceLT, Nat.reduceMod, List.forall_mem_cons, retG_ret, retQ_eq, retQ_eqN, retOk, keepB, re_tupl, orr_t, t_markText, setm_PPt0, setm_PPt1, setm_PPt2, List.set_set, gs, PPt.row, irow, srow, Int.toNat_natCast, List.length_map, List.length_set, Nat.sub_zero, Nat.zero_add, hz, hi']
    refine ⟨by omega, ?_⟩
    rw [hl]
set_option maxHeartbeats 1000000 in
theorem c_heldPPtS (t : Nat) (k : Int) (n : Nat) (ha : n ≤ 1048577) (hk : 0 ≤ k ∧ k ≤ 1125899906842624) : Contract P 117 [.sl t 3 ((ms_PPt k n).map PPt.row), .int .i64 k] [] (.int .i64 (k + 3 * n)) [] := by
  have hz : ((0 : Nat) : Int) = 0 := rfl
  refine fn_sound ((Env.nil P).add 100 t_markText h_markText) hm k_laws_heldPlanPointS (Nat.le_of_ble_eq_true rfl) rfl ?_; unfold s_laws_heldPlanPointS; simp (config := { maxSteps := 2000000 }) only [bitvec_to_nat, reduceIte, Nat.reduceEqDiff, Nat.reduceAdd, Nat.reduceLeDiff, reduceCtorEq, Nat.reduceBEq, Nat.reduceLT, Nat.reduceMod, List.forall_mem_cons, t_markText, PPt.row, PPt_eta, irow, srow, Int.toNat_natCast, List.length_map, Nat.sub_zero, Nat.zero_add, hz, eq_self, ms_PPt_len]
  refine loop_st (fun i : Nat => [(1, .int .i64 (k + 3 * i)), (5, .int .i64 i)]) (fun _ => []) (fun i => i ≤ n) (fun i => n - i) 0 ?_ (Nat.zero_le _) ?_
  · have e0 : k + 3 * ((0 : Nat) : Int) = k := by omega
    simp only [e0]
    simp only [u_E0, u_E1, u_M0, u_M1, w_setE0, w_setE1, w_setM0, w_setM1, reduceIte, Nat.reduceEqDiff]; exact ⟨by repeat' (first | exact trivial | refine ⟨.inr rfl, ?_⟩), by repeat' (first | exact trivial | refine ⟨rfl, ?_⟩), by first | rfl | simp [closedB, refsIn, refsInL, refsInO, dom, refsInL_nr, *], by first | rfl | simp [keepB, dom]⟩
  intro i hi NX hN
  have e5 : k + 3 * ((i + 1 : Nat) : Int) = k + 3 * (i : Int) + 1 + 1 + 1 := by omega
  by_cases h : i < n
  · have hg := ms_PPt_get (k := k) h
    have h' : (i : Int) < n := by omega
    unfold l_laws_heldPlanPointS_0; simp (config := { maxSteps := 2000000 }) only [bitvec_to_nat, reduceIte, Nat.reduceEqDiff, Nat.reduceAdd, Nat.reduceLeDiff, reduceCtorEq, Nat.reduceBEq, Nat.reduceLT, Nat.reduceMod, List.forall_mem_cons, t_markText, PPt.row, PPt_eta, irow, srow, Int.toNat_natCast, List.length_map, Nat.sub_zero, Nat.zero_add, hz, eq_self, ms_PPt_len, h', hg, mk_PPt, not_true_eq_false, ne_eq, bne_self_eq_false]
    repeat' (first | with_reducible apply And.intro | with_reducible intro _)
    all_goals first
      | omega
      | rfl
      | (rename_i h; exact absurd rfl h)
      | (refine hN (i + 1) _ (by simp only [e5]; simp only [u_E0, u_E1, u_M0, u_M1, w_setE0, w_setE1, w_setM0, w_setM1, reduceIte, Nat.reduceEqDiff]; exact ⟨by repeat' (first | exact trivial | refine ⟨.inr rfl, ?_⟩), by repeat' (first | exact trivial | refine ⟨rfl, ?_⟩), by first | rfl | simp [closedB, refsIn, refsInL, refsInO, dom, refsInL_nr, *], by first | rfl | simp [keepB, dom]⟩) ?_ ?_ <;> omega)
  · have h' : ¬ (i : Int) < n := by omega
    unfold l_laws_heldPlanPointS_0; simp (config := { maxSteps := 2000000 }) only [bitvec_to_nat, reduceIte, Nat.reduceEqDiff, Nat.reduceAdd, Nat.reduceLeDiff, reduceCtorEq, Nat.reduceBEq, Nat.reduceLT, Nat.reduceMod, List.forall_mem_cons, t_markText, PPt.row, PPt_eta, irow, srow, Int.toNat_natCast, List.length_map, Nat.sub_zero, Nat.zero_add, hz, eq_self, ms_PPt_len, h']
    omega
theorem c_markNPPtS (t : Nat) (k : Int) : Contract P 115 [.sl t 3 [], .int .i64 k] [] (.int .i64 k) [] := by
  refine fn_sound ((Env.nil P).add 100 t_markText h_markText) hm k_laws_markPlanPointS (Nat.le_of_ble_eq_true rfl) rfl ?_; unfold s_laws_markPlanPointS; simp (config := { maxSteps := 2000000 }) only [bitvec_to_nat, reduceIte, Nat.reduceEqDiff, Nat.reduceAdd, Nat.reduceLeDiff, reduceCtorEq, Nat.reduceBEq, Nat.reduceLT, Nat.reduceMod, List.forall_mem_cons, t_markText, List.map_nil, List.length_nil]
  refine loop_st (fun _ : Nat => [(5, .int .i64 0)]) (fun _ => []) (fun _ => True) (fun i => i) 0 (by simp only [u_E0, u_E1, u_M0, u_M1, w_setE0, w_setE1, w_setM0, w_setM1, reduceIte, Nat.reduceEqDiff]; exact ⟨by repeat' (first | exact trivial | refine ⟨.inr rfl, ?_⟩), by repeat' (first | exact trivial | refine ⟨rfl, ?_⟩), by first | rfl | simp [closedB, refsIn, refsInL, refsInO, dom, refsInL_nr, *], by first | rfl | simp [keepB, dom]⟩) trivial ?_
  intro i _ NX hN
  unfold l_laws_markPlanPointS_0; simp (config := { maxSteps := 2000000 }) only [bitvec_to_nat, reduceIte, Nat.reduceEqDiff, Nat.reduceAdd, Nat.reduceLeDiff, reduceCtorEq, Nat.reduceBEq, Nat.reduceLT, Nat.reduceMod, List.forall_mem_cons, t_markText, List.map_nil, List.length_nil]
  first
    | exact fun h => absurd h (by omega)
    | exact ⟨fun h => absurd h (by omega), fun _ => by first | trivial | rfl⟩
structure PBase where
  ks : List PKind
  ps : List PPt
  deriving Inhabited, DecidableEq
def PBase.row (t : Nat) (s : PBase) : List AV := [.sl t 3 (s.ks.map PKind.row), .sl t 3 (s.ps.map PPt.row)]
def t_heldPKindS : List AV → Option (Prop × AV)
  | [.sl _ 3 zx, .int .i64 k] => some (zx = (ms_PKind k zx.length).map PKind.row ∧ zx.length ≤ 1048577 ∧ (0 ≤ k ∧ k ≤ 1125899906842624), .int .i64 (k + 3 * (zx.length : Nat)))
  | _ => none
theorem h_heldPKindS : ∀ args p v, t_heldPKindS args = some (p, v) → p → Contract P 116 args [] v [] ∧ noref v = true ∧ No99 v := by
  intro args p v h1 h2
  unfold t_heldPKindS at h1
  split at h1
  · rename_i t zx k
    cases h1
    obtain ⟨e1, h3, h4⟩ := h2
    have := c_heldPKindS t k zx.length h3 h4
    rw [← e1] at this
    exact ⟨this, rfl, trivial⟩
  · cases h1
def t_heldPPtS : List AV → Option (Prop × AV)
  | [.sl _ 3 zx, .int .i64 k] => some (zx = (ms_PPt k zx.length).map PPt.row ∧ zx.length ≤ 1048577 ∧ (0 ≤ k ∧ k ≤ 1125899906842624), .int .i64 (k + 3 * (zx.length : Nat)))
  | _ => none
theorem h_heldPPtS : ∀ args p v, t_heldPPtS args = some (p, v) → p → Contract P 117 args [] v [] ∧ noref v = true ∧ No99 v := by
  intro args p v h1 h2
  unfold t_heldPPtS at h1
  split at h1
  · rename_i t zx k
    cases h1
    obtain ⟨e1, h3, h4⟩ := h2
    have := c_heldPPtS t k zx.length h3 h4
    rw [← e1] at this
    exact ⟨this, rfl, trivial⟩
  · cases h1
end
end Go.Ve

namespace Go.Ve
noncomputable section
open Go.Proofs
set_option linter.unusedSimpArgs false
set_option linter.unusedVariables false
set_option maxRecDepth 100000
open Go.ChangeShapes Go.WideShapes
theorem c_markBase (v w : Nat) (ks : List PKind) (ps : List PPt) (k : Int) (hk : 0 ≤ k ∧ k ≤ 100000000) (h1 : ks.length ≤ 1048577) (h2 : ps.length ≤ 1048577) : Contract P 58 [.agg [.own 3 v 0 ks.length, .own 4 w 0 ps.length], .int .i64 k]
    [(3, .arr 159 v 3 (ks.map PKind.row)), (4, .arr 157 w 3 (ps.map PPt.row))] (.int .i64 (k + 3 * ks.length + 3 * ps.length))
    [(3, .arr 159 v 3 ((ms_PKind k ks.length).map PKind.row)), (4, .arr 157 w 3 ((ms_PPt (k + 3 * ks.length) ps.length).map PPt.row))] := by
  have tkK : True := trivial
  have tkQ : True := trivial
  have m1 := c_markPKindS v k ks h1 (by omega)
  have m2 := (c_markPPtS w (k + 3 * ks.length) ps h2 (by omega)).ren (swp 3 4) (swp_swp _ _)
  simp only [renL, ren, renM, renO, swp, reduceIte, Nat.reduceEqDiff, Nat.reduceLT] at m2
  refine fn_sound (Env.nil P) hm k_laws_markPlanBase (Nat.le_of_ble_eq_true rfl) rfl ?_; unfold s_laws_markPlanBase; simp (config := { maxSteps := 2000000 }) only [bitvec_to_nat, reduceIte, Nat.reduceEqDiff, Nat.reduceAdd, Nat.reduceLeDiff, reduceCtorEq, Nat.reduceBEq, Nat.reduceLT, Nat.reduceMod, List.forall_mem_cons, retG_ret, retQ_eq, retQ_eqN, retOk, keepB, re_tupl, orr_t, List.length_map, Int.toNat_natCast, Nat.zero_add, Nat.sub_zero, tkK, tkQ, ms_PKind_len, ms_PPt_len]
  refine ⟨_, _, .inl ⟨_, m1, by simp [getM], by simp [dom], rfl, rfl, rfl, rfl, rfl⟩, ?_⟩
  simp (config := { maxSteps := 2000000 }) only [bitvec_to_nat, reduceIte, Nat.reduceEqDiff, Nat.reduceAdd, Nat.reduceLeDiff, reduceCtorEq, Nat.reduceBEq, Nat.reduceLT, Nat.reduceMod, List.forall_mem_cons, retG_ret, retQ_eq, retQ_eqN, retOk, keepB, re_tupl, orr_t, List.length_map, Int.toNat_natCast, Nat.zero_add, Nat.sub_zero, tkK, tkQ, ms_PKind_len, ms_PPt_len]
  refine ⟨_, _, .inl ⟨_, m2, by simp [getM], by simp [dom], rfl, rfl, rfl, rfl, rfl⟩, ?_⟩
  simp (config := { maxSteps := 2000000 }) only [bitvec_to_nat, reduceIte, Nat.reduceEqDiff, Nat.reduceAdd, Nat.reduceLeDiff, reduceCtorEq, Nat.reduceBEq, Nat.reduceLT, Nat.reduceMod, List.forall_mem_cons, retG_ret, retQ_eq, retQ_eqN, retOk, keepB, re_tupl, orr_t, List.length_map, Int.toNat_natCast, Nat.zero_add, Nat.sub_zero, tkK, tkQ, ms_PKind_len, ms_PPt_len]
theorem c_markBaseN (k : Int) : Contract P 58 [.agg [.sl 98 3 [], .sl 98 3 []], .int .i64 k] [] (.int .i64 k) [] := by
  have tkK : True := trivial
  have tkQ : True := trivial
  refine fn_sound (Env.nil P) hm k_laws_markPlanBase (Nat.le_of_ble_eq_true rfl) rfl ?_; unfold s_laws_markPlanBase; simp (config := { maxSteps := 2000000 }) only [bitvec_to_nat, reduceIte, Nat.reduceEqDiff, Nat.reduceAdd, Nat.reduceLeDiff, reduceCtorEq, Nat.reduceBEq, Nat.reduceLT, Nat.reduceMod, List.forall_mem_cons, List.length_map, Int.toNat_natCast, Nat.zero_add, Nat.sub_zero, tkK, tkQ, ms_PKind_len, ms_PPt_len]
  refine ⟨_, _, .inr (.inl ⟨rfl, _, rfl, c_markNPKindS 98 k, rfl, trivial⟩), ?_⟩
  simp (config := { maxSteps := 2000000 }) only [bitvec_to_nat, reduceIte, Nat.reduceEqDiff, Nat.reduceAdd, Nat.reduceLeDiff, reduceCtorEq, Nat.reduceBEq, Nat.reduceLT, Nat.reduceMod, List.forall_mem_cons, List.length_map, Int.toNat_natCast, Nat.zero_add, Nat.sub_zero, tkK, tkQ, ms_PKind_len, ms_PPt_len]
  refine ⟨_, _, .inr (.inl ⟨rfl, _, rfl, c_markNPPtS 98 k, rfl, trivial⟩), ?_⟩
  simp (config := { maxSteps := 2000000 }) only [bitvec_to_nat, reduceIte, Nat.reduceEqDiff, Nat.reduceAdd, Nat.reduceLeDiff, reduceCtorEq, Nat.reduceBEq, Nat.reduceLT, Nat.reduceMod, List.forall_mem_cons, List.length_map, Int.toNat_natCast, Nat.zero_add, Nat.sub_zero, tkK, tkQ, ms_PKind_len, ms_PPt_len]
theorem c_heldBase (t t' : Nat) (k : Int) (n m : Nat) (hk : 0 ≤ k ∧ k ≤ 100000000) (h1 : n ≤ 1048577) (h2 : m ≤ 1048577) : Contract P 59 [.agg [.sl t 3 ((ms_PKind k n).map PKind.row), .sl t' 3 ((ms_PPt (k + 3 * n) m).map PPt.row)], .int .i64 k] [] (.int .i64 (k + 3 * n + 3 * m)) [] := by
  have tkK : True := trivial
  have tkQ : True := trivial
  refine fn_sound (((Env.nil P).add 116 t_heldPKindS h_heldPKindS).add 117 t_heldPPtS h_heldPPtS) hm k_laws_heldPlanBase (Nat.le_of_ble_eq_true rfl) rfl ?_; unfold s_laws_heldPlanBase; simp (config := { maxSteps := 2000000 }) only [bitvec_to_nat, reduceIte, Nat.reduceEqDiff, Nat.reduceAdd, Nat.reduceLeDiff, reduceCtorEq, Nat.reduceBEq, Nat.reduceLT, Nat.reduceMod, List.forall_mem_cons, t_heldPKindS, t_heldPPtS, List.length_map, Int.toNat_natCast, Nat.zero_add, Nat.sub_zero, tkK, tkQ, ms_PKind_len, ms_PPt_len]
  repeat' (first | with_reducible apply And.intro | with_reducible intro _)
  all_goals first | omega | rfl | trace_state
def t_heldBase : List AV → Option (Prop × AV)
  | [.agg [.sl _ 3 kx, .sl _ 3 px], .int .i64 k] => some ((kx = (ms_PKind k kx.length).map PKind.row ∧ px = (ms_PPt (k + 3 * (kx.length : Nat)) px.length).map PPt.row) ∧ (0 ≤ k ∧ k ≤ 100000000) ∧ kx.length ≤ 1048577 ∧ px.length ≤ 1048577, .int .i64 (k + 3 * (kx.length : Nat) + 3 * (px.length : Nat)))
  | _ => none
theorem h_heldBase : ∀ args p v, t_heldBase args = some (p, v) → p → Contract P 59 args [] v [] ∧ noref v = true ∧ No99 v := by
  intro args p v h1 h2
  unfold t_heldBase at h1
  split at h1
  · rename_i t kx t' px k
    cases h1
    obtain ⟨⟨e1, e2⟩, h3, h4, h5⟩ := h2
    have := c_heldBase t t' k kx.length px.length h3 h4 h5
    rw [← e1, ← e2] at this
    exact ⟨this, rfl, trivial⟩
  · cases h1
def t_eqBase : List AV → Option (Prop × AV)
  | [.agg [.sl _ 3 kx, .sl _ 3 px], .agg [.sl _ 3 ky, .sl _ 3 py]] => some (((kx.map unPKind).map PKind.row = kx ∧ (px.map unPPt).map PPt.row = px) ∧ (kx = ky ∧ px = py) ∧ (kx.map unPKind).length ≤ 4611686018427387904 ∧ (px.map unPPt).length ≤ 4611686018427387904, .bool true)
  | _ => none
theorem eqBaseT (t t1 t2 t3 : Nat) (ks : List PKind) (ps : List PPt) (h1 : ks.length ≤ 4611686018427387904) (h2 : ps.length ≤ 4611686018427387904) : Contract P 55 [.agg [.sl t 3 (ks.map PKind.row), .sl t1 3 (ps.map PPt.row)], .agg [.sl t2 3 (ks.map PKind.row), .sl t3 3 (ps.map PPt.row)]] [] (.bool true) [] := by
  have tkK : True := trivial
  have tkQ : True := trivial
  refine fn_sound (((Env.nil P).add 56 t_eqPKindS h_eqPKindS).add 113 t_eqPPtS h_eqPPtS) hm k_laws_eqPlanBase (Nat.le_of_ble_eq_true rfl) rfl ?_; unfold s_laws_eqPlanBase; simp (config := { maxSteps := 2000000 }) only [bitvec_to_nat, reduceIte, Nat.reduceEqDiff, Nat.reduceAdd, Nat.reduceLeDiff, reduceCtorEq, Nat.reduceBEq, Nat.reduceLT, Nat.reduceMod, List.forall_mem_cons, t_eqPKindS, t_eqPPtS, List.length_map, Int.toNat_natCast, Nat.zero_add, Nat.sub_zero, tkK, tkQ, ms_PKind_len, ms_PPt_len, un_PKind, un_PPt]
  repeat' (first | with_reducible apply And.intro | with_reducible intro _)
  all_goals first | omega | rfl | trivial | (exfalso; simp_all; done) | trace_state
theorem h_eqBase : ∀ args p v, t_eqBase args = some (p, v) → p → Contract P 55 args [] v [] ∧ noref v = true ∧ No99 v := by
  intro args p v h1 h2
  unfold t_eqBase at h1
  split at h1
  · rename_i t kx t1 px t2 ky t3 py
    cases h1
    obtain ⟨⟨e1, e2⟩, ⟨e3, e4⟩, h3, h4⟩ := h2
    have := eqBaseT t t1 t2 t3 (kx.map unPKind) (px.map unPPt) h3 h4
    rw [e1, e2] at this
    subst e3 e4
    exact ⟨this, rfl, trivial⟩
  · cases h1
end
end Go.Ve

namespace Go.Ve
noncomputable section
open Go.Proofs
set_option linter.unusedSimpArgs false
set_option linter.unusedVariables false
set_option maxRecDepth 100000
open Go.ChangeShapes Go.WideShapes
def t_sLB : List AV → Option (Prop × AV)
  | [.agg [.int .i64 s_w, .int .i64 s_h, .int .i64 s_lv, .sl 0 3 s_pts, .sl 0 2 s_aws, .sl 0 2 s_secs, .sl 0 4 s_rws], .sl pt 3 px] => some ((((s_pts.map unPt).map Pt.row = s_pts) ∧ ((s_aws.map unAw).map (Aw.row 0) = s_aws) ∧ ((s_secs.map unSec).map (Sec.row 0) = s_secs) ∧ ((s_rws.map unRw).map Rw.row = s_rws) ∧ ((px.map unPKind).map PKind.row = px)) ∧ (Sky.small (Sky.mk s_w s_h s_lv (s_pts.map unPt) (s_aws.map unAw) (s_secs.map unSec) (s_rws.map unRw)) ∧ (px.map unPKind).length ≤ 1048576), .agg [.sl 0 3 ((lbK (Sky.mk s_w s_h s_lv (s_pts.map unPt) (s_aws.map unAw) (s_secs.map unSec) (s_rws.map unRw)) (px.map unPKind)).map PKind.row), .sl 0 3 ((lbP (Sky.mk s_w s_h s_lv (s_pts.map unPt) (s_aws.map unAw) (s_secs.map unSec) (s_rws.map unRw)) (px.map unPKind)).map PPt.row)])
  | _ => none
theorem h_sLB : ∀ args p v, t_sLB args = some (p, v) → p → Contract P 52 args [] v [] ∧ noref v = true ∧ No99 v := by
  intro args p v h1 h2
  unfold t_sLB at h1
  split at h1
  · rename_i s_w s_h s_lv s_pts s_aws s_secs s_rws pt px
    cases h1
    obtain ⟨⟨e0, e1, e2, e3, e4⟩, HP⟩ := h2
    have := c_sLB (Sky.mk s_w s_h s_lv (s_pts.map unPt) (s_aws.map unAw) (s_secs.map unSec) (s_rws.map unRw)) pt (px.map unPKind) HP.1 HP.2
    exact ⟨by simpa only [e0, e1, e2, e3, e4, Sky.row] using this, rfl, by simp [No99, No99L, no99_PKind, no99_PPt]⟩
  · cases h1
theorem K0_in2 {s : Sky} {o o2 : Nat} {x y : AObj} {B : List (Nat × AObj)} (ho : o < 611) (h2 : o2 < 611) : ∀ p ∈ K0 s, getM ((o, x) :: (o2, y) :: (K0 s ++ B)) p.1 = some p.2 := K0_in (A := [(o, x), (o2, y)]) (by simpa using ⟨ho, h2⟩)
theorem apK2 {s : Sky} {o o2 : Nat} {x y : AObj} {B : List (Nat × AObj)} (ho : o < 611) (h2 : o2 < 611) : applyU ((o, x) :: (o2, y) :: (K0 s ++ B)) (K0 s) = (o, x) :: (o2, y) :: (K0 s ++ B) := aKeep (K0_in2 ho h2)
theorem apNew2 {s : Sky} {o o2 : Nat} {x y : AObj} (ho : o < 611) (h2 : o2 < 611) : applyU [(o, x), (o2, y)] (K0 s).reverse = (o, x) :: (o2, y) :: (K0 s ++ []) := apNew (A := [(o, x), (o2, y)]) (by simpa using ⟨ho, h2⟩)
theorem apG2 {s : Sky} {o o2 : Nat} {x y : AObj} {B : List (Nat × AObj)} (ho : o < 611) (h2 : o2 < 611) : applyU ((o, x) :: (o2, y) :: (K0 s ++ B)) (gone (K0 s)) = (o, x) :: (o2, y) :: (gone (K0 s) ++ B) := apGone (A := [(o, x), (o2, y)]) (by simpa using ⟨ho, h2⟩)
set_option maxHeartbeats 8000000 in
theorem c_lawBY (s : Sky) (ps : List PKind) (hf : s.fitp) (hpf : ps.length ≤ 9223372036854775807 ∧ ∀ y ∈ ps, y.fitp) (hv : lbOk s ps) : Contract P 11 [.agg (s.row 1), .sl 1 3 (ps.map PKind.row)] [] (.bool true) [] := by
  have tkP : List.take ps.length (ps.map PKind.row) = ps.map PKind.row := List.take_of_length_le (by simp)
  have hlz : lbK s ps = ps := if_pos hv
  have hlv : lbP s ps = s.pts.map toPP := if_pos hv
  have tkZ : List.take s.pts.length ((s.pts.map toPP).map PPt.row) = (s.pts.map toPP).map PPt.row := List.take_of_length_le (by simp)
  have tkM : ∀ k : Int, List.take ps.length ((ms_PKind k ps.length).map PKind.row) = (ms_PKind k ps.length).map PKind.row := fun k => List.take_of_length_le (by rw [List.length_map, ms_PKind_len]; omega)
  have tkM2 : ∀ k : Int, List.take s.pts.length ((ms_PPt k s.pts.length).map PPt.row) = (ms_PPt k s.pts.length).map PPt.row := fun k => List.take_of_length_le (by rw [List.length_map, ms_PPt_len]; omega)
  have tkZ2 : True := trivial
  have z2 : Sky.sz s 1048576 ≤ 1048576 := by have := (meas_Sky s 1048576 (by omega)).2.2; omega
  generalize hn1 : Sky.sz s 1048576 = n1 at *
  have hn2 : True := trivial
  simp only [Sky.row]
  refine fn_sound (((((((Env.nil P).add 12 t_szSky h_szSky).add 51 t_szPKindS h_szPKindS).add 52 t_sLB h_sLB).add 55 t_eqBase h_eqBase).add 56 t_eqPKindS h_eqPKindS).add 59 t_heldBase h_heldBase) hm k_laws_FnExactLapBase (Nat.le_of_ble_eq_true rfl) rfl ?_; unfold s_laws_FnExactLapBase; simp (config := { maxSteps := 2000000 }) only [bitvec_to_nat, reduceIte, Nat.reduceEqDiff, Nat.reduceAdd, Nat.reduceLeDiff, reduceCtorEq, Nat.reduceBEq, Nat.reduceLT, Nat.reduceMod, List.forall_mem_cons, t_szSky, t_szPKindS, t_sLB, t_eqBase, t_eqPKindS, t_heldBase, tk_map, dp_map, toNat_pred, appE, rowsOf, List.take_length, List.length_cons, List.length_nil, Nat.zero_add, srow, irow, un_s, un_i, Zone.row, Zone_eta, un_Zone, Pt.row, Pt_eta, un_Pt, Aw.row, Aw_eta, un_Aw, Blk.row, Blk_eta, un_Blk, Sec.row, Sec_eta, un_Sec, Rw.row, Rw_eta, un_Rw, Sky_eta, Sky.row, PKind.row, PKind_eta, un_PKind, PPt.row, PPt_eta, un_PPt, ms_PKind_len, ms_PPt_len, List.length_map, gSky, gSky', sSky, sSky', gSky0, sSky0, gG, gG', sG, sG', kG, gs1, gs2, gs3, gs4, tkZ, tkM, tkP, tkZ2, tkM2, not_true_eq_false, ne_eq, eq_self, bne_self_eq_false, Int.toNat_natCast, Nat.sub_zero, and_self, hlz, hlv, hn1, hn2, apK2, apNew2, apG2, skyV, List.cons_append, List.nil_append]
  refine ⟨⟨by omega, hf⟩, fun g1 => ⟨⟨by omega, hpf⟩, fun g2 => ?_⟩⟩
  have hs : s.small := Sky.sz_ok (a := 1048576) (by omega) (by omega)
  have hp : ps.length ≤ 1048576 := (szS_ok (p := fun _ => True) meas_PKind (fun _ _ _ _ => trivial) (a := n1) (by omega) (by omega)).1
  have hkn : ∀ x ∈ ps, x.nm.toList.length ≤ 9223372036854775807 := hpf.2
  have hsm := hs
  unfold Sky.small at hsm
  have hT := c_toSky s hs
  have n9T : No99 (.agg (s.row 0)) := by simp [Sky.row, No99, No99L, no99_Pt, no99_Aw, no99_Sec, no99_Rw]
  have hTP := c_toPKindS 1 ps hp
  have n9P : No99 (.sl 0 3 (ps.map PKind.row)) := by simp only [No99]; exact ⟨by omega, no99_PKind ps⟩
  have hTO := toSkyK s hs
  have hPO := (c_toPKindSO 1 ps hp).ren (swp 107 621) (swp_swp _ _)
  have hEq := eqSkyC s hs
  have hMk := markSkyK 1 s hs (by omega)
  have hct1 := ct_Aw_le hs.2.1.2 (Nat.le_refl _)
  have hct2 := ct_Sec_le hs.2.2.1.2 (Nat.le_refl _)
  have hcs : cntSky s ≤ 100000000000000 := by unfold cntSky; omega
  have hMP := (c_markPKindS 0 (1 + cntSky s) ps (by omega) (by omega)).ren (swp 3 621) (swp_swp _ _)
  have tPl : tag0L [.sl 99 3 (ps.map PKind.row)] = [.sl 0 3 (ps.map PKind.row)] := by simp only [tag0L, tag0]; rw [tag_flat (f := PKind.row) fun _ => rfl]
  have nPl : no98L [.sl 99 3 (ps.map PKind.row)] = true := by simp only [no98L, no98]; rw [no98_rows (f := PKind.row) fun _ => rfl]; rfl
  have fPl : ∀ r ∈ ps.map PKind.row, flatOk r = true := fun r hr => by obtain ⟨x, _, rfl⟩ := List.mem_map.1 hr; rfl
  have hI1 := ((c_iLBY s 0 ps hs hf hp hkn hv).ren (swp 113 731) (swp_swp _ _)).ren (swp 132 732) (swp_swp _ _)
  have hI2 := ((c_iLBY s 0 ps hs hf hp hkn hv).ren (swp 113 741) (swp_swp _ _)).ren (swp 132 742) (swp_swp _ _)
  have hZ := ((c_markBase 0 s.pts.length ps (s.pts.map toPP) 1 (by omega) (by omega) (by rw [List.length_map]; omega)).ren (swp 3 731) (swp_swp _ _)).ren (swp 4 732) (swp_swp _ _)
  rw [show renL (swp 132 732) (renL (swp 113 731) [AV.agg (s.row 0), .sl 0 3 (ps.map PKind.row)]) = [.agg (s.row 0), .sl 0 3 (ps.map PKind.row)] from rfl] at hI1
  rw [show renL (swp 132 742) (renL (swp 113 741) [AV.agg (s.row 0), .sl 0 3 (ps.map PKind.row)]) = [.agg (s.row 0), .sl 0 3 (ps.map PKind.row)] from rfl] at hI2
  simp only [renL, ren, renM, renO, swp, reduceIte, Nat.reduceEqDiff, Nat.reduceLT, List.length_map] at hI1 hI2 hZ hPO hMP
  simp only [Sky.row] at hT n9T hTO
  refine ⟨_, _, .inr (.inl ⟨rfl, _, rfl, hT, rfl, n9T⟩), ?_⟩
  simp (config := { maxSteps := 2000000 }) only [bitvec_to_nat, reduceIte, Nat.reduceEqDiff, Nat.reduceAdd, Nat.reduceLeDiff, reduceCtorEq, Nat.reduceBEq, Nat.reduceLT, Nat.reduceMod, List.forall_mem_cons, t_szSky, t_szPKindS, t_sLB, t_eqBase, t_eqPKindS, t_heldBase, tk_map, dp_map, toNat_pred, appE, rowsOf, List.take_length, List.length_cons, List.length_nil, Nat.zero_add, srow, irow, un_s, un_i, Zone.row, Zone_eta, un_Zone, Pt.row, Pt_eta, un_Pt, Aw.row, Aw_eta, un_Aw, Blk.row, Blk_eta, un_Blk, Sec.row, Sec_eta, un_Sec, Rw.row, Rw_eta, un_Rw, Sky_eta, Sky.row, PKind.row, PKind_eta, un_PKind, PPt.row, PPt_eta, un_PPt, ms_PKind_len, ms_PPt_len, List.length_map, gSky, gSky', sSky, sSky', gSky0, sSky0, gG, gG', sG, sG', kG, gs1, gs2, gs3, gs4, tkZ, tkM, tkP, tkZ2, tkM2, not_true_eq_false, ne_eq, eq_self, bne_self_eq_false, Int.toNat_natCast, Nat.sub_zero, and_self, hlz, hlv, hn1, hn2, apK2, apNew2, apG2, skyV, List.cons_append, List.nil_append]
  refine ⟨_, _, .inr (.inl ⟨rfl, _, rfl, hTP, rfl, n9P⟩), ?_⟩
  simp (config := { maxSteps := 2000000 }) only [bitvec_to_nat, reduceIte, Nat.reduceEqDiff, Nat.reduceAdd, Nat.reduceLeDiff, reduceCtorEq, Nat.reduceBEq, Nat.reduceLT, Nat.reduceMod, List.forall_mem_cons, t_szSky, t_szPKindS, t_sLB, t_eqBase, t_eqPKindS, t_heldBase, tk_map, dp_map, toNat_pred, appE, rowsOf, List.take_length, List.length_cons, List.length_nil, Nat.zero_add, srow, irow, un_s, un_i, Zone.row, Zone_eta, un_Zone, Pt.row, Pt_eta, un_Pt, Aw.row, Aw_eta, un_Aw, Blk.row, Blk_eta, un_Blk, Sec.row, Sec_eta, un_Sec, Rw.row, Rw_eta, un_Rw, Sky_eta, Sky.row, PKind.row, PKind_eta, un_PKind, PPt.row, PPt_eta, un_PPt, ms_PKind_len, ms_PPt_len, List.length_map, gSky, gSky', sSky, sSky', gSky0, sSky0, gG, gG', sG, sG', kG, gs1, gs2, gs3, gs4, tkZ, tkM, tkP, tkZ2, tkM2, not_true_eq_false, ne_eq, eq_self, bne_self_eq_false, Int.toNat_natCast, Nat.sub_zero, and_self, hlz, hlv, hn1, hn2, apK2, apNew2, apG2, skyV, List.cons_append, List.nil_append]
  refine ⟨⟨hs, hp⟩, _, _, .inr (.inr (.inl ⟨_, rfl, hTO, K0r_new (by simp), K0r_refV, K0r_refs, by simp [skyV, No99, No99L], K0_99⟩)), ?_⟩
  simp (config := { maxSteps := 2000000 }) only [bitvec_to_nat, reduceIte, Nat.reduceEqDiff, Nat.reduceAdd, Nat.reduceLeDiff, reduceCtorEq, Nat.reduceBEq, Nat.reduceLT, Nat.reduceMod, List.forall_mem_cons, t_szSky, t_szPKindS, t_sLB, t_eqBase, t_eqPKindS, t_heldBase, tk_map, dp_map, toNat_pred, appE, rowsOf, List.take_length, List.length_cons, List.length_nil, Nat.zero_add, srow, irow, un_s, un_i, Zone.row, Zone_eta, un_Zone, Pt.row, Pt_eta, un_Pt, Aw.row, Aw_eta, un_Aw, Blk.row, Blk_eta, un_Blk, Sec.row, Sec_eta, un_Sec, Rw.row, Rw_eta, un_Rw, Sky_eta, Sky.row, PKind.row, PKind_eta, un_PKind, PPt.row, PPt_eta, un_PPt, ms_PKind_len, ms_PPt_len, List.length_map, gSky, gSky', sSky, sSky', gSky0, sSky0, gG, gG', sG, sG', kG, gs1, gs2, gs3, gs4, tkZ, tkM, tkP, tkZ2, tkM2, not_true_eq_false, ne_eq, eq_self, bne_self_eq_false, Int.toNat_natCast, Nat.sub_zero, and_self, hlz, hlv, hn1, hn2, apK2, apNew2, apG2, skyV, List.cons_append, List.nil_append]
  refine ⟨_, _, .inr (.inr (.inl ⟨_, rfl, hPO, by simp only [List.forall_mem_cons, fm0, and_true, w_getM0, w_getM1, gSky, gSky', gG, gG', Nat.reduceLT, Nat.reduceEqDiff, reduceIte], by simp [refsIn, refsInL, dom], rfl, trivial, by simp only [List.forall_mem_cons, fm0, and_true]; exact no99_PKind _⟩)), ?_⟩
  simp (config := { maxSteps := 2000000 }) only [bitvec_to_nat, reduceIte, Nat.reduceEqDiff, Nat.reduceAdd, Nat.reduceLeDiff, reduceCtorEq, Nat.reduceBEq, Nat.reduceLT, Nat.reduceMod, List.forall_mem_cons, t_szSky, t_szPKindS, t_sLB, t_eqBase, t_eqPKindS, t_heldBase, tk_map, dp_map, toNat_pred, appE, rowsOf, List.take_length, List.length_cons, List.length_nil, Nat.zero_add, srow, irow, un_s, un_i, Zone.row, Zone_eta, un_Zone, Pt.row, Pt_eta, un_Pt, Aw.row, Aw_eta, un_Aw, Blk.row, Blk_eta, un_Blk, Sec.row, Sec_eta, un_Sec, Rw.row, Rw_eta, un_Rw, Sky_eta, Sky.row, PKind.row, PKind_eta, un_PKind, PPt.row, PPt_eta, un_PPt, ms_PKind_len, ms_PPt_len, List.length_map, gSky, gSky', sSky, sSky', gSky0, sSky0, gG, gG', sG, sG', kG, gs1, gs2, gs3, gs4, tkZ, tkM, tkP, tkZ2, tkM2, not_true_eq_false, ne_eq, eq_self, bne_self_eq_false, Int.toNat_natCast, Nat.sub_zero, and_self, hlz, hlv, hn1, hn2, apK2, apNew2, apG2, skyV, List.cons_append, List.nil_append]
  refine ⟨_, _, callR_sky (s := s) (a := 611) (b := 613) (c := 614) (d := 612) (kA := 107) (kS := 108) (rest' := [.sl 99 3 (ps.map PKind.row)]) (by rw [tPl]; exact hI1) (K0_in2 (by omega) (by omega)) (K0_self s) (purNL_one (purN_flat (e := 159) (by simp only [List.forall_mem_cons, fm0, and_true, w_getM0, w_getM1, gSky, gSky', gG, gG', Nat.reduceLT, Nat.reduceEqDiff, reduceIte]) fPl (by simp))) nPl rfl (by simp [plainO, PKind.row, PPt.row, plainL, plainV]) (by simp only [List.forall_mem_cons, fm0, and_true, w_getM0, w_getM1, gSky, gSky', gG, gG', Nat.reduceLT, Nat.reduceEqDiff, reduceIte]) (by simp [refsIn, refsInL, dom]) (by simp [refsInO]) (by simp [No99, No99L, No99LL]) (by simp only [List.forall_mem_cons, fm0, and_true]; exact ⟨no99_PKind _, no99_PPt _⟩), ?_⟩
  simp (config := { maxSteps := 2000000 }) only [bitvec_to_nat, reduceIte, Nat.reduceEqDiff, Nat.reduceAdd, Nat.reduceLeDiff, reduceCtorEq, Nat.reduceBEq, Nat.reduceLT, Nat.reduceMod, List.forall_mem_cons, t_szSky, t_szPKindS, t_sLB, t_eqBase, t_eqPKindS, t_heldBase, tk_map, dp_map, toNat_pred, appE, rowsOf, List.take_length, List.length_cons, List.length_nil, Nat.zero_add, srow, irow, un_s, un_i, Zone.row, Zone_eta, un_Zone, Pt.row, Pt_eta, un_Pt, Aw.row, Aw_eta, un_Aw, Blk.row, Blk_eta, un_Blk, Sec.row, Sec_eta, un_Sec, Rw.row, Rw_eta, un_Rw, Sky_eta, Sky.row, PKind.row, PKind_eta, un_PKind, PPt.row, PPt_eta, un_PPt, ms_PKind_len, ms_PPt_len, List.length_map, gSky, gSky', sSky, sSky', gSky0, sSky0, gG, gG', sG, sG', kG, gs1, gs2, gs3, gs4, tkZ, tkM, tkP, tkZ2, tkM2, not_true_eq_false, ne_eq, eq_self, bne_self_eq_false, Int.toNat_natCast, Nat.sub_zero, and_self, hlz, hlv, hn1, hn2, apK2, apNew2, apG2, skyV, List.cons_append, List.nil_append]
  refine ⟨by omega, _, _, .inr (.inl ⟨rfl, _, rfl, hT, rfl, n9T⟩), ?_⟩
  simp (config := { maxSteps := 2000000 }) only [bitvec_to_nat, reduceIte, Nat.reduceEqDiff, Nat.reduceAdd, Nat.reduceLeDiff, reduceCtorEq, Nat.reduceBEq, Nat.reduceLT, Nat.reduceMod, List.forall_mem_cons, t_szSky, t_szPKindS, t_sLB, t_eqBase, t_eqPKindS, t_heldBase, tk_map, dp_map, toNat_pred, appE, rowsOf, List.take_length, List.length_cons, List.length_nil, Nat.zero_add, srow, irow, un_s, un_i, Zone.row, Zone_eta, un_Zone, Pt.row, Pt_eta, un_Pt, Aw.row, Aw_eta, un_Aw, Blk.row, Blk_eta, un_Blk, Sec.row, Sec_eta, un_Sec, Rw.row, Rw_eta, un_Rw, Sky_eta, Sky.row, PKind.row, PKind_eta, un_PKind, PPt.row, PPt_eta, un_PPt, ms_PKind_len, ms_PPt_len, List.length_map, gSky, gSky', sSky, sSky', gSky0, sSky0, gG, gG', sG, sG', kG, gs1, gs2, gs3, gs4, tkZ, tkM, tkP, tkZ2, tkM2, not_true_eq_false, ne_eq, eq_self, bne_self_eq_false, Int.toNat_natCast, Nat.sub_zero, and_self, hlz, hlv, hn1, hn2, apK2, apNew2, apG2, skyV, List.cons_append, List.nil_append]
  refine ⟨_, _, callR_sky (s := s) (a := 611) (b := 613) (c := 614) (d := 612) (kA := 107) (kS := 108) (news := []) (r := .bool true) (rest' := [.agg (s.row 0)]) (by simp only [tag0L, tag_sky]; exact hEq) (K0_in2 (by omega) (by omega)) (K0_self s) rfl (by simp only [no98L, no98_sky 0 (by omega), Bool.and_self]) rfl rfl (by simp) rfl rfl trivial (by simp), ?_⟩
  simp (config := { maxSteps := 2000000 }) only [bitvec_to_nat, reduceIte, Nat.reduceEqDiff, Nat.reduceAdd, Nat.reduceLeDiff, reduceCtorEq, Nat.reduceBEq, Nat.reduceLT, Nat.reduceMod, List.forall_mem_cons, t_szSky, t_szPKindS, t_sLB, t_eqBase, t_eqPKindS, t_heldBase, tk_map, dp_map, toNat_pred, appE, rowsOf, List.take_length, List.length_cons, List.length_nil, Nat.zero_add, srow, irow, un_s, un_i, Zone.row, Zone_eta, un_Zone, Pt.row, Pt_eta, un_Pt, Aw.row, Aw_eta, un_Aw, Blk.row, Blk_eta, un_Blk, Sec.row, Sec_eta, un_Sec, Rw.row, Rw_eta, un_Rw, Sky_eta, Sky.row, PKind.row, PKind_eta, un_PKind, PPt.row, PPt_eta, un_PPt, ms_PKind_len, ms_PPt_len, List.length_map, gSky, gSky', sSky, sSky', gSky0, sSky0, gG, gG', sG, sG', kG, gs1, gs2, gs3, gs4, tkZ, tkM, tkP, tkZ2, tkM2, not_true_eq_false, ne_eq, eq_self, bne_self_eq_false, Int.toNat_natCast, Nat.sub_zero, and_self, hlz, hlv, hn1, hn2, apK2, apNew2, apG2, skyV, List.cons_append, List.nil_append]
  refine ⟨_, _, .inr (.inl ⟨rfl, _, rfl, hTP, rfl, n9P⟩), ?_⟩
  simp (config := { maxSteps := 2000000 }) only [bitvec_to_nat, reduceIte, Nat.reduceEqDiff, Nat.reduceAdd, Nat.reduceLeDiff, reduceCtorEq, Nat.reduceBEq, Nat.reduceLT, Nat.reduceMod, List.forall_mem_cons, t_szSky, t_szPKindS, t_sLB, t_eqBase, t_eqPKindS, t_heldBase, tk_map, dp_map, toNat_pred, appE, rowsOf, List.take_length, List.length_cons, List.length_nil, Nat.zero_add, srow, irow, un_s, un_i, Zone.row, Zone_eta, un_Zone, Pt.row, Pt_eta, un_Pt, Aw.row, Aw_eta, un_Aw, Blk.row, Blk_eta, un_Blk, Sec.row, Sec_eta, un_Sec, Rw.row, Rw_eta, un_Rw, Sky_eta, Sky.row, PKind.row, PKind_eta, un_PKind, PPt.row, PPt_eta, un_PPt, ms_PKind_len, ms_PPt_len, List.length_map, gSky, gSky', sSky, sSky', gSky0, sSky0, gG, gG', sG, sG', kG, gs1, gs2, gs3, gs4, tkZ, tkM, tkP, tkZ2, tkM2, not_true_eq_false, ne_eq, eq_self, bne_self_eq_false, Int.toNat_natCast, Nat.sub_zero, and_self, hlz, hlv, hn1, hn2, apK2, apNew2, apG2, skyV, List.cons_append, List.nil_append]
  refine ⟨by omega, _, _, callR_gone hMk (K0_in2 (by omega) (by omega)) K0_ref2 sky_refs rfl, ?_⟩
  simp (config := { maxSteps := 2000000 }) only [bitvec_to_nat, reduceIte, Nat.reduceEqDiff, Nat.reduceAdd, Nat.reduceLeDiff, reduceCtorEq, Nat.reduceBEq, Nat.reduceLT, Nat.reduceMod, List.forall_mem_cons, t_szSky, t_szPKindS, t_sLB, t_eqBase, t_eqPKindS, t_heldBase, tk_map, dp_map, toNat_pred, appE, rowsOf, List.take_length, List.length_cons, List.length_nil, Nat.zero_add, srow, irow, un_s, un_i, Zone.row, Zone_eta, un_Zone, Pt.row, Pt_eta, un_Pt, Aw.row, Aw_eta, un_Aw, Blk.row, Blk_eta, un_Blk, Sec.row, Sec_eta, un_Sec, Rw.row, Rw_eta, un_Rw, Sky_eta, Sky.row, PKind.row, PKind_eta, un_PKind, PPt.row, PPt_eta, un_PPt, ms_PKind_len, ms_PPt_len, List.length_map, gSky, gSky', sSky, sSky', gSky0, sSky0, gG, gG', sG, sG', kG, gs1, gs2, gs3, gs4, tkZ, tkM, tkP, tkZ2, tkM2, not_true_eq_false, ne_eq, eq_self, bne_self_eq_false, Int.toNat_natCast, Nat.sub_zero, and_self, hlz, hlv, hn1, hn2, apK2, apNew2, apG2, skyV, List.cons_append, List.nil_append]
  refine ⟨_, _, .inl ⟨_, hMP, by simp only [List.forall_mem_cons, fm0, and_true, w_getM0, w_getM1, gSky, gSky', gG, gG', Nat.reduceLT, Nat.reduceEqDiff, reduceIte], by simp [dom], rfl, rfl, rfl, rfl, rfl⟩, ?_⟩
  simp (config := { maxSteps := 2000000 }) only [bitvec_to_nat, reduceIte, Nat.reduceEqDiff, Nat.reduceAdd, Nat.reduceLeDiff, reduceCtorEq, Nat.reduceBEq, Nat.reduceLT, Nat.reduceMod, List.forall_mem_cons, t_szSky, t_szPKindS, t_sLB, t_eqBase, t_eqPKindS, t_heldBase, tk_map, dp_map, toNat_pred, appE, rowsOf, List.take_length, List.length_cons, List.length_nil, Nat.zero_add, srow, irow, un_s, un_i, Zone.row, Zone_eta, un_Zone, Pt.row, Pt_eta, un_Pt, Aw.row, Aw_eta, un_Aw, Blk.row, Blk_eta, un_Blk, Sec.row, Sec_eta, un_Sec, Rw.row, Rw_eta, un_Rw, Sky_eta, Sky.row, PKind.row, PKind_eta, un_PKind, PPt.row, PPt_eta, un_PPt, ms_PKind_len, ms_PPt_len, List.length_map, gSky, gSky', sSky, sSky', gSky0, sSky0, gG, gG', sG, sG', kG, gs1, gs2, gs3, gs4, tkZ, tkM, tkP, tkZ2, tkM2, not_true_eq_false, ne_eq, eq_self, bne_self_eq_false, Int.toNat_natCast, Nat.sub_zero, and_self, hlz, hlv, hn1, hn2, apK2, apNew2, apG2, skyV, List.cons_append, List.nil_append]
  refine ⟨fun h => by omega, fun _ => ⟨by omega, _, _, .inl ⟨_, hZ, by simp only [List.forall_mem_cons, fm0, and_true, w_getM0, w_getM1, gSky, gSky', gG, gG', Nat.reduceLT, Nat.reduceEqDiff, reduceIte], by simp [dom], rfl, rfl, rfl, rfl, rfl⟩, ?_⟩⟩
  simp (config := { maxSteps := 2000000 }) only [bitvec_to_nat, reduceIte, Nat.reduceEqDiff, Nat.reduceAdd, Nat.reduceLeDiff, reduceCtorEq, Nat.reduceBEq, Nat.reduceLT, Nat.reduceMod, List.forall_mem_cons, t_szSky, t_szPKindS, t_sLB, t_eqBase, t_eqPKindS, t_heldBase, tk_map, dp_map, toNat_pred, appE, rowsOf, List.take_length, List.length_cons, List.length_nil, Nat.zero_add, srow, irow, un_s, un_i, Zone.row, Zone_eta, un_Zone, Pt.row, Pt_eta, un_Pt, Aw.row, Aw_eta, un_Aw, Blk.row, Blk_eta, un_Blk, Sec.row, Sec_eta, un_Sec, Rw.row, Rw_eta, un_Rw, Sky_eta, Sky.row, PKind.row, PKind_eta, un_PKind, PPt.row, PPt_eta, un_PPt, ms_PKind_len, ms_PPt_len, List.length_map, gSky, gSky', sSky, sSky', gSky0, sSky0, gG, gG', sG, sG', kG, gs1, gs2, gs3, gs4, tkZ, tkM, tkP, tkZ2, tkM2, not_true_eq_false, ne_eq, eq_self, bne_self_eq_false, Int.toNat_natCast, Nat.sub_zero, and_self, hlz, hlv, hn1, hn2, apK2, apNew2, apG2, skyV, List.cons_append, List.nil_append]
  refine ⟨by omega, fun h => by omega, fun _ => ⟨_, _, .inr (.inl ⟨rfl, _, rfl, hT, rfl, n9T⟩), ?_⟩⟩
  simp (config := { maxSteps := 2000000 }) only [bitvec_to_nat, reduceIte, Nat.reduceEqDiff, Nat.reduceAdd, Nat.reduceLeDiff, reduceCtorEq, Nat.reduceBEq, Nat.reduceLT, Nat.reduceMod, List.forall_mem_cons, t_szSky, t_szPKindS, t_sLB, t_eqBase, t_eqPKindS, t_heldBase, tk_map, dp_map, toNat_pred, appE, rowsOf, List.take_length, List.length_cons, List.length_nil, Nat.zero_add, srow, irow, un_s, un_i, Zone.row, Zone_eta, un_Zone, Pt.row, Pt_eta, un_Pt, Aw.row, Aw_eta, un_Aw, Blk.row, Blk_eta, un_Blk, Sec.row, Sec_eta, un_Sec, Rw.row, Rw_eta, un_Rw, Sky_eta, Sky.row, PKind.row, PKind_eta, un_PKind, PPt.row, PPt_eta, un_PPt, ms_PKind_len, ms_PPt_len, List.length_map, gSky, gSky', sSky, sSky', gSky0, sSky0, gG, gG', sG, sG', kG, gs1, gs2, gs3, gs4, tkZ, tkM, tkP, tkZ2, tkM2, not_true_eq_false, ne_eq, eq_self, bne_self_eq_false, Int.toNat_natCast, Nat.sub_zero, and_self, hlz, hlv, hn1, hn2, apK2, apNew2, apG2, skyV, List.cons_append, List.nil_append]
  refine ⟨_, _, .inr (.inl ⟨rfl, _, rfl, hTP, rfl, n9P⟩), ?_⟩
  simp (config := { maxSteps := 2000000 }) only [bitvec_to_nat, reduceIte, Nat.reduceEqDiff, Nat.reduceAdd, Nat.reduceLeDiff, reduceCtorEq, Nat.reduceBEq, Nat.reduceLT, Nat.reduceMod, List.forall_mem_cons, t_szSky, t_szPKindS, t_sLB, t_eqBase, t_eqPKindS, t_heldBase, tk_map, dp_map, toNat_pred, appE, rowsOf, List.take_length, List.length_cons, List.length_nil, Nat.zero_add, srow, irow, un_s, un_i, Zone.row, Zone_eta, un_Zone, Pt.row, Pt_eta, un_Pt, Aw.row, Aw_eta, un_Aw, Blk.row, Blk_eta, un_Blk, Sec.row, Sec_eta, un_Sec, Rw.row, Rw_eta, un_Rw, Sky_eta, Sky.row, PKind.row, PKind_eta, un_PKind, PPt.row, PPt_eta, un_PPt, ms_PKind_len, ms_PPt_len, List.length_map, gSky, gSky', sSky, sSky', gSky0, sSky0, gG, gG', sG, sG', kG, gs1, gs2, gs3, gs4, tkZ, tkM, tkP, tkZ2, tkM2, not_true_eq_false, ne_eq, eq_self, bne_self_eq_false, Int.toNat_natCast, Nat.sub_zero, and_self, hlz, hlv, hn1, hn2, apK2, apNew2, apG2, skyV, List.cons_append, List.nil_append]
  refine ⟨_, _, .inr (.inr (.inl ⟨_, rfl, hI2, by simp only [List.forall_mem_cons, fm0, and_true, w_getM0, w_getM1, gSky, gSky', gG, gG', Nat.reduceLT, Nat.reduceEqDiff, reduceIte], by simp [refsIn, refsInL, dom], rfl, by simp [No99, No99L, No99LL], by simp only [List.forall_mem_cons, fm0, and_true]; exact ⟨no99_PKind _, no99_PPt _⟩⟩)), ?_⟩
  simp (config := { maxSteps := 2000000 }) only [bitvec_to_nat, reduceIte, Nat.reduceEqDiff, Nat.reduceAdd, Nat.reduceLeDiff, reduceCtorEq, Nat.reduceBEq, Nat.reduceLT, Nat.reduceMod, List.forall_mem_cons, t_szSky, t_szPKindS, t_sLB, t_eqBase, t_eqPKindS, t_heldBase, tk_map, dp_map, toNat_pred, appE, rowsOf, List.take_length, List.length_cons, List.length_nil, Nat.zero_add, srow, irow, un_s, un_i, Zone.row, Zone_eta, un_Zone, Pt.row, Pt_eta, un_Pt, Aw.row, Aw_eta, un_Aw, Blk.row, Blk_eta, un_Blk, Sec.row, Sec_eta, un_Sec, Rw.row, Rw_eta, un_Rw, Sky_eta, Sky.row, PKind.row, PKind_eta, un_PKind, PPt.row, PPt_eta, un_PPt, ms_PKind_len, ms_PPt_len, List.length_map, gSky, gSky', sSky, sSky', gSky0, sSky0, gG, gG', sG, sG', kG, gs1, gs2, gs3, gs4, tkZ, tkM, tkP, tkZ2, tkM2, not_true_eq_false, ne_eq, eq_self, bne_self_eq_false, Int.toNat_natCast, Nat.sub_zero, and_self, hlz, hlv, hn1, hn2, apK2, apNew2, apG2, skyV, List.cons_append, List.nil_append]
  exact ⟨by omega, ⟨by omega, by omega, by omega⟩, fun h => by omega⟩

set_option maxHeartbeats 8000000 in
theorem c_lawBN (s : Sky) (ps : List PKind) (hf : s.fitp) (hpf : ps.length ≤ 9223372036854775807 ∧ ∀ y ∈ ps, y.fitp) (hv : ¬ lbOk s ps) : Contract P 11 [.agg (s.row 1), .sl 1 3 (ps.map PKind.row)] [] (.bool true) [] := by
  have tkP : List.take ps.length (ps.map PKind.row) = ps.map PKind.row := List.take_of_length_le (by simp)
  have hlz : lbK s ps = [] := if_neg hv
  have hlv : lbP s ps = [] := if_neg hv
  have tkM2 : True := trivial
  have tkZ2 : True := trivial
  have tkZ : True := trivial
  have tkM : True := trivial
  have z2 : Sky.sz s 1048576 ≤ 1048576 := by have := (meas_Sky s 1048576 (by omega)).2.2; omega
  generalize hn1 : Sky.sz s 1048576 = n1 at *
  have hn2 : True := trivial
  simp only [Sky.row]
  refine fn_sound (((((((Env.nil P).add 12 t_szSky h_szSky).add 51 t_szPKindS h_szPKindS).add 52 t_sLB h_sLB).add 55 t_eqBase h_eqBase).add 56 t_eqPKindS h_eqPKindS).add 59 t_heldBase h_heldBase) hm k_laws_FnExactLapBase (Nat.le_of_ble_eq_true rfl) rfl ?_; unfold s_laws_FnExactLapBase; simp (config := { maxSteps := 2000000 }) only [bitvec_to_nat, reduceIte, Nat.reduceEqDiff, Nat.reduceAdd, Nat.reduceLeDiff, reduceCtorEq, Nat.reduceBEq, Nat.reduceLT, Nat.reduceMod, List.forall_mem_cons, t_szSky, t_szPKindS, t_sLB, t_eqBase, t_eqPKindS, t_heldBase, tk_map, dp_map, toNat_pred, appE, rowsOf, List.take_length, List.length_cons, List.length_nil, Nat.zero_add, srow, irow, un_s, un_i, Zone.row, Zone_eta, un_Zone, Pt.row, Pt_eta, un_Pt, Aw.row, Aw_eta, un_Aw, Blk.row, Blk_eta, un_Blk, Sec.row, Sec_eta, un_Sec, Rw.row, Rw_eta, un_Rw, Sky_eta, Sky.row, PKind.row, PKind_eta, un_PKind, PPt.row, PPt_eta, un_PPt, ms_PKind_len, ms_PPt_len, List.length_map, gSky, gSky', sSky, sSky', gSky0, sSky0, gG, gG', sG, sG', kG, gs1, gs2, gs3, gs4, tkZ, tkM, tkP, tkZ2, tkM2, not_true_eq_false, ne_eq, eq_self, bne_self_eq_false, Int.toNat_natCast, Nat.sub_zero, and_self, hlz, hlv, hn1, hn2, apK2, apNew2, apG2, skyV, List.cons_append, List.nil_append]
  refine ⟨⟨by omega, hf⟩, fun g1 => ⟨⟨by omega, hpf⟩, fun g2 => ?_⟩⟩
  have hs : s.small := Sky.sz_ok (a := 1048576) (by omega) (by omega)
  have hp : ps.length ≤ 1048576 := (szS_ok (p := fun _ => True) meas_PKind (fun _ _ _ _ => trivial) (a := n1) (by omega) (by omega)).1
  have hkn : ∀ x ∈ ps, x.nm.toList.length ≤ 9223372036854775807 := hpf.2
  have hsm := hs
  unfold Sky.small at hsm
  have hT := c_toSky s hs
  have n9T : No99 (.agg (s.row 0)) := by simp [Sky.row, No99, No99L, no99_Pt, no99_Aw, no99_Sec, no99_Rw]
  have hTP := c_toPKindS 1 ps hp
  have n9P : No99 (.sl 0 3 (ps.map PKind.row)) := by simp only [No99]; exact ⟨by omega, no99_PKind ps⟩
  have hTO := toSkyK s hs
  have hPO := (c_toPKindSO 1 ps hp).ren (swp 107 621) (swp_swp _ _)
  have hEq := eqSkyC s hs
  have hMk := markSkyK 1 s hs (by omega)
  have hct1 := ct_Aw_le hs.2.1.2 (Nat.le_refl _)
  have hct2 := ct_Sec_le hs.2.2.1.2 (Nat.le_refl _)
  have hcs : cntSky s ≤ 100000000000000 := by unfold cntSky; omega
  have hMP := (c_markPKindS 0 (1 + cntSky s) ps (by omega) (by omega)).ren (swp 3 621) (swp_swp _ _)
  have tPl : tag0L [.sl 99 3 (ps.map PKind.row)] = [.sl 0 3 (ps.map PKind.row)] := by simp only [tag0L, tag0]; rw [tag_flat (f := PKind.row) fun _ => rfl]
  have nPl : no98L [.sl 99 3 (ps.map PKind.row)] = true := by simp only [no98L, no98]; rw [no98_rows (f := PKind.row) fun _ => rfl]; rfl
  have fPl : ∀ r ∈ ps.map PKind.row, flatOk r = true := fun r hr => by obtain ⟨x, _, rfl⟩ := List.mem_map.1 hr; rfl
  have hI1 := c_iLBN s 0 ps hs hf hp hkn hv
  simp only [renL, ren, renM, renO, swp, reduceIte, Nat.reduceEqDiff, Nat.reduceLT, List.length_map] at hPO hMP
  simp only [Sky.row] at hT n9T hTO
  refine ⟨_, _, .inr (.inl ⟨rfl, _, rfl, hT, rfl, n9T⟩), ?_⟩
  simp (config := { maxSteps := 2000000 }) only [bitvec_to_nat, reduceIte, Nat.reduceEqDiff, Nat.reduceAdd, Nat.reduceLeDiff, reduceCtorEq, Nat.reduceBEq, Nat.reduceLT, Nat.reduceMod, List.forall_mem_cons, t_szSky, t_szPKindS, t_sLB, t_eqBase, t_eqPKindS, t_heldBase, tk_map, dp_map, toNat_pred, appE, rowsOf, List.take_length, List.length_cons, List.length_nil, Nat.zero_add, srow, irow, un_s, un_i, Zone.row, Zone_eta, un_Zone, Pt.row, Pt_eta, un_Pt, Aw.row, Aw_eta, un_Aw, Blk.row, Blk_eta, un_Blk, Sec.row, Sec_eta, un_Sec, Rw.row, Rw_eta, un_Rw, Sky_eta, Sky.row, PKind.row, PKind_eta, un_PKind, PPt.row, PPt_eta, un_PPt, ms_PKind_len, ms_PPt_len, List.length_map, gSky, gSky', sSky, sSky', gSky0, sSky0, gG, gG', sG, sG', kG, gs1, gs2, gs3, gs4, tkZ, tkM, tkP, tkZ2, tkM2, not_true_eq_false, ne_eq, eq_self, bne_self_eq_false, Int.toNat_natCast, Nat.sub_zero, and_self, hlz, hlv, hn1, hn2, apK2, apNew2, apG2, skyV, List.cons_append, List.nil_append]
  refine ⟨_, _, .inr (.inl ⟨rfl, _, rfl, hTP, rfl, n9P⟩), ?_⟩
  simp (config := { maxSteps := 2000000 }) only [bitvec_to_nat, reduceIte, Nat.reduceEqDiff, Nat.reduceAdd, Nat.reduceLeDiff, reduceCtorEq, Nat.reduceBEq, Nat.reduceLT, Nat.reduceMod, List.forall_mem_cons, t_szSky, t_szPKindS, t_sLB, t_eqBase, t_eqPKindS, t_heldBase, tk_map, dp_map, toNat_pred, appE, rowsOf, List.take_length, List.length_cons, List.length_nil, Nat.zero_add, srow, irow, un_s, un_i, Zone.row, Zone_eta, un_Zone, Pt.row, Pt_eta, un_Pt, Aw.row, Aw_eta, un_Aw, Blk.row, Blk_eta, un_Blk, Sec.row, Sec_eta, un_Sec, Rw.row, Rw_eta, un_Rw, Sky_eta, Sky.row, PKind.row, PKind_eta, un_PKind, PPt.row, PPt_eta, un_PPt, ms_PKind_len, ms_PPt_len, List.length_map, gSky, gSky', sSky, sSky', gSky0, sSky0, gG, gG', sG, sG', kG, gs1, gs2, gs3, gs4, tkZ, tkM, tkP, tkZ2, tkM2, not_true_eq_false, ne_eq, eq_self, bne_self_eq_false, Int.toNat_natCast, Nat.sub_zero, and_self, hlz, hlv, hn1, hn2, apK2, apNew2, apG2, skyV, List.cons_append, List.nil_append]
  refine ⟨⟨hs, hp⟩, _, _, .inr (.inr (.inl ⟨_, rfl, hTO, K0r_new (by simp), K0r_refV, K0r_refs, by simp [skyV, No99, No99L], K0_99⟩)), ?_⟩
  simp (config := { maxSteps := 2000000 }) only [bitvec_to_nat, reduceIte, Nat.reduceEqDiff, Nat.reduceAdd, Nat.reduceLeDiff, reduceCtorEq, Nat.reduceBEq, Nat.reduceLT, Nat.reduceMod, List.forall_mem_cons, t_szSky, t_szPKindS, t_sLB, t_eqBase, t_eqPKindS, t_heldBase, tk_map, dp_map, toNat_pred, appE, rowsOf, List.take_length, List.length_cons, List.length_nil, Nat.zero_add, srow, irow, un_s, un_i, Zone.row, Zone_eta, un_Zone, Pt.row, Pt_eta, un_Pt, Aw.row, Aw_eta, un_Aw, Blk.row, Blk_eta, un_Blk, Sec.row, Sec_eta, un_Sec, Rw.row, Rw_eta, un_Rw, Sky_eta, Sky.row, PKind.row, PKind_eta, un_PKind, PPt.row, PPt_eta, un_PPt, ms_PKind_len, ms_PPt_len, List.length_map, gSky, gSky', sSky, sSky', gSky0, sSky0, gG, gG', sG, sG', kG, gs1, gs2, gs3, gs4, tkZ, tkM, tkP, tkZ2, tkM2, not_true_eq_false, ne_eq, eq_self, bne_self_eq_false, Int.toNat_natCast, Nat.sub_zero, and_self, hlz, hlv, hn1, hn2, apK2, apNew2, apG2, skyV, List.cons_append, List.nil_append]
  refine ⟨_, _, .inr (.inr (.inl ⟨_, rfl, hPO, by simp only [List.forall_mem_cons, fm0, and_true, w_getM0, w_getM1, gSky, gSky', gG, gG', Nat.reduceLT, Nat.reduceEqDiff, reduceIte], by simp [refsIn, refsInL, dom], rfl, trivial, by simp only [List.forall_mem_cons, fm0, and_true]; exact no99_PKind _⟩)), ?_⟩
  simp (config := { maxSteps := 2000000 }) only [bitvec_to_nat, reduceIte, Nat.reduceEqDiff, Nat.reduceAdd, Nat.reduceLeDiff, reduceCtorEq, Nat.reduceBEq, Nat.reduceLT, Nat.reduceMod, List.forall_mem_cons, t_szSky, t_szPKindS, t_sLB, t_eqBase, t_eqPKindS, t_heldBase, tk_map, dp_map, toNat_pred, appE, rowsOf, List.take_length, List.length_cons, List.length_nil, Nat.zero_add, srow, irow, un_s, un_i, Zone.row, Zone_eta, un_Zone, Pt.row, Pt_eta, un_Pt, Aw.row, Aw_eta, un_Aw, Blk.row, Blk_eta, un_Blk, Sec.row, Sec_eta, un_Sec, Rw.row, Rw_eta, un_Rw, Sky_eta, Sky.row, PKind.row, PKind_eta, un_PKind, PPt.row, PPt_eta, un_PPt, ms_PKind_len, ms_PPt_len, List.length_map, gSky, gSky', sSky, sSky', gSky0, sSky0, gG, gG', sG, sG', kG, gs1, gs2, gs3, gs4, tkZ, tkM, tkP, tkZ2, tkM2, not_true_eq_false, ne_eq, eq_self, bne_self_eq_false, Int.toNat_natCast, Nat.sub_zero, and_self, hlz, hlv, hn1, hn2, apK2, apNew2, apG2, skyV, List.cons_append, List.nil_append]
  refine ⟨_, _, callR_sky (s := s) (a := 611) (b := 613) (c := 614) (d := 612) (kA := 107) (kS := 108) (rest' := [.sl 99 3 (ps.map PKind.row)]) (by rw [tPl]; exact hI1) (K0_in2 (by omega) (by omega)) (K0_self s) (purNL_one (purN_flat (e := 159) (by simp only [List.forall_mem_cons, fm0, and_true, w_getM0, w_getM1, gSky, gSky', gG, gG', Nat.reduceLT, Nat.reduceEqDiff, reduceIte]) fPl (by simp))) nPl rfl (rfl) (by simp) (by simp [refsIn, refsInL, dom]) (by simp [refsInO]) (by simp [No99, No99L, No99LL]) (by simp), ?_⟩
  simp (config := { maxSteps := 2000000 }) only [bitvec_to_nat, reduceIte, Nat.reduceEqDiff, Nat.reduceAdd, Nat.reduceLeDiff, reduceCtorEq, Nat.reduceBEq, Nat.reduceLT, Nat.reduceMod, List.forall_mem_cons, t_szSky, t_szPKindS, t_sLB, t_eqBase, t_eqPKindS, t_heldBase, tk_map, dp_map, toNat_pred, appE, rowsOf, List.take_length, List.length_cons, List.length_nil, Nat.zero_add, srow, irow, un_s, un_i, Zone.row, Zone_eta, un_Zone, Pt.row, Pt_eta, un_Pt, Aw.row, Aw_eta, un_Aw, Blk.row, Blk_eta, un_Blk, Sec.row, Sec_eta, un_Sec, Rw.row, Rw_eta, un_Rw, Sky_eta, Sky.row, PKind.row, PKind_eta, un_PKind, PPt.row, PPt_eta, un_PPt, ms_PKind_len, ms_PPt_len, List.length_map, gSky, gSky', sSky, sSky', gSky0, sSky0, gG, gG', sG, sG', kG, gs1, gs2, gs3, gs4, tkZ, tkM, tkP, tkZ2, tkM2, not_true_eq_false, ne_eq, eq_self, bne_self_eq_false, Int.toNat_natCast, Nat.sub_zero, and_self, hlz, hlv, hn1, hn2, apK2, apNew2, apG2, skyV, List.cons_append, List.nil_append]
  refine ⟨_, _, .inr (.inl ⟨rfl, _, rfl, hT, rfl, n9T⟩), ?_⟩
  simp (config := { maxSteps := 2000000 }) only [bitvec_to_nat, reduceIte, Nat.reduceEqDiff, Nat.reduceAdd, Nat.reduceLeDiff, reduceCtorEq, Nat.reduceBEq, Nat.reduceLT, Nat.reduceMod, List.forall_mem_cons, t_szSky, t_szPKindS, t_sLB, t_eqBase, t_eqPKindS, t_heldBase, tk_map, dp_map, toNat_pred, appE, rowsOf, List.take_length, List.length_cons, List.length_nil, Nat.zero_add, srow, irow, un_s, un_i, Zone.row, Zone_eta, un_Zone, Pt.row, Pt_eta, un_Pt, Aw.row, Aw_eta, un_Aw, Blk.row, Blk_eta, un_Blk, Sec.row, Sec_eta, un_Sec, Rw.row, Rw_eta, un_Rw, Sky_eta, Sky.row, PKind.row, PKind_eta, un_PKind, PPt.row, PPt_eta, un_PPt, ms_PKind_len, ms_PPt_len, List.length_map, gSky, gSky', sSky, sSky', gSky0, sSky0, gG, gG', sG, sG', kG, gs1, gs2, gs3, gs4, tkZ, tkM, tkP, tkZ2, tkM2, not_true_eq_false, ne_eq, eq_self, bne_self_eq_false, Int.toNat_natCast, Nat.sub_zero, and_self, hlz, hlv, hn1, hn2, apK2, apNew2, apG2, skyV, List.cons_append, List.nil_append]
  refine ⟨_, _, callR_sky (s := s) (a := 611) (b := 613) (c := 614) (d := 612) (kA := 107) (kS := 108) (news := []) (r := .bool true) (rest' := [.agg (s.row 0)]) (by simp only [tag0L, tag_sky]; exact hEq) (K0_in2 (by omega) (by omega)) (K0_self s) rfl (by simp only [no98L, no98_sky 0 (by omega), Bool.and_self]) rfl rfl (by simp) rfl rfl trivial (by simp), ?_⟩
  simp (config := { maxSteps := 2000000 }) only [bitvec_to_nat, reduceIte, Nat.reduceEqDiff, Nat.reduceAdd, Nat.reduceLeDiff, reduceCtorEq, Nat.reduceBEq, Nat.reduceLT, Nat.reduceMod, List.forall_mem_cons, t_szSky, t_szPKindS, t_sLB, t_eqBase, t_eqPKindS, t_heldBase, tk_map, dp_map, toNat_pred, appE, rowsOf, List.take_length, List.length_cons, List.length_nil, Nat.zero_add, srow, irow, un_s, un_i, Zone.row, Zone_eta, un_Zone, Pt.row, Pt_eta, un_Pt, Aw.row, Aw_eta, un_Aw, Blk.row, Blk_eta, un_Blk, Sec.row, Sec_eta, un_Sec, Rw.row, Rw_eta, un_Rw, Sky_eta, Sky.row, PKind.row, PKind_eta, un_PKind, PPt.row, PPt_eta, un_PPt, ms_PKind_len, ms_PPt_len, List.length_map, gSky, gSky', sSky, sSky', gSky0, sSky0, gG, gG', sG, sG', kG, gs1, gs2, gs3, gs4, tkZ, tkM, tkP, tkZ2, tkM2, not_true_eq_false, ne_eq, eq_self, bne_self_eq_false, Int.toNat_natCast, Nat.sub_zero, and_self, hlz, hlv, hn1, hn2, apK2, apNew2, apG2, skyV, List.cons_append, List.nil_append]
  refine ⟨_, _, .inr (.inl ⟨rfl, _, rfl, hTP, rfl, n9P⟩), ?_⟩
  simp (config := { maxSteps := 2000000 }) only [bitvec_to_nat, reduceIte, Nat.reduceEqDiff, Nat.reduceAdd, Nat.reduceLeDiff, reduceCtorEq, Nat.reduceBEq, Nat.reduceLT, Nat.reduceMod, List.forall_mem_cons, t_szSky, t_szPKindS, t_sLB, t_eqBase, t_eqPKindS, t_heldBase, tk_map, dp_map, toNat_pred, appE, rowsOf, List.take_length, List.length_cons, List.length_nil, Nat.zero_add, srow, irow, un_s, un_i, Zone.row, Zone_eta, un_Zone, Pt.row, Pt_eta, un_Pt, Aw.row, Aw_eta, un_Aw, Blk.row, Blk_eta, un_Blk, Sec.row, Sec_eta, un_Sec, Rw.row, Rw_eta, un_Rw, Sky_eta, Sky.row, PKind.row, PKind_eta, un_PKind, PPt.row, PPt_eta, un_PPt, ms_PKind_len, ms_PPt_len, List.length_map, gSky, gSky', sSky, sSky', gSky0, sSky0, gG, gG', sG, sG', kG, gs1, gs2, gs3, gs4, tkZ, tkM, tkP, tkZ2, tkM2, not_true_eq_false, ne_eq, eq_self, bne_self_eq_false, Int.toNat_natCast, Nat.sub_zero, and_self, hlz, hlv, hn1, hn2, apK2, apNew2, apG2, skyV, List.cons_append, List.nil_append]
  refine ⟨by omega, _, _, callR_gone hMk (K0_in2 (by omega) (by omega)) K0_ref2 sky_refs rfl, ?_⟩
  simp (config := { maxSteps := 2000000 }) only [bitvec_to_nat, reduceIte, Nat.reduceEqDiff, Nat.reduceAdd, Nat.reduceLeDiff, reduceCtorEq, Nat.reduceBEq, Nat.reduceLT, Nat.reduceMod, List.forall_mem_cons, t_szSky, t_szPKindS, t_sLB, t_eqBase, t_eqPKindS, t_heldBase, tk_map, dp_map, toNat_pred, appE, rowsOf, List.take_length, List.length_cons, List.length_nil, Nat.zero_add, srow, irow, un_s, un_i, Zone.row, Zone_eta, un_Zone, Pt.row, Pt_eta, un_Pt, Aw.row, Aw_eta, un_Aw, Blk.row, Blk_eta, un_Blk, Sec.row, Sec_eta, un_Sec, Rw.row, Rw_eta, un_Rw, Sky_eta, Sky.row, PKind.row, PKind_eta, un_PKind, PPt.row, PPt_eta, un_PPt, ms_PKind_len, ms_PPt_len, List.length_map, gSky, gSky', sSky, sSky', gSky0, sSky0, gG, gG', sG, sG', kG, gs1, gs2, gs3, gs4, tkZ, tkM, tkP, tkZ2, tkM2, not_true_eq_false, ne_eq, eq_self, bne_self_eq_false, Int.toNat_natCast, Nat.sub_zero, and_self, hlz, hlv, hn1, hn2, apK2, apNew2, apG2, skyV, List.cons_append, List.nil_append]
  refine ⟨_, _, .inl ⟨_, hMP, by simp only [List.forall_mem_cons, fm0, and_true, w_getM0, w_getM1, gSky, gSky', gG, gG', Nat.reduceLT, Nat.reduceEqDiff, reduceIte], by simp [dom], rfl, rfl, rfl, rfl, rfl⟩, ?_⟩
  simp (config := { maxSteps := 2000000 }) only [bitvec_to_nat, reduceIte, Nat.reduceEqDiff, Nat.reduceAdd, Nat.reduceLeDiff, reduceCtorEq, Nat.reduceBEq, Nat.reduceLT, Nat.reduceMod, List.forall_mem_cons, t_szSky, t_szPKindS, t_sLB, t_eqBase, t_eqPKindS, t_heldBase, tk_map, dp_map, toNat_pred, appE, rowsOf, List.take_length, List.length_cons, List.length_nil, Nat.zero_add, srow, irow, un_s, un_i, Zone.row, Zone_eta, un_Zone, Pt.row, Pt_eta, un_Pt, Aw.row, Aw_eta, un_Aw, Blk.row, Blk_eta, un_Blk, Sec.row, Sec_eta, un_Sec, Rw.row, Rw_eta, un_Rw, Sky_eta, Sky.row, PKind.row, PKind_eta, un_PKind, PPt.row, PPt_eta, un_PPt, ms_PKind_len, ms_PPt_len, List.length_map, gSky, gSky', sSky, sSky', gSky0, sSky0, gG, gG', sG, sG', kG, gs1, gs2, gs3, gs4, tkZ, tkM, tkP, tkZ2, tkM2, not_true_eq_false, ne_eq, eq_self, bne_self_eq_false, Int.toNat_natCast, Nat.sub_zero, and_self, hlz, hlv, hn1, hn2, apK2, apNew2, apG2, skyV, List.cons_append, List.nil_append]
  refine ⟨fun h => by omega, fun _ => ⟨_, _, .inr (.inl ⟨rfl, _, rfl, c_markBaseN 1, rfl, trivial⟩), ?_⟩⟩
  simp (config := { maxSteps := 2000000 }) only [bitvec_to_nat, reduceIte, Nat.reduceEqDiff, Nat.reduceAdd, Nat.reduceLeDiff, reduceCtorEq, Nat.reduceBEq, Nat.reduceLT, Nat.reduceMod, List.forall_mem_cons, t_szSky, t_szPKindS, t_sLB, t_eqBase, t_eqPKindS, t_heldBase, tk_map, dp_map, toNat_pred, appE, rowsOf, List.take_length, List.length_cons, List.length_nil, Nat.zero_add, srow, irow, un_s, un_i, Zone.row, Zone_eta, un_Zone, Pt.row, Pt_eta, un_Pt, Aw.row, Aw_eta, un_Aw, Blk.row, Blk_eta, un_Blk, Sec.row, Sec_eta, un_Sec, Rw.row, Rw_eta, un_Rw, Sky_eta, Sky.row, PKind.row, PKind_eta, un_PKind, PPt.row, PPt_eta, un_PPt, ms_PKind_len, ms_PPt_len, List.length_map, gSky, gSky', sSky, sSky', gSky0, sSky0, gG, gG', sG, sG', kG, gs1, gs2, gs3, gs4, tkZ, tkM, tkP, tkZ2, tkM2, not_true_eq_false, ne_eq, eq_self, bne_self_eq_false, Int.toNat_natCast, Nat.sub_zero, and_self, hlz, hlv, hn1, hn2, apK2, apNew2, apG2, skyV, List.cons_append, List.nil_append]
  refine ⟨⟨⟨rfl, rfl⟩, by omega, by omega⟩, fun h => by omega, fun _ => ⟨fun h => by omega, fun _ => ⟨_, _, .inr (.inl ⟨rfl, _, rfl, hT, rfl, n9T⟩), ?_⟩⟩⟩
  simp (config := { maxSteps := 2000000 }) only [bitvec_to_nat, reduceIte, Nat.reduceEqDiff, Nat.reduceAdd, Nat.reduceLeDiff, reduceCtorEq, Nat.reduceBEq, Nat.reduceLT, Nat.reduceMod, List.forall_mem_cons, t_szSky, t_szPKindS, t_sLB, t_eqBase, t_eqPKindS, t_heldBase, tk_map, dp_map, toNat_pred, appE, rowsOf, List.take_length, List.length_cons, List.length_nil, Nat.zero_add, srow, irow, un_s, un_i, Zone.row, Zone_eta, un_Zone, Pt.row, Pt_eta, un_Pt, Aw.row, Aw_eta, un_Aw, Blk.row, Blk_eta, un_Blk, Sec.row, Sec_eta, un_Sec, Rw.row, Rw_eta, un_Rw, Sky_eta, Sky.row, PKind.row, PKind_eta, un_PKind, PPt.row, PPt_eta, un_PPt, ms_PKind_len, ms_PPt_len, List.length_map, gSky, gSky', sSky, sSky', gSky0, sSky0, gG, gG', sG, sG', kG, gs1, gs2, gs3, gs4, tkZ, tkM, tkP, tkZ2, tkM2, not_true_eq_false, ne_eq, eq_self, bne_self_eq_false, Int.toNat_natCast, Nat.sub_zero, and_self, hlz, hlv, hn1, hn2, apK2, apNew2, apG2, skyV, List.cons_append, List.nil_append]
  refine ⟨_, _, .inr (.inl ⟨rfl, _, rfl, hTP, rfl, n9P⟩), ?_⟩
  simp (config := { maxSteps := 2000000 }) only [bitvec_to_nat, reduceIte, Nat.reduceEqDiff, Nat.reduceAdd, Nat.reduceLeDiff, reduceCtorEq, Nat.reduceBEq, Nat.reduceLT, Nat.reduceMod, List.forall_mem_cons, t_szSky, t_szPKindS, t_sLB, t_eqBase, t_eqPKindS, t_heldBase, tk_map, dp_map, toNat_pred, appE, rowsOf, List.take_length, List.length_cons, List.length_nil, Nat.zero_add, srow, irow, un_s, un_i, Zone.row, Zone_eta, un_Zone, Pt.row, Pt_eta, un_Pt, Aw.row, Aw_eta, un_Aw, Blk.row, Blk_eta, un_Blk, Sec.row, Sec_eta, un_Sec, Rw.row, Rw_eta, un_Rw, Sky_eta, Sky.row, PKind.row, PKind_eta, un_PKind, PPt.row, PPt_eta, un_PPt, ms_PKind_len, ms_PPt_len, List.length_map, gSky, gSky', sSky, sSky', gSky0, sSky0, gG, gG', sG, sG', kG, gs1, gs2, gs3, gs4, tkZ, tkM, tkP, tkZ2, tkM2, not_true_eq_false, ne_eq, eq_self, bne_self_eq_false, Int.toNat_natCast, Nat.sub_zero, and_self, hlz, hlv, hn1, hn2, apK2, apNew2, apG2, skyV, List.cons_append, List.nil_append]
  refine ⟨_, _, .inr (.inl ⟨rfl, _, rfl, hI1, rfl, by simp [No99, No99L, No99LL]⟩), ?_⟩
  simp (config := { maxSteps := 2000000 }) only [bitvec_to_nat, reduceIte, Nat.reduceEqDiff, Nat.reduceAdd, Nat.reduceLeDiff, reduceCtorEq, Nat.reduceBEq, Nat.reduceLT, Nat.reduceMod, List.forall_mem_cons, t_szSky, t_szPKindS, t_sLB, t_eqBase, t_eqPKindS, t_heldBase, tk_map, dp_map, toNat_pred, appE, rowsOf, List.take_length, List.length_cons, List.length_nil, Nat.zero_add, srow, irow, un_s, un_i, Zone.row, Zone_eta, un_Zone, Pt.row, Pt_eta, un_Pt, Aw.row, Aw_eta, un_Aw, Blk.row, Blk_eta, un_Blk, Sec.row, Sec_eta, un_Sec, Rw.row, Rw_eta, un_Rw, Sky_eta, Sky.row, PKind.row, PKind_eta, un_PKind, PPt.row, PPt_eta, un_PPt, ms_PKind_len, ms_PPt_len, List.length_map, gSky, gSky', sSky, sSky', gSky0, sSky0, gG, gG', sG, sG', kG, gs1, gs2, gs3, gs4, tkZ, tkM, tkP, tkZ2, tkM2, not_true_eq_false, ne_eq, eq_self, bne_self_eq_false, Int.toNat_natCast, Nat.sub_zero, and_self, hlz, hlv, hn1, hn2, apK2, apNew2, apG2, skyV, List.cons_append, List.nil_append]
  refine ⟨⟨⟨rfl, rfl⟩, by omega, by omega⟩, fun h => by omega, fun _ h => by omega⟩

theorem c_FnExactLapBase (s : Sky) (ps : List PKind) (hf : s.fitp) (hpf : ps.length ≤ 9223372036854775807 ∧ ∀ y ∈ ps, y.fitp) : Contract P 11 [.agg (s.row 1), .sl 1 3 (ps.map PKind.row)] [] (.bool true) [] := by
  by_cases hv : lbOk s ps
  · exact c_lawBY s ps hf hpf hv
  · exact c_lawBN s ps hf hpf hv
def sh_PKind : List LSh := [.str, .int .i64, .int .i64]
theorem fit_PKind (r : List AV) (h : fitsL sh_PKind r) : ∃ x : PKind, r = PKind.row x ∧ x.fitp := by
  simp only [sh_PKind, fitsL, fits] at h
  obtain ⟨_, _, rfl, ⟨nm, rfl, h_nm⟩, _, _, rfl, ⟨q, rfl, _⟩, _, _, rfl, ⟨sl, rfl, _⟩, rfl⟩ := h

  exact ⟨⟨nm, q, sl⟩, rfl, (by have e := toList_size nm; unfold maxLen at h_nm; show nm.toList.length ≤ _; omega)⟩
end
end Go.Ve

