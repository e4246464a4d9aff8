/- Part 5 of the proof: laws and contracts of functions, each proved; they are joined in the last part. No conditions beyond those that the theorems state. -/
import Derived.Test.YtgpmpajihobhhaaDoorSp4
set_option linter.all false
namespace Go.Ve
noncomputable section
open Go.Proofs
set_option linter.unusedSimpArgs false
set_option linter.unusedVariables false
set_option maxRecDepth 100000
def r_toPtSO : RTab
  | [.sl bt 3 bx], M => some ⟨(M 611 = none) ∧ (((bx.map unPt).map Pt.row = bx)) ∧ ((bx.map unPt).length ≤ 1048576), fun _ : Unit => True, fun _ => .own 611 0 0 (bx.map unPt).length, fun _ => [(611, .arr 103 0 3 bx)]⟩
  | _, _ => none
theorem h_toPtSO : okTab P 70 r_toPtSO := by
  intro args M o h hp
  unfold r_toPtSO at h
  split at h
  · rename_i bt bx
    cases h
    obtain ⟨hn, e0, HP⟩ := hp
    have hC := (c_toPtSO bt (bx.map unPt) HP).ren (swp 107 611) (swp_swp 107 611)
    simp only [renL, ren, renM, renO, swp, reduceIte, Nat.reduceEqDiff, Nat.reduceLT, e0] at hC
    refine ⟨(), trivial, .inr (.inr (.inl ⟨_, by simp only [purL, pur, Option.map_some], hC, fun p hp => ?_, ?_, rfl, ?_, ?_⟩))⟩
    · simp only [List.mem_cons, List.not_mem_nil, or_false] at hp
      subst hp; exact hn
    · simp [refsIn, refsInL, dom]
    · exact trivial
    · intro p hp
      simp only [List.mem_cons, List.not_mem_nil, or_false] at hp
      subst hp; rw [← e0]; exact no99_Pt _
  · cases h
def r_toRwSO : RTab
  | [.sl bt 4 bx], M => some ⟨(M 612 = none) ∧ (((bx.map unRw).map Rw.row = bx)) ∧ ((bx.map unRw).length ≤ 1048576), fun _ : Unit => True, fun _ => .own 612 0 0 (bx.map unRw).length, fun _ => [(612, .arr 118 0 4 bx)]⟩
  | _, _ => none
theorem h_toRwSO : okTab P 73 r_toRwSO := by
  intro args M o h hp
  unfold r_toRwSO at h
  split at h
  · rename_i bt bx
    cases h
    obtain ⟨hn, e0, HP⟩ := hp
    have hC := (c_toRwSO bt (bx.map unRw) HP).ren (swp 107 612) (swp_swp 107 612)
    simp only [renL, ren, renM, renO, swp, reduceIte, Nat.reduceEqDiff, Nat.reduceLT, e0] at hC
    refine ⟨(), trivial, .inr (.inr (.inl ⟨_, by simp only [purL, pur, Option.map_some], hC, fun p hp => ?_, ?_, rfl, ?_, ?_⟩))⟩
    · simp only [List.mem_cons, List.not_mem_nil, or_false] at hp
      subst hp; exact hn
    · simp [refsIn, refsInL, dom]
    · exact trivial
    · intro p hp
      simp only [List.mem_cons, List.not_mem_nil, or_false] at hp
      subst hp; rw [← e0]; exact no99_Rw _
  · cases h
def fA (k : Nat) (s : Sky) : List NRow := nfam k 9 1 (s.aws.map awP)
def fS (k : Nat) (s : Sky) : List NRow := nfam k 113 6 (s.secs.map secP)
def skyV (s : Sky) (a b c d : Nat) : AV := .agg [.int .i64 s.w, .int .i64 s.h, .int .i64 s.lv, .own a 0 0 s.pts.length, .own b 0 0 s.aws.length, .own c 0 0 s.secs.length, .own d 0 0 s.rws.length]
def skyM (s : Sky) (a b c d kA kS : Nat) : List (Nat × AObj) := (a, .arr 103 0 3 (s.pts.map Pt.row)) :: (b, .arr (1000000 + 108) 0 2 ((fA kA s).map NRow.row)) :: (c, .arr (1000000 + 111) 0 2 ((fS kS s).map NRow.row)) :: (d, .arr 118 0 4 (s.rws.map Rw.row)) :: (nobjs (fA kA s) ++ nobjs (fS kS s))
theorem no99_NRow (l : List NRow) : No99LL (l.map NRow.row) := by
  induction l with
  | nil => simp [No99LL]
  | cons x l ih => simp only [List.map_cons, No99LL]; exact ⟨by simp [NRow.row, No99L, No99], ih⟩
theorem awP_99 (s : Sky) (p : Nat × AObj) (k : Nat) (h : p ∈ nobjs (fA k s)) : No99O p.2 := by
  obtain ⟨i, hi, rfl⟩ := nfam_at h
  have hi' : i < s.aws.length := by simpa using hi
  simp only [No99O]
  rw [show (s.aws.map awP).getD i default = awP (s.aws.getD i default) from by simp [hi']]
  exact no99_str _
theorem secP_99 (s : Sky) (p : Nat × AObj) (k : Nat) (h : p ∈ nobjs (fS k s)) : No99O p.2 := by
  obtain ⟨i, hi, rfl⟩ := nfam_at h
  have hi' : i < s.secs.length := by simpa using hi
  simp only [No99O]
  rw [show (s.secs.map secP).getD i default = secP (s.secs.getD i default) from by simp [hi']]
  exact no99_Blk _
theorem fam_refs {k e sz o : Nat} {y : AObj} {x : List (ByteArray × List (List AV))} {T : Nat} (he : e < 1000000) : (((o, AObj.arr (1000000 + T) 0 2 ((nfam k e sz x).map NRow.row)) :: nobjs (nfam k e sz x)).all fun p => refsInO (dom ((o, y) :: nobjs (nfam k e sz x))) p.2) = true := by
  simp only [List.all_cons, Bool.and_eq_true]
  refine ⟨?_, refsO_nfam he⟩
  simp only [refsInO]
  rw [if_neg (by omega)]
  refine refs_rows fun r hr => ?_
  simp only [dom, List.map_cons, List.contains_cons, Bool.or_eq_true]
  right
  simp only [List.contains_iff_mem, nobjs, List.map_map, List.mem_map]
  exact ⟨r, hr, rfl⟩
theorem wkM_sky {s : Sky} {a b c d kA kS : Nat} {M : List (Nat × AObj)} (h1 : getM M a = some (.arr 103 0 3 (s.pts.map Pt.row))) (h2 : getM M b = some (.arr (1000000 + 108) 0 2 ((fA kA s).map NRow.row)))
    (h3 : getM M c = some (.arr (1000000 + 111) 0 2 ((fS kS s).map NRow.row))) (h4 : getM M d = some (.arr 118 0 4 (s.rws.map Rw.row)))
    (h5 : ∀ i, i < s.aws.length → getM M (fam kA i) = some (.arr 9 0 1 ((s.aws.map awP).getD i default).2)) (h6 : ∀ i, i < s.secs.length → getM M (fam kS i) = some (.arr 113 0 6 ((s.secs.map secP).getD i default).2)) : wkM M (skyM s a b c d kA kS) := by
  refine ⟨h1, h2, h3, h4, wkM_app.2 ⟨wkM_nobjs nfam_fam fun i hi => ?_, wkM_nobjs nfam_fam fun i hi => ?_⟩⟩
  · simp only [fA, nfam_len] at hi ⊢
    rw [nfam_get hi]; exact h5 i (by simpa using hi)
  · simp only [fS, nfam_len] at hi ⊢
    rw [nfam_get hi]; exact h6 i (by simpa using hi)
theorem sky_dom {s : Sky} {a b c d kA kS : Nat} : dom (skyM s a b c d kA kS) = a :: b :: c :: d :: ((fA kA s).map (·.o) ++ (fS kS s).map (·.o)) := by
  simp [skyM, dom, nobjs]; rfl
theorem sky_refs {s : Sky} {a b c d kA kS : Nat} : ((skyM s a b c d kA kS).all fun p => refsInO (dom (skyM s a b c d kA kS)) p.2) = true := by
  rw [sky_dom]
  simp only [skyM, List.all_cons, List.all_append, Bool.and_eq_true]
  refine ⟨rfl, ?_, ?_, rfl, refsO_nfam (by omega), refsO_nfam (by omega)⟩
  · simp only [refsInO]
    rw [if_neg (by omega)]
    refine refs_rows fun r hr => ?_
    simp only [List.contains_iff_mem, List.mem_cons, List.mem_append, List.mem_map]
    exact .inr (.inr (.inr (.inr (.inl ⟨r, hr, rfl⟩))))
  · simp only [refsInO]
    rw [if_neg (by omega)]
    refine refs_rows fun r hr => ?_
    simp only [List.contains_iff_mem, List.mem_cons, List.mem_append, List.mem_map]
    exact .inr (.inr (.inr (.inr (.inr ⟨r, hr, rfl⟩))))
theorem sky_refV {s : Sky} {a b c d kA kS : Nat} : refsIn (dom (skyM s a b c d kA kS)) (skyV s a b c d) = true := by
  rw [sky_dom]; simp [skyV, refsIn, refsInL]
theorem toAwS_613 (s : Sky) (hs : s.small) : Contract P 71 [.sl 1 2 (s.aws.map (Aw.row 1))] [] (.own 613 0 0 s.aws.length) ((613, .arr (1000000 + 108) 0 2 ((fA 107 s).map NRow.row)) :: nobjs (fA 107 s)) := by
  unfold Sky.small at hs
  have h := (c_toAwSO 1 s.aws (by omega) hs.2.1.2).ren (swp 107 613) (swp_swp _ _)
  simp only [renL, ren, renM, renO, swp, reduceIte, Nat.reduceLT, Nat.reduceAdd] at h
  rw [renM_nobjs, renRows, nfam_swp (by omega) (by omega) (by omega)] at h
  exact h
theorem toSecS_614 (s : Sky) (hs : s.small) : Contract P 72 [.sl 1 2 (s.secs.map (Sec.row 1))] [] (.own 614 0 0 s.secs.length) ((614, .arr (1000000 + 111) 0 2 ((fS 108 s).map NRow.row)) :: nobjs (fS 108 s)) := by
  unfold Sky.small at hs
  have h := ((c_toSecSO 1 s.secs (by omega) hs.2.2.1.2).ren (swp 107 614) (swp_swp _ _)).ren (swpF 107 108) (swpF_swpF (by omega) (by omega))
  have e : swpF 107 108 (swp 107 614 107) = 614 := by rfl
  simp only [renL, ren, renM, renO, e, Nat.reduceLT, Nat.reduceAdd, reduceIte] at h
  rw [renM_nobjs, renM_nobjs, renRows, renRows, nfam_swp (by omega) (by omega) (by omega), nfam_swpF (by omega) (by omega)] at h
  exact h
set_option maxHeartbeats 2000000 in
theorem c_toSkyO (s : Sky) (hs : s.small) : Contract P 14 [.agg (s.row 1)] [] (skyV s 611 613 614 612) (skyM s 611 613 614 612 107 108) := by
  have hA := toAwS_613 s hs
  have hS := toSecS_614 s hs
  have bA : bigs (nobjs (fA 107 s)).reverse := bigs_rev bigs_nfam
  have bS : bigs (nobjs (fS 108 s)).reverse := bigs_rev bigs_nfam
  unfold Sky.small at hs
  refine fn_sound (((Env.nil P).addR 70 r_toPtSO h_toPtSO).addR 73 r_toRwSO h_toRwSO) hm k_laws_toSky (Nat.le_of_ble_eq_true rfl) rfl ?_; unfold s_laws_toSky; simp (config := { maxSteps := 2000000 }) only [bitvec_to_nat, reduceIte, Nat.reduceEqDiff, Nat.reduceAdd, Nat.reduceLeDiff, reduceCtorEq, Nat.reduceBEq, Nat.reduceLT, Nat.reduceMod, List.forall_mem_cons, retG_ret, retQ_eq, retQ_eqN, retOk, keepB, re_tupl, orr_t, r_toPtSO, r_toRwSO, tk_map, dp_map, toNat_pred, appE, rowsOf, List.take_length, List.length_cons, List.length_nil, Nat.zero_add, srow, irow, un_s, un_i, Pt.row, Pt_eta, Aw.row, Aw_eta, Blk.row, Blk_eta, Sec.row, Sec_eta, Rw.row, Rw_eta, Sky.row, Sky_eta, Place.row, Place_eta, un_Pt, un_Aw, un_Blk, un_Sec, un_Rw, un_Sky, un_Place, Nat.sub_zero, Sky.row, skyV]
  refine ⟨by omega, fun _ => ⟨_, _, .inr (.inr (.inl ⟨_, by simp only [purL, pur, Option.map_some], hA, ?_, rfl, fam_refs (by omega), trivial, ?_⟩)), ?_⟩⟩
  · intro p hp
    rcases List.mem_cons.1 hp with rfl | hp
    · simp [getM]
    · obtain ⟨i, _, rfl⟩ := nfam_at hp
      simp only [getM, fam_ne (show (101 : Nat) < 1000 from by omega), fam_ne (show (102 : Nat) < 1000 from by omega), fam_ne (show (103 : Nat) < 1000 from by omega), fam_ne (show (611 : Nat) < 1000 from by omega), if_false]
  · intro p hp
    rcases List.mem_cons.1 hp with rfl | hp
    · exact no99_NRow _
    · exact awP_99 s p _ hp
  simp (config := { maxSteps := 2000000 }) only [bitvec_to_nat, reduceIte, Nat.reduceEqDiff, Nat.reduceAdd, Nat.reduceLeDiff, reduceCtorEq, Nat.reduceBEq, Nat.reduceLT, Nat.reduceMod, List.forall_mem_cons, retG_ret, retQ_eq, retQ_eqN, retOk, keepB, re_tupl, orr_t, r_toPtSO, r_toRwSO, tk_map, dp_map, toNat_pred, appE, rowsOf, List.take_length, List.length_cons, List.length_nil, Nat.zero_add, srow, irow, un_s, un_i, Pt.row, Pt_eta, Aw.row, Aw_eta, Blk.row, Blk_eta, Sec.row, Sec_eta, Rw.row, Rw_eta, Sky.row, Sky_eta, Place.row, Place_eta, un_Pt, un_Aw, un_Blk, un_Sec, un_Rw, un_Sky, un_Place, Nat.sub_zero, Sky.row, skyV]
  rw [aU (U := nobjs (fA 107 s)) (fun p hp => by
    obtain ⟨i, _, rfl⟩ := nfam_at hp
    simp only [getM, fam_ne, Nat.reduceLT, if_false]) nfam_pw]
  simp (config := { maxSteps := 2000000 }) only [bitvec_to_nat, reduceIte, Nat.reduceEqDiff, Nat.reduceAdd, Nat.reduceLeDiff, reduceCtorEq, Nat.reduceBEq, Nat.reduceLT, Nat.reduceMod, List.forall_mem_cons, retG_ret, retQ_eq, retQ_eqN, retOk, keepB, re_tupl, orr_t, r_toPtSO, r_toRwSO, tk_map, dp_map, toNat_pred, appE, rowsOf, List.take_length, List.length_cons, List.length_nil, Nat.zero_add, srow, irow, un_s, un_i, Pt.row, Pt_eta, Aw.row, Aw_eta, Blk.row, Blk_eta, Sec.row, Sec_eta, Rw.row, Rw_eta, Sky.row, Sky_eta, Place.row, Place_eta, un_Pt, un_Aw, un_Blk, un_Sec, un_Rw, un_Sky, un_Place, Nat.sub_zero, Sky.row, gB, gB0, sB, sB0, bA, bS, List.append_assoc, List.cons_append, List.nil_append, List.append_nil]
  refine ⟨_, _, .inr (.inr (.inl ⟨_, by simp only [purL, pur, Option.map_some], hS, ?_, rfl, fam_refs (by omega), trivial, ?_⟩)), ?_⟩
  · intro p hp
    rcases List.mem_cons.1 hp with rfl | hp
    · simp only [getM, gB bA, Nat.reduceLT, Nat.reduceEqDiff, reduceIte]
    · obtain ⟨i, _, rfl⟩ := nfam_at hp
      simp only [getM, fam_ne, Nat.reduceLT, if_false, getM_append, fA, getM_rfam, nfam_none, ne_eq, Nat.reduceEqDiff, not_false_eq_true, Option.none_or]
  · intro p hp
    rcases List.mem_cons.1 hp with rfl | hp
    · exact no99_NRow _
    · exact secP_99 s p _ hp
  simp (config := { maxSteps := 2000000 }) only [bitvec_to_nat, reduceIte, Nat.reduceEqDiff, Nat.reduceAdd, Nat.reduceLeDiff, reduceCtorEq, Nat.reduceBEq, Nat.reduceLT, Nat.reduceMod, List.forall_mem_cons, retG_ret, retQ_eq, retQ_eqN, retOk, keepB, re_tupl, orr_t, r_toPtSO, r_toRwSO, tk_map, dp_map, toNat_pred, appE, rowsOf, List.take_length, List.length_cons, List.length_nil, Nat.zero_add, srow, irow, un_s, un_i, Pt.row, Pt_eta, Aw.row, Aw_eta, Blk.row, Blk_eta, Sec.row, Sec_eta, Rw.row, Rw_eta, Sky.row, Sky_eta, Place.row, Place_eta, un_Pt, un_Aw, un_Blk, un_Sec, un_Rw, un_Sky, un_Place, Nat.sub_zero, Sky.row, gB, gB0, sB, sB0, bA, bS, List.append_assoc, List.cons_append, List.nil_append, List.append_nil]
  rw [aU (U := nobjs (fS 108 s)) (fun p hp => by
    obtain ⟨i, _, rfl⟩ := nfam_at hp
    simp only [getM, fam_ne, Nat.reduceLT, if_false, getM_append, fA, getM_rfam, nfam_none, ne_eq, Nat.reduceEqDiff, not_false_eq_true, Option.none_or]) nfam_pw]
  simp (config := { maxSteps := 2000000 }) only [bitvec_to_nat, reduceIte, Nat.reduceEqDiff, Nat.reduceAdd, Nat.reduceLeDiff, reduceCtorEq, Nat.reduceBEq, Nat.reduceLT, Nat.reduceMod, List.forall_mem_cons, retG_ret, retQ_eq, retQ_eqN, retOk, keepB, re_tupl, orr_t, r_toPtSO, r_toRwSO, tk_map, dp_map, toNat_pred, appE, rowsOf, List.take_length, List.length_cons, List.length_nil, Nat.zero_add, srow, irow, un_s, un_i, Pt.row, Pt_eta, Aw.row, Aw_eta, Blk.row, Blk_eta, Sec.row, Sec_eta, Rw.row, Rw_eta, Sky.row, Sky_eta, Place.row, Place_eta, un_Pt, un_Aw, un_Blk, un_Sec, un_Rw, un_Sky, un_Place, Nat.sub_zero, Sky.row, gB, gB0, sB, sB0, bA, bS, List.append_assoc, List.cons_append, List.nil_append, List.append_nil]
  refine ⟨by omega, fun _ => ⟨wkM_sky ?_ ?_ ?_ ?_ (fun i hi => ?_) (fun i hi => ?_), sky_refs, by rw [show List.map (fun x => x.1) (skyM s 611 613 614 612 107 108) = dom (skyM s 611 613 614 612 107 108) from rfl, sky_dom]; simp [refsIn], ?_⟩⟩
  · simp only [getM, Nat.reduceEqDiff, reduceIte]
  · simp only [getM, gB bA, Nat.reduceLT, Nat.reduceEqDiff, reduceIte]
  · simp only [getM, gB bA, gB bS, Nat.reduceLT, Nat.reduceEqDiff, reduceIte]
  · simp only [getM, gB bA, gB bS, Nat.reduceLT, Nat.reduceEqDiff, reduceIte]
  · simp only [getM, fam_ne, Nat.reduceLT, if_false, getM_append, fA, getM_rfam, nfam_obj (x := s.aws.map awP) (by simpa using hi), Option.some_or]
  · simp only [getM, fam_ne, Nat.reduceLT, if_false, getM_append, fA, fS, getM_rfam, nfam_none, ne_eq, Nat.reduceEqDiff, not_false_eq_true, Option.none_or, nfam_obj (x := s.secs.map secP) (by simpa using hi), Option.some_or]
  · exact keep_big (M' := skyM s 611 613 614 612 107 108) (M := (101, .gone) :: (102, .gone) :: (103, .gone) :: (611, .gone) :: ((nobjs (fA 107 s)).reverse ++ (613, _) :: ((nobjs (fS 108 s)).reverse ++ [(614, _), (612, _)])))
      (big100_cons (by omega) (big100_cons (by omega) (big100_cons (by omega) (big100_cons (by omega) (big100_app (big100_rev (big100_nfam (by omega) (by omega))) (big100_cons (by omega) (big100_app (big100_rev (big100_nfam (by omega) (by omega))) (big100_cons (by omega) (big100_cons (by omega) big100_nil)))))))))

end
end Go.Ve

namespace Go.Ve
noncomputable section
open Go.Proofs
set_option linter.unusedSimpArgs false
set_option linter.unusedVariables false
set_option maxRecDepth 100000
def dch (i : Nat) : ByteArray := ⟨#[byteOf [AV.int .u8 (IntKind.u8.wrap (48 + (i : Int) % 10))]]⟩
theorem dch_eq (i : Nat) : bytesOf [[AV.int .u8 (IntKind.u8.wrap (48 + (i : Int) % 10))]] = dch i := rfl
def dg (k : Nat) (o : ByteArray) : ByteArray := if h : k = 0 then o else dg (k / 10) (dch k ++ o)
termination_by k
decreasing_by omega
theorem dg_zero (o : ByteArray) : dg 0 o = o := by rw [dg]; simp
theorem dg_step {k : Nat} (o : ByteArray) (h : 0 < k) : dg k o = dg (k / 10) (dch k ++ o) := by rw [dg]; simp [show k ≠ 0 by omega]
def mtx (k : Int) : ByteArray := if k ≤ 0 then ⟨#[109, 48]⟩ else ⟨#[109]⟩ ++ dg k.toNat ⟨#[]⟩
theorem dch_len (i : Nat) : (dch i).toList.length = 1 := by rw [← toList_size]; rfl
theorem app_len (a b : ByteArray) : (a ++ b).toList.length = a.toList.length + b.toList.length := by simp only [← toList_size, ByteArray.size_append]
theorem byte_ok (w : Int) : isByte [AV.int .u8 (IntKind.u8.wrap w)] = true := by
  simp [isByte, IntKind.wrap, IntKind.bits, IntKind.signed]
  try omega
theorem m_len : (⟨#[109]⟩ : ByteArray).toList.length = 1 := by rw [← toList_size]; rfl
theorem e_len : (⟨#[]⟩ : ByteArray).toList.length = 0 := by rw [← toList_size]; rfl
theorem c_markText (k : Int) (hk : 0 ≤ k ∧ k ≤ 1152921504606846976) : Contract P 100 [.int .i64 k] [] (.str (mtx k)) [] := by
  refine fn_sound (Env.nil P) hm k_laws_markText (Nat.le_of_ble_eq_true rfl) rfl ?_; unfold s_laws_markText; simp (config := { maxSteps := 2000000 }) only [bitvec_to_nat, reduceIte, Nat.reduceEqDiff, Nat.reduceAdd, Nat.reduceLeDiff, reduceCtorEq, Nat.reduceBEq, Nat.reduceLT, Nat.reduceMod, List.forall_mem_cons, Nat.zero_add, un_s, List.map_cons, List.map_nil, rowsOf, dch_eq]
  refine ⟨fun h => by rw [mtx, if_pos h], fun hp => ?_⟩
  have hkk : ((k.toNat : Nat) : Int) = k := by omega
  refine loop_st (fun a : Nat × ByteArray => [(0, .int .i64 a.1), (3, .str a.2)]) (fun _ => []) (fun a => dg a.1 a.2 = dg k.toNat ⟨#[]⟩ ∧ a.2.toList.length + a.1 ≤ 1152921504606846976) (fun a => a.1) (k.toNat, ⟨#[]⟩) (by simp only [hkk]; simp only [u_E0, u_E1, u_M0, u_M1, w_setE0, w_setE1, w_setM0, w_setM1, reduceIte, Nat.reduceEqDiff]; exact ⟨by repeat' (first | exact trivial | refine ⟨.inr rfl, ?_⟩), by repeat' (first | exact trivial | refine ⟨rfl, ?_⟩), by first | rfl | simp [closedB, refsIn, refsInL, refsInO, dom, refsInL_nr, *], by first | rfl | simp [keepB, dom]⟩) ⟨rfl, by simp only [e_len]; omega⟩ ?_
  rintro ⟨i, s⟩ ⟨h1, h2⟩ NX hN
  simp only at h1 h2
  unfold l_laws_markText_0; simp (config := { maxSteps := 2000000 }) only [bitvec_to_nat, reduceIte, Nat.reduceEqDiff, Nat.reduceAdd, Nat.reduceLeDiff, reduceCtorEq, Nat.reduceBEq, Nat.reduceLT, Nat.reduceMod, List.forall_mem_cons, Nat.zero_add, un_s, List.map_cons, List.map_nil, rowsOf, dch_eq]
  refine ⟨fun g => ⟨by omega, by omega, by simp only [List.all_cons, List.all_nil, byte_ok, Bool.and_true], ?_⟩, fun g => ?_⟩
  · have e1 := dch_len i
    refine ⟨by rw [e1]; omega, by omega, ?_⟩
    have e2 : ((i : Int) / 10) = ((i / 10 : Nat) : Int) := by omega
    simp only [e2]
    refine hN (i / 10, dch i ++ s) _ (by simp only [u_E0, u_E1, u_M0, u_M1, w_setE0, w_setE1, w_setM0, w_setM1, reduceIte, Nat.reduceEqDiff]; exact ⟨by repeat' (first | exact trivial | refine ⟨.inr rfl, ?_⟩), by repeat' (first | exact trivial | refine ⟨rfl, ?_⟩), by first | rfl | simp [closedB, refsIn, refsInL, refsInO, dom, refsInL_nr, *], by first | rfl | simp [keepB, dom]⟩) ?_ ?_
    · exact ⟨by rw [← dg_step s (by omega)]; exact h1, by simp only [app_len, e1]; omega⟩
    · simp only; omega
  · have e : i = 0 := by omega
    subst e
    rw [dg_zero] at h1
    refine ⟨by rw [m_len]; omega, ?_⟩
    rw [mtx, if_neg hp, ← h1]
def t_markText : List AV → Option (Prop × AV)
  | [.int .i64 k] => some ((True) ∧ (0 ≤ k ∧ k ≤ 1152921504606846976), .str (mtx k))
  | _ => none
theorem h_markText : ∀ args p v, t_markText args = some (p, v) → p → Contract P 100 args [] v [] ∧ noref v = true ∧ No99 v := by
  intro args p v h1 h2
  unfold t_markText at h1
  split at h1
  · rename_i k
    cases h1
    obtain ⟨_, HP⟩ := h2
    have := c_markText k HP
    exact ⟨this, rfl, trivial⟩
  · cases h1
theorem getD_seti' {α : Type} {l : List α} {i : Nat} {x d : α} (h : i < l.length) : (l.set i x).getD i d = x := by simp [h]
theorem getD_setn' {α : Type} {l : List α} {i j : Nat} {x d : α} (h : i ≠ j) : (l.set i x).getD j d = l.getD j d := by simp [List.getElem?_set_ne h]
def mk_ByteArray (k : Int) : ByteArray := mtx k
def ms_ByteArray (k : Int) (n : Nat) : List ByteArray := (List.range n).map fun j : Nat => mk_ByteArray (k + (j : Int))
theorem ms_ByteArray_len {k : Int} {n : Nat} : (ms_ByteArray k n).length = n := by simp [ms_ByteArray]
theorem ms_ByteArray_get {k : Int} {n j : Nat} (h : j < n) : (ms_ByteArray k n).getD j default = mk_ByteArray (k + (j : Int)) := by simp [ms_ByteArray, h]
theorem setm_ByteArray {l : List ByteArray} {i : Nat} {v : ByteArray} : (l.map srow).set i (setSeg ((l.map srow).getD i []) 0 [.str v]) = (l.set i v).map srow :=
  set_rows (α := ByteArray) (f := srow) (fun _ => v) fun x => by simp [srow, setSeg]
set_option maxHeartbeats 1000000 in
theorem c_markByteArrayS (v : Nat) (k : Int) (a : List ByteArray) (ha : a.length ≤ 1048577) (hk : 0 ≤ k ∧ k ≤ 1125899906842624) : Contract P 45 [.own 3 v 0 a.length, .int .i64 k] [(3, .arr 9 v 1 (a.map srow))] (.int .i64 (k + a.length)) [(3, .arr 9 v 1 ((ms_ByteArray k a.length).map srow))] := by
  have hz : ((0 : Nat) : Int) = 0 := rfl
  have gs : True := trivial
  refine fn_sound ((Env.nil P).add 100 t_markText h_markText) hm k_laws_markStringS (Nat.le_of_ble_eq_true rfl) rfl ?_; unfold s_laws_markStringS; simp (config := { maxSteps := 2000000 }) only [bitvec_to_nat, reduceIte, Nat.reduceEqDiff, Nat.reduceAdd, Nat.reduceLeDiff, reduceCtorEq, Nat.reduceBEq, Nat.reduceLT, Nat.reduceMod, List.forall_mem_cons, retG_ret, retQ_eq, retQ_eqN, retOk, keepB, re_tupl, orr_t, t_markText, setm_ByteArray, List.set_set, gs, irow, srow, Int.toNat_natCast, List.length_map, List.length_set, Nat.sub_zero, Nat.zero_add, hz]
  refine loop_st (fun b : Nat × List ByteArray => [(1, .int .i64 (k + b.1)), (5, .int .i64 b.1)]) (fun b => [(3, .arr 9 v 1 (b.2.map srow))]) (fun b => b.2.length = a.length ∧ b.1 ≤ a.length ∧ ∀ j, j < b.1 → b.2.getD j default = mk_ByteArray (k + (j : Int))) (fun b => a.length - b.1) (0, a) ?_ ⟨rfl, Nat.zero_le _, fun j hj => absurd hj (Nat.not_lt_zero _)⟩ ?_
  · have e0 : k + ((0 : Nat) : Int) = k := by omega
    simp only [e0]
    simp only [u_E0, u_E1, u_M0, u_M1, w_setE0, w_setE1, w_setM0, w_setM1, reduceIte, Nat.reduceEqDiff]; exact ⟨by repeat' (first | exact trivial | refine ⟨.inr rfl, ?_⟩), by repeat' (first | exact trivial | refine ⟨rfl, ?_⟩), by first | rfl | simp [closedB, refsIn, refsInL, refsInO, dom, refsInL_nr, *], by first | rfl | simp [keepB, dom]⟩
  rintro ⟨i, l⟩ ⟨h1, h2, h3⟩ NX hN
  simp only at h1 h2 h3
  have gs : i < a.length → ∀ x : ByteArray, (l.set i x).getD i default = x := fun h x => getD_seti' (by omega)
  by_cases hi : i < a.length
  · have gs := gs hi
    have e5 : k + ((i + 1 : Nat) : Int) = k + (i : Int) + 1 := by omega
    unfold l_laws_markStringS_0; simp (config := { maxSteps := 2000000 }) only [bitvec_to_nat, reduceIte, Nat.reduceEqDiff, Nat.reduceAdd, Nat.reduceLeDiff, reduceCtorEq, Nat.reduceBEq, Nat.reduceLT, Nat.reduceMod, List.forall_mem_cons, retG_ret, retQ_eq, retQ_eqN, retOk, keepB, re_tupl, orr_t, t_markText, setm_ByteArray, List.set_set, gs, irow, srow, Int.toNat_natCast, List.length_map, List.length_set, Nat.sub_zero, Nat.zero_add, hz]
    repeat' (first | with_reducible apply And.intro | with_reducible intro _)
    all_goals first
      | omega
      | (refine hN (i + 1, l.set i (mk_ByteArray (k + (i : Int)))) _ (by simp only [e5]; simp only [u_E0, u_E1, u_M0, u_M1, w_setE0, w_setE1, w_setM0, w_setM1, reduceIte, Nat.reduceEqDiff]; exact ⟨by repeat' (first | exact trivial | refine ⟨.inr rfl, ?_⟩), by repeat' (first | exact trivial | refine ⟨rfl, ?_⟩), by first | rfl | simp [closedB, refsIn, refsInL, refsInO, dom, refsInL_nr, *], by first | rfl | simp [keepB, dom]⟩) ⟨by simp only [List.length_set]; exact h1, hi, fun j hj => ?_⟩ (by simp only; omega)
         simp only at hj ⊢
         by_cases e : j = i
         · subst e; exact getD_seti' (by omega)
         · rw [getD_setn' (Ne.symm e)]; exact h3 j (by omega))
      | (exfalso; omega)
  · have hl : l = ms_ByteArray k a.length := ext_of (by rw [ms_ByteArray_len]; exact h1) fun j hj => by rw [ms_ByteArray_get (by omega)]; exact h3 j (by omega)
    have hi' : ¬ (i : Int) < a.length := by omega
    unfold l_laws_markStringS_0; simp (config := { maxSteps := 2000000 }) only [bitvec_to_nat, reduceIte, Nat.reduceEqDiff, Nat.reduceAdd, Nat.reduceLeDiff, reduceCtorEq, Nat.reduceBEq, Nat.reduceLT, Nat.reduceMod, List.forall_mem_cons, retG_ret, retQ_eq, retQ_eqN, retOk, keepB, re_tupl, orr_t, t_markText, setm_ByteArray, List.set_set, gs, irow, srow, Int.toNat_natCast, List.length_map, List.length_set, Nat.sub_zero, Nat.zero_add, hz, hi']
    refine ⟨by omega, ?_⟩
    rw [hl]
theorem g_markByteArrayS (v : Nat) (k : Int) (a : List ByteArray) (ha : a.length ≤ 1048577) (hk : 0 ≤ k ∧ k ≤ 1125899906842624) : Contract P 45 [.own 3 v 0 a.length, .int .i64 k] [(3, .arr 9 v 1 (a.map srow))] (.int .i64 (k + a.length)) [(3, .gone)] :=
  (c_markByteArrayS v k a ha hk).gone rfl
def mk_Pt (k : Int) : Pt := ⟨mtx (k), k + 1, k + 1 + 1⟩
def ms_Pt (k : Int) (n : Nat) : List Pt := (List.range n).map fun j : Nat => mk_Pt (k + 3 * (j : Int))
theorem ms_Pt_len {k : Int} {n : Nat} : (ms_Pt k n).length = n := by simp [ms_Pt]
theorem ms_Pt_get {k : Int} {n j : Nat} (h : j < n) : (ms_Pt k n).getD j default = mk_Pt (k + 3 * (j : Int)) := by simp [ms_Pt, h]
theorem setm_Pt0 {l : List Pt} {i : Nat} {v : ByteArray} : (l.map Pt.row).set i (setSeg ((l.map Pt.row).getD i []) 0 [.str v]) = (l.set i { l.getD i default with nm := v }).map Pt.row :=
  set_rows (α := Pt) (f := Pt.row) (fun s => { s with nm := v }) fun x => by simp [Pt.row, setSeg]
theorem setm_Pt1 {l : List Pt} {i : Nat} {v : Int} : (l.map Pt.row).set i (setSeg ((l.map Pt.row).getD i []) 1 [.int .i64 v]) = (l.set i { l.getD i default with x := v }).map Pt.row :=
  set_rows (α := Pt) (f := Pt.row) (fun s => { s with x := v }) fun x => by simp [Pt.row, setSeg]
theorem setm_Pt2 {l : List Pt} {i : Nat} {v : Int} : (l.map Pt.row).set i (setSeg ((l.map Pt.row).getD i []) 2 [.int .i64 v]) = (l.set i { l.getD i default with y := v }).map Pt.row :=
  set_rows (α := Pt) (f := Pt.row) (fun s => { s with y := v }) fun x => by simp [Pt.row, setSeg]
set_option maxHeartbeats 1000000 in
theorem c_markPtS (v : Nat) (k : Int) (a : List Pt) (ha : a.length ≤ 1048577) (hk : 0 ≤ k ∧ k ≤ 1125899906842624) : Contract P 96 [.own 3 v 0 a.length, .int .i64 k] [(3, .arr 103 v 3 (a.map Pt.row))] (.int .i64 (k + 3 * a.length)) [(3, .arr 103 v 3 ((ms_Pt k a.length).map Pt.row))] := by
  have hz : ((0 : Nat) : Int) = 0 := rfl
  have gs : True := trivial
  refine fn_sound ((Env.nil P).add 100 t_markText h_markText) hm k_laws_markSkyPointS (Nat.le_of_ble_eq_true rfl) rfl ?_; unfold s_laws_markSkyPointS; simp (config := { maxSteps := 2000000 }) only [bitvec_to_nat, reduceIte, Nat.reduceEqDiff, Nat.reduceAdd, Nat.reduceLeDiff, reduceCtorEq, Nat.reduceBEq, Nat.reduceLT, Nat.reduceMod, List.forall_mem_cons, retG_ret, retQ_eq, retQ_eqN, retOk, keepB, re_tupl, orr_t, t_markText, setm_Pt0, setm_Pt1, setm_Pt2, List.set_set, gs, Pt.row, irow, srow, Int.toNat_natCast, List.length_map, List.length_set, Nat.sub_zero, Nat.zero_add, hz]
  refine loop_st (fun b : Nat × List Pt => [(1, .int .i64 (k + 3 * b.1)), (5, .int .i64 b.1)]) (fun b => [(3, .arr 103 v 3 (b.2.map Pt.row))]) (fun b => b.2.length = a.length ∧ b.1 ≤ a.length ∧ ∀ j, j < b.1 → b.2.getD j default = mk_Pt (k + 3 * (j : Int))) (fun b => a.length - b.1) (0, a) ?_ ⟨rfl, Nat.zero_le _, fun j hj => absurd hj (Nat.not_lt_zero _)⟩ ?_
  · have e0 : k + 3 * ((0 : Nat) : Int) = k := by omega
    simp only [e0]
    simp only [u_E0, u_E1, u_M0, u_M1, w_setE0, w_setE1, w_setM0, w_setM1, reduceIte, Nat.reduceEqDiff]; exact ⟨by repeat' (first | exact trivial | refine ⟨.inr rfl, ?_⟩), by repeat' (first | exact trivial | refine ⟨rfl, ?_⟩), by first | rfl | simp [closedB, refsIn, refsInL, refsInO, dom, refsInL_nr, *], by first | rfl | simp [keepB, dom]⟩
  rintro ⟨i, l⟩ ⟨h1, h2, h3⟩ NX hN
  simp only at h1 h2 h3
  have gs : i < a.length → ∀ x : Pt, (l.set i x).getD i default = x := fun h x => getD_seti' (by omega)
  by_cases hi : i < a.length
  · have gs := gs hi
    have e5 : k + 3 * ((i + 1 : Nat) : Int) = k + 3 * (i : Int) + 1 + 1 + 1 := by omega
    unfold l_laws_markSkyPointS_0; simp (config := { maxSteps := 2000000 }) only [bitvec_to_nat, reduceIte, Nat.reduceEqDiff, Nat.reduceAdd, Nat.reduceLeDiff, reduceCtorEq, Nat.reduceBEq, Nat.reduceLT, Nat.reduceMod, List.forall_mem_cons, retG_ret, retQ_eq, retQ_eqN, retOk, keepB, re_tupl, orr_t, t_markText, setm_Pt0, setm_Pt1, setm_Pt2, List.set_set, gs, Pt.row, irow, srow, Int.toNat_natCast, List.length_map, List.length_set, Nat.sub_zero, Nat.zero_add, hz]
    repeat' (first | with_reducible apply And.intro | with_reducible intro _)
    all_goals first
      | omega
      | (refine hN (i + 1, l.set i (mk_Pt (k + 3 * (i : Int)))) _ (by simp only [e5]; simp only [u_E0, u_E1, u_M0, u_M1, w_setE0, w_setE1, w_setM0, w_setM1, reduceIte, Nat.reduceEqDiff]; exact ⟨by repeat' (first | exact trivial | refine ⟨.inr rfl, ?_⟩), by repeat' (first | exact trivial | refine ⟨rfl, ?_⟩), by first | rfl | simp [closedB, refsIn, refsInL, refsInO, dom, refsInL_nr, *], by first | rfl | simp [keepB, dom]⟩) ⟨by simp only [List.length_set]; exact h1, hi, fun j hj => ?_⟩ (by simp only; omega)
         simp only at hj ⊢
         by_cases e : j = i
         · subst e; exact getD_seti' (by omega)
         · rw [getD_setn' (Ne.symm e)]; exact h3 j (by omega))
      | (exfalso; omega)
  · have hl : l = ms_Pt k a.length := ext_of (by rw [ms_Pt_len]; exact h1) fun j hj => by rw [ms_Pt_get (by omega)]; exact h3 j (by omega)
    have hi' : ¬ (i : Int) < a.length := by omega
    unfold l_laws_markSkyPointS_0; simp (config := { maxSteps := 2000000 }) only [bitvec_to_nat, reduceIte, Nat.reduceEqDiff, Nat.reduceAdd, Nat.reduceLeDiff, reduceCtorEq, Nat.reduceBEq, Nat.reduceLT, Nat.reduceMod, List.forall_mem_cons, retG_ret, retQ_eq, retQ_eqN, retOk, keepB, re_tupl, orr_t, t_markText, setm_Pt0, setm_Pt1, setm_Pt2, List.set_set, gs, Pt.row, irow, srow, Int.toNat_natCast, List.length_map, List.length_set, Nat.sub_zero, Nat.zero_add, hz, hi']
    refine ⟨by omega, ?_⟩
    rw [hl]
theorem g_markPtS (v : Nat) (k : Int) (a : List Pt) (ha : a.length ≤ 1048577) (hk : 0 ≤ k ∧ k ≤ 1125899906842624) : Contract P 96 [.own 3 v 0 a.length, .int .i64 k] [(3, .arr 103 v 3 (a.map Pt.row))] (.int .i64 (k + 3 * a.length)) [(3, .gone)] :=
  (c_markPtS v k a ha hk).gone rfl
def mk_Blk (k : Int) : Blk := ⟨k, k + 1, k + 1 + 1, k + 1 + 1 + 1, k + 1 + 1 + 1 + 1, k + 1 + 1 + 1 + 1 + 1⟩
def ms_Blk (k : Int) (n : Nat) : List Blk := (List.range n).map fun j : Nat => mk_Blk (k + 6 * (j : Int))
theorem ms_Blk_len {k : Int} {n : Nat} : (ms_Blk k n).length = n := by simp [ms_Blk]
theorem ms_Blk_get {k : Int} {n j : Nat} (h : j < n) : (ms_Blk k n).getD j default = mk_Blk (k + 6 * (j : Int)) := by simp [ms_Blk, h]
theorem setm_Blk0 {l : List Blk} {i : Nat} {v : Int} : (l.map Blk.row).set i (setSeg ((l.map Blk.row).getD i []) 0 [.int .i64 v]) = (l.set i { l.getD i default with x0 := v }).map Blk.row :=
  set_rows (α := Blk) (f := Blk.row) (fun s => { s with x0 := v }) fun x => by simp [Blk.row, setSeg]
theorem setm_Blk1 {l : List Blk} {i : Nat} {v : Int} : (l.map Blk.row).set i (setSeg ((l.map Blk.row).getD i []) 1 [.int .i64 v]) = (l.set i { l.getD i default with y0 := v }).map Blk.row :=
  set_rows (α := Blk) (f := Blk.row) (fun s => { s with y0 := v }) fun x => by simp [Blk.row, setSeg]
theorem setm_Blk2 {l : List Blk} {i : Nat} {v : Int} : (l.map Blk.row).set i (setSeg ((l.map Blk.row).getD i []) 2 [.int .i64 v]) = (l.set i { l.getD i default with x1 := v }).map Blk.row :=
  set_rows (α := Blk) (f := Blk.row) (fun s => { s with x1 := v }) fun x => by simp [Blk.row, setSeg]
theorem setm_Blk3 {l : List Blk} {i : Nat} {v : Int} : (l.map Blk.row).set i (setSeg ((l.map Blk.row).getD i []) 3 [.int .i64 v]) = (l.set i { l.getD i default with y1 := v }).map Blk.row :=
  set_rows (α := Blk) (f := Blk.row) (fun s => { s with y1 := v }) fun x => by simp [Blk.row, setSeg]
theorem setm_Blk4 {l : List Blk} {i : Nat} {v : Int} : (l.map Blk.row).set i (setSeg ((l.map Blk.row).getD i []) 4 [.int .i64 v]) = (l.set i { l.getD i default with lo := v }).map Blk.row :=
  set_rows (α := Blk) (f := Blk.row) (fun s => { s with lo := v }) fun x => by simp [Blk.row, setSeg]
theorem setm_Blk5 {l : List Blk} {i : Nat} {v : Int} : (l.map Blk.row).set i (setSeg ((l.map Blk.row).getD i []) 5 [.int .i64 v]) = (l.set i { l.getD i default with hi := v }).map Blk.row :=
  set_rows (α := Blk) (f := Blk.row) (fun s => { s with hi := v }) fun x => by simp [Blk.row, setSeg]
set_option maxHeartbeats 1000000 in
theorem c_markBlkS (v : Nat) (k : Int) (a : List Blk) (ha : a.length ≤ 1048577) (hk : 0 ≤ k ∧ k ≤ 1125899906842624) : Contract P 145 [.own 3 v 0 a.length, .int .i64 k] [(3, .arr 113 v 6 (a.map Blk.row))] (.int .i64 (k + 6 * a.length)) [(3, .arr 113 v 6 ((ms_Blk k a.length).map Blk.row))] := by
  have hz : ((0 : Nat) : Int) = 0 := rfl
  have gs : True := trivial
  refine fn_sound (Env.nil P) hm k_laws_markSkyBlockS (Nat.le_of_ble_eq_true rfl) rfl ?_; unfold s_laws_markSkyBlockS; simp (config := { maxSteps := 2000000 }) only [bitvec_to_nat, reduceIte, Nat.reduceEqDiff, Nat.reduceAdd, Nat.reduceLeDiff, reduceCtorEq, Nat.reduceBEq, Nat.reduceLT, Nat.reduceMod, List.forall_mem_cons, retG_ret, retQ_eq, retQ_eqN, retOk, keepB, re_tupl, orr_t, setm_Blk0, setm_Blk1, setm_Blk2, setm_Blk3, setm_Blk4, setm_Blk5, List.set_set, gs, Blk.row, irow, srow, Int.toNat_natCast, List.length_map, List.length_set, Nat.sub_zero, Nat.zero_add, hz]
  refine loop_st (fun b : Nat × List Blk => [(1, .int .i64 (k + 6 * b.1)), (5, .int .i64 b.1)]) (fun b => [(3, .arr 113 v 6 (b.2.map Blk.row))]) (fun b => b.2.length = a.length ∧ b.1 ≤ a.length ∧ ∀ j, j < b.1 → b.2.getD j default = mk_Blk (k + 6 * (j : Int))) (fun b => a.length - b.1) (0, a) ?_ ⟨rfl, Nat.zero_le _, fun j hj => absurd hj (Nat.not_lt_zero _)⟩ ?_
  · have e0 : k + 6 * ((0 : Nat) : Int) = k := by omega
    simp only [e0]
    simp only [u_E0, u_E1, u_M0, u_M1, w_setE0, w_setE1, w_setM0, w_setM1, reduceIte, Nat.reduceEqDiff]; exact ⟨by repeat' (first | exact trivial | refine ⟨.inr rfl, ?_⟩), by repeat' (first | exact trivial | refine ⟨rfl, ?_⟩), by first | rfl | simp [closedB, refsIn, refsInL, refsInO, dom, refsInL_nr, *], by first | rfl | simp [keepB, dom]⟩
  rintro ⟨i, l⟩ ⟨h1, h2, h3⟩ NX hN
  simp only at h1 h2 h3
  have gs : i < a.length → ∀ x : Blk, (l.set i x).getD i default = x := fun h x => getD_seti' (by omega)
  by_cases hi : i < a.length
  · have gs := gs hi
    have e5 : k + 6 * ((i + 1 : Nat) : Int) = k + 6 * (i : Int) + 1 + 1 + 1 + 1 + 1 + 1 := by omega
    unfold l_laws_markSkyBlockS_0; simp (config := { maxSteps := 2000000 }) only [bitvec_to_nat, reduceIte, Nat.reduceEqDiff, Nat.reduceAdd, Nat.reduceLeDiff, reduceCtorEq, Nat.reduceBEq, Nat.reduceLT, Nat.reduceMod, List.forall_mem_cons, retG_ret, retQ_eq, retQ_eqN, retOk, keepB, re_tupl, orr_t, setm_Blk0, setm_Blk1, setm_Blk2, setm_Blk3, setm_Blk4, setm_Blk5, List.set_set, gs, Blk.row, irow, srow, Int.toNat_natCast, List.length_map, List.length_set, Nat.sub_zero, Nat.zero_add, hz]
    repeat' (first | with_reducible apply And.intro | with_reducible intro _)
    all_goals first
      | omega
      | (refine hN (i + 1, l.set i (mk_Blk (k + 6 * (i : Int)))) _ (by simp only [e5]; simp only [u_E0, u_E1, u_M0, u_M1, w_setE0, w_setE1, w_setM0, w_setM1, reduceIte, Nat.reduceEqDiff]; exact ⟨by repeat' (first | exact trivial | refine ⟨.inr rfl, ?_⟩), by repeat' (first | exact trivial | refine ⟨rfl, ?_⟩), by first | rfl | simp [closedB, refsIn, refsInL, refsInO, dom, refsInL_nr, *], by first | rfl | simp [keepB, dom]⟩) ⟨by simp only [List.length_set]; exact h1, hi, fun j hj => ?_⟩ (by simp only; omega)
         simp only at hj ⊢
         by_cases e : j = i
         · subst e; exact getD_seti' (by omega)
         · rw [getD_setn' (Ne.symm e)]; exact h3 j (by omega))
      | (exfalso; omega)
  · have hl : l = ms_Blk k a.length := ext_of (by rw [ms_Blk_len]; exact h1) fun j hj => by rw [ms_Blk_get (by omega)]; exact h3 j (by omega)
    have hi' : ¬ (i : Int) < a.length := by omega
    unfold l_laws_markSkyBlockS_0; simp (config := { maxSteps := 2000000 }) only [bitvec_to_nat, reduceIte, Nat.reduceEqDiff, Nat.reduceAdd, Nat.reduceLeDiff, reduceCtorEq, Nat.reduceBEq, Nat.reduceLT, Nat.reduceMod, List.forall_mem_cons, retG_ret, retQ_eq, retQ_eqN, retOk, keepB, re_tupl, orr_t, setm_Blk0, setm_Blk1, setm_Blk2, setm_Blk3, setm_Blk4, setm_Blk5, List.set_set, gs, Blk.row, irow, srow, Int.toNat_natCast, List.length_map, List.length_set, Nat.sub_zero, Nat.zero_add, hz, hi']
    refine ⟨by omega, ?_⟩
    rw [hl]
theorem g_markBlkS (v : Nat) (k : Int) (a : List Blk) (ha : a.length ≤ 1048577) (hk : 0 ≤ k ∧ k ≤ 1125899906842624) : Contract P 145 [.own 3 v 0 a.length, .int .i64 k] [(3, .arr 113 v 6 (a.map Blk.row))] (.int .i64 (k + 6 * a.length)) [(3, .gone)] :=
  (c_markBlkS v k a ha hk).gone rfl
def mk_Rw (k : Int) : Rw := ⟨mtx (k), k + 1, k + 1 + 1, k + 1 + 1 + 1⟩
def ms_Rw (k : Int) (n : Nat) : List Rw := (List.range n).map fun j : Nat => mk_Rw (k + 4 * (j : Int))
theorem ms_Rw_len {k : Int} {n : Nat} : (ms_Rw k n).length = n := by simp [ms_Rw]
theorem ms_Rw_get {k : Int} {n j : Nat} (h : j < n) : (ms_Rw k n).getD j default = mk_Rw (k + 4 * (j : Int)) := by simp [ms_Rw, h]
theorem setm_Rw0 {l : List Rw} {i : Nat} {v : ByteArray} : (l.map Rw.row).set i (setSeg ((l.map Rw.row).getD i []) 0 [.str v]) = (l.set i { l.getD i default with nm := v }).map Rw.row :=
  set_rows (α := Rw) (f := Rw.row) (fun s => { s with nm := v }) fun x => by simp [Rw.row, setSeg]
theorem setm_Rw1 {l : List Rw} {i : Nat} {v : Int} : (l.map Rw.row).set i (setSeg ((l.map Rw.row).getD i []) 1 [.int .i64 v]) = (l.set i { l.getD i default with x := v }).map Rw.row :=
  set_rows (α := Rw) (f := Rw.row) (fun s => { s with x := v }) fun x => by simp [Rw.row, setSeg]
theorem setm_Rw2 {l : List Rw} {i : Nat} {v : Int} : (l.map Rw.row).set i (setSeg ((l.map Rw.row).getD i []) 2 [.int .i64 v]) = (l.set i { l.getD i default with y := v }).map Rw.row :=
  set_rows (α := Rw) (f := Rw.row) (fun s => { s with y := v }) fun x => by simp [Rw.row, setSeg]
theorem setm_Rw3 {l : List Rw} {i : Nat} {v : Int} : (l.map Rw.row).set i (setSeg ((l.map Rw.row).getD i []) 3 [.int .i64 v]) = (l.set i { l.getD i default with tn := v }).map Rw.row :=
  set_rows (α := Rw) (f := Rw.row) (fun s => { s with tn := v }) fun x => by simp [Rw.row, setSeg]
set_option maxHeartbeats 1000000 in
theorem c_markRwS (v : Nat) (k : Int) (a : List Rw) (ha : a.length ≤ 1048577) (hk : 0 ≤ k ∧ k ≤ 1125899906842624) : Contract P 99 [.own 3 v 0 a.length, .int .i64 k] [(3, .arr 118 v 4 (a.map Rw.row))] (.int .i64 (k + 4 * a.length)) [(3, .arr 118 v 4 ((ms_Rw k a.length).map Rw.row))] := by
  have hz : ((0 : Nat) : Int) = 0 := rfl
  have gs : True := trivial
  refine fn_sound ((Env.nil P).add 100 t_markText h_markText) hm k_laws_markSkyRunwayS (Nat.le_of_ble_eq_true rfl) rfl ?_; unfold s_laws_markSkyRunwayS; simp (config := { maxSteps := 2000000 }) only [bitvec_to_nat, reduceIte, Nat.reduceEqDiff, Nat.reduceAdd, Nat.reduceLeDiff, reduceCtorEq, Nat.reduceBEq, Nat.reduceLT, Nat.reduceMod, List.forall_mem_cons, retG_ret, retQ_eq, retQ_eqN, retOk, keepB, re_tupl, orr_t, t_markText, setm_Rw0, setm_Rw1, setm_Rw2, setm_Rw3, List.set_set, gs, Rw.row, irow, srow, Int.toNat_natCast, List.length_map, List.length_set, Nat.sub_zero, Nat.zero_add, hz]
  refine loop_st (fun b : Nat × List Rw => [(1, .int .i64 (k + 4 * b.1)), (5, .int .i64 b.1)]) (fun b => [(3, .arr 118 v 4 (b.2.map Rw.row))]) (fun b => b.2.length = a.length ∧ b.1 ≤ a.length ∧ ∀ j, j < b.1 → b.2.getD j default = mk_Rw (k + 4 * (j : Int))) (fun b => a.length - b.1) (0, a) ?_ ⟨rfl, Nat.zero_le _, fun j hj => absurd hj (Nat.not_lt_zero _)⟩ ?_
  · have e0 : k + 4 * ((0 : Nat) : Int) = k := by omega
    simp only [e0]
    simp only [u_E0, u_E1, u_M0, u_M1, w_setE0, w_setE1, w_setM0, w_setM1, reduceIte, Nat.reduceEqDiff]; exact ⟨by repeat' (first | exact trivial | refine ⟨.inr rfl, ?_⟩), by repeat' (first | exact trivial | refine ⟨rfl, ?_⟩), by first | rfl | simp [closedB, refsIn, refsInL, refsInO, dom, refsInL_nr, *], by first | rfl | simp [keepB, dom]⟩
  rintro ⟨i, l⟩ ⟨h1, h2, h3⟩ NX hN
  simp only at h1 h2 h3
  have gs : i < a.length → ∀ x : Rw, (l.set i x).getD i default = x := fun h x => getD_seti' (by omega)
  by_cases hi : i < a.length
  · have gs := gs hi
    have e5 : k + 4 * ((i + 1 : Nat) : Int) = k + 4 * (i : Int) + 1 + 1 + 1 + 1 := by omega
    unfold l_laws_markSkyRunwayS_0; simp (config := { maxSteps := 2000000 }) only [bitvec_to_nat, reduceIte, Nat.reduceEqDiff, Nat.reduceAdd, Nat.reduceLeDiff, reduceCtorEq, Nat.reduceBEq, Nat.reduceLT, Nat.reduceMod, List.forall_mem_cons, retG_ret, retQ_eq, retQ_eqN, retOk, keepB, re_tupl, orr_t, t_markText, setm_Rw0, setm_Rw1, setm_Rw2, setm_Rw3, List.set_set, gs, Rw.row, irow, srow, Int.toNat_natCast, List.length_map, List.length_set, Nat.sub_zero, Nat.zero_add, hz]
    repeat' (first | with_reducible apply And.intro | with_reducible intro _)
    all_goals first
      | omega
      | (refine hN (i + 1, l.set i (mk_Rw (k + 4 * (i : Int)))) _ (by simp only [e5]; simp only [u_E0, u_E1, u_M0, u_M1, w_setE0, w_setE1, w_setM0, w_setM1, reduceIte, Nat.reduceEqDiff]; exact ⟨by repeat' (first | exact trivial | refine ⟨.inr rfl, ?_⟩), by repeat' (first | exact trivial | refine ⟨rfl, ?_⟩), by first | rfl | simp [closedB, refsIn, refsInL, refsInO, dom, refsInL_nr, *], by first | rfl | simp [keepB, dom]⟩) ⟨by simp only [List.length_set]; exact h1, hi, fun j hj => ?_⟩ (by simp only; omega)
         simp only at hj ⊢
         by_cases e : j = i
         · subst e; exact getD_seti' (by omega)
         · rw [getD_setn' (Ne.symm e)]; exact h3 j (by omega))
      | (exfalso; omega)
  · have hl : l = ms_Rw k a.length := ext_of (by rw [ms_Rw_len]; exact h1) fun j hj => by rw [ms_Rw_get (by omega)]; exact h3 j (by omega)
    have hi' : ¬ (i : Int) < a.length := by omega
    unfold l_laws_markSkyRunwayS_0; simp (config := { maxSteps := 2000000 }) only [bitvec_to_nat, reduceIte, Nat.reduceEqDiff, Nat.reduceAdd, Nat.reduceLeDiff, reduceCtorEq, Nat.reduceBEq, Nat.reduceLT, Nat.reduceMod, List.forall_mem_cons, retG_ret, retQ_eq, retQ_eqN, retOk, keepB, re_tupl, orr_t, t_markText, setm_Rw0, setm_Rw1, setm_Rw2, setm_Rw3, List.set_set, gs, Rw.row, irow, srow, Int.toNat_natCast, List.length_map, List.length_set, Nat.sub_zero, Nat.zero_add, hz, hi']
    refine ⟨by omega, ?_⟩
    rw [hl]
theorem g_markRwS (v : Nat) (k : Int) (a : List Rw) (ha : a.length ≤ 1048577) (hk : 0 ≤ k ∧ k ≤ 1125899906842624) : Contract P 99 [.own 3 v 0 a.length, .int .i64 k] [(3, .arr 118 v 4 (a.map Rw.row))] (.int .i64 (k + 4 * a.length)) [(3, .gone)] :=
  (c_markRwS v k a ha hk).gone rfl
end
end Go.Ve

namespace Go.Ve
noncomputable section
open Go.Proofs
set_option linter.unusedSimpArgs false
set_option linter.unusedVariables false
set_option maxRecDepth 100000
theorem keep_self {M : List (Nat × AObj)} : keepB M M = true := by
  unfold keepB
  rw [List.all_eq_true]
  intro o ho
  simp only [Bool.or_eq_true]
  right; simpa using ho
theorem wk_fam {k : Nat} {l : List NRow} {o : Nat} {x : AObj} (hf : isFam k l) (ho : o < 1000) : wkM ((o, x) :: nobjs l) (nobjs l) := by
  refine wkM_nobjs hf fun j hj => ?_
  simp only [getM, fam_ne ho, if_false]
  exact nobjs_fam hf hj
theorem fam_100 {k o e sz : Nat} {y : AObj} {x : List (ByteArray × List (List AV))} (hk : k < 100) (ho : o < 100) : (dom ((o, y) :: nobjs (nfam k e sz x))).all (decide <| · % 1000 < 100) = true := by
  rw [List.all_eq_true]
  intro q hq
  simp only [dom, List.map_cons, List.mem_cons] at hq
  rcases hq with rfl | hq
  · simp; omega
  · obtain ⟨p, hp, rfl⟩ := List.mem_map.1 hq
    obtain ⟨i, _, rfl⟩ := nfam_at hp
    simp only [decide_eq_true_eq, fam_mod (show k < 1000 by omega)]; exact hk
def flatObs (l : List NRow) : Prop := ∀ i, i < l.length → (l.getD i default).ob = .gone ∨ ∃ e v sz xs, e < 1000000 ∧ (l.getD i default).ob = .arr e v sz xs
theorem flatObs_all {l : List NRow} {d : List Nat} (h : flatObs l) : ((nobjs l).all fun p => refsInO d p.2) = true := by
  rw [List.all_eq_true]
  intro p hp
  obtain ⟨r, hr, rfl⟩ := List.mem_map.1 hp
  obtain ⟨i, hi, rfl⟩ := List.mem_iff_getElem.1 hr
  have := h i hi
  simp only [List.getD_eq_getElem?_getD, List.getElem?_eq_getElem hi, Option.getD_some] at this
  rcases this with h | ⟨e, v, sz, xs, he, h⟩
  · show refsInO d l[i].ob = true; rw [h]; rfl
  · show refsInO d l[i].ob = true; rw [h]; simp only [refsInO, he, if_true]
theorem dom_rows {l : List NRow} {o : Nat} {x : AObj} : ∀ r ∈ l, (dom ((o, x) :: nobjs l)).contains r.o = true := fun r hr => by
  simp only [dom, List.map_cons, List.contains_cons, Bool.or_eq_true]
  right
  simp only [List.contains_iff_mem, nobjs, List.map_map, List.mem_map]
  exact ⟨r, hr, rfl⟩
theorem nobjs_all {l : List NRow} {o T : Nat} {y : AObj} (h : flatObs l) : (((o, AObj.arr (1000000 + T) 0 2 (l.map NRow.row)) :: nobjs l).all fun p => refsInO (dom ((o, y) :: nobjs l)) p.2) = true := by
  simp only [List.all_cons, Bool.and_eq_true]
  refine ⟨?_, flatObs_all h⟩
  simp only [refsInO]
  rw [if_neg (by omega)]
  exact refs_rows dom_rows
theorem setm_NRow {l : List NRow} {i : Nat} {v : ByteArray} : (l.map NRow.row).set i (setSeg ((l.map NRow.row).getD i []) 0 [.str v]) = (l.set i { l.getD i default with nm := v }).map NRow.row :=
  set_rows (α := NRow) (f := NRow.row) (fun s => { s with nm := v }) fun x => by simp [NRow.row, setSeg]
theorem gone_fam {k : Nat} {l m : List NRow} (hl : isFam k l) (hm : isFam k m) (h : l.length = m.length) : (nobjs l).map (fun p => (p.1, AObj.gone)) = (nobjs m).map (fun p => (p.1, AObj.gone)) := by
  refine List.ext_getElem (by simp [nobjs, h]) fun i h1 h2 => ?_
  have h1' : i < l.length := by simpa [nobjs] using h1
  have h2' : i < m.length := by omega
  have := hl i h1'
  have h3 := hm i h2'
  simp only [List.getD_eq_getElem?_getD, List.getElem?_eq_getElem h1', List.getElem?_eq_getElem h2', Option.getD_some] at this h3
  simp [nobjs, this, h3]
def ct_Aw (a : List Aw) (i : Nat) : Nat := ((a.take i).map fun x => 1 + x.pts.length).sum
theorem ct_Aw_succ {a : List Aw} {i : Nat} (h : i < a.length) : ct_Aw a (i + 1) = ct_Aw a i + (1 + (a.getD i default).pts.length) := by
  unfold ct_Aw
  rw [List.take_succ_eq_append_getElem h, List.map_append, List.sum_append]; simp [h]
theorem ct_Aw_le {a : List Aw} (hs : ∀ x ∈ a, x.small) {i : Nat} (h : i ≤ a.length) : ct_Aw a i ≤ i * 6291457 := by
  induction i with
  | zero => simp [ct_Aw]
  | succ i ih =>
    have h' := ih (by omega)
    have := hs _ (getD_mem' (show i < a.length from h))
    unfold Aw.small at this
    rw [ct_Aw_succ h]; omega
set_option maxHeartbeats 2000000 in
theorem g_markAwS (k : Int) (a : List Aw) (ha : a.length ≤ 1048577) (hs : ∀ x ∈ a, x.small) (hk : 0 ≤ k ∧ k ≤ 35184372088832) : Contract P 97 [.own 3 0 0 a.length, .int .i64 k] ((3, .arr (1000000 + 108) 0 2 ((nfam 7 9 1 (a.map awP)).map NRow.row)) :: nobjs (nfam 7 9 1 (a.map awP)))
    (.int .i64 (k + ct_Aw a a.length)) (((3, .arr (1000000 + 108) 0 2 ((nfam 7 9 1 (a.map awP)).map NRow.row)) :: nobjs (nfam 7 9 1 (a.map awP))).map fun p => (p.1, .gone)) := by
  have hz : ((0 : Nat) : Int) = 0 := rfl
  have gs : True := trivial
  have hli : True := trivial
  have hgm : True := trivial
  have hrw : True := trivial
  have hs1 : True := trivial
  suffices hC : ∃ l : List NRow, (isFam 7 l ∧ l.length = a.length) ∧ Contract P 97 [.own 3 0 0 a.length, .int .i64 k] ((3, .arr (1000000 + 108) 0 2 ((nfam 7 9 1 (a.map awP)).map NRow.row)) :: nobjs (nfam 7 9 1 (a.map awP)))
      (.int .i64 (k + ct_Aw a a.length)) ((3, .arr (1000000 + 108) 0 2 (l.map NRow.row)) :: nobjs l) by
    obtain ⟨l, ⟨h1, h2⟩, h3⟩ := hC
    have h4 := h3.gone rfl
    simp only [List.map_cons] at h4 ⊢
    rw [gone_fam h1 (nfam_fam (k := 7) (e := 9) (sz := 1) (l := a.map awP)) (by rw [nfam_len, List.length_map]; exact h2)] at h4
    exact h4
  refine fn_choose ((Env.nil P).add 100 t_markText h_markText) hm k_laws_markSkyAirwayS (Nat.le_of_ble_eq_true rfl) ?_ (fun l : List NRow => isFam 7 l ∧ l.length = a.length) (fun _ => .int .i64 (k + ct_Aw a a.length)) (fun l => (3, .arr (1000000 + 108) 0 2 (l.map NRow.row)) :: nobjs l) ?_
  · exact fam_100 (by omega) (by omega)
  unfold s_laws_markSkyAirwayS
  simp (config := { maxSteps := 2000000 }) only [bitvec_to_nat, reduceIte, Nat.reduceEqDiff, Nat.reduceAdd, Nat.reduceLeDiff, reduceCtorEq, Nat.reduceBEq, Nat.reduceLT, Nat.reduceMod, List.forall_mem_cons, retG_ret, retQ_eq, retQ_eqN, retOk, keepB, re_tupl, orr_t, t_markText, NRow.row, setm_NRow, gs, hli, hgm, hrw, Int.toNat_natCast, List.length_map, List.length_set, Nat.sub_zero, Nat.zero_add, hz, fam_ne, fam_ne', hs1, List.set_set]
  refine loop_F (fun b : Nat × List NRow => ⟨[(0, .own 3 0 0 a.length), (1, .int .i64 (k + ct_Aw a b.1)), (5, .int .i64 b.1)], (3, .arr (1000000 + 108) 0 2 (b.2.map NRow.row)) :: nobjs b.2⟩)
    (fun b => b.1 ≤ a.length ∧ b.2.length = a.length ∧ isFam 7 b.2 ∧ flatObs b.2 ∧ ∀ j, b.1 ≤ j → j < a.length → b.2.getD j default = ⟨(a.getD j default).nm, (a.getD j default).pts.length, fam 7 j, .arr 9 0 1 ((a.getD j default).pts.map srow)⟩)
    (fun b => a.length - b.1) (0, nfam 7 9 1 (a.map awP)) ?_ ⟨Nat.zero_le _, by rw [nfam_len, List.length_map], nfam_fam, fun i hi => ?_, fun j _ hj => ?_⟩ ?_
  · have e0 : k + ((ct_Aw a 0 : Nat) : Int) = k := by simp [ct_Aw]
    simp only [e0]
    refine ⟨by repeat' (first | exact trivial | refine ⟨.inr rfl, ?_⟩), ⟨rfl, wk_fam nfam_fam (by omega)⟩, ?_, keep_self⟩
    simp only [closedB, List.all_cons, Bool.and_eq_true]
    exact ⟨⟨by simp [refsIn, dom], rfl, rfl, rfl⟩, by simpa only [List.all_cons, Bool.and_eq_true] using fam_refs (k := 7) (o := 3) (e := 9) (sz := 1) (x := a.map awP) (T := 108) (y := .arr (1000000 + 108) 0 2 ((nfam 7 9 1 (a.map awP)).map NRow.row)) (by omega)⟩
  · have hi' : i < a.length := by simpa [nfam_len] using hi
    rw [nfam_get (by simpa using hi')]
    exact .inr ⟨_, _, _, _, by omega, rfl⟩
  · rw [nfam_get (by simpa using hj)]
    simp [awP, hj]
  rintro ⟨i, l⟩ ⟨h1, h2, h3, h4, h5⟩ NX hN
  simp only at h1 h2 h3 h4 h5
  have hct := ct_Aw_le hs h1
  by_cases hi : i < a.length
  · have hli := h5 i (Nat.le_refl _) hi
    have hil : i < l.length := by omega
    have hx := hs _ (getD_mem' hi)
    unfold Aw.small at hx
    have hgm : getM (nobjs l) (fam 7 i) = some (.arr 9 0 1 ((a.getD i default).pts.map srow)) := by rw [nobjs_fam h3 hil, hli]
    have gs : ∀ x : NRow, (l.set i x).getD i default = x := fun x => getD_seti' hil
    have e5 : k + ((ct_Aw a (i + 1) : Nat) : Int) = k + (ct_Aw a i : Int) + 1 + ((a.getD i default).pts.length : Int) := by rw [ct_Aw_succ hi]; omega
    unfold l_laws_markSkyAirwayS_0; simp (config := { maxSteps := 2000000 }) only [bitvec_to_nat, reduceIte, Nat.reduceEqDiff, Nat.reduceAdd, Nat.reduceLeDiff, reduceCtorEq, Nat.reduceBEq, Nat.reduceLT, Nat.reduceMod, List.forall_mem_cons, retG_ret, retQ_eq, retQ_eqN, retOk, keepB, re_tupl, orr_t, t_markText, NRow.row, setm_NRow, gs, hli, hgm, hrw, Int.toNat_natCast, List.length_map, List.length_set, Nat.sub_zero, Nat.zero_add, hz, fam_ne, fam_ne', hs1, List.set_set]
    have hM := (g_markByteArrayS 0 (k + ct_Aw a i + 1) (a.getD i default).pts (by omega) (by omega)).ren (swp 3 (fam 7 i)) (swp_swp _ _)
    simp only [renL, ren, renM, renO, swp, reduceIte, Nat.reduceLT] at hM
    refine ⟨fun _ => ⟨by omega, by omega, by omega, by omega, hil, _, _, .inl ⟨_, hM, by simp [getM, fam_ne, hgm], by simp [dom], by simp [dom], by simp [refsInL, refsIn, dom], by simp [refsInO], rfl, by simp [refsInO]⟩, ?_⟩, fun h => absurd (by omega) h⟩
    have hs1 : setM (nobjs l) (fam 7 i) .gone = nobjs (l.set i ⟨mtx (k + ct_Aw a i), (a.getD i default).pts.length, fam 7 i, .gone⟩) := by
      rw [setM_fam h3 hil, hli]; simp [nobjs, List.map_set]
    have hrw : (l.set i ⟨mtx (k + ct_Aw a i), (a.getD i default).pts.length, fam 7 i, .arr 9 0 1 ((a.getD i default).pts.map srow)⟩).map NRow.row = (l.set i ⟨mtx (k + ct_Aw a i), (a.getD i default).pts.length, fam 7 i, .gone⟩).map NRow.row := by
      simp [List.map_set, NRow.row]
    simp (config := { maxSteps := 2000000 }) only [bitvec_to_nat, reduceIte, Nat.reduceEqDiff, Nat.reduceAdd, Nat.reduceLeDiff, reduceCtorEq, Nat.reduceBEq, Nat.reduceLT, Nat.reduceMod, List.forall_mem_cons, retG_ret, retQ_eq, retQ_eqN, retOk, keepB, re_tupl, orr_t, t_markText, NRow.row, setm_NRow, gs, hli, hgm, hrw, Int.toNat_natCast, List.length_map, List.length_set, Nat.sub_zero, Nat.zero_add, hz, fam_ne, fam_ne', hs1, List.set_set]
    rw [← e5]
    have hf' : isFam 7 (l.set i ⟨mtx (k + ct_Aw a i), (a.getD i default).pts.length, fam 7 i, .gone⟩) := fun j hj => by
      by_cases e : j = i
      · subst e; rw [gs]
      · rw [getD_setn' (Ne.symm e)]; exact h3 j (by simpa using hj)
    have ho' : flatObs (l.set i ⟨mtx (k + ct_Aw a i), (a.getD i default).pts.length, fam 7 i, .gone⟩) := fun j hj => by
      by_cases e : j = i
      · subst e; rw [gs]; exact .inl rfl
      · rw [getD_setn' (Ne.symm e)]; exact h4 j (by simpa using hj)
    refine ⟨by omega, hN (i + 1, l.set i ⟨mtx (k + ct_Aw a i), (a.getD i default).pts.length, fam 7 i, .gone⟩) _ ⟨by repeat' (first | exact trivial | refine ⟨.inr rfl, ?_⟩), ⟨rfl, wk_fam hf' (by omega)⟩, ?_, keep_self⟩ ⟨hi, by rw [List.length_set]; exact h2, hf', ho', fun j h6 h7 => ?_⟩ (by simp only; omega)⟩
    · simp only [closedB, List.all_cons, Bool.and_eq_true]
      exact ⟨⟨by simp [refsIn, dom], rfl, rfl, rfl⟩, by simpa only [List.all_cons, Bool.and_eq_true] using nobjs_all (T := 108) (o := 3) (y := .arr (1000000 + 108) 0 2 ((l.set i ⟨mtx (k + ct_Aw a i), (a.getD i default).pts.length, fam 7 i, .gone⟩).map NRow.row)) ho'⟩
    · simp only at h6 ⊢
      rw [getD_setn' (by omega)]; exact h5 j (by omega) h7
  · have hi' : ¬ (i : Int) < a.length := by omega
    have e : i = a.length := by omega
    subst e
    unfold l_laws_markSkyAirwayS_0; simp (config := { maxSteps := 2000000 }) only [bitvec_to_nat, reduceIte, Nat.reduceEqDiff, Nat.reduceAdd, Nat.reduceLeDiff, reduceCtorEq, Nat.reduceBEq, Nat.reduceLT, Nat.reduceMod, List.forall_mem_cons, retG_ret, retQ_eq, retQ_eqN, retOk, keepB, re_tupl, orr_t, t_markText, NRow.row, setm_NRow, gs, hli, hgm, hrw, Int.toNat_natCast, List.length_map, List.length_set, Nat.sub_zero, Nat.zero_add, hz, fam_ne, fam_ne', hs1, List.set_set, hi']
    exact ⟨l, ⟨h3, h2⟩, ⟨rfl, wk_fam h3 (by omega)⟩, nobjs_all (T := 108) (o := 3) (y := .gone) h4, keep_self (M := (3, .gone) :: nobjs l)⟩
def ct_Sec (a : List Sec) (i : Nat) : Nat := ((a.take i).map fun x => 1 + 6 * x.bl.length).sum
theorem ct_Sec_succ {a : List Sec} {i : Nat} (h : i < a.length) : ct_Sec a (i + 1) = ct_Sec a i + (1 + 6 * (a.getD i default).bl.length) := by
  unfold ct_Sec
  rw [List.take_succ_eq_append_getElem h, List.map_append, List.sum_append]; simp [h]
theorem ct_Sec_le {a : List Sec} (hs : ∀ x ∈ a, x.small) {i : Nat} (h : i ≤ a.length) : ct_Sec a i ≤ i * 6291457 := by
  induction i with
  | zero => simp [ct_Sec]
  | succ i ih =>
    have h' := ih (by omega)
    have := hs _ (getD_mem' (show i < a.length from h))
    unfold Sec.small at this
    rw [ct_Sec_succ h]; omega
set_option maxHeartbeats 2000000 in
theorem g_markSecS (k : Int) (a : List Sec) (ha : a.length ≤ 1048577) (hs : ∀ x ∈ a, x.small) (hk : 0 ≤ k ∧ k ≤ 35184372088832) : Contract P 98 [.own 3 0 0 a.length, .int .i64 k] ((3, .arr (1000000 + 111) 0 2 ((nfam 7 113 6 (a.map secP)).map NRow.row)) :: nobjs (nfam 7 113 6 (a.map secP)))
    (.int .i64 (k + ct_Sec a a.length)) (((3, .arr (1000000 + 111) 0 2 ((nfam 7 113 6 (a.map secP)).map NRow.row)) :: nobjs (nfam 7 113 6 (a.map secP))).map fun p => (p.1, .gone)) := by
  have hz : ((0 : Nat) : Int) = 0 := rfl
  have gs : True := trivial
  have hli : True := trivial
  have hgm : True := trivial
  have hrw : True := trivial
  have hs1 : True := trivial
  suffices hC : ∃ l : List NRow, (isFam 7 l ∧ l.length = a.length) ∧ Contract P 98 [.own 3 0 0 a.length, .int .i64 k] ((3, .arr (1000000 + 111) 0 2 ((nfam 7 113 6 (a.map secP)).map NRow.row)) :: nobjs (nfam 7 113 6 (a.map secP)))
      (.int .i64 (k + ct_Sec a a.length)) ((3, .arr (1000000 + 111) 0 2 (l.map NRow.row)) :: nobjs l) by
    obtain ⟨l, ⟨h1, h2⟩, h3⟩ := hC
    have h4 := h3.gone rfl
    simp only [List.map_cons] at h4 ⊢
    rw [gone_fam h1 (nfam_fam (k := 7) (e := 113) (sz := 6) (l := a.map secP)) (by rw [nfam_len, List.length_map]; exact h2)] at h4
    exact h4
  refine fn_choose ((Env.nil P).add 100 t_markText h_markText) hm k_laws_markSkySectorS (Nat.le_of_ble_eq_true rfl) ?_ (fun l : List NRow => isFam 7 l ∧ l.length = a.length) (fun _ => .int .i64 (k + ct_Sec a a.length)) (fun l => (3, .arr (1000000 + 111) 0 2 (l.map NRow.row)) :: nobjs l) ?_
  · exact fam_100 (by omega) (by omega)
  unfold s_laws_markSkySectorS
  simp (config := { maxSteps := 2000000 }) only [bitvec_to_nat, reduceIte, Nat.reduceEqDiff, Nat.reduceAdd, Nat.reduceLeDiff, reduceCtorEq, Nat.reduceBEq, Nat.reduceLT, Nat.reduceMod, List.forall_mem_cons, retG_ret, retQ_eq, retQ_eqN, retOk, keepB, re_tupl, orr_t, t_markText, NRow.row, setm_NRow, gs, hli, hgm, hrw, Int.toNat_natCast, List.length_map, List.length_set, Nat.sub_zero, Nat.zero_add, hz, fam_ne, fam_ne', hs1, List.set_set]
  refine loop_F (fun b : Nat × List NRow => ⟨[(0, .own 3 0 0 a.length), (1, .int .i64 (k + ct_Sec a b.1)), (5, .int .i64 b.1)], (3, .arr (1000000 + 111) 0 2 (b.2.map NRow.row)) :: nobjs b.2⟩)
    (fun b => b.1 ≤ a.length ∧ b.2.length = a.length ∧ isFam 7 b.2 ∧ flatObs b.2 ∧ ∀ j, b.1 ≤ j → j < a.length → b.2.getD j default = ⟨(a.getD j default).nm, (a.getD j default).bl.length, fam 7 j, .arr 113 0 6 ((a.getD j default).bl.map Blk.row)⟩)
    (fun b => a.length - b.1) (0, nfam 7 113 6 (a.map secP)) ?_ ⟨Nat.zero_le _, by rw [nfam_len, List.length_map], nfam_fam, fun i hi => ?_, fun j _ hj => ?_⟩ ?_
  · have e0 : k + ((ct_Sec a 0 : Nat) : Int) = k := by simp [ct_Sec]
    simp only [e0]
    refine ⟨by repeat' (first | exact trivial | refine ⟨.inr rfl, ?_⟩), ⟨rfl, wk_fam nfam_fam (by omega)⟩, ?_, keep_self⟩
    simp only [closedB, List.all_cons, Bool.and_eq_true]
    exact ⟨⟨by simp [refsIn, dom], rfl, rfl, rfl⟩, by simpa only [List.all_cons, Bool.and_eq_true] using fam_refs (k := 7) (o := 3) (e := 113) (sz := 6) (x := a.map secP) (T := 111) (y := .arr (1000000 + 111) 0 2 ((nfam 7 113 6 (a.map secP)).map NRow.row)) (by omega)⟩
  · have hi' : i < a.length := by simpa [nfam_len] using hi
    rw [nfam_get (by simpa using hi')]
    exact .inr ⟨_, _, _, _, by omega, rfl⟩
  · rw [nfam_get (by simpa using hj)]
    simp [secP, hj]
  rintro ⟨i, l⟩ ⟨h1, h2, h3, h4, h5⟩ NX hN
  simp only at h1 h2 h3 h4 h5
  have hct := ct_Sec_le hs h1
  by_cases hi : i < a.length
  · have hli := h5 i (Nat.le_refl _) hi
    have hil : i < l.length := by omega
    have hx := hs _ (getD_mem' hi)
    unfold Sec.small at hx
    have hgm : getM (nobjs l) (fam 7 i) = some (.arr 113 0 6 ((a.getD i default).bl.map Blk.row)) := by rw [nobjs_fam h3 hil, hli]
    have gs : ∀ x : NRow, (l.set i x).getD i default = x := fun x => getD_seti' hil
    have e5 : k + ((ct_Sec a (i + 1) : Nat) : Int) = k + (ct_Sec a i : Int) + 1 + 6 * ((a.getD i default).bl.length : Int) := by rw [ct_Sec_succ hi]; omega
    unfold l_laws_markSkySectorS_0; simp (config := { maxSteps := 2000000 }) only [bitvec_to_nat, reduceIte, Nat.reduceEqDiff, Nat.reduceAdd, Nat.reduceLeDiff, reduceCtorEq, Nat.reduceBEq, Nat.reduceLT, Nat.reduceMod, List.forall_mem_cons, retG_ret, retQ_eq, retQ_eqN, retOk, keepB, re_tupl, orr_t, t_markText, NRow.row, setm_NRow, gs, hli, hgm, hrw, Int.toNat_natCast, List.length_map, List.length_set, Nat.sub_zero, Nat.zero_add, hz, fam_ne, fam_ne', hs1, List.set_set]
    have hM := (g_markBlkS 0 (k + ct_Sec a i + 1) (a.getD i default).bl (by omega) (by omega)).ren (swp 3 (fam 7 i)) (swp_swp _ _)
    simp only [renL, ren, renM, renO, swp, reduceIte, Nat.reduceLT] at hM
    refine ⟨fun _ => ⟨by omega, by omega, by omega, by omega, hil, _, _, .inl ⟨_, hM, by simp [getM, fam_ne, hgm], by simp [dom], by simp [dom], by simp [refsInL, refsIn, dom], by simp [refsInO], rfl, by simp [refsInO]⟩, ?_⟩, fun h => absurd (by omega) h⟩
    have hs1 : setM (nobjs l) (fam 7 i) .gone = nobjs (l.set i ⟨mtx (k + ct_Sec a i), (a.getD i default).bl.length, fam 7 i, .gone⟩) := by
      rw [setM_fam h3 hil, hli]; simp [nobjs, List.map_set]
    have hrw : (l.set i ⟨mtx (k + ct_Sec a i), (a.getD i default).bl.length, fam 7 i, .arr 113 0 6 ((a.getD i default).bl.map Blk.row)⟩).map NRow.row = (l.set i ⟨mtx (k + ct_Sec a i), (a.getD i default).bl.length, fam 7 i, .gone⟩).map NRow.row := by
      simp [List.map_set, NRow.row]
    simp (config := { maxSteps := 2000000 }) only [bitvec_to_nat, reduceIte, Nat.reduceEqDiff, Nat.reduceAdd, Nat.reduceLeDiff, reduceCtorEq, Nat.reduceBEq, Nat.reduceLT, Nat.reduceMod, List.forall_mem_cons, retG_ret, retQ_eq, retQ_eqN, retOk, keepB, re_tupl, orr_t, t_markText, NRow.row, setm_NRow, gs, hli, hgm, hrw, Int.toNat_natCast, List.length_map, List.length_set, Nat.sub_zero, Nat.zero_add, hz, fam_ne, fam_ne', hs1, List.set_set]
    rw [← e5]
    have hf' : isFam 7 (l.set i ⟨mtx (k + ct_Sec a i), (a.getD i default).bl.length, fam 7 i, .gone⟩) := fun j hj => by
      by_cases e : j = i
      · subst e; rw [gs]
      · rw [getD_setn' (Ne.symm e)]; exact h3 j (by simpa using hj)
    have ho' : flatObs (l.set i ⟨mtx (k + ct_Sec a i), (a.getD i default).bl.length, fam 7 i, .gone⟩) := fun j hj => by
      by_cases e : j = i
      · subst e; rw [gs]; exact .inl rfl
      · rw [getD_setn' (Ne.symm e)]; exact h4 j (by simpa using hj)
    refine ⟨by omega, hN (i + 1, l.set i ⟨mtx (k + ct_Sec a i), (a.getD i default).bl.length, fam 7 i, .gone⟩) _ ⟨by repeat' (first | exact trivial | refine ⟨.inr rfl, ?_⟩), ⟨rfl, wk_fam hf' (by omega)⟩, ?_, keep_self⟩ ⟨hi, by rw [List.length_set]; exact h2, hf', ho', fun j h6 h7 => ?_⟩ (by simp only; omega)⟩
    · simp only [closedB, List.all_cons, Bool.and_eq_true]
      exact ⟨⟨by simp [refsIn, dom], rfl, rfl, rfl⟩, by simpa only [List.all_cons, Bool.and_eq_true] using nobjs_all (T := 111) (o := 3) (y := .arr (1000000 + 111) 0 2 ((l.set i ⟨mtx (k + ct_Sec a i), (a.getD i default).bl.length, fam 7 i, .gone⟩).map NRow.row)) ho'⟩
    · simp only at h6 ⊢
      rw [getD_setn' (by omega)]; exact h5 j (by omega) h7
  · have hi' : ¬ (i : Int) < a.length := by omega
    have e : i = a.length := by omega
    subst e
    unfold l_laws_markSkySectorS_0; simp (config := { maxSteps := 2000000 }) only [bitvec_to_nat, reduceIte, Nat.reduceEqDiff, Nat.reduceAdd, Nat.reduceLeDiff, reduceCtorEq, Nat.reduceBEq, Nat.reduceLT, Nat.reduceMod, List.forall_mem_cons, retG_ret, retQ_eq, retQ_eqN, retOk, keepB, re_tupl, orr_t, t_markText, NRow.row, setm_NRow, gs, hli, hgm, hrw, Int.toNat_natCast, List.length_map, List.length_set, Nat.sub_zero, Nat.zero_add, hz, fam_ne, fam_ne', hs1, List.set_set, hi']
    exact ⟨l, ⟨h3, h2⟩, ⟨rfl, wk_fam h3 (by omega)⟩, nobjs_all (T := 111) (o := 3) (y := .gone) h4, keep_self (M := (3, .gone) :: nobjs l)⟩
end
end Go.Ve

namespace Go.Ve
noncomputable section
open Go.Proofs
set_option linter.unusedSimpArgs false
set_option linter.unusedVariables false
set_option maxRecDepth 100000
def gone (l : List (Nat × AObj)) : List (Nat × AObj) := l.map fun p => (p.1, AObj.gone)
theorem dom_gone {l : List (Nat × AObj)} : dom (gone l) = dom l := by simp [dom, gone]
theorem gone_app {a b : List (Nat × AObj)} : gone (a ++ b) = gone a ++ gone b := by simp [gone]
theorem gone_refs {l : List (Nat × AObj)} {d : List Nat} : ((gone l).all fun p => refsInO d p.2) = true := by
  rw [List.all_eq_true]
  intro p hp
  obtain ⟨q, _, rfl⟩ := List.mem_map.1 hp
  rfl
theorem bigs_gone {l : List (Nat × AObj)} (h : bigs l) : bigs (gone l) := fun p hp => by
  obtain ⟨q, hq, rfl⟩ := List.mem_map.1 hp
  exact h q hq
theorem getM_gone {l : List (Nat × AObj)} {o : Nat} : getM (gone l) o = (getM l o).map fun _ => .gone := by
  induction l with
  | nil => rfl
  | cons p l ih =>
    obtain ⟨k, x⟩ := p
    simp only [gone, List.map_cons, getM] at ih ⊢
    split
    · rfl
    · exact ih
theorem callR_gone {f : FuncId} {args : List AV} {pre : List (Nat × AObj)} {r : AV} {M : Nat → Option AObj} (hC : Contract P f args pre r (gone pre)) (hM : ∀ p ∈ pre, M p.1 = some p.2) (ha : refsInL (dom pre) args = true) (hp : (pre.all fun p => refsInO (dom pre) p.2) = true) (hr : noref r = true) :
    callR P f args M r (gone pre) := by
  refine .inl ⟨pre, hC, hM, fun p hp => .inl ?_, ?_, ha, hp, refsIn_nr _ _ hr, gone_refs⟩
  · obtain ⟨q, hq, rfl⟩ := List.mem_map.1 hp
    simpa using dom_mem hq
  · rw [dom_gone, List.all_eq_true]
    intro o ho; simpa using ho
theorem aCons {U M : List (Nat × AObj)} {o : Nat} {x : AObj} (h : ∀ p ∈ U, p.1 ≠ o) : applyU ((o, x) :: M) U = (o, x) :: applyU M U := by
  induction U with
  | nil => rfl
  | cons p U ih =>
    show setM (applyU ((o, x) :: M) U) p.1 p.2 = _
    rw [ih fun q hq => h q (by simp [hq])]
    show setM ((o, x) :: applyU M U) p.1 p.2 = (o, x) :: setM (applyU M U) p.1 p.2
    simp only [setM]
    rw [if_neg (h p (by simp))]
theorem aOver {U B : List (Nat × AObj)} (h : U.Pairwise fun a b => a.1 ≠ b.1) : applyU (U ++ B) (gone U) = gone U ++ B := by
  induction U with
  | nil => rfl
  | cons p U ih =>
    rw [List.pairwise_cons] at h
    obtain ⟨k, x⟩ := p
    show setM (applyU ((k, x) :: (U ++ B)) (gone U)) k .gone = (k, .gone) :: (gone U ++ B)
    rw [aCons, ih h.2]
    · simp [setM]
    · intro q hq e
      obtain ⟨y, hy, rfl⟩ := List.mem_map.1 hq
      exact h.1 y hy e.symm
theorem aSkip {A U B : List (Nat × AObj)} (h : ∀ p ∈ U, getM A p.1 = none) : applyU (A ++ B) U = A ++ applyU B U := by
  induction A with
  | nil => rfl
  | cons p A ih =>
    obtain ⟨k, x⟩ := p
    rw [List.cons_append, aCons, ih]
    · rfl
    · intro p hp
      have := h p hp
      simp only [getM] at this
      split at this
      · cases this
      · exact this
    · intro p hp e
      have := h p hp
      simp [getM, e] at this
theorem markPt3 (k : Int) (s : Sky) (hs : s.small) (hk : 0 ≤ k ∧ k ≤ 1125899906842624) : Contract P 96 [.own 3 0 0 s.pts.length, .int .i64 k] [(3, .arr 103 0 3 (s.pts.map Pt.row))] (.int .i64 (k + 3 * s.pts.length)) [(3, .gone)] :=
  g_markPtS 0 k s.pts (by unfold Sky.small at hs; omega) hk
theorem markRw6 (k : Int) (s : Sky) (hs : s.small) (hk : 0 ≤ k ∧ k ≤ 1125899906842624) : Contract P 99 [.own 6 0 0 s.rws.length, .int .i64 k] [(6, .arr 118 0 4 (s.rws.map Rw.row))] (.int .i64 (k + 4 * s.rws.length)) [(6, .gone)] := by
  have h := (g_markRwS 0 k s.rws (by unfold Sky.small at hs; omega) hk).ren (swp 3 6) (swp_swp _ _)
  simp only [renL, ren, renM, renO, swp, reduceIte, Nat.reduceLT] at h
  exact h
def preA (s : Sky) : List (Nat × AObj) := (4, .arr (1000000 + 108) 0 2 ((fA 7 s).map NRow.row)) :: nobjs (fA 7 s)
def preS (s : Sky) : List (Nat × AObj) := (5, .arr (1000000 + 111) 0 2 ((fS 8 s).map NRow.row)) :: nobjs (fS 8 s)
theorem renM_gone {s : Nat → Nat} {l : List (Nat × AObj)} : renM s (gone l) = gone (renM s l) := by
  induction l with
  | nil => rfl
  | cons p l ih => obtain ⟨k, x⟩ := p; simp only [gone, List.map_cons, renM, renO] at ih ⊢; rw [ih]
theorem markAw4 (k : Int) (s : Sky) (hs : s.small) (hk : 0 ≤ k ∧ k ≤ 35184372088832) : Contract P 97 [.own 4 0 0 s.aws.length, .int .i64 k] (preA s) (.int .i64 (k + ct_Aw s.aws s.aws.length)) (gone (preA s)) := by
  unfold Sky.small at hs
  have h := (g_markAwS k s.aws (by omega) hs.2.1.2 hk).ren (swp 3 4) (swp_swp _ _)
  have e : renM (swp 3 4) ((3, .arr (1000000 + 108) 0 2 ((nfam 7 9 1 (s.aws.map awP)).map NRow.row)) :: nobjs (nfam 7 9 1 (s.aws.map awP))) = preA s := by
    simp only [renM, renO, swp, reduceIte, Nat.reduceLT, Nat.reduceAdd]
    rw [renM_nobjs, renRows, nfam_swp (by omega) (by omega) (by omega)]; rfl
  rw [show (((3, AObj.arr (1000000 + 108) 0 2 ((nfam 7 9 1 (s.aws.map awP)).map NRow.row)) :: nobjs (nfam 7 9 1 (s.aws.map awP))).map fun p => (p.1, AObj.gone)) = gone ((3, AObj.arr (1000000 + 108) 0 2 ((nfam 7 9 1 (s.aws.map awP)).map NRow.row)) :: nobjs (nfam 7 9 1 (s.aws.map awP))) from rfl, renM_gone, e] at h
  simpa only [renL, ren, swp, reduceIte] using h
theorem markSec5 (k : Int) (s : Sky) (hs : s.small) (hk : 0 ≤ k ∧ k ≤ 35184372088832) : Contract P 98 [.own 5 0 0 s.secs.length, .int .i64 k] (preS s) (.int .i64 (k + ct_Sec s.secs s.secs.length)) (gone (preS s)) := by
  unfold Sky.small at hs
  have h := ((g_markSecS k s.secs (by omega) hs.2.2.1.2 hk).ren (swp 3 5) (swp_swp _ _)).ren (swpF 7 8) (swpF_swpF (by omega) (by omega))
  have e5 : swpF 7 8 (swp 3 5 3) = 5 := rfl
  have e : renM (swpF 7 8) (renM (swp 3 5) ((3, .arr (1000000 + 111) 0 2 ((nfam 7 113 6 (s.secs.map secP)).map NRow.row)) :: nobjs (nfam 7 113 6 (s.secs.map secP)))) = preS s := by
    simp only [renM, renO, e5, reduceIte, Nat.reduceLT, Nat.reduceAdd]
    rw [renM_nobjs, renM_nobjs, renRows, renRows, nfam_swp (by omega) (by omega) (by omega), nfam_swpF (by omega) (by omega)]; rfl
  rw [show (((3, AObj.arr (1000000 + 111) 0 2 ((nfam 7 113 6 (s.secs.map secP)).map NRow.row)) :: nobjs (nfam 7 113 6 (s.secs.map secP))).map fun p => (p.1, AObj.gone)) = gone ((3, AObj.arr (1000000 + 111) 0 2 ((nfam 7 113 6 (s.secs.map secP)).map NRow.row)) :: nobjs (nfam 7 113 6 (s.secs.map secP))) from rfl, renM_gone, renM_gone, e] at h
  simpa only [renL, ren, e5] using h
theorem gpA {s : Sky} : gone (preA s) = (4, .gone) :: gone (nobjs (fA 7 s)) := rfl
theorem gpS {s : Sky} : gone (preS s) = (5, .gone) :: gone (nobjs (fS 8 s)) := rfl
theorem gone_fam_ne {k e sz o : Nat} {x : List (ByteArray × List (List AV))} (ho : o < 1000) : ∀ p ∈ gone (nobjs (nfam k e sz x)), p.1 ≠ o := fun p hp e9 => by
  have := bigs_gone (bigs_nfam (k := k) (e := e) (sz := sz) (x := x)) p hp
  omega
theorem apA {s : Sky} {x3 x4 x5 x6 : AObj} {B : List (Nat × AObj)} : applyU ((3, x3) :: (4, x4) :: (5, x5) :: (6, x6) :: (nobjs (fA 7 s) ++ B)) (gone (nobjs (fA 7 s))) = (3, x3) :: (4, x4) :: (5, x5) :: (6, x6) :: (gone (nobjs (fA 7 s)) ++ B) := by
  simp only [fA, fS]
  rw [aCons (gone_fam_ne (by omega)), aCons (gone_fam_ne (by omega)), aCons (gone_fam_ne (by omega)), aCons (gone_fam_ne (by omega)), aOver nfam_pw]
theorem apS {s : Sky} {x3 x4 x5 x6 : AObj} {B : List (Nat × AObj)} : applyU ((3, x3) :: (4, x4) :: (5, x5) :: (6, x6) :: (gone (nobjs (fA 7 s)) ++ (nobjs (fS 8 s) ++ B))) (gone (nobjs (fS 8 s))) = (3, x3) :: (4, x4) :: (5, x5) :: (6, x6) :: (gone (nobjs (fA 7 s)) ++ (gone (nobjs (fS 8 s)) ++ B)) := by
  simp only [fA, fS]
  rw [aCons (gone_fam_ne (by omega)), aCons (gone_fam_ne (by omega)), aCons (gone_fam_ne (by omega)), aCons (gone_fam_ne (by omega)), aSkip, aOver nfam_pw]
  intro p hp
  obtain ⟨q, hq, rfl⟩ := List.mem_map.1 hp
  obtain ⟨i, _, rfl⟩ := nfam_at hq
  rw [getM_gone, nfam_none (by omega) (by omega) (by omega)]; rfl
theorem keep_of {M M' : List (Nat × AObj)} (h : ∀ p ∈ M, 100 ≤ p.1 % 1000 ∨ p.1 ∈ dom M') : keepB M M' = true := by
  unfold keepB
  rw [List.all_eq_true]
  intro o ho
  obtain ⟨p, hp, rfl⟩ := List.mem_map.1 ho
  rcases h p hp with h | h
  · simp [h]
  · simp [h]
def cntSky (s : Sky) : Nat := 3 * s.pts.length + ct_Aw s.aws s.aws.length + ct_Sec s.secs s.secs.length + 4 * s.rws.length
theorem sky_100 {s : Sky} : (dom (skyM s 3 4 5 6 7 8)).all (decide <| · % 1000 < 100) = true := by
  rw [sky_dom, List.all_eq_true]
  intro o ho
  simp only [List.mem_cons, List.mem_append, List.mem_map] at ho
  rcases ho with rfl | rfl | rfl | rfl | ⟨r, hr, rfl⟩ | ⟨r, hr, rfl⟩
  · rfl
  · rfl
  · rfl
  · rfl
  · rw [nfam_mod (k := 7) (by omega) hr]; rfl
  · rw [nfam_mod (k := 8) (by omega) hr]; rfl
set_option maxHeartbeats 2000000 in
theorem g_markSky (k : Int) (s : Sky) (hs : s.small) (hk : 0 ≤ k ∧ k ≤ 1000000) : Contract P 27 [skyV s 3 4 5 6, .int .i64 k] (skyM s 3 4 5 6 7 8) (.int .i64 (k + cntSky s)) (gone (skyM s 3 4 5 6 7 8)) := by
  have hct := ct_Aw_le hs.2.1.2 (Nat.le_refl _)
  have hct2 := ct_Sec_le hs.2.2.1.2 (Nat.le_refl _)
  have bA : bigs (nobjs (fA 7 s)) := bigs_nfam
  have bS : bigs (nobjs (fS 8 s)) := bigs_nfam
  have bGA := bigs_gone bA
  have bGS := bigs_gone bS
  have hm := hs
  unfold Sky.small at hm
  refine fn_sound (Env.nil P) Go.Ve.hm k_laws_markSky (Nat.le_of_ble_eq_true rfl) sky_100 ?_; unfold s_laws_markSky
  simp (config := { maxSteps := 2000000 }) only [bitvec_to_nat, reduceIte, Nat.reduceEqDiff, Nat.reduceAdd, Nat.reduceLeDiff, reduceCtorEq, Nat.reduceBEq, Nat.reduceLT, Nat.reduceMod, List.forall_mem_cons, retG_ret, retQ_eq, retQ_eqN, retOk, keepB, re_tupl, orr_t, skyV, fam_ne, fam_ne', Nat.sub_zero, Nat.zero_add, gB, gB0, sB, sB0, bA, bS, List.append_assoc, List.cons_append, List.nil_append, List.append_nil, skyM, bGA, bGS, gpA, gpS, apA, apS]
  refine ⟨_, _, callR_gone (pre := [(3, .arr 103 0 3 (s.pts.map Pt.row))]) (markPt3 k s hs (by omega)) (by simp [getM]) (by simp [refsInL, refsIn, dom]) (by simp [refsInO]) rfl, ?_⟩
  simp only [gone, List.map_cons, List.map_nil]
  simp (config := { maxSteps := 2000000 }) only [bitvec_to_nat, reduceIte, Nat.reduceEqDiff, Nat.reduceAdd, Nat.reduceLeDiff, reduceCtorEq, Nat.reduceBEq, Nat.reduceLT, Nat.reduceMod, List.forall_mem_cons, retG_ret, retQ_eq, retQ_eqN, retOk, keepB, re_tupl, orr_t, skyV, fam_ne, fam_ne', Nat.sub_zero, Nat.zero_add, gB, gB0, sB, sB0, bA, bS, List.append_assoc, List.cons_append, List.nil_append, List.append_nil, skyM, bGA, bGS, gpA, gpS, apA, apS]
  refine ⟨_, _, callR_gone (pre := preA s) (markAw4 (k + 3 * s.pts.length) s hs (by omega)) (fun p hp => ?_) (by simp [refsInL, refsIn, dom, preA]) (fam_refs (by omega)) rfl, ?_⟩
  · rcases List.mem_cons.1 hp with rfl | hp
    · simp only [getM, Nat.reduceEqDiff, reduceIte]
    · obtain ⟨i, hi, rfl⟩ := nfam_at hp
      simp only [getM, fam_ne, Nat.reduceLT, if_false, getM_append, fA, nfam_obj hi, Option.some_or]
  simp (config := { maxSteps := 2000000 }) only [bitvec_to_nat, reduceIte, Nat.reduceEqDiff, Nat.reduceAdd, Nat.reduceLeDiff, reduceCtorEq, Nat.reduceBEq, Nat.reduceLT, Nat.reduceMod, List.forall_mem_cons, retG_ret, retQ_eq, retQ_eqN, retOk, keepB, re_tupl, orr_t, skyV, fam_ne, fam_ne', Nat.sub_zero, Nat.zero_add, gB, gB0, sB, sB0, bA, bS, List.append_assoc, List.cons_append, List.nil_append, List.append_nil, skyM, bGA, bGS, gpA, gpS, apA, apS]
  refine ⟨_, _, callR_gone (pre := preS s) (markSec5 (k + 3 * s.pts.length + ct_Aw s.aws s.aws.length) s hs (by omega)) (fun p hp => ?_) (by simp [refsInL, refsIn, dom, preS]) (fam_refs (by omega)) rfl, ?_⟩
  · rcases List.mem_cons.1 hp with rfl | hp
    · simp only [getM, Nat.reduceEqDiff, reduceIte]
    · obtain ⟨i, hi, rfl⟩ := nfam_at hp
      simp only [getM, fam_ne, Nat.reduceLT, if_false, getM_append, getM_gone, fA, fS, nfam_none, ne_eq, Nat.reduceEqDiff, not_false_eq_true, Option.map_none, Option.none_or, nfam_obj hi, Option.some_or]
  simp (config := { maxSteps := 2000000 }) only [bitvec_to_nat, reduceIte, Nat.reduceEqDiff, Nat.reduceAdd, Nat.reduceLeDiff, reduceCtorEq, Nat.reduceBEq, Nat.reduceLT, Nat.reduceMod, List.forall_mem_cons, retG_ret, retQ_eq, retQ_eqN, retOk, keepB, re_tupl, orr_t, skyV, fam_ne, fam_ne', Nat.sub_zero, Nat.zero_add, gB, gB0, sB, sB0, bA, bS, List.append_assoc, List.cons_append, List.nil_append, List.append_nil, skyM, bGA, bGS, gpA, gpS, apA, apS]
  refine ⟨_, _, callR_gone (pre := [(6, .arr 118 0 4 (s.rws.map Rw.row))]) (markRw6 (k + 3 * s.pts.length + ct_Aw s.aws s.aws.length + ct_Sec s.secs s.secs.length) s hs (by omega)) (by simp [getM]) (by simp [refsInL, refsIn, dom]) (by simp [refsInO]) rfl, ?_⟩
  simp only [gone, List.map_cons, List.map_nil]
  simp (config := { maxSteps := 2000000 }) only [bitvec_to_nat, reduceIte, Nat.reduceEqDiff, Nat.reduceAdd, Nat.reduceLeDiff, reduceCtorEq, Nat.reduceBEq, Nat.reduceLT, Nat.reduceMod, List.forall_mem_cons, retG_ret, retQ_eq, retQ_eqN, retOk, keepB, re_tupl, orr_t, skyV, fam_ne, fam_ne', Nat.sub_zero, Nat.zero_add, gB, gB0, sB, sB0, bA, bS, List.append_assoc, List.cons_append, List.nil_append, List.append_nil, skyM, bGA, bGS, gpA, gpS, apA, apS]
  refine ⟨by unfold cntSky; omega, wkM_self fun p hp => ?_, gone_refs, ?_⟩
  · obtain ⟨q, hq, rfl⟩ := List.mem_map.1 hp
    rcases List.mem_append.1 hq with hq | hq
    · obtain ⟨i, hi, rfl⟩ := nfam_at hq
      show getM (_ :: _ :: _ :: _ :: (gone _ ++ (gone _ ++ _))) _ = _
      simp only [getM, fam_ne, Nat.reduceLT, if_false, getM_append, getM_gone, fA, nfam_obj hi, Option.map_some, Option.some_or]
    · obtain ⟨i, hi, rfl⟩ := nfam_at hq
      show getM (_ :: _ :: _ :: _ :: (gone _ ++ (gone _ ++ _))) _ = _
      simp only [getM, fam_ne, Nat.reduceLT, if_false, getM_append, getM_gone, fA, fS, nfam_none, ne_eq, Nat.reduceEqDiff, not_false_eq_true, Option.map_none, Option.none_or, nfam_obj hi, Option.map_some, Option.some_or]
  · refine keep_of (M := (3, .gone) :: (4, .gone) :: (5, .gone) :: (6, .gone) :: (gone (nobjs (fA 7 s)) ++ (gone (nobjs (fS 8 s)) ++ [(102, _)]))) (M' := (3, .gone) :: (4, .gone) :: (5, .gone) :: (6, .gone) :: gone (nobjs (fA 7 s) ++ nobjs (fS 8 s))) fun p hp => ?_
    simp only [List.mem_cons, List.mem_append, List.not_mem_nil, or_false] at hp
    simp only [dom, List.map_cons, List.mem_cons, List.mem_map, gone_app, List.mem_append]
    rcases hp with rfl | rfl | rfl | rfl | hp | hp | rfl
    · exact .inr (.inl rfl)
    · exact .inr (.inr (.inl rfl))
    · exact .inr (.inr (.inr (.inl rfl)))
    · exact .inr (.inr (.inr (.inr (.inl rfl))))
    · exact .inr (.inr (.inr (.inr (.inr ⟨p, .inl hp, rfl⟩))))
    · exact .inr (.inr (.inr (.inr (.inr ⟨p, .inr hp, rfl⟩))))
    · exact .inl (by simp)
end
end Go.Ve

namespace Go.Ve
noncomputable section
open Go.Proofs
set_option linter.unusedSimpArgs false
set_option linter.unusedVariables false
set_option maxRecDepth 100000
theorem purR_flat (K : Nat → Option AObj) : ∀ {r : List AV}, flatOk r = true → purR K r = some r
  | [], _ => rfl
  | x :: xs, h => by
    simp only [flatOk, Bool.and_eq_true] at h
    have ih := purR_flat K h.2
    cases x <;> first | (simp [noref] at h; done) | (simp only [purR, ih]; rw [if_pos]; simp only [h.1.1, h.1.2, Bool.and_self])
theorem purRs_flat (K : Nat → Option AObj) : ∀ {rs : List (List AV)}, (∀ r ∈ rs, flatOk r = true) → purRs K rs = some rs
  | [], _ => rfl
  | r :: rs, h => by
    have ih := purRs_flat K (rs := rs) fun x hx => h x (by simp [hx])
    simp only [purRs, purR_flat K (h r (by simp)), ih]
def NRow.ys (r : NRow) : List (List AV) := match r.ob with | .arr _ _ _ ys => ys | _ => []
theorem purRs_nrow (K : Nat → Option AObj) (sz : Nat) : ∀ {l : List NRow}, (∀ r ∈ l, ∃ e ys, e < 1000000 ∧ r.ob = .arr e 0 sz ys ∧ K r.o = some r.ob ∧ r.n = ys.length) → purRs K (l.map NRow.row) = some (l.map fun r => [.str r.nm, .sl 99 sz r.ys])
  | [], _ => rfl
  | r :: l, h => by
    obtain ⟨e, ys, he, h1, h2, h3⟩ := h r (by simp)
    have ih := purRs_nrow K sz (l := l) fun x hx => h x (by simp [hx])
    rw [h1] at h2
    simp only [List.map_cons, purRs, ih, NRow.row, purR, h2, he, if_true, isLeaf, noref, Bool.and_self, NRow.ys, h1, h3, List.take_length, List.drop_zero]
theorem purRs_nfam (K : Nat → Option AObj) {k e sz : Nat} (he : e < 1000000) {x : List (ByteArray × List (List AV))} (h : ∀ p ∈ nobjs (nfam k e sz x), K p.1 = some p.2) : purRs K ((nfam k e sz x).map NRow.row) = some (x.map fun y => [.str y.1, .sl 99 sz y.2]) := by
  rw [purRs_nrow K sz fun r hr => ?_]
  · congr 1
    refine List.ext_getElem (by simp [nfam]) fun i h1 h2 => ?_
    simp [nfam, NRow.ys]
  · have hk := h (r.o, r.ob) (List.mem_map.2 ⟨r, hr, rfl⟩)
    simp only [nfam, List.mem_mapIdx] at hr
    obtain ⟨i, hi, rfl⟩ := hr
    exact ⟨e, _, he, rfl, hk, rfl⟩
theorem purN_sky {M K : Nat → Option AObj} {s : Sky} {a b c d kA kS : Nat} (hM : ∀ p ∈ skyM s a b c d kA kS, M p.1 = some p.2) (hK : ∀ p ∈ skyM s a b c d kA kS, K p.1 = some p.2) : purN M K (skyV s a b c d) = some (.agg (s.row 99)) := by
  have h1 := hM _ (show (a, AObj.arr 103 0 3 (s.pts.map Pt.row)) ∈ skyM s a b c d kA kS from by simp [skyM])
  have h2 := hM _ (show (b, AObj.arr (1000000 + 108) 0 2 ((fA kA s).map NRow.row)) ∈ skyM s a b c d kA kS from by simp [skyM])
  have h3 := hM _ (show (c, AObj.arr (1000000 + 111) 0 2 ((fS kS s).map NRow.row)) ∈ skyM s a b c d kA kS from by simp [skyM])
  have h4 := hM _ (show (d, AObj.arr 118 0 4 (s.rws.map Rw.row)) ∈ skyM s a b c d kA kS from by simp [skyM])
  simp only at h1 h2 h3 h4
  have hA := purRs_nfam K (k := kA) (e := 9) (sz := 1) (by omega) (x := s.aws.map awP) fun p hp => hK p (by simp only [skyM, List.mem_cons, List.mem_append]; exact .inr (.inr (.inr (.inr (.inl hp)))))
  have hS := purRs_nfam K (k := kS) (e := 113) (sz := 6) (by omega) (x := s.secs.map secP) fun p hp => hK p (by simp only [skyM, List.mem_cons, List.mem_append]; exact .inr (.inr (.inr (.inr (.inr hp)))))
  have t1 : (s.pts.map Pt.row).take s.pts.length = s.pts.map Pt.row := List.take_of_length_le (by simp)
  have t2 : ((fA kA s).map NRow.row).take s.aws.length = (fA kA s).map NRow.row := List.take_of_length_le (by simp [fA, nfam_len])
  have t3 : ((fS kS s).map NRow.row).take s.secs.length = (fS kS s).map NRow.row := List.take_of_length_le (by simp [fS, nfam_len])
  have t4 : (s.rws.map Rw.row).take s.rws.length = s.rws.map Rw.row := List.take_of_length_le (by simp)
  have f1 : purRs K (s.pts.map Pt.row) = some (s.pts.map Pt.row) := purRs_flat K fun r hr => by obtain ⟨x, _, rfl⟩ := List.mem_map.1 hr; rfl
  have f4 : purRs K (s.rws.map Rw.row) = some (s.rws.map Rw.row) := purRs_flat K fun r hr => by obtain ⟨x, _, rfl⟩ := List.mem_map.1 hr; rfl
  simp only [fA, fS] at t2 t3 h2 h3
  simp only [List.map_map] at hA hS
  simp only [skyV, purN, purNL, h1, h2, h3, h4, if_true, List.drop_zero, t1, t2, t3, t4, f1, f4, fA, fS, hA, hS, Option.map_some, Sky.row]
  rfl
theorem sky_self {s : Sky} {a b c d kA kS : Nat} (ha : a < 1000) (hb : b < 1000) (hc : c < 1000) (hd : d < 1000) (hab : b ≠ a) (hac : c ≠ a) (had : d ≠ a) (hbc : c ≠ b) (hbd : d ≠ b) (hcd : d ≠ c) (hA : kA < 1000) (hS : kS < 1000) (hAS : kA ≠ kS) :
    ∀ p ∈ skyM s a b c d kA kS, getM (skyM s a b c d kA kS) p.1 = some p.2 := by
  intro p hp
  simp only [skyM, List.mem_cons, List.mem_append] at hp
  rcases hp with rfl | rfl | rfl | rfl | hp | hp
  · simp [skyM, getM]
  · simp [skyM, getM, hab]
  · simp [skyM, getM, hac, hbc]
  · simp [skyM, getM, had, hbd, hcd]
  · obtain ⟨i, hi, rfl⟩ := nfam_at hp
    simp only [skyM, getM, fam_ne ha, fam_ne hb, fam_ne hc, fam_ne hd, if_false, getM_append, fA, nfam_obj hi, Option.some_or]
  · obtain ⟨i, hi, rfl⟩ := nfam_at hp
    simp only [skyM, getM, fam_ne ha, fam_ne hb, fam_ne hc, fam_ne hd, if_false, getM_append, fA, fS, nfam_none hA hS hAS, nfam_obj hi, Option.none_or]
theorem aKeep {M K : List (Nat × AObj)} (h : ∀ p ∈ K, getM M p.1 = some p.2) : applyU M K = M := by
  induction K with
  | nil => rfl
  | cons p K ih =>
    show setM (applyU M K) p.1 p.2 = M
    rw [ih fun q hq => h q (by simp [hq])]
    have := h p (by simp)
    clear ih h
    induction M with
    | nil => simp [getM] at this
    | cons q M ih =>
      obtain ⟨k, x⟩ := q
      simp only [getM] at this
      simp only [setM]
      split at this
      · rename_i e; cases this; rw [if_pos e]
      · rename_i e; rw [if_neg e, ih this]
theorem tag_rows {α : Type} {f : Nat → α → List AV} {t : Nat} (h : ∀ x, tag0L (f t x) = f 0 x) (l : List α) : tag0LL (l.map (f t)) = l.map (f 0) := by
  rw [tag0LL_map, List.map_map]; exact List.map_congr_left fun x _ => h x
theorem tag_flat {α : Type} {f : α → List AV} (h : ∀ x, tag0L (f x) = f x) (l : List α) : tag0LL (l.map f) = l.map f := by
  rw [tag0LL_map, List.map_map]; exact List.map_congr_left fun x _ => h x
theorem no98_rows {α : Type} {f : α → List AV} (h : ∀ x, no98L (f x) = true) (l : List α) : no98LL (l.map f) = true := by
  induction l with
  | nil => rfl
  | cons x l ih => simp only [List.map_cons, no98LL, h x, ih, Bool.and_self]
theorem tag_sky (t : Nat) (s : Sky) : tag0 (.agg (s.row t)) = .agg (s.row 0) := by
  simp only [Sky.row, tag0, tag0L]
  rw [tag_flat (f := Pt.row) (fun _ => rfl), tag_flat (f := Rw.row) (fun _ => rfl), tag_rows (f := Aw.row) (fun x => by simp only [Aw.row, tag0L, tag0]; rw [tag_flat (f := srow) fun _ => rfl]), tag_rows (f := Sec.row) (fun x => by simp only [Sec.row, tag0L, tag0]; rw [tag_flat (f := Blk.row) fun _ => rfl])]
theorem no98_sky (t : Nat) (ht : t ≠ 98) (s : Sky) : no98 (.agg (s.row t)) = true := by
  simp only [Sky.row, no98, no98L]
  rw [no98_rows (f := Pt.row) (fun _ => rfl), no98_rows (f := Rw.row) (fun _ => rfl), no98_rows (f := Aw.row t) (fun x => by simp only [Aw.row, no98L, no98]; rw [no98_rows (f := srow) fun _ => rfl]; simp [ht]), no98_rows (f := Sec.row t) (fun x => by simp only [Sec.row, no98L, no98]; rw [no98_rows (f := Blk.row) fun _ => rfl]; simp [ht])]
  simp [ht]
/-- A call that only looks at a sky of the function's own. -/
theorem callR_sky {f : FuncId} {s : Sky} {a b c d kA kS : Nat} {rest rest' : List AV} {r : AV} {news : List (Nat × AObj)} {M : Nat → Option AObj} (hC : Contract P f (.agg (s.row 0) :: tag0L rest') [] r news)
    (hM : ∀ p ∈ skyM s a b c d kA kS, M p.1 = some p.2) (hself : ∀ p ∈ skyM s a b c d kA kS, getM (skyM s a b c d kA kS) p.1 = some p.2)
    (hr : purNL M (getM (skyM s a b c d kA kS)) rest = some rest') (h98 : no98L rest' = true) (hp : plainV r = true) (hpo : (news.all fun p => plainO p.2) = true) (hn : ∀ p ∈ news, M p.1 = none) (hrf : refsIn (dom news) r = true)
    (hro : (news.all fun p => refsInO (dom news) p.2) = true) (h9 : No99 r) (h9o : ∀ p ∈ news, No99O p.2) : callR P f (skyV s a b c d :: rest) M r (news ++ skyM s a b c d kA kS) := by
  refine .inr (.inr (.inr ⟨.agg (s.row 99) :: rest', skyM s a b c d kA kS, news, rfl, hM, ?_, ?_, hn, hrf, hro, h9, h9o⟩))
  · simp only [purNL, purN_sky hM hself, hr]
  · refine Contract.tag ?_ ?_ hp hpo
    · simp only [tag0L, tag_sky]; exact hC
    · simp only [no98L, no98_sky 99 (by omega), h98, Bool.and_self]

end
end Go.Ve

namespace Go.Ve
noncomputable section
open Go.Proofs
set_option linter.unusedSimpArgs false
set_option linter.unusedVariables false
set_option maxRecDepth 100000
def Zone.over (z : Zone) (x y : Int) : Prop := (z.x0 ≤ x ∧ x ≤ z.x1) ∧ (z.y0 ≤ y ∧ y ≤ z.y1)
noncomputable instance (z : Zone) (x y : Int) : Decidable (z.over x y) := Classical.propDecidable _
end
end Go.Ve

namespace Go.Ve
noncomputable section
open Go.Proofs
set_option linter.unusedSimpArgs false
set_option linter.unusedVariables false
set_option maxRecDepth 100000
def zoneOf (c : Sec) : Zone := ⟨c.nm, (c.bl.getD 0 default).x0, (c.bl.getD 0 default).y0, (c.bl.getD 0 default).x1, (c.bl.getD 0 default).y1⟩
def secOne (lv : Int) (c : Sec) : Prop := c.bl.length = 1 ∧ (c.bl.getD 0 default).lo = 1 ∧ (c.bl.getD 0 default).hi = lv
def lzOk (s : Sky) : Prop := (∀ i, i < s.secs.length → secOne s.lv (s.secs.getD i default)) ∧ zonesOk (s.secs.map zoneOf)
noncomputable instance (s : Sky) : Decidable (lzOk s) := Classical.propDecidable _
def lzV (s : Sky) : Prop := s.valid ∧ lzOk s
noncomputable instance (s : Sky) : Decidable (lzV s) := Classical.propDecidable _
end
end Go.Ve

namespace Go.Ve
noncomputable section
open Go.Proofs
set_option linter.unusedSimpArgs false
set_option linter.unusedVariables false
set_option maxRecDepth 100000
end
end Go.Ve

namespace Go.Ve
noncomputable section
open Go.Proofs
set_option linter.unusedSimpArgs false
set_option linter.unusedVariables false
set_option maxRecDepth 100000
theorem Contract.post_eq {f : FuncId} {args : List AV} {pre post post' : List (Nat × AObj)} {r : AV} (h : Contract P f args pre r post) (e : getM post' = getM post) : Contract P f args pre r post' := by
  unfold Contract at h ⊢
  rw [e]; exact h
theorem skyM_ren {s : Sky} {a b c d kA kS kA' kS' : Nat} {σ : Nat → Nat} (hA : ∀ i, σ (fam kA i) = fam kA' i) (hS : ∀ i, σ (fam kS i) = fam kS' i) : renM σ (skyM s a b c d kA kS) = skyM s (σ a) (σ b) (σ c) (σ d) kA' kS' := by
  have eA : (fA kA s).map (NRow.ren σ) = fA kA' s := by
    refine List.ext_getElem (by simp [fA, nfam]) fun i h1 h2 => ?_
    simp [fA, nfam, NRow.ren, hA, renO]
  have eS : (fS kS s).map (NRow.ren σ) = fS kS' s := by
    refine List.ext_getElem (by simp [fS, nfam]) fun i h1 h2 => ?_
    simp [fS, nfam, NRow.ren, hS, renO]
  simp only [skyM, renM, renO, renM_app, renM_nobjs, eA, eS, renRows]
  rfl
theorem skyV_ren {s : Sky} {a b c d : Nat} {σ : Nat → Nat} : ren σ (skyV s a b c d) = skyV s (σ a) (σ b) (σ c) (σ d) := by simp only [skyV, ren, renL]
/-- The sky that the law holds. -/
abbrev K0 (s : Sky) : List (Nat × AObj) := skyM s 611 613 614 612 107 108
theorem K0_self (s : Sky) : ∀ p ∈ K0 s, getM (K0 s) p.1 = some p.2 := sky_self (by omega) (by omega) (by omega) (by omega) (by omega) (by omega) (by omega) (by omega) (by omega) (by omega) (by omega) (by omega) (by omega)
theorem K0_keys (s : Sky) : ∀ p ∈ K0 s, p.1 = 611 ∨ p.1 = 613 ∨ p.1 = 614 ∨ p.1 = 612 ∨ 1000 ≤ p.1 := by
  intro p hp
  simp only [K0, skyM, List.mem_cons, List.mem_append] at hp
  rcases hp with rfl | rfl | rfl | rfl | hp | hp
  · simp
  · simp
  · simp
  · simp
  · exact .inr (.inr (.inr (.inr (bigs_nfam p hp))))
  · exact .inr (.inr (.inr (.inr (bigs_nfam p hp))))
theorem K0_pw (s : Sky) : (K0 s).Pairwise fun a b => a.1 ≠ b.1 := by
  have big : ∀ p ∈ nobjs (fA 107 s) ++ nobjs (fS 108 s), 1000 ≤ p.1 := fun p hp => (List.mem_append.1 hp).elim (bigs_nfam p) (bigs_nfam p)
  simp only [K0, skyM, List.pairwise_cons, List.mem_cons]
  refine ⟨?_, ?_, ?_, ?_, ?_⟩
  · rintro p (rfl | rfl | rfl | hp)
    · simp
    · simp
    · simp
    · have := big p hp; (try simp only); omega
  · rintro p (rfl | rfl | hp)
    · simp
    · simp
    · have := big p hp; (try simp only); omega
  · rintro p (rfl | hp)
    · simp
    · have := big p hp; (try simp only); omega
  · rintro p hp
    have := big p hp; (try simp only); omega
  · rw [List.pairwise_append]
    refine ⟨nfam_pw, nfam_pw, fun p hp q hq e => ?_⟩
    obtain ⟨i, _, rfl⟩ := nfam_at hp
    obtain ⟨j, _, rfl⟩ := nfam_at hq
    simp only [fam] at e; omega
theorem gSky {s : Sky} {B : List (Nat × AObj)} {o : Nat} (h : o < 611) : getM (K0 s ++ B) o = getM B o := getM_app_none (by
  cases hg : getM (K0 s) o with
  | none => rfl
  | some x => have := K0_keys s _ (getM_mem hg); simp only at this; omega)
theorem gSky' {s : Sky} {B : List (Nat × AObj)} {o : Nat} (h : 614 < o) (h2 : o < 1000) : getM (K0 s ++ B) o = getM B o := getM_app_none (by
  cases hg : getM (K0 s) o with
  | none => rfl
  | some x => have := K0_keys s _ (getM_mem hg); simp only at this; omega)
theorem sSky {s : Sky} {B : List (Nat × AObj)} {o : Nat} {x : AObj} (h : o < 611) : setM (K0 s ++ B) o x = K0 s ++ setM B o x := setM_app (by have := gSky (s := s) (B := []) h; simpa [getM] using this)
theorem sSky' {s : Sky} {B : List (Nat × AObj)} {o : Nat} {x : AObj} (h : 614 < o) (h2 : o < 1000) : setM (K0 s ++ B) o x = K0 s ++ setM B o x := setM_app (by have := gSky' (s := s) (B := []) h h2; simpa [getM] using this)
theorem getM_gone_none {l : List (Nat × AObj)} {o : Nat} (h : getM l o = none) : getM (gone l) o = none := by rw [getM_gone, h]; rfl
theorem gG {s : Sky} {B : List (Nat × AObj)} {o : Nat} (h : o < 611) : getM (gone (K0 s) ++ B) o = getM B o := getM_app_none (getM_gone_none (by have := gSky (s := s) (B := []) h; simpa [getM] using this))
theorem gG' {s : Sky} {B : List (Nat × AObj)} {o : Nat} (h : 614 < o) (h2 : o < 1000) : getM (gone (K0 s) ++ B) o = getM B o := getM_app_none (getM_gone_none (by have := gSky' (s := s) (B := []) h h2; simpa [getM] using this))
theorem sG {s : Sky} {B : List (Nat × AObj)} {o : Nat} {x : AObj} (h : o < 611) : setM (gone (K0 s) ++ B) o x = gone (K0 s) ++ setM B o x := setM_app (by have := gG (s := s) (B := []) h; simpa [getM] using this)
theorem sG' {s : Sky} {B : List (Nat × AObj)} {o : Nat} {x : AObj} (h : 614 < o) (h2 : o < 1000) : setM (gone (K0 s) ++ B) o x = gone (K0 s) ++ setM B o x := setM_app (by have := gG' (s := s) (B := []) h h2; simpa [getM] using this)
theorem sSky0 {s : Sky} {o : Nat} {x : AObj} (h : o < 611) : setM (K0 s) o x = K0 s ++ [(o, x)] := by
  have := sSky (s := s) (B := []) (x := x) h
  simpa [setM] using this
theorem gSky0 {s : Sky} {o : Nat} (h : o < 611) : getM (K0 s) o = none := by
  have := gSky (s := s) (B := []) h
  simpa [getM] using this
theorem gs1 {s : Sky} {B : List (Nat × AObj)} : getM (K0 s ++ B) 611 = some (.arr 103 0 3 (s.pts.map Pt.row)) := rfl
theorem gs2 {s : Sky} {B : List (Nat × AObj)} : getM (K0 s ++ B) 613 = some (.arr (1000000 + 108) 0 2 ((fA 107 s).map NRow.row)) := rfl
theorem gs3 {s : Sky} {B : List (Nat × AObj)} : getM (K0 s ++ B) 614 = some (.arr (1000000 + 111) 0 2 ((fS 108 s).map NRow.row)) := rfl
theorem gs4 {s : Sky} {B : List (Nat × AObj)} : getM (K0 s ++ B) 612 = some (.arr 118 0 4 (s.rws.map Rw.row)) := rfl
theorem K0_in {s : Sky} {A B : List (Nat × AObj)} (hA : ∀ p ∈ A, p.1 < 611) : ∀ p ∈ K0 s, getM (A ++ (K0 s ++ B)) p.1 = some p.2 := fun p hp => by
  rw [getM_app_none, getM_app_some (K0_self s p hp)]
  cases hg : getM A p.1 with
  | none => rfl
  | some x => have := hA _ (getM_mem hg); have := K0_keys s p hp; simp only at *; omega
theorem K0_in1 {s : Sky} {o : Nat} {x : AObj} {B : List (Nat × AObj)} (ho : o < 611) : ∀ p ∈ K0 s, getM ((o, x) :: (K0 s ++ B)) p.1 = some p.2 := K0_in (A := [(o, x)]) (by simpa using ho)
theorem apNew {s : Sky} {A : List (Nat × AObj)} (hA : ∀ p ∈ A, p.1 < 611) : applyU A (K0 s).reverse = A ++ (K0 s ++ []) := by
  rw [aU, List.reverse_reverse, List.append_nil]
  · intro p hp
    cases hg : getM A p.1 with
    | none => rfl
    | some x => have := hA _ (getM_mem hg); have := K0_keys s p (List.mem_reverse.1 hp); simp only at *; omega
  · rw [List.pairwise_reverse]
    exact (K0_pw s).imp fun h => Ne.symm h
theorem apGone {s : Sky} {A B : List (Nat × AObj)} (hA : ∀ p ∈ A, p.1 < 611) : applyU (A ++ (K0 s ++ B)) (gone (K0 s)) = A ++ (gone (K0 s) ++ B) := by
  rw [aSkip, aOver (K0_pw s)]
  intro p hp
  obtain ⟨q, hq, rfl⟩ := List.mem_map.1 hp
  cases hg : getM A q.1 with
  | none => rfl
  | some x => have := hA _ (getM_mem hg); have := K0_keys s q hq; simp only at *; omega
theorem kG {s : Sky} {B : List (Nat × AObj)} : keepB (gone (K0 s) ++ B) [] = keepB B [] := by
  have h : keepB (gone (K0 s)) [] = true := keep_of fun p hp => by
    obtain ⟨q, hq, rfl⟩ := List.mem_map.1 hp
    left
    simp only [K0, skyM, List.mem_cons, List.mem_append] at hq
    rcases hq with rfl | rfl | rfl | rfl | hq | hq
    · simp
    · simp
    · simp
    · simp
    · exact big100_nfam (by omega) (by omega) q hq
    · exact big100_nfam (by omega) (by omega) q hq
  unfold keepB at h ⊢
  rw [dom_app, List.all_append, h, Bool.true_and]
theorem apK1 {s : Sky} {o : Nat} {x : AObj} {B : List (Nat × AObj)} (ho : o < 611) : applyU ((o, x) :: (K0 s ++ B)) (K0 s) = (o, x) :: (K0 s ++ B) := aKeep (K0_in1 ho)
theorem apNew1 {s : Sky} {o : Nat} {x : AObj} (ho : o < 611) : applyU [(o, x)] (K0 s).reverse = (o, x) :: (K0 s ++ []) := apNew (A := [(o, x)]) (by simpa using ho)
theorem apG1 {s : Sky} {o : Nat} {x : AObj} {B : List (Nat × AObj)} (ho : o < 611) : applyU ((o, x) :: (K0 s ++ B)) (gone (K0 s)) = (o, x) :: (gone (K0 s) ++ B) := apGone (A := [(o, x)]) (by simpa using ho)
theorem K0r_new {s : Sky} {A : List (Nat × AObj)} (hA : ∀ p ∈ A, p.1 < 611) : ∀ p ∈ (K0 s).reverse, getM A p.1 = none := by
  intro p hp
  cases hg : getM A p.1 with
  | none => rfl
  | some x => have := hA _ (getM_mem hg); have := K0_keys s p (List.mem_reverse.1 hp); simp only at *; omega
theorem dom_rev {l : List (Nat × AObj)} : dom l.reverse = (dom l).reverse := by simp [dom]
theorem K0r_refV {s : Sky} : refsIn (dom (K0 s).reverse) (skyV s 611 613 614 612) = true := by
  rw [dom_rev, K0, sky_dom]; simp [skyV, refsIn, refsInL]
theorem K0r_refs {s : Sky} : ((K0 s).reverse.all fun p => refsInO (dom (K0 s).reverse) p.2) = true := by
  rw [List.all_reverse, dom_rev, K0, sky_dom]
  simp only [skyM, List.all_cons, List.all_append, Bool.and_eq_true]
  refine ⟨rfl, ?_, ?_, rfl, refsO_nfam (by omega), refsO_nfam (by omega)⟩
  · simp only [refsInO]
    rw [if_neg (by omega)]
    refine refs_rows fun r hr => ?_
    simp only [List.contains_iff_mem, List.mem_reverse, List.mem_cons, List.mem_append, List.mem_map]
    exact .inr (.inr (.inr (.inr (.inl ⟨r, hr, rfl⟩))))
  · simp only [refsInO]
    rw [if_neg (by omega)]
    refine refs_rows fun r hr => ?_
    simp only [List.contains_iff_mem, List.mem_reverse, List.mem_cons, List.mem_append, List.mem_map]
    exact .inr (.inr (.inr (.inr (.inr ⟨r, hr, rfl⟩))))
theorem K0_99 {s : Sky} : ∀ p ∈ (K0 s).reverse, No99O p.2 := by
  intro p hp
  have hp := List.mem_reverse.1 hp
  simp only [K0, skyM, List.mem_cons, List.mem_append] at hp
  rcases hp with rfl | rfl | rfl | rfl | hp | hp
  · exact no99_Pt _
  · exact no99_NRow _
  · exact no99_NRow _
  · exact no99_Rw _
  · exact awP_99 s p _ hp
  · exact secP_99 s p _ hp
theorem K0_ref2 {s : Sky} {k : Int} : refsInL (dom (K0 s)) [skyV s 611 613 614 612, .int .i64 k] = true := by
  simp only [refsInL, sky_refV, refsIn, Bool.and_self]
theorem purN_flat {M K : Nat → Option AObj} {o e v sz n : Nat} {rows : List (List AV)} (hM : M o = some (.arr e v sz rows)) (hf : ∀ r ∈ rows, flatOk r = true) (hn : n = rows.length) : purN M K (.own o v 0 n) = some (.sl 99 sz rows) := by
  simp only [purN, hM, if_true, hn, List.take_length, List.drop_zero, purRs_flat K hf, Option.map_some]
theorem purNL_one {M K : Nat → Option AObj} {x y : AV} (h : purN M K x = some y) : purNL M K [x] = some [y] := by simp only [purNL, h]
theorem toSkyK (s : Sky) (hs : s.small) : Contract P 14 [.agg (s.row 1)] [] (skyV s 611 613 614 612) (K0 s).reverse :=
  (c_toSkyO s hs).post_eq (funext fun o => getM_rev (K0_pw s) o)
theorem markSkyK (k : Int) (s : Sky) (hs : s.small) (hk : 0 ≤ k ∧ k ≤ 1000000) : Contract P 27 [skyV s 611 613 614 612, .int .i64 k] (K0 s) (.int .i64 (k + cntSky s)) (gone (K0 s)) := by
  have h := ((((((g_markSky k s hs hk).ren (swp 3 611) (swp_swp _ _)).ren (swp 4 613) (swp_swp _ _)).ren (swp 5 614) (swp_swp _ _)).ren (swp 6 612) (swp_swp _ _)).ren (swpF 7 107) (swpF_swpF (by omega) (by omega))).ren (swpF 8 108) (swpF_swpF (by omega) (by omega))
  simp only [renM_gone, renL, skyV_ren, ren] at h
  rw [skyM_ren (kA' := 7) (kS' := 8) (fun i => swp_fam (by omega) (by omega)) (fun i => swp_fam (by omega) (by omega)),
    skyM_ren (kA' := 7) (kS' := 8) (fun i => swp_fam (by omega) (by omega)) (fun i => swp_fam (by omega) (by omega)),
    skyM_ren (kA' := 7) (kS' := 8) (fun i => swp_fam (by omega) (by omega)) (fun i => swp_fam (by omega) (by omega)),
    skyM_ren (kA' := 7) (kS' := 8) (fun i => swp_fam (by omega) (by omega)) (fun i => swp_fam (by omega) (by omega)),
    skyM_ren (kA' := 107) (kS' := 8) (fun i => swpF_fam (by omega)) (fun i => swpF_ne (by omega) (by omega) (by omega)),
    skyM_ren (kA' := 107) (kS' := 108) (fun i => swpF_ne (by omega) (by omega) (by omega)) (fun i => swpF_fam (by omega))] at h
  exact h
theorem eqSkyC (s : Sky) (hs : s.small) : Contract P 16 [.agg (s.row 0), .agg (s.row 0)] [] (.bool true) [] := by
  have h := c_eqSky s s (by have := hs; unfold Sky.small at this; exact ⟨by omega, by omega, by omega, by omega, this.2.1.2, this.2.2.1.2⟩)
  simpa using h
end
end Go.Ve

namespace Go.Ve
noncomputable section
open Go.Proofs
set_option linter.unusedSimpArgs false
set_option linter.unusedVariables false
set_option maxRecDepth 100000
theorem c_szStringS (t : Nat) (l : List ByteArray) (a : Int) (ha : 0 ≤ a ∧ a ≤ 1048576) (hl : l.length ≤ 9223372036854775807 ∧ ∀ y ∈ l, y.toList.length ≤ 9223372036854775807) : Contract P 39 [.sl t 1 (l.map srow), .int .i64 a] [] (.int .i64 (szS szStr l a)) [] := by
  refine fn_sound (Env.nil P) hm k_laws_szStringS (Nat.le_of_ble_eq_true rfl) rfl ?_; unfold s_laws_szStringS; simp (config := { maxSteps := 2000000 }) only [bitvec_to_nat, reduceIte, Nat.reduceEqDiff, Nat.reduceAdd, Nat.reduceLeDiff, reduceCtorEq, Nat.reduceBEq, Nat.reduceLT, Nat.reduceMod, List.forall_mem_cons, srow, un_s, List.take_zero, List.foldl_nil]
  have hz : szOf a l.length = if a - l.length < 0 then -1 else a - l.length := rfl
  refine ⟨by omega, fun h1 => ?_, fun h1 => ?_⟩
  · unfold szS
    rw [(fold_meas meas_str l _ (by omega) (by omega)).2.1 (by omega)]
  have e0 : szOf a l.length = a - l.length := if_neg h1
  refine loop_st (fun i : Nat => [(1, .int .i64 ((l.take i).foldl (fun a x => szStr x a) (a - l.length))), (5, .int .i64 i)]) (fun _ => []) (fun i => i ≤ l.length ∧ 0 ≤ (l.take i).foldl (fun a x => szStr x a) (a - l.length)) (fun i => l.length - i) (0) (by simp only [u_E0, u_E1, u_M0, u_M1, w_setE0, w_setE1, w_setM0, w_setM1, reduceIte, Nat.reduceEqDiff]; exact ⟨by repeat' (first | exact trivial | refine ⟨.inr rfl, ?_⟩), by repeat' (first | exact trivial | refine ⟨rfl, ?_⟩), by first | rfl | simp [closedB, refsIn, refsInL, refsInO, dom, refsInL_nr, *], by first | rfl | simp [keepB, dom]⟩) ?_ ?_
  · simp only [List.take_zero, List.foldl_nil]; omega
  intro i hi NX hN
  unfold l_laws_szStringS_0; simp (config := { maxSteps := 2000000 }) only [bitvec_to_nat, reduceIte, Nat.reduceEqDiff, Nat.reduceAdd, Nat.reduceLeDiff, reduceCtorEq, Nat.reduceBEq, Nat.reduceLT, Nat.reduceMod, List.forall_mem_cons, srow, un_s, List.take_zero, List.foldl_nil]
  have hm := (fold_meas meas_str (l.take i) (a - l.length) (by omega) (by omega)).2.2
  have hg : i < l.length → (l.getD i default).toList.length ≤ 9223372036854775807 := fun h => hl.2 _ (getD_mem' h)
  have hn : i < l.length → (l.take (i + 1)).foldl (fun a x => szStr x a) (a - l.length) = szStr (l.getD i default) ((l.take i).foldl (fun a x => szStr x a) (a - l.length)) := fun h => fold_take h
  have hs : i < l.length → szStr (l.getD i default) ((l.take i).foldl (fun a x => szStr x a) (a - l.length)) < 0 → szS szStr l a = -1 := fun h h2 => by unfold szS; rw [e0]; exact fold_stop meas_str h (by omega) (by omega) h2
  have hd : szStr (l.getD i default) ((l.take i).foldl (fun a x => szStr x a) (a - l.length)) = if ((l.take i).foldl (fun a x => szStr x a) (a - l.length)) - ((l.getD i default).toList.length : Nat) < 0 then -1 else ((l.take i).foldl (fun a x => szStr x a) (a - l.length)) - ((l.getD i default).toList.length : Nat) := rfl
  refine ⟨fun h2 => ⟨by omega, by omega, by omega, fun h3 => by rw [hs (by omega) (by omega)], fun h3 => ⟨by omega, ?_⟩⟩, fun h2 => ?_⟩
  · have e := hn (by omega)
    rw [hd, if_neg h3] at e
    refine hN (i + 1) _ (by simp only [e, List.length_append, List.length_cons, List.length_nil, Nat.zero_add, List.map_append, List.map_cons, List.map_nil, u_E0, u_E1, u_M0, u_M1, w_setE0, w_setE1, w_setM0, w_setM1, reduceIte, Nat.reduceEqDiff]; exact ⟨by repeat' (first | exact trivial | refine ⟨.inr rfl, ?_⟩), by repeat' (first | exact trivial | refine ⟨rfl, ?_⟩), by first | rfl | simp [closedB, refsIn, refsInL, refsInO, dom, refsInL_nr, *], by first | rfl | simp [keepB, dom]⟩) ?_ ?_
    · exact ⟨by omega, by omega⟩
    · omega
  · have e : i = l.length := by omega
    subst e
    simp only [List.take_length]; unfold szS; rw [e0]
def t_szStringS : List AV → Option (Prop × AV)
  | [.sl lt 1 lx, .int .i64 b] => some ((((lx.map unS).map srow = lx)) ∧ ((0 ≤ b ∧ b ≤ 1048576) ∧ ((lx.map unS).length ≤ 9223372036854775807 ∧ ∀ y ∈ (lx.map unS), y.toList.length ≤ 9223372036854775807)), .int .i64 (szS szStr (lx.map unS) b))
  | _ => none
theorem h_szStringS : ∀ args p v, t_szStringS args = some (p, v) → p → Contract P 39 args [] v [] ∧ noref v = true ∧ No99 v := by
  intro args p v h1 h2
  unfold t_szStringS at h1
  split at h1
  · rename_i lt lx b
    cases h1
    obtain ⟨e0, HP⟩ := h2
    have := c_szStringS lt (lx.map unS) b HP.1 HP.2
    exact ⟨by simpa only [e0] using this, rfl, trivial⟩
  · cases h1
theorem c_szBlkS (t sz : Nat) (xs : List (List AV)) (a : Int) (hp : (0 ≤ a ∧ a ≤ 1048576) ∧ xs.length ≤ 9223372036854775807) : Contract P 157 [.sl t sz xs, .int .i64 a] [] (.int .i64 (szOf a xs.length)) [] := by
  refine fn_sound (Env.nil P) hm k_laws_szSkyBlockS (Nat.le_of_ble_eq_true rfl) rfl ?_; unfold s_laws_szSkyBlockS; simp (config := { maxSteps := 2000000 }) only [bitvec_to_nat, reduceIte, Nat.reduceEqDiff, Nat.reduceAdd, Nat.reduceLeDiff, reduceCtorEq, Nat.reduceBEq, Nat.reduceLT, Nat.reduceMod, List.forall_mem_cons]
  refine ⟨by omega, fun h1 => ?_, fun h1 => ?_⟩
  · unfold szOf; rw [if_pos h1]
  · unfold szOf; rw [if_neg h1]
def t_szBlkS : List AV → Option (Prop × AV)
  | [.sl t sz xs, .int .i64 a] => some ((0 ≤ a ∧ a ≤ 1048576) ∧ xs.length ≤ 9223372036854775807, .int .i64 (szOf a xs.length))
  | _ => none
theorem h_szBlkS : ∀ args p v, t_szBlkS args = some (p, v) → p → Contract P 157 args [] v [] ∧ noref v = true ∧ No99 v := by
  intro args p v h1 h2
  unfold t_szBlkS at h1
  split at h1
  · cases h1; exact ⟨c_szBlkS _ _ _ _ h2, rfl, trivial⟩
  · cases h1
theorem c_szPt (s : Pt) (a : Int) (ha : 0 ≤ a ∧ a ≤ 1048576) (hs : s.fitp) : Contract P 118 [.agg s.row, .int .i64 a] [] (.int .i64 (s.sz a)) [] := by
  unfold Pt.fitp at hs
  simp only [Pt.row]
  refine fn_sound (Env.nil P) hm k_laws_szSkyPoint (Nat.le_of_ble_eq_true rfl) rfl ?_; unfold s_laws_szSkyPoint; simp (config := { maxSteps := 2000000 }) only [bitvec_to_nat, reduceIte, Nat.reduceEqDiff, Nat.reduceAdd, Nat.reduceLeDiff, reduceCtorEq, Nat.reduceBEq, Nat.reduceLT, Nat.reduceMod, List.forall_mem_cons, tk_map, dp_map, toNat_pred, appE, rowsOf, List.take_length, List.length_cons, List.length_nil, Nat.zero_add, srow, irow, un_s, un_i, Pt.row, Pt_eta, Aw.row, Aw_eta, Blk.row, Blk_eta, Sec.row, Sec_eta, Rw.row, Rw_eta, Sky.row, Sky_eta, un_Pt, un_Aw, un_Blk, un_Sec, un_Rw, un_Sky]
  unfold Pt.sz
  repeat' (first | with_reducible apply And.intro | with_reducible intro _)
  all_goals first | omega | (exact hs) | (exact hs.1) | (exact hs.2.1) | (exact hs.2.2) | (exact hs.2.2.1) | (exact hs.2.2.2) | (exact hs.2.2.2.1) | (exact hs.2.2.2.2) | (exact hs.1.1) | (exact hs.1.2) | (exact hs.2.1.1) | (exact hs.2.1.2) | (unfold chk; grind) | grind
def t_szPt : List AV → Option (Prop × AV)
  | [.agg [.str s_nm, .int .i64 s_x, .int .i64 s_y], .int .i64 b] => some ((True) ∧ ((0 ≤ b ∧ b ≤ 1048576) ∧ (Pt.fitp (Pt.mk s_nm s_x s_y))), .int .i64 (Pt.sz (Pt.mk s_nm s_x s_y) b))
  | _ => none
theorem h_szPt : ∀ args p v, t_szPt args = some (p, v) → p → Contract P 118 args [] v [] ∧ noref v = true ∧ No99 v := by
  intro args p v h1 h2
  unfold t_szPt at h1
  split at h1
  · rename_i s_nm s_x s_y b
    cases h1
    obtain ⟨_, HP⟩ := h2
    have := c_szPt (Pt.mk s_nm s_x s_y) b HP.1 HP.2
    exact ⟨by simpa only [Pt.row] using this, rfl, trivial⟩
  · cases h1
theorem c_szPtS (t : Nat) (l : List Pt) (a : Int) (ha : 0 ≤ a ∧ a ≤ 1048576) (hl : l.length ≤ 9223372036854775807 ∧ ∀ y ∈ l, y.fitp) : Contract P 60 [.sl t 3 (l.map Pt.row), .int .i64 a] [] (.int .i64 (szS Pt.sz l a)) [] := by
  refine fn_sound ((Env.nil P).add 118 t_szPt h_szPt) hm k_laws_szSkyPointS (Nat.le_of_ble_eq_true rfl) rfl ?_; unfold s_laws_szSkyPointS; simp (config := { maxSteps := 2000000 }) only [bitvec_to_nat, reduceIte, Nat.reduceEqDiff, Nat.reduceAdd, Nat.reduceLeDiff, reduceCtorEq, Nat.reduceBEq, Nat.reduceLT, Nat.reduceMod, List.forall_mem_cons, t_szPt, tk_map, dp_map, toNat_pred, appE, rowsOf, List.take_length, List.length_cons, List.length_nil, Nat.zero_add, srow, irow, un_s, un_i, Pt.row, Pt_eta, Aw.row, Aw_eta, Blk.row, Blk_eta, Sec.row, Sec_eta, Rw.row, Rw_eta, Sky.row, Sky_eta, un_Pt, un_Aw, un_Blk, un_Sec, un_Rw, un_Sky, List.take_zero, List.foldl_nil]
  have hz : szOf a l.length = if a - l.length < 0 then -1 else a - l.length := rfl
  refine ⟨by omega, fun h1 => ?_, fun h1 => ?_⟩
  · unfold szS
    rw [(fold_meas meas_Pt l _ (by omega) (by omega)).2.1 (by omega)]
  have e0 : szOf a l.length = a - l.length := if_neg h1
  refine loop_st (fun i : Nat => [(1, .int .i64 ((l.take i).foldl (fun a x => x.sz a) (a - l.length))), (5, .int .i64 i)]) (fun _ => []) (fun i => i ≤ l.length ∧ 0 ≤ (l.take i).foldl (fun a x => x.sz a) (a - l.length)) (fun i => l.length - i) (0) (by simp only [u_E0, u_E1, u_M0, u_M1, w_setE0, w_setE1, w_setM0, w_setM1, reduceIte, Nat.reduceEqDiff]; exact ⟨by repeat' (first | exact trivial | refine ⟨.inr rfl, ?_⟩), by repeat' (first | exact trivial | refine ⟨rfl, ?_⟩), by first | rfl | simp [closedB, refsIn, refsInL, refsInO, dom, refsInL_nr, *], by first | rfl | simp [keepB, dom]⟩) ?_ ?_
  · simp only [List.take_zero, List.foldl_nil]; omega
  intro i hi NX hN
  have hm := (fold_meas meas_Pt (l.take i) (a - l.length) (by omega) (by omega)).2.2
  have hg : i < l.length → (l.getD i default).fitp := fun h => hl.2 _ (getD_mem' h)
  have hn : i < l.length → (l.take (i + 1)).foldl (fun a x => x.sz a) (a - l.length) = (l.getD i default).sz ((l.take i).foldl (fun a x => x.sz a) (a - l.length)) := fun h => fold_take (f := Pt.sz) h
  have hs : i < l.length → (l.getD i default).sz ((l.take i).foldl (fun a x => x.sz a) (a - l.length)) < 0 → szS Pt.sz l a = -1 := fun h h2 => by unfold szS; rw [e0]; exact fold_stop meas_Pt h (by omega) (by omega) h2
  unfold l_laws_szSkyPointS_0; simp (config := { maxSteps := 2000000 }) only [bitvec_to_nat, reduceIte, Nat.reduceEqDiff, Nat.reduceAdd, Nat.reduceLeDiff, reduceCtorEq, Nat.reduceBEq, Nat.reduceLT, Nat.reduceMod, List.forall_mem_cons, t_szPt, tk_map, dp_map, toNat_pred, appE, rowsOf, List.take_length, List.length_cons, List.length_nil, Nat.zero_add, srow, irow, un_s, un_i, Pt.row, Pt_eta, Aw.row, Aw_eta, Blk.row, Blk_eta, Sec.row, Sec_eta, Rw.row, Rw_eta, Sky.row, Sky_eta, un_Pt, un_Aw, un_Blk, un_Sec, un_Rw, un_Sky, List.take_zero, List.foldl_nil]
  refine ⟨fun h2 => ⟨by omega, by omega, ⟨⟨by omega, by omega⟩, hg (by omega)⟩, fun h3 => by rw [hs (by omega) h3], fun h3 => ⟨by omega, ?_⟩⟩, fun h2 => ?_⟩
  · have e := hn (by omega)
    refine hN (i + 1) _ (by simp only [e, List.length_append, List.length_cons, List.length_nil, Nat.zero_add, List.map_append, List.map_cons, List.map_nil, u_E0, u_E1, u_M0, u_M1, w_setE0, w_setE1, w_setM0, w_setM1, reduceIte, Nat.reduceEqDiff]; exact ⟨by repeat' (first | exact trivial | refine ⟨.inr rfl, ?_⟩), by repeat' (first | exact trivial | refine ⟨rfl, ?_⟩), by first | rfl | simp [closedB, refsIn, refsInL, refsInO, dom, refsInL_nr, *], by first | rfl | simp [keepB, dom]⟩) ?_ ?_
    · exact ⟨by omega, by rw [e]; omega⟩
    · omega
  · have e : i = l.length := by omega
    subst e
    simp only [List.take_length]; unfold szS; rw [e0]
def t_szPtS : List AV → Option (Prop × AV)
  | [.sl lt 3 lx, .int .i64 b] => some ((((lx.map unPt).map Pt.row = lx)) ∧ ((0 ≤ b ∧ b ≤ 1048576) ∧ ((lx.map unPt).length ≤ 9223372036854775807 ∧ ∀ y ∈ (lx.map unPt), Pt.fitp y)), .int .i64 (szS Pt.sz (lx.map unPt) b))
  | _ => none
theorem h_szPtS : ∀ args p v, t_szPtS args = some (p, v) → p → Contract P 60 args [] v [] ∧ noref v = true ∧ No99 v := by
  intro args p v h1 h2
  unfold t_szPtS at h1
  split at h1
  · rename_i lt lx b
    cases h1
    obtain ⟨e0, HP⟩ := h2
    have := c_szPtS lt (lx.map unPt) b HP.1 HP.2
    exact ⟨by simpa only [e0] using this, rfl, trivial⟩
  · cases h1
theorem c_szRw (s : Rw) (a : Int) (ha : 0 ≤ a ∧ a ≤ 1048576) (hs : s.fitp) : Contract P 121 [.agg s.row, .int .i64 a] [] (.int .i64 (s.sz a)) [] := by
  unfold Rw.fitp at hs
  simp only [Rw.row]
  refine fn_sound (Env.nil P) hm k_laws_szSkyRunway (Nat.le_of_ble_eq_true rfl) rfl ?_; unfold s_laws_szSkyRunway; simp (config := { maxSteps := 2000000 }) only [bitvec_to_nat, reduceIte, Nat.reduceEqDiff, Nat.reduceAdd, Nat.reduceLeDiff, reduceCtorEq, Nat.reduceBEq, Nat.reduceLT, Nat.reduceMod, List.forall_mem_cons, tk_map, dp_map, toNat_pred, appE, rowsOf, List.take_length, List.length_cons, List.length_nil, Nat.zero_add, srow, irow, un_s, un_i, Pt.row, Pt_eta, Aw.row, Aw_eta, Blk.row, Blk_eta, Sec.row, Sec_eta, Rw.row, Rw_eta, Sky.row, Sky_eta, un_Pt, un_Aw, un_Blk, un_Sec, un_Rw, un_Sky]
  unfold Rw.sz
  repeat' (first | with_reducible apply And.intro | with_reducible intro _)
  all_goals first | omega | (exact hs) | (exact hs.1) | (exact hs.2.1) | (exact hs.2.2) | (exact hs.2.2.1) | (exact hs.2.2.2) | (exact hs.2.2.2.1) | (exact hs.2.2.2.2) | (exact hs.1.1) | (exact hs.1.2) | (exact hs.2.1.1) | (exact hs.2.1.2) | (unfold chk; grind) | grind
def t_szRw : List AV → Option (Prop × AV)
  | [.agg [.str s_nm, .int .i64 s_x, .int .i64 s_y, .int .i64 s_tn], .int .i64 b] => some ((True) ∧ ((0 ≤ b ∧ b ≤ 1048576) ∧ (Rw.fitp (Rw.mk s_nm s_x s_y s_tn))), .int .i64 (Rw.sz (Rw.mk s_nm s_x s_y s_tn) b))
  | _ => none
theorem h_szRw : ∀ args p v, t_szRw args = some (p, v) → p → Contract P 121 args [] v [] ∧ noref v = true ∧ No99 v := by
  intro args p v h1 h2
  unfold t_szRw at h1
  split at h1
  · rename_i s_nm s_x s_y s_tn b
    cases h1
    obtain ⟨_, HP⟩ := h2
    have := c_szRw (Rw.mk s_nm s_x s_y s_tn) b HP.1 HP.2
    exact ⟨by simpa only [Rw.row] using this, rfl, trivial⟩
  · cases h1
theorem c_szRwS (t : Nat) (l : List Rw) (a : Int) (ha : 0 ≤ a ∧ a ≤ 1048576) (hl : l.length ≤ 9223372036854775807 ∧ ∀ y ∈ l, y.fitp) : Contract P 63 [.sl t 4 (l.map Rw.row), .int .i64 a] [] (.int .i64 (szS Rw.sz l a)) [] := by
  refine fn_sound ((Env.nil P).add 121 t_szRw h_szRw) hm k_laws_szSkyRunwayS (Nat.le_of_ble_eq_true rfl) rfl ?_; unfold s_laws_szSkyRunwayS; simp (config := { maxSteps := 2000000 }) only [bitvec_to_nat, reduceIte, Nat.reduceEqDiff, Nat.reduceAdd, Nat.reduceLeDiff, reduceCtorEq, Nat.reduceBEq, Nat.reduceLT, Nat.reduceMod, List.forall_mem_cons, t_szRw, tk_map, dp_map, toNat_pred, appE, rowsOf, List.take_length, List.length_cons, List.length_nil, Nat.zero_add, srow, irow, un_s, un_i, Pt.row, Pt_eta, Aw.row, Aw_eta, Blk.row, Blk_eta, Sec.row, Sec_eta, Rw.row, Rw_eta, Sky.row, Sky_eta, un_Pt, un_Aw, un_Blk, un_Sec, un_Rw, un_Sky, List.take_zero, List.foldl_nil]
  have hz : szOf a l.length = if a - l.length < 0 then -1 else a - l.length := rfl
  refine ⟨by omega, fun h1 => ?_, fun h1 => ?_⟩
  · unfold szS
    rw [(fold_meas meas_Rw l _ (by omega) (by omega)).2.1 (by omega)]
  have e0 : szOf a l.length = a - l.length := if_neg h1
  refine loop_st (fun i : Nat => [(1, .int .i64 ((l.take i).foldl (fun a x => x.sz a) (a - l.length))), (5, .int .i64 i)]) (fun _ => []) (fun i => i ≤ l.length ∧ 0 ≤ (l.take i).foldl (fun a x => x.sz a) (a - l.length)) (fun i => l.length - i) (0) (by simp only [u_E0, u_E1, u_M0, u_M1, w_setE0, w_setE1, w_setM0, w_setM1, reduceIte, Nat.reduceEqDiff]; exact ⟨by repeat' (first | exact trivial | refine ⟨.inr rfl, ?_⟩), by repeat' (first | exact trivial | refine ⟨rfl, ?_⟩), by first | rfl | simp [closedB, refsIn, refsInL, refsInO, dom, refsInL_nr, *], by first | rfl | simp [keepB, dom]⟩) ?_ ?_
  · simp only [List.take_zero, List.foldl_nil]; omega
  intro i hi NX hN
  have hm := (fold_meas meas_Rw (l.take i) (a - l.length) (by omega) (by omega)).2.2
  have hg : i < l.length → (l.getD i default).fitp := fun h => hl.2 _ (getD_mem' h)
  have hn : i < l.length → (l.take (i + 1)).foldl (fun a x => x.sz a) (a - l.length) = (l.getD i default).sz ((l.take i).foldl (fun a x => x.sz a) (a - l.length)) := fun h => fold_take (f := Rw.sz) h
  have hs : i < l.length → (l.getD i default).sz ((l.take i).foldl (fun a x => x.sz a) (a - l.length)) < 0 → szS Rw.sz l a = -1 := fun h h2 => by unfold szS; rw [e0]; exact fold_stop meas_Rw h (by omega) (by omega) h2
  unfold l_laws_szSkyRunwayS_0; simp (config := { maxSteps := 2000000 }) only [bitvec_to_nat, reduceIte, Nat.reduceEqDiff, Nat.reduceAdd, Nat.reduceLeDiff, reduceCtorEq, Nat.reduceBEq, Nat.reduceLT, Nat.reduceMod, List.forall_mem_cons, t_szRw, tk_map, dp_map, toNat_pred, appE, rowsOf, List.take_length, List.length_cons, List.length_nil, Nat.zero_add, srow, irow, un_s, un_i, Pt.row, Pt_eta, Aw.row, Aw_eta, Blk.row, Blk_eta, Sec.row, Sec_eta, Rw.row, Rw_eta, Sky.row, Sky_eta, un_Pt, un_Aw, un_Blk, un_Sec, un_Rw, un_Sky, List.take_zero, List.foldl_nil]
  refine ⟨fun h2 => ⟨by omega, by omega, ⟨⟨by omega, by omega⟩, hg (by omega)⟩, fun h3 => by rw [hs (by omega) h3], fun h3 => ⟨by omega, ?_⟩⟩, fun h2 => ?_⟩
  · have e := hn (by omega)
    refine hN (i + 1) _ (by simp only [e, List.length_append, List.length_cons, List.length_nil, Nat.zero_add, List.map_append, List.map_cons, List.map_nil, u_E0, u_E1, u_M0, u_M1, w_setE0, w_setE1, w_setM0, w_setM1, reduceIte, Nat.reduceEqDiff]; exact ⟨by repeat' (first | exact trivial | refine ⟨.inr rfl, ?_⟩), by repeat' (first | exact trivial | refine ⟨rfl, ?_⟩), by first | rfl | simp [closedB, refsIn, refsInL, refsInO, dom, refsInL_nr, *], by first | rfl | simp [keepB, dom]⟩) ?_ ?_
    · exact ⟨by omega, by rw [e]; omega⟩
    · omega
  · have e : i = l.length := by omega
    subst e
    simp only [List.take_length]; unfold szS; rw [e0]
def t_szRwS : List AV → Option (Prop × AV)
  | [.sl lt 4 lx, .int .i64 b] => some ((((lx.map unRw).map Rw.row = lx)) ∧ ((0 ≤ b ∧ b ≤ 1048576) ∧ ((lx.map unRw).length ≤ 9223372036854775807 ∧ ∀ y ∈ (lx.map unRw), Rw.fitp y)), .int .i64 (szS Rw.sz (lx.map unRw) b))
  | _ => none
theorem h_szRwS : ∀ args p v, t_szRwS args = some (p, v) → p → Contract P 63 args [] v [] ∧ noref v = true ∧ No99 v := by
  intro args p v h1 h2
  unfold t_szRwS at h1
  split at h1
  · rename_i lt lx b
    cases h1
    obtain ⟨e0, HP⟩ := h2
    have := c_szRwS lt (lx.map unRw) b HP.1 HP.2
    exact ⟨by simpa only [e0] using this, rfl, trivial⟩
  · cases h1
theorem c_szAw (s : Aw) (a : Int) (ha : 0 ≤ a ∧ a ≤ 1048576) (hs : s.fitp) : Contract P 119 [.agg (s.row 1), .int .i64 a] [] (.int .i64 (s.sz a)) [] := by
  unfold Aw.fitp at hs
  simp only [Aw.row]
  refine fn_sound ((Env.nil P).add 39 t_szStringS h_szStringS) hm k_laws_szSkyAirway (Nat.le_of_ble_eq_true rfl) rfl ?_; unfold s_laws_szSkyAirway; simp (config := { maxSteps := 2000000 }) only [bitvec_to_nat, reduceIte, Nat.reduceEqDiff, Nat.reduceAdd, Nat.reduceLeDiff, reduceCtorEq, Nat.reduceBEq, Nat.reduceLT, Nat.reduceMod, List.forall_mem_cons, t_szStringS, tk_map, dp_map, toNat_pred, appE, rowsOf, List.take_length, List.length_cons, List.length_nil, Nat.zero_add, srow, irow, un_s, un_i, Pt.row, Pt_eta, Aw.row, Aw_eta, Blk.row, Blk_eta, Sec.row, Sec_eta, Rw.row, Rw_eta, Sky.row, Sky_eta, un_Pt, un_Aw, un_Blk, un_Sec, un_Rw, un_Sky]
  unfold Aw.sz
  have qpts : (szS szStr s.pts (a - (s.nm.toList.length : Nat))) ≤ max (a - (s.nm.toList.length : Nat)) (-1) := (meas_szS meas_str s.pts (a - (s.nm.toList.length : Nat)) (by omega)).2.2
  repeat' (first | with_reducible apply And.intro | with_reducible intro _)
  all_goals first | omega | (exact hs) | (exact hs.1) | (exact hs.2.1) | (exact hs.2.2) | (exact hs.2.2.1) | (exact hs.2.2.2) | (exact hs.2.2.2.1) | (exact hs.2.2.2.2) | (exact hs.1.1) | (exact hs.1.2) | (exact hs.2.1.1) | (exact hs.2.1.2) | (unfold chk; grind) | grind
def t_szAw : List AV → Option (Prop × AV)
  | [.agg [.str s_nm, .sl 1 1 s_pts], .int .i64 b] => some ((((s_pts.map unS).map srow = s_pts)) ∧ ((0 ≤ b ∧ b ≤ 1048576) ∧ (Aw.fitp (Aw.mk s_nm (s_pts.map unS)))), .int .i64 (Aw.sz (Aw.mk s_nm (s_pts.map unS)) b))
  | _ => none
theorem h_szAw : ∀ args p v, t_szAw args = some (p, v) → p → Contract P 119 args [] v [] ∧ noref v = true ∧ No99 v := by
  intro args p v h1 h2
  unfold t_szAw at h1
  split at h1
  · rename_i s_nm s_pts b
    cases h1
    obtain ⟨e0, HP⟩ := h2
    have := c_szAw (Aw.mk s_nm (s_pts.map unS)) b HP.1 HP.2
    exact ⟨by simpa only [e0, Aw.row] using this, rfl, trivial⟩
  · cases h1
theorem c_szAwS (t : Nat) (l : List Aw) (a : Int) (ha : 0 ≤ a ∧ a ≤ 1048576) (hl : l.length ≤ 9223372036854775807 ∧ ∀ y ∈ l, y.fitp) : Contract P 61 [.sl t 2 (l.map (Aw.row 1)), .int .i64 a] [] (.int .i64 (szS Aw.sz l a)) [] := by
  refine fn_sound ((Env.nil P).add 119 t_szAw h_szAw) hm k_laws_szSkyAirwayS (Nat.le_of_ble_eq_true rfl) rfl ?_; unfold s_laws_szSkyAirwayS; simp (config := { maxSteps := 2000000 }) only [bitvec_to_nat, reduceIte, Nat.reduceEqDiff, Nat.reduceAdd, Nat.reduceLeDiff, reduceCtorEq, Nat.reduceBEq, Nat.reduceLT, Nat.reduceMod, List.forall_mem_cons, t_szAw, tk_map, dp_map, toNat_pred, appE, rowsOf, List.take_length, List.length_cons, List.length_nil, Nat.zero_add, srow, irow, un_s, un_i, Pt.row, Pt_eta, Aw.row, Aw_eta, Blk.row, Blk_eta, Sec.row, Sec_eta, Rw.row, Rw_eta, Sky.row, Sky_eta, un_Pt, un_Aw, un_Blk, un_Sec, un_Rw, un_Sky, List.take_zero, List.foldl_nil]
  have hz : szOf a l.length = if a - l.length < 0 then -1 else a - l.length := rfl
  refine ⟨by omega, fun h1 => ?_, fun h1 => ?_⟩
  · unfold szS
    rw [(fold_meas meas_Aw l _ (by omega) (by omega)).2.1 (by omega)]
  have e0 : szOf a l.length = a - l.length := if_neg h1
  refine loop_st (fun i : Nat => [(1, .int .i64 ((l.take i).foldl (fun a x => x.sz a) (a - l.length))), (5, .int .i64 i)]) (fun _ => []) (fun i => i ≤ l.length ∧ 0 ≤ (l.take i).foldl (fun a x => x.sz a) (a - l.length)) (fun i => l.length - i) (0) (by simp only [u_E0, u_E1, u_M0, u_M1, w_setE0, w_setE1, w_setM0, w_setM1, reduceIte, Nat.reduceEqDiff]; exact ⟨by repeat' (first | exact trivial | refine ⟨.inr rfl, ?_⟩), by repeat' (first | exact trivial | refine ⟨rfl, ?_⟩), by first | rfl | simp [closedB, refsIn, refsInL, refsInO, dom, refsInL_nr, *], by first | rfl | simp [keepB, dom]⟩) ?_ ?_
  · simp only [List.take_zero, List.foldl_nil]; omega
  intro i hi NX hN
  have hm := (fold_meas meas_Aw (l.take i) (a - l.length) (by omega) (by omega)).2.2
  have hg : i < l.length → (l.getD i default).fitp := fun h => hl.2 _ (getD_mem' h)
  have hn : i < l.length → (l.take (i + 1)).foldl (fun a x => x.sz a) (a - l.length) = (l.getD i default).sz ((l.take i).foldl (fun a x => x.sz a) (a - l.length)) := fun h => fold_take (f := Aw.sz) h
  have hs : i < l.length → (l.getD i default).sz ((l.take i).foldl (fun a x => x.sz a) (a - l.length)) < 0 → szS Aw.sz l a = -1 := fun h h2 => by unfold szS; rw [e0]; exact fold_stop meas_Aw h (by omega) (by omega) h2
  unfold l_laws_szSkyAirwayS_0; simp (config := { maxSteps := 2000000 }) only [bitvec_to_nat, reduceIte, Nat.reduceEqDiff, Nat.reduceAdd, Nat.reduceLeDiff, reduceCtorEq, Nat.reduceBEq, Nat.reduceLT, Nat.reduceMod, List.forall_mem_cons, t_szAw, tk_map, dp_map, toNat_pred, appE, rowsOf, List.take_length, List.length_cons, List.length_nil, Nat.zero_add, srow, irow, un_s, un_i, Pt.row, Pt_eta, Aw.row, Aw_eta, Blk.row, Blk_eta, Sec.row, Sec_eta, Rw.row, Rw_eta, Sky.row, Sky_eta, un_Pt, un_Aw, un_Blk, un_Sec, un_Rw, un_Sky, List.take_zero, List.foldl_nil]
  refine ⟨fun h2 => ⟨by omega, by omega, ⟨⟨by omega, by omega⟩, hg (by omega)⟩, fun h3 => by rw [hs (by omega) h3], fun h3 => ⟨by omega, ?_⟩⟩, fun h2 => ?_⟩
  · have e := hn (by omega)
    refine hN (i + 1) _ (by simp only [e, List.length_append, List.length_cons, List.length_nil, Nat.zero_add, List.map_append, List.map_cons, List.map_nil, u_E0, u_E1, u_M0, u_M1, w_setE0, w_setE1, w_setM0, w_setM1, reduceIte, Nat.reduceEqDiff]; exact ⟨by repeat' (first | exact trivial | refine ⟨.inr rfl, ?_⟩), by repeat' (first | exact trivial | refine ⟨rfl, ?_⟩), by first | rfl | simp [closedB, refsIn, refsInL, refsInO, dom, refsInL_nr, *], by first | rfl | simp [keepB, dom]⟩) ?_ ?_
    · exact ⟨by omega, by rw [e]; omega⟩
    · omega
  · have e : i = l.length := by omega
    subst e
    simp only [List.take_length]; unfold szS; rw [e0]
def t_szAwS : List AV → Option (Prop × AV)
  | [.sl lt 2 lx, .int .i64 b] => some ((((lx.map unAw).map (Aw.row 1) = lx)) ∧ ((0 ≤ b ∧ b ≤ 1048576) ∧ ((lx.map unAw).length ≤ 9223372036854775807 ∧ ∀ y ∈ (lx.map unAw), Aw.fitp y)), .int .i64 (szS Aw.sz (lx.map unAw) b))
  | _ => none
theorem h_szAwS : ∀ args p v, t_szAwS args = some (p, v) → p → Contract P 61 args [] v [] ∧ noref v = true ∧ No99 v := by
  intro args p v h1 h2
  unfold t_szAwS at h1
  split at h1
  · rename_i lt lx b
    cases h1
    obtain ⟨e0, HP⟩ := h2
    have := c_szAwS lt (lx.map unAw) b HP.1 HP.2
    exact ⟨by simpa only [e0] using this, rfl, trivial⟩
  · cases h1
theorem c_szSec (s : Sec) (a : Int) (ha : 0 ≤ a ∧ a ≤ 1048576) (hs : s.fitp) : Contract P 120 [.agg (s.row 1), .int .i64 a] [] (.int .i64 (s.sz a)) [] := by
  unfold Sec.fitp at hs
  simp only [Sec.row]
  refine fn_sound ((Env.nil P).add 157 t_szBlkS h_szBlkS) hm k_laws_szSkySector (Nat.le_of_ble_eq_true rfl) rfl ?_; unfold s_laws_szSkySector; simp (config := { maxSteps := 2000000 }) only [bitvec_to_nat, reduceIte, Nat.reduceEqDiff, Nat.reduceAdd, Nat.reduceLeDiff, reduceCtorEq, Nat.reduceBEq, Nat.reduceLT, Nat.reduceMod, List.forall_mem_cons, t_szBlkS, tk_map, dp_map, toNat_pred, appE, rowsOf, List.take_length, List.length_cons, List.length_nil, Nat.zero_add, srow, irow, un_s, un_i, Pt.row, Pt_eta, Aw.row, Aw_eta, Blk.row, Blk_eta, Sec.row, Sec_eta, Rw.row, Rw_eta, Sky.row, Sky_eta, un_Pt, un_Aw, un_Blk, un_Sec, un_Rw, un_Sky]
  unfold Sec.sz
  have qbl : (szOf (a - (s.nm.toList.length : Nat)) s.bl.length) ≤ max (a - (s.nm.toList.length : Nat)) (-1) := by unfold szOf; split <;> omega
  repeat' (first | with_reducible apply And.intro | with_reducible intro _)
  all_goals first | omega | (exact hs) | (exact hs.1) | (exact hs.2.1) | (exact hs.2.2) | (exact hs.2.2.1) | (exact hs.2.2.2) | (exact hs.2.2.2.1) | (exact hs.2.2.2.2) | (exact hs.1.1) | (exact hs.1.2) | (exact hs.2.1.1) | (exact hs.2.1.2) | (unfold chk; grind) | grind
def t_szSec : List AV → Option (Prop × AV)
  | [.agg [.str s_nm, .sl 1 6 s_bl], .int .i64 b] => some ((((s_bl.map unBlk).map Blk.row = s_bl)) ∧ ((0 ≤ b ∧ b ≤ 1048576) ∧ (Sec.fitp (Sec.mk s_nm (s_bl.map unBlk)))), .int .i64 (Sec.sz (Sec.mk s_nm (s_bl.map unBlk)) b))
  | _ => none
theorem h_szSec : ∀ args p v, t_szSec args = some (p, v) → p → Contract P 120 args [] v [] ∧ noref v = true ∧ No99 v := by
  intro args p v h1 h2
  unfold t_szSec at h1
  split at h1
  · rename_i s_nm s_bl b
    cases h1
    obtain ⟨e0, HP⟩ := h2
    have := c_szSec (Sec.mk s_nm (s_bl.map unBlk)) b HP.1 HP.2
    exact ⟨by simpa only [e0, Sec.row] using this, rfl, trivial⟩
  · cases h1
theorem c_szSecS (t : Nat) (l : List Sec) (a : Int) (ha : 0 ≤ a ∧ a ≤ 1048576) (hl : l.length ≤ 9223372036854775807 ∧ ∀ y ∈ l, y.fitp) : Contract P 62 [.sl t 2 (l.map (Sec.row 1)), .int .i64 a] [] (.int .i64 (szS Sec.sz l a)) [] := by
  refine fn_sound ((Env.nil P).add 120 t_szSec h_szSec) hm k_laws_szSkySectorS (Nat.le_of_ble_eq_true rfl) rfl ?_; unfold s_laws_szSkySectorS; simp (config := { maxSteps := 2000000 }) only [bitvec_to_nat, reduceIte, Nat.reduceEqDiff, Nat.reduceAdd, Nat.reduceLeDiff, reduceCtorEq, Nat.reduceBEq, Nat.reduceLT, Nat.reduceMod, List.forall_mem_cons, t_szSec, tk_map, dp_map, toNat_pred, appE, rowsOf, List.take_length, List.length_cons, List.length_nil, Nat.zero_add, srow, irow, un_s, un_i, Pt.row, Pt_eta, Aw.row, Aw_eta, Blk.row, Blk_eta, Sec.row, Sec_eta, Rw.row, Rw_eta, Sky.row, Sky_eta, un_Pt, un_Aw, un_Blk, un_Sec, un_Rw, un_Sky, List.take_zero, List.foldl_nil]
  have hz : szOf a l.length = if a - l.length < 0 then -1 else a - l.length := rfl
  refine ⟨by omega, fun h1 => ?_, fun h1 => ?_⟩
  · unfold szS
    rw [(fold_meas meas_Sec l _ (by omega) (by omega)).2.1 (by omega)]
  have e0 : szOf a l.length = a - l.length := if_neg h1
  refine loop_st (fun i : Nat => [(1, .int .i64 ((l.take i).foldl (fun a x => x.sz a) (a - l.length))), (5, .int .i64 i)]) (fun _ => []) (fun i => i ≤ l.length ∧ 0 ≤ (l.take i).foldl (fun a x => x.sz a) (a - l.length)) (fun i => l.length - i) (0) (by simp only [u_E0, u_E1, u_M0, u_M1, w_setE0, w_setE1, w_setM0, w_setM1, reduceIte, Nat.reduceEqDiff]; exact ⟨by repeat' (first | exact trivial | refine ⟨.inr rfl, ?_⟩), by repeat' (first | exact trivial | refine ⟨rfl, ?_⟩), by first | rfl | simp [closedB, refsIn, refsInL, refsInO, dom, refsInL_nr, *], by first | rfl | simp [keepB, dom]⟩) ?_ ?_
  · simp only [List.take_zero, List.foldl_nil]; omega
  intro i hi NX hN
  have hm := (fold_meas meas_Sec (l.take i) (a - l.length) (by omega) (by omega)).2.2
  have hg : i < l.length → (l.getD i default).fitp := fun h => hl.2 _ (getD_mem' h)
  have hn : i < l.length → (l.take (i + 1)).foldl (fun a x => x.sz a) (a - l.length) = (l.getD i default).sz ((l.take i).foldl (fun a x => x.sz a) (a - l.length)) := fun h => fold_take (f := Sec.sz) h
  have hs : i < l.length → (l.getD i default).sz ((l.take i).foldl (fun a x => x.sz a) (a - l.length)) < 0 → szS Sec.sz l a = -1 := fun h h2 => by unfold szS; rw [e0]; exact fold_stop meas_Sec h (by omega) (by omega) h2
  unfold l_laws_szSkySectorS_0; simp (config := { maxSteps := 2000000 }) only [bitvec_to_nat, reduceIte, Nat.reduceEqDiff, Nat.reduceAdd, Nat.reduceLeDiff, reduceCtorEq, Nat.reduceBEq, Nat.reduceLT, Nat.reduceMod, List.forall_mem_cons, t_szSec, tk_map, dp_map, toNat_pred, appE, rowsOf, List.take_length, List.length_cons, List.length_nil, Nat.zero_add, srow, irow, un_s, un_i, Pt.row, Pt_eta, Aw.row, Aw_eta, Blk.row, Blk_eta, Sec.row, Sec_eta, Rw.row, Rw_eta, Sky.row, Sky_eta, un_Pt, un_Aw, un_Blk, un_Sec, un_Rw, un_Sky, List.take_zero, List.foldl_nil]
  refine ⟨fun h2 => ⟨by omega, by omega, ⟨⟨by omega, by omega⟩, hg (by omega)⟩, fun h3 => by rw [hs (by omega) h3], fun h3 => ⟨by omega, ?_⟩⟩, fun h2 => ?_⟩
  · have e := hn (by omega)
    refine hN (i + 1) _ (by simp only [e, List.length_append, List.length_cons, List.length_nil, Nat.zero_add, List.map_append, List.map_cons, List.map_nil, u_E0, u_E1, u_M0, u_M1, w_setE0, w_setE1, w_setM0, w_setM1, reduceIte, Nat.reduceEqDiff]; exact ⟨by repeat' (first | exact trivial | refine ⟨.inr rfl, ?_⟩), by repeat' (first | exact trivial | refine ⟨rfl, ?_⟩), by first | rfl | simp [closedB, refsIn, refsInL, refsInO, dom, refsInL_nr, *], by first | rfl | simp [keepB, dom]⟩) ?_ ?_
    · exact ⟨by omega, by rw [e]; omega⟩
    · omega
  · have e : i = l.length := by omega
    subst e
    simp only [List.take_length]; unfold szS; rw [e0]
def t_szSecS : List AV → Option (Prop × AV)
  | [.sl lt 2 lx, .int .i64 b] => some ((((lx.map unSec).map (Sec.row 1) = lx)) ∧ ((0 ≤ b ∧ b ≤ 1048576) ∧ ((lx.map unSec).length ≤ 9223372036854775807 ∧ ∀ y ∈ (lx.map unSec), Sec.fitp y)), .int .i64 (szS Sec.sz (lx.map unSec) b))
  | _ => none
theorem h_szSecS : ∀ args p v, t_szSecS args = some (p, v) → p → Contract P 62 args [] v [] ∧ noref v = true ∧ No99 v := by
  intro args p v h1 h2
  unfold t_szSecS at h1
  split at h1
  · rename_i lt lx b
    cases h1
    obtain ⟨e0, HP⟩ := h2
    have := c_szSecS lt (lx.map unSec) b HP.1 HP.2
    exact ⟨by simpa only [e0] using this, rfl, trivial⟩
  · cases h1
theorem c_szSky (s : Sky) (a : Int) (ha : 0 ≤ a ∧ a ≤ 1048576) (hs : s.fitp) : Contract P 12 [.agg (s.row 1), .int .i64 a] [] (.int .i64 (s.sz a)) [] := by
  unfold Sky.fitp at hs
  simp only [Sky.row]
  refine fn_sound (((((Env.nil P).add 61 t_szAwS h_szAwS).add 60 t_szPtS h_szPtS).add 63 t_szRwS h_szRwS).add 62 t_szSecS h_szSecS) hm k_laws_szSky (Nat.le_of_ble_eq_true rfl) rfl ?_; unfold s_laws_szSky; simp (config := { maxSteps := 2000000 }) only [bitvec_to_nat, reduceIte, Nat.reduceEqDiff, Nat.reduceAdd, Nat.reduceLeDiff, reduceCtorEq, Nat.reduceBEq, Nat.reduceLT, Nat.reduceMod, List.forall_mem_cons, t_szAwS, t_szPtS, t_szRwS, t_szSecS, tk_map, dp_map, toNat_pred, appE, rowsOf, List.take_length, List.length_cons, List.length_nil, Nat.zero_add, srow, irow, un_s, un_i, Pt.row, Pt_eta, Aw.row, Aw_eta, Blk.row, Blk_eta, Sec.row, Sec_eta, Rw.row, Rw_eta, Sky.row, Sky_eta, un_Pt, un_Aw, un_Blk, un_Sec, un_Rw, un_Sky]
  unfold Sky.sz
  have qpts : (szS Pt.sz s.pts a) ≤ max a (-1) := (meas_szS meas_Pt s.pts a (by omega)).2.2
  have qaws : (szS Aw.sz s.aws (szS Pt.sz s.pts a)) ≤ max (szS Pt.sz s.pts a) (-1) := (meas_szS meas_Aw s.aws (szS Pt.sz s.pts a) (by omega)).2.2
  have qsecs : (szS Sec.sz s.secs (szS Aw.sz s.aws (szS Pt.sz s.pts a))) ≤ max (szS Aw.sz s.aws (szS Pt.sz s.pts a)) (-1) := (meas_szS meas_Sec s.secs (szS Aw.sz s.aws (szS Pt.sz s.pts a)) (by omega)).2.2
  have qrws : (szS Rw.sz s.rws (szS Sec.sz s.secs (szS Aw.sz s.aws (szS Pt.sz s.pts a)))) ≤ max (szS Sec.sz s.secs (szS Aw.sz s.aws (szS Pt.sz s.pts a))) (-1) := (meas_szS meas_Rw s.rws (szS Sec.sz s.secs (szS Aw.sz s.aws (szS Pt.sz s.pts a))) (by omega)).2.2
  repeat' (first | with_reducible apply And.intro | with_reducible intro _)
  all_goals first | omega | (exact hs) | (exact hs.1) | (exact hs.2.1) | (exact hs.2.2) | (exact hs.2.2.1) | (exact hs.2.2.2) | (exact hs.2.2.2.1) | (exact hs.2.2.2.2) | (exact hs.1.1) | (exact hs.1.2) | (exact hs.2.1.1) | (exact hs.2.1.2) | (unfold chk; grind) | grind
def t_szSky : List AV → Option (Prop × AV)
  | [.agg [.int .i64 s_w, .int .i64 s_h, .int .i64 s_lv, .sl 1 3 s_pts, .sl 1 2 s_aws, .sl 1 2 s_secs, .sl 1 4 s_rws], .int .i64 b] => some ((((s_pts.map unPt).map Pt.row = s_pts) ∧ ((s_aws.map unAw).map (Aw.row 1) = s_aws) ∧ ((s_secs.map unSec).map (Sec.row 1) = s_secs) ∧ ((s_rws.map unRw).map Rw.row = s_rws)) ∧ ((0 ≤ b ∧ b ≤ 1048576) ∧ (Sky.fitp (Sky.mk s_w s_h s_lv (s_pts.map unPt) (s_aws.map unAw) (s_secs.map unSec) (s_rws.map unRw)))), .int .i64 (Sky.sz (Sky.mk s_w s_h s_lv (s_pts.map unPt) (s_aws.map unAw) (s_secs.map unSec) (s_rws.map unRw)) b))
  | _ => none
theorem h_szSky : ∀ args p v, t_szSky args = some (p, v) → p → Contract P 12 args [] v [] ∧ noref v = true ∧ No99 v := by
  intro args p v h1 h2
  unfold t_szSky at h1
  split at h1
  · rename_i s_w s_h s_lv s_pts s_aws s_secs s_rws b
    cases h1
    obtain ⟨⟨e0, e1, e2, e3⟩, HP⟩ := h2
    have := c_szSky (Sky.mk s_w s_h s_lv (s_pts.map unPt) (s_aws.map unAw) (s_secs.map unSec) (s_rws.map unRw)) b HP.1 HP.2
    exact ⟨by simpa only [e0, e1, e2, e3, Sky.row] using this, rfl, trivial⟩
  · cases h1
end
end Go.Ve

namespace Go.Ve
noncomputable section
open Go.Proofs
set_option linter.unusedSimpArgs false
set_option linter.unusedVariables false
set_option maxRecDepth 100000
open Go.ChangeShapes Go.WideShapes
theorem fit_rows {α : Type} {f : α → List AV} {rs : List LSh} (h : ∀ r, fitsL rs r → ∃ x : α, r = f x) : ∀ {rows : List (List AV)}, (∀ r ∈ rows, fitsL rs r) → ∃ l : List α, rows = l.map f
  | [], _ => ⟨[], rfl⟩
  | r :: rows, k => by
    obtain ⟨x, rfl⟩ := h r (k r (by simp))
    obtain ⟨l, rfl⟩ := fit_rows h (rows := rows) fun r' h' => k r' (by simp [h'])
    exact ⟨x :: l, rfl⟩
def sh_ByteArray : List LSh := [.str]
theorem fit_ByteArray (r : List AV) (h : fitsL sh_ByteArray r) : ∃ x : ByteArray, r = srow x ∧ x.toList.length ≤ 9223372036854775807 := by
  simp only [sh_ByteArray, fitsL, fits] at h
  obtain ⟨_, _, rfl, ⟨n, rfl, h⟩, rfl⟩ := h
  exact ⟨n, rfl, by rw [← toList_size]; unfold maxLen at h; omega⟩
def sh_Pt : List LSh := [.str, .int .i64, .int .i64]
theorem fit_Pt (r : List AV) (h : fitsL sh_Pt r) : ∃ x : Pt, r = Pt.row x ∧ x.fitp := by
  simp only [sh_Pt, fitsL, fits] at h
  obtain ⟨_, _, rfl, ⟨nm, rfl, h_nm⟩, _, _, rfl, ⟨x, rfl, _⟩, _, _, rfl, ⟨y, rfl, _⟩, rfl⟩ := h

  exact ⟨⟨nm, x, y⟩, rfl, (by have e := toList_size nm; unfold maxLen at h_nm; show nm.toList.length ≤ _; omega)⟩
def sh_Blk : List LSh := [.int .i64, .int .i64, .int .i64, .int .i64, .int .i64, .int .i64]
theorem fit_Blk (r : List AV) (h : fitsL sh_Blk r) : ∃ x : Blk, r = Blk.row x := by
  simp only [sh_Blk, fitsL, fits] at h
  obtain ⟨_, _, rfl, ⟨x0, rfl, _⟩, _, _, rfl, ⟨y0, rfl, _⟩, _, _, rfl, ⟨x1, rfl, _⟩, _, _, rfl, ⟨y1, rfl, _⟩, _, _, rfl, ⟨lo, rfl, _⟩, _, _, rfl, ⟨hi, rfl, _⟩, rfl⟩ := h

  exact ⟨⟨x0, y0, x1, y1, lo, hi⟩, rfl⟩
def sh_Rw : List LSh := [.str, .int .i64, .int .i64, .int .i64]
theorem fit_Rw (r : List AV) (h : fitsL sh_Rw r) : ∃ x : Rw, r = Rw.row x ∧ x.fitp := by
  simp only [sh_Rw, fitsL, fits] at h
  obtain ⟨_, _, rfl, ⟨nm, rfl, h_nm⟩, _, _, rfl, ⟨x, rfl, _⟩, _, _, rfl, ⟨y, rfl, _⟩, _, _, rfl, ⟨tn, rfl, _⟩, rfl⟩ := h

  exact ⟨⟨nm, x, y, tn⟩, rfl, (by have e := toList_size nm; unfold maxLen at h_nm; show nm.toList.length ≤ _; omega)⟩
def sh_Aw : List LSh := [.str, .sl sh_ByteArray]
theorem fit_Aw (r : List AV) (h : fitsL sh_Aw r) : ∃ x : Aw, r = (Aw.row 1) x ∧ x.fitp := by
  simp only [sh_Aw, fitsL, fits] at h
  obtain ⟨_, _, rfl, ⟨nm, rfl, h_nm⟩, _, _, rfl, ⟨pts, rfl, h_pts, r_pts⟩, rfl⟩ := h
  obtain ⟨pts, rfl, p_pts⟩ := fit_rows2 fit_ByteArray r_pts
  rw [List.length_map] at h_pts
  exact ⟨⟨nm, pts⟩, rfl, ⟨(by have e := toList_size nm; unfold maxLen at h_nm; show nm.toList.length ≤ _; omega), ⟨(by unfold maxLen at h_pts; omega), p_pts⟩⟩⟩
def sh_Sec : List LSh := [.str, .sl sh_Blk]
theorem fit_Sec (r : List AV) (h : fitsL sh_Sec r) : ∃ x : Sec, r = (Sec.row 1) x ∧ x.fitp := by
  simp only [sh_Sec, fitsL, fits] at h
  obtain ⟨_, _, rfl, ⟨nm, rfl, h_nm⟩, _, _, rfl, ⟨bl, rfl, h_bl, r_bl⟩, rfl⟩ := h
  obtain ⟨bl, rfl⟩ := fit_rows fit_Blk r_bl
  rw [List.length_map] at h_bl
  exact ⟨⟨nm, bl⟩, rfl, ⟨(by have e := toList_size nm; unfold maxLen at h_nm; show nm.toList.length ≤ _; omega), (by unfold maxLen at h_bl; omega)⟩⟩
def sh_Sky : List LSh := [.int .i64, .int .i64, .int .i64, .sl sh_Pt, .sl sh_Aw, .sl sh_Sec, .sl sh_Rw]
theorem fit_Sky (r : List AV) (h : fitsL sh_Sky r) : ∃ x : Sky, r = (Sky.row 1) x ∧ x.fitp := by
  simp only [sh_Sky, fitsL, fits] at h
  obtain ⟨_, _, rfl, ⟨w, rfl, _⟩, _, _, rfl, ⟨h, rfl, _⟩, _, _, rfl, ⟨lv, rfl, _⟩, _, _, rfl, ⟨pts, rfl, h_pts, r_pts⟩, _, _, rfl, ⟨aws, rfl, h_aws, r_aws⟩, _, _, rfl, ⟨secs, rfl, h_secs, r_secs⟩, _, _, rfl, ⟨rws, rfl, h_rws, r_rws⟩, rfl⟩ := h
  obtain ⟨pts, rfl, p_pts⟩ := fit_rows2 fit_Pt r_pts
  rw [List.length_map] at h_pts
  obtain ⟨aws, rfl, p_aws⟩ := fit_rows2 fit_Aw r_aws
  rw [List.length_map] at h_aws
  obtain ⟨secs, rfl, p_secs⟩ := fit_rows2 fit_Sec r_secs
  rw [List.length_map] at h_secs
  obtain ⟨rws, rfl, p_rws⟩ := fit_rows2 fit_Rw r_rws
  rw [List.length_map] at h_rws
  exact ⟨⟨w, h, lv, pts, aws, secs, rws⟩, rfl, ⟨⟨(by unfold maxLen at h_pts; omega), p_pts⟩, ⟨(by unfold maxLen at h_aws; omega), p_aws⟩, ⟨(by unfold maxLen at h_secs; omega), p_secs⟩, ⟨(by unfold maxLen at h_rws; omega), p_rws⟩⟩⟩
end
end Go.Ve

namespace Go.Ve
noncomputable section
open Go.Proofs
set_option linter.unusedSimpArgs false
set_option linter.unusedVariables false
set_option maxRecDepth 100000
structure Pass where
  nm : ByteArray
  fr : Int
  to : Int
  deriving Inhabited, DecidableEq
def Pass.row (s : Pass) : List AV := [.str s.nm, .int .i64 s.fr, .int .i64 s.to]
def unPass : List AV → Pass
  | [.str vnm, .int .i64 vfr, .int .i64 vto] => (Pass.mk vnm vfr vto)
  | _ => default
theorem unPass_row (s : Pass) : unPass (Pass.row s) = s := by
  cases s; simp only [Pass.row, unPass]
theorem un_Pass (l : List Pass) : (l.map Pass.row).map unPass = l := by
  rw [List.map_map]; exact List.map_id'' (fun s => unPass_row s) l
theorem Pass_eta (s : Pass) : (Pass.mk s.nm s.fr s.to) = s := (rfl)
theorem no99_Pass (l : List Pass) : No99LL (l.map Pass.row) := by
  induction l with
  | nil => simp [No99LL]
  | cons x l ih => simp only [List.map_cons, No99LL]; exact ⟨by simp [Pass.row, No99L, No99], ih⟩
theorem c_szPlaceS (t sz : Nat) (xs : List (List AV)) (a : Int) (hp : (0 ≤ a ∧ a ≤ 1048576) ∧ xs.length ≤ 9223372036854775807) : Contract P 30 [.sl t sz xs, .int .i64 a] [] (.int .i64 (szOf a xs.length)) [] := by
  refine fn_sound (Env.nil P) hm k_laws_szSkyPlaceS (Nat.le_of_ble_eq_true rfl) rfl ?_; unfold s_laws_szSkyPlaceS; simp (config := { maxSteps := 2000000 }) only [bitvec_to_nat, reduceIte, Nat.reduceEqDiff, Nat.reduceAdd, Nat.reduceLeDiff, reduceCtorEq, Nat.reduceBEq, Nat.reduceLT, Nat.reduceMod, List.forall_mem_cons]
  refine ⟨by omega, fun h1 => ?_, fun h1 => ?_⟩
  · unfold szOf; rw [if_pos h1]
  · unfold szOf; rw [if_neg h1]
def t_szPlaceS : List AV → Option (Prop × AV)
  | [.sl t sz xs, .int .i64 a] => some ((0 ≤ a ∧ a ≤ 1048576) ∧ xs.length ≤ 9223372036854775807, .int .i64 (szOf a xs.length))
  | _ => none
theorem h_szPlaceS : ∀ args p v, t_szPlaceS args = some (p, v) → p → Contract P 30 args [] v [] ∧ noref v = true ∧ No99 v := by
  intro args p v h1 h2
  unfold t_szPlaceS at h1
  split at h1
  · cases h1; exact ⟨c_szPlaceS _ _ _ _ h2, rfl, trivial⟩
  · cases h1
theorem c_toPlace (s : Place) : Contract P 18 [.agg (s.row)] [] (.agg (s.row)) [] := by
  simp only [Place.row]
  refine fn_sound (Env.nil P) hm k_laws_toSkyPlace (Nat.le_of_ble_eq_true rfl) rfl ?_; unfold s_laws_toSkyPlace; simp (config := { maxSteps := 2000000 }) only [bitvec_to_nat, reduceIte, Nat.reduceEqDiff, Nat.reduceAdd, Nat.reduceLeDiff, reduceCtorEq, Nat.reduceBEq, Nat.reduceLT, Nat.reduceMod, List.forall_mem_cons, tk_map, dp_map, toNat_pred, appE, rowsOf, List.take_length, List.length_cons, List.length_nil, Nat.zero_add, srow, irow, un_s, un_i, Zone.row, Zone_eta, un_Zone, Word.row, Word_eta, Own.row, Own_eta, Part.row, Part_eta, Seen.row, Seen_eta, Book.row, Book_eta, Sector.row, Sector_eta, HCraft.row, HCraft_eta, World.row, World_eta, Pt.row, Pt_eta, Aw.row, Aw_eta, Blk.row, Blk_eta, Sec.row, Sec_eta, Rw.row, Rw_eta, Sky.row, Sky_eta, Place.row, Place_eta, Pass.row, Pass_eta, un_Word, un_Own, un_Part, un_Seen, un_Book, un_Sector, un_HCraft, un_World, un_Pt, un_Aw, un_Blk, un_Sec, un_Rw, un_Sky, un_Place, un_Pass]
  all_goals trivial
def t_toPlace : List AV → Option (Prop × AV)
  | [.agg [.int .i64 s_x, .int .i64 s_y, .int .i64 s_lv]] => some ((True) ∧ (True), .agg (Place.row (Place.mk s_x s_y s_lv)))
  | _ => none
theorem h_toPlace : ∀ args p v, t_toPlace args = some (p, v) → p → Contract P 18 args [] v [] ∧ noref v = true ∧ No99 v := by
  intro args p v h1 h2
  unfold t_toPlace at h1
  split at h1
  · rename_i s_x s_y s_lv
    cases h1
    obtain ⟨_, HP⟩ := h2
    have := c_toPlace (Place.mk s_x s_y s_lv)
    exact ⟨by simpa only [Place.row] using this, rfl, by simp [Place.row, No99, No99L, no99_box, no99_i, no99_str, no99_Zone, no99_Word, no99_Own, no99_Part, no99_Seen, no99_Book, no99_Sector, no99_HCraft, no99_World, no99_Pt, no99_Aw, no99_Blk, no99_Sec, no99_Rw, no99_Sky, no99_Place, no99_Pass, -List.map_map]⟩
  · cases h1
theorem set_Place {lst : List Place} {idx : Nat} {vx : Int} {vy : Int} {vlv : Int} : (lst.map Place.row).set idx (setSeg ((lst.map Place.row).getD idx []) 0 [.int .i64 vx, .int .i64 vy, .int .i64 vlv]) = (lst.set idx (Place.mk vx vy vlv)).map Place.row :=
  set_rows (α := Place) (f := Place.row) (fun s => (Place.mk vx vy vlv)) fun x => by simp [Place.row, setSeg]
def to_Place (a : List Place) (i : Nat) : List Place := a.take i ++ List.replicate (a.length - i) ⟨0, 0, 0⟩
theorem to_Place_st {a : List Place} {i : Nat} (h : i < a.length) : (to_Place a i).set i (a.getD i default) = to_Place a (i + 1) := by
  refine List.ext_getElem (by simp [to_Place]; omega) fun j h1 h2 => ?_
  by_cases e : j = i
  · subst e
    simp [to_Place, List.getElem_append, h]
    intro h9; omega
  · simp only [List.getElem_set_ne (Ne.symm e)]
    simp only [to_Place, List.getElem_append, List.length_take, List.getElem_take, List.getElem_replicate]
    split <;> split <;> first | rfl | omega
theorem c_toPlaceS (t : Nat) (a : List Place) (ha : a.length ≤ 1048576) : Contract P 32 [.sl t 3 (a.map Place.row)] [] (.sl 0 3 (a.map Place.row)) [] := by
  refine fn_sound ((Env.nil P).add 18 t_toPlace h_toPlace) hm k_laws_toSkyPlaceS (Nat.le_of_ble_eq_true rfl) rfl ?_; unfold s_laws_toSkyPlaceS; simp (config := { maxSteps := 2000000 }) only [bitvec_to_nat, reduceIte, Nat.reduceEqDiff, Nat.reduceAdd, Nat.reduceLeDiff, reduceCtorEq, Nat.reduceBEq, Nat.reduceLT, Nat.reduceMod, List.forall_mem_cons, t_toPlace, tk_map, dp_map, toNat_pred, appE, rowsOf, List.take_length, List.length_cons, List.length_nil, Nat.zero_add, srow, irow, un_s, un_i, Zone.row, Zone_eta, un_Zone, Word.row, Word_eta, Own.row, Own_eta, Part.row, Part_eta, Seen.row, Seen_eta, Book.row, Book_eta, Sector.row, Sector_eta, HCraft.row, HCraft_eta, World.row, World_eta, Pt.row, Pt_eta, Aw.row, Aw_eta, Blk.row, Blk_eta, Sec.row, Sec_eta, Rw.row, Rw_eta, Sky.row, Sky_eta, Place.row, Place_eta, Pass.row, Pass_eta, un_Word, un_Own, un_Part, un_Seen, un_Book, un_Sector, un_HCraft, un_World, un_Pt, un_Aw, un_Blk, un_Sec, un_Rw, un_Sky, un_Place, un_Pass, set_Place, Nat.sub_zero]
  have m0 : List.replicate a.length [.int .i64 0, .int .i64 0, .int .i64 0] = (to_Place a 0).map Place.row := by simp [to_Place, Place.row]
  refine ⟨by omega, ?_⟩
  refine loop_st (fun i : Nat => [(4, .int .i64 i)]) (fun i => [(107, .arr 43 0 3 ((to_Place a i).map Place.row))]) (fun i => i ≤ a.length) (fun i => a.length - i) 0 (by simp only [u_E0, u_E1, u_M0, u_M1, w_setE0, w_setE1, w_setM0, w_setM1, reduceIte, Nat.reduceEqDiff]; exact ⟨by repeat' (first | exact trivial | refine ⟨.inr rfl, ?_⟩), ⟨congrArg (fun g => some (AObj.arr 43 0 3 g)) m0, trivial⟩, rfl, rfl⟩) (Nat.zero_le _) ?_
  intro i hi NX hN
  skip
  unfold l_laws_toSkyPlaceS_0; simp (config := { maxSteps := 2000000 }) only [bitvec_to_nat, reduceIte, Nat.reduceEqDiff, Nat.reduceAdd, Nat.reduceLeDiff, reduceCtorEq, Nat.reduceBEq, Nat.reduceLT, Nat.reduceMod, List.forall_mem_cons, t_toPlace, tk_map, dp_map, toNat_pred, appE, rowsOf, List.take_length, List.length_cons, List.length_nil, Nat.zero_add, srow, irow, un_s, un_i, Zone.row, Zone_eta, un_Zone, Word.row, Word_eta, Own.row, Own_eta, Part.row, Part_eta, Seen.row, Seen_eta, Book.row, Book_eta, Sector.row, Sector_eta, HCraft.row, HCraft_eta, World.row, World_eta, Pt.row, Pt_eta, Aw.row, Aw_eta, Blk.row, Blk_eta, Sec.row, Sec_eta, Rw.row, Rw_eta, Sky.row, Sky_eta, Place.row, Place_eta, Pass.row, Pass_eta, un_Word, un_Own, un_Part, un_Seen, un_Book, un_Sector, un_HCraft, un_World, un_Pt, un_Aw, un_Blk, un_Sec, un_Rw, un_Sky, un_Place, un_Pass, set_Place, Nat.sub_zero]
  refine ⟨fun h => ?_, fun h => ?_⟩
  · repeat' (first | with_reducible apply And.intro | with_reducible intro _)
    all_goals first
      | omega
      | rfl
      | exact hs2 (by omega)
      | (have e := to_Place_st (a := a) (i := i) (by omega)
         try simp only [Place.row] at *
         refine hN (i + 1) _ ⟨by repeat' (first | exact trivial | refine ⟨.inr rfl, ?_⟩), ⟨congrArg (fun g => some (AObj.arr 43 0 3 (List.map Place.row g))) e, trivial⟩, rfl, rfl⟩ ?_ ?_ <;> omega)
  · have e : i = a.length := by omega
    subst e
    simp only [to_Place, List.take_length, Nat.sub_self, List.replicate_zero, List.append_nil]
    try rw [List.take_of_length_le (by simp)]
theorem c_toPlaceSO (t : Nat) (a : List Place) (ha : a.length ≤ 1048576) : Contract P 32 [.sl t 3 (a.map Place.row)] [] (.own 107 0 0 a.length) [(107, .arr 43 0 3 (a.map Place.row))] := by
  have tkA : List.take a.length (a.map Place.row) = a.map Place.row := List.take_of_length_le (by simp)
  refine fn_sound ((Env.nil P).add 18 t_toPlace h_toPlace) hm kO_laws_toSkyPlaceS (Nat.le_of_ble_eq_true rfl) rfl ?_; unfold sO_laws_toSkyPlaceS; simp (config := { maxSteps := 2000000 }) only [bitvec_to_nat, reduceIte, Nat.reduceEqDiff, Nat.reduceAdd, Nat.reduceLeDiff, reduceCtorEq, Nat.reduceBEq, Nat.reduceLT, Nat.reduceMod, List.forall_mem_cons, retG_ret, retQ_eq, retQ_eqN, retOk, keepB, re_tupl, orr_t, t_toPlace, tk_map, dp_map, toNat_pred, appE, rowsOf, List.take_length, List.length_cons, List.length_nil, Nat.zero_add, srow, irow, un_s, un_i, Zone.row, Zone_eta, un_Zone, Word.row, Word_eta, Own.row, Own_eta, Part.row, Part_eta, Seen.row, Seen_eta, Book.row, Book_eta, Sector.row, Sector_eta, HCraft.row, HCraft_eta, World.row, World_eta, Pt.row, Pt_eta, Aw.row, Aw_eta, Blk.row, Blk_eta, Sec.row, Sec_eta, Rw.row, Rw_eta, Sky.row, Sky_eta, Place.row, Place_eta, Pass.row, Pass_eta, un_Word, un_Own, un_Part, un_Seen, un_Book, un_Sector, un_HCraft, un_World, un_Pt, un_Aw, un_Blk, un_Sec, un_Rw, un_Sky, un_Place, un_Pass, set_Place, Nat.sub_zero]
  have m0 : List.replicate a.length [.int .i64 0, .int .i64 0, .int .i64 0] = (to_Place a 0).map Place.row := by simp [to_Place, Place.row]
  refine ⟨by omega, ?_⟩
  refine loop_st (fun i : Nat => [(4, .int .i64 i)]) (fun i => [(107, .arr 43 0 3 ((to_Place a i).map Place.row))]) (fun i => i ≤ a.length) (fun i => a.length - i) 0 (by simp only [u_E0, u_E1, u_M0, u_M1, w_setE0, w_setE1, w_setM0, w_setM1, reduceIte, Nat.reduceEqDiff]; exact ⟨by repeat' (first | exact trivial | refine ⟨.inr rfl, ?_⟩), ⟨congrArg (fun g => some (AObj.arr 43 0 3 g)) m0, trivial⟩, rfl, rfl⟩) (Nat.zero_le _) ?_
  intro i hi NX hN
  unfold lO_laws_toSkyPlaceS_0; simp (config := { maxSteps := 2000000 }) only [bitvec_to_nat, reduceIte, Nat.reduceEqDiff, Nat.reduceAdd, Nat.reduceLeDiff, reduceCtorEq, Nat.reduceBEq, Nat.reduceLT, Nat.reduceMod, List.forall_mem_cons, retG_ret, retQ_eq, retQ_eqN, retOk, keepB, re_tupl, orr_t, t_toPlace, tk_map, dp_map, toNat_pred, appE, rowsOf, List.take_length, List.length_cons, List.length_nil, Nat.zero_add, srow, irow, un_s, un_i, Zone.row, Zone_eta, un_Zone, Word.row, Word_eta, Own.row, Own_eta, Part.row, Part_eta, Seen.row, Seen_eta, Book.row, Book_eta, Sector.row, Sector_eta, HCraft.row, HCraft_eta, World.row, World_eta, Pt.row, Pt_eta, Aw.row, Aw_eta, Blk.row, Blk_eta, Sec.row, Sec_eta, Rw.row, Rw_eta, Sky.row, Sky_eta, Place.row, Place_eta, Pass.row, Pass_eta, un_Word, un_Own, un_Part, un_Seen, un_Book, un_Sector, un_HCraft, un_World, un_Pt, un_Aw, un_Blk, un_Sec, un_Rw, un_Sky, un_Place, un_Pass, set_Place, Nat.sub_zero]
  refine ⟨fun h => ?_, fun h => ?_⟩
  · repeat' (first | with_reducible apply And.intro | with_reducible intro _)
    all_goals first
      | omega
      | rfl
      | (have e := to_Place_st (a := a) (i := i) (by omega)
         try simp only [Place.row] at *
         refine hN (i + 1) _ ⟨by repeat' (first | exact trivial | refine ⟨.inr rfl, ?_⟩), ⟨congrArg (fun g => some (AObj.arr 43 0 3 (List.map Place.row g))) e, trivial⟩, rfl, rfl⟩ ?_ ?_ <;> omega)
  · have e : i = a.length := by omega
    subst e
    simp only [to_Place, List.take_length, Nat.sub_self, List.replicate_zero, List.append_nil]
    exact ⟨trivial, rfl, rfl⟩
theorem c_eqPlace (c d : Place)  : Contract P 102 [.agg (c.row), .agg (d.row)] [] (.bool (decide (c = d))) [] := by
  obtain ⟨c_x, c_y, c_lv⟩ := c
  obtain ⟨d_x, d_y, d_lv⟩ := d
  simp only [Place.row]
  refine fn_sound (Env.nil P) hm k_laws_eqSkyPlace (Nat.le_of_ble_eq_true rfl) rfl ?_; unfold s_laws_eqSkyPlace; simp (config := { maxSteps := 2000000 }) only [bitvec_to_nat, reduceIte, Nat.reduceEqDiff, Nat.reduceAdd, Nat.reduceLeDiff, reduceCtorEq, Nat.reduceBEq, Nat.reduceLT, Nat.reduceMod, List.forall_mem_cons, tk_map, dp_map, toNat_pred, appE, rowsOf, List.take_length, List.length_cons, List.length_nil, Nat.zero_add, srow, irow, un_s, un_i, Zone.row, Zone_eta, un_Zone, Word.row, Word_eta, Own.row, Own_eta, Part.row, Part_eta, Seen.row, Seen_eta, Book.row, Book_eta, Sector.row, Sector_eta, HCraft.row, HCraft_eta, World.row, World_eta, Pt.row, Pt_eta, Aw.row, Aw_eta, Blk.row, Blk_eta, Sec.row, Sec_eta, Rw.row, Rw_eta, Sky.row, Sky_eta, Place.row, Place_eta, Pass.row, Pass_eta, un_Word, un_Own, un_Part, un_Seen, un_Book, un_Sector, un_HCraft, un_World, un_Pt, un_Aw, un_Blk, un_Sec, un_Rw, un_Sky, un_Place, un_Pass]
  simp only [Place.mk.injEq]
  repeat' (first | with_reducible apply And.intro | with_reducible intro _)
  all_goals first | omega | (simp_all; done) | grind
def t_eqPlace : List AV → Option (Prop × AV)
  | [.agg [.int .i64 c_x, .int .i64 c_y, .int .i64 c_lv], .agg [.int .i64 d_x, .int .i64 d_y, .int .i64 d_lv]] => some ((True) ∧ (True), .bool (decide ((Place.mk c_x c_y c_lv) = (Place.mk d_x d_y d_lv))))
  | _ => none
theorem h_eqPlace : ∀ args p v, t_eqPlace args = some (p, v) → p → Contract P 102 args [] v [] ∧ noref v = true ∧ No99 v := by
  intro args p v h1 h2
  unfold t_eqPlace at h1
  split at h1
  · rename_i c_x c_y c_lv d_x d_y d_lv
    cases h1
    obtain ⟨_, HP⟩ := h2
    have := c_eqPlace (Place.mk c_x c_y c_lv) (Place.mk d_x d_y d_lv)
    exact ⟨by simpa only [Place.row, Place.row] using this, rfl, trivial⟩
  · cases h1
theorem c_eqPlaceS (t t' : Nat) (p q : List Place) (hp : p.length ≤ 4611686018427387904) : Contract P 35 [.sl t 3 (p.map Place.row), .sl t' 3 (q.map Place.row)] [] (.bool (decide (p = q))) [] := by
  refine fn_sound ((Env.nil P).add 102 t_eqPlace h_eqPlace) hm k_laws_eqSkyPlaceS (Nat.le_of_ble_eq_true rfl) rfl ?_; unfold s_laws_eqSkyPlaceS; simp (config := { maxSteps := 2000000 }) only [bitvec_to_nat, reduceIte, Nat.reduceEqDiff, Nat.reduceAdd, Nat.reduceLeDiff, reduceCtorEq, Nat.reduceBEq, Nat.reduceLT, Nat.reduceMod, List.forall_mem_cons, t_eqPlace, tk_map, dp_map, toNat_pred, appE, rowsOf, List.take_length, List.length_cons, List.length_nil, Nat.zero_add, srow, irow, un_s, un_i, Zone.row, Zone_eta, un_Zone, Word.row, Word_eta, Own.row, Own_eta, Part.row, Part_eta, Seen.row, Seen_eta, Book.row, Book_eta, Sector.row, Sector_eta, HCraft.row, HCraft_eta, World.row, World_eta, Pt.row, Pt_eta, Aw.row, Aw_eta, Blk.row, Blk_eta, Sec.row, Sec_eta, Rw.row, Rw_eta, Sky.row, Sky_eta, Place.row, Place_eta, Pass.row, Pass_eta, un_Word, un_Own, un_Part, un_Seen, un_Book, un_Sector, un_HCraft, un_World, un_Pt, un_Aw, un_Blk, un_Sec, un_Rw, un_Sky, un_Place, un_Pass]
  refine ⟨fun h1 h => h1 (by rw [h]), fun h1 => ?_⟩
  refine loop_st (fun i : Nat => [(5, .int .i64 i)]) (fun _ => []) (fun i => i ≤ p.length ∧ ∀ j, j < i → p.getD j default = q.getD j default) (fun i => p.length - i) (0) (by simp only [u_E0, u_E1, u_M0, u_M1, w_setE0, w_setE1, w_setM0, w_setM1, reduceIte, Nat.reduceEqDiff]; exact ⟨by repeat' (first | exact trivial | refine ⟨.inr rfl, ?_⟩), by repeat' (first | exact trivial | refine ⟨rfl, ?_⟩), by first | rfl | simp [closedB, refsIn, refsInL, refsInO, dom, refsInL_nr, *], by first | rfl | simp [keepB, dom]⟩) ?_ ?_
  · exact ⟨Nat.zero_le _, by intro j hj; omega⟩
  intro i hi NX hN
  unfold l_laws_eqSkyPlaceS_0; simp (config := { maxSteps := 2000000 }) only [bitvec_to_nat, reduceIte, Nat.reduceEqDiff, Nat.reduceAdd, Nat.reduceLeDiff, reduceCtorEq, Nat.reduceBEq, Nat.reduceLT, Nat.reduceMod, List.forall_mem_cons, t_eqPlace, tk_map, dp_map, toNat_pred, appE, rowsOf, List.take_length, List.length_cons, List.length_nil, Nat.zero_add, srow, irow, un_s, un_i, Zone.row, Zone_eta, un_Zone, Word.row, Word_eta, Own.row, Own_eta, Part.row, Part_eta, Seen.row, Seen_eta, Book.row, Book_eta, Sector.row, Sector_eta, HCraft.row, HCraft_eta, World.row, World_eta, Pt.row, Pt_eta, Aw.row, Aw_eta, Blk.row, Blk_eta, Sec.row, Sec_eta, Rw.row, Rw_eta, Sky.row, Sky_eta, Place.row, Place_eta, Pass.row, Pass_eta, un_Word, un_Own, un_Part, un_Seen, un_Book, un_Sector, un_HCraft, un_World, un_Pt, un_Aw, un_Blk, un_Sec, un_Rw, un_Sky, un_Place, un_Pass]
  skip
  repeat' (first | with_reducible apply And.intro | with_reducible intro _)
  all_goals first
    | omega
    | (refine hN (i + 1) _ (by simp only [u_E0, u_E1, u_M0, u_M1, w_setE0, w_setE1, w_setM0, w_setM1, reduceIte, Nat.reduceEqDiff]; exact ⟨by repeat' (first | exact trivial | refine ⟨.inr rfl, ?_⟩), by repeat' (first | exact trivial | refine ⟨rfl, ?_⟩), by first | rfl | simp [closedB, refsIn, refsInL, refsInO, dom, refsInL_nr, *], by first | rfl | simp [keepB, dom]⟩) ?_ ?_
       · exact ⟨by omega, all_snoc hi.2 (by with_reducible assumption)⟩
       · omega)
    | (intro h; subst h; exact absurd rfl (by with_reducible assumption))
    | (exact ext_of (by omega) fun j hj => hi.2 j (by omega))
    | grind
def t_eqPlaceS : List AV → Option (Prop × AV)
  | [.sl ct 3 cx, .sl dt 3 dx] => some ((((cx.map unPlace).map Place.row = cx) ∧ ((dx.map unPlace).map Place.row = dx)) ∧ ((cx.map unPlace).length ≤ 4611686018427387904), .bool (decide ((cx.map unPlace) = (dx.map unPlace))))
  | _ => none
theorem h_eqPlaceS : ∀ args p v, t_eqPlaceS args = some (p, v) → p → Contract P 35 args [] v [] ∧ noref v = true ∧ No99 v := by
  intro args p v h1 h2
  unfold t_eqPlaceS at h1
  split at h1
  · rename_i ct cx dt dx
    cases h1
    obtain ⟨⟨e0, e1⟩, HP⟩ := h2
    have := c_eqPlaceS ct dt (cx.map unPlace) (dx.map unPlace) HP
    exact ⟨by simpa only [e0, e1] using this, rfl, trivial⟩
  · cases h1
theorem c_eqPass (c d : Pass)  : Contract P 101 [.agg (c.row), .agg (d.row)] [] (.bool (decide (c = d))) [] := by
  obtain ⟨c_nm, c_fr, c_to⟩ := c
  obtain ⟨d_nm, d_fr, d_to⟩ := d
  simp only [Pass.row]
  refine fn_sound (Env.nil P) hm k_laws_eqSkyPass (Nat.le_of_ble_eq_true rfl) rfl ?_; unfold s_laws_eqSkyPass; simp (config := { maxSteps := 2000000 }) only [bitvec_to_nat, reduceIte, Nat.reduceEqDiff, Nat.reduceAdd, Nat.reduceLeDiff, reduceCtorEq, Nat.reduceBEq, Nat.reduceLT, Nat.reduceMod, List.forall_mem_cons, tk_map, dp_map, toNat_pred, appE, rowsOf, List.take_length, List.length_cons, List.length_nil, Nat.zero_add, srow, irow, un_s, un_i, Zone.row, Zone_eta, un_Zone, Word.row, Word_eta, Own.row, Own_eta, Part.row, Part_eta, Seen.row, Seen_eta, Book.row, Book_eta, Sector.row, Sector_eta, HCraft.row, HCraft_eta, World.row, World_eta, Pt.row, Pt_eta, Aw.row, Aw_eta, Blk.row, Blk_eta, Sec.row, Sec_eta, Rw.row, Rw_eta, Sky.row, Sky_eta, Place.row, Place_eta, Pass.row, Pass_eta, un_Word, un_Own, un_Part, un_Seen, un_Book, un_Sector, un_HCraft, un_World, un_Pt, un_Aw, un_Blk, un_Sec, un_Rw, un_Sky, un_Place, un_Pass]
  simp only [Pass.mk.injEq]
  repeat' (first | with_reducible apply And.intro | with_reducible intro _)
  all_goals first | omega | (simp_all; done) | grind
def t_eqPass : List AV → Option (Prop × AV)
  | [.agg [.str c_nm, .int .i64 c_fr, .int .i64 c_to], .agg [.str d_nm, .int .i64 d_fr, .int .i64 d_to]] => some ((True) ∧ (True), .bool (decide ((Pass.mk c_nm c_fr c_to) = (Pass.mk d_nm d_fr d_to))))
  | _ => none
theorem h_eqPass : ∀ args p v, t_eqPass args = some (p, v) → p → Contract P 101 args [] v [] ∧ noref v = true ∧ No99 v := by
  intro args p v h1 h2
  unfold t_eqPass at h1
  split at h1
  · rename_i c_nm c_fr c_to d_nm d_fr d_to
    cases h1
    obtain ⟨_, HP⟩ := h2
    have := c_eqPass (Pass.mk c_nm c_fr c_to) (Pass.mk d_nm d_fr d_to)
    exact ⟨by simpa only [Pass.row, Pass.row] using this, rfl, trivial⟩
  · cases h1
theorem c_eqPassS (t t' : Nat) (p q : List Pass) (hp : p.length ≤ 4611686018427387904) : Contract P 34 [.sl t 3 (p.map Pass.row), .sl t' 3 (q.map Pass.row)] [] (.bool (decide (p = q))) [] := by
  refine fn_sound ((Env.nil P).add 101 t_eqPass h_eqPass) hm k_laws_eqSkyPassS (Nat.le_of_ble_eq_true rfl) rfl ?_; unfold s_laws_eqSkyPassS; simp (config := { maxSteps := 2000000 }) only [bitvec_to_nat, reduceIte, Nat.reduceEqDiff, Nat.reduceAdd, Nat.reduceLeDiff, reduceCtorEq, Nat.reduceBEq, Nat.reduceLT, Nat.reduceMod, List.forall_mem_cons, t_eqPass, tk_map, dp_map, toNat_pred, appE, rowsOf, List.take_length, List.length_cons, List.length_nil, Nat.zero_add, srow, irow, un_s, un_i, Zone.row, Zone_eta, un_Zone, Word.row, Word_eta, Own.row, Own_eta, Part.row, Part_eta, Seen.row, Seen_eta, Book.row, Book_eta, Sector.row, Sector_eta, HCraft.row, HCraft_eta, World.row, World_eta, Pt.row, Pt_eta, Aw.row, Aw_eta, Blk.row, Blk_eta, Sec.row, Sec_eta, Rw.row, Rw_eta, Sky.row, Sky_eta, Place.row, Place_eta, Pass.row, Pass_eta, un_Word, un_Own, un_Part, un_Seen, un_Book, un_Sector, un_HCraft, un_World, un_Pt, un_Aw, un_Blk, un_Sec, un_Rw, un_Sky, un_Place, un_Pass]
  refine ⟨fun h1 h => h1 (by rw [h]), fun h1 => ?_⟩
  refine loop_st (fun i : Nat => [(5, .int .i64 i)]) (fun _ => []) (fun i => i ≤ p.length ∧ ∀ j, j < i → p.getD j default = q.getD j default) (fun i => p.length - i) (0) (by simp only [u_E0, u_E1, u_M0, u_M1, w_setE0, w_setE1, w_setM0, w_setM1, reduceIte, Nat.reduceEqDiff]; exact ⟨by repeat' (first | exact trivial | refine ⟨.inr rfl, ?_⟩), by repeat' (first | exact trivial | refine ⟨rfl, ?_⟩), by first | rfl | simp [closedB, refsIn, refsInL, refsInO, dom, refsInL_nr, *], by first | rfl | simp [keepB, dom]⟩) ?_ ?_
  · exact ⟨Nat.zero_le _, by intro j hj; omega⟩
  intro i hi NX hN
  unfold l_laws_eqSkyPassS_0; simp (config := { maxSteps := 2000000 }) only [bitvec_to_nat, reduceIte, Nat.reduceEqDiff, Nat.reduceAdd, Nat.reduceLeDiff, reduceCtorEq, Nat.reduceBEq, Nat.reduceLT, Nat.reduceMod, List.forall_mem_cons, t_eqPass, tk_map, dp_map, toNat_pred, appE, rowsOf, List.take_length, List.length_cons, List.length_nil, Nat.zero_add, srow, irow, un_s, un_i, Zone.row, Zone_eta, un_Zone, Word.row, Word_eta, Own.row, Own_eta, Part.row, Part_eta, Seen.row, Seen_eta, Book.row, Book_eta, Sector.row, Sector_eta, HCraft.row, HCraft_eta, World.row, World_eta, Pt.row, Pt_eta, Aw.row, Aw_eta, Blk.row, Blk_eta, Sec.row, Sec_eta, Rw.row, Rw_eta, Sky.row, Sky_eta, Place.row, Place_eta, Pass.row, Pass_eta, un_Word, un_Own, un_Part, un_Seen, un_Book, un_Sector, un_HCraft, un_World, un_Pt, un_Aw, un_Blk, un_Sec, un_Rw, un_Sky, un_Place, un_Pass]
  skip
  repeat' (first | with_reducible apply And.intro | with_reducible intro _)
  all_goals first
    | omega
    | (refine hN (i + 1) _ (by simp only [u_E0, u_E1, u_M0, u_M1, w_setE0, w_setE1, w_setM0, w_setM1, reduceIte, Nat.reduceEqDiff]; exact ⟨by repeat' (first | exact trivial | refine ⟨.inr rfl, ?_⟩), by repeat' (first | exact trivial | refine ⟨rfl, ?_⟩), by first | rfl | simp [closedB, refsIn, refsInL, refsInO, dom, refsInL_nr, *], by first | rfl | simp [keepB, dom]⟩) ?_ ?_
       · exact ⟨by omega, all_snoc hi.2 (by with_reducible assumption)⟩
       · omega)
    | (intro h; subst h; exact absurd rfl (by with_reducible assumption))
    | (exact ext_of (by omega) fun j hj => hi.2 j (by omega))
    | grind
def t_eqPassS : List AV → Option (Prop × AV)
  | [.sl ct 3 cx, .sl dt 3 dx] => some ((((cx.map unPass).map Pass.row = cx) ∧ ((dx.map unPass).map Pass.row = dx)) ∧ ((cx.map unPass).length ≤ 4611686018427387904), .bool (decide ((cx.map unPass) = (dx.map unPass))))
  | _ => none
theorem h_eqPassS : ∀ args p v, t_eqPassS args = some (p, v) → p → Contract P 34 args [] v [] ∧ noref v = true ∧ No99 v := by
  intro args p v h1 h2
  unfold t_eqPassS at h1
  split at h1
  · rename_i ct cx dt dx
    cases h1
    obtain ⟨⟨e0, e1⟩, HP⟩ := h2
    have := c_eqPassS ct dt (cx.map unPass) (dx.map unPass) HP
    exact ⟨by simpa only [e0, e1] using this, rfl, trivial⟩
  · cases h1
def mk_Place (k : Int) : Place := ⟨k, k + 1, k + 1 + 1⟩
def ms_Place (k : Int) (n : Nat) : List Place := (List.range n).map fun j : Nat => mk_Place (k + 3 * (j : Int))
theorem ms_Place_len {k : Int} {n : Nat} : (ms_Place k n).length = n := by simp [ms_Place]
theorem ms_Place_get {k : Int} {n j : Nat} (h : j < n) : (ms_Place k n).getD j default = mk_Place (k + 3 * (j : Int)) := by simp [ms_Place, h]
theorem setm_Place0 {l : List Place} {i : Nat} {v : Int} : (l.map Place.row).set i (setSeg ((l.map Place.row).getD i []) 0 [.int .i64 v]) = (l.set i { l.getD i default with x := v }).map Place.row :=
  set_rows (α := Place) (f := Place.row) (fun s => { s with x := v }) fun x => by simp [Place.row, setSeg]
theorem setm_Place1 {l : List Place} {i : Nat} {v : Int} : (l.map Place.row).set i (setSeg ((l.map Place.row).getD i []) 1 [.int .i64 v]) = (l.set i { l.getD i default with y := v }).map Place.row :=
  set_rows (α := Place) (f := Place.row) (fun s => { s with y := v }) fun x => by simp [Place.row, setSeg]
theorem setm_Place2 {l : List Place} {i : Nat} {v : Int} : (l.map Place.row).set i (setSeg ((l.map Place.row).getD i []) 2 [.int .i64 v]) = (l.set i { l.getD i default with lv := v }).map Place.row :=
  set_rows (α := Place) (f := Place.row) (fun s => { s with lv := v }) fun x => by simp [Place.row, setSeg]
set_option maxHeartbeats 1000000 in
theorem c_markPlaceS (v : Nat) (k : Int) (a : List Place) (ha : a.length ≤ 1048577) (hk : 0 ≤ k ∧ k ≤ 1125899906842624) : Contract P 36 [.own 3 v 0 a.length, .int .i64 k] [(3, .arr 43 v 3 (a.map Place.row))] (.int .i64 (k + 3 * a.length)) [(3, .arr 43 v 3 ((ms_Place k a.length).map Place.row))] := by
  have hz : ((0 : Nat) : Int) = 0 := rfl
  have gs : True := trivial
  refine fn_sound (Env.nil P) hm k_laws_markSkyPlaceS (Nat.le_of_ble_eq_true rfl) rfl ?_; unfold s_laws_markSkyPlaceS; simp (config := { maxSteps := 2000000 }) only [bitvec_to_nat, reduceIte, Nat.reduceEqDiff, Nat.reduceAdd, Nat.reduceLeDiff, reduceCtorEq, Nat.reduceBEq, Nat.reduceLT, Nat.reduceMod, List.forall_mem_cons, retG_ret, retQ_eq, retQ_eqN, retOk, keepB, re_tupl, orr_t, setm_Place0, setm_Place1, setm_Place2, List.set_set, gs, Place.row, irow, srow, Int.toNat_natCast, List.length_map, List.length_set, Nat.sub_zero, Nat.zero_add, hz]
  refine loop_st (fun b : Nat × List Place => [(1, .int .i64 (k + 3 * b.1)), (5, .int .i64 b.1)]) (fun b => [(3, .arr 43 v 3 (b.2.map Place.row))]) (fun b => b.2.length = a.length ∧ b.1 ≤ a.length ∧ ∀ j, j < b.1 → b.2.getD j default = mk_Place (k + 3 * (j : Int))) (fun b => a.length - b.1) (0, a) ?_ ⟨rfl, Nat.zero_le _, fun j hj => absurd hj (Nat.not_lt_zero _)⟩ ?_
  · have e0 : k + 3 * ((0 : Nat) : Int) = k := by omega
    simp only [e0]
    simp only [u_E0, u_E1, u_M0, u_M1, w_setE0, w_setE1, w_setM0, w_setM1, reduceIte, Nat.reduceEqDiff]; exact ⟨by repeat' (first | exact trivial | refine ⟨.inr rfl, ?_⟩), by repeat' (first | exact trivial | refine ⟨rfl, ?_⟩), by first | rfl | simp [closedB, refsIn, refsInL, refsInO, dom, refsInL_nr, *], by first | rfl | simp [keepB, dom]⟩
  rintro ⟨i, l⟩ ⟨h1, h2, h3⟩ NX hN
  simp only at h1 h2 h3
  have gs : i < a.length → ∀ x : Place, (l.set i x).getD i default = x := fun h x => getD_seti' (by omega)
  by_cases hi : i < a.length
  · have gs := gs hi
    have e5 : k + 3 * ((i + 1 : Nat) : Int) = k + 3 * (i : Int) + 1 + 1 + 1 := by omega
    unfold l_laws_markSkyPlaceS_0; simp (config := { maxSteps := 2000000 }) only [bitvec_to_nat, reduceIte, Nat.reduceEqDiff, Nat.reduceAdd, Nat.reduceLeDiff, reduceCtorEq, Nat.reduceBEq, Nat.reduceLT, Nat.reduceMod, List.forall_mem_cons, retG_ret, retQ_eq, retQ_eqN, retOk, keepB, re_tupl, orr_t, setm_Place0, setm_Place1, setm_Place2, List.set_set, gs, Place.row, irow, srow, Int.toNat_natCast, List.length_map, List.length_set, Nat.sub_zero, Nat.zero_add, hz]
    repeat' (first | with_reducible apply And.intro | with_reducible intro _)
    all_goals first
      | omega
      | (refine hN (i + 1, l.set i (mk_Place (k + 3 * (i : Int)))) _ (by simp only [e5]; simp only [u_E0, u_E1, u_M0, u_M1, w_setE0, w_setE1, w_setM0, w_setM1, reduceIte, Nat.reduceEqDiff]; exact ⟨by repeat' (first | exact trivial | refine ⟨.inr rfl, ?_⟩), by repeat' (first | exact trivial | refine ⟨rfl, ?_⟩), by first | rfl | simp [closedB, refsIn, refsInL, refsInO, dom, refsInL_nr, *], by first | rfl | simp [keepB, dom]⟩) ⟨by simp only [List.length_set]; exact h1, hi, fun j hj => ?_⟩ (by simp only; omega)
         simp only at hj ⊢
         by_cases e : j = i
         · subst e; exact getD_seti' (by omega)
         · rw [getD_setn' (Ne.symm e)]; exact h3 j (by omega))
      | (exfalso; omega)
  · have hl : l = ms_Place k a.length := ext_of (by rw [ms_Place_len]; exact h1) fun j hj => by rw [ms_Place_get (by omega)]; exact h3 j (by omega)
    have hi' : ¬ (i : Int) < a.length := by omega
    unfold l_laws_markSkyPlaceS_0; simp (config := { maxSteps := 2000000 }) only [bitvec_to_nat, reduceIte, Nat.reduceEqDiff, Nat.reduceAdd, Nat.reduceLeDiff, reduceCtorEq, Nat.reduceBEq, Nat.reduceLT, Nat.reduceMod, List.forall_mem_cons, retG_ret, retQ_eq, retQ_eqN, retOk, keepB, re_tupl, orr_t, setm_Place0, setm_Place1, setm_Place2, List.set_set, gs, Place.row, irow, srow, Int.toNat_natCast, List.length_map, List.length_set, Nat.sub_zero, Nat.zero_add, hz, hi']
    refine ⟨by omega, ?_⟩
    rw [hl]
def mk_Pass (k : Int) : Pass := ⟨mtx (k), k + 1, k + 1 + 1⟩
def ms_Pass (k : Int) (n : Nat) : List Pass := (List.range n).map fun j : Nat => mk_Pass (k + 3 * (j : Int))
theorem ms_Pass_len {k : Int} {n : Nat} : (ms_Pass k n).length = n := by simp [ms_Pass]
theorem ms_Pass_get {k : Int} {n j : Nat} (h : j < n) : (ms_Pass k n).getD j default = mk_Pass (k + 3 * (j : Int)) := by simp [ms_Pass, h]
theorem setm_Pass0 {l : List Pass} {i : Nat} {v : ByteArray} : (l.map Pass.row).set i (setSeg ((l.map Pass.row).getD i []) 0 [.str v]) = (l.set i { l.getD i default with nm := v }).map Pass.row :=
  set_rows (α := Pass) (f := Pass.row) (fun s => { s with nm := v }) fun x => by simp [Pass.row, setSeg]
theorem setm_Pass1 {l : List Pass} {i : Nat} {v : Int} : (l.map Pass.row).set i (setSeg ((l.map Pass.row).getD i []) 1 [.int .i64 v]) = (l.set i { l.getD i default with fr := v }).map Pass.row :=
  set_rows (α := Pass) (f := Pass.row) (fun s => { s with fr := v }) fun x => by simp [Pass.row, setSeg]
theorem setm_Pass2 {l : List Pass} {i : Nat} {v : Int} : (l.map Pass.row).set i (setSeg ((l.map Pass.row).getD i []) 2 [.int .i64 v]) = (l.set i { l.getD i default with to := v }).map Pass.row :=
  set_rows (α := Pass) (f := Pass.row) (fun s => { s with to := v }) fun x => by simp [Pass.row, setSeg]
set_option maxHeartbeats 1000000 in
theorem c_markPassS (v : Nat) (k : Int) (a : List Pass) (ha : a.length ≤ 1048577) (hk : 0 ≤ k ∧ k ≤ 1125899906842624) : Contract P 37 [.own 3 v 0 a.length, .int .i64 k] [(3, .arr 143 v 3 (a.map Pass.row))] (.int .i64 (k + 3 * a.length)) [(3, .arr 143 v 3 ((ms_Pass k a.length).map Pass.row))] := by
  have hz : ((0 : Nat) : Int) = 0 := rfl
  have gs : True := trivial
  refine fn_sound ((Env.nil P).add 100 t_markText h_markText) hm k_laws_markSkyPassS (Nat.le_of_ble_eq_true rfl) rfl ?_; unfold s_laws_markSkyPassS; simp (config := { maxSteps := 2000000 }) only [bitvec_to_nat, reduceIte, Nat.reduceEqDiff, Nat.reduceAdd, Nat.reduceLeDiff, reduceCtorEq, Nat.reduceBEq, Nat.reduceLT, Nat.reduceMod, List.forall_mem_cons, retG_ret, retQ_eq, retQ_eqN, retOk, keepB, re_tupl, orr_t, t_markText, setm_Pass0, setm_Pass1, setm_Pass2, List.set_set, gs, Pass.row, irow, srow, Int.toNat_natCast, List.length_map, List.length_set, Nat.sub_zero, Nat.zero_add, hz]
  refine loop_st (fun b : Nat × List Pass => [(1, .int .i64 (k + 3 * b.1)), (5, .int .i64 b.1)]) (fun b => [(3, .arr 143 v 3 (b.2.map Pass.row))]) (fun b => b.2.length = a.length ∧ b.1 ≤ a.length ∧ ∀ j, j < b.1 → b.2.getD j default = mk_Pass (k + 3 * (j : Int))) (fun b => a.length - b.1) (0, a) ?_ ⟨rfl, Nat.zero_le _, fun j hj => absurd hj (Nat.not_lt_zero _)⟩ ?_
  · have e0 : k + 3 * ((0 : Nat) : Int) = k := by omega
    simp only [e0]
    simp only [u_E0, u_E1, u_M0, u_M1, w_setE0, w_setE1, w_setM0, w_setM1, reduceIte, Nat.reduceEqDiff]; exact ⟨by repeat' (first | exact trivial | refine ⟨.inr rfl, ?_⟩), by repeat' (first | exact trivial | refine ⟨rfl, ?_⟩), by first | rfl | simp [closedB, refsIn, refsInL, refsInO, dom, refsInL_nr, *], by first | rfl | simp [keepB, dom]⟩
  rintro ⟨i, l⟩ ⟨h1, h2, h3⟩ NX hN
  simp only at h1 h2 h3
  have gs : i < a.length → ∀ x : Pass, (l.set i x).getD i default = x := fun h x => getD_seti' (by omega)
  by_cases hi : i < a.length
  · have gs := gs hi
    have e5 : k + 3 * ((i + 1 : Nat) : Int) = k + 3 * (i : Int) + 1 + 1 + 1 := by omega
    unfold l_laws_markSkyPassS_0; simp (config := { maxSteps := 2000000 }) only [bitvec_to_nat, reduceIte, Nat.reduceEqDiff, Nat.reduceAdd, Nat.reduceLeDiff, reduceCtorEq, Nat.reduceBEq, Nat.reduceLT, Nat.reduceMod, List.forall_mem_cons, retG_ret, retQ_eq, retQ_eqN, retOk, keepB, re_tupl, orr_t, t_markText, setm_Pass0, setm_Pass1, setm_Pass2, List.set_set, gs, Pass.row, irow, srow, Int.toNat_natCast, List.length_map, List.length_set, Nat.sub_zero, Nat.zero_add, hz]
    repeat' (first | with_reducible apply And.intro | with_reducible intro _)
    all_goals first
      | omega
      | (refine hN (i + 1, l.set i (mk_Pass (k + 3 * (i : Int)))) _ (by simp only [e5]; simp only [u_E0, u_E1, u_M0, u_M1, w_setE0, w_setE1, w_setM0, w_setM1, reduceIte, Nat.reduceEqDiff]; exact ⟨by repeat' (first | exact trivial | refine ⟨.inr rfl, ?_⟩), by repeat' (first | exact trivial | refine ⟨rfl, ?_⟩), by first | rfl | simp [closedB, refsIn, refsInL, refsInO, dom, refsInL_nr, *], by first | rfl | simp [keepB, dom]⟩) ⟨by simp only [List.length_set]; exact h1, hi, fun j hj => ?_⟩ (by simp only; omega)
         simp only at hj ⊢
         by_cases e : j = i
         · subst e; exact getD_seti' (by omega)
         · rw [getD_setn' (Ne.symm e)]; exact h3 j (by omega))
      | (exfalso; omega)
  · have hl : l = ms_Pass k a.length := ext_of (by rw [ms_Pass_len]; exact h1) fun j hj => by rw [ms_Pass_get (by omega)]; exact h3 j (by omega)
    have hi' : ¬ (i : Int) < a.length := by omega
    unfold l_laws_markSkyPassS_0; simp (config := { maxSteps := 2000000 }) only [bitvec_to_nat, reduceIte, Nat.reduceEqDiff, Nat.reduceAdd, Nat.reduceLeDiff, reduceCtorEq, Nat.reduceBEq, Nat.reduceLT, Nat.reduceMod, List.forall_mem_cons, retG_ret, retQ_eq, retQ_eqN, retOk, keepB, re_tupl, orr_t, t_markText, setm_Pass0, setm_Pass1, setm_Pass2, List.set_set, gs, Pass.row, irow, srow, Int.toNat_natCast, List.length_map, List.length_set, Nat.sub_zero, Nat.zero_add, hz, hi']
    refine ⟨by omega, ?_⟩
    rw [hl]
set_option maxHeartbeats 1000000 in
theorem c_heldPassS (t : Nat) (k : Int) (n : Nat) (ha : n ≤ 1048577) (hk : 0 ≤ k ∧ k ≤ 1125899906842624) : Contract P 38 [.sl t 3 ((ms_Pass k n).map Pass.row), .int .i64 k] [] (.int .i64 (k + 3 * n)) [] := by
  have hz : ((0 : Nat) : Int) = 0 := rfl
  refine fn_sound ((Env.nil P).add 100 t_markText h_markText) hm k_laws_heldSkyPassS (Nat.le_of_ble_eq_true rfl) rfl ?_; unfold s_laws_heldSkyPassS; simp (config := { maxSteps := 2000000 }) only [bitvec_to_nat, reduceIte, Nat.reduceEqDiff, Nat.reduceAdd, Nat.reduceLeDiff, reduceCtorEq, Nat.reduceBEq, Nat.reduceLT, Nat.reduceMod, List.forall_mem_cons, t_markText, Pass.row, Pass_eta, irow, srow, Int.toNat_natCast, List.length_map, Nat.sub_zero, Nat.zero_add, hz, eq_self, ms_Pass_len]
  refine loop_st (fun i : Nat => [(1, .int .i64 (k + 3 * i)), (5, .int .i64 i)]) (fun _ => []) (fun i => i ≤ n) (fun i => n - i) 0 ?_ (Nat.zero_le _) ?_
  · have e0 : k + 3 * ((0 : Nat) : Int) = k := by omega
    simp only [e0]
    simp only [u_E0, u_E1, u_M0, u_M1, w_setE0, w_setE1, w_setM0, w_setM1, reduceIte, Nat.reduceEqDiff]; exact ⟨by repeat' (first | exact trivial | refine ⟨.inr rfl, ?_⟩), by repeat' (first | exact trivial | refine ⟨rfl, ?_⟩), by first | rfl | simp [closedB, refsIn, refsInL, refsInO, dom, refsInL_nr, *], by first | rfl | simp [keepB, dom]⟩
  intro i hi NX hN
  have e5 : k + 3 * ((i + 1 : Nat) : Int) = k + 3 * (i : Int) + 1 + 1 + 1 := by omega
  by_cases h : i < n
  · have hg := ms_Pass_get (k := k) h
    have h' : (i : Int) < n := by omega
    unfold l_laws_heldSkyPassS_0; simp (config := { maxSteps := 2000000 }) only [bitvec_to_nat, reduceIte, Nat.reduceEqDiff, Nat.reduceAdd, Nat.reduceLeDiff, reduceCtorEq, Nat.reduceBEq, Nat.reduceLT, Nat.reduceMod, List.forall_mem_cons, t_markText, Pass.row, Pass_eta, irow, srow, Int.toNat_natCast, List.length_map, Nat.sub_zero, Nat.zero_add, hz, eq_self, ms_Pass_len, h', hg, mk_Pass, not_true_eq_false, ne_eq, bne_self_eq_false]
    repeat' (first | with_reducible apply And.intro | with_reducible intro _)
    all_goals first
      | omega
      | rfl
      | (rename_i h; exact absurd rfl h)
      | (refine hN (i + 1) _ (by simp only [e5]; simp only [u_E0, u_E1, u_M0, u_M1, w_setE0, w_setE1, w_setM0, w_setM1, reduceIte, Nat.reduceEqDiff]; exact ⟨by repeat' (first | exact trivial | refine ⟨.inr rfl, ?_⟩), by repeat' (first | exact trivial | refine ⟨rfl, ?_⟩), by first | rfl | simp [closedB, refsIn, refsInL, refsInO, dom, refsInL_nr, *], by first | rfl | simp [keepB, dom]⟩) ?_ ?_ <;> omega)
  · have h' : ¬ (i : Int) < n := by omega
    unfold l_laws_heldSkyPassS_0; simp (config := { maxSteps := 2000000 }) only [bitvec_to_nat, reduceIte, Nat.reduceEqDiff, Nat.reduceAdd, Nat.reduceLeDiff, reduceCtorEq, Nat.reduceBEq, Nat.reduceLT, Nat.reduceMod, List.forall_mem_cons, t_markText, Pass.row, Pass_eta, irow, srow, Int.toNat_natCast, List.length_map, Nat.sub_zero, Nat.zero_add, hz, eq_self, ms_Pass_len, h']
    omega
theorem c_markNPassS (t : Nat) (k : Int) : Contract P 37 [.sl t 3 [], .int .i64 k] [] (.int .i64 k) [] := by
  refine fn_sound ((Env.nil P).add 100 t_markText h_markText) hm k_laws_markSkyPassS (Nat.le_of_ble_eq_true rfl) rfl ?_; unfold s_laws_markSkyPassS; simp (config := { maxSteps := 2000000 }) only [bitvec_to_nat, reduceIte, Nat.reduceEqDiff, Nat.reduceAdd, Nat.reduceLeDiff, reduceCtorEq, Nat.reduceBEq, Nat.reduceLT, Nat.reduceMod, List.forall_mem_cons, t_markText, List.map_nil, List.length_nil]
  refine loop_st (fun _ : Nat => [(5, .int .i64 0)]) (fun _ => []) (fun _ => True) (fun i => i) 0 (by simp only [u_E0, u_E1, u_M0, u_M1, w_setE0, w_setE1, w_setM0, w_setM1, reduceIte, Nat.reduceEqDiff]; exact ⟨by repeat' (first | exact trivial | refine ⟨.inr rfl, ?_⟩), by repeat' (first | exact trivial | refine ⟨rfl, ?_⟩), by first | rfl | simp [closedB, refsIn, refsInL, refsInO, dom, refsInL_nr, *], by first | rfl | simp [keepB, dom]⟩) trivial ?_
  intro i _ NX hN
  unfold l_laws_markSkyPassS_0; simp (config := { maxSteps := 2000000 }) only [bitvec_to_nat, reduceIte, Nat.reduceEqDiff, Nat.reduceAdd, Nat.reduceLeDiff, reduceCtorEq, Nat.reduceBEq, Nat.reduceLT, Nat.reduceMod, List.forall_mem_cons, t_markText, List.map_nil, List.length_nil]
  first
    | exact fun h => absurd h (by omega)
    | exact ⟨fun h => absurd h (by omega), fun _ => by first | trivial | rfl⟩
end
end Go.Ve

namespace Go.Ve
noncomputable section
open Go.Proofs
set_option linter.unusedSimpArgs false
set_option linter.unusedVariables false
set_option maxRecDepth 100000
def plOk (s : Sky) (p : Place) : Prop := 0 ≤ secI s.secs p.x p.y p.lv
instance (s : Sky) (p : Place) : Decidable (plOk s p) := by unfold plOk; infer_instance
def plNm (s : Sky) (p : Place) : ByteArray := wNm s.secs p.x p.y p.lv
def pstep (l : List Pass) (nm : ByteArray) (i : Int) : List Pass := if 0 < l.length ∧ (l.getD (l.length - 1) default).nm = nm then l.set (l.length - 1) { l.getD (l.length - 1) default with to := i } else l ++ [⟨nm, i, i⟩]
def pRun (s : Sky) (ps : List Place) : Nat → List Pass
  | 0 => []
  | i + 1 => pstep (pRun s ps i) (plNm s (ps.getD i default)) i
theorem pRun_len {s : Sky} {ps : List Place} : ∀ i, (pRun s ps i).length ≤ i
  | 0 => Nat.le_refl _
  | i + 1 => by
    have := pRun_len (s := s) (ps := ps) i
    simp only [pRun, pstep]
    split
    · rw [List.length_set]; omega
    · rw [List.length_append]; simp only [List.length_cons, List.length_nil]; omega
def psOk (s : Sky) (ps : List Place) : Prop := s.valid ∧ ∀ i, i < ps.length → plOk s (ps.getD i default)
noncomputable instance (s : Sky) (ps : List Place) : Decidable (psOk s ps) := Classical.propDecidable _
def psL (s : Sky) (ps : List Place) : List Pass := if psOk s ps then pRun s ps ps.length else []
def psC (s : Sky) (ps : List Place) : Int := if s.valid then (if psOk s ps then 0 else 2) else 1
theorem pSet {l : List Pass} {nm : ByteArray} {i : Int} (h : 0 < l.length ∧ (l.getD (l.length - 1) default).nm = nm) : pstep l nm i = l.set (l.length - 1) { l.getD (l.length - 1) default with to := i } := by
  rw [pstep, if_pos h]
set_option maxHeartbeats 2000000 in
theorem c_sPasses (s : Sky) (t : Nat) (ps : List Place) (hs : s.small) (hp : ps.length ≤ 1048576) : Contract P 31 [.agg (s.row 0), .sl t 3 (ps.map Place.row)] [] (.tup [.sl 0 3 ((psL s ps).map Pass.row), .int .i64 (psC s ps)]) [] := by
  have tkl : True := trivial
  refine fn_sound (((Env.nil P).add 13 t_sSkyValid h_sSkyValid).add 86 t_l5Where h_l5Where) hm k_spec_SkyPasses (Nat.le_of_ble_eq_true rfl) rfl ?_; unfold s_spec_SkyPasses; simp (config := { maxSteps := 2000000 }) only [bitvec_to_nat, reduceIte, Nat.reduceEqDiff, Nat.reduceAdd, Nat.reduceLeDiff, reduceCtorEq, Nat.reduceBEq, Nat.reduceLT, Nat.reduceMod, List.forall_mem_cons, t_sSkyValid, t_l5Where, tk_map, dp_map, toNat_pred, appE, rowsOf, List.take_length, List.length_cons, List.length_nil, Nat.zero_add, srow, irow, un_s, un_i, Zone.row, Zone_eta, un_Zone, Word.row, Word_eta, Own.row, Own_eta, Part.row, Part_eta, Seen.row, Seen_eta, Book.row, Book_eta, Sector.row, Sector_eta, HCraft.row, HCraft_eta, World.row, World_eta, Pt.row, Pt_eta, Aw.row, Aw_eta, Blk.row, Blk_eta, Sec.row, Sec_eta, Rw.row, Rw_eta, Sky.row, Sky_eta, Place.row, Place_eta, Pass.row, Pass_eta, un_Word, un_Own, un_Part, un_Seen, un_Book, un_Sector, un_HCraft, un_World, un_Pt, un_Aw, un_Blk, un_Sec, un_Rw, un_Sky, un_Place, un_Pass, Nat.sub_zero, Sky.row, Place.row, ghost, List.nil_append, take_all, tkl, Pass.row, getD_rows, setm_Pass0, setm_Pass1, setm_Pass2]
  refine ⟨hs, fun hv => ?_, fun hv => ?_⟩
  · refine loop_st (fun i : Nat => [(6, .own 111 (pRun s ps i).length 0 (pRun s ps i).length), (7, .int .i64 i)]) (fun i => [(111, .arr 143 (pRun s ps i).length 3 ((pRun s ps i).map Pass.row))]) (fun i => i ≤ ps.length ∧ ∀ j, j < i → plOk s (ps.getD j default)) (fun i => ps.length - i) 0 (by simp only [u_E0, u_E1, u_M0, u_M1, w_setE0, w_setE1, w_setM0, w_setM1, reduceIte, Nat.reduceEqDiff]; exact ⟨by repeat' (first | exact trivial | refine ⟨.inr rfl, ?_⟩), by repeat' (first | exact trivial | refine ⟨rfl, ?_⟩), by first | rfl | simp [closedB, refsIn, refsInL, refsInO, dom, refsInL_nr, *], by first | rfl | simp [keepB, dom]⟩) ⟨Nat.zero_le _, fun j hj => absurd hj (Nat.not_lt_zero _)⟩ ?_
    rintro i ⟨hi, h1⟩ NX hN
    have hll := pRun_len (s := s) (ps := ps) i
    have hrun : pRun s ps (i + 1) = pstep (pRun s ps i) (plNm s (ps.getD i default)) i := rfl
    by_cases hlt : i < ps.length
    · generalize pRun s ps i = l at *
      have tkl : List.take l.length (l.map Pass.row) = l.map Pass.row := List.take_of_length_le (by simp)
      unfold l_spec_SkyPasses_0; simp (config := { maxSteps := 2000000 }) only [bitvec_to_nat, reduceIte, Nat.reduceEqDiff, Nat.reduceAdd, Nat.reduceLeDiff, reduceCtorEq, Nat.reduceBEq, Nat.reduceLT, Nat.reduceMod, List.forall_mem_cons, t_sSkyValid, t_l5Where, tk_map, dp_map, toNat_pred, appE, rowsOf, List.take_length, List.length_cons, List.length_nil, Nat.zero_add, srow, irow, un_s, un_i, Zone.row, Zone_eta, un_Zone, Word.row, Word_eta, Own.row, Own_eta, Part.row, Part_eta, Seen.row, Seen_eta, Book.row, Book_eta, Sector.row, Sector_eta, HCraft.row, HCraft_eta, World.row, World_eta, Pt.row, Pt_eta, Aw.row, Aw_eta, Blk.row, Blk_eta, Sec.row, Sec_eta, Rw.row, Rw_eta, Sky.row, Sky_eta, Place.row, Place_eta, Pass.row, Pass_eta, un_Word, un_Own, un_Part, un_Seen, un_Book, un_Sector, un_HCraft, un_World, un_Pt, un_Aw, un_Blk, un_Sec, un_Rw, un_Sky, un_Place, un_Pass, Nat.sub_zero, Sky.row, Place.row, ghost, List.nil_append, take_all, tkl, Pass.row, getD_rows, setm_Pass0, setm_Pass1, setm_Pass2]
      have eA : 0 < l.length → (l.getD (l.length - 1) default).nm = plNm s (ps.getD i default) → pRun s ps (i + 1) = l.set (l.length - 1) ⟨(l.getD (l.length - 1) default).nm, (l.getD (l.length - 1) default).fr, i⟩ := fun h h' => hrun.trans (pSet ⟨h, h'⟩)
      have eB : ¬ (0 < l.length ∧ (l.getD (l.length - 1) default).nm = plNm s (ps.getD i default)) → pRun s ps (i + 1) = l ++ [⟨plNm s (ps.getD i default), i, i⟩] := fun h => hrun.trans (by rw [pstep, if_neg h])
      have eN : ¬ plOk s (ps.getD i default) → ¬ psOk s ps := fun h k => h (k.2 i hlt)
      repeat' (first | with_reducible apply And.intro | with_reducible intro _)
      all_goals first
        | omega
        | exact hs
        | (have e := eA (by omega) (by assumption)
           refine hN (i + 1) _ (by simp only [e, List.length_set, List.length_append, List.length_cons, List.length_nil, Nat.zero_add, List.map_append, List.map_cons, List.map_nil, Pass.row]; simp only [u_E0, u_E1, u_M0, u_M1, w_setE0, w_setE1, w_setM0, w_setM1, reduceIte, Nat.reduceEqDiff]; exact ⟨by repeat' (first | exact trivial | refine ⟨.inr rfl, ?_⟩), by repeat' (first | exact trivial | refine ⟨rfl, ?_⟩), by first | rfl | simp [closedB, refsIn, refsInL, refsInO, dom, refsInL_nr, *], by first | rfl | simp [keepB, dom]⟩) ⟨by omega, all_snoc h1 (by assumption)⟩ (by omega))
        | (have e := eB (fun h => by first | omega | exact absurd h.2 (by assumption))
           refine hN (i + 1) _ (by simp only [e, List.length_set, List.length_append, List.length_cons, List.length_nil, Nat.zero_add, List.map_append, List.map_cons, List.map_nil, Pass.row]; simp only [u_E0, u_E1, u_M0, u_M1, w_setE0, w_setE1, w_setM0, w_setM1, reduceIte, Nat.reduceEqDiff]; exact ⟨by repeat' (first | exact trivial | refine ⟨.inr rfl, ?_⟩), by repeat' (first | exact trivial | refine ⟨rfl, ?_⟩), by first | rfl | simp [closedB, refsIn, refsInL, refsInO, dom, refsInL_nr, *], by first | rfl | simp [keepB, dom]⟩) ⟨by omega, all_snoc h1 (by assumption)⟩ (by omega))
        | (exfalso; omega)
        | exact absurd hok' (eN (by assumption))
        | (have := eN (by assumption); simp [psL, psC, this, hv]; done)
        | (exfalso; have := eN (by assumption); simp_all [psL, psC]; done)
    · have e : i = ps.length := by omega
      subst e
      have hok : psOk s ps := ⟨hv, h1⟩
      have tkl : List.take (pRun s ps ps.length).length ((pRun s ps ps.length).map Pass.row) = (pRun s ps ps.length).map Pass.row := List.take_of_length_le (by simp)
      have hi' : ¬ ((ps.length : Nat) : Int) < ps.length := by omega
      unfold l_spec_SkyPasses_0; simp (config := { maxSteps := 2000000 }) only [bitvec_to_nat, reduceIte, Nat.reduceEqDiff, Nat.reduceAdd, Nat.reduceLeDiff, reduceCtorEq, Nat.reduceBEq, Nat.reduceLT, Nat.reduceMod, List.forall_mem_cons, t_sSkyValid, t_l5Where, tk_map, dp_map, toNat_pred, appE, rowsOf, List.take_length, List.length_cons, List.length_nil, Nat.zero_add, srow, irow, un_s, un_i, Zone.row, Zone_eta, un_Zone, Word.row, Word_eta, Own.row, Own_eta, Part.row, Part_eta, Seen.row, Seen_eta, Book.row, Book_eta, Sector.row, Sector_eta, HCraft.row, HCraft_eta, World.row, World_eta, Pt.row, Pt_eta, Aw.row, Aw_eta, Blk.row, Blk_eta, Sec.row, Sec_eta, Rw.row, Rw_eta, Sky.row, Sky_eta, Place.row, Place_eta, Pass.row, Pass_eta, un_Word, un_Own, un_Part, un_Seen, un_Book, un_Sector, un_HCraft, un_World, un_Pt, un_Aw, un_Blk, un_Sec, un_Rw, un_Sky, un_Place, un_Pass, Nat.sub_zero, Sky.row, Place.row, ghost, List.nil_append, take_all, tkl, Pass.row, getD_rows, setm_Pass0, setm_Pass1, setm_Pass2, hi']
      simp [psL, psC, hok, hv]
  · have : ¬ psOk s ps := fun h => hv h.1
    simp [psL, psC, this, hv]
def t_sPasses : List AV → Option (Prop × AV)
  | [.agg [.int .i64 s_w, .int .i64 s_h, .int .i64 s_lv, .sl 0 3 s_pts, .sl 0 2 s_aws, .sl 0 2 s_secs, .sl 0 4 s_rws], .sl pt 3 px] => some ((((s_pts.map unPt).map Pt.row = s_pts) ∧ ((s_aws.map unAw).map (Aw.row 0) = s_aws) ∧ ((s_secs.map unSec).map (Sec.row 0) = s_secs) ∧ ((s_rws.map unRw).map Rw.row = s_rws) ∧ ((px.map unPlace).map Place.row = px)) ∧ (Sky.small (Sky.mk s_w s_h s_lv (s_pts.map unPt) (s_aws.map unAw) (s_secs.map unSec) (s_rws.map unRw)) ∧ (px.map unPlace).length ≤ 1048576), .tup [.sl 0 3 ((psL (Sky.mk s_w s_h s_lv (s_pts.map unPt) (s_aws.map unAw) (s_secs.map unSec) (s_rws.map unRw)) (px.map unPlace)).map Pass.row), .int .i64 (psC (Sky.mk s_w s_h s_lv (s_pts.map unPt) (s_aws.map unAw) (s_secs.map unSec) (s_rws.map unRw)) (px.map unPlace))])
  | _ => none
theorem h_sPasses : ∀ args p v, t_sPasses args = some (p, v) → p → Contract P 31 args [] v [] ∧ noref v = true ∧ No99 v := by
  intro args p v h1 h2
  unfold t_sPasses at h1
  split at h1
  · rename_i s_w s_h s_lv s_pts s_aws s_secs s_rws pt px
    cases h1
    obtain ⟨⟨e0, e1, e2, e3, e4⟩, HP⟩ := h2
    have := c_sPasses (Sky.mk s_w s_h s_lv (s_pts.map unPt) (s_aws.map unAw) (s_secs.map unSec) (s_rws.map unRw)) pt (px.map unPlace) HP.1 HP.2
    exact ⟨by simpa only [e0, e1, e2, e3, e4, Sky.row] using this, rfl, by simp [No99, No99L, no99_Pass]⟩
  · cases h1
set_option maxHeartbeats 2000000 in
theorem c_iPassY (s : Sky) (t : Nat) (ps : List Place) (hs : s.small) (hf : s.fitp) (hp : ps.length ≤ 1048576) (hok' : psOk s ps) : Contract P 33 [.agg (s.row 0), .sl t 3 (ps.map Place.row)] [] (.tup [.own 106 (psL s ps).length 0 (psL s ps).length, .int .i64 0]) [(106, .arr 143 (psL s ps).length 3 ((psL s ps).map Pass.row))] := by
  have tkl : True := trivial
  have hv := hok'.1
  rw [show psL s ps = pRun s ps ps.length from if_pos hok']
  refine fn_sound (((Env.nil P).add 15 t_iSkyValid h_iSkyValid).add 87 t_iWhere h_iWhere) hm kO_impl_SkyPasses (Nat.le_of_ble_eq_true rfl) rfl ?_; unfold sO_impl_SkyPasses; simp (config := { maxSteps := 2000000 }) only [bitvec_to_nat, reduceIte, Nat.reduceEqDiff, Nat.reduceAdd, Nat.reduceLeDiff, reduceCtorEq, Nat.reduceBEq, Nat.reduceLT, Nat.reduceMod, List.forall_mem_cons, retG_ret, retQ_eq, retQ_eqN, retOk, keepB, re_tupl, orr_t, t_iSkyValid, t_iWhere, tk_map, dp_map, toNat_pred, appE, rowsOf, List.take_length, List.length_cons, List.length_nil, Nat.zero_add, srow, irow, un_s, un_i, Zone.row, Zone_eta, un_Zone, Word.row, Word_eta, Own.row, Own_eta, Part.row, Part_eta, Seen.row, Seen_eta, Book.row, Book_eta, Sector.row, Sector_eta, HCraft.row, HCraft_eta, World.row, World_eta, Pt.row, Pt_eta, Aw.row, Aw_eta, Blk.row, Blk_eta, Sec.row, Sec_eta, Rw.row, Rw_eta, Sky.row, Sky_eta, Place.row, Place_eta, Pass.row, Pass_eta, un_Word, un_Own, un_Part, un_Seen, un_Book, un_Sector, un_HCraft, un_World, un_Pt, un_Aw, un_Blk, un_Sec, un_Rw, un_Sky, un_Place, un_Pass, Nat.sub_zero, Sky.row, Place.row, ghost, List.nil_append, take_all, tkl, Pass.row, getD_rows, setm_Pass0, setm_Pass1, setm_Pass2]
  refine ⟨⟨hs, hf⟩, fun hv => ?_, fun h => absurd hv h⟩
  · refine loop_st (fun i : Nat => [(6, .own 106 (pRun s ps i).length 0 (pRun s ps i).length), (17, .int .i64 i)]) (fun i => [(106, .arr 143 (pRun s ps i).length 3 ((pRun s ps i).map Pass.row))]) (fun i => i ≤ ps.length ∧ ∀ j, j < i → plOk s (ps.getD j default)) (fun i => ps.length - i) 0 (by simp only [u_E0, u_E1, u_M0, u_M1, w_setE0, w_setE1, w_setM0, w_setM1, reduceIte, Nat.reduceEqDiff]; exact ⟨by repeat' (first | exact trivial | refine ⟨.inr rfl, ?_⟩), by repeat' (first | exact trivial | refine ⟨rfl, ?_⟩), by first | rfl | simp [closedB, refsIn, refsInL, refsInO, dom, refsInL_nr, *], by first | rfl | simp [keepB, dom]⟩) ⟨Nat.zero_le _, fun j hj => absurd hj (Nat.not_lt_zero _)⟩ ?_
    rintro i ⟨hi, h1⟩ NX hN
    have hll := pRun_len (s := s) (ps := ps) i
    have hrun : pRun s ps (i + 1) = pstep (pRun s ps i) (plNm s (ps.getD i default)) i := rfl
    by_cases hlt : i < ps.length
    · generalize pRun s ps i = l at *
      have tkl : List.take l.length (l.map Pass.row) = l.map Pass.row := List.take_of_length_le (by simp)
      unfold lO_impl_SkyPasses_0; simp (config := { maxSteps := 2000000 }) only [bitvec_to_nat, reduceIte, Nat.reduceEqDiff, Nat.reduceAdd, Nat.reduceLeDiff, reduceCtorEq, Nat.reduceBEq, Nat.reduceLT, Nat.reduceMod, List.forall_mem_cons, retG_ret, retQ_eq, retQ_eqN, retOk, keepB, re_tupl, orr_t, t_iSkyValid, t_iWhere, tk_map, dp_map, toNat_pred, appE, rowsOf, List.take_length, List.length_cons, List.length_nil, Nat.zero_add, srow, irow, un_s, un_i, Zone.row, Zone_eta, un_Zone, Word.row, Word_eta, Own.row, Own_eta, Part.row, Part_eta, Seen.row, Seen_eta, Book.row, Book_eta, Sector.row, Sector_eta, HCraft.row, HCraft_eta, World.row, World_eta, Pt.row, Pt_eta, Aw.row, Aw_eta, Blk.row, Blk_eta, Sec.row, Sec_eta, Rw.row, Rw_eta, Sky.row, Sky_eta, Place.row, Place_eta, Pass.row, Pass_eta, un_Word, un_Own, un_Part, un_Seen, un_Book, un_Sector, un_HCraft, un_World, un_Pt, un_Aw, un_Blk, un_Sec, un_Rw, un_Sky, un_Place, un_Pass, Nat.sub_zero, Sky.row, Place.row, ghost, List.nil_append, take_all, tkl, Pass.row, getD_rows, setm_Pass0, setm_Pass1, setm_Pass2]
      have eA : 0 < l.length → (l.getD (l.length - 1) default).nm = plNm s (ps.getD i default) → pRun s ps (i + 1) = l.set (l.length - 1) ⟨(l.getD (l.length - 1) default).nm, (l.getD (l.length - 1) default).fr, i⟩ := fun h h' => hrun.trans (pSet ⟨h, h'⟩)
      have eB : ¬ (0 < l.length ∧ (l.getD (l.length - 1) default).nm = plNm s (ps.getD i default)) → pRun s ps (i + 1) = l ++ [⟨plNm s (ps.getD i default), i, i⟩] := fun h => hrun.trans (by rw [pstep, if_neg h])
      have eN : ¬ plOk s (ps.getD i default) → ¬ psOk s ps := fun h k => h (k.2 i hlt)
      repeat' (first | with_reducible apply And.intro | with_reducible intro _)
      all_goals first
        | omega
        | exact hs
        | (have e := eA (by omega) (by assumption)
           refine hN (i + 1) _ (by simp only [e, List.length_set, List.length_append, List.length_cons, List.length_nil, Nat.zero_add, List.map_append, List.map_cons, List.map_nil, Pass.row]; simp only [u_E0, u_E1, u_M0, u_M1, w_setE0, w_setE1, w_setM0, w_setM1, reduceIte, Nat.reduceEqDiff]; exact ⟨by repeat' (first | exact trivial | refine ⟨.inr rfl, ?_⟩), by repeat' (first | exact trivial | refine ⟨rfl, ?_⟩), by first | rfl | simp [closedB, refsIn, refsInL, refsInO, dom, refsInL_nr, *], by first | rfl | simp [keepB, dom]⟩) ⟨by omega, all_snoc h1 (by assumption)⟩ (by omega))
        | (have e := eB (fun h => by first | omega | exact absurd h.2 (by assumption))
           refine hN (i + 1) _ (by simp only [e, List.length_set, List.length_append, List.length_cons, List.length_nil, Nat.zero_add, List.map_append, List.map_cons, List.map_nil, Pass.row]; simp only [u_E0, u_E1, u_M0, u_M1, w_setE0, w_setE1, w_setM0, w_setM1, reduceIte, Nat.reduceEqDiff]; exact ⟨by repeat' (first | exact trivial | refine ⟨.inr rfl, ?_⟩), by repeat' (first | exact trivial | refine ⟨rfl, ?_⟩), by first | rfl | simp [closedB, refsIn, refsInL, refsInO, dom, refsInL_nr, *], by first | rfl | simp [keepB, dom]⟩) ⟨by omega, all_snoc h1 (by assumption)⟩ (by omega))
        | (exfalso; omega)
        | exact absurd hok' (eN (by assumption))
        | (have := eN (by assumption); simp [psL, psC, this, hv]; done)
        | (exfalso; have := eN (by assumption); simp_all [psL, psC]; done)
    · have e : i = ps.length := by omega
      subst e
      have hok : psOk s ps := ⟨hv, h1⟩
      have tkl : List.take (pRun s ps ps.length).length ((pRun s ps ps.length).map Pass.row) = (pRun s ps ps.length).map Pass.row := List.take_of_length_le (by simp)
      have hi' : ¬ ((ps.length : Nat) : Int) < ps.length := by omega
      unfold lO_impl_SkyPasses_0; simp (config := { maxSteps := 2000000 }) only [bitvec_to_nat, reduceIte, Nat.reduceEqDiff, Nat.reduceAdd, Nat.reduceLeDiff, reduceCtorEq, Nat.reduceBEq, Nat.reduceLT, Nat.reduceMod, List.forall_mem_cons, retG_ret, retQ_eq, retQ_eqN, retOk, keepB, re_tupl, orr_t, t_iSkyValid, t_iWhere, tk_map, dp_map, toNat_pred, appE, rowsOf, List.take_length, List.length_cons, List.length_nil, Nat.zero_add, srow, irow, un_s, un_i, Zone.row, Zone_eta, un_Zone, Word.row, Word_eta, Own.row, Own_eta, Part.row, Part_eta, Seen.row, Seen_eta, Book.row, Book_eta, Sector.row, Sector_eta, HCraft.row, HCraft_eta, World.row, World_eta, Pt.row, Pt_eta, Aw.row, Aw_eta, Blk.row, Blk_eta, Sec.row, Sec_eta, Rw.row, Rw_eta, Sky.row, Sky_eta, Place.row, Place_eta, Pass.row, Pass_eta, un_Word, un_Own, un_Part, un_Seen, un_Book, un_Sector, un_HCraft, un_World, un_Pt, un_Aw, un_Blk, un_Sec, un_Rw, un_Sky, un_Place, un_Pass, Nat.sub_zero, Sky.row, Place.row, ghost, List.nil_append, take_all, tkl, Pass.row, getD_rows, setm_Pass0, setm_Pass1, setm_Pass2, hi']
      exact ⟨by simp [refsIn], rfl⟩
set_option maxHeartbeats 2000000 in
theorem c_iPassN (s : Sky) (t : Nat) (ps : List Place) (hs : s.small) (hf : s.fitp) (hp : ps.length ≤ 1048576) (hno : ¬ psOk s ps) : Contract P 33 [.agg (s.row 0), .sl t 3 (ps.map Place.row)] [] (.tup [.sl 98 3 [], .int .i64 (psC s ps)]) [] := by
  have tkl : True := trivial
  have hok' : True := trivial
  refine fn_sound (((Env.nil P).add 15 t_iSkyValid h_iSkyValid).add 87 t_iWhere h_iWhere) hm kO_impl_SkyPasses (Nat.le_of_ble_eq_true rfl) rfl ?_; unfold sO_impl_SkyPasses; simp (config := { maxSteps := 2000000 }) only [bitvec_to_nat, reduceIte, Nat.reduceEqDiff, Nat.reduceAdd, Nat.reduceLeDiff, reduceCtorEq, Nat.reduceBEq, Nat.reduceLT, Nat.reduceMod, List.forall_mem_cons, retG_ret, retQ_eq, retQ_eqN, retOk, keepB, re_tupl, orr_t, t_iSkyValid, t_iWhere, tk_map, dp_map, toNat_pred, appE, rowsOf, List.take_length, List.length_cons, List.length_nil, Nat.zero_add, srow, irow, un_s, un_i, Zone.row, Zone_eta, un_Zone, Word.row, Word_eta, Own.row, Own_eta, Part.row, Part_eta, Seen.row, Seen_eta, Book.row, Book_eta, Sector.row, Sector_eta, HCraft.row, HCraft_eta, World.row, World_eta, Pt.row, Pt_eta, Aw.row, Aw_eta, Blk.row, Blk_eta, Sec.row, Sec_eta, Rw.row, Rw_eta, Sky.row, Sky_eta, Place.row, Place_eta, Pass.row, Pass_eta, un_Word, un_Own, un_Part, un_Seen, un_Book, un_Sector, un_HCraft, un_World, un_Pt, un_Aw, un_Blk, un_Sec, un_Rw, un_Sky, un_Place, un_Pass, Nat.sub_zero, Sky.row, Place.row, ghost, List.nil_append, take_all, tkl, Pass.row, getD_rows, setm_Pass0, setm_Pass1, setm_Pass2]
  refine ⟨⟨hs, hf⟩, fun hv => ?_, fun hv => ?_⟩
  · refine loop_st (fun i : Nat => [(6, .own 106 (pRun s ps i).length 0 (pRun s ps i).length), (17, .int .i64 i)]) (fun i => [(106, .arr 143 (pRun s ps i).length 3 ((pRun s ps i).map Pass.row))]) (fun i => i ≤ ps.length ∧ ∀ j, j < i → plOk s (ps.getD j default)) (fun i => ps.length - i) 0 (by simp only [u_E0, u_E1, u_M0, u_M1, w_setE0, w_setE1, w_setM0, w_setM1, reduceIte, Nat.reduceEqDiff]; exact ⟨by repeat' (first | exact trivial | refine ⟨.inr rfl, ?_⟩), by repeat' (first | exact trivial | refine ⟨rfl, ?_⟩), by first | rfl | simp [closedB, refsIn, refsInL, refsInO, dom, refsInL_nr, *], by first | rfl | simp [keepB, dom]⟩) ⟨Nat.zero_le _, fun j hj => absurd hj (Nat.not_lt_zero _)⟩ ?_
    rintro i ⟨hi, h1⟩ NX hN
    have hll := pRun_len (s := s) (ps := ps) i
    have hrun : pRun s ps (i + 1) = pstep (pRun s ps i) (plNm s (ps.getD i default)) i := rfl
    by_cases hlt : i < ps.length
    · generalize pRun s ps i = l at *
      have tkl : List.take l.length (l.map Pass.row) = l.map Pass.row := List.take_of_length_le (by simp)
      unfold lO_impl_SkyPasses_0; simp (config := { maxSteps := 2000000 }) only [bitvec_to_nat, reduceIte, Nat.reduceEqDiff, Nat.reduceAdd, Nat.reduceLeDiff, reduceCtorEq, Nat.reduceBEq, Nat.reduceLT, Nat.reduceMod, List.forall_mem_cons, retG_ret, retQ_eq, retQ_eqN, retOk, keepB, re_tupl, orr_t, t_iSkyValid, t_iWhere, tk_map, dp_map, toNat_pred, appE, rowsOf, List.take_length, List.length_cons, List.length_nil, Nat.zero_add, srow, irow, un_s, un_i, Zone.row, Zone_eta, un_Zone, Word.row, Word_eta, Own.row, Own_eta, Part.row, Part_eta, Seen.row, Seen_eta, Book.row, Book_eta, Sector.row, Sector_eta, HCraft.row, HCraft_eta, World.row, World_eta, Pt.row, Pt_eta, Aw.row, Aw_eta, Blk.row, Blk_eta, Sec.row, Sec_eta, Rw.row, Rw_eta, Sky.row, Sky_eta, Place.row, Place_eta, Pass.row, Pass_eta, un_Word, un_Own, un_Part, un_Seen, un_Book, un_Sector, un_HCraft, un_World, un_Pt, un_Aw, un_Blk, un_Sec, un_Rw, un_Sky, un_Place, un_Pass, Nat.sub_zero, Sky.row, Place.row, ghost, List.nil_append, take_all, tkl, Pass.row, getD_rows, setm_Pass0, setm_Pass1, setm_Pass2]
      have eA : 0 < l.length → (l.getD (l.length - 1) default).nm = plNm s (ps.getD i default) → pRun s ps (i + 1) = l.set (l.length - 1) ⟨(l.getD (l.length - 1) default).nm, (l.getD (l.length - 1) default).fr, i⟩ := fun h h' => hrun.trans (pSet ⟨h, h'⟩)
      have eB : ¬ (0 < l.length ∧ (l.getD (l.length - 1) default).nm = plNm s (ps.getD i default)) → pRun s ps (i + 1) = l ++ [⟨plNm s (ps.getD i default), i, i⟩] := fun h => hrun.trans (by rw [pstep, if_neg h])
      have eN : ¬ plOk s (ps.getD i default) → ¬ psOk s ps := fun h k => h (k.2 i hlt)
      repeat' (first | with_reducible apply And.intro | with_reducible intro _)
      all_goals first
        | omega
        | exact hs
        | (have e := eA (by omega) (by assumption)
           refine hN (i + 1) _ (by simp only [e, List.length_set, List.length_append, List.length_cons, List.length_nil, Nat.zero_add, List.map_append, List.map_cons, List.map_nil, Pass.row]; simp only [u_E0, u_E1, u_M0, u_M1, w_setE0, w_setE1, w_setM0, w_setM1, reduceIte, Nat.reduceEqDiff]; exact ⟨by repeat' (first | exact trivial | refine ⟨.inr rfl, ?_⟩), by repeat' (first | exact trivial | refine ⟨rfl, ?_⟩), by first | rfl | simp [closedB, refsIn, refsInL, refsInO, dom, refsInL_nr, *], by first | rfl | simp [keepB, dom]⟩) ⟨by omega, all_snoc h1 (by assumption)⟩ (by omega))
        | (have e := eB (fun h => by first | omega | exact absurd h.2 (by assumption))
           refine hN (i + 1) _ (by simp only [e, List.length_set, List.length_append, List.length_cons, List.length_nil, Nat.zero_add, List.map_append, List.map_cons, List.map_nil, Pass.row]; simp only [u_E0, u_E1, u_M0, u_M1, w_setE0, w_setE1, w_setM0, w_setM1, reduceIte, Nat.reduceEqDiff]; exact ⟨by repeat' (first | exact trivial | refine ⟨.inr rfl, ?_⟩), by repeat' (first | exact trivial | refine ⟨rfl, ?_⟩), by first | rfl | simp [closedB, refsIn, refsInL, refsInO, dom, refsInL_nr, *], by first | rfl | simp [keepB, dom]⟩) ⟨by omega, all_snoc h1 (by assumption)⟩ (by omega))
        | (exfalso; omega)
        | exact absurd hok' (eN (by assumption))
        | (have := eN (by assumption); simp [psL, psC, this, hv]; done)
        | (exfalso; have := eN (by assumption); simp_all [psL, psC]; done)
    · have e : i = ps.length := by omega
      subst e
      have hok : psOk s ps := ⟨hv, h1⟩
      have tkl : List.take (pRun s ps ps.length).length ((pRun s ps ps.length).map Pass.row) = (pRun s ps ps.length).map Pass.row := List.take_of_length_le (by simp)
      have hi' : ¬ ((ps.length : Nat) : Int) < ps.length := by omega
      unfold lO_impl_SkyPasses_0; simp (config := { maxSteps := 2000000 }) only [bitvec_to_nat, reduceIte, Nat.reduceEqDiff, Nat.reduceAdd, Nat.reduceLeDiff, reduceCtorEq, Nat.reduceBEq, Nat.reduceLT, Nat.reduceMod, List.forall_mem_cons, retG_ret, retQ_eq, retQ_eqN, retOk, keepB, re_tupl, orr_t, t_iSkyValid, t_iWhere, tk_map, dp_map, toNat_pred, appE, rowsOf, List.take_length, List.length_cons, List.length_nil, Nat.zero_add, srow, irow, un_s, un_i, Zone.row, Zone_eta, un_Zone, Word.row, Word_eta, Own.row, Own_eta, Part.row, Part_eta, Seen.row, Seen_eta, Book.row, Book_eta, Sector.row, Sector_eta, HCraft.row, HCraft_eta, World.row, World_eta, Pt.row, Pt_eta, Aw.row, Aw_eta, Blk.row, Blk_eta, Sec.row, Sec_eta, Rw.row, Rw_eta, Sky.row, Sky_eta, Place.row, Place_eta, Pass.row, Pass_eta, un_Word, un_Own, un_Part, un_Seen, un_Book, un_Sector, un_HCraft, un_World, un_Pt, un_Aw, un_Blk, un_Sec, un_Rw, un_Sky, un_Place, un_Pass, Nat.sub_zero, Sky.row, Place.row, ghost, List.nil_append, take_all, tkl, Pass.row, getD_rows, setm_Pass0, setm_Pass1, setm_Pass2, hi']
      exact absurd hok hno
  · simp [psC, hv]
end
end Go.Ve

namespace Go.Ve
noncomputable section
open Go.Proofs
set_option linter.unusedSimpArgs false
set_option linter.unusedVariables false
set_option maxRecDepth 100000
open Go.ChangeShapes Go.WideShapes
def t_heldPassS : List AV → Option (Prop × AV)
  | [.sl _ 3 zx, .int .i64 k] => some (zx = (ms_Pass k zx.length).map Pass.row ∧ zx.length ≤ 1048577 ∧ (0 ≤ k ∧ k ≤ 1125899906842624), .int .i64 (k + 3 * (zx.length : Nat)))
  | _ => none
theorem h_heldPassS : ∀ args p v, t_heldPassS args = some (p, v) → p → Contract P 38 args [] v [] ∧ noref v = true ∧ No99 v := by
  intro args p v h1 h2
  unfold t_heldPassS at h1
  split at h1
  · rename_i t zx k
    cases h1
    obtain ⟨e1, h3, h4⟩ := h2
    have := c_heldPassS t k zx.length h3 h4
    rw [← e1] at this
    exact ⟨this, rfl, trivial⟩
  · cases h1
set_option maxHeartbeats 8000000 in
theorem c_lawPY (s : Sky) (ps : List Place) (hf : s.fitp) (hpf : ps.length ≤ 9223372036854775807) (hv : psOk s ps) : Contract P 8 [.agg (s.row 1), .sl 1 3 (ps.map Place.row)] [] (.bool true) [] := by
  have tkP : List.take ps.length (ps.map Place.row) = ps.map Place.row := List.take_of_length_le (by simp)
  have hlz : psC s ps = 0 := by simp [psC, hv, hv.1]
  have hlv : True := trivial
  have tkZ : List.take (psL s ps).length ((psL s ps).map Pass.row) = (psL s ps).map Pass.row := List.take_of_length_le (by simp)
  have tkM : ∀ k : Int, List.take (psL s ps).length ((ms_Pass k (psL s ps).length).map Pass.row) = (ms_Pass k (psL s ps).length).map Pass.row := fun k => List.take_of_length_le (by rw [List.length_map, ms_Pass_len]; omega)
  have z2 : Sky.sz s 1048576 ≤ 1048576 := by have := (meas_Sky s 1048576 (by omega)).2.2; omega
  generalize hn1 : Sky.sz s 1048576 = n1 at *
  have hn2 : True := trivial
  simp only [Sky.row]
  refine fn_sound (((((((Env.nil P).add 12 t_szSky h_szSky).add 30 t_szPlaceS h_szPlaceS).add 31 t_sPasses h_sPasses).add 34 t_eqPassS h_eqPassS).add 35 t_eqPlaceS h_eqPlaceS).add 38 t_heldPassS h_heldPassS) hm k_laws_FnExactSkyPasses (Nat.le_of_ble_eq_true rfl) rfl ?_; unfold s_laws_FnExactSkyPasses; simp (config := { maxSteps := 2000000 }) only [bitvec_to_nat, reduceIte, Nat.reduceEqDiff, Nat.reduceAdd, Nat.reduceLeDiff, reduceCtorEq, Nat.reduceBEq, Nat.reduceLT, Nat.reduceMod, List.forall_mem_cons, t_szSky, t_szPlaceS, t_sPasses, t_eqPassS, t_eqPlaceS, t_heldPassS, tk_map, dp_map, toNat_pred, appE, rowsOf, List.take_length, List.length_cons, List.length_nil, Nat.zero_add, srow, irow, un_s, un_i, Zone.row, Zone_eta, un_Zone, Pt.row, Pt_eta, un_Pt, Aw.row, Aw_eta, un_Aw, Blk.row, Blk_eta, un_Blk, Sec.row, Sec_eta, un_Sec, Rw.row, Rw_eta, un_Rw, Sky_eta, Sky.row, Place.row, Place_eta, un_Place, Pass.row, Pass_eta, un_Pass, ms_Pass_len, List.length_map, gSky, gSky', sSky, sSky', gSky0, sSky0, gG, gG', sG, sG', kG, gs1, gs2, gs3, gs4, tkZ, tkM, tkP, not_true_eq_false, ne_eq, eq_self, bne_self_eq_false, Int.toNat_natCast, Nat.sub_zero, and_self, hlz, hlv, hn1, hn2, apK1, apNew1, apG1, skyV, List.cons_append, List.nil_append]
  refine ⟨⟨by omega, hf⟩, fun g1 => ⟨⟨by omega, by omega⟩, fun g2 => ?_⟩⟩
  have hs : s.small := Sky.sz_ok (a := 1048576) (by omega) (by omega)
  have hp : ps.length ≤ 1048576 := by
    have h9 : szOf n1 ps.length = if n1 - ps.length < 0 then -1 else n1 - ps.length := rfl
    split at h9 <;> omega
  have hsm := hs
  unfold Sky.small at hsm
  have hT := c_toSky s hs
  have n9T : No99 (.agg (s.row 0)) := by simp [Sky.row, No99, No99L, no99_Pt, no99_Aw, no99_Sec, no99_Rw]
  have hTP := c_toPlaceS 1 ps hp
  have n9P : No99 (.sl 0 3 (ps.map Place.row)) := by simp only [No99]; exact ⟨by omega, no99_Place ps⟩
  have hTO := toSkyK s hs
  have hPO := (c_toPlaceSO 1 ps hp).ren (swp 107 621) (swp_swp _ _)
  have hEq := eqSkyC s hs
  have hMk := markSkyK 1 s hs (by omega)
  have hct1 := ct_Aw_le hs.2.1.2 (Nat.le_refl _)
  have hct2 := ct_Sec_le hs.2.2.1.2 (Nat.le_refl _)
  have hcs : cntSky s ≤ 100000000000000 := by unfold cntSky; omega
  have hMP := (c_markPlaceS 0 (1 + cntSky s) ps (by omega) (by omega)).ren (swp 3 621) (swp_swp _ _)
  have tPl : tag0L [.sl 99 3 (ps.map Place.row)] = [.sl 0 3 (ps.map Place.row)] := by simp only [tag0L, tag0]; rw [tag_flat (f := Place.row) fun _ => rfl]
  have nPl : no98L [.sl 99 3 (ps.map Place.row)] = true := by simp only [no98L, no98]; rw [no98_rows (f := Place.row) fun _ => rfl]; rfl
  have fPl : ∀ r ∈ ps.map Place.row, flatOk r = true := fun r hr => by obtain ⟨x, _, rfl⟩ := List.mem_map.1 hr; rfl
  have hlen : (psL s ps).length ≤ 1048576 := by have := pRun_len (s := s) (ps := ps) ps.length; rw [psL, if_pos hv]; omega
  have hI1 := (c_iPassY s 0 ps hs hf hp hv).ren (swp 106 731) (swp_swp _ _)
  have hI2 := (c_iPassY s 0 ps hs hf hp hv).ren (swp 106 741) (swp_swp _ _)
  have hZ := (c_markPassS (psL s ps).length 1 (psL s ps) (by omega) (by omega)).ren (swp 3 731) (swp_swp _ _)
  rw [show renL (swp 106 731) [AV.agg (s.row 0), .sl 0 3 (ps.map Place.row)] = [.agg (s.row 0), .sl 0 3 (ps.map Place.row)] from rfl] at hI1
  rw [show renL (swp 106 741) [AV.agg (s.row 0), .sl 0 3 (ps.map Place.row)] = [.agg (s.row 0), .sl 0 3 (ps.map Place.row)] from rfl] at hI2
  simp only [renL, ren, renM, renO, swp, reduceIte, Nat.reduceEqDiff, Nat.reduceLT, List.length_map] at hI1 hI2 hZ hPO hMP
  simp only [Sky.row] at hT n9T hTO
  refine ⟨_, _, .inr (.inl ⟨rfl, _, rfl, hT, rfl, n9T⟩), ?_⟩
  simp (config := { maxSteps := 2000000 }) only [bitvec_to_nat, reduceIte, Nat.reduceEqDiff, Nat.reduceAdd, Nat.reduceLeDiff, reduceCtorEq, Nat.reduceBEq, Nat.reduceLT, Nat.reduceMod, List.forall_mem_cons, t_szSky, t_szPlaceS, t_sPasses, t_eqPassS, t_eqPlaceS, t_heldPassS, tk_map, dp_map, toNat_pred, appE, rowsOf, List.take_length, List.length_cons, List.length_nil, Nat.zero_add, srow, irow, un_s, un_i, Zone.row, Zone_eta, un_Zone, Pt.row, Pt_eta, un_Pt, Aw.row, Aw_eta, un_Aw, Blk.row, Blk_eta, un_Blk, Sec.row, Sec_eta, un_Sec, Rw.row, Rw_eta, un_Rw, Sky_eta, Sky.row, Place.row, Place_eta, un_Place, Pass.row, Pass_eta, un_Pass, ms_Pass_len, List.length_map, gSky, gSky', sSky, sSky', gSky0, sSky0, gG, gG', sG, sG', kG, gs1, gs2, gs3, gs4, tkZ, tkM, tkP, not_true_eq_false, ne_eq, eq_self, bne_self_eq_false, Int.toNat_natCast, Nat.sub_zero, and_self, hlz, hlv, hn1, hn2, apK1, apNew1, apG1, skyV, List.cons_append, List.nil_append]
  refine ⟨_, _, .inr (.inl ⟨rfl, _, rfl, hTP, rfl, n9P⟩), ?_⟩
  simp (config := { maxSteps := 2000000 }) only [bitvec_to_nat, reduceIte, Nat.reduceEqDiff, Nat.reduceAdd, Nat.reduceLeDiff, reduceCtorEq, Nat.reduceBEq, Nat.reduceLT, Nat.reduceMod, List.forall_mem_cons, t_szSky, t_szPlaceS, t_sPasses, t_eqPassS, t_eqPlaceS, t_heldPassS, tk_map, dp_map, toNat_pred, appE, rowsOf, List.take_length, List.length_cons, List.length_nil, Nat.zero_add, srow, irow, un_s, un_i, Zone.row, Zone_eta, un_Zone, Pt.row, Pt_eta, un_Pt, Aw.row, Aw_eta, un_Aw, Blk.row, Blk_eta, un_Blk, Sec.row, Sec_eta, un_Sec, Rw.row, Rw_eta, un_Rw, Sky_eta, Sky.row, Place.row, Place_eta, un_Place, Pass.row, Pass_eta, un_Pass, ms_Pass_len, List.length_map, gSky, gSky', sSky, sSky', gSky0, sSky0, gG, gG', sG, sG', kG, gs1, gs2, gs3, gs4, tkZ, tkM, tkP, not_true_eq_false, ne_eq, eq_self, bne_self_eq_false, Int.toNat_natCast, Nat.sub_zero, and_self, hlz, hlv, hn1, hn2, apK1, apNew1, apG1, skyV, List.cons_append, List.nil_append]
  refine ⟨⟨hs, hp⟩, _, _, .inr (.inr (.inl ⟨_, rfl, hTO, K0r_new (by simp), K0r_refV, K0r_refs, by simp [skyV, No99, No99L], K0_99⟩)), ?_⟩
  simp (config := { maxSteps := 2000000 }) only [bitvec_to_nat, reduceIte, Nat.reduceEqDiff, Nat.reduceAdd, Nat.reduceLeDiff, reduceCtorEq, Nat.reduceBEq, Nat.reduceLT, Nat.reduceMod, List.forall_mem_cons, t_szSky, t_szPlaceS, t_sPasses, t_eqPassS, t_eqPlaceS, t_heldPassS, tk_map, dp_map, toNat_pred, appE, rowsOf, List.take_length, List.length_cons, List.length_nil, Nat.zero_add, srow, irow, un_s, un_i, Zone.row, Zone_eta, un_Zone, Pt.row, Pt_eta, un_Pt, Aw.row, Aw_eta, un_Aw, Blk.row, Blk_eta, un_Blk, Sec.row, Sec_eta, un_Sec, Rw.row, Rw_eta, un_Rw, Sky_eta, Sky.row, Place.row, Place_eta, un_Place, Pass.row, Pass_eta, un_Pass, ms_Pass_len, List.length_map, gSky, gSky', sSky, sSky', gSky0, sSky0, gG, gG', sG, sG', kG, gs1, gs2, gs3, gs4, tkZ, tkM, tkP, not_true_eq_false, ne_eq, eq_self, bne_self_eq_false, Int.toNat_natCast, Nat.sub_zero, and_self, hlz, hlv, hn1, hn2, apK1, apNew1, apG1, skyV, List.cons_append, List.nil_append]
  refine ⟨_, _, .inr (.inr (.inl ⟨_, rfl, hPO, by simp only [List.forall_mem_cons, fm0, and_true, w_getM0, w_getM1, gSky, gSky', gG, gG', Nat.reduceLT, Nat.reduceEqDiff, reduceIte], by simp [refsIn, refsInL, dom], rfl, trivial, by simp only [List.forall_mem_cons, fm0, and_true]; exact no99_Place _⟩)), ?_⟩
  simp (config := { maxSteps := 2000000 }) only [bitvec_to_nat, reduceIte, Nat.reduceEqDiff, Nat.reduceAdd, Nat.reduceLeDiff, reduceCtorEq, Nat.reduceBEq, Nat.reduceLT, Nat.reduceMod, List.forall_mem_cons, t_szSky, t_szPlaceS, t_sPasses, t_eqPassS, t_eqPlaceS, t_heldPassS, tk_map, dp_map, toNat_pred, appE, rowsOf, List.take_length, List.length_cons, List.length_nil, Nat.zero_add, srow, irow, un_s, un_i, Zone.row, Zone_eta, un_Zone, Pt.row, Pt_eta, un_Pt, Aw.row, Aw_eta, un_Aw, Blk.row, Blk_eta, un_Blk, Sec.row, Sec_eta, un_Sec, Rw.row, Rw_eta, un_Rw, Sky_eta, Sky.row, Place.row, Place_eta, un_Place, Pass.row, Pass_eta, un_Pass, ms_Pass_len, List.length_map, gSky, gSky', sSky, sSky', gSky0, sSky0, gG, gG', sG, sG', kG, gs1, gs2, gs3, gs4, tkZ, tkM, tkP, not_true_eq_false, ne_eq, eq_self, bne_self_eq_false, Int.toNat_natCast, Nat.sub_zero, and_self, hlz, hlv, hn1, hn2, apK1, apNew1, apG1, skyV, List.cons_append, List.nil_append]
  refine ⟨_, _, callR_sky (s := s) (a := 611) (b := 613) (c := 614) (d := 612) (kA := 107) (kS := 108) (rest' := [.sl 99 3 (ps.map Place.row)]) (by rw [tPl]; exact hI1) (K0_in1 (by omega)) (K0_self s) (purNL_one (purN_flat (e := 43) (by simp only [List.forall_mem_cons, fm0, and_true, w_getM0, w_getM1, gSky, gSky', gG, gG', Nat.reduceLT, Nat.reduceEqDiff, reduceIte]) fPl (by simp))) nPl rfl (by simp [plainO, Pass.row, plainL, plainV]) (by simp only [List.forall_mem_cons, fm0, and_true, w_getM0, w_getM1, gSky, gSky', gG, gG', Nat.reduceLT, Nat.reduceEqDiff, reduceIte]) (by simp [refsIn, refsInL, dom]) (by simp [refsInO]) (by simp [No99, No99L, No99LL]) (by simp only [List.forall_mem_cons, fm0, and_true]; exact no99_Pass _), ?_⟩
  simp (config := { maxSteps := 2000000 }) only [bitvec_to_nat, reduceIte, Nat.reduceEqDiff, Nat.reduceAdd, Nat.reduceLeDiff, reduceCtorEq, Nat.reduceBEq, Nat.reduceLT, Nat.reduceMod, List.forall_mem_cons, t_szSky, t_szPlaceS, t_sPasses, t_eqPassS, t_eqPlaceS, t_heldPassS, tk_map, dp_map, toNat_pred, appE, rowsOf, List.take_length, List.length_cons, List.length_nil, Nat.zero_add, srow, irow, un_s, un_i, Zone.row, Zone_eta, un_Zone, Pt.row, Pt_eta, un_Pt, Aw.row, Aw_eta, un_Aw, Blk.row, Blk_eta, un_Blk, Sec.row, Sec_eta, un_Sec, Rw.row, Rw_eta, un_Rw, Sky_eta, Sky.row, Place.row, Place_eta, un_Place, Pass.row, Pass_eta, un_Pass, ms_Pass_len, List.length_map, gSky, gSky', sSky, sSky', gSky0, sSky0, gG, gG', sG, sG', kG, gs1, gs2, gs3, gs4, tkZ, tkM, tkP, not_true_eq_false, ne_eq, eq_self, bne_self_eq_false, Int.toNat_natCast, Nat.sub_zero, and_self, hlz, hlv, hn1, hn2, apK1, apNew1, apG1, skyV, List.cons_append, List.nil_append]
  refine ⟨by omega, _, _, .inr (.inl ⟨rfl, _, rfl, hT, rfl, n9T⟩), ?_⟩
  simp (config := { maxSteps := 2000000 }) only [bitvec_to_nat, reduceIte, Nat.reduceEqDiff, Nat.reduceAdd, Nat.reduceLeDiff, reduceCtorEq, Nat.reduceBEq, Nat.reduceLT, Nat.reduceMod, List.forall_mem_cons, t_szSky, t_szPlaceS, t_sPasses, t_eqPassS, t_eqPlaceS, t_heldPassS, tk_map, dp_map, toNat_pred, appE, rowsOf, List.take_length, List.length_cons, List.length_nil, Nat.zero_add, srow, irow, un_s, un_i, Zone.row, Zone_eta, un_Zone, Pt.row, Pt_eta, un_Pt, Aw.row, Aw_eta, un_Aw, Blk.row, Blk_eta, un_Blk, Sec.row, Sec_eta, un_Sec, Rw.row, Rw_eta, un_Rw, Sky_eta, Sky.row, Place.row, Place_eta, un_Place, Pass.row, Pass_eta, un_Pass, ms_Pass_len, List.length_map, gSky, gSky', sSky, sSky', gSky0, sSky0, gG, gG', sG, sG', kG, gs1, gs2, gs3, gs4, tkZ, tkM, tkP, not_true_eq_false, ne_eq, eq_self, bne_self_eq_false, Int.toNat_natCast, Nat.sub_zero, and_self, hlz, hlv, hn1, hn2, apK1, apNew1, apG1, skyV, List.cons_append, List.nil_append]
  refine ⟨_, _, callR_sky (s := s) (a := 611) (b := 613) (c := 614) (d := 612) (kA := 107) (kS := 108) (news := []) (r := .bool true) (rest' := [.agg (s.row 0)]) (by simp only [tag0L, tag_sky]; exact hEq) (K0_in1 (by omega)) (K0_self s) rfl (by simp only [no98L, no98_sky 0 (by omega), Bool.and_self]) rfl rfl (by simp) rfl rfl trivial (by simp), ?_⟩
  simp (config := { maxSteps := 2000000 }) only [bitvec_to_nat, reduceIte, Nat.reduceEqDiff, Nat.reduceAdd, Nat.reduceLeDiff, reduceCtorEq, Nat.reduceBEq, Nat.reduceLT, Nat.reduceMod, List.forall_mem_cons, t_szSky, t_szPlaceS, t_sPasses, t_eqPassS, t_eqPlaceS, t_heldPassS, tk_map, dp_map, toNat_pred, appE, rowsOf, List.take_length, List.length_cons, List.length_nil, Nat.zero_add, srow, irow, un_s, un_i, Zone.row, Zone_eta, un_Zone, Pt.row, Pt_eta, un_Pt, Aw.row, Aw_eta, un_Aw, Blk.row, Blk_eta, un_Blk, Sec.row, Sec_eta, un_Sec, Rw.row, Rw_eta, un_Rw, Sky_eta, Sky.row, Place.row, Place_eta, un_Place, Pass.row, Pass_eta, un_Pass, ms_Pass_len, List.length_map, gSky, gSky', sSky, sSky', gSky0, sSky0, gG, gG', sG, sG', kG, gs1, gs2, gs3, gs4, tkZ, tkM, tkP, not_true_eq_false, ne_eq, eq_self, bne_self_eq_false, Int.toNat_natCast, Nat.sub_zero, and_self, hlz, hlv, hn1, hn2, apK1, apNew1, apG1, skyV, List.cons_append, List.nil_append]
  refine ⟨_, _, .inr (.inl ⟨rfl, _, rfl, hTP, rfl, n9P⟩), ?_⟩
  simp (config := { maxSteps := 2000000 }) only [bitvec_to_nat, reduceIte, Nat.reduceEqDiff, Nat.reduceAdd, Nat.reduceLeDiff, reduceCtorEq, Nat.reduceBEq, Nat.reduceLT, Nat.reduceMod, List.forall_mem_cons, t_szSky, t_szPlaceS, t_sPasses, t_eqPassS, t_eqPlaceS, t_heldPassS, tk_map, dp_map, toNat_pred, appE, rowsOf, List.take_length, List.length_cons, List.length_nil, Nat.zero_add, srow, irow, un_s, un_i, Zone.row, Zone_eta, un_Zone, Pt.row, Pt_eta, un_Pt, Aw.row, Aw_eta, un_Aw, Blk.row, Blk_eta, un_Blk, Sec.row, Sec_eta, un_Sec, Rw.row, Rw_eta, un_Rw, Sky_eta, Sky.row, Place.row, Place_eta, un_Place, Pass.row, Pass_eta, un_Pass, ms_Pass_len, List.length_map, gSky, gSky', sSky, sSky', gSky0, sSky0, gG, gG', sG, sG', kG, gs1, gs2, gs3, gs4, tkZ, tkM, tkP, not_true_eq_false, ne_eq, eq_self, bne_self_eq_false, Int.toNat_natCast, Nat.sub_zero, and_self, hlz, hlv, hn1, hn2, apK1, apNew1, apG1, skyV, List.cons_append, List.nil_append]
  refine ⟨by omega, _, _, callR_gone hMk (K0_in1 (by omega)) K0_ref2 sky_refs rfl, ?_⟩
  simp (config := { maxSteps := 2000000 }) only [bitvec_to_nat, reduceIte, Nat.reduceEqDiff, Nat.reduceAdd, Nat.reduceLeDiff, reduceCtorEq, Nat.reduceBEq, Nat.reduceLT, Nat.reduceMod, List.forall_mem_cons, t_szSky, t_szPlaceS, t_sPasses, t_eqPassS, t_eqPlaceS, t_heldPassS, tk_map, dp_map, toNat_pred, appE, rowsOf, List.take_length, List.length_cons, List.length_nil, Nat.zero_add, srow, irow, un_s, un_i, Zone.row, Zone_eta, un_Zone, Pt.row, Pt_eta, un_Pt, Aw.row, Aw_eta, un_Aw, Blk.row, Blk_eta, un_Blk, Sec.row, Sec_eta, un_Sec, Rw.row, Rw_eta, un_Rw, Sky_eta, Sky.row, Place.row, Place_eta, un_Place, Pass.row, Pass_eta, un_Pass, ms_Pass_len, List.length_map, gSky, gSky', sSky, sSky', gSky0, sSky0, gG, gG', sG, sG', kG, gs1, gs2, gs3, gs4, tkZ, tkM, tkP, not_true_eq_false, ne_eq, eq_self, bne_self_eq_false, Int.toNat_natCast, Nat.sub_zero, and_self, hlz, hlv, hn1, hn2, apK1, apNew1, apG1, skyV, List.cons_append, List.nil_append]
  refine ⟨_, _, .inl ⟨_, hMP, by simp only [List.forall_mem_cons, fm0, and_true, w_getM0, w_getM1, gSky, gSky', gG, gG', Nat.reduceLT, Nat.reduceEqDiff, reduceIte], by simp [dom], rfl, rfl, rfl, rfl, rfl⟩, ?_⟩
  simp (config := { maxSteps := 2000000 }) only [bitvec_to_nat, reduceIte, Nat.reduceEqDiff, Nat.reduceAdd, Nat.reduceLeDiff, reduceCtorEq, Nat.reduceBEq, Nat.reduceLT, Nat.reduceMod, List.forall_mem_cons, t_szSky, t_szPlaceS, t_sPasses, t_eqPassS, t_eqPlaceS, t_heldPassS, tk_map, dp_map, toNat_pred, appE, rowsOf, List.take_length, List.length_cons, List.length_nil, Nat.zero_add, srow, irow, un_s, un_i, Zone.row, Zone_eta, un_Zone, Pt.row, Pt_eta, un_Pt, Aw.row, Aw_eta, un_Aw, Blk.row, Blk_eta, un_Blk, Sec.row, Sec_eta, un_Sec, Rw.row, Rw_eta, un_Rw, Sky_eta, Sky.row, Place.row, Place_eta, un_Place, Pass.row, Pass_eta, un_Pass, ms_Pass_len, List.length_map, gSky, gSky', sSky, sSky', gSky0, sSky0, gG, gG', sG, sG', kG, gs1, gs2, gs3, gs4, tkZ, tkM, tkP, not_true_eq_false, ne_eq, eq_self, bne_self_eq_false, Int.toNat_natCast, Nat.sub_zero, and_self, hlz, hlv, hn1, hn2, apK1, apNew1, apG1, skyV, List.cons_append, List.nil_append]
  refine ⟨fun h => by omega, fun _ => ⟨by omega, _, _, .inl ⟨_, hZ, by simp only [List.forall_mem_cons, fm0, and_true, w_getM0, w_getM1, gSky, gSky', gG, gG', Nat.reduceLT, Nat.reduceEqDiff, reduceIte], by simp [dom], rfl, rfl, rfl, rfl, rfl⟩, ?_⟩⟩
  simp (config := { maxSteps := 2000000 }) only [bitvec_to_nat, reduceIte, Nat.reduceEqDiff, Nat.reduceAdd, Nat.reduceLeDiff, reduceCtorEq, Nat.reduceBEq, Nat.reduceLT, Nat.reduceMod, List.forall_mem_cons, t_szSky, t_szPlaceS, t_sPasses, t_eqPassS, t_eqPlaceS, t_heldPassS, tk_map, dp_map, toNat_pred, appE, rowsOf, List.take_length, List.length_cons, List.length_nil, Nat.zero_add, srow, irow, un_s, un_i, Zone.row, Zone_eta, un_Zone, Pt.row, Pt_eta, un_Pt, Aw.row, Aw_eta, un_Aw, Blk.row, Blk_eta, un_Blk, Sec.row, Sec_eta, un_Sec, Rw.row, Rw_eta, un_Rw, Sky_eta, Sky.row, Place.row, Place_eta, un_Place, Pass.row, Pass_eta, un_Pass, ms_Pass_len, List.length_map, gSky, gSky', sSky, sSky', gSky0, sSky0, gG, gG', sG, sG', kG, gs1, gs2, gs3, gs4, tkZ, tkM, tkP, not_true_eq_false, ne_eq, eq_self, bne_self_eq_false, Int.toNat_natCast, Nat.sub_zero, and_self, hlz, hlv, hn1, hn2, apK1, apNew1, apG1, skyV, List.cons_append, List.nil_append]
  refine ⟨by omega, fun h => by omega, fun _ => ⟨_, _, .inr (.inl ⟨rfl, _, rfl, hT, rfl, n9T⟩), ?_⟩⟩
  simp (config := { maxSteps := 2000000 }) only [bitvec_to_nat, reduceIte, Nat.reduceEqDiff, Nat.reduceAdd, Nat.reduceLeDiff, reduceCtorEq, Nat.reduceBEq, Nat.reduceLT, Nat.reduceMod, List.forall_mem_cons, t_szSky, t_szPlaceS, t_sPasses, t_eqPassS, t_eqPlaceS, t_heldPassS, tk_map, dp_map, toNat_pred, appE, rowsOf, List.take_length, List.length_cons, List.length_nil, Nat.zero_add, srow, irow, un_s, un_i, Zone.row, Zone_eta, un_Zone, Pt.row, Pt_eta, un_Pt, Aw.row, Aw_eta, un_Aw, Blk.row, Blk_eta, un_Blk, Sec.row, Sec_eta, un_Sec, Rw.row, Rw_eta, un_Rw, Sky_eta, Sky.row, Place.row, Place_eta, un_Place, Pass.row, Pass_eta, un_Pass, ms_Pass_len, List.length_map, gSky, gSky', sSky, sSky', gSky0, sSky0, gG, gG', sG, sG', kG, gs1, gs2, gs3, gs4, tkZ, tkM, tkP, not_true_eq_false, ne_eq, eq_self, bne_self_eq_false, Int.toNat_natCast, Nat.sub_zero, and_self, hlz, hlv, hn1, hn2, apK1, apNew1, apG1, skyV, List.cons_append, List.nil_append]
  refine ⟨_, _, .inr (.inl ⟨rfl, _, rfl, hTP, rfl, n9P⟩), ?_⟩
  simp (config := { maxSteps := 2000000 }) only [bitvec_to_nat, reduceIte, Nat.reduceEqDiff, Nat.reduceAdd, Nat.reduceLeDiff, reduceCtorEq, Nat.reduceBEq, Nat.reduceLT, Nat.reduceMod, List.forall_mem_cons, t_szSky, t_szPlaceS, t_sPasses, t_eqPassS, t_eqPlaceS, t_heldPassS, tk_map, dp_map, toNat_pred, appE, rowsOf, List.take_length, List.length_cons, List.length_nil, Nat.zero_add, srow, irow, un_s, un_i, Zone.row, Zone_eta, un_Zone, Pt.row, Pt_eta, un_Pt, Aw.row, Aw_eta, un_Aw, Blk.row, Blk_eta, un_Blk, Sec.row, Sec_eta, un_Sec, Rw.row, Rw_eta, un_Rw, Sky_eta, Sky.row, Place.row, Place_eta, un_Place, Pass.row, Pass_eta, un_Pass, ms_Pass_len, List.length_map, gSky, gSky', sSky, sSky', gSky0, sSky0, gG, gG', sG, sG', kG, gs1, gs2, gs3, gs4, tkZ, tkM, tkP, not_true_eq_false, ne_eq, eq_self, bne_self_eq_false, Int.toNat_natCast, Nat.sub_zero, and_self, hlz, hlv, hn1, hn2, apK1, apNew1, apG1, skyV, List.cons_append, List.nil_append]
  refine ⟨_, _, .inr (.inr (.inl ⟨_, rfl, hI2, by simp only [List.forall_mem_cons, fm0, and_true, w_getM0, w_getM1, gSky, gSky', gG, gG', Nat.reduceLT, Nat.reduceEqDiff, reduceIte], by simp [refsIn, refsInL, dom], rfl, by simp [No99, No99L, No99LL], by simp only [List.forall_mem_cons, fm0, and_true]; exact no99_Pass _⟩)), ?_⟩
  simp (config := { maxSteps := 2000000 }) only [bitvec_to_nat, reduceIte, Nat.reduceEqDiff, Nat.reduceAdd, Nat.reduceLeDiff, reduceCtorEq, Nat.reduceBEq, Nat.reduceLT, Nat.reduceMod, List.forall_mem_cons, t_szSky, t_szPlaceS, t_sPasses, t_eqPassS, t_eqPlaceS, t_heldPassS, tk_map, dp_map, toNat_pred, appE, rowsOf, List.take_length, List.length_cons, List.length_nil, Nat.zero_add, srow, irow, un_s, un_i, Zone.row, Zone_eta, un_Zone, Pt.row, Pt_eta, un_Pt, Aw.row, Aw_eta, un_Aw, Blk.row, Blk_eta, un_Blk, Sec.row, Sec_eta, un_Sec, Rw.row, Rw_eta, un_Rw, Sky_eta, Sky.row, Place.row, Place_eta, un_Place, Pass.row, Pass_eta, un_Pass, ms_Pass_len, List.length_map, gSky, gSky', sSky, sSky', gSky0, sSky0, gG, gG', sG, sG', kG, gs1, gs2, gs3, gs4, tkZ, tkM, tkP, not_true_eq_false, ne_eq, eq_self, bne_self_eq_false, Int.toNat_natCast, Nat.sub_zero, and_self, hlz, hlv, hn1, hn2, apK1, apNew1, apG1, skyV, List.cons_append, List.nil_append]
  exact ⟨by omega, ⟨by omega, by omega, by omega⟩, fun h => by omega⟩

set_option maxHeartbeats 8000000 in
theorem c_lawPN (s : Sky) (ps : List Place) (hf : s.fitp) (hpf : ps.length ≤ 9223372036854775807) (hv : ¬ psOk s ps) : Contract P 8 [.agg (s.row 1), .sl 1 3 (ps.map Place.row)] [] (.bool true) [] := by
  have tkP : List.take ps.length (ps.map Place.row) = ps.map Place.row := List.take_of_length_le (by simp)
  have hlz : psL s ps = [] := if_neg hv
  have hlv : True := trivial
  have tkZ : True := trivial
  have tkM : True := trivial
  have z2 : Sky.sz s 1048576 ≤ 1048576 := by have := (meas_Sky s 1048576 (by omega)).2.2; omega
  generalize hn1 : Sky.sz s 1048576 = n1 at *
  have hn2 : True := trivial
  simp only [Sky.row]
  refine fn_sound (((((((Env.nil P).add 12 t_szSky h_szSky).add 30 t_szPlaceS h_szPlaceS).add 31 t_sPasses h_sPasses).add 34 t_eqPassS h_eqPassS).add 35 t_eqPlaceS h_eqPlaceS).add 38 t_heldPassS h_heldPassS) hm k_laws_FnExactSkyPasses (Nat.le_of_ble_eq_true rfl) rfl ?_; unfold s_laws_FnExactSkyPasses; simp (config := { maxSteps := 2000000 }) only [bitvec_to_nat, reduceIte, Nat.reduceEqDiff, Nat.reduceAdd, Nat.reduceLeDiff, reduceCtorEq, Nat.reduceBEq, Nat.reduceLT, Nat.reduceMod, List.forall_mem_cons, t_szSky, t_szPlaceS, t_sPasses, t_eqPassS, t_eqPlaceS, t_heldPassS, tk_map, dp_map, toNat_pred, appE, rowsOf, List.take_length, List.length_cons, List.length_nil, Nat.zero_add, srow, irow, un_s, un_i, Zone.row, Zone_eta, un_Zone, Pt.row, Pt_eta, un_Pt, Aw.row, Aw_eta, un_Aw, Blk.row, Blk_eta, un_Blk, Sec.row, Sec_eta, un_Sec, Rw.row, Rw_eta, un_Rw, Sky_eta, Sky.row, Place.row, Place_eta, un_Place, Pass.row, Pass_eta, un_Pass, ms_Pass_len, List.length_map, gSky, gSky', sSky, sSky', gSky0, sSky0, gG, gG', sG, sG', kG, gs1, gs2, gs3, gs4, tkZ, tkM, tkP, not_true_eq_false, ne_eq, eq_self, bne_self_eq_false, Int.toNat_natCast, Nat.sub_zero, and_self, hlz, hlv, hn1, hn2, apK1, apNew1, apG1, skyV, List.cons_append, List.nil_append]
  refine ⟨⟨by omega, hf⟩, fun g1 => ⟨⟨by omega, by omega⟩, fun g2 => ?_⟩⟩
  have hs : s.small := Sky.sz_ok (a := 1048576) (by omega) (by omega)
  have hp : ps.length ≤ 1048576 := by
    have h9 : szOf n1 ps.length = if n1 - ps.length < 0 then -1 else n1 - ps.length := rfl
    split at h9 <;> omega
  have hsm := hs
  unfold Sky.small at hsm
  have hT := c_toSky s hs
  have n9T : No99 (.agg (s.row 0)) := by simp [Sky.row, No99, No99L, no99_Pt, no99_Aw, no99_Sec, no99_Rw]
  have hTP := c_toPlaceS 1 ps hp
  have n9P : No99 (.sl 0 3 (ps.map Place.row)) := by simp only [No99]; exact ⟨by omega, no99_Place ps⟩
  have hTO := toSkyK s hs
  have hPO := (c_toPlaceSO 1 ps hp).ren (swp 107 621) (swp_swp _ _)
  have hEq := eqSkyC s hs
  have hMk := markSkyK 1 s hs (by omega)
  have hct1 := ct_Aw_le hs.2.1.2 (Nat.le_refl _)
  have hct2 := ct_Sec_le hs.2.2.1.2 (Nat.le_refl _)
  have hcs : cntSky s ≤ 100000000000000 := by unfold cntSky; omega
  have hMP := (c_markPlaceS 0 (1 + cntSky s) ps (by omega) (by omega)).ren (swp 3 621) (swp_swp _ _)
  have tPl : tag0L [.sl 99 3 (ps.map Place.row)] = [.sl 0 3 (ps.map Place.row)] := by simp only [tag0L, tag0]; rw [tag_flat (f := Place.row) fun _ => rfl]
  have nPl : no98L [.sl 99 3 (ps.map Place.row)] = true := by simp only [no98L, no98]; rw [no98_rows (f := Place.row) fun _ => rfl]; rfl
  have fPl : ∀ r ∈ ps.map Place.row, flatOk r = true := fun r hr => by obtain ⟨x, _, rfl⟩ := List.mem_map.1 hr; rfl
  have hI1 := c_iPassN s 0 ps hs hf hp hv
  simp only [renL, ren, renM, renO, swp, reduceIte, Nat.reduceEqDiff, Nat.reduceLT, List.length_map] at hPO hMP
  simp only [Sky.row] at hT n9T hTO
  refine ⟨_, _, .inr (.inl ⟨rfl, _, rfl, hT, rfl, n9T⟩), ?_⟩
  simp (config := { maxSteps := 2000000 }) only [bitvec_to_nat, reduceIte, Nat.reduceEqDiff, Nat.reduceAdd, Nat.reduceLeDiff, reduceCtorEq, Nat.reduceBEq, Nat.reduceLT, Nat.reduceMod, List.forall_mem_cons, t_szSky, t_szPlaceS, t_sPasses, t_eqPassS, t_eqPlaceS, t_heldPassS, tk_map, dp_map, toNat_pred, appE, rowsOf, List.take_length, List.length_cons, List.length_nil, Nat.zero_add, srow, irow, un_s, un_i, Zone.row, Zone_eta, un_Zone, Pt.row, Pt_eta, un_Pt, Aw.row, Aw_eta, un_Aw, Blk.row, Blk_eta, un_Blk, Sec.row, Sec_eta, un_Sec, Rw.row, Rw_eta, un_Rw, Sky_eta, Sky.row, Place.row, Place_eta, un_Place, Pass.row, Pass_eta, un_Pass, ms_Pass_len, List.length_map, gSky, gSky', sSky, sSky', gSky0, sSky0, gG, gG', sG, sG', kG, gs1, gs2, gs3, gs4, tkZ, tkM, tkP, not_true_eq_false, ne_eq, eq_self, bne_self_eq_false, Int.toNat_natCast, Nat.sub_zero, and_self, hlz, hlv, hn1, hn2, apK1, apNew1, apG1, skyV, List.cons_append, List.nil_append]
  refine ⟨_, _, .inr (.inl ⟨rfl, _, rfl, hTP, rfl, n9P⟩), ?_⟩
  simp (config := { maxSteps := 2000000 }) only [bitvec_to_nat, reduceIte, Nat.reduceEqDiff, Nat.reduceAdd, Nat.reduceLeDiff, reduceCtorEq, Nat.reduceBEq, Nat.reduceLT, Nat.reduceMod, List.forall_mem_cons, t_szSky, t_szPlaceS, t_sPasses, t_eqPassS, t_eqPlaceS, t_heldPassS, tk_map, dp_map, toNat_pred, appE, rowsOf, List.take_length, List.length_cons, List.length_nil, Nat.zero_add, srow, irow, un_s, un_i, Zone.row, Zone_eta, un_Zone, Pt.row, Pt_eta, un_Pt, Aw.row, Aw_eta, un_Aw, Blk.row, Blk_eta, un_Blk, Sec.row, Sec_eta, un_Sec, Rw.row, Rw_eta, un_Rw, Sky_eta, Sky.row, Place.row, Place_eta, un_Place, Pass.row, Pass_eta, un_Pass, ms_Pass_len, List.length_map, gSky, gSky', sSky, sSky', gSky0, sSky0, gG, gG', sG, sG', kG, gs1, gs2, gs3, gs4, tkZ, tkM, tkP, not_true_eq_false, ne_eq, eq_self, bne_self_eq_false, Int.toNat_natCast, Nat.sub_zero, and_self, hlz, hlv, hn1, hn2, apK1, apNew1, apG1, skyV, List.cons_append, List.nil_append]
  refine ⟨⟨hs, hp⟩, _, _, .inr (.inr (.inl ⟨_, rfl, hTO, K0r_new (by simp), K0r_refV, K0r_refs, by simp [skyV, No99, No99L], K0_99⟩)), ?_⟩
  simp (config := { maxSteps := 2000000 }) only [bitvec_to_nat, reduceIte, Nat.reduceEqDiff, Nat.reduceAdd, Nat.reduceLeDiff, reduceCtorEq, Nat.reduceBEq, Nat.reduceLT, Nat.reduceMod, List.forall_mem_cons, t_szSky, t_szPlaceS, t_sPasses, t_eqPassS, t_eqPlaceS, t_heldPassS, tk_map, dp_map, toNat_pred, appE, rowsOf, List.take_length, List.length_cons, List.length_nil, Nat.zero_add, srow, irow, un_s, un_i, Zone.row, Zone_eta, un_Zone, Pt.row, Pt_eta, un_Pt, Aw.row, Aw_eta, un_Aw, Blk.row, Blk_eta, un_Blk, Sec.row, Sec_eta, un_Sec, Rw.row, Rw_eta, un_Rw, Sky_eta, Sky.row, Place.row, Place_eta, un_Place, Pass.row, Pass_eta, un_Pass, ms_Pass_len, List.length_map, gSky, gSky', sSky, sSky', gSky0, sSky0, gG, gG', sG, sG', kG, gs1, gs2, gs3, gs4, tkZ, tkM, tkP, not_true_eq_false, ne_eq, eq_self, bne_self_eq_false, Int.toNat_natCast, Nat.sub_zero, and_self, hlz, hlv, hn1, hn2, apK1, apNew1, apG1, skyV, List.cons_append, List.nil_append]
  refine ⟨_, _, .inr (.inr (.inl ⟨_, rfl, hPO, by simp only [List.forall_mem_cons, fm0, and_true, w_getM0, w_getM1, gSky, gSky', gG, gG', Nat.reduceLT, Nat.reduceEqDiff, reduceIte], by simp [refsIn, refsInL, dom], rfl, trivial, by simp only [List.forall_mem_cons, fm0, and_true]; exact no99_Place _⟩)), ?_⟩
  simp (config := { maxSteps := 2000000 }) only [bitvec_to_nat, reduceIte, Nat.reduceEqDiff, Nat.reduceAdd, Nat.reduceLeDiff, reduceCtorEq, Nat.reduceBEq, Nat.reduceLT, Nat.reduceMod, List.forall_mem_cons, t_szSky, t_szPlaceS, t_sPasses, t_eqPassS, t_eqPlaceS, t_heldPassS, tk_map, dp_map, toNat_pred, appE, rowsOf, List.take_length, List.length_cons, List.length_nil, Nat.zero_add, srow, irow, un_s, un_i, Zone.row, Zone_eta, un_Zone, Pt.row, Pt_eta, un_Pt, Aw.row, Aw_eta, un_Aw, Blk.row, Blk_eta, un_Blk, Sec.row, Sec_eta, un_Sec, Rw.row, Rw_eta, un_Rw, Sky_eta, Sky.row, Place.row, Place_eta, un_Place, Pass.row, Pass_eta, un_Pass, ms_Pass_len, List.length_map, gSky, gSky', sSky, sSky', gSky0, sSky0, gG, gG', sG, sG', kG, gs1, gs2, gs3, gs4, tkZ, tkM, tkP, not_true_eq_false, ne_eq, eq_self, bne_self_eq_false, Int.toNat_natCast, Nat.sub_zero, and_self, hlz, hlv, hn1, hn2, apK1, apNew1, apG1, skyV, List.cons_append, List.nil_append]
  refine ⟨_, _, callR_sky (s := s) (a := 611) (b := 613) (c := 614) (d := 612) (kA := 107) (kS := 108) (rest' := [.sl 99 3 (ps.map Place.row)]) (by rw [tPl]; exact hI1) (K0_in1 (by omega)) (K0_self s) (purNL_one (purN_flat (e := 43) (by simp only [List.forall_mem_cons, fm0, and_true, w_getM0, w_getM1, gSky, gSky', gG, gG', Nat.reduceLT, Nat.reduceEqDiff, reduceIte]) fPl (by simp))) nPl rfl (rfl) (by simp) (by simp [refsIn, refsInL, dom]) (by simp [refsInO]) (by simp [No99, No99L, No99LL]) (by simp), ?_⟩
  simp (config := { maxSteps := 2000000 }) only [bitvec_to_nat, reduceIte, Nat.reduceEqDiff, Nat.reduceAdd, Nat.reduceLeDiff, reduceCtorEq, Nat.reduceBEq, Nat.reduceLT, Nat.reduceMod, List.forall_mem_cons, t_szSky, t_szPlaceS, t_sPasses, t_eqPassS, t_eqPlaceS, t_heldPassS, tk_map, dp_map, toNat_pred, appE, rowsOf, List.take_length, List.length_cons, List.length_nil, Nat.zero_add, srow, irow, un_s, un_i, Zone.row, Zone_eta, un_Zone, Pt.row, Pt_eta, un_Pt, Aw.row, Aw_eta, un_Aw, Blk.row, Blk_eta, un_Blk, Sec.row, Sec_eta, un_Sec, Rw.row, Rw_eta, un_Rw, Sky_eta, Sky.row, Place.row, Place_eta, un_Place, Pass.row, Pass_eta, un_Pass, ms_Pass_len, List.length_map, gSky, gSky', sSky, sSky', gSky0, sSky0, gG, gG', sG, sG', kG, gs1, gs2, gs3, gs4, tkZ, tkM, tkP, not_true_eq_false, ne_eq, eq_self, bne_self_eq_false, Int.toNat_natCast, Nat.sub_zero, and_self, hlz, hlv, hn1, hn2, apK1, apNew1, apG1, skyV, List.cons_append, List.nil_append]
  refine ⟨_, _, .inr (.inl ⟨rfl, _, rfl, hT, rfl, n9T⟩), ?_⟩
  simp (config := { maxSteps := 2000000 }) only [bitvec_to_nat, reduceIte, Nat.reduceEqDiff, Nat.reduceAdd, Nat.reduceLeDiff, reduceCtorEq, Nat.reduceBEq, Nat.reduceLT, Nat.reduceMod, List.forall_mem_cons, t_szSky, t_szPlaceS, t_sPasses, t_eqPassS, t_eqPlaceS, t_heldPassS, tk_map, dp_map, toNat_pred, appE, rowsOf, List.take_length, List.length_cons, List.length_nil, Nat.zero_add, srow, irow, un_s, un_i, Zone.row, Zone_eta, un_Zone, Pt.row, Pt_eta, un_Pt, Aw.row, Aw_eta, un_Aw, Blk.row, Blk_eta, un_Blk, Sec.row, Sec_eta, un_Sec, Rw.row, Rw_eta, un_Rw, Sky_eta, Sky.row, Place.row, Place_eta, un_Place, Pass.row, Pass_eta, un_Pass, ms_Pass_len, List.length_map, gSky, gSky', sSky, sSky', gSky0, sSky0, gG, gG', sG, sG', kG, gs1, gs2, gs3, gs4, tkZ, tkM, tkP, not_true_eq_false, ne_eq, eq_self, bne_self_eq_false, Int.toNat_natCast, Nat.sub_zero, and_self, hlz, hlv, hn1, hn2, apK1, apNew1, apG1, skyV, List.cons_append, List.nil_append]
  refine ⟨_, _, callR_sky (s := s) (a := 611) (b := 613) (c := 614) (d := 612) (kA := 107) (kS := 108) (news := []) (r := .bool true) (rest' := [.agg (s.row 0)]) (by simp only [tag0L, tag_sky]; exact hEq) (K0_in1 (by omega)) (K0_self s) rfl (by simp only [no98L, no98_sky 0 (by omega), Bool.and_self]) rfl rfl (by simp) rfl rfl trivial (by simp), ?_⟩
  simp (config := { maxSteps := 2000000 }) only [bitvec_to_nat, reduceIte, Nat.reduceEqDiff, Nat.reduceAdd, Nat.reduceLeDiff, reduceCtorEq, Nat.reduceBEq, Nat.reduceLT, Nat.reduceMod, List.forall_mem_cons, t_szSky, t_szPlaceS, t_sPasses, t_eqPassS, t_eqPlaceS, t_heldPassS, tk_map, dp_map, toNat_pred, appE, rowsOf, List.take_length, List.length_cons, List.length_nil, Nat.zero_add, srow, irow, un_s, un_i, Zone.row, Zone_eta, un_Zone, Pt.row, Pt_eta, un_Pt, Aw.row, Aw_eta, un_Aw, Blk.row, Blk_eta, un_Blk, Sec.row, Sec_eta, un_Sec, Rw.row, Rw_eta, un_Rw, Sky_eta, Sky.row, Place.row, Place_eta, un_Place, Pass.row, Pass_eta, un_Pass, ms_Pass_len, List.length_map, gSky, gSky', sSky, sSky', gSky0, sSky0, gG, gG', sG, sG', kG, gs1, gs2, gs3, gs4, tkZ, tkM, tkP, not_true_eq_false, ne_eq, eq_self, bne_self_eq_false, Int.toNat_natCast, Nat.sub_zero, and_self, hlz, hlv, hn1, hn2, apK1, apNew1, apG1, skyV, List.cons_append, List.nil_append]
  refine ⟨_, _, .inr (.inl ⟨rfl, _, rfl, hTP, rfl, n9P⟩), ?_⟩
  simp (config := { maxSteps := 2000000 }) only [bitvec_to_nat, reduceIte, Nat.reduceEqDiff, Nat.reduceAdd, Nat.reduceLeDiff, reduceCtorEq, Nat.reduceBEq, Nat.reduceLT, Nat.reduceMod, List.forall_mem_cons, t_szSky, t_szPlaceS, t_sPasses, t_eqPassS, t_eqPlaceS, t_heldPassS, tk_map, dp_map, toNat_pred, appE, rowsOf, List.take_length, List.length_cons, List.length_nil, Nat.zero_add, srow, irow, un_s, un_i, Zone.row, Zone_eta, un_Zone, Pt.row, Pt_eta, un_Pt, Aw.row, Aw_eta, un_Aw, Blk.row, Blk_eta, un_Blk, Sec.row, Sec_eta, un_Sec, Rw.row, Rw_eta, un_Rw, Sky_eta, Sky.row, Place.row, Place_eta, un_Place, Pass.row, Pass_eta, un_Pass, ms_Pass_len, List.length_map, gSky, gSky', sSky, sSky', gSky0, sSky0, gG, gG', sG, sG', kG, gs1, gs2, gs3, gs4, tkZ, tkM, tkP, not_true_eq_false, ne_eq, eq_self, bne_self_eq_false, Int.toNat_natCast, Nat.sub_zero, and_self, hlz, hlv, hn1, hn2, apK1, apNew1, apG1, skyV, List.cons_append, List.nil_append]
  refine ⟨by omega, _, _, callR_gone hMk (K0_in1 (by omega)) K0_ref2 sky_refs rfl, ?_⟩
  simp (config := { maxSteps := 2000000 }) only [bitvec_to_nat, reduceIte, Nat.reduceEqDiff, Nat.reduceAdd, Nat.reduceLeDiff, reduceCtorEq, Nat.reduceBEq, Nat.reduceLT, Nat.reduceMod, List.forall_mem_cons, t_szSky, t_szPlaceS, t_sPasses, t_eqPassS, t_eqPlaceS, t_heldPassS, tk_map, dp_map, toNat_pred, appE, rowsOf, List.take_length, List.length_cons, List.length_nil, Nat.zero_add, srow, irow, un_s, un_i, Zone.row, Zone_eta, un_Zone, Pt.row, Pt_eta, un_Pt, Aw.row, Aw_eta, un_Aw, Blk.row, Blk_eta, un_Blk, Sec.row, Sec_eta, un_Sec, Rw.row, Rw_eta, un_Rw, Sky_eta, Sky.row, Place.row, Place_eta, un_Place, Pass.row, Pass_eta, un_Pass, ms_Pass_len, List.length_map, gSky, gSky', sSky, sSky', gSky0, sSky0, gG, gG', sG, sG', kG, gs1, gs2, gs3, gs4, tkZ, tkM, tkP, not_true_eq_false, ne_eq, eq_self, bne_self_eq_false, Int.toNat_natCast, Nat.sub_zero, and_self, hlz, hlv, hn1, hn2, apK1, apNew1, apG1, skyV, List.cons_append, List.nil_append]
  refine ⟨_, _, .inl ⟨_, hMP, by simp only [List.forall_mem_cons, fm0, and_true, w_getM0, w_getM1, gSky, gSky', gG, gG', Nat.reduceLT, Nat.reduceEqDiff, reduceIte], by simp [dom], rfl, rfl, rfl, rfl, rfl⟩, ?_⟩
  simp (config := { maxSteps := 2000000 }) only [bitvec_to_nat, reduceIte, Nat.reduceEqDiff, Nat.reduceAdd, Nat.reduceLeDiff, reduceCtorEq, Nat.reduceBEq, Nat.reduceLT, Nat.reduceMod, List.forall_mem_cons, t_szSky, t_szPlaceS, t_sPasses, t_eqPassS, t_eqPlaceS, t_heldPassS, tk_map, dp_map, toNat_pred, appE, rowsOf, List.take_length, List.length_cons, List.length_nil, Nat.zero_add, srow, irow, un_s, un_i, Zone.row, Zone_eta, un_Zone, Pt.row, Pt_eta, un_Pt, Aw.row, Aw_eta, un_Aw, Blk.row, Blk_eta, un_Blk, Sec.row, Sec_eta, un_Sec, Rw.row, Rw_eta, un_Rw, Sky_eta, Sky.row, Place.row, Place_eta, un_Place, Pass.row, Pass_eta, un_Pass, ms_Pass_len, List.length_map, gSky, gSky', sSky, sSky', gSky0, sSky0, gG, gG', sG, sG', kG, gs1, gs2, gs3, gs4, tkZ, tkM, tkP, not_true_eq_false, ne_eq, eq_self, bne_self_eq_false, Int.toNat_natCast, Nat.sub_zero, and_self, hlz, hlv, hn1, hn2, apK1, apNew1, apG1, skyV, List.cons_append, List.nil_append]
  refine ⟨fun h => by omega, fun _ => ⟨_, _, .inr (.inl ⟨rfl, _, rfl, c_markNPassS 98 1, rfl, trivial⟩), ?_⟩⟩
  simp (config := { maxSteps := 2000000 }) only [bitvec_to_nat, reduceIte, Nat.reduceEqDiff, Nat.reduceAdd, Nat.reduceLeDiff, reduceCtorEq, Nat.reduceBEq, Nat.reduceLT, Nat.reduceMod, List.forall_mem_cons, t_szSky, t_szPlaceS, t_sPasses, t_eqPassS, t_eqPlaceS, t_heldPassS, tk_map, dp_map, toNat_pred, appE, rowsOf, List.take_length, List.length_cons, List.length_nil, Nat.zero_add, srow, irow, un_s, un_i, Zone.row, Zone_eta, un_Zone, Pt.row, Pt_eta, un_Pt, Aw.row, Aw_eta, un_Aw, Blk.row, Blk_eta, un_Blk, Sec.row, Sec_eta, un_Sec, Rw.row, Rw_eta, un_Rw, Sky_eta, Sky.row, Place.row, Place_eta, un_Place, Pass.row, Pass_eta, un_Pass, ms_Pass_len, List.length_map, gSky, gSky', sSky, sSky', gSky0, sSky0, gG, gG', sG, sG', kG, gs1, gs2, gs3, gs4, tkZ, tkM, tkP, not_true_eq_false, ne_eq, eq_self, bne_self_eq_false, Int.toNat_natCast, Nat.sub_zero, and_self, hlz, hlv, hn1, hn2, apK1, apNew1, apG1, skyV, List.cons_append, List.nil_append]
  refine ⟨⟨rfl, by omega, by omega⟩, fun h => by omega, fun _ => ⟨fun h => by omega, fun _ => ⟨_, _, .inr (.inl ⟨rfl, _, rfl, hT, rfl, n9T⟩), ?_⟩⟩⟩
  simp (config := { maxSteps := 2000000 }) only [bitvec_to_nat, reduceIte, Nat.reduceEqDiff, Nat.reduceAdd, Nat.reduceLeDiff, reduceCtorEq, Nat.reduceBEq, Nat.reduceLT, Nat.reduceMod, List.forall_mem_cons, t_szSky, t_szPlaceS, t_sPasses, t_eqPassS, t_eqPlaceS, t_heldPassS, tk_map, dp_map, toNat_pred, appE, rowsOf, List.take_length, List.length_cons, List.length_nil, Nat.zero_add, srow, irow, un_s, un_i, Zone.row, Zone_eta, un_Zone, Pt.row, Pt_eta, un_Pt, Aw.row, Aw_eta, un_Aw, Blk.row, Blk_eta, un_Blk, Sec.row, Sec_eta, un_Sec, Rw.row, Rw_eta, un_Rw, Sky_eta, Sky.row, Place.row, Place_eta, un_Place, Pass.row, Pass_eta, un_Pass, ms_Pass_len, List.length_map, gSky, gSky', sSky, sSky', gSky0, sSky0, gG, gG', sG, sG', kG, gs1, gs2, gs3, gs4, tkZ, tkM, tkP, not_true_eq_false, ne_eq, eq_self, bne_self_eq_false, Int.toNat_natCast, Nat.sub_zero, and_self, hlz, hlv, hn1, hn2, apK1, apNew1, apG1, skyV, List.cons_append, List.nil_append]
  refine ⟨_, _, .inr (.inl ⟨rfl, _, rfl, hTP, rfl, n9P⟩), ?_⟩
  simp (config := { maxSteps := 2000000 }) only [bitvec_to_nat, reduceIte, Nat.reduceEqDiff, Nat.reduceAdd, Nat.reduceLeDiff, reduceCtorEq, Nat.reduceBEq, Nat.reduceLT, Nat.reduceMod, List.forall_mem_cons, t_szSky, t_szPlaceS, t_sPasses, t_eqPassS, t_eqPlaceS, t_heldPassS, tk_map, dp_map, toNat_pred, appE, rowsOf, List.take_length, List.length_cons, List.length_nil, Nat.zero_add, srow, irow, un_s, un_i, Zone.row, Zone_eta, un_Zone, Pt.row, Pt_eta, un_Pt, Aw.row, Aw_eta, un_Aw, Blk.row, Blk_eta, un_Blk, Sec.row, Sec_eta, un_Sec, Rw.row, Rw_eta, un_Rw, Sky_eta, Sky.row, Place.row, Place_eta, un_Place, Pass.row, Pass_eta, un_Pass, ms_Pass_len, List.length_map, gSky, gSky', sSky, sSky', gSky0, sSky0, gG, gG', sG, sG', kG, gs1, gs2, gs3, gs4, tkZ, tkM, tkP, not_true_eq_false, ne_eq, eq_self, bne_self_eq_false, Int.toNat_natCast, Nat.sub_zero, and_self, hlz, hlv, hn1, hn2, apK1, apNew1, apG1, skyV, List.cons_append, List.nil_append]
  refine ⟨_, _, .inr (.inl ⟨rfl, _, rfl, hI1, rfl, by simp [No99, No99L, No99LL]⟩), ?_⟩
  simp (config := { maxSteps := 2000000 }) only [bitvec_to_nat, reduceIte, Nat.reduceEqDiff, Nat.reduceAdd, Nat.reduceLeDiff, reduceCtorEq, Nat.reduceBEq, Nat.reduceLT, Nat.reduceMod, List.forall_mem_cons, t_szSky, t_szPlaceS, t_sPasses, t_eqPassS, t_eqPlaceS, t_heldPassS, tk_map, dp_map, toNat_pred, appE, rowsOf, List.take_length, List.length_cons, List.length_nil, Nat.zero_add, srow, irow, un_s, un_i, Zone.row, Zone_eta, un_Zone, Pt.row, Pt_eta, un_Pt, Aw.row, Aw_eta, un_Aw, Blk.row, Blk_eta, un_Blk, Sec.row, Sec_eta, un_Sec, Rw.row, Rw_eta, un_Rw, Sky_eta, Sky.row, Place.row, Place_eta, un_Place, Pass.row, Pass_eta, un_Pass, ms_Pass_len, List.length_map, gSky, gSky', sSky, sSky', gSky0, sSky0, gG, gG', sG, sG', kG, gs1, gs2, gs3, gs4, tkZ, tkM, tkP, not_true_eq_false, ne_eq, eq_self, bne_self_eq_false, Int.toNat_natCast, Nat.sub_zero, and_self, hlz, hlv, hn1, hn2, apK1, apNew1, apG1, skyV, List.cons_append, List.nil_append]
  refine ⟨⟨rfl, by omega, by omega⟩, fun h => by omega, fun _ h => by omega⟩

theorem c_FnExactSkyPasses (s : Sky) (ps : List Place) (hf : s.fitp) (hpf : ps.length ≤ 9223372036854775807) : Contract P 8 [.agg (s.row 1), .sl 1 3 (ps.map Place.row)] [] (.bool true) [] := by
  by_cases hv : psOk s ps
  · exact c_lawPY s ps hf hpf hv
  · exact c_lawPN s ps hf hpf hv
def sh_Place : List LSh := [.int .i64, .int .i64, .int .i64]
theorem fit_Place (r : List AV) (h : fitsL sh_Place r) : ∃ x : Place, r = Place.row x := by
  simp only [sh_Place, fitsL, fits] at h
  obtain ⟨_, _, rfl, ⟨x, rfl, _⟩, _, _, rfl, ⟨y, rfl, _⟩, _, _, rfl, ⟨lv, rfl, _⟩, rfl⟩ := h

  exact ⟨⟨x, y, lv⟩, rfl⟩
end
end Go.Ve

