/- Part 5 of the proof: laws and contracts of functions, each proved; they are joined in the last part. No conditions beyond those that the theorems state. -/
import Derived.Test.YtehahnkjlalhmaaGreatDoorProg
import Derived.Test.YtehahnkjlalhmaaGreatDoorAl4
set_option linter.all false
namespace Go.Ve
noncomputable section
open Go.Proofs
set_option linter.unusedSimpArgs false
set_option linter.unusedVariables false
set_option maxRecDepth 100000
theorem c_toFldSO (t : Nat) (a : List Fld) (ha : a.length ≤ 1048576) : Contract P 108 [.sl t 3 (a.map Fld.row)] [] (.own 107 0 0 a.length) [(107, .arr 96 0 3 (a.map Fld.row))] := by
  have tkA : List.take a.length (a.map Fld.row) = a.map Fld.row := List.take_of_length_le (by simp)
  refine fn_sound ((Env.nil P).add 127 t_toFld h_toFld) hm kO_laws_toPlanFieldS (Nat.le_of_ble_eq_true rfl) rfl ?_; unfold sO_laws_toPlanFieldS; simp (config := { maxSteps := 2000000 }) only [bitvec_to_nat, reduceIte, Nat.reduceEqDiff, Nat.reduceAdd, Nat.reduceLeDiff, reduceCtorEq, Nat.reduceBEq, Nat.reduceLT, Nat.reduceMod, List.forall_mem_cons, retG_ret, retQ_eq, retQ_eqN, retOk, keepB, re_tupl, orr_t, t_toFld, tk_map, dp_map, toNat_pred, appE, rowsOf, List.take_length, List.length_cons, List.length_nil, Nat.zero_add, srow, irow, un_s, un_i, Zone.row, Zone_eta, un_Zone, Word.row, Word_eta, Own.row, Own_eta, Part.row, Part_eta, Seen.row, Seen_eta, Book.row, Book_eta, Sector.row, Sector_eta, HCraft.row, HCraft_eta, World.row, World_eta, PKind.row, PKind_eta, PPt.row, PPt_eta, Cell.row, Cell_eta, PBase.row, PBase_eta, Chg.row, Chg_eta, Fld.row, Fld_eta, Ent.row, Ent_eta, un_Word, un_Own, un_Part, un_Seen, un_Book, un_Sector, un_HCraft, un_World, un_PKind, un_PPt, un_Cell, un_PBase, un_Chg, un_Fld, un_Ent, set_Fld, Nat.sub_zero]
  have m0 : List.replicate a.length [.int .i64 0, .int .i64 0, .str ⟨#[]⟩] = (to_Fld a 0).map Fld.row := by simp [to_Fld, Fld.row]
  refine ⟨by omega, ?_⟩
  refine loop_st (fun i : Nat => [(4, .int .i64 i)]) (fun i => [(107, .arr 96 0 3 ((to_Fld a i).map Fld.row))]) (fun i => i ≤ a.length) (fun i => a.length - i) 0 (by simp only [u_E0, u_E1, u_M0, u_M1, w_setE0, w_setE1, w_setM0, w_setM1, reduceIte, Nat.reduceEqDiff]; exact ⟨by repeat' (first | exact trivial | refine ⟨.inr rfl, ?_⟩), ⟨congrArg (fun g => some (AObj.arr 96 0 3 g)) m0, trivial⟩, rfl, rfl⟩) (Nat.zero_le _) ?_
  intro i hi NX hN
  unfold lO_laws_toPlanFieldS_0; simp (config := { maxSteps := 2000000 }) only [bitvec_to_nat, reduceIte, Nat.reduceEqDiff, Nat.reduceAdd, Nat.reduceLeDiff, reduceCtorEq, Nat.reduceBEq, Nat.reduceLT, Nat.reduceMod, List.forall_mem_cons, retG_ret, retQ_eq, retQ_eqN, retOk, keepB, re_tupl, orr_t, t_toFld, tk_map, dp_map, toNat_pred, appE, rowsOf, List.take_length, List.length_cons, List.length_nil, Nat.zero_add, srow, irow, un_s, un_i, Zone.row, Zone_eta, un_Zone, Word.row, Word_eta, Own.row, Own_eta, Part.row, Part_eta, Seen.row, Seen_eta, Book.row, Book_eta, Sector.row, Sector_eta, HCraft.row, HCraft_eta, World.row, World_eta, PKind.row, PKind_eta, PPt.row, PPt_eta, Cell.row, Cell_eta, PBase.row, PBase_eta, Chg.row, Chg_eta, Fld.row, Fld_eta, Ent.row, Ent_eta, un_Word, un_Own, un_Part, un_Seen, un_Book, un_Sector, un_HCraft, un_World, un_PKind, un_PPt, un_Cell, un_PBase, un_Chg, un_Fld, un_Ent, set_Fld, Nat.sub_zero]
  refine ⟨fun h => ?_, fun h => ?_⟩
  · repeat' (first | with_reducible apply And.intro | with_reducible intro _)
    all_goals first
      | omega
      | rfl
      | (have e := to_Fld_st (a := a) (i := i) (by omega)
         try simp only [Fld.row] at *
         refine hN (i + 1) _ ⟨by repeat' (first | exact trivial | refine ⟨.inr rfl, ?_⟩), ⟨congrArg (fun g => some (AObj.arr 96 0 3 (List.map Fld.row g))) e, trivial⟩, rfl, rfl⟩ ?_ ?_ <;> omega)
  · have e : i = a.length := by omega
    subst e
    simp only [to_Fld, List.take_length, Nat.sub_self, List.replicate_zero, List.append_nil]
    exact ⟨trivial, rfl, rfl⟩
def mk_Fld (k : Int) : Fld := ⟨k, k + 1, mtx (k + 1 + 1)⟩
def ms_Fld (k : Int) (n : Nat) : List Fld := (List.range n).map fun j : Nat => mk_Fld (k + 3 * (j : Int))
theorem ms_Fld_len {k : Int} {n : Nat} : (ms_Fld k n).length = n := by simp [ms_Fld]
theorem ms_Fld_get {k : Int} {n j : Nat} (h : j < n) : (ms_Fld k n).getD j default = mk_Fld (k + 3 * (j : Int)) := by simp [ms_Fld, h]
theorem setm_Fld0 {l : List Fld} {i : Nat} {v : Int} : (l.map Fld.row).set i (setSeg ((l.map Fld.row).getD i []) 0 [.int .i64 v]) = (l.set i { l.getD i default with w := v }).map Fld.row :=
  set_rows (α := Fld) (f := Fld.row) (fun s => { s with w := v }) fun x => by simp [Fld.row, setSeg]
theorem setm_Fld1 {l : List Fld} {i : Nat} {v : Int} : (l.map Fld.row).set i (setSeg ((l.map Fld.row).getD i []) 1 [.int .i64 v]) = (l.set i { l.getD i default with nr := v }).map Fld.row :=
  set_rows (α := Fld) (f := Fld.row) (fun s => { s with nr := v }) fun x => by simp [Fld.row, setSeg]
theorem setm_Fld2 {l : List Fld} {i : Nat} {v : ByteArray} : (l.map Fld.row).set i (setSeg ((l.map Fld.row).getD i []) 2 [.str v]) = (l.set i { l.getD i default with v := v }).map Fld.row :=
  set_rows (α := Fld) (f := Fld.row) (fun s => { s with v := v }) fun x => by simp [Fld.row, setSeg]
set_option maxHeartbeats 1000000 in
theorem c_markFldS (v : Nat) (k : Int) (a : List Fld) (ha : a.length ≤ 1048577) (hk : 0 ≤ k ∧ k ≤ 1125899906842624) : Contract P 98 [.own 3 v 0 a.length, .int .i64 k] [(3, .arr 96 v 3 (a.map Fld.row))] (.int .i64 (k + 3 * a.length)) [(3, .arr 96 v 3 ((ms_Fld k a.length).map Fld.row))] := by
  have hz : ((0 : Nat) : Int) = 0 := rfl
  have gs : True := trivial
  refine fn_sound ((Env.nil P).add 66 t_markText h_markText) hm k_laws_markPlanFieldS (Nat.le_of_ble_eq_true rfl) rfl ?_; unfold s_laws_markPlanFieldS; simp (config := { maxSteps := 2000000 }) only [bitvec_to_nat, reduceIte, Nat.reduceEqDiff, Nat.reduceAdd, Nat.reduceLeDiff, reduceCtorEq, Nat.reduceBEq, Nat.reduceLT, Nat.reduceMod, List.forall_mem_cons, retG_ret, retQ_eq, retQ_eqN, retOk, keepB, re_tupl, orr_t, t_markText, setm_Fld0, setm_Fld1, setm_Fld2, List.set_set, gs, Fld.row, irow, srow, Int.toNat_natCast, List.length_map, List.length_set, Nat.sub_zero, Nat.zero_add, hz]
  refine loop_st (fun b : Nat × List Fld => [(1, .int .i64 (k + 3 * b.1)), (5, .int .i64 b.1)]) (fun b => [(3, .arr 96 v 3 (b.2.map Fld.row))]) (fun b => b.2.length = a.length ∧ b.1 ≤ a.length ∧ ∀ j, j < b.1 → b.2.getD j default = mk_Fld (k + 3 * (j : Int))) (fun b => a.length - b.1) (0, a) ?_ ⟨rfl, Nat.zero_le _, fun j hj => absurd hj (Nat.not_lt_zero _)⟩ ?_
  · have e0 : k + 3 * ((0 : Nat) : Int) = k := by omega
    simp only [e0]
    simp only [u_E0, u_E1, u_M0, u_M1, w_setE0, w_setE1, w_setM0, w_setM1, reduceIte, Nat.reduceEqDiff]; exact ⟨by repeat' (first | exact trivial | refine ⟨.inr rfl, ?_⟩), by repeat' (first | exact trivial | refine ⟨rfl, ?_⟩), by first | rfl | simp [closedB, refsIn, refsInL, refsInO, dom, refsInL_nr, *], by first | rfl | simp [keepB, dom]⟩
  rintro ⟨i, l⟩ ⟨h1, h2, h3⟩ NX hN
  simp only at h1 h2 h3
  have gs : i < a.length → ∀ x : Fld, (l.set i x).getD i default = x := fun h x => getD_seti' (by omega)
  by_cases hi : i < a.length
  · have gs := gs hi
    have e5 : k + 3 * ((i + 1 : Nat) : Int) = k + 3 * (i : Int) + 1 + 1 + 1 := by omega
    unfold l_laws_markPlanFieldS_0; simp (config := { maxSteps := 2000000 }) only [bitvec_to_nat, reduceIte, Nat.reduceEqDiff, Nat.reduceAdd, Nat.reduceLeDiff, reduceCtorEq, Nat.reduceBEq, Nat.reduceLT, Nat.reduceMod, List.forall_mem_cons, retG_ret, retQ_eq, retQ_eqN, retOk, keepB, re_tupl, orr_t, t_markText, setm_Fld0, setm_Fld1, setm_Fld2, List.set_set, gs, Fld.row, irow, srow, Int.toNat_natCast, List.length_map, List.length_set, Nat.sub_zero, Nat.zero_add, hz]
    repeat' (first | with_reducible apply And.intro | with_reducible intro _)
    all_goals first
      | omega
      | (refine hN (i + 1, l.set i (mk_Fld (k + 3 * (i : Int)))) _ (by simp only [e5]; simp only [u_E0, u_E1, u_M0, u_M1, w_setE0, w_setE1, w_setM0, w_setM1, reduceIte, Nat.reduceEqDiff]; exact ⟨by repeat' (first | exact trivial | refine ⟨.inr rfl, ?_⟩), by repeat' (first | exact trivial | refine ⟨rfl, ?_⟩), by first | rfl | simp [closedB, refsIn, refsInL, refsInO, dom, refsInL_nr, *], by first | rfl | simp [keepB, dom]⟩) ⟨by simp only [List.length_set]; exact h1, hi, fun j hj => ?_⟩ (by simp only; omega)
         simp only at hj ⊢
         by_cases e : j = i
         · subst e; exact getD_seti' (by omega)
         · rw [getD_setn' (Ne.symm e)]; exact h3 j (by omega))
      | (exfalso; omega)
  · have hl : l = ms_Fld k a.length := ext_of (by rw [ms_Fld_len]; exact h1) fun j hj => by rw [ms_Fld_get (by omega)]; exact h3 j (by omega)
    have hi' : ¬ (i : Int) < a.length := by omega
    unfold l_laws_markPlanFieldS_0; simp (config := { maxSteps := 2000000 }) only [bitvec_to_nat, reduceIte, Nat.reduceEqDiff, Nat.reduceAdd, Nat.reduceLeDiff, reduceCtorEq, Nat.reduceBEq, Nat.reduceLT, Nat.reduceMod, List.forall_mem_cons, retG_ret, retQ_eq, retQ_eqN, retOk, keepB, re_tupl, orr_t, t_markText, setm_Fld0, setm_Fld1, setm_Fld2, List.set_set, gs, Fld.row, irow, srow, Int.toNat_natCast, List.length_map, List.length_set, Nat.sub_zero, Nat.zero_add, hz, hi']
    refine ⟨by omega, ?_⟩
    rw [hl]
theorem g_markFldS (v : Nat) (k : Int) (a : List Fld) (ha : a.length ≤ 1048577) (hk : 0 ≤ k ∧ k ≤ 1125899906842624) : Contract P 98 [.own 3 v 0 a.length, .int .i64 k] [(3, .arr 96 v 3 (a.map Fld.row))] (.int .i64 (k + 3 * a.length)) [(3, .gone)] :=
  (c_markFldS v k a ha hk).gone rfl
theorem loop_F {α : Type} (F : α → St) (good : α → Prop) (μ : α → Nat) (a0 : α) {body : (XT → St → Prop) → St → Prop} {Q : XT → St → Prop} {st : St}
    (h0 : Wk st (F a0)) (g0 : good a0)
    (step : ∀ a, good a → ∀ NX : St → Prop, (∀ a' st', Wk st' (F a') → good a' → μ a' < μ a → NX st') → body (thenQ NX Q) (F a)) : loopWp body Q st :=
  loop_of F good μ a0 h0 g0 fun a ga => step a ga _ fun a' st' h1 h2 h3 => ⟨μ a', _, h1, ⟨a', rfl, h2, rfl⟩, h3⟩
def entP (x : Ent) : ByteArray × List (List AV) := (x.nm, x.fs.map Fld.row)
def zrows (l : List NRow) (n sz : Nat) : List (List AV) := l.map NRow.row ++ List.replicate n [.str ⟨#[]⟩, .sl 0 sz []]
theorem zrows_set {l : List NRow} {n sz : Nat} {r : NRow} {ls : List AV} (hl : ls = r.row) : (zrows l (n + 1) sz).set l.length (setSeg ((zrows l (n + 1) sz).getD l.length []) 0 ls) = zrows (l ++ [r]) n sz := by
  subst hl
  simp [zrows, List.replicate_succ, NRow.row, setSeg]
def r_toFldSO : RTab
  | [.sl bt 3 bx], M => some ⟨(M 601 = none) ∧ (((bx.map unFld).map Fld.row = bx)) ∧ ((bx.map unFld).length ≤ 1048576), fun _ : Unit => True, fun _ => .own 601 0 0 (bx.map unFld).length, fun _ => [(601, .arr 96 0 3 bx)]⟩
  | _, _ => none
theorem h_toFldSO : okTab P 108 r_toFldSO := by
  intro args M o h hp
  unfold r_toFldSO at h
  split at h
  · rename_i bt bx
    cases h
    obtain ⟨hn, e0, HP⟩ := hp
    have hC := (c_toFldSO bt (bx.map unFld) HP).ren (swp 107 601) (swp_swp 107 601)
    simp only [renL, ren, renM, renO, swp, reduceIte, Nat.reduceEqDiff, Nat.reduceLT, e0] at hC
    refine ⟨(), trivial, .inr (.inr (.inl ⟨_, by simp only [purL, pur, Option.map_some], hC, fun p hp => ?_, ?_, rfl, ?_, ?_⟩))⟩
    · simp only [List.mem_cons, List.not_mem_nil, or_false] at hp
      subst hp; exact hn
    · simp [refsIn, refsInL, dom]
    · exact trivial
    · intro p hp
      simp only [List.mem_cons, List.not_mem_nil, or_false] at hp
      subst hp; rw [← e0]; exact no99_Fld _
  · cases h
theorem c_toEntO (s : Ent) (hs : s.fs.length ≤ 1048576) : Contract P 92 [.agg (s.row 1)] [] (.agg [.str s.nm, .own 601 0 0 s.fs.length]) [(601, .arr 96 0 3 (s.fs.map Fld.row))] := by
  simp only [Ent.row]
  refine fn_sound ((Env.nil P).addR 108 r_toFldSO h_toFldSO) hm k_laws_toPlanEntry (Nat.le_of_ble_eq_true rfl) rfl ?_; unfold s_laws_toPlanEntry; simp (config := { maxSteps := 2000000 }) only [bitvec_to_nat, reduceIte, Nat.reduceEqDiff, Nat.reduceAdd, Nat.reduceLeDiff, reduceCtorEq, Nat.reduceBEq, Nat.reduceLT, Nat.reduceMod, List.forall_mem_cons, retG_ret, retQ_eq, retQ_eqN, retOk, keepB, re_tupl, orr_t, r_toFldSO, un_Fld, un_s, List.length_map, Int.toNat_natCast, Nat.zero_add, Nat.sub_zero, noref, flatOk, rowsOf, appE, List.nil_append, take_all, ghost, Ent.row]
  repeat' (first | with_reducible apply And.intro | with_reducible intro _)
  all_goals first | omega | rfl | (simp [refsIn]; done)
def r0_Ent (a : List Ent) (i : Nat) : List NRow := nfam 107 96 3 ((a.take i).map entP)
theorem r0_Ent_len {a : List Ent} {i : Nat} (h : i ≤ a.length) : (r0_Ent a i).length = i := by simp [r0_Ent, nfam_len]; omega
theorem r0_Ent_succ {a : List Ent} {i : Nat} (h : i < a.length) : r0_Ent a (i + 1) = r0_Ent a i ++ [⟨(a.getD i default).nm, (a.getD i default).fs.length, fam 107 i, .arr 96 0 3 ((a.getD i default).fs.map Fld.row)⟩] := by
  have e : (a.take (i + 1)).map entP = (a.take i).map entP ++ [entP (a.getD i default)] := by
    rw [List.take_succ_eq_append_getElem h, List.map_append]; simp [h]
  have hl : ((a.take i).map entP).length = i := by simp; omega
  rw [r0_Ent, e, nfam_snoc, hl]
  simp [entP, r0_Ent]
set_option maxHeartbeats 1000000 in
theorem c_toEntSO (t : Nat) (a : List Ent) (ha : a.length ≤ 1048576) (hs : ∀ x ∈ a, x.small) : Contract P 58 [.sl t 2 (a.map (Ent.row 1))] [] (.own 107 0 0 a.length) ((107, .arr (1000000 + 93) 0 2 ((nfam 107 96 3 (a.map entP)).map NRow.row)) :: nobjs (nfam 107 96 3 (a.map entP))) := by
  have hs1 : True := trivial
  have hs2 : True := trivial
  have wm : ∀ (x : AObj) (i : Nat) {l : List NRow}, r0_Ent a i = l → wkM ((107, x) :: nobjs (r0_Ent a i)) (nobjs l) := fun x i l e => by
    subst e
    refine wkM_nobjs (k := 107) nfam_fam fun j hj => ?_
    simp only [getM, fam_ne (show 107 < 1000 from by omega), if_false]
    exact nobjs_fam nfam_fam hj
  have rr : ∀ (d : List Nat) (i : Nat), (∀ r ∈ r0_Ent a i, d.contains r.o = true) → ∀ m, (zrows (r0_Ent a i) m 3).all (refsInL d) = true := fun d i h m => by
    unfold zrows; rw [List.all_append, refs_rows h, Bool.true_and, List.all_eq_true]
    intro x hx; rw [List.eq_of_mem_replicate hx]; rfl
  have dm : ∀ (x : AObj) (i : Nat), ∀ r ∈ r0_Ent a i, (dom ((107, x) :: nobjs (r0_Ent a i))).contains r.o = true := fun x i r hr => by
    simp only [dom, List.map_cons, List.contains_cons, Bool.or_eq_true]
    right
    simp only [List.contains_iff_mem, nobjs, List.map_map, List.mem_map]
    exact ⟨r, hr, rfl⟩
  have cl : ∀ (t' i : Nat), closedB ⟨[(0, .sl t 2 (a.map (Ent.row 1))), (3, .own 107 0 0 a.length), (4, .int .i64 ((i : Nat) : Int))], (107, .arr (1000000 + 93) 0 2 (zrows (r0_Ent a i) (a.length - i) 3)) :: nobjs (r0_Ent a i)⟩ = true := fun _ i => by
    simp only [closedB, List.all_cons, Bool.and_eq_true]
    refine ⟨⟨rfl, by simp [refsIn, dom], rfl, rfl⟩, ?_, refsO_nfam (by omega)⟩
    simp only [refsInO]
    rw [if_neg (by omega)]
    exact rr _ i (dm _ i) _
  have cf : (((107, AObj.arr (1000000 + 93) 0 2 ((nfam 107 96 3 (a.map entP)).map NRow.row)) :: nobjs (nfam 107 96 3 (a.map entP))).all fun p => refsInO (dom ((107, AObj.arr (1000000 + 93) 0 2 ((nfam 107 96 3 (a.map entP)).map NRow.row)) :: nobjs (nfam 107 96 3 (a.map entP)))) p.2) = true := by
    have ez : r0_Ent a a.length = nfam 107 96 3 (a.map entP) := by simp [r0_Ent]
    simp only [List.all_cons, Bool.and_eq_true]
    refine ⟨?_, refsO_nfam (by omega)⟩
    simp only [refsInO]
    rw [if_neg (by omega)]
    have := dm (AObj.arr (1000000 + 93) 0 2 ((nfam 107 96 3 (a.map entP)).map NRow.row)) a.length
    rw [ez] at this
    exact refs_rows this
  have kp : ∀ (x : AObj) (i : Nat) (M' : List (Nat × AObj)), keepB ((107, x) :: nobjs (r0_Ent a i)) M' = true := fun x i M' => by
    unfold keepB
    show ((decide (100 ≤ 107 % 1000) || _) && (dom (nobjs (r0_Ent a i))).all _) = true
    rw [show decide (100 ≤ 107 % 1000) = true from rfl, Bool.true_or, Bool.true_and]
    exact keep_nfam (by omega) (by omega)
  refine fn_sound (Env.nil P) hm kO_laws_toPlanEntryS (Nat.le_of_ble_eq_true rfl) rfl ?_; unfold sO_laws_toPlanEntryS; simp (config := { maxSteps := 2000000 }) only [bitvec_to_nat, reduceIte, Nat.reduceEqDiff, Nat.reduceAdd, Nat.reduceLeDiff, reduceCtorEq, Nat.reduceBEq, Nat.reduceLT, Nat.reduceMod, List.forall_mem_cons, retG_ret, retQ_eq, retQ_eqN, retOk, keepB, re_tupl, orr_t, tk_map, dp_map, toNat_pred, appE, rowsOf, List.take_length, List.length_cons, List.length_nil, Nat.zero_add, srow, irow, un_s, un_i, Zone.row, Zone_eta, un_Zone, Word.row, Word_eta, Own.row, Own_eta, Part.row, Part_eta, Seen.row, Seen_eta, Book.row, Book_eta, Sector.row, Sector_eta, HCraft.row, HCraft_eta, World.row, World_eta, PKind.row, PKind_eta, PPt.row, PPt_eta, Cell.row, Cell_eta, PBase.row, PBase_eta, Chg.row, Chg_eta, Fld.row, Fld_eta, Ent.row, Ent_eta, un_Word, un_Own, un_Part, un_Seen, un_Book, un_Sector, un_HCraft, un_World, un_PKind, un_PPt, un_Cell, un_PBase, un_Chg, un_Fld, un_Ent, Nat.sub_zero, fam_ne, fam_ne', hs1, hs2, Ent.row, entP]
  refine ⟨by omega, ?_⟩
  refine loop_F (fun i : Nat => ⟨[(0, .sl t 2 (a.map (Ent.row 1))), (3, .own 107 0 0 a.length), (4, .int .i64 i)], (107, .arr (1000000 + 93) 0 2 (zrows (r0_Ent a i) (a.length - i) 3)) :: nobjs (r0_Ent a i)⟩) (fun i => i ≤ a.length) (fun i => a.length - i) 0 ?_ (Nat.zero_le _) ?_
  · exact ⟨by repeat' (first | exact trivial | refine ⟨.inr rfl, ?_⟩), ⟨by simp [getM, zrows, r0_Ent, nfam], by simp [r0_Ent, nfam, nobjs, wkM]⟩, by simp [closedB, refsIn, refsInL, refsInO, dom, zrows, r0_Ent, nfam, nobjs], by simp [keepB, dom, r0_Ent, nfam, nobjs]⟩
  intro i hi NX hN
  by_cases h : i < a.length
  · have hx := hs _ (getD_mem' h)
    have hC := (c_toEntO (a.getD i default) (by unfold Ent.small at hx; omega)).ren (swp 601 (fam 107 i)) (swp_swp _ _)
    simp only [renL, ren, renM, renO, swp, reduceIte, Nat.reduceLT, Ent.row] at hC
    have hlen := r0_Ent_len (a := a) (i := i) hi
    have hfr : getM (nobjs (r0_Ent a i)) (fam 107 i) = none := nobjs_ge (k := 107) nfam_fam (Nat.le_of_eq hlen)
    have hsu := r0_Ent_succ h
    have hs1 := setM_new (x := AObj.arr 96 0 3 ((a.getD i default).fs.map Fld.row)) hfr
    have hs2 := zrows_set (l := r0_Ent a i) (n := a.length - i - 1) (sz := 3) (r := ⟨(a.getD i default).nm, (a.getD i default).fs.length, fam 107 i, .arr 96 0 3 ((a.getD i default).fs.map Fld.row)⟩) rfl
    rw [hlen, ← hsu, show a.length - i - 1 + 1 = a.length - i from by omega] at hs2
    simp only [NRow.row] at hs2
    unfold lO_laws_toPlanEntryS_0; simp (config := { maxSteps := 2000000 }) only [bitvec_to_nat, reduceIte, Nat.reduceEqDiff, Nat.reduceAdd, Nat.reduceLeDiff, reduceCtorEq, Nat.reduceBEq, Nat.reduceLT, Nat.reduceMod, List.forall_mem_cons, retG_ret, retQ_eq, retQ_eqN, retOk, keepB, re_tupl, orr_t, tk_map, dp_map, toNat_pred, appE, rowsOf, List.take_length, List.length_cons, List.length_nil, Nat.zero_add, srow, irow, un_s, un_i, Zone.row, Zone_eta, un_Zone, Word.row, Word_eta, Own.row, Own_eta, Part.row, Part_eta, Seen.row, Seen_eta, Book.row, Book_eta, Sector.row, Sector_eta, HCraft.row, HCraft_eta, World.row, World_eta, PKind.row, PKind_eta, PPt.row, PPt_eta, Cell.row, Cell_eta, PBase.row, PBase_eta, Chg.row, Chg_eta, Fld.row, Fld_eta, Ent.row, Ent_eta, un_Word, un_Own, un_Part, un_Seen, un_Book, un_Sector, un_HCraft, un_World, un_PKind, un_PPt, un_Cell, un_PBase, un_Chg, un_Fld, un_Ent, Nat.sub_zero, fam_ne, fam_ne', hs1, hs2, Ent.row, entP]
    refine ⟨fun _ => ⟨by omega, by omega, _, _, .inr (.inr (.inl ⟨_, by simp only [purL, pur, Option.map_some], hC, by simp [getM, fam_ne, hfr], by simp [refsIn, refsInL, dom], by simp [refsInO], by simp [No99, No99L, No99LL], by simp [No99O, no99_Fld]⟩)), ?_⟩, fun h' => absurd (by omega) h'⟩
    simp (config := { maxSteps := 2000000 }) only [bitvec_to_nat, reduceIte, Nat.reduceEqDiff, Nat.reduceAdd, Nat.reduceLeDiff, reduceCtorEq, Nat.reduceBEq, Nat.reduceLT, Nat.reduceMod, List.forall_mem_cons, retG_ret, retQ_eq, retQ_eqN, retOk, keepB, re_tupl, orr_t, tk_map, dp_map, toNat_pred, appE, rowsOf, List.take_length, List.length_cons, List.length_nil, Nat.zero_add, srow, irow, un_s, un_i, Zone.row, Zone_eta, un_Zone, Word.row, Word_eta, Own.row, Own_eta, Part.row, Part_eta, Seen.row, Seen_eta, Book.row, Book_eta, Sector.row, Sector_eta, HCraft.row, HCraft_eta, World.row, World_eta, PKind.row, PKind_eta, PPt.row, PPt_eta, Cell.row, Cell_eta, PBase.row, PBase_eta, Chg.row, Chg_eta, Fld.row, Fld_eta, Ent.row, Ent_eta, un_Word, un_Own, un_Part, un_Seen, un_Book, un_Sector, un_HCraft, un_World, un_PKind, un_PPt, un_Cell, un_PBase, un_Chg, un_Fld, un_Ent, Nat.sub_zero, fam_ne, fam_ne', hs1, hs2, Ent.row, entP]
    refine ⟨by omega, by omega, hN (i + 1) _ ?_ h (by omega)⟩
    have em : ∀ x, ((107, x) :: (nobjs (r0_Ent a i) ++ [(fam 107 i, AObj.arr 96 0 3 ((a.getD i default).fs.map Fld.row))])) = (107, x) :: nobjs (r0_Ent a (i + 1)) := fun x => by rw [hsu, nobjs_app]; rfl
    rw [em]
    exact ⟨by repeat' (first | exact trivial | refine ⟨.inr rfl, ?_⟩), ⟨rfl, wm _ _ rfl⟩, cl 0 (i + 1), kp _ _ _⟩
  · have e : i = a.length := by omega
    subst e
    have ez : r0_Ent a a.length = nfam 107 96 3 (a.map entP) := by simp [r0_Ent]
    have hs1 : zrows (nfam 107 96 3 (a.map entP)) (a.length - a.length) 3 = (nfam 107 96 3 (a.map entP)).map NRow.row := by simp [zrows]
    have hs2 := ez
    have cl' := cl 0 a.length
    unfold lO_laws_toPlanEntryS_0; simp (config := { maxSteps := 2000000 }) only [bitvec_to_nat, reduceIte, Nat.reduceEqDiff, Nat.reduceAdd, Nat.reduceLeDiff, reduceCtorEq, Nat.reduceBEq, Nat.reduceLT, Nat.reduceMod, List.forall_mem_cons, retG_ret, retQ_eq, retQ_eqN, retOk, keepB, re_tupl, orr_t, tk_map, dp_map, toNat_pred, appE, rowsOf, List.take_length, List.length_cons, List.length_nil, Nat.zero_add, srow, irow, un_s, un_i, Zone.row, Zone_eta, un_Zone, Word.row, Word_eta, Own.row, Own_eta, Part.row, Part_eta, Seen.row, Seen_eta, Book.row, Book_eta, Sector.row, Sector_eta, HCraft.row, HCraft_eta, World.row, World_eta, PKind.row, PKind_eta, PPt.row, PPt_eta, Cell.row, Cell_eta, PBase.row, PBase_eta, Chg.row, Chg_eta, Fld.row, Fld_eta, Ent.row, Ent_eta, un_Word, un_Own, un_Part, un_Seen, un_Book, un_Sector, un_HCraft, un_World, un_PKind, un_PPt, un_Cell, un_PBase, un_Chg, un_Fld, un_Ent, Nat.sub_zero, fam_ne, fam_ne', hs1, hs2, Ent.row, entP]
    refine ⟨fun h' => absurd h' (by omega), fun _ => ?_⟩
    have wm' := fun x => wm x a.length ez
    have kp' := fun x M' => kp x a.length M'
    rw [ez] at wm' kp'
    refine ⟨?_, cf, rfl, kp' .gone ((107, .arr (1000000 + 93) 0 2 ((nfam 107 96 3 (a.map entP)).map NRow.row)) :: nobjs (nfam 107 96 3 (a.map entP)))⟩
    first | exact wm' _ | exact ⟨rfl, wm' _⟩
theorem no99_NRow (l : List NRow) : No99LL (l.map NRow.row) := by
  induction l with
  | nil => simp [No99LL]
  | cons x l ih => simp only [List.map_cons, No99LL]; exact ⟨by simp [NRow.row, No99L, No99], ih⟩
theorem fam_refs {k e sz o : Nat} {y : AObj} {x : List (ByteArray × List (List AV))} {T : Nat} (he : e < 1000000) : (((o, AObj.arr (1000000 + T) 0 2 ((nfam k e sz x).map NRow.row)) :: nobjs (nfam k e sz x)).all fun p => refsInO (dom ((o, y) :: nobjs (nfam k e sz x))) p.2) = true := by
  simp only [List.all_cons, Bool.and_eq_true]
  refine ⟨?_, refsO_nfam he⟩
  simp only [refsInO]
  rw [if_neg (by omega)]
  refine refs_rows fun r hr => ?_
  simp only [dom, List.map_cons, List.contains_cons, Bool.or_eq_true]
  right
  simp only [List.contains_iff_mem, nobjs, List.map_map, List.mem_map]
  exact ⟨r, hr, rfl⟩
theorem keep_self {M : List (Nat × AObj)} : keepB M M = true := by
  unfold keepB
  rw [List.all_eq_true]
  intro o ho
  simp only [Bool.or_eq_true]
  right; simpa using ho
theorem wk_fam {k : Nat} {l : List NRow} {o : Nat} {x : AObj} (hf : isFam k l) (ho : o < 1000) : wkM ((o, x) :: nobjs l) (nobjs l) := by
  refine wkM_nobjs hf fun j hj => ?_
  simp only [getM, fam_ne ho, if_false]
  exact nobjs_fam hf hj
theorem fam_100 {k o e sz : Nat} {y : AObj} {x : List (ByteArray × List (List AV))} (hk : k < 100) (ho : o < 100) : (dom ((o, y) :: nobjs (nfam k e sz x))).all (decide <| · % 1000 < 100) = true := by
  rw [List.all_eq_true]
  intro q hq
  simp only [dom, List.map_cons, List.mem_cons] at hq
  rcases hq with rfl | hq
  · simp; omega
  · obtain ⟨p, hp, rfl⟩ := List.mem_map.1 hq
    obtain ⟨i, _, rfl⟩ := nfam_at hp
    simp only [decide_eq_true_eq, fam_mod (show k < 1000 by omega)]; exact hk
def flatObs (l : List NRow) : Prop := ∀ i, i < l.length → (l.getD i default).ob = .gone ∨ ∃ e v sz xs, e < 1000000 ∧ (l.getD i default).ob = .arr e v sz xs
theorem flatObs_all {l : List NRow} {d : List Nat} (h : flatObs l) : ((nobjs l).all fun p => refsInO d p.2) = true := by
  rw [List.all_eq_true]
  intro p hp
  obtain ⟨r, hr, rfl⟩ := List.mem_map.1 hp
  obtain ⟨i, hi, rfl⟩ := List.mem_iff_getElem.1 hr
  have := h i hi
  simp only [List.getD_eq_getElem?_getD, List.getElem?_eq_getElem hi, Option.getD_some] at this
  rcases this with h | ⟨e, v, sz, xs, he, h⟩
  · show refsInO d l[i].ob = true; rw [h]; rfl
  · show refsInO d l[i].ob = true; rw [h]; simp only [refsInO, he, if_true]
theorem dom_rows {l : List NRow} {o : Nat} {x : AObj} : ∀ r ∈ l, (dom ((o, x) :: nobjs l)).contains r.o = true := fun r hr => by
  simp only [dom, List.map_cons, List.contains_cons, Bool.or_eq_true]
  right
  simp only [List.contains_iff_mem, nobjs, List.map_map, List.mem_map]
  exact ⟨r, hr, rfl⟩
theorem nobjs_all {l : List NRow} {o T : Nat} {y : AObj} (h : flatObs l) : (((o, AObj.arr (1000000 + T) 0 2 (l.map NRow.row)) :: nobjs l).all fun p => refsInO (dom ((o, y) :: nobjs l)) p.2) = true := by
  simp only [List.all_cons, Bool.and_eq_true]
  refine ⟨?_, flatObs_all h⟩
  simp only [refsInO]
  rw [if_neg (by omega)]
  exact refs_rows dom_rows
theorem setm_NRow {l : List NRow} {i : Nat} {v : ByteArray} : (l.map NRow.row).set i (setSeg ((l.map NRow.row).getD i []) 0 [.str v]) = (l.set i { l.getD i default with nm := v }).map NRow.row :=
  set_rows (α := NRow) (f := NRow.row) (fun s => { s with nm := v }) fun x => by simp [NRow.row, setSeg]
theorem gone_fam {k : Nat} {l m : List NRow} (hl : isFam k l) (hm : isFam k m) (h : l.length = m.length) : (nobjs l).map (fun p => (p.1, AObj.gone)) = (nobjs m).map (fun p => (p.1, AObj.gone)) := by
  refine List.ext_getElem (by simp [nobjs, h]) fun i h1 h2 => ?_
  have h1' : i < l.length := by simpa [nobjs] using h1
  have h2' : i < m.length := by omega
  have := hl i h1'
  have h3 := hm i h2'
  simp only [List.getD_eq_getElem?_getD, List.getElem?_eq_getElem h1', List.getElem?_eq_getElem h2', Option.getD_some] at this h3
  simp [nobjs, this, h3]
def ct_Ent (a : List Ent) (i : Nat) : Nat := ((a.take i).map fun x => 1 + 3 * x.fs.length).sum
theorem ct_Ent_succ {a : List Ent} {i : Nat} (h : i < a.length) : ct_Ent a (i + 1) = ct_Ent a i + (1 + 3 * (a.getD i default).fs.length) := by
  unfold ct_Ent
  rw [List.take_succ_eq_append_getElem h, List.map_append, List.sum_append]; simp [h]
theorem ct_Ent_le {a : List Ent} (hs : ∀ x ∈ a, x.small) {i : Nat} (h : i ≤ a.length) : ct_Ent a i ≤ i * 6291457 := by
  induction i with
  | zero => simp [ct_Ent]
  | succ i ih =>
    have h' := ih (by omega)
    have := hs _ (getD_mem' (show i < a.length from h))
    unfold Ent.small at this
    rw [ct_Ent_succ h]; omega
set_option maxHeartbeats 2000000 in
theorem g_markEntS (k : Int) (a : List Ent) (ha : a.length ≤ 1048577) (hs : ∀ x ∈ a, x.small) (hk : 0 ≤ k ∧ k ≤ 35184372088832) : Contract P 65 [.own 3 0 0 a.length, .int .i64 k] ((3, .arr (1000000 + 93) 0 2 ((nfam 7 96 3 (a.map entP)).map NRow.row)) :: nobjs (nfam 7 96 3 (a.map entP)))
    (.int .i64 (k + ct_Ent a a.length)) (((3, .arr (1000000 + 93) 0 2 ((nfam 7 96 3 (a.map entP)).map NRow.row)) :: nobjs (nfam 7 96 3 (a.map entP))).map fun p => (p.1, .gone)) := by
  have hz : ((0 : Nat) : Int) = 0 := rfl
  have gs : True := trivial
  have hli : True := trivial
  have hgm : True := trivial
  have hrw : True := trivial
  have hs1 : True := trivial
  suffices hC : ∃ l : List NRow, (isFam 7 l ∧ l.length = a.length) ∧ Contract P 65 [.own 3 0 0 a.length, .int .i64 k] ((3, .arr (1000000 + 93) 0 2 ((nfam 7 96 3 (a.map entP)).map NRow.row)) :: nobjs (nfam 7 96 3 (a.map entP)))
      (.int .i64 (k + ct_Ent a a.length)) ((3, .arr (1000000 + 93) 0 2 (l.map NRow.row)) :: nobjs l) by
    obtain ⟨l, ⟨h1, h2⟩, h3⟩ := hC
    have h4 := h3.gone rfl
    simp only [List.map_cons] at h4 ⊢
    rw [gone_fam h1 (nfam_fam (k := 7) (e := 96) (sz := 3) (l := a.map entP)) (by rw [nfam_len, List.length_map]; exact h2)] at h4
    exact h4
  refine fn_choose ((Env.nil P).add 66 t_markText h_markText) hm k_laws_markPlanEntryS (Nat.le_of_ble_eq_true rfl) ?_ (fun l : List NRow => isFam 7 l ∧ l.length = a.length) (fun _ => .int .i64 (k + ct_Ent a a.length)) (fun l => (3, .arr (1000000 + 93) 0 2 (l.map NRow.row)) :: nobjs l) ?_
  · exact fam_100 (by omega) (by omega)
  unfold s_laws_markPlanEntryS
  simp (config := { maxSteps := 2000000 }) only [bitvec_to_nat, reduceIte, Nat.reduceEqDiff, Nat.reduceAdd, Nat.reduceLeDiff, reduceCtorEq, Nat.reduceBEq, Nat.reduceLT, Nat.reduceMod, List.forall_mem_cons, retG_ret, retQ_eq, retQ_eqN, retOk, keepB, re_tupl, orr_t, t_markText, NRow.row, setm_NRow, gs, hli, hgm, hrw, Int.toNat_natCast, List.length_map, List.length_set, Nat.sub_zero, Nat.zero_add, hz, fam_ne, fam_ne', hs1, List.set_set]
  refine loop_F (fun b : Nat × List NRow => ⟨[(0, .own 3 0 0 a.length), (1, .int .i64 (k + ct_Ent a b.1)), (5, .int .i64 b.1)], (3, .arr (1000000 + 93) 0 2 (b.2.map NRow.row)) :: nobjs b.2⟩)
    (fun b => b.1 ≤ a.length ∧ b.2.length = a.length ∧ isFam 7 b.2 ∧ flatObs b.2 ∧ ∀ j, b.1 ≤ j → j < a.length → b.2.getD j default = ⟨(a.getD j default).nm, (a.getD j default).fs.length, fam 7 j, .arr 96 0 3 ((a.getD j default).fs.map Fld.row)⟩)
    (fun b => a.length - b.1) (0, nfam 7 96 3 (a.map entP)) ?_ ⟨Nat.zero_le _, by rw [nfam_len, List.length_map], nfam_fam, fun i hi => ?_, fun j _ hj => ?_⟩ ?_
  · have e0 : k + ((ct_Ent a 0 : Nat) : Int) = k := by simp [ct_Ent]
    simp only [e0]
    refine ⟨by repeat' (first | exact trivial | refine ⟨.inr rfl, ?_⟩), ⟨rfl, wk_fam nfam_fam (by omega)⟩, ?_, keep_self⟩
    simp only [closedB, List.all_cons, Bool.and_eq_true]
    exact ⟨⟨by simp [refsIn, dom], rfl, rfl, rfl⟩, by simpa only [List.all_cons, Bool.and_eq_true] using fam_refs (k := 7) (o := 3) (e := 96) (sz := 3) (x := a.map entP) (T := 93) (y := .arr (1000000 + 93) 0 2 ((nfam 7 96 3 (a.map entP)).map NRow.row)) (by omega)⟩
  · have hi' : i < a.length := by simpa [nfam_len] using hi
    rw [nfam_get (by simpa using hi')]
    exact .inr ⟨_, _, _, _, by omega, rfl⟩
  · rw [nfam_get (by simpa using hj)]
    simp [entP, hj]
  rintro ⟨i, l⟩ ⟨h1, h2, h3, h4, h5⟩ NX hN
  simp only at h1 h2 h3 h4 h5
  have hct := ct_Ent_le hs h1
  by_cases hi : i < a.length
  · have hli := h5 i (Nat.le_refl _) hi
    have hil : i < l.length := by omega
    have hx := hs _ (getD_mem' hi)
    unfold Ent.small at hx
    have hgm : getM (nobjs l) (fam 7 i) = some (.arr 96 0 3 ((a.getD i default).fs.map Fld.row)) := by rw [nobjs_fam h3 hil, hli]
    have gs : ∀ x : NRow, (l.set i x).getD i default = x := fun x => getD_seti' hil
    have e5 : k + ((ct_Ent a (i + 1) : Nat) : Int) = k + (ct_Ent a i : Int) + 1 + 3 * ((a.getD i default).fs.length : Int) := by rw [ct_Ent_succ hi]; omega
    unfold l_laws_markPlanEntryS_0; simp (config := { maxSteps := 2000000 }) only [bitvec_to_nat, reduceIte, Nat.reduceEqDiff, Nat.reduceAdd, Nat.reduceLeDiff, reduceCtorEq, Nat.reduceBEq, Nat.reduceLT, Nat.reduceMod, List.forall_mem_cons, retG_ret, retQ_eq, retQ_eqN, retOk, keepB, re_tupl, orr_t, t_markText, NRow.row, setm_NRow, gs, hli, hgm, hrw, Int.toNat_natCast, List.length_map, List.length_set, Nat.sub_zero, Nat.zero_add, hz, fam_ne, fam_ne', hs1, List.set_set]
    have hM := (g_markFldS 0 (k + ct_Ent a i + 1) (a.getD i default).fs (by omega) (by omega)).ren (swp 3 (fam 7 i)) (swp_swp _ _)
    simp only [renL, ren, renM, renO, swp, reduceIte, Nat.reduceLT] at hM
    refine ⟨fun _ => ⟨by omega, by omega, by omega, by omega, hil, _, _, .inl ⟨_, hM, by simp [getM, fam_ne, hgm], by simp [dom], by simp [dom], by simp [refsInL, refsIn, dom], by simp [refsInO], rfl, by simp [refsInO]⟩, ?_⟩, fun h => absurd (by omega) h⟩
    have hs1 : setM (nobjs l) (fam 7 i) .gone = nobjs (l.set i ⟨mtx (k + ct_Ent a i), (a.getD i default).fs.length, fam 7 i, .gone⟩) := by
      rw [setM_fam h3 hil, hli]; simp [nobjs, List.map_set]
    have hrw : (l.set i ⟨mtx (k + ct_Ent a i), (a.getD i default).fs.length, fam 7 i, .arr 96 0 3 ((a.getD i default).fs.map Fld.row)⟩).map NRow.row = (l.set i ⟨mtx (k + ct_Ent a i), (a.getD i default).fs.length, fam 7 i, .gone⟩).map NRow.row := by
      simp [List.map_set, NRow.row]
    simp (config := { maxSteps := 2000000 }) only [bitvec_to_nat, reduceIte, Nat.reduceEqDiff, Nat.reduceAdd, Nat.reduceLeDiff, reduceCtorEq, Nat.reduceBEq, Nat.reduceLT, Nat.reduceMod, List.forall_mem_cons, retG_ret, retQ_eq, retQ_eqN, retOk, keepB, re_tupl, orr_t, t_markText, NRow.row, setm_NRow, gs, hli, hgm, hrw, Int.toNat_natCast, List.length_map, List.length_set, Nat.sub_zero, Nat.zero_add, hz, fam_ne, fam_ne', hs1, List.set_set]
    rw [← e5]
    have hf' : isFam 7 (l.set i ⟨mtx (k + ct_Ent a i), (a.getD i default).fs.length, fam 7 i, .gone⟩) := fun j hj => by
      by_cases e : j = i
      · subst e; rw [gs]
      · rw [getD_setn' (Ne.symm e)]; exact h3 j (by simpa using hj)
    have ho' : flatObs (l.set i ⟨mtx (k + ct_Ent a i), (a.getD i default).fs.length, fam 7 i, .gone⟩) := fun j hj => by
      by_cases e : j = i
      · subst e; rw [gs]; exact .inl rfl
      · rw [getD_setn' (Ne.symm e)]; exact h4 j (by simpa using hj)
    refine ⟨by omega, hN (i + 1, l.set i ⟨mtx (k + ct_Ent a i), (a.getD i default).fs.length, fam 7 i, .gone⟩) _ ⟨by repeat' (first | exact trivial | refine ⟨.inr rfl, ?_⟩), ⟨rfl, wk_fam hf' (by omega)⟩, ?_, keep_self⟩ ⟨hi, by rw [List.length_set]; exact h2, hf', ho', fun j h6 h7 => ?_⟩ (by simp only; omega)⟩
    · simp only [closedB, List.all_cons, Bool.and_eq_true]
      exact ⟨⟨by simp [refsIn, dom], rfl, rfl, rfl⟩, by simpa only [List.all_cons, Bool.and_eq_true] using nobjs_all (T := 93) (o := 3) (y := .arr (1000000 + 93) 0 2 ((l.set i ⟨mtx (k + ct_Ent a i), (a.getD i default).fs.length, fam 7 i, .gone⟩).map NRow.row)) ho'⟩
    · simp only at h6 ⊢
      rw [getD_setn' (by omega)]; exact h5 j (by omega) h7
  · have hi' : ¬ (i : Int) < a.length := by omega
    have e : i = a.length := by omega
    subst e
    unfold l_laws_markPlanEntryS_0; simp (config := { maxSteps := 2000000 }) only [bitvec_to_nat, reduceIte, Nat.reduceEqDiff, Nat.reduceAdd, Nat.reduceLeDiff, reduceCtorEq, Nat.reduceBEq, Nat.reduceLT, Nat.reduceMod, List.forall_mem_cons, retG_ret, retQ_eq, retQ_eqN, retOk, keepB, re_tupl, orr_t, t_markText, NRow.row, setm_NRow, gs, hli, hgm, hrw, Int.toNat_natCast, List.length_map, List.length_set, Nat.sub_zero, Nat.zero_add, hz, fam_ne, fam_ne', hs1, List.set_set, hi']
    exact ⟨l, ⟨h3, h2⟩, ⟨rfl, wk_fam h3 (by omega)⟩, nobjs_all (T := 93) (o := 3) (y := .gone) h4, keep_self (M := (3, .gone) :: nobjs l)⟩
end
end Go.Ve

namespace Go.Ve
noncomputable section
open Go.Proofs
set_option linter.unusedSimpArgs false
set_option linter.unusedVariables false
set_option maxRecDepth 100000
def fE (k : Nat) (b : PBook) : List NRow := nfam k 96 3 (b.es.map entP)
def bkV (b : PBook) (a c d : Nat) : AV := .agg [.own a 0 0 b.ks.length, .own c 0 0 b.ps.length, .own d 0 0 b.es.length]
def bkM (b : PBook) (a c d k : Nat) : List (Nat × AObj) := (a, .arr 60 0 3 (b.ks.map PKind.row)) :: (c, .arr 119 0 3 (b.ps.map PPt.row)) :: (d, .arr (1000000 + 93) 0 2 ((fE k b).map NRow.row)) :: nobjs (fE k b)
theorem bk_mem {b : PBook} {a c d k : Nat} {p : Nat × AObj} (h : p ∈ bkM b a c d k) : p.1 = a ∨ p.1 = c ∨ p.1 = d ∨ ∃ i, p.1 = fam k i := by
  simp only [bkM, List.mem_cons] at h
  rcases h with rfl | rfl | rfl | h
  · exact .inl rfl
  · exact .inr (.inl rfl)
  · exact .inr (.inr (.inl rfl))
  · obtain ⟨i, _, rfl⟩ := nfam_at h
    exact .inr (.inr (.inr ⟨i, rfl⟩))
theorem bk_offs {b : PBook} {a c d k o : Nat} (ha : o ≠ a) (hc : o ≠ c) (hd : o ≠ d) (ho : o < 1000) : offs (bkM b a c d k) o := fun p hp e => by
  rcases bk_mem hp with h | h | h | ⟨i, h⟩
  · exact ha (e ▸ h)
  · exact hc (e ▸ h)
  · exact hd (e ▸ h)
  · rw [e] at h; unfold fam at h; omega
theorem bk_uniq {b : PBook} {a c d k : Nat} (h1 : a ≠ c) (h2 : a ≠ d) (h3 : c ≠ d) (ha : a < 1000) (hc : c < 1000) (hd : d < 1000) : uniq (bkM b a c d k) := by
  have big : ∀ p ∈ nobjs (fE k b), 1000 ≤ p.1 := bigs_nfam
  unfold uniq
  simp only [bkM, List.pairwise_cons, List.mem_cons]
  refine ⟨?_, ?_, ?_, nfam_pw⟩
  · rintro p (rfl | rfl | hp)
    · exact h1
    · exact h2
    · have := big p hp; (try simp only); omega
  · rintro p (rfl | hp)
    · exact h3
    · have := big p hp; (try simp only); omega
  · rintro p hp
    have := big p hp; (try simp only); omega
theorem bk_dom {b : PBook} {a c d k : Nat} : dom (bkM b a c d k) = a :: c :: d :: (fE k b).map (·.o) := by simp [bkM, dom, nobjs]
theorem bk_refsD {b : PBook} {a c d k : Nat} {D : List Nat} (h : ∀ o ∈ dom (bkM b a c d k), o ∈ D) : ((bkM b a c d k).all fun p => refsInO D p.2) = true := by
  rw [bk_dom] at h
  simp only [bkM, List.all_cons, Bool.and_eq_true]
  refine ⟨rfl, rfl, ?_, refsO_nfam (by omega)⟩
  simp only [refsInO]
  rw [if_neg (by omega)]
  refine refs_rows fun r hr => ?_
  rw [List.contains_iff_mem]
  exact h _ (by simp only [List.mem_cons, List.mem_map]; exact .inr (.inr (.inr ⟨r, hr, rfl⟩)))
theorem bk_refs {b : PBook} {a c d k : Nat} : ((bkM b a c d k).all fun p => refsInO (dom (bkM b a c d k)) p.2) = true := bk_refsD fun o h => h
theorem bk_refV {b : PBook} {a c d k : Nat} : refsIn (dom (bkM b a c d k)) (bkV b a c d) = true := by
  rw [bk_dom]; simp [bkV, refsIn, refsInL]
theorem dom_rev {l : List (Nat × AObj)} : dom l.reverse = (dom l).reverse := by simp [dom]
theorem bkr_refs {b : PBook} {a c d k : Nat} : ((bkM b a c d k).reverse.all fun p => refsInO (dom (bkM b a c d k).reverse) p.2) = true := by
  rw [List.all_reverse]
  exact bk_refsD fun o h => by rw [dom_rev]; simpa using h
theorem bkr_refV {b : PBook} {a c d k : Nat} : refsIn (dom (bkM b a c d k).reverse) (bkV b a c d) = true := by
  rw [dom_rev, bk_dom]; simp [bkV, refsIn, refsInL]
theorem ent99 {b : PBook} {p : Nat × AObj} {k : Nat} (h : p ∈ nobjs (fE k b)) : No99O p.2 := by
  obtain ⟨i, hi, rfl⟩ := nfam_at h
  have hi' : i < b.es.length := by simpa using hi
  simp only [No99O]
  rw [show (b.es.map entP).getD i default = entP (b.es.getD i default) from by simp [hi']]
  exact no99_Fld _
theorem bk_99 {b : PBook} {a c d k : Nat} : ∀ p ∈ bkM b a c d k, No99O p.2 := by
  intro p hp
  simp only [bkM, List.mem_cons] at hp
  rcases hp with rfl | rfl | rfl | hp
  · exact no99_PKind _
  · exact no99_PPt _
  · exact no99_NRow _
  · exact ent99 hp
theorem bk_100 {b : PBook} {a c d k : Nat} (ha : 100 ≤ a % 1000) (hc : 100 ≤ c % 1000) (hd : 100 ≤ d % 1000) (hk : 100 ≤ k) (hk2 : k < 1000) : big100 (bkM b a c d k) :=
  big100_cons ha (big100_cons hc (big100_cons hd (big100_nfam hk2 hk)))
theorem bk_dis {b b' : PBook} {a c d k a' c' d' k' : Nat} (h : ∀ x ∈ [a, c, d], ∀ y ∈ [a', c', d'], x ≠ y) (hl : ∀ x ∈ [a, c, d, a', c', d'], x < 1000) (hk : k < 1000) (hk' : k' < 1000) (hn : k ≠ k') : dis (bkM b a c d k) (bkM b' a' c' d' k') := fun p hp q hq e => by
  simp only [List.mem_cons, List.not_mem_nil, or_false, forall_eq_or_imp, forall_eq] at h hl
  rcases bk_mem hp with h1 | h1 | h1 | ⟨i, h1⟩ <;> rcases bk_mem hq with h2 | h2 | h2 | ⟨j, h2⟩ <;> rw [h1, h2] at e <;> (try unfold fam at e) <;> omega
theorem bkM_ren {b : PBook} {a c d k k' : Nat} {σ : Nat → Nat} (hA : ∀ i, σ (fam k i) = fam k' i) : renM σ (bkM b a c d k) = bkM b (σ a) (σ c) (σ d) k' := by
  have eA : (fE k b).map (NRow.ren σ) = fE k' b := by
    refine List.ext_getElem (by simp [fE, nfam]) fun i h1 h2 => ?_
    simp [fE, nfam, NRow.ren, hA, renO]
  simp only [bkM, renM, renO, renM_nobjs, eA, renRows]
  rfl
theorem bkV_ren {b : PBook} {a c d : Nat} {σ : Nat → Nat} : ren σ (bkV b a c d) = bkV b (σ a) (σ c) (σ d) := by simp only [bkV, ren, renL]
theorem purN_bk {M K : Nat → Option AObj} {b : PBook} {a c d k : Nat} (hM : ∀ p ∈ bkM b a c d k, M p.1 = some p.2) (hK : ∀ p ∈ bkM b a c d k, K p.1 = some p.2) : purN M K (bkV b a c d) = some (.agg (b.row 99)) := by
  have h1 := hM _ (show (a, AObj.arr 60 0 3 (b.ks.map PKind.row)) ∈ bkM b a c d k from by simp [bkM])
  have h2 := hM _ (show (c, AObj.arr 119 0 3 (b.ps.map PPt.row)) ∈ bkM b a c d k from by simp [bkM])
  have h3 := hM _ (show (d, AObj.arr (1000000 + 93) 0 2 ((fE k b).map NRow.row)) ∈ bkM b a c d k from by simp [bkM])
  simp only at h1 h2 h3
  have hA := purRs_nfam K (k := k) (e := 96) (sz := 3) (by omega) (x := b.es.map entP) fun p hp => hK p (by simp only [bkM, List.mem_cons]; exact .inr (.inr (.inr hp)))
  have t1 : (b.ks.map PKind.row).take b.ks.length = b.ks.map PKind.row := List.take_of_length_le (by simp)
  have t2 : (b.ps.map PPt.row).take b.ps.length = b.ps.map PPt.row := List.take_of_length_le (by simp)
  have t3 : ((fE k b).map NRow.row).take b.es.length = (fE k b).map NRow.row := List.take_of_length_le (by simp [fE, nfam_len])
  have f1 : purRs K (b.ks.map PKind.row) = some (b.ks.map PKind.row) := purRs_flat K fun r hr => by obtain ⟨x, _, rfl⟩ := List.mem_map.1 hr; rfl
  have f2 : purRs K (b.ps.map PPt.row) = some (b.ps.map PPt.row) := purRs_flat K fun r hr => by obtain ⟨x, _, rfl⟩ := List.mem_map.1 hr; rfl
  simp only [fE] at t3 h3
  simp only [List.map_map] at hA
  simp only [bkV, purN, purNL, h1, h2, h3, if_true, List.drop_zero, t1, t2, t3, f1, f2, fE, hA, Option.map_some, PBook.row]
  rfl
theorem tag_bk (t : Nat) (b : PBook) : tag0 (.agg (b.row t)) = .agg (b.row 0) := by
  simp only [PBook.row, tag0, tag0L]
  rw [tag_flat (f := PKind.row) (fun _ => rfl), tag_flat (f := PPt.row) (fun _ => rfl), tag_rows (f := Ent.row) (fun x => by simp only [Ent.row, tag0L, tag0]; rw [tag_flat (f := Fld.row) fun _ => rfl])]
theorem no98_bk (t : Nat) (ht : t ≠ 98) (b : PBook) : no98 (.agg (b.row t)) = true := by
  simp only [PBook.row, no98, no98L]
  rw [no98_rows (f := PKind.row) (fun _ => rfl), no98_rows (f := PPt.row) (fun _ => rfl), no98_rows (f := Ent.row t) (fun x => by simp only [Ent.row, no98L, no98]; rw [no98_rows (f := Fld.row) fun _ => rfl]; simp [ht])]
  simp [ht]
theorem toEntS613 (b : PBook) (hs : b.small) : Contract P 58 [.sl 1 2 (b.es.map (Ent.row 1))] [] (.own 613 0 0 b.es.length) ((613, .arr (1000000 + 93) 0 2 ((fE 107 b).map NRow.row)) :: nobjs (fE 107 b)) := by
  unfold PBook.small at hs
  have h := (c_toEntSO 1 b.es (by omega) hs.2.2.2).ren (swp 107 613) (swp_swp _ _)
  simp only [renL, ren, renM, renO, swp, reduceIte, Nat.reduceLT, Nat.reduceAdd] at h
  rw [renM_nobjs, renRows, nfam_swp (by omega) (by omega) (by omega)] at h
  exact h
set_option maxHeartbeats 2000000 in
theorem c_toBookO (b : PBook) (hs : b.small) : Contract P 20 [.agg (b.row 1)] [] (bkV b 611 612 613) (bkM b 611 612 613 107) := by
  have hE := toEntS613 b hs
  have bA : bigs (nobjs (fE 107 b)).reverse := bigs_rev bigs_nfam
  have hB := ((c_toBaseO b.base (by unfold PBook.small at hs; exact ⟨hs.1, hs.2.1⟩)).ren (swp 601 611) (swp_swp _ _)).ren (swp 602 612) (swp_swp _ _)
  simp only [renL, ren, renM, renO, swp, reduceIte, Nat.reduceEqDiff, Nat.reduceLT, PBase.row, PBook.base] at hB
  unfold PBook.small at hs
  refine fn_sound (Env.nil P) hm k_laws_toPlanBook (Nat.le_of_ble_eq_true rfl) rfl ?_; unfold s_laws_toPlanBook; simp (config := { maxSteps := 2000000 }) only [bitvec_to_nat, reduceIte, Nat.reduceEqDiff, Nat.reduceAdd, Nat.reduceLeDiff, reduceCtorEq, Nat.reduceBEq, Nat.reduceLT, Nat.reduceMod, List.forall_mem_cons, retG_ret, retQ_eq, retQ_eqN, retOk, keepB, re_tupl, orr_t, tk_map, dp_map, toNat_pred, appE, rowsOf, List.take_length, List.length_cons, List.length_nil, Nat.zero_add, srow, irow, un_s, un_i, Zone.row, Zone_eta, un_Zone, Word.row, Word_eta, Own.row, Own_eta, Part.row, Part_eta, Seen.row, Seen_eta, Book.row, Book_eta, Sector.row, Sector_eta, HCraft.row, HCraft_eta, World.row, World_eta, PKind.row, PKind_eta, PPt.row, PPt_eta, Cell.row, Cell_eta, PBase.row, PBase_eta, Fld.row, Fld_eta, Ent.row, Ent_eta, PBook.row, PBook_eta, un_Word, un_Own, un_Part, un_Seen, un_Book, un_Sector, un_HCraft, un_World, un_PKind, un_PPt, un_Cell, un_PBase, un_Fld, un_Ent, un_PBook, Nat.sub_zero, PBook.row, bkV, gB, gB0, sB, sB0, bA, List.append_assoc, List.cons_append, List.nil_append, List.append_nil]
  refine ⟨_, _, .inr (.inr (.inl ⟨_, rfl, hB, by simp [getM], by simp [refsIn, refsInL, dom], rfl, by simp [No99, No99L], by simp [No99O, no99_PKind, no99_PPt]⟩)), ?_⟩
  simp (config := { maxSteps := 2000000 }) only [bitvec_to_nat, reduceIte, Nat.reduceEqDiff, Nat.reduceAdd, Nat.reduceLeDiff, reduceCtorEq, Nat.reduceBEq, Nat.reduceLT, Nat.reduceMod, List.forall_mem_cons, retG_ret, retQ_eq, retQ_eqN, retOk, keepB, re_tupl, orr_t, tk_map, dp_map, toNat_pred, appE, rowsOf, List.take_length, List.length_cons, List.length_nil, Nat.zero_add, srow, irow, un_s, un_i, Zone.row, Zone_eta, un_Zone, Word.row, Word_eta, Own.row, Own_eta, Part.row, Part_eta, Seen.row, Seen_eta, Book.row, Book_eta, Sector.row, Sector_eta, HCraft.row, HCraft_eta, World.row, World_eta, PKind.row, PKind_eta, PPt.row, PPt_eta, Cell.row, Cell_eta, PBase.row, PBase_eta, Fld.row, Fld_eta, Ent.row, Ent_eta, PBook.row, PBook_eta, un_Word, un_Own, un_Part, un_Seen, un_Book, un_Sector, un_HCraft, un_World, un_PKind, un_PPt, un_Cell, un_PBase, un_Fld, un_Ent, un_PBook, Nat.sub_zero, PBook.row, bkV, gB, gB0, sB, sB0, bA, List.append_assoc, List.cons_append, List.nil_append, List.append_nil]
  refine ⟨_, _, .inr (.inr (.inl ⟨_, rfl, hE, ?_, rfl, fam_refs (by omega), trivial, ?_⟩)), ?_⟩
  · intro p hp
    rcases List.mem_cons.1 hp with rfl | hp
    · simp [getM]
    · obtain ⟨i, _, rfl⟩ := nfam_at hp
      simp only [getM, fam_ne, Nat.reduceLT, if_false]
  · intro p hp
    rcases List.mem_cons.1 hp with rfl | hp
    · exact no99_NRow _
    · exact ent99 hp
  simp (config := { maxSteps := 2000000 }) only [bitvec_to_nat, reduceIte, Nat.reduceEqDiff, Nat.reduceAdd, Nat.reduceLeDiff, reduceCtorEq, Nat.reduceBEq, Nat.reduceLT, Nat.reduceMod, List.forall_mem_cons, retG_ret, retQ_eq, retQ_eqN, retOk, keepB, re_tupl, orr_t, tk_map, dp_map, toNat_pred, appE, rowsOf, List.take_length, List.length_cons, List.length_nil, Nat.zero_add, srow, irow, un_s, un_i, Zone.row, Zone_eta, un_Zone, Word.row, Word_eta, Own.row, Own_eta, Part.row, Part_eta, Seen.row, Seen_eta, Book.row, Book_eta, Sector.row, Sector_eta, HCraft.row, HCraft_eta, World.row, World_eta, PKind.row, PKind_eta, PPt.row, PPt_eta, Cell.row, Cell_eta, PBase.row, PBase_eta, Fld.row, Fld_eta, Ent.row, Ent_eta, PBook.row, PBook_eta, un_Word, un_Own, un_Part, un_Seen, un_Book, un_Sector, un_HCraft, un_World, un_PKind, un_PPt, un_Cell, un_PBase, un_Fld, un_Ent, un_PBook, Nat.sub_zero, PBook.row, bkV, gB, gB0, sB, sB0, bA, List.append_assoc, List.cons_append, List.nil_append, List.append_nil]
  rw [aU (U := nobjs (fE 107 b)) (fun p hp => by
    obtain ⟨i, _, rfl⟩ := nfam_at hp
    simp only [getM, fam_ne, Nat.reduceLT, if_false]) nfam_pw]
  simp (config := { maxSteps := 2000000 }) only [bitvec_to_nat, reduceIte, Nat.reduceEqDiff, Nat.reduceAdd, Nat.reduceLeDiff, reduceCtorEq, Nat.reduceBEq, Nat.reduceLT, Nat.reduceMod, List.forall_mem_cons, retG_ret, retQ_eq, retQ_eqN, retOk, keepB, re_tupl, orr_t, tk_map, dp_map, toNat_pred, appE, rowsOf, List.take_length, List.length_cons, List.length_nil, Nat.zero_add, srow, irow, un_s, un_i, Zone.row, Zone_eta, un_Zone, Word.row, Word_eta, Own.row, Own_eta, Part.row, Part_eta, Seen.row, Seen_eta, Book.row, Book_eta, Sector.row, Sector_eta, HCraft.row, HCraft_eta, World.row, World_eta, PKind.row, PKind_eta, PPt.row, PPt_eta, Cell.row, Cell_eta, PBase.row, PBase_eta, Fld.row, Fld_eta, Ent.row, Ent_eta, PBook.row, PBook_eta, un_Word, un_Own, un_Part, un_Seen, un_Book, un_Sector, un_HCraft, un_World, un_PKind, un_PPt, un_Cell, un_PBase, un_Fld, un_Ent, un_PBook, Nat.sub_zero, PBook.row, bkV, gB, gB0, sB, sB0, bA, List.append_assoc, List.cons_append, List.nil_append, List.append_nil]
  refine ⟨wkM_self fun p hp => ?_, bk_refs, ?_, ?_⟩
  · simp only [bkM, List.mem_cons] at hp
    rcases hp with rfl | rfl | rfl | hp
    · simp [getM]
    · simp [getM]
    · simp only [getM, gB bA, Nat.reduceLT, Nat.reduceEqDiff, reduceIte]
    · obtain ⟨i, hi, rfl⟩ := nfam_at hp
      simp only [getM, fam_ne, Nat.reduceLT, if_false, getM_append, fE, getM_rfam, nfam_obj hi, Option.some_or]
  · have := bk_refV (b := b) (a := 611) (c := 612) (d := 613) (k := 107)
    simpa only [bkV, refsIn, refsInL, Bool.and_true, dom] using this
  · simp only [Bool.true_or, Bool.true_and]
    rw [List.all_eq_true]
    intro o ho
    obtain ⟨p, hp, rfl⟩ := List.mem_map.1 ho
    have h100 : big100 ((nobjs (fE 107 b)).reverse ++ [(613, AObj.arr (1000000 + 93) 0 2 ((fE 107 b).map NRow.row))]) := big100_app (big100_rev (big100_nfam (by omega) (by omega))) (big100_cons (by omega) big100_nil)
    have := h100 p hp
    simp [this]
end
end Go.Ve

namespace Go.Ve
noncomputable section
open Go.Proofs
set_option linter.unusedSimpArgs false
set_option linter.unusedVariables false
set_option maxRecDepth 100000
theorem c_markBaseB (v w : Nat) (ks : List PKind) (ps : List PPt) (k : Int) (hk : 0 ≤ k ∧ k ≤ 30000000000000) (h1 : ks.length ≤ 1048577) (h2 : ps.length ≤ 1048577) : Contract P 64 [.agg [.own 3 v 0 ks.length, .own 4 w 0 ps.length], .int .i64 k]
    [(3, .arr 60 v 3 (ks.map PKind.row)), (4, .arr 119 w 3 (ps.map PPt.row))] (.int .i64 (k + 3 * ks.length + 3 * ps.length))
    [(3, .arr 60 v 3 ((ms_PKind k ks.length).map PKind.row)), (4, .arr 119 w 3 ((ms_PPt (k + 3 * ks.length) ps.length).map PPt.row))] := by
  have tkK : True := trivial
  have tkQ : True := trivial
  have m1 := c_markPKindS v k ks h1 (by omega)
  have m2 := (c_markPPtS w (k + 3 * ks.length) ps h2 (by omega)).ren (swp 3 4) (swp_swp _ _)
  simp only [renL, ren, renM, renO, swp, reduceIte, Nat.reduceEqDiff, Nat.reduceLT] at m2
  refine fn_sound (Env.nil P) hm k_laws_markPlanBase (Nat.le_of_ble_eq_true rfl) rfl ?_; unfold s_laws_markPlanBase; simp (config := { maxSteps := 2000000 }) only [bitvec_to_nat, reduceIte, Nat.reduceEqDiff, Nat.reduceAdd, Nat.reduceLeDiff, reduceCtorEq, Nat.reduceBEq, Nat.reduceLT, Nat.reduceMod, List.forall_mem_cons, retG_ret, retQ_eq, retQ_eqN, retOk, keepB, re_tupl, orr_t, List.length_map, Int.toNat_natCast, Nat.zero_add, Nat.sub_zero, tkK, tkQ, ms_PKind_len, ms_PPt_len]
  refine ⟨_, _, .inl ⟨_, m1, by simp [getM], by simp [dom], rfl, rfl, rfl, rfl, rfl⟩, ?_⟩
  simp (config := { maxSteps := 2000000 }) only [bitvec_to_nat, reduceIte, Nat.reduceEqDiff, Nat.reduceAdd, Nat.reduceLeDiff, reduceCtorEq, Nat.reduceBEq, Nat.reduceLT, Nat.reduceMod, List.forall_mem_cons, retG_ret, retQ_eq, retQ_eqN, retOk, keepB, re_tupl, orr_t, List.length_map, Int.toNat_natCast, Nat.zero_add, Nat.sub_zero, tkK, tkQ, ms_PKind_len, ms_PPt_len]
  refine ⟨_, _, .inl ⟨_, m2, by simp [getM], by simp [dom], rfl, rfl, rfl, rfl, rfl⟩, ?_⟩
  simp (config := { maxSteps := 2000000 }) only [bitvec_to_nat, reduceIte, Nat.reduceEqDiff, Nat.reduceAdd, Nat.reduceLeDiff, reduceCtorEq, Nat.reduceBEq, Nat.reduceLT, Nat.reduceMod, List.forall_mem_cons, retG_ret, retQ_eq, retQ_eqN, retOk, keepB, re_tupl, orr_t, List.length_map, Int.toNat_natCast, Nat.zero_add, Nat.sub_zero, tkK, tkQ, ms_PKind_len, ms_PPt_len]
def preE (b : PBook) : List (Nat × AObj) := (5, .arr (1000000 + 93) 0 2 ((fE 7 b).map NRow.row)) :: nobjs (fE 7 b)
theorem gpE {b : PBook} : gone (preE b) = (5, .gone) :: gone (nobjs (fE 7 b)) := rfl
theorem markEnt5 (k : Int) (b : PBook) (hs : b.small) (hk : 0 ≤ k ∧ k ≤ 35184372088832) : Contract P 65 [.own 5 0 0 b.es.length, .int .i64 k] (preE b) (.int .i64 (k + ct_Ent b.es b.es.length)) (gone (preE b)) := by
  unfold PBook.small at hs
  have h := (g_markEntS k b.es (by omega) hs.2.2.2 hk).ren (swp 3 5) (swp_swp _ _)
  have e : renM (swp 3 5) ((3, .arr (1000000 + 93) 0 2 ((nfam 7 96 3 (b.es.map entP)).map NRow.row)) :: nobjs (nfam 7 96 3 (b.es.map entP))) = preE b := by
    simp only [renM, renO, swp, reduceIte, Nat.reduceLT, Nat.reduceAdd]
    rw [renM_nobjs, renRows, nfam_swp (by omega) (by omega) (by omega)]; rfl
  rw [show (((3, AObj.arr (1000000 + 93) 0 2 ((nfam 7 96 3 (b.es.map entP)).map NRow.row)) :: nobjs (nfam 7 96 3 (b.es.map entP))).map fun p => (p.1, AObj.gone)) = gone ((3, AObj.arr (1000000 + 93) 0 2 ((nfam 7 96 3 (b.es.map entP)).map NRow.row)) :: nobjs (nfam 7 96 3 (b.es.map entP))) from rfl, renM_gone, e] at h
  simpa only [renL, ren, swp, reduceIte] using h
theorem bigs_gone {l : List (Nat × AObj)} (h : bigs l) : bigs (gone l) := fun p hp => by
  obtain ⟨x, hx⟩ := mem_gone hp
  exact h (p.1, x) hx
theorem offs_big {l : List (Nat × AObj)} (h : bigs l) {o : Nat} (ho : o < 1000) : offs l o := fun p hp e => by have := h p hp; omega
theorem apE {b : PBook} {x3 x4 x5 : AObj} {B : List (Nat × AObj)} : applyU ((3, x3) :: (4, x4) :: (5, x5) :: (nobjs (fE 7 b) ++ B)) (gone (nobjs (fE 7 b))) = (3, x3) :: (4, x4) :: (5, x5) :: (gone (nobjs (fE 7 b)) ++ B) := by
  have h : bigs (gone (nobjs (fE 7 b))) := bigs_gone bigs_nfam
  rw [ap_cons (offs_big h (by omega)), ap_cons (offs_big h (by omega)), ap_cons (offs_big h (by omega)), ap_over (show uniq (nobjs (fE 7 b)) from nfam_pw)]
def cntB (b : PBook) : Nat := 3 * b.ks.length + 3 * b.ps.length + ct_Ent b.es b.es.length
theorem bk_lt100 {b : PBook} : (dom (bkM b 3 4 5 7)).all (decide <| · % 1000 < 100) = true := by
  rw [bk_dom, List.all_eq_true]
  intro o ho
  simp only [List.mem_cons, List.mem_map] at ho
  rcases ho with rfl | rfl | rfl | ⟨r, hr, rfl⟩
  · rfl
  · rfl
  · rfl
  · rw [nfam_mod (k := 7) (by omega) hr]; rfl
theorem keep_of {M M' : List (Nat × AObj)} (h : ∀ p ∈ M, 100 ≤ p.1 % 1000 ∨ p.1 ∈ dom M') : keepB M M' = true := by
  unfold keepB
  rw [List.all_eq_true]
  intro o ho
  obtain ⟨p, hp, rfl⟩ := List.mem_map.1 ho
  rcases h p hp with h | h
  · simp [h]
  · simp [h]
set_option maxHeartbeats 2000000 in
theorem g_markBook (k : Int) (b : PBook) (hs : b.small) (hk : 0 ≤ k ∧ k ≤ 30000000000000) : Contract P 26 [bkV b 3 4 5, .int .i64 k] (bkM b 3 4 5 7) (.int .i64 (k + cntB b)) (gone (bkM b 3 4 5 7)) := by
  have bA : bigs (nobjs (fE 7 b)) := bigs_nfam
  have bGA := bigs_gone bA
  have hm9 := hs
  unfold PBook.small at hm9
  have hct := ct_Ent_le hm9.2.2.2 (Nat.le_refl _)
  have hB := (c_markBaseB 0 0 b.ks b.ps k (by omega) (by omega) (by omega)).gone rfl
  have hE := markEnt5 (k + 3 * b.ks.length + 3 * b.ps.length) b hs (by omega)
  refine fn_sound (Env.nil P) Go.Ve.hm k_laws_markPlanBook (Nat.le_of_ble_eq_true rfl) bk_lt100 ?_; unfold s_laws_markPlanBook
  simp (config := { maxSteps := 2000000 }) only [bitvec_to_nat, reduceIte, Nat.reduceEqDiff, Nat.reduceAdd, Nat.reduceLeDiff, reduceCtorEq, Nat.reduceBEq, Nat.reduceLT, Nat.reduceMod, List.forall_mem_cons, retG_ret, retQ_eq, retQ_eqN, retOk, keepB, re_tupl, orr_t, bkV, fam_ne, fam_ne', Nat.sub_zero, Nat.zero_add, gB, gB0, sB, sB0, bA, List.append_assoc, List.cons_append, List.nil_append, List.append_nil, bkM, bGA, gpE, apE]
  refine ⟨_, _, callR_gone (pre := [(3, .arr 60 0 3 (b.ks.map PKind.row)), (4, .arr 119 0 3 (b.ps.map PPt.row))]) hB (by simp [getM]) (by simp [refsInL, refsIn, dom]) (by simp [refsInO]) rfl, ?_⟩
  simp only [gone, List.map_cons, List.map_nil]
  simp (config := { maxSteps := 2000000 }) only [bitvec_to_nat, reduceIte, Nat.reduceEqDiff, Nat.reduceAdd, Nat.reduceLeDiff, reduceCtorEq, Nat.reduceBEq, Nat.reduceLT, Nat.reduceMod, List.forall_mem_cons, retG_ret, retQ_eq, retQ_eqN, retOk, keepB, re_tupl, orr_t, bkV, fam_ne, fam_ne', Nat.sub_zero, Nat.zero_add, gB, gB0, sB, sB0, bA, List.append_assoc, List.cons_append, List.nil_append, List.append_nil, bkM, bGA, gpE, apE]
  refine ⟨_, _, callR_gone (pre := preE b) hE (fun p hp => ?_) (by simp [refsInL, refsIn, dom, preE]) (fam_refs (by omega)) rfl, ?_⟩
  · rcases List.mem_cons.1 hp with rfl | hp
    · simp only [getM, Nat.reduceEqDiff, reduceIte]
    · obtain ⟨i, hi, rfl⟩ := nfam_at hp
      simp only [getM, fam_ne, Nat.reduceLT, if_false, getM_append, fE, nfam_obj hi, Option.some_or]
  simp (config := { maxSteps := 2000000 }) only [bitvec_to_nat, reduceIte, Nat.reduceEqDiff, Nat.reduceAdd, Nat.reduceLeDiff, reduceCtorEq, Nat.reduceBEq, Nat.reduceLT, Nat.reduceMod, List.forall_mem_cons, retG_ret, retQ_eq, retQ_eqN, retOk, keepB, re_tupl, orr_t, bkV, fam_ne, fam_ne', Nat.sub_zero, Nat.zero_add, gB, gB0, sB, sB0, bA, List.append_assoc, List.cons_append, List.nil_append, List.append_nil, bkM, bGA, gpE, apE]
  refine ⟨by unfold cntB; omega, wkM_self fun p hp => ?_, gone_refs, ?_⟩
  · obtain ⟨q, hq, rfl⟩ := List.mem_map.1 hp
    obtain ⟨i, hi, rfl⟩ := nfam_at hq
    show getM (_ :: _ :: _ :: (gone _ ++ _)) _ = _
    simp only [getM, fam_ne, Nat.reduceLT, if_false, getM_append, getM_gone, fE, nfam_obj hi, Option.map_some, Option.some_or]
  · refine keep_of (M := (3, .gone) :: (4, .gone) :: (5, .gone) :: (gone (nobjs (fE 7 b)) ++ [(102, _)])) (M' := (3, .gone) :: (4, .gone) :: (5, .gone) :: gone (nobjs (fE 7 b))) fun p hp => ?_
    simp only [List.mem_cons, List.mem_append, List.not_mem_nil, or_false] at hp
    simp only [dom, List.map_cons, List.mem_cons, List.mem_map]
    rcases hp with rfl | rfl | rfl | hp | rfl
    · exact .inr (.inl rfl)
    · exact .inr (.inr (.inl rfl))
    · exact .inr (.inr (.inr (.inl rfl)))
    · exact .inr (.inr (.inr (.inr ⟨p, hp, rfl⟩)))
    · exact .inl (by simp)
abbrev KA (b : PBook) : List (Nat × AObj) := bkM b 611 612 613 107
theorem KA_uniq (b : PBook) : uniq (KA b) := bk_uniq (by omega) (by omega) (by omega) (by omega) (by omega) (by omega)
theorem KA_lo {b : PBook} {o : Nat} (h : o < 611) : offs (KA b) o := bk_offs (by omega) (by omega) (by omega) (by omega)
theorem KA_hi {b : PBook} {o : Nat} (h : 613 < o) (h2 : o < 1000) : offs (KA b) o := bk_offs (by omega) (by omega) (by omega) (by omega)
theorem KA_100 (b : PBook) : big100 (KA b) := bk_100 (by omega) (by omega) (by omega) (by omega) (by omega)
theorem KA_k {b : PBook} {B : List (Nat × AObj)} : keepB (gone (KA b) ++ B) [] = keepB B [] := keep_appL (keep_big (big100_gone (KA_100 b)))
theorem KA_k0 {b : PBook} : keepB (gone (KA b)) [] = true := keep_big (big100_gone (KA_100 b))
theorem KA_k' {b : PBook} {B : List (Nat × AObj)} : keepB (KA b ++ B) [] = keepB B [] := keep_appL (keep_big (KA_100 b))
theorem KA_k0' {b : PBook} : keepB (KA b) [] = true := keep_big (KA_100 b)
theorem toBookA (b : PBook) (hs : b.small) : Contract P 20 [.agg (b.row 1)] [] (bkV b 611 612 613) (KA b).reverse := by
  have h := ((((c_toBookO b hs).ren (swp 611 611) (swp_swp _ _)).ren (swp 612 612) (swp_swp _ _)).ren (swp 613 613) (swp_swp _ _)).ren (swpF 107 107) (swpF_swpF (by omega) (by omega))
  rw [bkV_ren, bkV_ren, bkV_ren, bkV_ren, bkM_ren (k' := 107) (fun i => swp_fam (by omega) (by omega)), bkM_ren (k' := 107) (fun i => swp_fam (by omega) (by omega)), bkM_ren (k' := 107) (fun i => swp_fam (by omega) (by omega)), bkM_ren (k' := 107) (fun i => swpF_fam (by omega))] at h
  exact h.post_eq (funext fun o => getM_rev (KA_uniq b) o)
theorem markBookA (k : Int) (b : PBook) (hs : b.small) (hk : 0 ≤ k ∧ k ≤ 30000000000000) : Contract P 26 [bkV b 611 612 613, .int .i64 k] (KA b) (.int .i64 (k + cntB b)) (gone (KA b)) := by
  have h := ((((g_markBook k b hs hk).ren (swp 3 611) (swp_swp _ _)).ren (swp 4 612) (swp_swp _ _)).ren (swp 5 613) (swp_swp _ _)).ren (swpF 7 107) (swpF_swpF (by omega) (by omega))
  simp only [renM_gone, renL, bkV_ren, ren] at h
  rw [bkM_ren (k' := 7) (fun i => swp_fam (by omega) (by omega)), bkM_ren (k' := 7) (fun i => swp_fam (by omega) (by omega)), bkM_ren (k' := 7) (fun i => swp_fam (by omega) (by omega)), bkM_ren (k' := 107) (fun i => swpF_fam (by omega))] at h
  exact h
theorem KA_99 {b : PBook} : ∀ p ∈ (KA b).reverse, No99O p.2 := fun p hp => bk_99 p (List.mem_reverse.1 hp)
theorem KA_ref {b : PBook} {k : Int} : refsInL (dom (KA b)) [bkV b 611 612 613, .int .i64 k] = true := by
  simp only [refsInL, bk_refV, refsIn, Bool.and_self]
abbrev KB (b : PBook) : List (Nat × AObj) := bkM b 641 642 643 108
theorem KB_uniq (b : PBook) : uniq (KB b) := bk_uniq (by omega) (by omega) (by omega) (by omega) (by omega) (by omega)
theorem KB_lo {b : PBook} {o : Nat} (h : o < 641) : offs (KB b) o := bk_offs (by omega) (by omega) (by omega) (by omega)
theorem KB_hi {b : PBook} {o : Nat} (h : 643 < o) (h2 : o < 1000) : offs (KB b) o := bk_offs (by omega) (by omega) (by omega) (by omega)
theorem KB_100 (b : PBook) : big100 (KB b) := bk_100 (by omega) (by omega) (by omega) (by omega) (by omega)
theorem KB_k {b : PBook} {B : List (Nat × AObj)} : keepB (gone (KB b) ++ B) [] = keepB B [] := keep_appL (keep_big (big100_gone (KB_100 b)))
theorem KB_k0 {b : PBook} : keepB (gone (KB b)) [] = true := keep_big (big100_gone (KB_100 b))
theorem KB_k' {b : PBook} {B : List (Nat × AObj)} : keepB (KB b ++ B) [] = keepB B [] := keep_appL (keep_big (KB_100 b))
theorem KB_k0' {b : PBook} : keepB (KB b) [] = true := keep_big (KB_100 b)
theorem KAB {b b' : PBook} : dis (KA b) (KB b') := bk_dis (by decide) (by decide) (by omega) (by omega) (by omega)
theorem KBA {b b' : PBook} : dis (KB b) (KA b') := dis_symm KAB
end
end Go.Ve

namespace Go.Ve
noncomputable section
open Go.Proofs
set_option linter.unusedSimpArgs false
set_option linter.unusedVariables false
set_option maxRecDepth 100000
def Fld.later (f g : Fld) : Prop := g.nr < f.nr ∨ (f.nr = g.nr ∧ slt g.v f.v)
noncomputable instance (f g : Fld) : Decidable (f.later g) := Classical.propDecidable _
def eIdx (l : List Ent) (s : ByteArray) : Int := fIdx (fun e => decide (e.nm = s)) l
def wIdx (l : List Fld) (w : Int) : Int := fIdx (fun f => decide (f.w = w)) l
theorem eIdx_at {l : List Ent} {nm : ByteArray} (h : 0 ≤ eIdx l nm) : (eIdx l nm).toNat < l.length ∧ (l.getD (eIdx l nm).toNat default).nm = nm ∧ eIdx l nm < l.length := by
  unfold eIdx at *
  rcases fIdx_spec (fun p : Ent => decide (p.nm = nm)) l with ⟨h1, h2⟩ | ⟨i, h1, h2, h3, _⟩
  · omega
  · rw [h1]; exact ⟨by simpa using h2, by simpa using h3, by omega⟩
theorem wIdx_at {l : List Fld} {w : Int} (h : 0 ≤ wIdx l w) : (wIdx l w).toNat < l.length ∧ (l.getD (wIdx l w).toNat default).w = w ∧ wIdx l w < l.length := by
  unfold wIdx at *
  rcases fIdx_spec (fun p : Fld => decide (p.w = w)) l with ⟨h1, h2⟩ | ⟨i, h1, h2, h3, _⟩
  · omega
  · rw [h1]; exact ⟨by simpa using h2, by simpa using h3, by omega⟩
def fsOf (b : PBook) (nm : ByteArray) : List Fld := (b.es.getD (eIdx b.es nm).toNat default).fs
def hasF (b : PBook) (nm : ByteArray) (w : Int) : Prop := 0 ≤ eIdx b.es nm ∧ 0 ≤ wIdx (fsOf b nm) w
noncomputable instance (b : PBook) (nm : ByteArray) (w : Int) : Decidable (hasF b nm w) := Classical.propDecidable _
def fOf (b : PBook) (nm : ByteArray) (w : Int) : Fld := if hasF b nm w then (fsOf b nm).getD (wIdx (fsOf b nm) w).toNat default else ⟨0, 0, ⟨#[]⟩⟩
theorem wIdx_i {l : List Fld} {w : Int} {i : Nat} (hi : i < l.length) (h : (l.getD i default).w = w) (h2 : ∀ j, j < i → ¬ (l.getD j default).w = w) : wIdx l w = i := by
  unfold wIdx; rw [fIdx_at hi (by simpa using h) fun j hj => by simpa using h2 j hj]
theorem wIdx_no {l : List Fld} {w : Int} (h2 : ∀ j, j < l.length → ¬ (l.getD j default).w = w) : wIdx l w = -1 := by
  unfold wIdx; rw [fIdx_none fun j hj => by simpa using h2 j hj]
theorem has_i {b : PBook} {nm : ByteArray} {w : Int} {i : Nat} (he : 0 ≤ eIdx b.es nm) (hi : i < (fsOf b nm).length) (h : ((fsOf b nm).getD i default).w = w) (h2 : ∀ j, j < i → ¬ ((fsOf b nm).getD j default).w = w) : hasF b nm w ∧ fOf b nm w = (fsOf b nm).getD i default := by
  have e := wIdx_i hi h h2
  have hh : hasF b nm w := ⟨he, by omega⟩
  refine ⟨hh, ?_⟩
  rw [fOf, if_pos hh, e]; rfl
theorem has_no {b : PBook} {nm : ByteArray} {w : Int} (h : 0 ≤ eIdx b.es nm → ∀ j, j < (fsOf b nm).length → ¬ ((fsOf b nm).getD j default).w = w) : ¬ hasF b nm w ∧ fOf b nm w = ⟨0, 0, ⟨#[]⟩⟩ := by
  have hh : ¬ hasF b nm w := fun k => by have := wIdx_no (h k.1); have := k.2; omega
  exact ⟨hh, if_neg hh⟩
theorem c_IndexFunc_Ent (g : FuncId) (hg : calleeB P g = true) (ls : List AV) (hls : norefL ls = true) (p : Ent → Bool) (t : Nat) (zs : List Ent) (hl : zs.length ≤ 4611686018427387904)
    (hC : ∀ z, Contract P g (.agg (Ent.row 0 z) :: [.ptr 3 0]) [(3, .box ls)] (.bool (p z)) [(3, .box ls)]) : Contract P 110 [.sl t 2 (zs.map (Ent.row 0)), .fn g [] [.ptr 3 0]] [(3, .box ls)] (.int .i64 (fIdx p zs)) [(3, .box ls)] := by
  refine fn_sound (Env.nil P) hm k_slices_IndexFunc_PlanEntry (Nat.le_of_ble_eq_true rfl) rfl ?_; unfold s_slices_IndexFunc_PlanEntry; simp (config := { maxSteps := 2000000 }) only [bitvec_to_nat, reduceIte, Nat.reduceEqDiff, Nat.reduceAdd, Nat.reduceLeDiff, reduceCtorEq, Nat.reduceBEq, Nat.reduceLT, Nat.reduceMod, List.forall_mem_cons, retG_ret, retQ_eq, retQ_eqN, retOk, keepB, re_tupl, orr_t, callL_nil]
  refine loop_st (fun i : Nat => [(8, .int .i64 i)]) (fun _ => []) (fun i => i ≤ zs.length ∧ ∀ j, j < i → p (zs.getD j default) = false) (fun i => zs.length - i) (0) (by simp only [u_E0, u_E1, u_M0, u_M1, w_setE0, w_setE1, w_setM0, w_setM1, reduceIte, Nat.reduceEqDiff]; exact ⟨by repeat' (first | exact trivial | refine ⟨.inr rfl, ?_⟩), by repeat' (first | exact trivial | refine ⟨rfl, ?_⟩), by first | rfl | simp [closedB, refsIn, refsInL, refsInO, dom, refsInL_nr, *], by first | rfl | simp [keepB, dom]⟩) ?_ ?_
  · exact ⟨Nat.zero_le _, by intro j hj; omega⟩
  intro i hi NX hN
  unfold l_slices_IndexFunc_PlanEntry_0; simp (config := { maxSteps := 2000000 }) only [bitvec_to_nat, reduceIte, Nat.reduceEqDiff, Nat.reduceAdd, Nat.reduceLeDiff, reduceCtorEq, Nat.reduceBEq, Nat.reduceLT, Nat.reduceMod, List.forall_mem_cons, retG_ret, retQ_eq, retQ_eqN, retOk, keepB, re_tupl, orr_t, callL_nil, Ent_len, Ent_take]
  refine ⟨fun h1 => ⟨by omega, by omega, hg, _, _, .inl ⟨[(3, .box ls)], hC (zs.getD i default), ?_, ?_, ?_, ?_, ?_, rfl, ?_⟩, ?_⟩, fun h1 => ?_⟩
  · simp [getM]
  · intro q hq; left; revert q; simp [dom]
  · simp [dom]
  · simp [refsInL, refsIn, dom, refsInL_nr, Ent_nr]
  · simp [refsInO, refsInL_nr, *]
  · simp [refsInO, refsInL_nr, *]
  · simp (config := { maxSteps := 2000000 }) only [bitvec_to_nat, reduceIte, Nat.reduceEqDiff, Nat.reduceAdd, Nat.reduceLeDiff, reduceCtorEq, Nat.reduceBEq, Nat.reduceLT, Nat.reduceMod, List.forall_mem_cons, retG_ret, retQ_eq, retQ_eqN, retOk, keepB, re_tupl, orr_t, callL_nil]
    refine ⟨fun h2 => ?_, fun h2 => ?_⟩
    · simp (config := { maxSteps := 2000000 }) only [bitvec_to_nat, reduceIte, Nat.reduceEqDiff, Nat.reduceAdd, Nat.reduceLeDiff, reduceCtorEq, Nat.reduceBEq, Nat.reduceLT, Nat.reduceMod, List.forall_mem_cons, retG_ret, retQ_eq, retQ_eqN, retOk, keepB, re_tupl, orr_t, callL_nil]
      rw [fIdx_at (by omega) h2 hi.2]
      simp [dom, refsInL_nr, *]
    · simp (config := { maxSteps := 2000000 }) only [bitvec_to_nat, reduceIte, Nat.reduceEqDiff, Nat.reduceAdd, Nat.reduceLeDiff, reduceCtorEq, Nat.reduceBEq, Nat.reduceLT, Nat.reduceMod, List.forall_mem_cons, retG_ret, retQ_eq, retQ_eqN, retOk, keepB, re_tupl, orr_t, callL_nil]
      refine ⟨by omega, ?_⟩
      refine hN (i + 1) _ (by simp only [u_E0, u_E1, u_M0, u_M1, w_setE0, w_setE1, w_setM0, w_setM1, reduceIte, Nat.reduceEqDiff]; exact ⟨by repeat' (first | exact trivial | refine ⟨.inr rfl, ?_⟩), by repeat' (first | exact trivial | refine ⟨rfl, ?_⟩), by first | rfl | simp [closedB, refsIn, refsInL, refsInO, dom, refsInL_nr, *], by first | rfl | simp [keepB, dom]⟩) ?_ ?_
      · exact ⟨by omega, all_snoc hi.2 h2⟩
      · omega
  · rw [fIdx_none fun j hj => hi.2 j (by omega)]
    simp [dom, refsInL_nr, *]
theorem c_entry1 (z : Ent) (s : ByteArray) : Contract P 111 [.agg (z.row 0), .ptr 3 0] [(3, .box [.str s])] (.bool (decide (z.nm = s))) [(3, .box [.str s])] := by
  simp only [Ent.row]
  refine fn_sound (Env.nil P) hm k_impl_PlanBook_entry_1 (Nat.le_of_ble_eq_true rfl) rfl ?_; unfold s_impl_PlanBook_entry_1; simp (config := { maxSteps := 2000000 }) only [bitvec_to_nat, reduceIte, Nat.reduceEqDiff, Nat.reduceAdd, Nat.reduceLeDiff, reduceCtorEq, Nat.reduceBEq, Nat.reduceLT, Nat.reduceMod, List.forall_mem_cons, retG_ret, retQ_eq, retQ_eqN, retOk, keepB, re_tupl, orr_t, Ent_eta]
  all_goals simp [dom]
def r_entryI : RTab
  | [.sl zt 2 zx, .fn 111 [] [.ptr ob off]], M => match M ob with
    | some (.box [.str s]) => some ⟨off = 0 ∧ (zx.map unEnt).map (Ent.row 0) = zx ∧ (zx.map unEnt).length ≤ 4611686018427387904, fun _ : Unit => True, fun _ => .int .i64 (fIdx (fun z => decide (z.nm = s)) (zx.map unEnt)), fun _ => [(ob, .box [.str s])]⟩
    | _ => none
  | _, _ => none
theorem h_entryI : okTab P 110 r_entryI := by
  intro args M o h hp
  unfold r_entryI at h
  split at h
  · rename_i zt zx ob off
    split at h
    · rename_i s hM
      cases h
      obtain ⟨rfl, e0, HP⟩ := hp
      have hC := c_IndexFunc_Ent 111 (by kernel_rfl) _ rfl (fun z => decide (z.nm = s)) zt (zx.map unEnt) HP fun z => c_entry1 z s
      simp only [e0, decide_eq_true_eq] at hC
      exact ⟨(), trivial, callR_box _ hC (by simp [norefL, noref]) rfl (by assumption) (by simp [renL, ren, swp]) (by simp [refsInL, refsIn, noref])⟩
    · cases h
  · cases h
theorem c_entry (b : PBook) (nm : ByteArray) (hl : b.es.length ≤ 1048576) : Contract P 95 [.agg (b.row 0), .str nm] [] (.int .i64 (eIdx b.es nm)) [] := by
  refine fn_sound ((Env.nil P).addR 110 r_entryI h_entryI) hm k_impl_PlanBook_entry (Nat.le_of_ble_eq_true rfl) rfl ?_; unfold s_impl_PlanBook_entry; simp (config := { maxSteps := 2000000 }) only [bitvec_to_nat, reduceIte, Nat.reduceEqDiff, Nat.reduceAdd, Nat.reduceLeDiff, reduceCtorEq, Nat.reduceBEq, Nat.reduceLT, Nat.reduceMod, List.forall_mem_cons, retG_ret, retQ_eq, retQ_eqN, retOk, keepB, re_tupl, orr_t, r_entryI, un_Ent, PBook.row]
  exact ⟨by omega, fun _ => rfl⟩
def t_entry : List AV → Option (Prop × AV)
  | [.agg [.sl 0 3 b_ks, .sl 0 3 b_ps, .sl 0 2 b_es], .str nm] => some ((((b_ks.map unPKind).map PKind.row = b_ks) ∧ ((b_ps.map unPPt).map PPt.row = b_ps) ∧ ((b_es.map unEnt).map (Ent.row 0) = b_es)) ∧ ((PBook.es (PBook.mk (b_ks.map unPKind) (b_ps.map unPPt) (b_es.map unEnt))).length ≤ 1048576), .int .i64 (eIdx (PBook.es (PBook.mk (b_ks.map unPKind) (b_ps.map unPPt) (b_es.map unEnt))) nm))
  | _ => none
theorem h_entry : ∀ args p v, t_entry args = some (p, v) → p → Contract P 95 args [] v [] ∧ noref v = true ∧ No99 v := by
  intro args p v h1 h2
  unfold t_entry at h1
  split at h1
  · rename_i b_ks b_ps b_es nm
    cases h1
    obtain ⟨⟨e0, e1, e2⟩, HP⟩ := h2
    have := c_entry (PBook.mk (b_ks.map unPKind) (b_ps.map unPPt) (b_es.map unEnt)) nm HP
    exact ⟨by simpa only [e0, e1, e2, PBook.row] using this, rfl, trivial⟩
  · cases h1
theorem fs_eq {b : PBook} {nm : ByteArray} : (b.es.getD (eIdx b.es nm).toNat default).fs = fsOf b nm := rfl
set_option maxHeartbeats 1000000 in
theorem c_field (b : PBook) (nm : ByteArray) (w : Int) (hf : b.fine) : Contract P 61 [.agg (b.row 0), .str nm, .int .i64 w] [] (.tup [.agg (fOf b nm w).row, .bool (decide (hasF b nm w))]) [] := by
  obtain ⟨_, hl, hv⟩ := hf
  have he := eIdx_at (l := b.es) (nm := nm)
  have hfe := fs_eq (b := b) (nm := nm)
  simp only [PBook.row]
  refine fn_sound ((Env.nil P).add 95 t_entry h_entry) hm k_impl_PlanBook_field (Nat.le_of_ble_eq_true rfl) rfl ?_; unfold s_impl_PlanBook_field; simp (config := { maxSteps := 2000000 }) only [bitvec_to_nat, reduceIte, Nat.reduceEqDiff, Nat.reduceAdd, Nat.reduceLeDiff, reduceCtorEq, Nat.reduceBEq, Nat.reduceLT, Nat.reduceMod, List.forall_mem_cons, t_entry, tk_map, dp_map, toNat_pred, appE, rowsOf, List.take_length, List.length_cons, List.length_nil, Nat.zero_add, srow, irow, un_s, un_i, Zone.row, Zone_eta, un_Zone, Word.row, Word_eta, Own.row, Own_eta, Part.row, Part_eta, Seen.row, Seen_eta, Book.row, Book_eta, Sector.row, Sector_eta, HCraft.row, HCraft_eta, World.row, World_eta, PKind.row, PKind_eta, PPt.row, PPt_eta, Cell.row, Cell_eta, PBase.row, PBase_eta, Chg.row, Chg_eta, Fld.row, Fld_eta, Ent.row, Ent_eta, PBook.row, PBook_eta, un_Word, un_Own, un_Part, un_Seen, un_Book, un_Sector, un_HCraft, un_World, un_PKind, un_PPt, un_Cell, un_PBase, un_Chg, un_Fld, un_Ent, un_PBook, Nat.sub_zero, List.nil_append, Int.toNat_one, un_PKind, un_PPt, PBook.row, PBook_eta, Fld.row, Fld_eta, Ent.row, Ent_eta, un_Ent, un_Fld, Chg.row, Chg_eta, hfe]
  refine ⟨hl, fun h0 => ?_, fun h0 => ?_⟩
  · obtain ⟨he1, he2, he3⟩ := he h0
    have hfl : (fsOf b nm).length ≤ 1048576 := (hv _ (getD_mem' he1)).1
    refine ⟨by omega, by omega, ?_⟩
    refine loop_st (fun i : Nat => [(23, .int .i64 i)]) (fun _ => []) (fun i => i ≤ (fsOf b nm).length ∧ ∀ j, j < i → ¬ ((fsOf b nm).getD j default).w = w) (fun i => (fsOf b nm).length - i) 0 (by simp only [u_E0, u_E1, u_M0, u_M1, w_setE0, w_setE1, w_setM0, w_setM1, reduceIte, Nat.reduceEqDiff]; exact ⟨by repeat' (first | exact trivial | refine ⟨.inr rfl, ?_⟩), by repeat' (first | exact trivial | refine ⟨rfl, ?_⟩), by first | rfl | simp [closedB, refsIn, refsInL, refsInO, dom, refsInL_nr, *], by first | rfl | simp [keepB, dom]⟩) ⟨Nat.zero_le _, fun j h => absurd h (Nat.not_lt_zero _)⟩ ?_
    rintro i ⟨hi, h1⟩ NX hN
    by_cases hlt : i < (fsOf b nm).length
    · have hk := fun h => has_i (w := w) h0 hlt h h1
      unfold l_impl_PlanBook_field_0; simp (config := { maxSteps := 2000000 }) only [bitvec_to_nat, reduceIte, Nat.reduceEqDiff, Nat.reduceAdd, Nat.reduceLeDiff, reduceCtorEq, Nat.reduceBEq, Nat.reduceLT, Nat.reduceMod, List.forall_mem_cons, t_entry, tk_map, dp_map, toNat_pred, appE, rowsOf, List.take_length, List.length_cons, List.length_nil, Nat.zero_add, srow, irow, un_s, un_i, Zone.row, Zone_eta, un_Zone, Word.row, Word_eta, Own.row, Own_eta, Part.row, Part_eta, Seen.row, Seen_eta, Book.row, Book_eta, Sector.row, Sector_eta, HCraft.row, HCraft_eta, World.row, World_eta, PKind.row, PKind_eta, PPt.row, PPt_eta, Cell.row, Cell_eta, PBase.row, PBase_eta, Chg.row, Chg_eta, Fld.row, Fld_eta, Ent.row, Ent_eta, PBook.row, PBook_eta, un_Word, un_Own, un_Part, un_Seen, un_Book, un_Sector, un_HCraft, un_World, un_PKind, un_PPt, un_Cell, un_PBase, un_Chg, un_Fld, un_Ent, un_PBook, Nat.sub_zero, List.nil_append, Int.toNat_one, un_PKind, un_PPt, PBook.row, PBook_eta, Fld.row, Fld_eta, Ent.row, Ent_eta, un_Ent, un_Fld, Chg.row, Chg_eta, hfe]
      repeat' (first | with_reducible apply And.intro | with_reducible intro _)
      all_goals first
        | omega
        | (refine hN (i + 1) _ (by simp only [u_E0, u_E1, u_M0, u_M1, w_setE0, w_setE1, w_setM0, w_setM1, reduceIte, Nat.reduceEqDiff]; exact ⟨by repeat' (first | exact trivial | refine ⟨.inr rfl, ?_⟩), by repeat' (first | exact trivial | refine ⟨rfl, ?_⟩), by first | rfl | simp [closedB, refsIn, refsInL, refsInO, dom, refsInL_nr, *], by first | rfl | simp [keepB, dom]⟩) ⟨hlt, all_snoc h1 (by assumption)⟩ (by omega))
        | (have := hk (by assumption); simp [this.1, this.2, Fld.row]; done)
        | (have := hk (by assumption); exact this.1)
        | trace_state
    · have e : i = (fsOf b nm).length := by omega
      subst e
      have hk := has_no (w := w) (b := b) (nm := nm) fun _ => h1
      unfold l_impl_PlanBook_field_0; simp (config := { maxSteps := 2000000 }) only [bitvec_to_nat, reduceIte, Nat.reduceEqDiff, Nat.reduceAdd, Nat.reduceLeDiff, reduceCtorEq, Nat.reduceBEq, Nat.reduceLT, Nat.reduceMod, List.forall_mem_cons, t_entry, tk_map, dp_map, toNat_pred, appE, rowsOf, List.take_length, List.length_cons, List.length_nil, Nat.zero_add, srow, irow, un_s, un_i, Zone.row, Zone_eta, un_Zone, Word.row, Word_eta, Own.row, Own_eta, Part.row, Part_eta, Seen.row, Seen_eta, Book.row, Book_eta, Sector.row, Sector_eta, HCraft.row, HCraft_eta, World.row, World_eta, PKind.row, PKind_eta, PPt.row, PPt_eta, Cell.row, Cell_eta, PBase.row, PBase_eta, Chg.row, Chg_eta, Fld.row, Fld_eta, Ent.row, Ent_eta, PBook.row, PBook_eta, un_Word, un_Own, un_Part, un_Seen, un_Book, un_Sector, un_HCraft, un_World, un_PKind, un_PPt, un_Cell, un_PBase, un_Chg, un_Fld, un_Ent, un_PBook, Nat.sub_zero, List.nil_append, Int.toNat_one, un_PKind, un_PPt, PBook.row, PBook_eta, Fld.row, Fld_eta, Ent.row, Ent_eta, un_Ent, un_Fld, Chg.row, Chg_eta, hfe]
      repeat' (first | with_reducible apply And.intro | with_reducible intro _)
      all_goals first
        | omega
        | (simp [hk.1, hk.2, Fld.row]; done)
        | (exfalso; omega)
        | trace_state
  · have hk := has_no (w := w) (b := b) (nm := nm) fun h => absurd h (by omega)
    simp [hk.1, hk.2, Fld.row]
def t_field : List AV → Option (Prop × AV)
  | [.agg [.sl 0 3 b_ks, .sl 0 3 b_ps, .sl 0 2 b_es], .str nm, .int .i64 w] => some ((((b_ks.map unPKind).map PKind.row = b_ks) ∧ ((b_ps.map unPPt).map PPt.row = b_ps) ∧ ((b_es.map unEnt).map (Ent.row 0) = b_es)) ∧ (PBook.fine (PBook.mk (b_ks.map unPKind) (b_ps.map unPPt) (b_es.map unEnt))), .tup [.agg (Fld.row (fOf (PBook.mk (b_ks.map unPKind) (b_ps.map unPPt) (b_es.map unEnt)) nm w)), .bool (decide (hasF (PBook.mk (b_ks.map unPKind) (b_ps.map unPPt) (b_es.map unEnt)) nm w))])
  | _ => none
theorem h_field : ∀ args p v, t_field args = some (p, v) → p → Contract P 61 args [] v [] ∧ noref v = true ∧ No99 v := by
  intro args p v h1 h2
  unfold t_field at h1
  split at h1
  · rename_i b_ks b_ps b_es nm w
    cases h1
    obtain ⟨⟨e0, e1, e2⟩, HP⟩ := h2
    have := c_field (PBook.mk (b_ks.map unPKind) (b_ps.map unPPt) (b_es.map unEnt)) nm w HP
    exact ⟨by simpa only [e0, e1, e2, PBook.row] using this, rfl, by simp [No99, No99L, Fld.row]⟩
  · cases h1
end
end Go.Ve

namespace Go.Ve
noncomputable section
open Go.Proofs
set_option linter.unusedSimpArgs false
set_option linter.unusedVariables false
set_option maxRecDepth 100000
structure Flt where
  nm : ByteArray
  kn : ByteArray
  kq : Int
  ksl : Int
  fr : Int
  by_ : Int
  lv : Int
  rt : List ByteArray
  deriving Inhabited, DecidableEq
def Flt.row (t : Nat) (s : Flt) : List AV := [.str s.nm, .str s.kn, .int .i64 s.kq, .int .i64 s.ksl, .int .i64 s.fr, .int .i64 s.by_, .int .i64 s.lv, .sl t 1 (s.rt.map srow)]
def unFlt : List AV → Flt
  | [.str vnm, .str vkn, .int .i64 vkq, .int .i64 vksl, .int .i64 vfr, .int .i64 vby_, .int .i64 vlv, .sl _ 1 vrt] => (Flt.mk vnm vkn vkq vksl vfr vby_ vlv (vrt.map unS))
  | _ => default
theorem unFlt_row (t : Nat) (s : Flt) : unFlt (Flt.row t s) = s := by
  cases s; simp only [Flt.row, unFlt, un_s]
theorem un_Flt (t : Nat) (l : List Flt) : (l.map (Flt.row t)).map unFlt = l := by
  rw [List.map_map]; exact List.map_id'' (fun s => unFlt_row t s) l
theorem Flt_eta (s : Flt) : (Flt.mk s.nm s.kn s.kq s.ksl s.fr s.by_ s.lv s.rt) = s := (rfl)
def valF (b : PBook) (nm : ByteArray) (w : Int) : ByteArray := (fOf b nm w).v
def kdOf (b : PBook) (nm : ByteArray) : PKind := b.ks.getD (kIdx b.ks (valF b nm 1)).toNat default
def standsOk (b : PBook) (nm : ByteArray) : Prop := b.ok ∧ (hasF b nm 1 ∧ hasF b nm 2 ∧ hasF b nm 3 ∧ hasF b nm 4) ∧ valF b nm 5 ≠ wClosed
noncomputable instance (b : PBook) (nm : ByteArray) : Decidable (standsOk b nm) := Classical.propDecidable _
def fltOf (b : PBook) (nm : ByteArray) : Flt := ⟨nm, (kdOf b nm).nm, (kdOf b nm).q, (kdOf b nm).sl, ((decV ((cuts (valF b nm 2) 32).getD 0 default) : Nat) : Int), ((decV ((cuts (valF b nm 2) 32).getD 1 default) : Nat) : Int), ((decV (valF b nm 3) : Nat) : Int), cuts (valF b nm 4) 32⟩
def fltZ : Flt := ⟨⟨#[]⟩, ⟨#[]⟩, 0, 0, 0, 0, 0, []⟩
def stR (b : PBook) (nm : ByteArray) : Flt := if standsOk b nm then fltOf b nm else fltZ
theorem has_fits {b : PBook} {nm : ByteArray} {w : Int} (hb : b.ok) (h : hasF b nm w) : plFits b.ks b.ps w (valF b nm w) := by
  obtain ⟨h1, h2⟩ := h
  obtain ⟨e1, _, _⟩ := eIdx_at h1
  obtain ⟨w1, w2, _⟩ := wIdx_at h2
  have := ((hb.2 _ e1).1.2 _ w1).1.2.2
  simp only at this
  have hw : ((b.es.getD (eIdx b.es nm).toNat default).fs.getD (wIdx (fsOf b nm) w).toNat default).w = w := w2
  rw [hw] at this
  have ef : valF b nm w = ((b.es.getD (eIdx b.es nm).toNat default).fs.getD (wIdx (fsOf b nm) w).toNat default).v := by
    rw [valF, fOf, if_pos ⟨h1, h2⟩]; rfl
  rw [ef]; exact this
theorem val_small {b : PBook} {nm : ByteArray} {w : Int} (hf : b.fine) : (valF b nm w).toList.length ≤ 1048576 := by
  rw [valF, fOf]
  split
  · rename_i h
    obtain ⟨h1, h2⟩ := h
    obtain ⟨e1, _, _⟩ := eIdx_at h1
    obtain ⟨w1, _, _⟩ := wIdx_at h2
    exact (hf.2.2 _ (getD_mem' e1)).2 _ (getD_mem' w1)
  · show (⟨#[]⟩ : ByteArray).toList.length ≤ _
    rw [← toList_size]; exact Nat.zero_le _
theorem cuts_nil {c : UInt8} : (cuts ⟨#[]⟩ c).length = 1 := by
  rw [cuts_len]
  have : (⟨#[]⟩ : ByteArray).toList = [] := List.eq_nil_of_length_eq_zero (by rw [← toList_size]; rfl)
  rw [this]; rfl
theorem nameOk_ne {s : ByteArray} (h : nameOk s) : s ≠ ⟨#[]⟩ := fun e => by
  have := h.1.1
  rw [e, ← toList_size] at this
  exact absurd this (by decide)
theorem fits_ne {ks : List PKind} {ps : List PPt} {w : Int} {v : ByteArray} (hb : baseOk ks ps) (h : plFits ks ps w v) : v ≠ ⟨#[]⟩ := fun e => by
  subst e
  rcases h with ⟨_, h⟩ | ⟨_, h⟩ | ⟨_, h, _⟩ | ⟨_, h⟩ | ⟨_, h⟩
  · obtain ⟨k1, k2, _⟩ := kIdx_at h
    have := (hb.2.1 _ k1).1.1
    rw [k2] at this
    exact nameOk_ne this rfl
  · have := h.1
    rw [cuts_nil] at this; omega
  · have := h.1.1.1
    rw [← toList_size] at this; exact absurd this (by decide)
  · have := h.1.1
    rw [cuts_nil] at this; omega
  · rcases h with h | h
    · have := congrArg (fun b : ByteArray => b.data.size) h; simp [wOpen] at this
    · have := congrArg (fun b : ByteArray => b.data.size) h; simp [wClosed] at this
def valE (fs : List Fld) (w : Int) : ByteArray := if 0 ≤ wIdx fs w then (fs.getD (wIdx fs w).toNat default).v else ⟨#[]⟩
theorem valE_F {b : PBook} {nm : ByteArray} {w : Int} (h : 0 ≤ eIdx b.es nm) : valE (fsOf b nm) w = valF b nm w := by
  rw [valE, valF, fOf]
  by_cases hw : 0 ≤ wIdx (fsOf b nm) w
  · rw [if_pos hw, if_pos ⟨h, hw⟩]
  · rw [if_neg hw, if_neg fun k => hw k.2]
theorem val_has {b : PBook} {nm : ByteArray} {w : Int} (hb : b.ok) : valF b nm w ≠ ⟨#[]⟩ ↔ hasF b nm w := by
  constructor
  · intro h
    refine Classical.byContradiction fun k => h ?_
    rw [valF, fOf, if_neg k]
  · intro h
    exact fits_ne hb.1.1 (has_fits hb h)
theorem c_l16Value (nm : ByteArray) (t : Nat) (fs : List Fld) (w : Int) (hl : fs.length ≤ 1048576) : Contract P 99 [.agg [.str nm, .sl t 3 (fs.map Fld.row)], .int .i64 w] [] (.str (valE fs w)) [] := by
  have hn : (∀ j, j < fs.length → ¬ (fs.getD j default).w = w) → valE fs w = ⟨#[]⟩ := fun h => by
    rw [valE, wIdx_no h]; rfl
  have hi9 : ∀ i, i < fs.length → (fs.getD i default).w = w → (∀ j, j < i → ¬ (fs.getD j default).w = w) → valE fs w = (fs.getD i default).v := fun i h1 h2 h3 => by
    rw [valE, wIdx_i h1 h2 h3, if_pos (by omega)]; rfl
  refine fn_sound (Env.nil P) hm k_spec_l16Value (Nat.le_of_ble_eq_true rfl) rfl ?_; unfold s_spec_l16Value; simp (config := { maxSteps := 2000000 }) only [bitvec_to_nat, reduceIte, Nat.reduceEqDiff, Nat.reduceAdd, Nat.reduceLeDiff, reduceCtorEq, Nat.reduceBEq, Nat.reduceLT, Nat.reduceMod, List.forall_mem_cons, tk_map, dp_map, toNat_pred, appE, rowsOf, List.take_length, List.length_cons, List.length_nil, Nat.zero_add, srow, irow, un_s, un_i, Zone.row, Zone_eta, un_Zone, Word.row, Word_eta, Own.row, Own_eta, Part.row, Part_eta, Seen.row, Seen_eta, Book.row, Book_eta, Sector.row, Sector_eta, HCraft.row, HCraft_eta, World.row, World_eta, PKind.row, PKind_eta, PPt.row, PPt_eta, Cell.row, Cell_eta, PBase.row, PBase_eta, Chg.row, Chg_eta, Fld.row, Fld_eta, Ent.row, Ent_eta, PBook.row, PBook_eta, Flt.row, Flt_eta, un_Word, un_Own, un_Part, un_Seen, un_Book, un_Sector, un_HCraft, un_World, un_PKind, un_PPt, un_Cell, un_PBase, un_Chg, un_Fld, un_Ent, un_PBook, un_Flt, Nat.sub_zero, List.nil_append, Int.toNat_one, un_PKind, un_PPt, PBook.row, PBook_eta, Fld.row, Fld_eta, Ent.row, Ent_eta, un_Ent, un_Fld]
  refine loop_st (fun i : Nat => [(5, .int .i64 i)]) (fun _ => []) (fun i => i ≤ fs.length ∧ ∀ j, j < i → ¬ (fs.getD j default).w = w) (fun i => fs.length - i) (0) (by simp only [u_E0, u_E1, u_M0, u_M1, w_setE0, w_setE1, w_setM0, w_setM1, reduceIte, Nat.reduceEqDiff]; exact ⟨by repeat' (first | exact trivial | refine ⟨.inr rfl, ?_⟩), by repeat' (first | exact trivial | refine ⟨rfl, ?_⟩), by first | rfl | simp [closedB, refsIn, refsInL, refsInO, dom, refsInL_nr, *], by first | rfl | simp [keepB, dom]⟩) ?_ ?_
  · exact ⟨Nat.zero_le _, by intro j hj; omega⟩
  intro i hi NX hN
  unfold l_spec_l16Value_0; simp (config := { maxSteps := 2000000 }) only [bitvec_to_nat, reduceIte, Nat.reduceEqDiff, Nat.reduceAdd, Nat.reduceLeDiff, reduceCtorEq, Nat.reduceBEq, Nat.reduceLT, Nat.reduceMod, List.forall_mem_cons, tk_map, dp_map, toNat_pred, appE, rowsOf, List.take_length, List.length_cons, List.length_nil, Nat.zero_add, srow, irow, un_s, un_i, Zone.row, Zone_eta, un_Zone, Word.row, Word_eta, Own.row, Own_eta, Part.row, Part_eta, Seen.row, Seen_eta, Book.row, Book_eta, Sector.row, Sector_eta, HCraft.row, HCraft_eta, World.row, World_eta, PKind.row, PKind_eta, PPt.row, PPt_eta, Cell.row, Cell_eta, PBase.row, PBase_eta, Chg.row, Chg_eta, Fld.row, Fld_eta, Ent.row, Ent_eta, PBook.row, PBook_eta, Flt.row, Flt_eta, un_Word, un_Own, un_Part, un_Seen, un_Book, un_Sector, un_HCraft, un_World, un_PKind, un_PPt, un_Cell, un_PBase, un_Chg, un_Fld, un_Ent, un_PBook, un_Flt, Nat.sub_zero, List.nil_append, Int.toNat_one, un_PKind, un_PPt, PBook.row, PBook_eta, Fld.row, Fld_eta, Ent.row, Ent_eta, un_Ent, un_Fld]
  
  repeat' (first | with_reducible apply And.intro | with_reducible intro _)
  all_goals first
    | omega
    | (refine hN (i + 1) _ (by simp only [u_E0, u_E1, u_M0, u_M1, w_setE0, w_setE1, w_setM0, w_setM1, reduceIte, Nat.reduceEqDiff]; exact ⟨by repeat' (first | exact trivial | refine ⟨.inr rfl, ?_⟩), by repeat' (first | exact trivial | refine ⟨rfl, ?_⟩), by first | rfl | simp [closedB, refsIn, refsInL, refsInO, dom, refsInL_nr, *], by first | rfl | simp [keepB, dom]⟩) ?_ ?_
       · exact ⟨by omega, all_snoc hi.2 (by assumption)⟩
       · omega)
    | (rw [hi9 i (by omega) (by assumption) hi.2])
    | (rw [hn fun j hj => hi.2 j (by omega)])
    | trace_state
def t_l16Value : List AV → Option (Prop × AV)
  | [.agg [.str nm, .sl t 3 fx], .int .i64 w] => some ((fx.map unFld).map Fld.row = fx ∧ (fx.map unFld).length ≤ 1048576, .str (valE (fx.map unFld) w))
  | _ => none
theorem h_l16Value : ∀ args p v, t_l16Value args = some (p, v) → p → Contract P 99 args [] v [] ∧ noref v = true ∧ No99 v := by
  intro args p v h1 h2
  unfold t_l16Value at h1
  split at h1
  · rename_i nm t fx w
    cases h1
    have := c_l16Value nm t (fx.map unFld) w h2.2
    simp only [h2.1] at this
    exact ⟨this, rfl, trivial⟩
  · cases h1
end
end Go.Ve

namespace Go.Ve
open Go.Proofs
set_option maxRecDepth 100000
/-- impl.PlanBook).stands: function 69 -/
def sO_impl_PlanBook_stands : SFun := { n := 97, res := [.cN 4 8, .t 5], body := (.seq (.rg [⟨some 2, .box 102 (.v 0), none, [0]⟩, ⟨some 3, .box 103 (.v 1), none, [1]⟩, ⟨some 4, .alloc 104 [.str ⟨#[]⟩, .str ⟨#[]⟩, .int .i64 0, .int .i64 0, .int .i64 0, .int .i64 0, .int .i64 0, .sl 98 1 []], none, []⟩, ⟨some 5, .mv (.c (.bool false)), none, [5]⟩] [2, 3, 4]) (.seq (.rg [⟨some 21, .clos 100 [.v 2, .v 3], none, []⟩, ⟨some 6, .mv (.v 21), none, [21]⟩] [2, 3, 4, 6]) (.seq (.rg [⟨some 23, .mv (.v 6), none, []⟩, ⟨some 24, .callV (.v 23) [.c (.int .i64 1)], none, [23]⟩, ⟨some 22, .mv (.v 24), none, [24]⟩, ⟨some 25, .ext 0 (.v 22), none, []⟩, ⟨some 26, .ext 1 (.v 22), none, [22]⟩, ⟨some 7, .mv (.v 25), none, [25]⟩, ⟨some 8, .mv (.v 26), none, [26]⟩] [2, 3, 4, 6, 7, 8]) (.seq (.rg [⟨some 28, .mv (.v 6), none, []⟩, ⟨some 29, .callV (.v 28) [.c (.int .i64 2)], none, [28]⟩, ⟨some 27, .mv (.v 29), none, [29]⟩, ⟨some 30, .ext 0 (.v 27), none, []⟩, ⟨some 31, .ext 1 (.v 27), none, [27]⟩, ⟨some 9, .mv (.v 30), none, [30]⟩, ⟨some 10, .mv (.v 31), none, [31]⟩] [2, 3, 4, 6, 7, 8, 9, 10]) (.seq (.rg [⟨some 33, .mv (.v 6), none, []⟩, ⟨some 34, .callV (.v 33) [.c (.int .i64 3)], none, [33]⟩, ⟨some 32, .mv (.v 34), none, [34]⟩, ⟨some 35, .ext 0 (.v 32), none, []⟩, ⟨some 36, .ext 1 (.v 32), none, [32]⟩, ⟨some 11, .mv (.v 35), none, [35]⟩, ⟨some 12, .mv (.v 36), none, [36]⟩] [2, 3, 4, 6, 7, 8, 9, 10, 11, 12]) (.seq (.rg [⟨some 38, .mv (.v 6), none, []⟩, ⟨some 39, .callV (.v 38) [.c (.int .i64 4)], none, [38]⟩, ⟨some 37, .mv (.v 39), none, [39]⟩, ⟨some 40, .ext 0 (.v 37), none, []⟩, ⟨some 41, .ext 1 (.v 37), none, [37]⟩, ⟨some 13, .mv (.v 40), none, [40]⟩, ⟨some 14, .mv (.v 41), none, [41]⟩] [2, 3, 4, 6, 7, 8, 9, 10, 11, 12, 13, 14]) (.seq (.rg [⟨some 43, .mv (.v 6), none, [6]⟩, ⟨some 44, .callV (.v 43) [.c (.int .i64 5)], none, [43]⟩, ⟨some 42, .mv (.v 44), none, [44]⟩, ⟨some 45, .ext 0 (.v 42), none, []⟩, ⟨some 46, .ext 1 (.v 42), none, [42]⟩, ⟨some 15, .mv (.v 45), none, [45]⟩, ⟨some 16, .mv (.v 46), none, [16, 46]⟩] [2, 3, 4, 7, 8, 9, 10, 11, 12, 13, 14, 15]) (.seq (.seq (.rg [⟨some 47, .mv (.v 8), none, [8]⟩, ⟨some 48, .not (.v 47), none, [47]⟩, ⟨some 49, .mv (.v 48), none, [48]⟩, ⟨some 50, .mv (.v 10), some (49, false), [10]⟩, ⟨some 51, .not (.v 50), some (49, false), [50]⟩, ⟨some 52, .pick (.v 49) (.c (.bool true)) (.v 51), none, [49, 51]⟩, ⟨some 53, .mv (.v 52), none, [52]⟩, ⟨some 54, .mv (.v 12), some (53, false), [12]⟩, ⟨some 55, .not (.v 54), some (53, false), [54]⟩, ⟨some 56, .pick (.v 53) (.c (.bool true)) (.v 55), none, [53, 55]⟩, ⟨some 57, .mv (.v 56), none, [56]⟩, ⟨some 58, .mv (.v 14), some (57, false), [14]⟩, ⟨some 59, .not (.v 58), some (57, false), [58]⟩, ⟨some 60, .pick (.v 57) (.c (.bool true)) (.v 59), none, [57, 59]⟩, ⟨some 61, .mv (.v 60), none, [60]⟩, ⟨some 62, .mv (.v 15), some (61, false), [15]⟩, ⟨some 63, .bin .eql (.v 62) (.c (.str ⟨#[99, 108, 111, 115, 101, 100]⟩)), some (61, false), [62]⟩, ⟨some 64, .pick (.v 61) (.c (.bool true)) (.v 63), none, [61, 63]⟩] [2, 3, 4, 7, 9, 11, 13, 64]) (.cond (.v 64) (.seq (.rg [⟨some 65, .build [.str ⟨#[]⟩, .str ⟨#[]⟩, .int .i64 0, .int .i64 0, .int .i64 0, .int .i64 0, .int .i64 0, .sl 98 1 []] [], none, []⟩, ⟨none, .store 8 (.v 4) (.v 65), none, [65]⟩, ⟨some 5, .mv (.c (.bool false)), none, []⟩] [4, 5]) .ret) .skip)) (.seq (.rg [⟨some 67, .mv (.v 9), none, [9]⟩, ⟨some 68, .call 83 [.v 67, .c (.str ⟨#[32]⟩)], none, [67]⟩, ⟨some 69, .call 85 [.v 68, .c (.int .i64 7)], none, [68]⟩, ⟨some 66, .mv (.v 69), none, [69]⟩, ⟨some 70, .ext 0 (.v 66), none, []⟩, ⟨some 71, .ext 1 (.v 66), none, [66]⟩, ⟨some 17, .mv (.v 70), none, [70]⟩, ⟨some 18, .mv (.v 71), none, [18, 71]⟩] [2, 3, 4, 7, 11, 13, 17]) (.seq (.rg [⟨some 73, .mv (.v 11), none, [11]⟩, ⟨some 74, .call 86 [.v 73, .c (.int .i64 7)], none, [73]⟩, ⟨some 72, .mv (.v 74), none, [74]⟩, ⟨some 75, .ext 0 (.v 72), none, []⟩, ⟨some 76, .ext 1 (.v 72), none, [72]⟩, ⟨some 19, .mv (.v 75), none, [75]⟩, ⟨some 20, .mv (.v 76), none, [20, 76]⟩] [2, 3, 4, 7, 13, 17, 19]) (.seq (.rgd [⟨some 77, .load1 (.v 3), none, []⟩, ⟨some 78, .faddr 0 (.v 2), none, []⟩, ⟨some 79, .faddr 0 (.v 78), none, []⟩, ⟨some 80, .load1 (.v 79), none, []⟩, ⟨some 81, .faddr 0 (.v 2), none, []⟩, ⟨some 82, .loadN 2 (.v 81), none, []⟩, ⟨some 83, .mv (.v 7), none, []⟩, ⟨some 84, .call 84 [.v 82, .v 83], none, []⟩, ⟨some 85, .iaddr 3 (.v 80) (.v 84), none, []⟩, ⟨some 86, .loadN 3 (.v 85), none, []⟩, ⟨some 87, .mv (.v 17), none, []⟩, ⟨some 88, .iaddr 1 (.v 87) (.c (.int .i64 0)), none, []⟩, ⟨some 89, .load1 (.v 88), none, []⟩, ⟨some 90, .mv (.v 17), none, []⟩, ⟨some 91, .iaddr 1 (.v 90) (.c (.int .i64 1)), none, []⟩, ⟨some 92, .load1 (.v 91), none, []⟩, ⟨some 93, .mv (.v 19), none, []⟩, ⟨some 94, .mv (.v 13), none, []⟩, ⟨some 95, .call 83 [.v 94, .c (.str ⟨#[32]⟩)], none, []⟩, ⟨some 96, .build [.str ⟨#[]⟩, .str ⟨#[]⟩, .int .i64 0, .int .i64 0, .int .i64 0, .int .i64 0, .int .i64 0, .sl 98 1 []] [(0, 1, .v 77), (1, 3, .v 86), (4, 1, .v 89), (5, 1, .v 92), (6, 1, .v 93), (7, 1, .v 95)], none, []⟩, ⟨none, .store 8 (.v 4) (.v 96), none, []⟩, ⟨some 5, .mv (.c (.bool true)), none, []⟩] [4, 5] [some [], some [], some [], some [], none, none, none, some [6, 5, 4, 3], some [], some [], none, some [3], some [4], none, some [6], some [7], none, none, some [17, 16, 15, 14, 9, 8, 6, 5, 3, 2], none, none, none]) .ret))))))))))) }
theorem kO_impl_PlanBook_stands : okFun Go.Proofs.Tryz.prog 69 sO_impl_PlanBook_stands = true := by kernel_rfl
end Go.Ve

namespace Go.Ve
noncomputable section
open Go.Proofs
set_option linter.unusedSimpArgs false
set_option linter.unusedVariables false
set_option maxRecDepth 100000
theorem stands_facts {b : PBook} {nm : ByteArray} (hb : b.ok) (h : hasF b nm 1 ∧ hasF b nm 2 ∧ hasF b nm 3 ∧ hasF b nm 4) : 0 ≤ kIdx b.ks (valF b nm 1) ∧ timeOk (cuts (valF b nm 2) 32) ∧ decOk (valF b nm 3) := by
  obtain ⟨h1, h2, h3, h4⟩ := h
  exact ⟨(fits1 rfl).1 (has_fits hb h1), (fits2 rfl).1 (has_fits hb h2), ((fits3 rfl).1 (has_fits hb h3)).1⟩
theorem stR_ok {b : PBook} {nm : ByteArray} (h : standsOk b nm) : stR b nm = fltOf b nm := if_pos h
theorem stR_no {b : PBook} {nm : ByteArray} (h : ¬ standsOk b nm) : stR b nm = fltZ := if_neg h
theorem number_dec {s : ByteArray} (h : decOk s) : number s = ((decV s : Nat) : Int) := if_pos h
set_option maxHeartbeats 2000000 in
theorem c_l16Stands (b : PBook) (nm : ByteArray) (hf : b.fine) (hb : b.ok) (h0 : 0 ≤ eIdx b.es nm) : Contract P 68 [.agg (b.row 0), .agg [.str nm, .sl 0 3 ((fsOf b nm).map Fld.row)]] [] (.tup [.agg ((stR b nm).row 0), .bool (decide (standsOk b nm))]) [] := by
  have hfine := hf
  obtain ⟨⟨hkl, hpl⟩, hl, hv⟩ := hf
  obtain ⟨e1, _, _⟩ := eIdx_at h0
  have hfl : (fsOf b nm).length ≤ 1048576 := (hv _ (getD_mem' e1)).1
  have hfe := fun w => valE_F (w := w) h0
  have hvs := fun w => val_small (nm := nm) (w := w) hfine
  have hvh := fun w => val_has (nm := nm) (w := w) hb
  have hv2 : True := trivial
  have hv3 : True := trivial
  have n0 : True := trivial
  have n1 : True := trivial
  have n3 : True := trivial
  have hkd : True := trivial
  have tkq : True := trivial
  have e5 : True := trivial
  simp only [PBook.row]
  refine fn_sound (((((Env.nil P).add 99 t_l16Value h_l16Value).add 42 t_l12Cut h_l12Cut).add 43 t_l11Kind h_l11Kind).add 46 t_l12Number h_l12Number) hm k_spec_l16Stands (Nat.le_of_ble_eq_true rfl) rfl ?_; unfold s_spec_l16Stands; simp (config := { maxSteps := 2000000 }) only [bitvec_to_nat, reduceIte, Nat.reduceEqDiff, Nat.reduceAdd, Nat.reduceLeDiff, reduceCtorEq, Nat.reduceBEq, Nat.reduceLT, Nat.reduceMod, List.forall_mem_cons, t_l16Value, t_l12Cut, t_l11Kind, t_l12Number, tk_map, dp_map, toNat_pred, appE, rowsOf, List.take_length, List.length_cons, List.length_nil, Nat.zero_add, srow, irow, un_s, un_i, Zone.row, Zone_eta, un_Zone, Word.row, Word_eta, Own.row, Own_eta, Part.row, Part_eta, Seen.row, Seen_eta, Book.row, Book_eta, Sector.row, Sector_eta, HCraft.row, HCraft_eta, World.row, World_eta, PKind.row, PKind_eta, PPt.row, PPt_eta, Cell.row, Cell_eta, PBase.row, PBase_eta, Chg.row, Chg_eta, Fld.row, Fld_eta, Ent.row, Ent_eta, PBook.row, PBook_eta, Flt.row, Flt_eta, un_Word, un_Own, un_Part, un_Seen, un_Book, un_Sector, un_HCraft, un_World, un_PKind, un_PPt, un_Cell, un_PBase, un_Chg, un_Fld, un_Ent, un_PBook, un_Flt, Nat.sub_zero, List.nil_append, Int.toNat_one, un_PKind, un_PPt, PBook.row, PBook_eta, Fld.row, Fld_eta, Ent.row, Ent_eta, un_Ent, un_Fld, hfe, hv2, hv3, n0, n1, n3, hkd, tkq, Flt.row, fltOf, fltZ, List.map_nil, e5, kdOf]
  refine loop_st (fun m : Nat => [(6, .int .i64 m)]) (fun _ => []) (fun m => (1 ≤ m ∧ m ≤ 5) ∧ ∀ j : Nat, 1 ≤ j → j < m → hasF b nm j) (fun m => 5 - m) 1 (by simp only [u_E0, u_E1, u_M0, u_M1, w_setE0, w_setE1, w_setM0, w_setM1, reduceIte, Nat.reduceEqDiff]; exact ⟨by repeat' (first | exact trivial | refine ⟨.inr rfl, ?_⟩), by repeat' (first | exact trivial | refine ⟨rfl, ?_⟩), by first | rfl | simp [closedB, refsIn, refsInL, refsInO, dom, refsInL_nr, *], by first | rfl | simp [keepB, dom]⟩) ⟨⟨Nat.le_refl _, by omega⟩, fun j h1 h2 => by omega⟩ ?_
  rintro m ⟨⟨hm1, hm5⟩, h1⟩ NX hN
  by_cases hlt : m ≤ 4
  · unfold l_spec_l16Stands_0; simp (config := { maxSteps := 2000000 }) only [bitvec_to_nat, reduceIte, Nat.reduceEqDiff, Nat.reduceAdd, Nat.reduceLeDiff, reduceCtorEq, Nat.reduceBEq, Nat.reduceLT, Nat.reduceMod, List.forall_mem_cons, t_l16Value, t_l12Cut, t_l11Kind, t_l12Number, tk_map, dp_map, toNat_pred, appE, rowsOf, List.take_length, List.length_cons, List.length_nil, Nat.zero_add, srow, irow, un_s, un_i, Zone.row, Zone_eta, un_Zone, Word.row, Word_eta, Own.row, Own_eta, Part.row, Part_eta, Seen.row, Seen_eta, Book.row, Book_eta, Sector.row, Sector_eta, HCraft.row, HCraft_eta, World.row, World_eta, PKind.row, PKind_eta, PPt.row, PPt_eta, Cell.row, Cell_eta, PBase.row, PBase_eta, Chg.row, Chg_eta, Fld.row, Fld_eta, Ent.row, Ent_eta, PBook.row, PBook_eta, Flt.row, Flt_eta, un_Word, un_Own, un_Part, un_Seen, un_Book, un_Sector, un_HCraft, un_World, un_PKind, un_PPt, un_Cell, un_PBase, un_Chg, un_Fld, un_Ent, un_PBook, un_Flt, Nat.sub_zero, List.nil_append, Int.toNat_one, un_PKind, un_PPt, PBook.row, PBook_eta, Fld.row, Fld_eta, Ent.row, Ent_eta, un_Ent, un_Fld, hfe, hv2, hv3, n0, n1, n3, hkd, tkq, Flt.row, fltOf, fltZ, List.map_nil, e5, kdOf]
    repeat' (first | with_reducible apply And.intro | with_reducible intro _)
    all_goals first
      | omega
      | (refine hN (m + 1) _ (by simp only [u_E0, u_E1, u_M0, u_M1, w_setE0, w_setE1, w_setM0, w_setM1, reduceIte, Nat.reduceEqDiff]; exact ⟨by repeat' (first | exact trivial | refine ⟨.inr rfl, ?_⟩), by repeat' (first | exact trivial | refine ⟨rfl, ?_⟩), by first | rfl | simp [closedB, refsIn, refsInL, refsInO, dom, refsInL_nr, *], by first | rfl | simp [keepB, dom]⟩) ⟨⟨by omega, by omega⟩, fun j h8 h9 => ?_⟩ (by omega)
         by_cases e : j = m
         · subst e; exact (hvh _).1 (by assumption)
         · exact h1 j h8 (by omega))
      | (have hno : ¬ standsOk b nm := fun h => by
           have h2 := h.2.1
           have hh : hasF b nm (m : Int) := by
             rcases (show m = 1 ∨ m = 2 ∨ m = 3 ∨ m = 4 by omega) with rfl | rfl | rfl | rfl
             · exact h2.1
             · exact h2.2.1
             · exact h2.2.2.1
             · exact h2.2.2.2
           exact absurd (by assumption) ((hvh _).2 hh)
         simp [stR_no hno, hno, Flt.row, fltZ]; done)
      | (exfalso; omega)
      | trace_state
  · have e : m = 5 := by omega
    subst e
    have hall : hasF b nm 1 ∧ hasF b nm 2 ∧ hasF b nm 3 ∧ hasF b nm 4 := ⟨h1 1 (by omega) (by omega), h1 2 (by omega) (by omega), h1 3 (by omega) (by omega), h1 4 (by omega) (by omega)⟩
    obtain ⟨k1, ht, hd⟩ := stands_facts hb hall
    have hk2 := kIdx_at k1
    have n0 := number_dec ht.2.1.1
    have n1 := number_dec ht.2.1.2
    have n3 := number_dec hd
    unfold l_spec_l16Stands_0; simp (config := { maxSteps := 2000000 }) only [bitvec_to_nat, reduceIte, Nat.reduceEqDiff, Nat.reduceAdd, Nat.reduceLeDiff, reduceCtorEq, Nat.reduceBEq, Nat.reduceLT, Nat.reduceMod, List.forall_mem_cons, t_l16Value, t_l12Cut, t_l11Kind, t_l12Number, tk_map, dp_map, toNat_pred, appE, rowsOf, List.take_length, List.length_cons, List.length_nil, Nat.zero_add, srow, irow, un_s, un_i, Zone.row, Zone_eta, un_Zone, Word.row, Word_eta, Own.row, Own_eta, Part.row, Part_eta, Seen.row, Seen_eta, Book.row, Book_eta, Sector.row, Sector_eta, HCraft.row, HCraft_eta, World.row, World_eta, PKind.row, PKind_eta, PPt.row, PPt_eta, Cell.row, Cell_eta, PBase.row, PBase_eta, Chg.row, Chg_eta, Fld.row, Fld_eta, Ent.row, Ent_eta, PBook.row, PBook_eta, Flt.row, Flt_eta, un_Word, un_Own, un_Part, un_Seen, un_Book, un_Sector, un_HCraft, un_World, un_PKind, un_PPt, un_Cell, un_PBase, un_Chg, un_Fld, un_Ent, un_PBook, un_Flt, Nat.sub_zero, List.nil_append, Int.toNat_one, un_PKind, un_PPt, PBook.row, PBook_eta, Fld.row, Fld_eta, Ent.row, Ent_eta, un_Ent, un_Fld, hfe, hv2, hv3, n0, n1, n3, hkd, tkq, Flt.row, fltOf, fltZ, List.map_nil, e5, kdOf]
    repeat' (first | with_reducible apply And.intro | with_reducible intro _)
    all_goals first
      | omega
      | exact hvs _
      | exact hk2.2.2
      | (have hno : ¬ standsOk b nm := fun h => h.2.2 (by assumption)
         simp [stR_no hno, hno, Flt.row, fltZ]; done)
      | (have hok : standsOk b nm := ⟨hb, hall, by assumption⟩
         simp [stR_ok hok, hok, Flt.row, fltOf, kdOf, -List.map_map]; done)
      | (have hl2 := ht.1; omega)
      | (exfalso; omega)
      | trace_state
theorem c_get (b : PBook) (nm : ByteArray) (w : Int) (hf : b.fine) : Contract P 100 [.int .i64 w, .ptr 3 0, .ptr 4 0] [(3, .box (b.row 0)), (4, .box [.str nm])] (.tup [.str (valF b nm w), .bool (decide (hasF b nm w))]) [(3, .box (b.row 0)), (4, .box [.str nm])] := by
  simp only [PBook.row]
  refine fn_sound ((Env.nil P).add 61 t_field h_field) hm k_impl_PlanBook_stands_1 (Nat.le_of_ble_eq_true rfl) rfl ?_; unfold s_impl_PlanBook_stands_1; simp (config := { maxSteps := 2000000 }) only [bitvec_to_nat, reduceIte, Nat.reduceEqDiff, Nat.reduceAdd, Nat.reduceLeDiff, reduceCtorEq, Nat.reduceBEq, Nat.reduceLT, Nat.reduceMod, List.forall_mem_cons, retG_ret, retQ_eq, retQ_eqN, retOk, keepB, re_tupl, orr_t, t_field, tk_map, dp_map, toNat_pred, appE, rowsOf, List.take_length, List.length_cons, List.length_nil, Nat.zero_add, srow, irow, un_s, un_i, Zone.row, Zone_eta, un_Zone, Word.row, Word_eta, Own.row, Own_eta, Part.row, Part_eta, Seen.row, Seen_eta, Book.row, Book_eta, Sector.row, Sector_eta, HCraft.row, HCraft_eta, World.row, World_eta, PKind.row, PKind_eta, PPt.row, PPt_eta, Cell.row, Cell_eta, PBase.row, PBase_eta, Chg.row, Chg_eta, Fld.row, Fld_eta, Ent.row, Ent_eta, PBook.row, PBook_eta, Flt.row, Flt_eta, un_Word, un_Own, un_Part, un_Seen, un_Book, un_Sector, un_HCraft, un_World, un_PKind, un_PPt, un_Cell, un_PBase, un_Chg, un_Fld, un_Ent, un_PBook, un_Flt, Nat.sub_zero, List.nil_append, Int.toNat_one, un_PKind, un_PPt, PBook.row, PBook_eta, Fld.row, Fld_eta, Ent.row, Ent_eta, un_Ent, un_Fld]
  repeat' (first | with_reducible apply And.intro | with_reducible intro _)
  all_goals first
    | omega
    | exact hf
    | rfl
    | trace_state
def r_getF : RTab
  | [.int .i64 w, .ptr ob off, .ptr oq of2], M => match M ob, M oq with
    | some (.box [.sl 0 3 kx, .sl 0 3 px, .sl 0 2 ex]), some (.box [.str nm]) => some ⟨((off = 0 ∧ of2 = 0) ∧ (ob ≠ oq ∧ ob ≠ 4)) ∧ ((kx.map unPKind).map PKind.row = kx ∧ (px.map unPPt).map PPt.row = px ∧ (ex.map unEnt).map (Ent.row 0) = ex) ∧ PBook.fine ⟨kx.map unPKind, px.map unPPt, ex.map unEnt⟩, fun _ : Unit => True, fun _ => .tup [.str (valF ⟨kx.map unPKind, px.map unPPt, ex.map unEnt⟩ nm w), .bool (decide (hasF ⟨kx.map unPKind, px.map unPPt, ex.map unEnt⟩ nm w))], fun _ => [(ob, .box [.sl 0 3 kx, .sl 0 3 px, .sl 0 2 ex]), (oq, .box [.str nm])]⟩
    | _, _ => none
  | _, _ => none
theorem h_getF : okTab P 100 r_getF := by
  intro args M o h hp
  unfold r_getF at h
  split at h
  · rename_i w ob off oq of2
    split at h
    · rename_i kx px ex nm hM hM2
      cases h
      obtain ⟨⟨⟨rfl, rfl⟩, hoq, ho⟩, ⟨e1, e2, e3⟩, HP⟩ := hp
      have hC := c_get ⟨kx.map unPKind, px.map unPPt, ex.map unEnt⟩ nm w HP
      simp only [PBook.row, e1, e2, e3] at hC
      exact ⟨(), trivial, callR_box2 _ _ hoq ho hC (by simp [norefL, noref]) (by simp [norefL, noref]) rfl (by assumption) (by assumption) (by simp [renL, ren, swp, hoq, ho, Ne.symm ho, Ne.symm hoq]) (by simp [refsInL, refsIn, noref])⟩
    · cases h
  · cases h
set_option maxHeartbeats 4000000 in
theorem c_iStandsY (b : PBook) (nm : ByteArray) (hf : b.fine) (hb : b.ok) (hok : standsOk b nm) : Contract P 69 [.agg (b.row 0), .str nm] [] (.tup [.agg [.str (fltOf b nm).nm, .str (fltOf b nm).kn, .int .i64 (fltOf b nm).kq, .int .i64 (fltOf b nm).ksl, .int .i64 (fltOf b nm).fr, .int .i64 (fltOf b nm).by_, .int .i64 (fltOf b nm).lv, .own 131 0 0 (fltOf b nm).rt.length], .bool true]) [(131, .arr 9 0 1 ((fltOf b nm).rt.map srow))] := by
  have hfine := hf
  obtain ⟨⟨hkl, hpl⟩, hl, hv⟩ := hf
  have hvs := fun w => val_small (nm := nm) (w := w) hfine
  have hfe : True := trivial
  have hv2 : True := trivial
  have hv3 : True := trivial
  have n0 : True := trivial
  have n1 : True := trivial
  have n3 : True := trivial
  have hkd : True := trivial
  have tkq : True := trivial
  have e5 : True := trivial
  have hall := hok.2.1
  obtain ⟨k1, ht, hd⟩ := stands_facts hb hall
  have hk2 := kIdx_at k1
  have q1 := eq_true hall.1
  have q2 := eq_true hall.2.1
  have q3 := eq_true hall.2.2.1
  have q4 := eq_true hall.2.2.2
  have q5 : (valF b nm 5 = ⟨#[99, 108, 111, 115, 101, 100]⟩) = False := eq_false hok.2.2
  have hl2 := ht.1
  have had : allDec (cuts (valF b nm 2) 32) := fun i hi => by
    rcases (show i = 0 ∨ i = 1 by omega) with rfl | rfl
    · exact ht.2.1.1
    · exact ht.2.1.2
  have dl := decsL_len had
  have d0 := decsL_get had (i := 0) (by omega)
  have d1 := decsL_get had (i := 1) (by omega)
  simp only [PBook.row]
  refine fn_sound (((((Env.nil P).addR 100 r_getF h_getF).add 85 t_decimals h_decimals).add 86 t_decimal h_decimal).add 84 t_iKind h_iKind) hm kO_impl_PlanBook_stands (Nat.le_of_ble_eq_true rfl) rfl ?_; unfold sO_impl_PlanBook_stands; simp (config := { maxSteps := 2000000 }) only [bitvec_to_nat, reduceIte, Nat.reduceEqDiff, Nat.reduceAdd, Nat.reduceLeDiff, reduceCtorEq, Nat.reduceBEq, Nat.reduceLT, Nat.reduceMod, List.forall_mem_cons, retG_ret, retQ_eq, retQ_eqN, retOk, keepB, re_tupl, orr_t, t_decimals, t_decimal, t_iKind, r_getF, tk_map, dp_map, toNat_pred, appE, rowsOf, List.take_length, List.length_cons, List.length_nil, Nat.zero_add, srow, irow, un_s, un_i, Zone.row, Zone_eta, un_Zone, Word.row, Word_eta, Own.row, Own_eta, Part.row, Part_eta, Seen.row, Seen_eta, Book.row, Book_eta, Sector.row, Sector_eta, HCraft.row, HCraft_eta, World.row, World_eta, PKind.row, PKind_eta, PPt.row, PPt_eta, Cell.row, Cell_eta, PBase.row, PBase_eta, Chg.row, Chg_eta, Fld.row, Fld_eta, Ent.row, Ent_eta, PBook.row, PBook_eta, Flt.row, Flt_eta, un_Word, un_Own, un_Part, un_Seen, un_Book, un_Sector, un_HCraft, un_World, un_PKind, un_PPt, un_Cell, un_PBase, un_Chg, un_Fld, un_Ent, un_PBook, un_Flt, Nat.sub_zero, List.nil_append, Int.toNat_one, un_PKind, un_PPt, PBook.row, PBook_eta, Fld.row, Fld_eta, Ent.row, Ent_eta, un_Ent, un_Fld, hfe, hv2, hv3, n0, n1, n3, hkd, tkq, Flt.row, fltOf, fltZ, List.map_nil, e5, kdOf, w_callF, List.append_nil, q1, q2, q3, q4, q5]
  refine ⟨by kernel_rfl, hfine, fun _ => ⟨by kernel_rfl, hfine, fun _ => ⟨by kernel_rfl, hfine, fun _ => ⟨by kernel_rfl, hfine, fun _ => ⟨by kernel_rfl, hfine, fun _ => ⟨_, _, .inr (.inl ⟨rfl, _, rfl, c_Split _ (hvs 2), rfl, by simp only [No99]; exact ⟨by omega, no99_str _⟩⟩), ?_⟩⟩⟩⟩⟩⟩
  simp (config := { maxSteps := 2000000 }) only [bitvec_to_nat, reduceIte, Nat.reduceEqDiff, Nat.reduceAdd, Nat.reduceLeDiff, reduceCtorEq, Nat.reduceBEq, Nat.reduceLT, Nat.reduceMod, List.forall_mem_cons, retG_ret, retQ_eq, retQ_eqN, retOk, keepB, re_tupl, orr_t, t_decimals, t_decimal, t_iKind, r_getF, tk_map, dp_map, toNat_pred, appE, rowsOf, List.take_length, List.length_cons, List.length_nil, Nat.zero_add, srow, irow, un_s, un_i, Zone.row, Zone_eta, un_Zone, Word.row, Word_eta, Own.row, Own_eta, Part.row, Part_eta, Seen.row, Seen_eta, Book.row, Book_eta, Sector.row, Sector_eta, HCraft.row, HCraft_eta, World.row, World_eta, PKind.row, PKind_eta, PPt.row, PPt_eta, Cell.row, Cell_eta, PBase.row, PBase_eta, Chg.row, Chg_eta, Fld.row, Fld_eta, Ent.row, Ent_eta, PBook.row, PBook_eta, Flt.row, Flt_eta, un_Word, un_Own, un_Part, un_Seen, un_Book, un_Sector, un_HCraft, un_World, un_PKind, un_PPt, un_Cell, un_PBase, un_Chg, un_Fld, un_Ent, un_PBook, un_Flt, Nat.sub_zero, List.nil_append, Int.toNat_one, un_PKind, un_PPt, PBook.row, PBook_eta, Fld.row, Fld_eta, Ent.row, Ent_eta, un_Ent, un_Fld, hfe, hv2, hv3, n0, n1, n3, hkd, tkq, Flt.row, fltOf, fltZ, List.map_nil, e5, kdOf, w_callF, List.append_nil, q1, q2, q3, q4, q5]
  refine ⟨⟨by have := cuts_le (s := valF b nm 2) (c := 32); have := hvs 2; omega, cuts_small' _ _ (hvs 2)⟩, hvs 3, hkl, k1, hk2.2.2, by omega, by omega, by omega, by omega, _, _, .inr (.inr (.inl ⟨_, rfl, c_SplitO _ (hvs 4), by simp [getM], by simp [refsIn, refsInL, dom], rfl, trivial, by simp [No99O, no99_str]⟩)), ?_⟩
  simp (config := { maxSteps := 2000000 }) only [bitvec_to_nat, reduceIte, Nat.reduceEqDiff, Nat.reduceAdd, Nat.reduceLeDiff, reduceCtorEq, Nat.reduceBEq, Nat.reduceLT, Nat.reduceMod, List.forall_mem_cons, retG_ret, retQ_eq, retQ_eqN, retOk, keepB, re_tupl, orr_t, t_decimals, t_decimal, t_iKind, r_getF, tk_map, dp_map, toNat_pred, appE, rowsOf, List.take_length, List.length_cons, List.length_nil, Nat.zero_add, srow, irow, un_s, un_i, Zone.row, Zone_eta, un_Zone, Word.row, Word_eta, Own.row, Own_eta, Part.row, Part_eta, Seen.row, Seen_eta, Book.row, Book_eta, Sector.row, Sector_eta, HCraft.row, HCraft_eta, World.row, World_eta, PKind.row, PKind_eta, PPt.row, PPt_eta, Cell.row, Cell_eta, PBase.row, PBase_eta, Chg.row, Chg_eta, Fld.row, Fld_eta, Ent.row, Ent_eta, PBook.row, PBook_eta, Flt.row, Flt_eta, un_Word, un_Own, un_Part, un_Seen, un_Book, un_Sector, un_HCraft, un_World, un_PKind, un_PPt, un_Cell, un_PBase, un_Chg, un_Fld, un_Ent, un_PBook, un_Flt, Nat.sub_zero, List.nil_append, Int.toNat_one, un_PKind, un_PPt, PBook.row, PBook_eta, Fld.row, Fld_eta, Ent.row, Ent_eta, un_Ent, un_Fld, hfe, hv2, hv3, n0, n1, n3, hkd, tkq, Flt.row, fltOf, fltZ, List.map_nil, e5, kdOf, w_callF, List.append_nil, q1, q2, q3, q4, q5]
  have hd3 : (if decOk (valF b nm 3) then ((decV (valF b nm 3) : Nat) : Int) else 0) = ((decV (valF b nm 3) : Nat) : Int) := if_pos hd
  have e0 : (decsL (cuts (valF b nm 2) 32)).getD 0 default = _ := d0
  have e1 : (decsL (cuts (valF b nm 2) 32)).getD 1 default = _ := d1
  rw [hd3, e0, e1]
  exact ⟨rfl, by simp [refsIn], rfl⟩
set_option maxHeartbeats 4000000 in
theorem c_iStandsN (b : PBook) (nm : ByteArray) (hf : b.fine) (hb : b.ok) (hok : ¬ standsOk b nm) : Contract P 69 [.agg (b.row 0), .str nm] [] (.tup [.agg (fltZ.row 98), .bool false]) [] := by
  have hfine := hf
  obtain ⟨⟨hkl, hpl⟩, hl, hv⟩ := hf
  have hvs := fun w => val_small (nm := nm) (w := w) hfine
  have hfe : True := trivial
  have hv2 : True := trivial
  have hv3 : True := trivial
  have n0 : True := trivial
  have n1 : True := trivial
  have n3 : True := trivial
  have hkd : True := trivial
  have tkq : True := trivial
  have e5 : True := trivial
  have q1 : True := trivial
  have q2 : True := trivial
  have q3 : True := trivial
  have q4 : True := trivial
  have q5 : True := trivial
  simp only [PBook.row]
  refine fn_sound (((((Env.nil P).addR 100 r_getF h_getF).add 85 t_decimals h_decimals).add 86 t_decimal h_decimal).add 84 t_iKind h_iKind) hm kO_impl_PlanBook_stands (Nat.le_of_ble_eq_true rfl) rfl ?_; unfold sO_impl_PlanBook_stands; simp (config := { maxSteps := 2000000 }) only [bitvec_to_nat, reduceIte, Nat.reduceEqDiff, Nat.reduceAdd, Nat.reduceLeDiff, reduceCtorEq, Nat.reduceBEq, Nat.reduceLT, Nat.reduceMod, List.forall_mem_cons, retG_ret, retQ_eq, retQ_eqN, retOk, keepB, re_tupl, orr_t, t_decimals, t_decimal, t_iKind, r_getF, tk_map, dp_map, toNat_pred, appE, rowsOf, List.take_length, List.length_cons, List.length_nil, Nat.zero_add, srow, irow, un_s, un_i, Zone.row, Zone_eta, un_Zone, Word.row, Word_eta, Own.row, Own_eta, Part.row, Part_eta, Seen.row, Seen_eta, Book.row, Book_eta, Sector.row, Sector_eta, HCraft.row, HCraft_eta, World.row, World_eta, PKind.row, PKind_eta, PPt.row, PPt_eta, Cell.row, Cell_eta, PBase.row, PBase_eta, Chg.row, Chg_eta, Fld.row, Fld_eta, Ent.row, Ent_eta, PBook.row, PBook_eta, Flt.row, Flt_eta, un_Word, un_Own, un_Part, un_Seen, un_Book, un_Sector, un_HCraft, un_World, un_PKind, un_PPt, un_Cell, un_PBase, un_Chg, un_Fld, un_Ent, un_PBook, un_Flt, Nat.sub_zero, List.nil_append, Int.toNat_one, un_PKind, un_PPt, PBook.row, PBook_eta, Fld.row, Fld_eta, Ent.row, Ent_eta, un_Ent, un_Fld, hfe, hv2, hv3, n0, n1, n3, hkd, tkq, Flt.row, fltOf, fltZ, List.map_nil, e5, kdOf, w_callF, List.append_nil, q1, q2, q3, q4, q5]
  repeat' (first | with_reducible apply And.intro | with_reducible intro _)
  all_goals first
    | omega
    | kernel_rfl
    | exact hfine
    | exact absurd ⟨hb, ⟨by assumption, by assumption, by assumption, by assumption⟩, by assumption⟩ hok
    | trace_state
end
end Go.Ve

namespace Go.Ve
noncomputable section
open Go.Proofs
set_option linter.unusedSimpArgs false
set_option linter.unusedVariables false
set_option maxRecDepth 100000
def isNew (a : PBook) (nm : ByteArray) (f : Fld) : Prop := ¬ (hasF a nm f.w ∧ ¬ f.later (fOf a nm f.w))
noncomputable instance (a : PBook) (nm : ByteArray) (f : Fld) : Decidable (isNew a nm f) := Classical.propDecidable _
def newsOk (a b : PBook) : Prop := a.ok ∧ b.ok
noncomputable instance (a b : PBook) : Decidable (newsOk a b) := Classical.propDecidable _
end
end Go.Ve

namespace Go.Ve
noncomputable section
open Go.Proofs
set_option linter.unusedSimpArgs false
set_option linter.unusedVariables false
set_option maxRecDepth 100000
open Go.ChangeShapes Go.WideShapes
def Flt.own (x : Flt) (o : Nat) : List AV := [.str x.nm, .str x.kn, .int .i64 x.kq, .int .i64 x.ksl, .int .i64 x.fr, .int .i64 x.by_, .int .i64 x.lv, .own o 0 0 x.rt.length]
theorem c_eqFlt (t t' : Nat) (c d : Flt) (hl : c.rt.length ≤ 4611686018427387904) : Contract P 31 [.agg (c.row t), .agg (d.row t')] [] (.bool (decide (c = d))) [] := by
  obtain ⟨a1, a2, a3, a4, a5, a6, a7, a8⟩ := c
  obtain ⟨b1, b2, b3, b4, b5, b6, b7, b8⟩ := d
  simp only [Flt.row]
  refine fn_sound (((Env.nil P).add 70 t_eqPKind h_eqPKind).add 71 t_eqStringS h_eqStringS) hm k_laws_eqPlanFlight (Nat.le_of_ble_eq_true rfl) rfl ?_; unfold s_laws_eqPlanFlight; simp (config := { maxSteps := 2000000 }) only [bitvec_to_nat, reduceIte, Nat.reduceEqDiff, Nat.reduceAdd, Nat.reduceLeDiff, reduceCtorEq, Nat.reduceBEq, Nat.reduceLT, Nat.reduceMod, List.forall_mem_cons, t_eqPKind, t_eqStringS, tk_map, dp_map, toNat_pred, appE, rowsOf, List.take_length, List.length_cons, List.length_nil, Nat.zero_add, srow, irow, un_s, un_i, Zone.row, Zone_eta, un_Zone, Word.row, Word_eta, Own.row, Own_eta, Part.row, Part_eta, Seen.row, Seen_eta, Book.row, Book_eta, Sector.row, Sector_eta, HCraft.row, HCraft_eta, World.row, World_eta, PKind.row, PKind_eta, PPt.row, PPt_eta, Cell.row, Cell_eta, PBase.row, PBase_eta, Chg.row, Chg_eta, Fld.row, Fld_eta, Ent.row, Ent_eta, PBook.row, PBook_eta, Flt.row, Flt_eta, un_Word, un_Own, un_Part, un_Seen, un_Book, un_Sector, un_HCraft, un_World, un_PKind, un_PPt, un_Cell, un_PBase, un_Chg, un_Fld, un_Ent, un_PBook, un_Flt, Flt.row]
  simp only [Flt.mk.injEq]
  repeat' (first | with_reducible apply And.intro | with_reducible intro _)
  all_goals first | omega | (simp_all; done) | grind | trace_state
theorem flt_un (a b : ByteArray) (c d e f g : Int) (t : Nat) (rx : List (List AV)) (h : (rx.map unS).map srow = rx) : Flt.row t ⟨a, b, c, d, e, f, g, rx.map unS⟩ = [.str a, .str b, .int .i64 c, .int .i64 d, .int .i64 e, .int .i64 f, .int .i64 g, .sl t 1 rx] := by simp only [Flt.row, h]
def t_eqFlt : List AV → Option (Prop × AV)
  | [.agg [.str p1, .str p2, .int .i64 p3, .int .i64 p4, .int .i64 p5, .int .i64 p6, .int .i64 p7, .sl t 1 px], .agg [.str q1, .str q2, .int .i64 q3, .int .i64 q4, .int .i64 q5, .int .i64 q6, .int .i64 q7, .sl u 1 qx]] => some (((px.map unS).map srow = px ∧ (qx.map unS).map srow = qx) ∧ (px.map unS).length ≤ 4611686018427387904, .bool (decide ((⟨p1, p2, p3, p4, p5, p6, p7, px.map unS⟩ : Flt) = ⟨q1, q2, q3, q4, q5, q6, q7, qx.map unS⟩)))
  | _ => none
theorem h_eqFlt : ∀ args p v, t_eqFlt args = some (p, v) → p → Contract P 31 args [] v [] ∧ noref v = true ∧ No99 v := by
  intro args p v h1 h2
  unfold t_eqFlt at h1
  split at h1
  · rename_i p1 p2 p3 p4 p5 p6 p7 t px q1 q2 q3 q4 q5 q6 q7 u qx
    cases h1
    obtain ⟨⟨e1, e2⟩, h3⟩ := h2
    have := c_eqFlt t u ⟨p1, p2, p3, p4, p5, p6, p7, px.map unS⟩ ⟨q1, q2, q3, q4, q5, q6, q7, qx.map unS⟩ h3
    rw [flt_un _ _ _ _ _ _ _ _ _ e1, flt_un _ _ _ _ _ _ _ _ _ e2] at this
    exact ⟨this, rfl, trivial⟩
  · cases h1
set_option maxHeartbeats 1000000 in
theorem c_heldByteArrayS (t : Nat) (k : Int) (n : Nat) (ha : n ≤ 1048577) (hk : 0 ≤ k ∧ k ≤ 1125899906842624) : Contract P 73 [.sl t 1 ((ms_ByteArray k n).map srow), .int .i64 k] [] (.int .i64 (k + n)) [] := by
  have hz : ((0 : Nat) : Int) = 0 := rfl
  refine fn_sound ((Env.nil P).add 66 t_markText h_markText) hm k_laws_heldStringS (Nat.le_of_ble_eq_true rfl) rfl ?_; unfold s_laws_heldStringS; simp (config := { maxSteps := 2000000 }) only [bitvec_to_nat, reduceIte, Nat.reduceEqDiff, Nat.reduceAdd, Nat.reduceLeDiff, reduceCtorEq, Nat.reduceBEq, Nat.reduceLT, Nat.reduceMod, List.forall_mem_cons, t_markText, irow, srow, Int.toNat_natCast, List.length_map, Nat.sub_zero, Nat.zero_add, hz, eq_self, ms_ByteArray_len]
  refine loop_st (fun i : Nat => [(1, .int .i64 (k + i)), (5, .int .i64 i)]) (fun _ => []) (fun i => i ≤ n) (fun i => n - i) 0 ?_ (Nat.zero_le _) ?_
  · have e0 : k + ((0 : Nat) : Int) = k := by omega
    simp only [e0]
    simp only [u_E0, u_E1, u_M0, u_M1, w_setE0, w_setE1, w_setM0, w_setM1, reduceIte, Nat.reduceEqDiff]; exact ⟨by repeat' (first | exact trivial | refine ⟨.inr rfl, ?_⟩), by repeat' (first | exact trivial | refine ⟨rfl, ?_⟩), by first | rfl | simp [closedB, refsIn, refsInL, refsInO, dom, refsInL_nr, *], by first | rfl | simp [keepB, dom]⟩
  intro i hi NX hN
  have e5 : k + ((i + 1 : Nat) : Int) = k + (i : Int) + 1 := by omega
  by_cases h : i < n
  · have hg := ms_ByteArray_get (k := k) h
    have h' : (i : Int) < n := by omega
    unfold l_laws_heldStringS_0; simp (config := { maxSteps := 2000000 }) only [bitvec_to_nat, reduceIte, Nat.reduceEqDiff, Nat.reduceAdd, Nat.reduceLeDiff, reduceCtorEq, Nat.reduceBEq, Nat.reduceLT, Nat.reduceMod, List.forall_mem_cons, t_markText, irow, srow, Int.toNat_natCast, List.length_map, Nat.sub_zero, Nat.zero_add, hz, eq_self, ms_ByteArray_len, h', hg, mk_ByteArray, not_true_eq_false, ne_eq, bne_self_eq_false]
    repeat' (first | with_reducible apply And.intro | with_reducible intro _)
    all_goals first
      | omega
      | rfl
      | (rename_i h; exact absurd rfl h)
      | (refine hN (i + 1) _ (by simp only [e5]; simp only [u_E0, u_E1, u_M0, u_M1, w_setE0, w_setE1, w_setM0, w_setM1, reduceIte, Nat.reduceEqDiff]; exact ⟨by repeat' (first | exact trivial | refine ⟨.inr rfl, ?_⟩), by repeat' (first | exact trivial | refine ⟨rfl, ?_⟩), by first | rfl | simp [closedB, refsIn, refsInL, refsInO, dom, refsInL_nr, *], by first | rfl | simp [keepB, dom]⟩) ?_ ?_ <;> omega)
  · have h' : ¬ (i : Int) < n := by omega
    unfold l_laws_heldStringS_0; simp (config := { maxSteps := 2000000 }) only [bitvec_to_nat, reduceIte, Nat.reduceEqDiff, Nat.reduceAdd, Nat.reduceLeDiff, reduceCtorEq, Nat.reduceBEq, Nat.reduceLT, Nat.reduceMod, List.forall_mem_cons, t_markText, irow, srow, Int.toNat_natCast, List.length_map, Nat.sub_zero, Nat.zero_add, hz, eq_self, ms_ByteArray_len, h']
    omega
def t_heldByteArrayS : List AV → Option (Prop × AV)
  | [.sl _ 1 zx, .int .i64 k] => some (zx = (ms_ByteArray k zx.length).map srow ∧ zx.length ≤ 1048577 ∧ (0 ≤ k ∧ k ≤ 1125899906842624), .int .i64 (k + (zx.length : Nat)))
  | _ => none
theorem h_heldByteArrayS : ∀ args p v, t_heldByteArrayS args = some (p, v) → p → Contract P 73 args [] v [] ∧ noref v = true ∧ No99 v := by
  intro args p v h1 h2
  unfold t_heldByteArrayS at h1
  split at h1
  · rename_i t zx k
    cases h1
    obtain ⟨e1, h3, h4⟩ := h2
    have := c_heldByteArrayS t k zx.length h3 h4
    rw [← e1] at this
    exact ⟨this, rfl, trivial⟩
  · cases h1
end
end Go.Ve

namespace Go.Ve
noncomputable section
open Go.Proofs
set_option linter.unusedSimpArgs false
set_option linter.unusedVariables false
set_option maxRecDepth 100000
open Go.ChangeShapes Go.WideShapes
theorem cntB_le {b : PBook} (hs : b.small) : cntB b ≤ 20000000000000 := by
  unfold PBook.small at hs
  have hct := ct_Ent_le hs.2.2.2 (Nat.le_refl _)
  unfold cntB
  omega
theorem eqBookC (s : PBook) (hs : s.small) : Contract P 22 [.agg (s.row 0), .agg (s.row 0)] [] (.bool true) [] := by
  have h := c_eqPBook s s (by have := hs; unfold PBook.small at this; exact ⟨by omega, by omega, by omega, fun x hx => by have := this.2.2.2 x hx; unfold Ent.small at this; omega⟩)
  simpa using h
end
end Go.Ve

namespace Go.Ve
open Go.Proofs
set_option maxRecDepth 100000
def lO_impl_PlanAll_0 : SCode := (.seq (.rg [⟨some 15, .bin .lss (.v 14) (.v 13), none, []⟩] [1, 3, 12, 13, 14, 15]) (.seq (.cond (.v 15) .skip (.exit 0)) (.seq (.block 1 (.seq (.rg [⟨some 16, .iaddr 2 (.v 12) (.v 14), none, []⟩, ⟨some 17, .loadN 2 (.v 16), none, [16]⟩, ⟨some 5, .alloc 105 [.str ⟨#[]⟩, .sl 0 3 []], none, []⟩, ⟨none, .store 2 (.v 5) (.v 17), none, [17]⟩] [1, 3, 5, 12, 13, 14]) (.seq (.rg [⟨some 19, .loadN 3 (.v 1), none, []⟩, ⟨some 20, .faddr 0 (.v 5), none, [5]⟩, ⟨some 21, .load1 (.v 20), none, [20]⟩, ⟨some 22, .call 69 [.v 19, .v 21], none, [19, 21]⟩, ⟨some 18, .mv (.v 22), none, [22]⟩, ⟨some 23, .ext 0 (.v 18), none, []⟩, ⟨some 24, .ext 1 (.v 18), none, [18]⟩, ⟨some 6, .alloc 106 [.str ⟨#[]⟩, .str ⟨#[]⟩, .int .i64 0, .int .i64 0, .int .i64 0, .int .i64 0, .int .i64 0, .sl 0 1 []], none, []⟩, ⟨none, .store 8 (.v 6) (.v 23), none, [23]⟩, ⟨some 7, .mv (.v 24), none, [24]⟩] [1, 3, 6, 7, 12, 13, 14]) (.seq (.rg [⟨some 25, .mv (.v 7), none, [7]⟩] [1, 3, 6, 12, 13, 14, 25]) (.cond (.v 25) (.rg [⟨some 26, .mv (.v 3), none, [3]⟩, ⟨some 27, .loadN 8 (.v 6), none, [6]⟩, ⟨some 28, .litOwn 108 1000063 8 [.v 27], none, [27]⟩, ⟨some 29, .appN 103 1000063 8 (.v 26) (.v 28), none, [26, 28]⟩, ⟨some 3, .mv (.v 29), none, [29]⟩] [1, 3, 12, 13, 14]) .skip))))) (.rg [⟨some 30, .binN .add (.v 14) (.c (.int .i64 1)), none, [14]⟩, ⟨some 14, .mv (.v 30), none, [30]⟩] [1, 3, 12, 13, 14]))))
/-- impl.PlanAll: function 35 -/
def sO_impl_PlanAll : SFun := { n := 32, res := [.t 2], body := (.seq (.rg [⟨some 1, .box 101 (.v 0), none, [0]⟩, ⟨some 2, .mv (.c (.sl 98 8 [])), none, [2]⟩] [1]) (.seq (.seq (.rg [⟨some 8, .loadN 3 (.v 1), none, []⟩, ⟨some 9, .call 21 [.v 8], none, [8]⟩, ⟨some 10, .not (.v 9), none, [9]⟩] [1, 10]) (.cond (.v 10) (.seq (.rg [⟨some 2, .mv (.c (.sl 98 8 [])), none, []⟩] [2]) .ret) .skip)) (.seq (.rg [⟨some 3, .newnil 103 1000063 8, none, []⟩] [1, 3]) (.seq (.seq (.rg [⟨some 11, .faddr 2 (.v 1), none, []⟩, ⟨some 12, .load1 (.v 11), none, [11]⟩, ⟨some 13, .lenL (.v 12), none, []⟩, ⟨some 14, .mv (.c (.int .i64 0)), none, []⟩] [1, 3, 12, 13, 14]) (.block 0 (.loop lO_impl_PlanAll_0))) (.seq (.rg [⟨some 31, .mv (.v 3), none, [3]⟩, ⟨some 2, .mv (.v 31), none, [31]⟩] [2]) .ret))))) }
theorem kO_impl_PlanAll : okFun Go.Proofs.Tryz.prog 35 sO_impl_PlanAll = true := by kernel_rfl
end Go.Ve

namespace Go.Ve
noncomputable section
open Go.Proofs
set_option linter.unusedSimpArgs false
set_option linter.unusedVariables false
set_option maxRecDepth 100000
open Go.ChangeShapes Go.WideShapes
theorem nm_lt {b : PBook} (hb : b.ok) : ∀ i, i < b.es.length → ∀ j, j < i → slt (b.es.getD j default).nm (b.es.getD i default).nm
  | 0, _, j, hj => by omega
  | i + 1, hi, j, hj => by
    have h1 := (hb.2 (i + 1) hi).2 (by omega)
    rw [Nat.add_sub_cancel] at h1
    by_cases e : j = i
    · subst e; exact h1
    · exact slt_trans (nm_lt hb i (by omega) j (by omega)) h1
theorem eIdx_self {b : PBook} (hb : b.ok) {i : Nat} (hi : i < b.es.length) : eIdx b.es (b.es.getD i default).nm = i := by
  unfold eIdx
  rw [fIdx_at hi (by simp) fun j hj => ?_]
  simp only [decide_eq_false_iff_not]
  intro e
  have := nm_lt hb i hi j hj
  rw [e] at this
  exact slt_irrefl _ this
abbrev eNm (b : PBook) (i : Nat) : ByteArray := (b.es.getD i default).nm
def flA (b : PBook) : Nat → List Flt
  | 0 => []
  | i + 1 => if standsOk b (eNm b i) then flA b i ++ [fltOf b (eNm b i)] else flA b i
def allL (b : PBook) : List Flt := if b.ok then flA b b.es.length else []
theorem flA_len {b : PBook} : ∀ i, (flA b i).length ≤ i
  | 0 => Nat.le_refl _
  | i + 1 => by
    have := flA_len (b := b) i
    simp only [flA]; split
    · rw [List.length_append]; simp; omega
    · omega
theorem flA_rt {b : PBook} (hf : b.fine) : ∀ i, ∀ x ∈ flA b i, x.rt.length ≤ 1048577
  | 0, x, hx => by cases hx
  | i + 1, x, hx => by
    simp only [flA] at hx; split at hx
    · rcases List.mem_append.1 hx with hx | hx
      · exact flA_rt hf i x hx
      · rw [List.mem_singleton.1 hx]
        have := cuts_le (s := valF b (eNm b i) 4) (c := 32); have := val_small (nm := eNm b i) (w := 4) hf
        show (cuts (valF b (eNm b i) 4) 32).length ≤ _; omega
    · exact flA_rt hf i x hx
theorem fs_at {b : PBook} (hb : b.ok) {i : Nat} (hi : i < b.es.length) : fsOf b (eNm b i) = (b.es.getD i default).fs := by
  unfold fsOf eNm; rw [eIdx_self hb hi]; rfl
set_option maxHeartbeats 2000000 in
theorem c_sPlAll (b : PBook) (hf : b.fine) : Contract P 34 [.agg (b.row 0)] [] (.sl 0 8 ((allL b).map (Flt.row 0))) [] := by
  have tkl : True := trivial
  have stq : True := trivial
  have soq : True := trivial
  have hl := hf.2.1
  have hfine := hf
  simp only [PBook.row]
  refine fn_sound ((Env.nil P).add 19 t_sBookOk h_sBookOk) hm k_spec_PlanAll (Nat.le_of_ble_eq_true rfl) rfl ?_; unfold s_spec_PlanAll; simp (config := { maxSteps := 2000000 }) only [bitvec_to_nat, reduceIte, Nat.reduceEqDiff, Nat.reduceAdd, Nat.reduceLeDiff, reduceCtorEq, Nat.reduceBEq, Nat.reduceLT, Nat.reduceMod, List.forall_mem_cons, t_sBookOk, tk_map, dp_map, toNat_pred, appE, rowsOf, List.take_length, List.length_cons, List.length_nil, Nat.zero_add, srow, irow, un_s, un_i, Zone.row, Zone_eta, un_Zone, Word.row, Word_eta, Own.row, Own_eta, Part.row, Part_eta, Seen.row, Seen_eta, Book.row, Book_eta, Sector.row, Sector_eta, HCraft.row, HCraft_eta, World.row, World_eta, PKind.row, PKind_eta, PPt.row, PPt_eta, Cell.row, Cell_eta, PBase.row, PBase_eta, Chg.row, Chg_eta, Fld.row, Fld_eta, Ent.row, Ent_eta, PBook.row, PBook_eta, Flt.row, Flt_eta, un_Word, un_Own, un_Part, un_Seen, un_Book, un_Sector, un_HCraft, un_World, un_PKind, un_PPt, un_Cell, un_PBase, un_Chg, un_Fld, un_Ent, un_PBook, un_Flt, Nat.sub_zero, List.nil_append, Int.toNat_one, un_PKind, un_PPt, PBook.row, PBook_eta, Fld.row, Fld_eta, Ent.row, Ent_eta, un_Ent, un_Fld, Flt.row, Flt_eta, List.append_nil, ghost, tkl, stq, soq]
  repeat' (first | with_reducible apply And.intro | with_reducible intro _)
  all_goals first
    | omega
    | exact hf
    | (rw [show allL b = [] from if_neg (by assumption)]; rfl)
    | skip
  have hb : b.ok := by assumption
  have hb12 : b.es.length ≤ 12 := hb.1.2
  refine loop_st (fun i : Nat => [(3, .own 107 (flA b i).length 0 (flA b i).length), (4, .int .i64 i)]) (fun i => [(107, .arr 63 (flA b i).length 8 ((flA b i).map (Flt.row 0)))]) (fun i => i ≤ b.es.length) (fun i => b.es.length - i) 0 (by simp only [u_E0, u_E1, u_M0, u_M1, w_setE0, w_setE1, w_setM0, w_setM1, reduceIte, Nat.reduceEqDiff]; exact ⟨by repeat' (first | exact trivial | refine ⟨.inr rfl, ?_⟩), by repeat' (first | exact trivial | refine ⟨rfl, ?_⟩), by first | rfl | simp [closedB, refsIn, refsInL, refsInO, dom, refsInL_nr, *], by first | rfl | simp [keepB, dom]⟩) (Nat.zero_le _) ?_
  intro i hi NX hN
  have hEi := flA_len (b := b) i
  have tkl : List.take (flA b i).length ((flA b i).map (Flt.row 0)) = (flA b i).map (Flt.row 0) := List.take_of_length_le (by simp)
  by_cases hlt : i < b.es.length
  · have h0 : 0 ≤ eIdx b.es (eNm b i) := by unfold eNm; rw [eIdx_self hb hlt]; omega
    have hI := c_l16Stands b (eNm b i) hfine hb h0
    rw [fs_at hb hlt] at hI
    simp only [PBook.row, eNm] at hI
    unfold l_spec_PlanAll_0; simp (config := { maxSteps := 2000000 }) only [bitvec_to_nat, reduceIte, Nat.reduceEqDiff, Nat.reduceAdd, Nat.reduceLeDiff, reduceCtorEq, Nat.reduceBEq, Nat.reduceLT, Nat.reduceMod, List.forall_mem_cons, t_sBookOk, tk_map, dp_map, toNat_pred, appE, rowsOf, List.take_length, List.length_cons, List.length_nil, Nat.zero_add, srow, irow, un_s, un_i, Zone.row, Zone_eta, un_Zone, Word.row, Word_eta, Own.row, Own_eta, Part.row, Part_eta, Seen.row, Seen_eta, Book.row, Book_eta, Sector.row, Sector_eta, HCraft.row, HCraft_eta, World.row, World_eta, PKind.row, PKind_eta, PPt.row, PPt_eta, Cell.row, Cell_eta, PBase.row, PBase_eta, Chg.row, Chg_eta, Fld.row, Fld_eta, Ent.row, Ent_eta, PBook.row, PBook_eta, Flt.row, Flt_eta, un_Word, un_Own, un_Part, un_Seen, un_Book, un_Sector, un_HCraft, un_World, un_PKind, un_PPt, un_Cell, un_PBase, un_Chg, un_Fld, un_Ent, un_PBook, un_Flt, Nat.sub_zero, List.nil_append, Int.toNat_one, un_PKind, un_PPt, PBook.row, PBook_eta, Fld.row, Fld_eta, Ent.row, Ent_eta, un_Ent, un_Fld, Flt.row, Flt_eta, List.append_nil, ghost, tkl, stq, soq]
    refine ⟨fun _ => ⟨by omega, by omega, _, _, .inr (.inl ⟨rfl, _, rfl, hI, rfl, by simp [No99, No99L, Flt.row, no99_str]⟩), ?_⟩, fun h => absurd (by omega) h⟩
    simp (config := { maxSteps := 2000000 }) only [bitvec_to_nat, reduceIte, Nat.reduceEqDiff, Nat.reduceAdd, Nat.reduceLeDiff, reduceCtorEq, Nat.reduceBEq, Nat.reduceLT, Nat.reduceMod, List.forall_mem_cons, t_sBookOk, tk_map, dp_map, toNat_pred, appE, rowsOf, List.take_length, List.length_cons, List.length_nil, Nat.zero_add, srow, irow, un_s, un_i, Zone.row, Zone_eta, un_Zone, Word.row, Word_eta, Own.row, Own_eta, Part.row, Part_eta, Seen.row, Seen_eta, Book.row, Book_eta, Sector.row, Sector_eta, HCraft.row, HCraft_eta, World.row, World_eta, PKind.row, PKind_eta, PPt.row, PPt_eta, Cell.row, Cell_eta, PBase.row, PBase_eta, Chg.row, Chg_eta, Fld.row, Fld_eta, Ent.row, Ent_eta, PBook.row, PBook_eta, Flt.row, Flt_eta, un_Word, un_Own, un_Part, un_Seen, un_Book, un_Sector, un_HCraft, un_World, un_PKind, un_PPt, un_Cell, un_PBase, un_Chg, un_Fld, un_Ent, un_PBook, un_Flt, Nat.sub_zero, List.nil_append, Int.toNat_one, un_PKind, un_PPt, PBook.row, PBook_eta, Fld.row, Fld_eta, Ent.row, Ent_eta, un_Ent, un_Fld, Flt.row, Flt_eta, List.append_nil, ghost, tkl, stq, soq]
    repeat' (first | with_reducible apply And.intro | with_reducible intro _)
    all_goals first
      | omega
      | (have hs : standsOk b (b.es.getD i default).nm := by assumption
         have hq : flA b (i + 1) = flA b i ++ [fltOf b (b.es.getD i default).nm] := if_pos hs
         have hr : stR b (b.es.getD i default).nm = fltOf b (b.es.getD i default).nm := stR_ok hs
         refine hN (i + 1) _ (by simp only [hq, hr, Flt.row, List.length_append, List.length_cons, List.length_nil, Nat.zero_add, List.map_append (l₂ := [_]), List.map_cons, List.map_nil]; simp only [u_E0, u_E1, u_M0, u_M1, w_setE0, w_setE1, w_setM0, w_setM1, reduceIte, Nat.reduceEqDiff]; exact ⟨by repeat' (first | exact trivial | refine ⟨.inr rfl, ?_⟩), by repeat' (first | exact trivial | refine ⟨rfl, ?_⟩), by first | rfl | simp [closedB, refsIn, refsInL, refsInO, dom, refsInL_nr, *], by first | rfl | simp [keepB, dom]⟩) hlt (by omega))
      | (have hs : ¬ standsOk b (b.es.getD i default).nm := by assumption
         have hq : flA b (i + 1) = flA b i := if_neg hs
         refine hN (i + 1) _ (by simp only [hq]; simp only [u_E0, u_E1, u_M0, u_M1, w_setE0, w_setE1, w_setM0, w_setM1, reduceIte, Nat.reduceEqDiff]; exact ⟨by repeat' (first | exact trivial | refine ⟨.inr rfl, ?_⟩), by repeat' (first | exact trivial | refine ⟨rfl, ?_⟩), by first | rfl | simp [closedB, refsIn, refsInL, refsInO, dom, refsInL_nr, *], by first | rfl | simp [keepB, dom]⟩) hlt (by omega))
      | trace_state
  · have e : i = b.es.length := by omega
    subst e
    have hL : allL b = flA b b.es.length := if_pos hb
    unfold l_spec_PlanAll_0; simp (config := { maxSteps := 2000000 }) only [bitvec_to_nat, reduceIte, Nat.reduceEqDiff, Nat.reduceAdd, Nat.reduceLeDiff, reduceCtorEq, Nat.reduceBEq, Nat.reduceLT, Nat.reduceMod, List.forall_mem_cons, t_sBookOk, tk_map, dp_map, toNat_pred, appE, rowsOf, List.take_length, List.length_cons, List.length_nil, Nat.zero_add, srow, irow, un_s, un_i, Zone.row, Zone_eta, un_Zone, Word.row, Word_eta, Own.row, Own_eta, Part.row, Part_eta, Seen.row, Seen_eta, Book.row, Book_eta, Sector.row, Sector_eta, HCraft.row, HCraft_eta, World.row, World_eta, PKind.row, PKind_eta, PPt.row, PPt_eta, Cell.row, Cell_eta, PBase.row, PBase_eta, Chg.row, Chg_eta, Fld.row, Fld_eta, Ent.row, Ent_eta, PBook.row, PBook_eta, Flt.row, Flt_eta, un_Word, un_Own, un_Part, un_Seen, un_Book, un_Sector, un_HCraft, un_World, un_PKind, un_PPt, un_Cell, un_PBase, un_Chg, un_Fld, un_Ent, un_PBook, un_Flt, Nat.sub_zero, List.nil_append, Int.toNat_one, un_PKind, un_PPt, PBook.row, PBook_eta, Fld.row, Fld_eta, Ent.row, Ent_eta, un_Ent, un_Fld, Flt.row, Flt_eta, List.append_nil, ghost, tkl, stq, soq]
    repeat' (first | with_reducible apply And.intro | with_reducible intro _)
    all_goals first
      | omega
      | (rw [hL]; done)
      | (exfalso; omega)
      | trace_state
end
end Go.Ve

namespace Go.Ve
noncomputable section
open Go.Proofs
set_option linter.unusedSimpArgs false
set_option linter.unusedVariables false
set_option maxRecDepth 100000
open Go.ChangeShapes Go.WideShapes
def fltP (x : Flt) : ByteArray × List (List AV) := (x.nm, x.rt.map srow)
def ffam (k : Nat) (l : List Flt) : List NRow := nfam k 9 1 (l.map fltP)
def frows (k : Nat) (l : List Flt) : List (List AV) := l.mapIdx fun i x => x.own (fam k i)
theorem frows_len {k : Nat} {l : List Flt} : (frows k l).length = l.length := by simp [frows]
theorem frows_get {k : Nat} {l : List Flt} {i : Nat} (h : i < l.length) : (frows k l).getD i [] = (l.getD i default).own (fam k i) := by simp [frows, h]
theorem frows_snoc {k : Nat} {l : List Flt} {x : Flt} : frows k (l ++ [x]) = frows k l ++ [x.own (fam k l.length)] := by simp [frows, List.mapIdx_append]
theorem ffam_snoc {k : Nat} {l : List Flt} {x : Flt} : nobjs (ffam k (l ++ [x])) = nobjs (ffam k l) ++ [(fam k l.length, .arr 9 0 1 (x.rt.map srow))] := by
  simp [ffam, nfam_snoc, nobjs, fltP]
theorem ffam_len {k : Nat} {l : List Flt} : (ffam k l).length = l.length := by simp [ffam, nfam_len]
theorem ffam_at {k : Nat} {l : List Flt} {p : Nat × AObj} (h : p ∈ nobjs (ffam k l)) : ∃ i, i < l.length ∧ p = (fam k i, .arr 9 0 1 ((l.getD i default).rt.map srow)) := by
  obtain ⟨i, hi, rfl⟩ := nfam_at h
  have hi' : i < l.length := by simpa using hi
  exact ⟨i, hi', by simp [hi', fltP]⟩
theorem ffam_in {k : Nat} {l : List Flt} {i : Nat} (h : i < l.length) : (fam k i, AObj.arr 9 0 1 ((l.getD i default).rt.map srow)) ∈ nobjs (ffam k l) := by
  have := nfam_obj (k := k) (e := 9) (sz := 1) (x := l.map fltP) (i := i) (by simpa using h)
  have h2 := getM_mem this
  simpa [h, fltP, ffam] using h2
theorem ffam_obj {k : Nat} {l : List Flt} {i : Nat} (h : i < l.length) : getM (nobjs (ffam k l)) (fam k i) = some (.arr 9 0 1 ((l.getD i default).rt.map srow)) := by
  have := nfam_obj (k := k) (e := 9) (sz := 1) (x := l.map fltP) (i := i) (by simpa using h)
  simpa [h, fltP, ffam] using this
theorem ffam_new {k : Nat} {l : List Flt} : getM (nobjs (ffam k l)) (fam k l.length) = none := nobjs_ge (k := k) nfam_fam (Nat.le_of_eq ffam_len)
theorem bigs_ffam {k : Nat} {l : List Flt} : bigs (nobjs (ffam k l)) := bigs_nfam
theorem frows_refs {k : Nat} {l : List Flt} {d : List Nat} (h : ∀ i, i < l.length → fam k i ∈ d) : (frows k l).all (refsInL d) = true := by
  rw [List.all_eq_true]
  intro x hx
  obtain ⟨i, hi, rfl⟩ := List.mem_iff_getElem.1 hx
  have hi' : i < l.length := by simpa [frows_len] using hi
  simp only [frows, List.getElem_mapIdx, Flt.own, refsInL, refsIn, Bool.true_and, Bool.and_true]
  rw [List.contains_iff_mem]; exact h i hi'
theorem ffam_refs {k : Nat} {l : List Flt} {d : List Nat} : ((nobjs (ffam k l)).all fun p => refsInO d p.2) = true := refsO_nfam (by omega)
theorem ffam_dom {k i : Nat} {l : List Flt} (h : i < l.length) : fam k i ∈ dom (nobjs (ffam k l)) := List.mem_map.2 ⟨_, ffam_in h, rfl⟩
def FO (o v k : Nat) (l : List Flt) : List (Nat × AObj) := (o, .arr (1000000 + 63) v 8 (frows k l)) :: nobjs (ffam k l)
theorem FO_refs {o v k : Nat} {l : List Flt} : ((FO o v k l).all fun p => refsInO (dom (FO o v k l)) p.2) = true := by
  simp only [FO, List.all_cons, Bool.and_eq_true]
  refine ⟨?_, ffam_refs⟩
  simp only [refsInO]
  rw [if_neg (by omega)]
  exact frows_refs fun i hi => List.mem_cons_of_mem _ (ffam_dom hi)
theorem FO_100 {o v k : Nat} {l : List Flt} (ho : 100 ≤ o % 1000) (hk : 100 ≤ k) (hk2 : k < 1000) : big100 (FO o v k l) := big100_cons ho (big100_nfam hk2 hk)
theorem c_iPlAllN (b : PBook) (hf : b.fine) (hnm : b.names) (hok : ¬ b.ok) : Contract P 35 [.agg (b.row 0)] [] (.sl 98 8 []) [] := by
  have bA : True := trivial
  have hs1 : True := trivial
  have tkl : True := trivial
  simp only [PBook.row]
  refine fn_sound ((Env.nil P).add 21 t_iBookOk h_iBookOk) hm kO_impl_PlanAll (Nat.le_of_ble_eq_true rfl) rfl ?_; unfold sO_impl_PlanAll; simp (config := { maxSteps := 2000000 }) only [bitvec_to_nat, reduceIte, Nat.reduceEqDiff, Nat.reduceAdd, Nat.reduceLeDiff, reduceCtorEq, Nat.reduceBEq, Nat.reduceLT, Nat.reduceMod, List.forall_mem_cons, retG_ret, retQ_eq, retQ_eqN, retOk, keepB, re_tupl, orr_t, t_iBookOk, tk_map, dp_map, toNat_pred, appE, rowsOf, List.take_length, List.length_cons, List.length_nil, Nat.zero_add, srow, irow, un_s, un_i, Zone.row, Zone_eta, un_Zone, Word.row, Word_eta, Own.row, Own_eta, Part.row, Part_eta, Seen.row, Seen_eta, Book.row, Book_eta, Sector.row, Sector_eta, HCraft.row, HCraft_eta, World.row, World_eta, PKind.row, PKind_eta, PPt.row, PPt_eta, Cell.row, Cell_eta, PBase.row, PBase_eta, Chg.row, Chg_eta, Fld.row, Fld_eta, Ent.row, Ent_eta, PBook.row, PBook_eta, Flt.row, Flt_eta, un_Word, un_Own, un_Part, un_Seen, un_Book, un_Sector, un_HCraft, un_World, un_PKind, un_PPt, un_Cell, un_PBase, un_Chg, un_Fld, un_Ent, un_PBook, un_Flt, Nat.sub_zero, List.nil_append, Int.toNat_one, un_PKind, un_PPt, Fld.row, Fld_eta, Ent.row, Ent_eta, un_Ent, un_Fld, Flt.own, List.append_nil, gB, gB0, sB, sB0, bA, fam_ne, fam_ne', List.append_assoc, List.cons_append, List.nil_append, hs1, tkl]
  exact ⟨⟨hf, hnm⟩, fun h => absurd h hok⟩
set_option maxHeartbeats 4000000 in
theorem c_iPlAllY (b : PBook) (hf : b.fine) (hnm : b.names) (hok : b.ok) : Contract P 35 [.agg (b.row 0)] [] (.own 103 (allL b).length 0 (allL b).length) (FO 103 (allL b).length 104 (allL b)) := by
  have bA : True := trivial
  have hs1 : True := trivial
  have tkl : True := trivial
  have hL : allL b = flA b b.es.length := if_pos hok
  have hb12 : b.es.length ≤ 12 := hok.1.2
  simp only [PBook.row]
  refine fn_sound ((Env.nil P).add 21 t_iBookOk h_iBookOk) hm kO_impl_PlanAll (Nat.le_of_ble_eq_true rfl) rfl ?_; unfold sO_impl_PlanAll; simp (config := { maxSteps := 2000000 }) only [bitvec_to_nat, reduceIte, Nat.reduceEqDiff, Nat.reduceAdd, Nat.reduceLeDiff, reduceCtorEq, Nat.reduceBEq, Nat.reduceLT, Nat.reduceMod, List.forall_mem_cons, retG_ret, retQ_eq, retQ_eqN, retOk, keepB, re_tupl, orr_t, t_iBookOk, tk_map, dp_map, toNat_pred, appE, rowsOf, List.take_length, List.length_cons, List.length_nil, Nat.zero_add, srow, irow, un_s, un_i, Zone.row, Zone_eta, un_Zone, Word.row, Word_eta, Own.row, Own_eta, Part.row, Part_eta, Seen.row, Seen_eta, Book.row, Book_eta, Sector.row, Sector_eta, HCraft.row, HCraft_eta, World.row, World_eta, PKind.row, PKind_eta, PPt.row, PPt_eta, Cell.row, Cell_eta, PBase.row, PBase_eta, Chg.row, Chg_eta, Fld.row, Fld_eta, Ent.row, Ent_eta, PBook.row, PBook_eta, Flt.row, Flt_eta, un_Word, un_Own, un_Part, un_Seen, un_Book, un_Sector, un_HCraft, un_World, un_PKind, un_PPt, un_Cell, un_PBase, un_Chg, un_Fld, un_Ent, un_PBook, un_Flt, Nat.sub_zero, List.nil_append, Int.toNat_one, un_PKind, un_PPt, Fld.row, Fld_eta, Ent.row, Ent_eta, un_Ent, un_Fld, Flt.own, List.append_nil, gB, gB0, sB, sB0, bA, fam_ne, fam_ne', List.append_assoc, List.cons_append, List.nil_append, hs1, tkl]
  refine ⟨⟨hf, hnm⟩, fun _ => ?_, fun h => absurd hok h⟩
  have cl : ∀ i : Nat, closedB ⟨[(1, .ptr 101 0), (3, .own 103 (flA b i).length 0 (flA b i).length), (12, .sl 0 2 (b.es.map (Ent.row 0))), (13, .int .i64 (b.es.length : Nat)), (14, .int .i64 i)], (101, .box [.sl 0 3 (b.ks.map PKind.row), .sl 0 3 (b.ps.map PPt.row), .sl 0 2 (b.es.map (Ent.row 0))]) :: (103, .arr (1000000 + 63) (flA b i).length 8 (frows 104 (flA b i))) :: nobjs (ffam 104 (flA b i))⟩ = true := fun i => by
    simp only [closedB, List.all_cons, Bool.and_eq_true]
    refine ⟨⟨by simp [refsIn, dom], by simp [refsIn, dom], rfl, rfl, rfl, rfl⟩, rfl, ?_, ffam_refs⟩
    simp only [refsInO]
    rw [if_neg (by omega)]
    exact frows_refs fun j hj => List.mem_cons_of_mem _ (List.mem_cons_of_mem _ (ffam_dom hj))
  have wm : ∀ (i : Nat) {M : List (Nat × AObj)}, getM M 101 = some (.box [.sl 0 3 (b.ks.map PKind.row), .sl 0 3 (b.ps.map PPt.row), .sl 0 2 (b.es.map (Ent.row 0))]) → getM M 103 = some (.arr (1000000 + 63) (flA b i).length 8 (frows 104 (flA b i))) → (∀ p ∈ nobjs (ffam 104 (flA b i)), getM M p.1 = some p.2) → wkM M ((101, .box [.sl 0 3 (b.ks.map PKind.row), .sl 0 3 (b.ps.map PPt.row), .sl 0 2 (b.es.map (Ent.row 0))]) :: (103, .arr (1000000 + 63) (flA b i).length 8 (frows 104 (flA b i))) :: nobjs (ffam 104 (flA b i))) := fun i M h1 h2 h3 => ⟨h1, h2, wkM_self h3⟩
  refine loop_F (fun i : Nat => ⟨[(1, .ptr 101 0), (3, .own 103 (flA b i).length 0 (flA b i).length), (12, .sl 0 2 (b.es.map (Ent.row 0))), (13, .int .i64 (b.es.length : Nat)), (14, .int .i64 i)], (101, .box [.sl 0 3 (b.ks.map PKind.row), .sl 0 3 (b.ps.map PPt.row), .sl 0 2 (b.es.map (Ent.row 0))]) :: (103, .arr (1000000 + 63) (flA b i).length 8 (frows 104 (flA b i))) :: nobjs (ffam 104 (flA b i))⟩) (fun i => i ≤ b.es.length) (fun i => b.es.length - i) 0 ?_ (Nat.zero_le _) ?_
  · exact ⟨by repeat' (first | exact trivial | refine ⟨.inr rfl, ?_⟩), ⟨rfl, rfl, trivial⟩, cl 0, rfl⟩
  intro i hi NX hN
  have hEi := flA_len (b := b) i
  have bA : bigs (nobjs (ffam 104 (flA b i))) := bigs_ffam
  have hs1 : ∀ (B : List (Nat × AObj)) (x : AObj), setM (nobjs (ffam 104 (flA b i)) ++ B) (fam 104 (flA b i).length) x = nobjs (ffam 104 (flA b i)) ++ setM B (fam 104 (flA b i).length) x := fun B x => setM_app ffam_new
  have tkl : (frows 104 (flA b i)).take (flA b i).length = frows 104 (flA b i) := List.take_of_length_le (by rw [frows_len]; exact Nat.le_refl _)
  by_cases hlt : i < b.es.length
  · unfold lO_impl_PlanAll_0; simp (config := { maxSteps := 2000000 }) only [bitvec_to_nat, reduceIte, Nat.reduceEqDiff, Nat.reduceAdd, Nat.reduceLeDiff, reduceCtorEq, Nat.reduceBEq, Nat.reduceLT, Nat.reduceMod, List.forall_mem_cons, retG_ret, retQ_eq, retQ_eqN, retOk, keepB, re_tupl, orr_t, t_iBookOk, tk_map, dp_map, toNat_pred, appE, rowsOf, List.take_length, List.length_cons, List.length_nil, Nat.zero_add, srow, irow, un_s, un_i, Zone.row, Zone_eta, un_Zone, Word.row, Word_eta, Own.row, Own_eta, Part.row, Part_eta, Seen.row, Seen_eta, Book.row, Book_eta, Sector.row, Sector_eta, HCraft.row, HCraft_eta, World.row, World_eta, PKind.row, PKind_eta, PPt.row, PPt_eta, Cell.row, Cell_eta, PBase.row, PBase_eta, Chg.row, Chg_eta, Fld.row, Fld_eta, Ent.row, Ent_eta, PBook.row, PBook_eta, Flt.row, Flt_eta, un_Word, un_Own, un_Part, un_Seen, un_Book, un_Sector, un_HCraft, un_World, un_PKind, un_PPt, un_Cell, un_PBase, un_Chg, un_Fld, un_Ent, un_PBook, un_Flt, Nat.sub_zero, List.nil_append, Int.toNat_one, un_PKind, un_PPt, Fld.row, Fld_eta, Ent.row, Ent_eta, un_Ent, un_Fld, Flt.own, List.append_nil, gB, gB0, sB, sB0, bA, fam_ne, fam_ne', List.append_assoc, List.cons_append, List.nil_append, hs1, tkl]
    by_cases hs : standsOk b (b.es.getD i default).nm
    · have hC := (c_iStandsY b _ hf hok hs).ren (swp 131 (fam 104 (flA b i).length)) (swp_swp _ _)
      rw [show renL (swp 131 (fam 104 (flA b i).length)) [AV.agg (b.row 0), .str (b.es.getD i default).nm] = [.agg (b.row 0), .str (b.es.getD i default).nm] from rfl] at hC
      simp only [renL, ren, renM, renO, swp, reduceIte, Nat.reduceEqDiff, Nat.reduceLT, PBook.row] at hC
      refine ⟨fun _ => ⟨by omega, by omega, _, _, .inr (.inr (.inl ⟨_, rfl, hC, by simp [getM, fam_ne, fam_ne', getM_append, ffam_new], by simp [refsIn, refsInL, dom], by simp [refsInO], by simp [No99, No99L, No99LL], by simp [No99O, no99_str]⟩)), ?_⟩, fun h' => absurd (by omega) h'⟩
      simp (config := { maxSteps := 2000000 }) only [bitvec_to_nat, reduceIte, Nat.reduceEqDiff, Nat.reduceAdd, Nat.reduceLeDiff, reduceCtorEq, Nat.reduceBEq, Nat.reduceLT, Nat.reduceMod, List.forall_mem_cons, retG_ret, retQ_eq, retQ_eqN, retOk, keepB, re_tupl, orr_t, t_iBookOk, tk_map, dp_map, toNat_pred, appE, rowsOf, List.take_length, List.length_cons, List.length_nil, Nat.zero_add, srow, irow, un_s, un_i, Zone.row, Zone_eta, un_Zone, Word.row, Word_eta, Own.row, Own_eta, Part.row, Part_eta, Seen.row, Seen_eta, Book.row, Book_eta, Sector.row, Sector_eta, HCraft.row, HCraft_eta, World.row, World_eta, PKind.row, PKind_eta, PPt.row, PPt_eta, Cell.row, Cell_eta, PBase.row, PBase_eta, Chg.row, Chg_eta, Fld.row, Fld_eta, Ent.row, Ent_eta, PBook.row, PBook_eta, Flt.row, Flt_eta, un_Word, un_Own, un_Part, un_Seen, un_Book, un_Sector, un_HCraft, un_World, un_PKind, un_PPt, un_Cell, un_PBase, un_Chg, un_Fld, un_Ent, un_PBook, un_Flt, Nat.sub_zero, List.nil_append, Int.toNat_one, un_PKind, un_PPt, Fld.row, Fld_eta, Ent.row, Ent_eta, un_Ent, un_Fld, Flt.own, List.append_nil, gB, gB0, sB, sB0, bA, fam_ne, fam_ne', List.append_assoc, List.cons_append, List.nil_append, hs1, tkl]
      have hq : flA b (i + 1) = flA b i ++ [fltOf b (b.es.getD i default).nm] := if_pos hs
      have hl : (flA b (i + 1)).length = (flA b i).length + 1 := by rw [hq]; simp
      refine ⟨by omega, by omega, hN (i + 1) _ ⟨?_, wm (i + 1) rfl ?_ ?_, cl (i + 1), keep_big (big100_cons (by omega) (big100_cons (by omega) (big100_app (big100_nfam (by omega) (by omega)) (by repeat' (first | exact big100_nil | refine big100_cons (by first | omega | (rw [fam_mod (by omega)]; omega)) ?_)))))⟩ hlt (by omega)⟩
      · simp only [hl]; repeat' (first | exact trivial | refine ⟨.inr rfl, ?_⟩)
      · simp only [getM, Nat.reduceEqDiff, reduceIte, hl]; rw [hq, frows_snoc]; (try rfl)
      · intro p hp
        rw [hq, ffam_snoc] at hp
        rcases List.mem_append.1 hp with hp | hp
        · obtain ⟨j, hj, rfl⟩ := ffam_at hp
          simp only [getM, fam_ne, Nat.reduceLT, if_false, getM_append, ffam_obj hj, Option.some_or]
        · rw [List.mem_singleton.1 hp]
          simp only [getM, fam_ne, Nat.reduceLT, if_false, getM_append, ffam_new, Option.none_or, if_true]
    · have hC := c_iStandsN b _ hf hok hs
      simp only [PBook.row] at hC
      refine ⟨fun _ => ⟨by omega, by omega, _, _, .inr (.inl ⟨rfl, _, rfl, hC, rfl, by simp [No99, No99L, Flt.row, fltZ, No99LL]⟩), ?_⟩, fun h' => absurd (by omega) h'⟩
      simp (config := { maxSteps := 2000000 }) only [bitvec_to_nat, reduceIte, Nat.reduceEqDiff, Nat.reduceAdd, Nat.reduceLeDiff, reduceCtorEq, Nat.reduceBEq, Nat.reduceLT, Nat.reduceMod, List.forall_mem_cons, retG_ret, retQ_eq, retQ_eqN, retOk, keepB, re_tupl, orr_t, t_iBookOk, tk_map, dp_map, toNat_pred, appE, rowsOf, List.take_length, List.length_cons, List.length_nil, Nat.zero_add, srow, irow, un_s, un_i, Zone.row, Zone_eta, un_Zone, Word.row, Word_eta, Own.row, Own_eta, Part.row, Part_eta, Seen.row, Seen_eta, Book.row, Book_eta, Sector.row, Sector_eta, HCraft.row, HCraft_eta, World.row, World_eta, PKind.row, PKind_eta, PPt.row, PPt_eta, Cell.row, Cell_eta, PBase.row, PBase_eta, Chg.row, Chg_eta, Fld.row, Fld_eta, Ent.row, Ent_eta, PBook.row, PBook_eta, Flt.row, Flt_eta, un_Word, un_Own, un_Part, un_Seen, un_Book, un_Sector, un_HCraft, un_World, un_PKind, un_PPt, un_Cell, un_PBase, un_Chg, un_Fld, un_Ent, un_PBook, un_Flt, Nat.sub_zero, List.nil_append, Int.toNat_one, un_PKind, un_PPt, Fld.row, Fld_eta, Ent.row, Ent_eta, un_Ent, un_Fld, Flt.own, List.append_nil, gB, gB0, sB, sB0, bA, fam_ne, fam_ne', List.append_assoc, List.cons_append, List.nil_append, hs1, tkl]
      have hq : flA b (i + 1) = flA b i := if_neg hs
      have hl : (flA b (i + 1)).length = (flA b i).length := by rw [hq]
      refine ⟨by omega, hN (i + 1) _ ⟨?_, wm (i + 1) rfl ?_ ?_, cl (i + 1), keep_big (big100_cons (by omega) (big100_cons (by omega) (big100_app (big100_nfam (by omega) (by omega)) (by repeat' (first | exact big100_nil | refine big100_cons (by first | omega | (rw [fam_mod (by omega)]; omega)) ?_)))))⟩ hlt (by omega)⟩
      · simp only [hl]; repeat' (first | exact trivial | refine ⟨.inr rfl, ?_⟩)
      · simp only [getM, Nat.reduceEqDiff, reduceIte, hl]; rw [hq]; (try rfl)
      · intro p hp
        rw [hq] at hp
        obtain ⟨j, hj, rfl⟩ := ffam_at hp
        simp only [getM, fam_ne, Nat.reduceLT, if_false, getM_append, ffam_obj hj, Option.some_or]
  · have e : i = b.es.length := by omega
    subst e
    have cl' := cl b.es.length
    unfold lO_impl_PlanAll_0; simp (config := { maxSteps := 2000000 }) only [bitvec_to_nat, reduceIte, Nat.reduceEqDiff, Nat.reduceAdd, Nat.reduceLeDiff, reduceCtorEq, Nat.reduceBEq, Nat.reduceLT, Nat.reduceMod, List.forall_mem_cons, retG_ret, retQ_eq, retQ_eqN, retOk, keepB, re_tupl, orr_t, t_iBookOk, tk_map, dp_map, toNat_pred, appE, rowsOf, List.take_length, List.length_cons, List.length_nil, Nat.zero_add, srow, irow, un_s, un_i, Zone.row, Zone_eta, un_Zone, Word.row, Word_eta, Own.row, Own_eta, Part.row, Part_eta, Seen.row, Seen_eta, Book.row, Book_eta, Sector.row, Sector_eta, HCraft.row, HCraft_eta, World.row, World_eta, PKind.row, PKind_eta, PPt.row, PPt_eta, Cell.row, Cell_eta, PBase.row, PBase_eta, Chg.row, Chg_eta, Fld.row, Fld_eta, Ent.row, Ent_eta, PBook.row, PBook_eta, Flt.row, Flt_eta, un_Word, un_Own, un_Part, un_Seen, un_Book, un_Sector, un_HCraft, un_World, un_PKind, un_PPt, un_Cell, un_PBase, un_Chg, un_Fld, un_Ent, un_PBook, un_Flt, Nat.sub_zero, List.nil_append, Int.toNat_one, un_PKind, un_PPt, Fld.row, Fld_eta, Ent.row, Ent_eta, un_Ent, un_Fld, Flt.own, List.append_nil, gB, gB0, sB, sB0, bA, fam_ne, fam_ne', List.append_assoc, List.cons_append, List.nil_append, hs1, tkl]
    refine ⟨fun h' => absurd h' (by omega), fun _ => ?_⟩
    rw [hL]
    refine ⟨rfl, ⟨rfl, wkM_self fun p hp => ?_⟩, FO_refs, by simp [refsIn, FO], ?_⟩
    · obtain ⟨j, hj, rfl⟩ := ffam_at hp
      simp only [getM, fam_ne, Nat.reduceLT, if_false, ffam_obj hj]
    · simp only [Bool.true_or, Bool.true_and]
      rw [List.all_eq_true]
      intro o ho
      obtain ⟨p, hp, rfl⟩ := List.mem_map.1 ho
      have := big100_nfam (k := 104) (e := 9) (sz := 1) (x := (flA b b.es.length).map fltP) (by omega) (by omega) p hp
      simp [this]
end
end Go.Ve

namespace Go.Ve
noncomputable section
open Go.Proofs
set_option linter.unusedSimpArgs false
set_option linter.unusedVariables false
set_option maxRecDepth 100000
open Go.ChangeShapes Go.WideShapes
def mkFlt (k : Int) (x : Flt) : Flt := ⟨mtx k, mtx (k + 1), k + 2, k + 3, k + 4, k + 5, k + 6, ms_ByteArray (k + 7) x.rt.length⟩
def cf (l : List Flt) (i : Nat) : Nat := ((l.take i).map fun x => 7 + x.rt.length).sum
theorem cf_succ {l : List Flt} {i : Nat} (h : i < l.length) : cf l (i + 1) = cf l i + (7 + (l.getD i default).rt.length) := by
  unfold cf
  rw [List.take_succ_eq_append_getElem h, List.map_append, List.sum_append]; simp [h]
theorem cf_le {l : List Flt} (hs : ∀ x ∈ l, x.rt.length ≤ 1048577) {i : Nat} (h : i ≤ l.length) : cf l i ≤ i * 1048584 := by
  induction i with
  | zero => simp [cf]
  | succ i ih =>
    have h' := ih (by omega)
    have := hs _ (getD_mem' (show i < l.length from h))
    rw [cf_succ h]; omega
def mfL (k : Int) (l : List Flt) : List Flt := l.mapIdx fun i x => mkFlt (k + (cf l i : Nat)) x
theorem mfL_len {k : Int} {l : List Flt} : (mfL k l).length = l.length := by simp [mfL]
theorem mfL_get {k : Int} {l : List Flt} {i : Nat} (h : i < l.length) : (mfL k l).getD i default = mkFlt (k + (cf l i : Nat)) (l.getD i default) := by simp [mfL, h]
theorem frows_set {k i : Nat} {l : List Flt} {q : Nat} {v : List AV} {x : Flt} (h : i < l.length → x.own (fam k i) = setSeg ((l.getD i default).own (fam k i)) q v) : (frows k l).set i (setSeg ((frows k l).getD i []) q v) = frows k (l.set i x) := by
  refine List.ext_getElem (by simp [frows]) fun j h1 h2 => ?_
  have hj : j < l.length := by simpa [frows] using h2
  by_cases e : j = i
  · subst e
    rw [List.getElem_set_self, frows_get hj, ← h hj]
    simp [frows]
  · rw [List.getElem_set_ne (Ne.symm e)]
    simp [frows, List.getElem_set_ne (Ne.symm e)]
theorem ffam_set {k i : Nat} {l : List Flt} {x : Flt} (hi : i < l.length) : setM (nobjs (ffam k l)) (fam k i) (.arr 9 0 1 (x.rt.map srow)) = nobjs (ffam k (l.set i x)) := by
  have e := setM_fam (k := k) (l := ffam k l) (i := i) (x := .arr 9 0 1 (x.rt.map srow)) (nfam_fam (l := l.map fltP)) (by rw [ffam_len]; exact hi)
  rw [e]
  refine List.ext_getElem (by simp [nobjs, ffam, nfam]) fun j h1 h2 => ?_
  have hj : j < l.length := by simpa [nobjs, ffam, nfam] using h2
  by_cases e : j = i
  · subst e
    simp [nobjs, ffam, nfam, fltP, List.getElem_set_self, hj]
  · simp [nobjs, ffam, nfam, fltP, List.getElem_set_ne (Ne.symm e), hj]
theorem frows_own {k i : Nat} {l : List Flt} {x y : Flt} (h : x.own (fam k i) = y.own (fam k i)) : frows k (l.set i x) = frows k (l.set i y) := by
  refine List.ext_getElem (by simp [frows]) fun j h1 h2 => ?_
  by_cases e : j = i
  · subst e; simp [frows, h]
  · simp [frows, List.getElem_set_ne (Ne.symm e)]
theorem FO_self {o v k : Nat} {l : List Flt} (ho : o < 1000) : ∀ p ∈ FO o v k l, getM (FO o v k l) p.1 = some p.2 := fun p hp => by
  simp only [FO, List.mem_cons] at hp ⊢
  rcases hp with rfl | hp
  · simp only [getM, if_true]
  · obtain ⟨i, hi, rfl⟩ := ffam_at hp
    simp only [getM, fam_ne ho, if_false, ffam_obj hi]
theorem FO_lt {o v k : Nat} {l : List Flt} (ho : o % 1000 < 100) (hk : k < 100) : (dom (FO o v k l)).all (decide <| · % 1000 < 100) = true := by
  rw [List.all_eq_true]
  intro q hq
  simp only [FO, dom, List.map_cons, List.mem_cons] at hq
  rcases hq with rfl | hq
  · simpa using ho
  · obtain ⟨p, hp, rfl⟩ := List.mem_map.1 hq
    obtain ⟨i, _, rfl⟩ := ffam_at hp
    simp only [decide_eq_true_eq, fam_mod (show k < 1000 by omega)]; exact hk
theorem setg {k i q : Nat} {l : List Flt} {x y : Flt} {v : List AV} (h : y.own (fam k i) = setSeg (x.own (fam k i)) q v) : (frows k (l.set i x)).set i (setSeg (x.own (fam k i)) q v) = frows k (l.set i y) := by
  by_cases hi : i < l.length
  · have e : (frows k (l.set i x)).getD i [] = x.own (fam k i) := by rw [frows_get (by rw [List.length_set]; exact hi), getD_seti' hi]
    rw [← e, frows_set (x := y) (fun _ => by rw [getD_seti' hi]; exact h), List.set_set]
  · rw [List.set_eq_of_length_le (by rw [frows_len, List.length_set]; omega), List.set_eq_of_length_le (by omega), List.set_eq_of_length_le (by omega)]
theorem elf7 {e cv sz ver k i : Nat} {l : List Flt} {K : AV → List (Nat × AObj) → Prop} : effK (eltE (some (.arr e cv sz (frows k l))) ver i 7 load1K) K = (ver = cv ∧ i < l.length ∧ K (.own (fam k i) 0 0 (l.getD i default).rt.length) []) := by
  simp only [effK, eltE, and_assoc]
  by_cases h : i < l.length
  · rw [frows_get h]; simp [Flt.own, load1K, ok1, h]
  · simp [h, frows, k1_nil]
theorem mk_rt {k : Int} {x : Flt} : (mkFlt k x).rt.length = x.rt.length := ms_ByteArray_len
theorem own7 {x : Flt} {o : Nat} {d : AV} : (x.own o).getD 7 d = .own o 0 0 x.rt.length := rfl
theorem own_len {x : Flt} {o : Nat} : (x.own o).length = 8 := rfl
theorem setf0 {k i : Nat} {l : List Flt} {v : ByteArray} : (frows k l).set i (setSeg ((frows k l).getD i []) 0 [.str v]) = frows k (l.set i { l.getD i default with nm := v }) := frows_set fun _ => by simp [Flt.own, setSeg]
theorem setg1 {k i : Nat} {l : List Flt} {v : ByteArray} {x : Flt} : (frows k (l.set i x)).set i (setSeg (x.own (fam k i)) 1 [.str v]) = frows k (l.set i { x with kn := v }) := setg (by simp [Flt.own, setSeg])
theorem setg2 {k i : Nat} {l : List Flt} {v : Int} {x : Flt} : (frows k (l.set i x)).set i (setSeg (x.own (fam k i)) 2 [.int .i64 v]) = frows k (l.set i { x with kq := v }) := setg (by simp [Flt.own, setSeg])
theorem setg3 {k i : Nat} {l : List Flt} {v : Int} {x : Flt} : (frows k (l.set i x)).set i (setSeg (x.own (fam k i)) 3 [.int .i64 v]) = frows k (l.set i { x with ksl := v }) := setg (by simp [Flt.own, setSeg])
theorem setg4 {k i : Nat} {l : List Flt} {v : Int} {x : Flt} : (frows k (l.set i x)).set i (setSeg (x.own (fam k i)) 4 [.int .i64 v]) = frows k (l.set i { x with fr := v }) := setg (by simp [Flt.own, setSeg])
theorem setg5 {k i : Nat} {l : List Flt} {v : Int} {x : Flt} : (frows k (l.set i x)).set i (setSeg (x.own (fam k i)) 5 [.int .i64 v]) = frows k (l.set i { x with by_ := v }) := setg (by simp [Flt.own, setSeg])
theorem setg6 {k i : Nat} {l : List Flt} {v : Int} {x : Flt} : (frows k (l.set i x)).set i (setSeg (x.own (fam k i)) 6 [.int .i64 v]) = frows k (l.set i { x with lv := v }) := setg (by simp [Flt.own, setSeg])
theorem c_eqFltS (t t' : Nat) (p q : List Flt) (hp : p.length ≤ 4611686018427387904) (hx : ∀ x ∈ p, x.rt.length ≤ 4611686018427387904) : Contract P 36 [.sl t 8 (p.map (Flt.row 0)), .sl t' 8 (q.map (Flt.row 0))] [] (.bool (decide (p = q))) [] := by
  refine fn_sound ((Env.nil P).add 31 t_eqFlt h_eqFlt) hm k_laws_eqPlanFlightS (Nat.le_of_ble_eq_true rfl) rfl ?_; unfold s_laws_eqPlanFlightS; simp (config := { maxSteps := 2000000 }) only [bitvec_to_nat, reduceIte, Nat.reduceEqDiff, Nat.reduceAdd, Nat.reduceLeDiff, reduceCtorEq, Nat.reduceBEq, Nat.reduceLT, Nat.reduceMod, List.forall_mem_cons, t_eqFlt, tk_map, dp_map, toNat_pred, appE, rowsOf, List.take_length, List.length_cons, List.length_nil, Nat.zero_add, srow, irow, un_s, un_i, Zone.row, Zone_eta, un_Zone, Word.row, Word_eta, Own.row, Own_eta, Part.row, Part_eta, Seen.row, Seen_eta, Book.row, Book_eta, Sector.row, Sector_eta, HCraft.row, HCraft_eta, World.row, World_eta, PKind.row, PKind_eta, PPt.row, PPt_eta, Cell.row, Cell_eta, PBase.row, PBase_eta, Chg.row, Chg_eta, Fld.row, Fld_eta, Ent.row, Ent_eta, PBook.row, PBook_eta, Flt.row, Flt_eta, un_Word, un_Own, un_Part, un_Seen, un_Book, un_Sector, un_HCraft, un_World, un_PKind, un_PPt, un_Cell, un_PBase, un_Chg, un_Fld, un_Ent, un_PBook, un_Flt]
  refine ⟨fun h1 h => h1 (by rw [h]), fun h1 => ?_⟩
  refine loop_st (fun i : Nat => [(5, .int .i64 i)]) (fun _ => []) (fun i => i ≤ p.length ∧ ∀ j, j < i → p.getD j default = q.getD j default) (fun i => p.length - i) (0) (by simp only [u_E0, u_E1, u_M0, u_M1, w_setE0, w_setE1, w_setM0, w_setM1, reduceIte, Nat.reduceEqDiff]; exact ⟨by repeat' (first | exact trivial | refine ⟨.inr rfl, ?_⟩), by repeat' (first | exact trivial | refine ⟨rfl, ?_⟩), by first | rfl | simp [closedB, refsIn, refsInL, refsInO, dom, refsInL_nr, *], by first | rfl | simp [keepB, dom]⟩) ?_ ?_
  · exact ⟨Nat.zero_le _, by intro j hj; omega⟩
  intro i hi NX hN
  unfold l_laws_eqPlanFlightS_0; simp (config := { maxSteps := 2000000 }) only [bitvec_to_nat, reduceIte, Nat.reduceEqDiff, Nat.reduceAdd, Nat.reduceLeDiff, reduceCtorEq, Nat.reduceBEq, Nat.reduceLT, Nat.reduceMod, List.forall_mem_cons, t_eqFlt, tk_map, dp_map, toNat_pred, appE, rowsOf, List.take_length, List.length_cons, List.length_nil, Nat.zero_add, srow, irow, un_s, un_i, Zone.row, Zone_eta, un_Zone, Word.row, Word_eta, Own.row, Own_eta, Part.row, Part_eta, Seen.row, Seen_eta, Book.row, Book_eta, Sector.row, Sector_eta, HCraft.row, HCraft_eta, World.row, World_eta, PKind.row, PKind_eta, PPt.row, PPt_eta, Cell.row, Cell_eta, PBase.row, PBase_eta, Chg.row, Chg_eta, Fld.row, Fld_eta, Ent.row, Ent_eta, PBook.row, PBook_eta, Flt.row, Flt_eta, un_Word, un_Own, un_Part, un_Seen, un_Book, un_Sector, un_HCraft, un_World, un_PKind, un_PPt, un_Cell, un_PBase, un_Chg, un_Fld, un_Ent, un_PBook, un_Flt]
  have hx2 : i < p.length → _ := fun h => hx _ (getD_mem' h)
  repeat' (first | with_reducible apply And.intro | with_reducible intro _)
  all_goals first
    | omega
    | (refine hN (i + 1) _ (by simp only [u_E0, u_E1, u_M0, u_M1, w_setE0, w_setE1, w_setM0, w_setM1, reduceIte, Nat.reduceEqDiff]; exact ⟨by repeat' (first | exact trivial | refine ⟨.inr rfl, ?_⟩), by repeat' (first | exact trivial | refine ⟨rfl, ?_⟩), by first | rfl | simp [closedB, refsIn, refsInL, refsInO, dom, refsInL_nr, *], by first | rfl | simp [keepB, dom]⟩) ?_ ?_
       · exact ⟨by omega, all_snoc hi.2 (by with_reducible assumption)⟩
       · omega)
    | (intro h; subst h; exact absurd rfl (by with_reducible assumption))
    | (exact ext_of (by omega) fun j hj => hi.2 j (by omega))
    | grind
set_option maxHeartbeats 4000000 in
theorem c_markFltS (v : Nat) (k : Int) (a : List Flt) (ha : a.length ≤ 1048577) (hs : ∀ x ∈ a, x.rt.length ≤ 1048577) (hk : 0 ≤ k ∧ k ≤ 35184372088832) : Contract P 37 [.own 3 v 0 a.length, .int .i64 k] (FO 3 v 7 a) (.int .i64 (k + (cf a a.length : Nat))) (FO 3 v 7 (mfL k a)) := by
  have gs : True := trivial
  have gf : True := trivial
  have hli : True := trivial
  have hgm : True := trivial
  have hrw : True := trivial
  have hs1 : True := trivial
  have cl : ∀ (l : List Flt) (kk : Int) (i : Nat), closedB ⟨[(0, .own 3 v 0 a.length), (1, .int .i64 kk), (5, .int .i64 i)], FO 3 v 7 l⟩ = true := fun l kk i => by
    simp only [closedB, List.all_cons, Bool.and_eq_true]
    exact ⟨⟨by simp [refsIn, dom, FO], rfl, rfl, rfl⟩, FO_refs⟩
  refine fn_sound ((Env.nil P).add 66 t_markText h_markText) Go.Ve.hm k_laws_markPlanFlightS (Nat.le_of_ble_eq_true rfl) (FO_lt (by omega) (by omega)) ?_; unfold s_laws_markPlanFlightS
  simp (config := { maxSteps := 2000000 }) only [bitvec_to_nat, reduceIte, Nat.reduceEqDiff, Nat.reduceAdd, Nat.reduceLeDiff, reduceCtorEq, Nat.reduceBEq, Nat.reduceLT, Nat.reduceMod, List.forall_mem_cons, retG_ret, retQ_eq, retQ_eqN, retOk, keepB, re_tupl, orr_t, t_markText, setf0, setg1, setg2, setg3, setg4, setg5, setg6, own7, own_len, elf7, mk_rt, gs, gf, hli, hgm, hrw, Int.toNat_natCast, List.length_map, List.length_set, frows_len, Nat.sub_zero, Nat.zero_add, fam_ne, fam_ne', hs1, List.set_set]
  refine loop_F (fun b : Nat × List Flt => ⟨[(0, .own 3 v 0 a.length), (1, .int .i64 (k + (cf a b.1 : Nat))), (5, .int .i64 b.1)], FO 3 v 7 b.2⟩)
    (fun b => b.1 ≤ a.length ∧ b.2.length = a.length ∧ (∀ j, j < b.1 → b.2.getD j default = mkFlt (k + (cf a j : Nat)) (a.getD j default)) ∧ ∀ j, b.1 ≤ j → j < a.length → b.2.getD j default = a.getD j default)
    (fun b => a.length - b.1) (0, a) ?_ ⟨Nat.zero_le _, rfl, fun j hj => absurd hj (Nat.not_lt_zero _), fun j _ _ => rfl⟩ ?_
  · have e0 : k + ((cf a 0 : Nat) : Int) = k := by simp [cf]
    simp only [e0]
    exact ⟨by repeat' (first | exact trivial | refine ⟨.inr rfl, ?_⟩), wkM_self (FO_self (by omega)), cl _ _ _, keep_self⟩
  rintro ⟨i, l⟩ ⟨h1, h2, h3, h4⟩ NX hN
  simp only at h1 h2 h3 h4
  have hct := cf_le hs h1
  by_cases hi : i < a.length
  · have hli := h4 i (Nat.le_refl _) hi
    have hil : i < l.length := by omega
    have hx := hs _ (getD_mem' hi)
    have hgm : getM (nobjs (ffam 7 l)) (fam 7 i) = some (.arr 9 0 1 ((a.getD i default).rt.map srow)) := by rw [ffam_obj hil, hli]
    have gs : ∀ x : Flt, (l.set i x).getD i default = x := fun x => getD_seti' hil
    have gf : ∀ x : Flt, (frows 7 (l.set i x)).getD i [] = x.own (fam 7 i) := fun x => by rw [frows_get (by rw [List.length_set]; exact hil), gs]
    simp only [FO]
    have hM := (c_markByteArrayS 0 (k + (cf a i : Nat) + 1 + 1 + 1 + 1 + 1 + 1 + 1) (a.getD i default).rt hx (by omega)).ren (swp 3 (fam 7 i)) (swp_swp _ _)
    simp only [renL, ren, renM, renO, swp, reduceIte, Nat.reduceLT] at hM
    have hs1 : setM (nobjs (ffam 7 l)) (fam 7 i) (.arr 9 0 1 ((ms_ByteArray (k + (cf a i : Nat) + 1 + 1 + 1 + 1 + 1 + 1 + 1) (a.getD i default).rt.length).map srow)) = nobjs (ffam 7 (l.set i (mkFlt (k + (cf a i : Nat)) (a.getD i default)))) := by
      rw [show k + (cf a i : Nat) + 1 + 1 + 1 + 1 + 1 + 1 + 1 = k + (cf a i : Nat) + 7 from by omega]
      exact ffam_set (x := mkFlt (k + (cf a i : Nat)) (a.getD i default)) hil
    have hrw : frows 7 (l.set i ⟨mtx (k + (cf a i : Nat)), mtx (k + (cf a i : Nat) + 1), k + (cf a i : Nat) + 1 + 1, k + (cf a i : Nat) + 1 + 1 + 1, k + (cf a i : Nat) + 1 + 1 + 1 + 1, k + (cf a i : Nat) + 1 + 1 + 1 + 1 + 1, k + (cf a i : Nat) + 1 + 1 + 1 + 1 + 1 + 1, (a.getD i default).rt⟩) = frows 7 (l.set i (mkFlt (k + (cf a i : Nat)) (a.getD i default))) :=
      frows_own (by
        simp only [Flt.own, mkFlt, ms_ByteArray_len]
        have q2 : k + (cf a i : Nat) + 1 + 1 = k + (cf a i : Nat) + 2 := by omega
        have q3 : k + (cf a i : Nat) + 2 + 1 = k + (cf a i : Nat) + 3 := by omega
        have q4 : k + (cf a i : Nat) + 3 + 1 = k + (cf a i : Nat) + 4 := by omega
        have q5 : k + (cf a i : Nat) + 4 + 1 = k + (cf a i : Nat) + 5 := by omega
        have q6 : k + (cf a i : Nat) + 5 + 1 = k + (cf a i : Nat) + 6 := by omega
        simp only [q2, q3, q4, q5, q6])
    have e5 : k + ((cf a (i + 1) : Nat) : Int) = k + (cf a i : Int) + 1 + 1 + 1 + 1 + 1 + 1 + 1 + ((a.getD i default).rt.length : Nat) := by rw [cf_succ hi]; omega
    unfold l_laws_markPlanFlightS_0; simp (config := { maxSteps := 2000000 }) only [bitvec_to_nat, reduceIte, Nat.reduceEqDiff, Nat.reduceAdd, Nat.reduceLeDiff, reduceCtorEq, Nat.reduceBEq, Nat.reduceLT, Nat.reduceMod, List.forall_mem_cons, retG_ret, retQ_eq, retQ_eqN, retOk, keepB, re_tupl, orr_t, t_markText, setf0, setg1, setg2, setg3, setg4, setg5, setg6, own7, own_len, elf7, mk_rt, gs, gf, hli, hgm, hrw, Int.toNat_natCast, List.length_map, List.length_set, frows_len, Nat.sub_zero, Nat.zero_add, fam_ne, fam_ne', hs1, List.set_set]
    refine ⟨fun _ => ?_, fun h => absurd (by omega) h⟩
    repeat (refine ⟨by omega, ?_⟩)
    refine ⟨_, _, .inl ⟨_, hM, by simp [getM, fam_ne, hgm], by simp [dom], by simp [dom], by simp [refsInL, refsIn, dom], by simp [refsInO], rfl, by simp [refsInO]⟩, ?_⟩
    simp (config := { maxSteps := 2000000 }) only [bitvec_to_nat, reduceIte, Nat.reduceEqDiff, Nat.reduceAdd, Nat.reduceLeDiff, reduceCtorEq, Nat.reduceBEq, Nat.reduceLT, Nat.reduceMod, List.forall_mem_cons, retG_ret, retQ_eq, retQ_eqN, retOk, keepB, re_tupl, orr_t, t_markText, setf0, setg1, setg2, setg3, setg4, setg5, setg6, own7, own_len, elf7, mk_rt, gs, gf, hli, hgm, hrw, Int.toNat_natCast, List.length_map, List.length_set, frows_len, Nat.sub_zero, Nat.zero_add, fam_ne, fam_ne', hs1, List.set_set]
    rw [← e5]
    refine ⟨by omega, hN (i + 1, l.set i (mkFlt (k + (cf a i : Nat)) (a.getD i default))) _ ⟨by repeat' (first | exact trivial | refine ⟨.inr rfl, ?_⟩), ?_, cl _ _ _, keep_self⟩ ⟨hi, by rw [List.length_set]; exact h2, fun j hj => ?_, fun j h6 h7 => ?_⟩ (by simp only; omega)⟩
    · exact wkM_self (FO_self (by omega))
    · simp only at hj ⊢
      by_cases e : j = i
      · subst e; exact gs _
      · rw [getD_setn' (Ne.symm e)]; exact h3 j (by omega)
    · simp only at h6 ⊢
      rw [getD_setn' (by omega)]; exact h4 j (by omega) h7
  · have hl : l = mfL k a := ext_of (by rw [mfL_len]; exact h2) fun j hj => by rw [mfL_get (by omega)]; exact h3 j (by omega)
    have e : i = a.length := by omega
    subst hl
    subst e
    simp only [FO]
    unfold l_laws_markPlanFlightS_0; simp (config := { maxSteps := 2000000 }) only [bitvec_to_nat, reduceIte, Nat.reduceEqDiff, Nat.reduceAdd, Nat.reduceLeDiff, reduceCtorEq, Nat.reduceBEq, Nat.reduceLT, Nat.reduceMod, List.forall_mem_cons, retG_ret, retQ_eq, retQ_eqN, retOk, keepB, re_tupl, orr_t, t_markText, setf0, setg1, setg2, setg3, setg4, setg5, setg6, own7, own_len, elf7, mk_rt, gs, gf, hli, hgm, hrw, Int.toNat_natCast, List.length_map, List.length_set, frows_len, Nat.sub_zero, Nat.zero_add, fam_ne, fam_ne', hs1, List.set_set]
    exact ⟨fun h => absurd h (by omega), fun _ => ⟨wkM_self fun p hp => FO_self (o := 3) (v := v) (by omega) p (List.mem_cons_of_mem _ hp), FO_refs (o := 3) (v := v), keep_self (M := FO 3 v 7 (mfL k a))⟩⟩
set_option maxHeartbeats 4000000 in
theorem c_heldFltS (t t' : Nat) (k : Int) (a : List Flt) (ha : a.length ≤ 1048577) (hs : ∀ x ∈ a, x.rt.length ≤ 1048577) (hk : 0 ≤ k ∧ k ≤ 35184372088832) : Contract P 38 [.sl t 8 ((mfL k a).map (Flt.row t')), .int .i64 k] [] (.int .i64 (k + (cf a a.length : Nat))) [] := by
  refine fn_sound (((Env.nil P).add 66 t_markText h_markText).add 73 t_heldByteArrayS h_heldByteArrayS) hm k_laws_heldPlanFlightS (Nat.le_of_ble_eq_true rfl) rfl ?_; unfold s_laws_heldPlanFlightS; simp (config := { maxSteps := 2000000 }) only [bitvec_to_nat, reduceIte, Nat.reduceEqDiff, Nat.reduceAdd, Nat.reduceLeDiff, reduceCtorEq, Nat.reduceBEq, Nat.reduceLT, Nat.reduceMod, List.forall_mem_cons, t_markText, t_heldByteArrayS, tk_map, dp_map, toNat_pred, appE, rowsOf, List.take_length, List.length_cons, List.length_nil, Nat.zero_add, srow, irow, un_s, un_i, Zone.row, Zone_eta, un_Zone, Word.row, Word_eta, Own.row, Own_eta, Part.row, Part_eta, Seen.row, Seen_eta, Book.row, Book_eta, Sector.row, Sector_eta, HCraft.row, HCraft_eta, World.row, World_eta, PKind.row, PKind_eta, PPt.row, PPt_eta, Cell.row, Cell_eta, PBase.row, PBase_eta, Chg.row, Chg_eta, Fld.row, Fld_eta, Ent.row, Ent_eta, PBook.row, PBook_eta, Flt.row, Flt_eta, un_Word, un_Own, un_Part, un_Seen, un_Book, un_Sector, un_HCraft, un_World, un_PKind, un_PPt, un_Cell, un_PBase, un_Chg, un_Fld, un_Ent, un_PBook, un_Flt, Flt.row, Flt_eta, Int.toNat_natCast, List.length_map, Nat.sub_zero, Nat.zero_add, mfL_len, ms_ByteArray_len]
  refine loop_st (fun i : Nat => [(1, .int .i64 (k + (cf a i : Nat))), (5, .int .i64 i)]) (fun _ => []) (fun i => i ≤ a.length) (fun i => a.length - i) 0 ?_ (Nat.zero_le _) ?_
  · have e0 : k + ((cf a 0 : Nat) : Int) = k := by simp [cf]
    simp only [e0]
    simp only [u_E0, u_E1, u_M0, u_M1, w_setE0, w_setE1, w_setM0, w_setM1, reduceIte, Nat.reduceEqDiff]; exact ⟨by repeat' (first | exact trivial | refine ⟨.inr rfl, ?_⟩), by repeat' (first | exact trivial | refine ⟨rfl, ?_⟩), by first | rfl | simp [closedB, refsIn, refsInL, refsInO, dom, refsInL_nr, *], by first | rfl | simp [keepB, dom]⟩
  intro i hi NX hN
  have hct := cf_le hs hi
  by_cases h : i < a.length
  · have hg := mfL_get (k := k) h
    have hx := hs _ (getD_mem' h)
    have hq2 : k + (cf a i : Nat) + 1 + 1 = k + (cf a i : Nat) + 2 := by omega
    have hq3 : k + (cf a i : Nat) + 2 + 1 = k + (cf a i : Nat) + 3 := by omega
    have hq4 : k + (cf a i : Nat) + 3 + 1 = k + (cf a i : Nat) + 4 := by omega
    have hq5 : k + (cf a i : Nat) + 4 + 1 = k + (cf a i : Nat) + 5 := by omega
    have hq6 : k + (cf a i : Nat) + 5 + 1 = k + (cf a i : Nat) + 6 := by omega
    have hq7 : k + (cf a i : Nat) + 6 + 1 = k + (cf a i : Nat) + 7 := by omega
    have e5 : k + ((cf a (i + 1) : Nat) : Int) = k + (cf a i : Int) + 7 + ((a.getD i default).rt.length : Nat) := by rw [cf_succ h]; omega
    unfold l_laws_heldPlanFlightS_0; simp (config := { maxSteps := 2000000 }) only [bitvec_to_nat, reduceIte, Nat.reduceEqDiff, Nat.reduceAdd, Nat.reduceLeDiff, reduceCtorEq, Nat.reduceBEq, Nat.reduceLT, Nat.reduceMod, List.forall_mem_cons, t_markText, t_heldByteArrayS, tk_map, dp_map, toNat_pred, appE, rowsOf, List.take_length, List.length_cons, List.length_nil, Nat.zero_add, srow, irow, un_s, un_i, Zone.row, Zone_eta, un_Zone, Word.row, Word_eta, Own.row, Own_eta, Part.row, Part_eta, Seen.row, Seen_eta, Book.row, Book_eta, Sector.row, Sector_eta, HCraft.row, HCraft_eta, World.row, World_eta, PKind.row, PKind_eta, PPt.row, PPt_eta, Cell.row, Cell_eta, PBase.row, PBase_eta, Chg.row, Chg_eta, Fld.row, Fld_eta, Ent.row, Ent_eta, PBook.row, PBook_eta, Flt.row, Flt_eta, un_Word, un_Own, un_Part, un_Seen, un_Book, un_Sector, un_HCraft, un_World, un_PKind, un_PPt, un_Cell, un_PBase, un_Chg, un_Fld, un_Ent, un_PBook, un_Flt, Flt.row, Flt_eta, Int.toNat_natCast, List.length_map, Nat.sub_zero, Nat.zero_add, mfL_len, ms_ByteArray_len, hg, mkFlt, not_true_eq_false, ne_eq, bne_self_eq_false, hq2, hq3, hq4, hq5, hq6, hq7]
    repeat' (first | with_reducible apply And.intro | with_reducible intro _)
    all_goals first
      | omega
      | rfl
      | (rename_i h; exact absurd rfl h)
      | (refine hN (i + 1) _ (by simp only [e5]; simp only [u_E0, u_E1, u_M0, u_M1, w_setE0, w_setE1, w_setM0, w_setM1, reduceIte, Nat.reduceEqDiff]; exact ⟨by repeat' (first | exact trivial | refine ⟨.inr rfl, ?_⟩), by repeat' (first | exact trivial | refine ⟨rfl, ?_⟩), by first | rfl | simp [closedB, refsIn, refsInL, refsInO, dom, refsInL_nr, *], by first | rfl | simp [keepB, dom]⟩) ?_ ?_ <;> omega)
      | trace_state
  · have e : i = a.length := by omega
    subst e
    unfold l_laws_heldPlanFlightS_0; simp (config := { maxSteps := 2000000 }) only [bitvec_to_nat, reduceIte, Nat.reduceEqDiff, Nat.reduceAdd, Nat.reduceLeDiff, reduceCtorEq, Nat.reduceBEq, Nat.reduceLT, Nat.reduceMod, List.forall_mem_cons, t_markText, t_heldByteArrayS, tk_map, dp_map, toNat_pred, appE, rowsOf, List.take_length, List.length_cons, List.length_nil, Nat.zero_add, srow, irow, un_s, un_i, Zone.row, Zone_eta, un_Zone, Word.row, Word_eta, Own.row, Own_eta, Part.row, Part_eta, Seen.row, Seen_eta, Book.row, Book_eta, Sector.row, Sector_eta, HCraft.row, HCraft_eta, World.row, World_eta, PKind.row, PKind_eta, PPt.row, PPt_eta, Cell.row, Cell_eta, PBase.row, PBase_eta, Chg.row, Chg_eta, Fld.row, Fld_eta, Ent.row, Ent_eta, PBook.row, PBook_eta, Flt.row, Flt_eta, un_Word, un_Own, un_Part, un_Seen, un_Book, un_Sector, un_HCraft, un_World, un_PKind, un_PPt, un_Cell, un_PBase, un_Chg, un_Fld, un_Ent, un_PBook, un_Flt, Flt.row, Flt_eta, Int.toNat_natCast, List.length_map, Nat.sub_zero, Nat.zero_add, mfL_len, ms_ByteArray_len]
    repeat' (first | with_reducible apply And.intro | with_reducible intro _)
    all_goals first
      | omega
      | rfl
      | (exfalso; omega)
      | trace_state
theorem c_markNFltS (t : Nat) (k : Int) : Contract P 37 [.sl t 8 [], .int .i64 k] [] (.int .i64 k) [] := by
  refine fn_sound ((Env.nil P).add 66 t_markText h_markText) hm k_laws_markPlanFlightS (Nat.le_of_ble_eq_true rfl) rfl ?_; unfold s_laws_markPlanFlightS; simp (config := { maxSteps := 2000000 }) only [bitvec_to_nat, reduceIte, Nat.reduceEqDiff, Nat.reduceAdd, Nat.reduceLeDiff, reduceCtorEq, Nat.reduceBEq, Nat.reduceLT, Nat.reduceMod, List.forall_mem_cons, t_markText, List.map_nil, List.length_nil]
  refine loop_st (fun _ : Nat => [(5, .int .i64 0)]) (fun _ => []) (fun _ => True) (fun i => i) 0 (by simp only [u_E0, u_E1, u_M0, u_M1, w_setE0, w_setE1, w_setM0, w_setM1, reduceIte, Nat.reduceEqDiff]; exact ⟨by repeat' (first | exact trivial | refine ⟨.inr rfl, ?_⟩), by repeat' (first | exact trivial | refine ⟨rfl, ?_⟩), by first | rfl | simp [closedB, refsIn, refsInL, refsInO, dom, refsInL_nr, *], by first | rfl | simp [keepB, dom]⟩) trivial ?_
  intro i _ NX hN
  unfold l_laws_markPlanFlightS_0; simp (config := { maxSteps := 2000000 }) only [bitvec_to_nat, reduceIte, Nat.reduceEqDiff, Nat.reduceAdd, Nat.reduceLeDiff, reduceCtorEq, Nat.reduceBEq, Nat.reduceLT, Nat.reduceMod, List.forall_mem_cons, t_markText, List.map_nil, List.length_nil]
  first
    | exact fun h => absurd h (by omega)
    | exact ⟨fun h => absurd h (by omega), fun _ => by first | trivial | rfl⟩
end
end Go.Ve

namespace Go.Ve
noncomputable section
open Go.Proofs
set_option linter.unusedSimpArgs false
set_option linter.unusedVariables false
set_option maxRecDepth 100000
open Go.ChangeShapes Go.WideShapes
end
end Go.Ve

namespace Go.Ve
noncomputable section
open Go.Proofs
set_option linter.unusedSimpArgs false
set_option linter.unusedVariables false
set_option maxRecDepth 100000
open Go.ChangeShapes Go.WideShapes
theorem FO_ren {o v k k' : Nat} {l : List Flt} {σ : Nat → Nat} (hA : ∀ i, σ (fam k i) = fam k' i) : renM σ (FO o v k l) = FO (σ o) v k' l := by
  have eA : (ffam k l).map (NRow.ren σ) = ffam k' l := by
    refine List.ext_getElem (by simp [ffam, nfam]) fun i h1 h2 => ?_
    simp [ffam, nfam, NRow.ren, hA, renO]
  have eB : (frows k l).map (renL σ) = frows k' l := by
    refine List.ext_getElem (by simp [frows]) fun i h1 h2 => ?_
    simp [frows, Flt.own, renL, ren, hA]
  simp only [FO, renM, renO, renM_nobjs, eA, eB]
  rw [if_neg (by omega)]
theorem FO_uniq {o v k : Nat} {l : List Flt} (ho : o < 1000) : uniq (FO o v k l) := by
  unfold uniq FO
  rw [List.pairwise_cons]
  refine ⟨fun p hp => ?_, nfam_pw⟩
  have := bigs_ffam p hp
  (try simp only); omega
theorem FO_mem {o v k : Nat} {l : List Flt} {p : Nat × AObj} (h : p ∈ FO o v k l) : p.1 = o ∨ ∃ i, p.1 = fam k i := by
  simp only [FO, List.mem_cons] at h
  rcases h with rfl | h
  · exact .inl rfl
  · obtain ⟨i, _, rfl⟩ := ffam_at h
    exact .inr ⟨i, rfl⟩
theorem FO_offs {o v k q : Nat} {l : List Flt} (h : q ≠ o) (hq : q < 1000) : offs (FO o v k l) q := fun p hp e => by
  rcases FO_mem hp with h1 | ⟨i, h1⟩
  · omega
  · rw [h1] at e; unfold fam at e; omega
theorem FO_99 {o v k : Nat} {l : List Flt} : ∀ p ∈ FO o v k l, No99O p.2 := fun p hp => by
  simp only [FO, List.mem_cons] at hp
  rcases hp with rfl | hp
  · simp only [No99O]
    have : ∀ (l : List (List AV)), (∀ r ∈ l, No99L r) → No99LL l := fun l h => by
      induction l with
      | nil => simp [No99LL]
      | cons x l ih => simp only [No99LL]; exact ⟨h x (by simp), ih fun r hr => h r (by simp [hr])⟩
    refine this _ fun r hr => ?_
    obtain ⟨i, hi, rfl⟩ := List.mem_iff_getElem.1 hr
    simp [frows, Flt.own, No99L, No99]
  · obtain ⟨i, hi, rfl⟩ := ffam_at hp
    exact no99_str _
theorem FO_dom {o v v' k : Nat} {l l' : List Flt} (h : l.length = l'.length) : dom (FO o v k l) = dom (FO o v' k l') := by
  simp only [FO, dom, List.map_cons, List.cons.injEq, true_and]
  refine List.ext_getElem (by simp [nobjs, ffam, nfam, h]) fun i h1 h2 => ?_
  simp [nobjs, ffam, nfam]
theorem ap_same {B : List (Nat × AObj)} : ∀ {U V : List (Nat × AObj)}, uniq U → dom V = dom U → applyU (U ++ B) V = V ++ B
  | [], V, _, hd => by
    have : V = [] := by simpa [dom] using hd
    subst this; rfl
  | (k, x) :: U, [], _, hd => by simp [dom] at hd
  | (k, x) :: U, (k', y) :: V, h, hd => by
    simp only [dom, List.map_cons, List.cons.injEq] at hd
    obtain ⟨rfl, hd⟩ := hd
    unfold uniq at h
    rw [List.pairwise_cons] at h
    show setM (applyU ((k', x) :: (U ++ B)) V) k' y = (k', y) :: (V ++ B)
    rw [ap_cons, ap_same h.2 hd]
    · simp [setM]
    · intro q hq e
      have : q.1 ∈ List.map (fun x => x.1) U := by rw [← hd]; exact List.mem_map.2 ⟨q, hq, rfl⟩
      obtain ⟨p, hp, hpe⟩ := List.mem_map.1 this
      exact h.1 p hp (by rw [hpe, e])
theorem ap_same0 {U V : List (Nat × AObj)} (h : uniq U) (hd : dom V = dom U) : applyU U V = V := by
  have := ap_same (B := []) h hd
  simpa using this
theorem callR_same {P : Program} {f : FuncId} {args : List AV} {pre post : List (Nat × AObj)} {r : AV} {M : Nat → Option AObj} (hC : Contract P f args pre r post) (hd : dom post = dom pre) (hM : ∀ p ∈ pre, M p.1 = some p.2) (ha : refsInL (dom pre) args = true) (hp : (pre.all fun p => refsInO (dom pre) p.2) = true) (hr : noref r = true) (hq : (post.all fun p => refsInO (dom post) p.2) = true) :
    callR P f args M r post := by
  refine .inl ⟨pre, hC, hM, fun p hp => .inl ?_, ?_, ha, hp, refsIn_nr _ _ hr, hq⟩
  · have : p.1 ∈ dom post := dom_mem hp
    rw [hd] at this
    simpa using this
  · rw [hd, List.all_eq_true]
    intro o ho; simpa using ho
theorem purRs_fr (K : Nat → Option AObj) : ∀ {l : List Flt} {f : Nat → Nat}, (∀ i, i < l.length → K (f i) = some (.arr 9 0 1 ((l.getD i default).rt.map srow))) → purRs K (l.mapIdx fun i x => x.own (f i)) = some (l.map (Flt.row 99))
  | [], f, _ => rfl
  | x :: l, f, h => by
    have h0 := h 0 (by simp)
    have ih := purRs_fr K (l := l) (f := fun i => f (i + 1)) fun i hi => by simpa using h (i + 1) (by simpa using hi)
    have ht : (x.rt.map srow).take x.rt.length = x.rt.map srow := List.take_of_length_le (by simp)
    simp only [List.getD_cons_zero] at h0
    have hp : purR K (x.own (f 0)) = some (Flt.row 99 x) := by
      simp only [Flt.own, purR, h0, Nat.reduceLT, if_true, isLeaf, noref, Bool.and_self, List.drop_zero, ht, Flt.row]
    simp only [List.mapIdx_cons, purRs, ih, hp, List.map_cons]
theorem purN_FO {M K : Nat → Option AObj} {o v k n : Nat} {l : List Flt} (hn : n = l.length) (hM : ∀ p ∈ FO o v k l, M p.1 = some p.2) (hK : ∀ p ∈ FO o v k l, K p.1 = some p.2) : purN M K (.own o v 0 n) = some (.sl 99 8 (l.map (Flt.row 99))) := by
  have h1 := hM (o, .arr (1000000 + 63) v 8 (frows k l)) (by simp [FO])
  simp only at h1
  have hA := purRs_fr K (l := l) (f := fam k) fun i hi => hK (fam k i, .arr 9 0 1 ((l.getD i default).rt.map srow)) (by simp only [FO]; exact List.mem_cons_of_mem _ (ffam_in hi))
  have t1 : (frows k l).take n = frows k l := List.take_of_length_le (by rw [frows_len, hn]; exact Nat.le_refl _)
  have hA' : purRs K (frows k l) = _ := hA
  simp only [purN, h1, if_true, List.drop_zero, t1, hA', Option.map_some]
theorem tag_Flts {t : Nat} {l : List Flt} : tag0LL (l.map (Flt.row t)) = l.map (Flt.row 0) := tag_rows (f := Flt.row) (fun x => by simp only [Flt.row, tag0L, tag0]; rw [tag_flat (f := srow) fun _ => rfl]) l
theorem tag_sl {t s : Nat} {xs : List (List AV)} : tag0 (.sl t s xs) = .sl 0 s (tag0LL xs) := rfl
theorem tag_int {k : IntKind} {n : Int} : tag0 (.int k n) = .int k n := rfl
theorem no98_Flts {t : Nat} (ht : t ≠ 98) {l : List Flt} : no98LL (l.map (Flt.row t)) = true := no98_rows (f := Flt.row t) (fun x => by simp only [Flt.row, no98L, no98]; rw [no98_rows (f := srow) fun _ => rfl]; simp [ht]) l
theorem FO_keep {o v k : Nat} {l : List Flt} {B : List (Nat × AObj)} (ho : 100 ≤ o % 1000) (hk : 100 ≤ k) (hk2 : k < 1000) : keepB (FO o v k l ++ B) [] = keepB B [] := keep_appL (keep_big (FO_100 ho hk hk2))
theorem FO_dis {o v k o' v' k' : Nat} {l l' : List Flt} (h1 : o ≠ o') (ho : o < 1000) (ho' : o' < 1000) (hk : k < 1000) (hk' : k' < 1000) (hn : k ≠ k') : dis (FO o v k l) (FO o' v' k' l') := fun p hp q hq e => by
  rcases FO_mem hp with h1 | ⟨i, h1⟩ <;> rcases FO_mem hq with h2 | ⟨j, h2⟩ <;> rw [h1, h2] at e <;> (try unfold fam at e) <;> omega
theorem bk_FO {b : PBook} {v o k : Nat} {l : List Flt} (h1 : 613 < o) (ho : o < 1000) (hk : k < 107) : dis (KA b) (FO o v k l) := fun p hp q hq e => by
  rcases bk_mem hp with h1 | h1 | h1 | ⟨i, h1⟩ <;> rcases FO_mem hq with h2 | ⟨j, h2⟩ <;> rw [h1, h2] at e <;> (try unfold fam at e) <;> omega
abbrev RA (v : Nat) (l : List Flt) : List (Nat × AObj) := FO 731 v 104 l
theorem RA_uniq {v : Nat} {l : List Flt} : uniq (RA v l) := FO_uniq (by omega)
theorem RA_lo {v q : Nat} {l : List Flt} (h : q < 731) : offs (RA v l) q := FO_offs (by omega) (by omega)
theorem RA_hi {v q : Nat} {l : List Flt} (h : 731 < q) (h2 : q < 1000) : offs (RA v l) q := FO_offs (by omega) (by omega)
theorem RA_k {v : Nat} {l : List Flt} {B : List (Nat × AObj)} : keepB (RA v l ++ B) [] = keepB B [] := FO_keep (by omega) (by omega) (by omega)
theorem RA_k0 {v : Nat} {l : List Flt} : keepB (RA v l) [] = true := keep_big (FO_100 (by omega) (by omega) (by omega))
theorem RA_ov {v : Nat} {k : Int} {l : List Flt} {B : List (Nat × AObj)} : applyU (RA v l ++ B) (RA v (mfL k l)) = RA v (mfL k l) ++ B := ap_same RA_uniq (FO_dom mfL_len)
theorem RA_ov0 {v : Nat} {k : Int} {l : List Flt} : applyU (RA v l) (RA v (mfL k l)) = RA v (mfL k l) := ap_same0 RA_uniq (FO_dom mfL_len)
theorem KARA {b : PBook} {v : Nat} {l : List Flt} : dis (KA b) (RA v l) := bk_FO (by omega) (by omega) (by omega)
theorem RAKA {b : PBook} {v : Nat} {l : List Flt} : dis (RA v l) (KA b) := dis_symm KARA
theorem RA_r99 {v : Nat} {l : List Flt} : ∀ p ∈ (RA v l).reverse, No99O p.2 := fun p hp => FO_99 p (List.mem_reverse.1 hp)
theorem iAllRA (b : PBook) (hf : b.fine) (hnm : b.names) (hok : b.ok) : Contract P 35 [.agg (b.row 0)] [] (.own 731 (allL b).length 0 (allL b).length) (RA (allL b).length (allL b)).reverse := by
  have h := ((c_iPlAllY b hf hnm hok).ren (swp 103 731) (swp_swp _ _))
  rw [FO_ren (k' := 104) (fun i => swp_fam (by omega) (by omega))] at h
  exact h.post_eq (funext fun o => getM_rev RA_uniq o)
abbrev RB (v : Nat) (l : List Flt) : List (Nat × AObj) := FO 741 v 105 l
theorem RB_uniq {v : Nat} {l : List Flt} : uniq (RB v l) := FO_uniq (by omega)
theorem RB_lo {v q : Nat} {l : List Flt} (h : q < 741) : offs (RB v l) q := FO_offs (by omega) (by omega)
theorem RB_hi {v q : Nat} {l : List Flt} (h : 741 < q) (h2 : q < 1000) : offs (RB v l) q := FO_offs (by omega) (by omega)
theorem RB_k {v : Nat} {l : List Flt} {B : List (Nat × AObj)} : keepB (RB v l ++ B) [] = keepB B [] := FO_keep (by omega) (by omega) (by omega)
theorem RB_k0 {v : Nat} {l : List Flt} : keepB (RB v l) [] = true := keep_big (FO_100 (by omega) (by omega) (by omega))
theorem KARB {b : PBook} {v : Nat} {l : List Flt} : dis (KA b) (RB v l) := bk_FO (by omega) (by omega) (by omega)
theorem RBKA {b : PBook} {v : Nat} {l : List Flt} : dis (RB v l) (KA b) := dis_symm KARB
theorem RB_r99 {v : Nat} {l : List Flt} : ∀ p ∈ (RB v l).reverse, No99O p.2 := fun p hp => FO_99 p (List.mem_reverse.1 hp)
theorem iAllRB (b : PBook) (hf : b.fine) (hnm : b.names) (hok : b.ok) : Contract P 35 [.agg (b.row 0)] [] (.own 741 (allL b).length 0 (allL b).length) (RB (allL b).length (allL b)).reverse := by
  have h := ((c_iPlAllY b hf hnm hok).ren (swp 103 741) (swp_swp _ _)).ren (swpF 104 105) (swpF_swpF (by omega) (by omega))
  rw [FO_ren (k' := 104) (fun i => swp_fam (by omega) (by omega)), FO_ren (k' := 105) (fun i => swpF_fam (by omega))] at h
  exact h.post_eq (funext fun o => getM_rev RB_uniq o)
theorem FO_plain {o v k : Nat} {l : List Flt} : ((FO o v k l).reverse.all fun p => plainO p.2) = true := by
  rw [List.all_reverse, List.all_eq_true]
  intro p hp
  simp only [FO, List.mem_cons] at hp
  rcases hp with rfl | hp
  · simp only [plainO]
    rw [List.all_eq_true]
    intro r hr
    obtain ⟨i, hi, rfl⟩ := List.mem_iff_getElem.1 hr
    simp [frows, Flt.own, plainL, plainV]
  · obtain ⟨i, hi, rfl⟩ := ffam_at hp
    simp [plainO, srow, plainL, plainV]
theorem FO_refV {o v k n : Nat} {l : List Flt} : refsIn (dom (FO o v k l).reverse) (.own o v 0 n) = true := by
  simp [FO, dom, refsIn]
theorem FO_refr {o v k : Nat} {l : List Flt} : ((FO o v k l).reverse.all fun p => refsInO (dom (FO o v k l).reverse) p.2) = true := by
  rw [List.all_reverse]
  have : ∀ {d : List Nat}, (∀ q ∈ dom (FO o v k l), q ∈ d) → ((FO o v k l).all fun p => refsInO d p.2) = true := fun {d} h => by
    simp only [FO, List.all_cons, Bool.and_eq_true]
    refine ⟨?_, ffam_refs⟩
    simp only [refsInO]
    rw [if_neg (by omega)]
    exact frows_refs fun i hi => h _ (by simp only [FO, dom, List.map_cons]; exact List.mem_cons_of_mem _ (ffam_dom hi))
  exact this fun q hq => by rw [dom_rev]; simpa using hq
theorem FO_get {o v k : Nat} {l : List Flt} : getM (FO o v k l) o = some (.arr (1000000 + 63) v 8 (frows k l)) := by simp only [FO, getM, if_true]
theorem FO_getA {o v k : Nat} {l : List Flt} {B : List (Nat × AObj)} : getM (FO o v k l ++ B) o = some (.arr (1000000 + 63) v 8 (frows k l)) := getM_app_some FO_get
theorem RAB {v v' : Nat} {l l' : List Flt} : dis (RA v l) (RB v' l') := FO_dis (by omega) (by omega) (by omega) (by omega) (by omega) (by omega)
theorem RBA {v v' : Nat} {l l' : List Flt} : dis (RB v' l') (RA v l) := dis_symm RAB
theorem markRA (v : Nat) (k : Int) (a : List Flt) (ha : a.length ≤ 1048577) (hs : ∀ x ∈ a, x.rt.length ≤ 1048577) (hk : 0 ≤ k ∧ k ≤ 35184372088832) : Contract P 37 [.own 731 v 0 a.length, .int .i64 k] (RA v a) (.int .i64 (k + (cf a a.length : Nat))) (RA v (mfL k a)) := by
  have h := ((c_markFltS v k a ha hs hk).ren (swp 3 731) (swp_swp _ _)).ren (swpF 7 104) (swpF_swpF (by omega) (by omega))
  rw [FO_ren (k' := 7) (fun i => swp_fam (by omega) (by omega)), FO_ren (k' := 104) (fun i => swpF_fam (by omega)), FO_ren (k' := 7) (fun i => swp_fam (by omega) (by omega)), FO_ren (k' := 104) (fun i => swpF_fam (by omega))] at h
  exact h
end
end Go.Ve

namespace Go.Ve
noncomputable section
open Go.Proofs
set_option linter.unusedSimpArgs false
set_option linter.unusedVariables false
set_option maxRecDepth 100000
open Go.ChangeShapes Go.WideShapes
theorem no99_Flts {l : List Flt} : No99LL (l.map (Flt.row 0)) := by
  induction l with
  | nil => simp [No99LL]
  | cons x l ih => simp only [List.map_cons, No99LL]; exact ⟨by simp [Flt.row, No99L, No99, no99_str], ih⟩
def t_sPlAll : List AV → Option (Prop × AV)
  | [.agg [.sl 0 3 b_ks, .sl 0 3 b_ps, .sl 0 2 b_es]] => some ((((b_ks.map unPKind).map PKind.row = b_ks) ∧ ((b_ps.map unPPt).map PPt.row = b_ps) ∧ ((b_es.map unEnt).map (Ent.row 0) = b_es)) ∧ (PBook.fine (PBook.mk (b_ks.map unPKind) (b_ps.map unPPt) (b_es.map unEnt))), .sl 0 8 ((allL (PBook.mk (b_ks.map unPKind) (b_ps.map unPPt) (b_es.map unEnt))).map (Flt.row 0)))
  | _ => none
theorem h_sPlAll : ∀ args p v, t_sPlAll args = some (p, v) → p → Contract P 34 args [] v [] ∧ noref v = true ∧ No99 v := by
  intro args p v h1 h2
  unfold t_sPlAll at h1
  split at h1
  · rename_i b_ks b_ps b_es
    cases h1
    obtain ⟨⟨e0, e1, e2⟩, HP⟩ := h2
    have := c_sPlAll (PBook.mk (b_ks.map unPKind) (b_ps.map unPPt) (b_es.map unEnt)) HP
    exact ⟨by simpa only [e0, e1, e2, PBook.row] using this, rfl, by simp only [No99]; exact ⟨by omega, no99_Flts⟩⟩
  · cases h1
set_option maxHeartbeats 8000000 in
theorem c_lawAY (b : PBook) (hfa : b.fitp) (hv : b.ok) : Contract P 8 [.agg (b.row 1)] [] (.bool true) [] := by
  have hst : True := trivial
  have hso : True := trivial
  have z2 : PBook.sz b 1048576 ≤ 1048576 := by have := (meas_PBook b 1048576 (by omega)).2.2; omega
  have hn1 : True := trivial
  simp only [PBook.row]
  refine fn_sound (((Env.nil P).add 18 t_szPBook h_szPBook).add 34 t_sPlAll h_sPlAll) hm k_laws_FnExactPlanAll (Nat.le_of_ble_eq_true rfl) rfl ?_; unfold s_laws_FnExactPlanAll; simp (config := { maxSteps := 2000000, maxDischargeDepth := 8 }) only [bitvec_to_nat, reduceIte, Nat.reduceEqDiff, Nat.reduceAdd, Nat.reduceLeDiff, reduceCtorEq, Nat.reduceBEq, Nat.reduceLT, Nat.reduceMod, List.forall_mem_cons, t_szPBook, t_sPlAll, tk_map, dp_map, toNat_pred, appE, rowsOf, List.take_length, List.length_cons, List.length_nil, Nat.zero_add, srow, irow, un_s, un_i, Zone.row, Zone_eta, un_Zone, Word.row, Word_eta, Own.row, Own_eta, Part.row, Part_eta, Seen.row, Seen_eta, Book.row, Book_eta, Sector.row, Sector_eta, HCraft.row, HCraft_eta, World.row, World_eta, PKind.row, PKind_eta, PPt.row, PPt_eta, Cell.row, Cell_eta, PBase.row, PBase_eta, Chg.row, Chg_eta, Fld.row, Fld_eta, Ent.row, Ent_eta, PBook.row, PBook_eta, Flt.row, Flt_eta, un_Word, un_Own, un_Part, un_Seen, un_Book, un_Sector, un_HCraft, un_World, un_PKind, un_PPt, un_Cell, un_PBase, un_Chg, un_Fld, un_Ent, un_PBook, un_Flt, Chg.row, Chg_eta, PBook.row, PBook_eta, bkV, List.length_map, Int.toNat_natCast, Nat.sub_zero, and_self, eq_self, not_true_eq_false, ne_eq, bne_self_eq_false, hst, hso, hn1,  List.nil_append, offs_getA, offs_get, offs_setA, offs_set, ap_cons, ap_skip, ap_skip0, ap_over, ap_over0, ap_self, ap_self0, ap_new, ap_appU, KA_lo, KA_hi, KB_lo, KB_hi, KAB, KBA, RA_lo, RA_hi, RB_lo, RB_hi, RA_uniq, RB_uniq, RA_k, RA_k0, RB_k, RB_k0, RA_ov, RA_ov0, FO_get, FO_getA, KARA, RAKA, KARB, RBKA, RAB, RBA, offs_gone, offs_rev, dis_goneL, dis_goneR, dis_revR, KA_uniq, KB_uniq, KA_k, KA_k0, KB_k, KB_k0, KA_k', KA_k0', KB_k', KB_k0', List.cons_append, List.nil_append, List.append_assoc]
  refine ⟨⟨by omega, hfa⟩, fun g1 => ?_⟩
  have hsA : b.small := PBook.sz_ok (a := 1048576) (by omega) (by omega)
  have fiA : b.fine := PBook.sz_fine (a := 1048576) (by omega) (by omega)
  have nmA : b.names := ⟨hfa.1.2, hfa.2.1.2⟩
  have hTA := c_toPBook b hsA
  have n9A : No99 (.agg (b.row 0)) := by simp [PBook.row, No99, No99L, no99_PKind, no99_PPt, no99_Ent]
  have hcA : cntB b ≤ 20000000000000 := cntB_le hsA
  have eqA := eqBookC b hsA
  have mkA := markBookA 1 b hsA (by omega)
  have hL : allL b = flA b b.es.length := if_pos hv
  have hrt : ∀ y ∈ allL b, y.rt.length ≤ 1048577 := by rw [hL]; exact flA_rt fiA _
  have hln : (allL b).length ≤ 12 := by rw [hL]; have := flA_len (b := b) b.es.length; have := hv.1.2; omega
  have hcf := cf_le hrt (Nat.le_refl _)
  have eqF : Contract P 36 [.sl 0 8 ((allL b).map (Flt.row 0)), .sl 0 8 ((allL b).map (Flt.row 0))] [] (.bool true) [] := by
    have h := c_eqFltS 0 0 (allL b) (allL b) (by omega) (fun y hy => by have := hrt y hy; omega)
    simpa using h
  have hH := c_heldFltS 0 0 1 (allL b) (by omega) hrt (by omega)
  have hI1 := iAllRA b fiA nmA hv
  have hI2 := iAllRB b fiA nmA hv
  have hZ := markRA (allL b).length 1 (allL b) (by omega) hrt (by omega)
  generalize hfx : allL b = x at *
  have hst : allL b = x := hfx
  simp only [PBook.row] at hTA n9A
  refine ⟨_, _, .inr (.inl ⟨rfl, _, rfl, hTA, rfl, n9A⟩), ?_⟩
  simp (config := { maxSteps := 2000000, maxDischargeDepth := 8 }) only [bitvec_to_nat, reduceIte, Nat.reduceEqDiff, Nat.reduceAdd, Nat.reduceLeDiff, reduceCtorEq, Nat.reduceBEq, Nat.reduceLT, Nat.reduceMod, List.forall_mem_cons, t_szPBook, t_sPlAll, tk_map, dp_map, toNat_pred, appE, rowsOf, List.take_length, List.length_cons, List.length_nil, Nat.zero_add, srow, irow, un_s, un_i, Zone.row, Zone_eta, un_Zone, Word.row, Word_eta, Own.row, Own_eta, Part.row, Part_eta, Seen.row, Seen_eta, Book.row, Book_eta, Sector.row, Sector_eta, HCraft.row, HCraft_eta, World.row, World_eta, PKind.row, PKind_eta, PPt.row, PPt_eta, Cell.row, Cell_eta, PBase.row, PBase_eta, Chg.row, Chg_eta, Fld.row, Fld_eta, Ent.row, Ent_eta, PBook.row, PBook_eta, Flt.row, Flt_eta, un_Word, un_Own, un_Part, un_Seen, un_Book, un_Sector, un_HCraft, un_World, un_PKind, un_PPt, un_Cell, un_PBase, un_Chg, un_Fld, un_Ent, un_PBook, un_Flt, Chg.row, Chg_eta, PBook.row, PBook_eta, bkV, List.length_map, Int.toNat_natCast, Nat.sub_zero, and_self, eq_self, not_true_eq_false, ne_eq, bne_self_eq_false, hst, hso, hn1,  List.nil_append, offs_getA, offs_get, offs_setA, offs_set, ap_cons, ap_skip, ap_skip0, ap_over, ap_over0, ap_self, ap_self0, ap_new, ap_appU, KA_lo, KA_hi, KB_lo, KB_hi, KAB, KBA, RA_lo, RA_hi, RB_lo, RB_hi, RA_uniq, RB_uniq, RA_k, RA_k0, RB_k, RB_k0, RA_ov, RA_ov0, FO_get, FO_getA, KARA, RAKA, KARB, RBKA, RAB, RBA, offs_gone, offs_rev, dis_goneL, dis_goneR, dis_revR, KA_uniq, KB_uniq, KA_k, KA_k0, KB_k, KB_k0, KA_k', KA_k0', KB_k', KB_k0', List.cons_append, List.nil_append, List.append_assoc]
  refine ⟨fiA, _, _, .inr (.inr (.inl ⟨_, rfl, toBookA b hsA, (newK_rev (by repeat' (first | exact newK_nil | exact newK_app0 (by first | exact KAB | exact KBA | exact dis_goneL KAB | exact dis_goneL KBA | exact KARA | exact RAKA | exact dis_goneL KARA | exact KARB | exact RBKA | exact dis_goneL KARB | exact RAB | exact RBA) | refine newK_app (by first | exact KAB | exact KBA | exact dis_goneL KAB | exact dis_goneL KBA | exact KARA | exact RAKA | exact dis_goneL KARA | exact KARB | exact RBKA | exact dis_goneL KARB | exact RAB | exact RBA) ?_ | refine newK_cons (by first | exact KA_lo (by omega) | exact KA_hi (by omega) (by omega) | exact KB_lo (by omega) | exact KB_hi (by omega) (by omega) | exact RA_lo (by omega) | exact RA_hi (by omega) (by omega) | exact RB_lo (by omega) | exact RB_hi (by omega) (by omega)) ?_))), bkr_refV, bkr_refs, by simp [bkV, No99, No99L], KA_99⟩)), ?_⟩
  simp (config := { maxSteps := 2000000, maxDischargeDepth := 8 }) only [bitvec_to_nat, reduceIte, Nat.reduceEqDiff, Nat.reduceAdd, Nat.reduceLeDiff, reduceCtorEq, Nat.reduceBEq, Nat.reduceLT, Nat.reduceMod, List.forall_mem_cons, t_szPBook, t_sPlAll, tk_map, dp_map, toNat_pred, appE, rowsOf, List.take_length, List.length_cons, List.length_nil, Nat.zero_add, srow, irow, un_s, un_i, Zone.row, Zone_eta, un_Zone, Word.row, Word_eta, Own.row, Own_eta, Part.row, Part_eta, Seen.row, Seen_eta, Book.row, Book_eta, Sector.row, Sector_eta, HCraft.row, HCraft_eta, World.row, World_eta, PKind.row, PKind_eta, PPt.row, PPt_eta, Cell.row, Cell_eta, PBase.row, PBase_eta, Chg.row, Chg_eta, Fld.row, Fld_eta, Ent.row, Ent_eta, PBook.row, PBook_eta, Flt.row, Flt_eta, un_Word, un_Own, un_Part, un_Seen, un_Book, un_Sector, un_HCraft, un_World, un_PKind, un_PPt, un_Cell, un_PBase, un_Chg, un_Fld, un_Ent, un_PBook, un_Flt, Chg.row, Chg_eta, PBook.row, PBook_eta, bkV, List.length_map, Int.toNat_natCast, Nat.sub_zero, and_self, eq_self, not_true_eq_false, ne_eq, bne_self_eq_false, hst, hso, hn1,  List.nil_append, offs_getA, offs_get, offs_setA, offs_set, ap_cons, ap_skip, ap_skip0, ap_over, ap_over0, ap_self, ap_self0, ap_new, ap_appU, KA_lo, KA_hi, KB_lo, KB_hi, KAB, KBA, RA_lo, RA_hi, RB_lo, RB_hi, RA_uniq, RB_uniq, RA_k, RA_k0, RB_k, RB_k0, RA_ov, RA_ov0, FO_get, FO_getA, KARA, RAKA, KARB, RBKA, RAB, RBA, offs_gone, offs_rev, dis_goneL, dis_goneR, dis_revR, KA_uniq, KB_uniq, KA_k, KA_k0, KB_k, KB_k0, KA_k', KA_k0', KB_k', KB_k0', List.cons_append, List.nil_append, List.append_assoc]
  refine ⟨_, _, callR_look (news := (RA x.length x).reverse) (keep := KA b) (args' := [.agg (b.row 99)]) (by simp only [tag0L, tag_bk]; exact hI1) (by repeat' (first | exact getK_self (KA_uniq _) | exact getK_self (KB_uniq _) | exact uniq_self (KA_uniq _) | exact uniq_self (KB_uniq _) | exact uniq_self RA_uniq | exact uniq_self RB_uniq | exact getK_self RA_uniq | exact getK_self RB_uniq | refine getK_app (by first | exact KAB | exact KBA | exact dis_goneL KAB | exact dis_goneL KBA | exact KARA | exact RAKA | exact dis_goneL KARA | exact KARB | exact RBKA | exact dis_goneL KARB | exact RAB | exact RBA) ?_ | refine getK_cons (by first | exact KA_lo (by omega) | exact KA_hi (by omega) (by omega) | exact KB_lo (by omega) | exact KB_hi (by omega) (by omega) | exact RA_lo (by omega) | exact RA_hi (by omega) (by omega) | exact RB_lo (by omega) | exact RB_hi (by omega) (by omega)) ?_)) (purNL_cons (purN_bk (by repeat' (first | exact getK_self (KA_uniq _) | exact getK_self (KB_uniq _) | exact uniq_self (KA_uniq _) | exact uniq_self (KB_uniq _) | exact uniq_self RA_uniq | exact uniq_self RB_uniq | exact getK_self RA_uniq | exact getK_self RB_uniq | refine getK_app (by first | exact KAB | exact KBA | exact dis_goneL KAB | exact dis_goneL KBA | exact KARA | exact RAKA | exact dis_goneL KARA | exact KARB | exact RBKA | exact dis_goneL KARB | exact RAB | exact RBA) ?_ | refine getK_cons (by first | exact KA_lo (by omega) | exact KA_hi (by omega) (by omega) | exact KB_lo (by omega) | exact KB_hi (by omega) (by omega) | exact RA_lo (by omega) | exact RA_hi (by omega) (by omega) | exact RB_lo (by omega) | exact RB_hi (by omega) (by omega)) ?_)) (uniq_self (KA_uniq b))) rfl) (by simp only [no98L, no98_bk 99 (by omega), Bool.and_self]) rfl FO_plain (newK_rev (by repeat' (first | exact newK_nil | exact newK_app0 (by first | exact KAB | exact KBA | exact dis_goneL KAB | exact dis_goneL KBA | exact KARA | exact RAKA | exact dis_goneL KARA | exact KARB | exact RBKA | exact dis_goneL KARB | exact RAB | exact RBA) | refine newK_app (by first | exact KAB | exact KBA | exact dis_goneL KAB | exact dis_goneL KBA | exact KARA | exact RAKA | exact dis_goneL KARA | exact KARB | exact RBKA | exact dis_goneL KARB | exact RAB | exact RBA) ?_ | refine newK_cons (by first | exact KA_lo (by omega) | exact KA_hi (by omega) (by omega) | exact KB_lo (by omega) | exact KB_hi (by omega) (by omega) | exact RA_lo (by omega) | exact RA_hi (by omega) (by omega) | exact RB_lo (by omega) | exact RB_hi (by omega) (by omega)) ?_))) FO_refV FO_refr trivial RA_r99, ?_⟩
  simp (config := { maxSteps := 2000000, maxDischargeDepth := 8 }) only [bitvec_to_nat, reduceIte, Nat.reduceEqDiff, Nat.reduceAdd, Nat.reduceLeDiff, reduceCtorEq, Nat.reduceBEq, Nat.reduceLT, Nat.reduceMod, List.forall_mem_cons, t_szPBook, t_sPlAll, tk_map, dp_map, toNat_pred, appE, rowsOf, List.take_length, List.length_cons, List.length_nil, Nat.zero_add, srow, irow, un_s, un_i, Zone.row, Zone_eta, un_Zone, Word.row, Word_eta, Own.row, Own_eta, Part.row, Part_eta, Seen.row, Seen_eta, Book.row, Book_eta, Sector.row, Sector_eta, HCraft.row, HCraft_eta, World.row, World_eta, PKind.row, PKind_eta, PPt.row, PPt_eta, Cell.row, Cell_eta, PBase.row, PBase_eta, Chg.row, Chg_eta, Fld.row, Fld_eta, Ent.row, Ent_eta, PBook.row, PBook_eta, Flt.row, Flt_eta, un_Word, un_Own, un_Part, un_Seen, un_Book, un_Sector, un_HCraft, un_World, un_PKind, un_PPt, un_Cell, un_PBase, un_Chg, un_Fld, un_Ent, un_PBook, un_Flt, Chg.row, Chg_eta, PBook.row, PBook_eta, bkV, List.length_map, Int.toNat_natCast, Nat.sub_zero, and_self, eq_self, not_true_eq_false, ne_eq, bne_self_eq_false, hst, hso, hn1,  List.nil_append, offs_getA, offs_get, offs_setA, offs_set, ap_cons, ap_skip, ap_skip0, ap_over, ap_over0, ap_self, ap_self0, ap_new, ap_appU, KA_lo, KA_hi, KB_lo, KB_hi, KAB, KBA, RA_lo, RA_hi, RB_lo, RB_hi, RA_uniq, RB_uniq, RA_k, RA_k0, RB_k, RB_k0, RA_ov, RA_ov0, FO_get, FO_getA, KARA, RAKA, KARB, RBKA, RAB, RBA, offs_gone, offs_rev, dis_goneL, dis_goneR, dis_revR, KA_uniq, KB_uniq, KA_k, KA_k0, KB_k, KB_k0, KA_k', KA_k0', KB_k', KB_k0', List.cons_append, List.nil_append, List.append_assoc]
  refine ⟨_, _, callR_look (r := .bool true) (news := []) (keep := RA x.length x) (args' := [.sl 99 8 (x.map (Flt.row 99)), .sl 0 8 (x.map (Flt.row 0))]) (by simp only [tag0L, tag_sl, tag_int, tag_Flts]; exact eqF) (by repeat' (first | exact getK_self (KA_uniq _) | exact getK_self (KB_uniq _) | exact uniq_self (KA_uniq _) | exact uniq_self (KB_uniq _) | exact uniq_self RA_uniq | exact uniq_self RB_uniq | exact getK_self RA_uniq | exact getK_self RB_uniq | refine getK_app (by first | exact KAB | exact KBA | exact dis_goneL KAB | exact dis_goneL KBA | exact KARA | exact RAKA | exact dis_goneL KARA | exact KARB | exact RBKA | exact dis_goneL KARB | exact RAB | exact RBA) ?_ | refine getK_cons (by first | exact KA_lo (by omega) | exact KA_hi (by omega) (by omega) | exact KB_lo (by omega) | exact KB_hi (by omega) (by omega) | exact RA_lo (by omega) | exact RA_hi (by omega) (by omega) | exact RB_lo (by omega) | exact RB_hi (by omega) (by omega)) ?_)) (purNL_cons (purN_FO rfl (by repeat' (first | exact getK_self (KA_uniq _) | exact getK_self (KB_uniq _) | exact uniq_self (KA_uniq _) | exact uniq_self (KB_uniq _) | exact uniq_self RA_uniq | exact uniq_self RB_uniq | exact getK_self RA_uniq | exact getK_self RB_uniq | refine getK_app (by first | exact KAB | exact KBA | exact dis_goneL KAB | exact dis_goneL KBA | exact KARA | exact RAKA | exact dis_goneL KARA | exact KARB | exact RBKA | exact dis_goneL KARB | exact RAB | exact RBA) ?_ | refine getK_cons (by first | exact KA_lo (by omega) | exact KA_hi (by omega) (by omega) | exact KB_lo (by omega) | exact KB_hi (by omega) (by omega) | exact RA_lo (by omega) | exact RA_hi (by omega) (by omega) | exact RB_lo (by omega) | exact RB_hi (by omega) (by omega)) ?_)) (uniq_self RA_uniq)) rfl) (by simp only [no98L, no98, no98_Flts (show (99 : Nat) ≠ 98 by omega), no98_Flts (show (0 : Nat) ≠ 98 by omega)]; rfl) rfl rfl (by simp) rfl rfl trivial (by simp), ?_⟩
  simp (config := { maxSteps := 2000000, maxDischargeDepth := 8 }) only [bitvec_to_nat, reduceIte, Nat.reduceEqDiff, Nat.reduceAdd, Nat.reduceLeDiff, reduceCtorEq, Nat.reduceBEq, Nat.reduceLT, Nat.reduceMod, List.forall_mem_cons, t_szPBook, t_sPlAll, tk_map, dp_map, toNat_pred, appE, rowsOf, List.take_length, List.length_cons, List.length_nil, Nat.zero_add, srow, irow, un_s, un_i, Zone.row, Zone_eta, un_Zone, Word.row, Word_eta, Own.row, Own_eta, Part.row, Part_eta, Seen.row, Seen_eta, Book.row, Book_eta, Sector.row, Sector_eta, HCraft.row, HCraft_eta, World.row, World_eta, PKind.row, PKind_eta, PPt.row, PPt_eta, Cell.row, Cell_eta, PBase.row, PBase_eta, Chg.row, Chg_eta, Fld.row, Fld_eta, Ent.row, Ent_eta, PBook.row, PBook_eta, Flt.row, Flt_eta, un_Word, un_Own, un_Part, un_Seen, un_Book, un_Sector, un_HCraft, un_World, un_PKind, un_PPt, un_Cell, un_PBase, un_Chg, un_Fld, un_Ent, un_PBook, un_Flt, Chg.row, Chg_eta, PBook.row, PBook_eta, bkV, List.length_map, Int.toNat_natCast, Nat.sub_zero, and_self, eq_self, not_true_eq_false, ne_eq, bne_self_eq_false, hst, hso, hn1,  List.nil_append, offs_getA, offs_get, offs_setA, offs_set, ap_cons, ap_skip, ap_skip0, ap_over, ap_over0, ap_self, ap_self0, ap_new, ap_appU, KA_lo, KA_hi, KB_lo, KB_hi, KAB, KBA, RA_lo, RA_hi, RB_lo, RB_hi, RA_uniq, RB_uniq, RA_k, RA_k0, RB_k, RB_k0, RA_ov, RA_ov0, FO_get, FO_getA, KARA, RAKA, KARB, RBKA, RAB, RBA, offs_gone, offs_rev, dis_goneL, dis_goneR, dis_revR, KA_uniq, KB_uniq, KA_k, KA_k0, KB_k, KB_k0, KA_k', KA_k0', KB_k', KB_k0', List.cons_append, List.nil_append, List.append_assoc]
  refine ⟨_, _, .inr (.inl ⟨rfl, _, rfl, hTA, rfl, n9A⟩), ?_⟩
  simp (config := { maxSteps := 2000000, maxDischargeDepth := 8 }) only [bitvec_to_nat, reduceIte, Nat.reduceEqDiff, Nat.reduceAdd, Nat.reduceLeDiff, reduceCtorEq, Nat.reduceBEq, Nat.reduceLT, Nat.reduceMod, List.forall_mem_cons, t_szPBook, t_sPlAll, tk_map, dp_map, toNat_pred, appE, rowsOf, List.take_length, List.length_cons, List.length_nil, Nat.zero_add, srow, irow, un_s, un_i, Zone.row, Zone_eta, un_Zone, Word.row, Word_eta, Own.row, Own_eta, Part.row, Part_eta, Seen.row, Seen_eta, Book.row, Book_eta, Sector.row, Sector_eta, HCraft.row, HCraft_eta, World.row, World_eta, PKind.row, PKind_eta, PPt.row, PPt_eta, Cell.row, Cell_eta, PBase.row, PBase_eta, Chg.row, Chg_eta, Fld.row, Fld_eta, Ent.row, Ent_eta, PBook.row, PBook_eta, Flt.row, Flt_eta, un_Word, un_Own, un_Part, un_Seen, un_Book, un_Sector, un_HCraft, un_World, un_PKind, un_PPt, un_Cell, un_PBase, un_Chg, un_Fld, un_Ent, un_PBook, un_Flt, Chg.row, Chg_eta, PBook.row, PBook_eta, bkV, List.length_map, Int.toNat_natCast, Nat.sub_zero, and_self, eq_self, not_true_eq_false, ne_eq, bne_self_eq_false, hst, hso, hn1,  List.nil_append, offs_getA, offs_get, offs_setA, offs_set, ap_cons, ap_skip, ap_skip0, ap_over, ap_over0, ap_self, ap_self0, ap_new, ap_appU, KA_lo, KA_hi, KB_lo, KB_hi, KAB, KBA, RA_lo, RA_hi, RB_lo, RB_hi, RA_uniq, RB_uniq, RA_k, RA_k0, RB_k, RB_k0, RA_ov, RA_ov0, FO_get, FO_getA, KARA, RAKA, KARB, RBKA, RAB, RBA, offs_gone, offs_rev, dis_goneL, dis_goneR, dis_revR, KA_uniq, KB_uniq, KA_k, KA_k0, KB_k, KB_k0, KA_k', KA_k0', KB_k', KB_k0', List.cons_append, List.nil_append, List.append_assoc]
  refine ⟨_, _, callR_look (r := .bool true) (news := []) (keep := KA b) (args' := [.agg (b.row 99), .agg (b.row 0)]) (by simp only [tag0L, tag_bk]; exact eqA) (by repeat' (first | exact getK_self (KA_uniq _) | exact getK_self (KB_uniq _) | exact uniq_self (KA_uniq _) | exact uniq_self (KB_uniq _) | exact uniq_self RA_uniq | exact uniq_self RB_uniq | exact getK_self RA_uniq | exact getK_self RB_uniq | refine getK_app (by first | exact KAB | exact KBA | exact dis_goneL KAB | exact dis_goneL KBA | exact KARA | exact RAKA | exact dis_goneL KARA | exact KARB | exact RBKA | exact dis_goneL KARB | exact RAB | exact RBA) ?_ | refine getK_cons (by first | exact KA_lo (by omega) | exact KA_hi (by omega) (by omega) | exact KB_lo (by omega) | exact KB_hi (by omega) (by omega) | exact RA_lo (by omega) | exact RA_hi (by omega) (by omega) | exact RB_lo (by omega) | exact RB_hi (by omega) (by omega)) ?_)) (purNL_cons (purN_bk (by repeat' (first | exact getK_self (KA_uniq _) | exact getK_self (KB_uniq _) | exact uniq_self (KA_uniq _) | exact uniq_self (KB_uniq _) | exact uniq_self RA_uniq | exact uniq_self RB_uniq | exact getK_self RA_uniq | exact getK_self RB_uniq | refine getK_app (by first | exact KAB | exact KBA | exact dis_goneL KAB | exact dis_goneL KBA | exact KARA | exact RAKA | exact dis_goneL KARA | exact KARB | exact RBKA | exact dis_goneL KARB | exact RAB | exact RBA) ?_ | refine getK_cons (by first | exact KA_lo (by omega) | exact KA_hi (by omega) (by omega) | exact KB_lo (by omega) | exact KB_hi (by omega) (by omega) | exact RA_lo (by omega) | exact RA_hi (by omega) (by omega) | exact RB_lo (by omega) | exact RB_hi (by omega) (by omega)) ?_)) (uniq_self (KA_uniq b))) rfl) (by simp only [no98L, no98_bk 99 (by omega), no98_bk 0 (by omega), Bool.and_self]) rfl rfl (by simp) rfl rfl trivial (by simp), ?_⟩
  simp (config := { maxSteps := 2000000, maxDischargeDepth := 8 }) only [bitvec_to_nat, reduceIte, Nat.reduceEqDiff, Nat.reduceAdd, Nat.reduceLeDiff, reduceCtorEq, Nat.reduceBEq, Nat.reduceLT, Nat.reduceMod, List.forall_mem_cons, t_szPBook, t_sPlAll, tk_map, dp_map, toNat_pred, appE, rowsOf, List.take_length, List.length_cons, List.length_nil, Nat.zero_add, srow, irow, un_s, un_i, Zone.row, Zone_eta, un_Zone, Word.row, Word_eta, Own.row, Own_eta, Part.row, Part_eta, Seen.row, Seen_eta, Book.row, Book_eta, Sector.row, Sector_eta, HCraft.row, HCraft_eta, World.row, World_eta, PKind.row, PKind_eta, PPt.row, PPt_eta, Cell.row, Cell_eta, PBase.row, PBase_eta, Chg.row, Chg_eta, Fld.row, Fld_eta, Ent.row, Ent_eta, PBook.row, PBook_eta, Flt.row, Flt_eta, un_Word, un_Own, un_Part, un_Seen, un_Book, un_Sector, un_HCraft, un_World, un_PKind, un_PPt, un_Cell, un_PBase, un_Chg, un_Fld, un_Ent, un_PBook, un_Flt, Chg.row, Chg_eta, PBook.row, PBook_eta, bkV, List.length_map, Int.toNat_natCast, Nat.sub_zero, and_self, eq_self, not_true_eq_false, ne_eq, bne_self_eq_false, hst, hso, hn1,  List.nil_append, offs_getA, offs_get, offs_setA, offs_set, ap_cons, ap_skip, ap_skip0, ap_over, ap_over0, ap_self, ap_self0, ap_new, ap_appU, KA_lo, KA_hi, KB_lo, KB_hi, KAB, KBA, RA_lo, RA_hi, RB_lo, RB_hi, RA_uniq, RB_uniq, RA_k, RA_k0, RB_k, RB_k0, RA_ov, RA_ov0, FO_get, FO_getA, KARA, RAKA, KARB, RBKA, RAB, RBA, offs_gone, offs_rev, dis_goneL, dis_goneR, dis_revR, KA_uniq, KB_uniq, KA_k, KA_k0, KB_k, KB_k0, KA_k', KA_k0', KB_k', KB_k0', List.cons_append, List.nil_append, List.append_assoc]
  refine ⟨_, _, callR_gone mkA (by repeat' (first | exact getK_self (KA_uniq _) | exact getK_self (KB_uniq _) | exact uniq_self (KA_uniq _) | exact uniq_self (KB_uniq _) | exact uniq_self RA_uniq | exact uniq_self RB_uniq | exact getK_self RA_uniq | exact getK_self RB_uniq | refine getK_app (by first | exact KAB | exact KBA | exact dis_goneL KAB | exact dis_goneL KBA | exact KARA | exact RAKA | exact dis_goneL KARA | exact KARB | exact RBKA | exact dis_goneL KARB | exact RAB | exact RBA) ?_ | refine getK_cons (by first | exact KA_lo (by omega) | exact KA_hi (by omega) (by omega) | exact KB_lo (by omega) | exact KB_hi (by omega) (by omega) | exact RA_lo (by omega) | exact RA_hi (by omega) (by omega) | exact RB_lo (by omega) | exact RB_hi (by omega) (by omega)) ?_)) KA_ref bk_refs rfl, ?_⟩
  simp (config := { maxSteps := 2000000, maxDischargeDepth := 8 }) only [bitvec_to_nat, reduceIte, Nat.reduceEqDiff, Nat.reduceAdd, Nat.reduceLeDiff, reduceCtorEq, Nat.reduceBEq, Nat.reduceLT, Nat.reduceMod, List.forall_mem_cons, t_szPBook, t_sPlAll, tk_map, dp_map, toNat_pred, appE, rowsOf, List.take_length, List.length_cons, List.length_nil, Nat.zero_add, srow, irow, un_s, un_i, Zone.row, Zone_eta, un_Zone, Word.row, Word_eta, Own.row, Own_eta, Part.row, Part_eta, Seen.row, Seen_eta, Book.row, Book_eta, Sector.row, Sector_eta, HCraft.row, HCraft_eta, World.row, World_eta, PKind.row, PKind_eta, PPt.row, PPt_eta, Cell.row, Cell_eta, PBase.row, PBase_eta, Chg.row, Chg_eta, Fld.row, Fld_eta, Ent.row, Ent_eta, PBook.row, PBook_eta, Flt.row, Flt_eta, un_Word, un_Own, un_Part, un_Seen, un_Book, un_Sector, un_HCraft, un_World, un_PKind, un_PPt, un_Cell, un_PBase, un_Chg, un_Fld, un_Ent, un_PBook, un_Flt, Chg.row, Chg_eta, PBook.row, PBook_eta, bkV, List.length_map, Int.toNat_natCast, Nat.sub_zero, and_self, eq_self, not_true_eq_false, ne_eq, bne_self_eq_false, hst, hso, hn1,  List.nil_append, offs_getA, offs_get, offs_setA, offs_set, ap_cons, ap_skip, ap_skip0, ap_over, ap_over0, ap_self, ap_self0, ap_new, ap_appU, KA_lo, KA_hi, KB_lo, KB_hi, KAB, KBA, RA_lo, RA_hi, RB_lo, RB_hi, RA_uniq, RB_uniq, RA_k, RA_k0, RB_k, RB_k0, RA_ov, RA_ov0, FO_get, FO_getA, KARA, RAKA, KARB, RBKA, RAB, RBA, offs_gone, offs_rev, dis_goneL, dis_goneR, dis_revR, KA_uniq, KB_uniq, KA_k, KA_k0, KB_k, KB_k0, KA_k', KA_k0', KB_k', KB_k0', List.cons_append, List.nil_append, List.append_assoc]
  refine ⟨fun h => by omega, fun _ => ⟨_, _, callR_look (r := .bool true) (news := []) (keep := RA x.length x) (args' := [.sl 99 8 (x.map (Flt.row 99)), .sl 0 8 (x.map (Flt.row 0))]) (by simp only [tag0L, tag_sl, tag_int, tag_Flts]; exact eqF) (by repeat' (first | exact getK_self (KA_uniq _) | exact getK_self (KB_uniq _) | exact uniq_self (KA_uniq _) | exact uniq_self (KB_uniq _) | exact uniq_self RA_uniq | exact uniq_self RB_uniq | exact getK_self RA_uniq | exact getK_self RB_uniq | refine getK_app (by first | exact KAB | exact KBA | exact dis_goneL KAB | exact dis_goneL KBA | exact KARA | exact RAKA | exact dis_goneL KARA | exact KARB | exact RBKA | exact dis_goneL KARB | exact RAB | exact RBA) ?_ | refine getK_cons (by first | exact KA_lo (by omega) | exact KA_hi (by omega) (by omega) | exact KB_lo (by omega) | exact KB_hi (by omega) (by omega) | exact RA_lo (by omega) | exact RA_hi (by omega) (by omega) | exact RB_lo (by omega) | exact RB_hi (by omega) (by omega)) ?_)) (purNL_cons (purN_FO rfl (by repeat' (first | exact getK_self (KA_uniq _) | exact getK_self (KB_uniq _) | exact uniq_self (KA_uniq _) | exact uniq_self (KB_uniq _) | exact uniq_self RA_uniq | exact uniq_self RB_uniq | exact getK_self RA_uniq | exact getK_self RB_uniq | refine getK_app (by first | exact KAB | exact KBA | exact dis_goneL KAB | exact dis_goneL KBA | exact KARA | exact RAKA | exact dis_goneL KARA | exact KARB | exact RBKA | exact dis_goneL KARB | exact RAB | exact RBA) ?_ | refine getK_cons (by first | exact KA_lo (by omega) | exact KA_hi (by omega) (by omega) | exact KB_lo (by omega) | exact KB_hi (by omega) (by omega) | exact RA_lo (by omega) | exact RA_hi (by omega) (by omega) | exact RB_lo (by omega) | exact RB_hi (by omega) (by omega)) ?_)) (uniq_self RA_uniq)) rfl) (by simp only [no98L, no98, no98_Flts (show (99 : Nat) ≠ 98 by omega), no98_Flts (show (0 : Nat) ≠ 98 by omega)]; rfl) rfl rfl (by simp) rfl rfl trivial (by simp), ?_⟩⟩
  simp (config := { maxSteps := 2000000, maxDischargeDepth := 8 }) only [bitvec_to_nat, reduceIte, Nat.reduceEqDiff, Nat.reduceAdd, Nat.reduceLeDiff, reduceCtorEq, Nat.reduceBEq, Nat.reduceLT, Nat.reduceMod, List.forall_mem_cons, t_szPBook, t_sPlAll, tk_map, dp_map, toNat_pred, appE, rowsOf, List.take_length, List.length_cons, List.length_nil, Nat.zero_add, srow, irow, un_s, un_i, Zone.row, Zone_eta, un_Zone, Word.row, Word_eta, Own.row, Own_eta, Part.row, Part_eta, Seen.row, Seen_eta, Book.row, Book_eta, Sector.row, Sector_eta, HCraft.row, HCraft_eta, World.row, World_eta, PKind.row, PKind_eta, PPt.row, PPt_eta, Cell.row, Cell_eta, PBase.row, PBase_eta, Chg.row, Chg_eta, Fld.row, Fld_eta, Ent.row, Ent_eta, PBook.row, PBook_eta, Flt.row, Flt_eta, un_Word, un_Own, un_Part, un_Seen, un_Book, un_Sector, un_HCraft, un_World, un_PKind, un_PPt, un_Cell, un_PBase, un_Chg, un_Fld, un_Ent, un_PBook, un_Flt, Chg.row, Chg_eta, PBook.row, PBook_eta, bkV, List.length_map, Int.toNat_natCast, Nat.sub_zero, and_self, eq_self, not_true_eq_false, ne_eq, bne_self_eq_false, hst, hso, hn1,  List.nil_append, offs_getA, offs_get, offs_setA, offs_set, ap_cons, ap_skip, ap_skip0, ap_over, ap_over0, ap_self, ap_self0, ap_new, ap_appU, KA_lo, KA_hi, KB_lo, KB_hi, KAB, KBA, RA_lo, RA_hi, RB_lo, RB_hi, RA_uniq, RB_uniq, RA_k, RA_k0, RB_k, RB_k0, RA_ov, RA_ov0, FO_get, FO_getA, KARA, RAKA, KARB, RBKA, RAB, RBA, offs_gone, offs_rev, dis_goneL, dis_goneR, dis_revR, KA_uniq, KB_uniq, KA_k, KA_k0, KB_k, KB_k0, KA_k', KA_k0', KB_k', KB_k0', List.cons_append, List.nil_append, List.append_assoc]
  refine ⟨_, _, callR_same hZ (FO_dom mfL_len) (by repeat' (first | exact getK_self (KA_uniq _) | exact getK_self (KB_uniq _) | exact uniq_self (KA_uniq _) | exact uniq_self (KB_uniq _) | exact uniq_self RA_uniq | exact uniq_self RB_uniq | exact getK_self RA_uniq | exact getK_self RB_uniq | refine getK_app (by first | exact KAB | exact KBA | exact dis_goneL KAB | exact dis_goneL KBA | exact KARA | exact RAKA | exact dis_goneL KARA | exact KARB | exact RBKA | exact dis_goneL KARB | exact RAB | exact RBA) ?_ | refine getK_cons (by first | exact KA_lo (by omega) | exact KA_hi (by omega) (by omega) | exact KB_lo (by omega) | exact KB_hi (by omega) (by omega) | exact RA_lo (by omega) | exact RA_hi (by omega) (by omega) | exact RB_lo (by omega) | exact RB_hi (by omega) (by omega)) ?_)) (by simp [refsInL, refsIn, FO, dom]) FO_refs rfl FO_refs, ?_⟩
  simp (config := { maxSteps := 2000000, maxDischargeDepth := 8 }) only [bitvec_to_nat, reduceIte, Nat.reduceEqDiff, Nat.reduceAdd, Nat.reduceLeDiff, reduceCtorEq, Nat.reduceBEq, Nat.reduceLT, Nat.reduceMod, List.forall_mem_cons, t_szPBook, t_sPlAll, tk_map, dp_map, toNat_pred, appE, rowsOf, List.take_length, List.length_cons, List.length_nil, Nat.zero_add, srow, irow, un_s, un_i, Zone.row, Zone_eta, un_Zone, Word.row, Word_eta, Own.row, Own_eta, Part.row, Part_eta, Seen.row, Seen_eta, Book.row, Book_eta, Sector.row, Sector_eta, HCraft.row, HCraft_eta, World.row, World_eta, PKind.row, PKind_eta, PPt.row, PPt_eta, Cell.row, Cell_eta, PBase.row, PBase_eta, Chg.row, Chg_eta, Fld.row, Fld_eta, Ent.row, Ent_eta, PBook.row, PBook_eta, Flt.row, Flt_eta, un_Word, un_Own, un_Part, un_Seen, un_Book, un_Sector, un_HCraft, un_World, un_PKind, un_PPt, un_Cell, un_PBase, un_Chg, un_Fld, un_Ent, un_PBook, un_Flt, Chg.row, Chg_eta, PBook.row, PBook_eta, bkV, List.length_map, Int.toNat_natCast, Nat.sub_zero, and_self, eq_self, not_true_eq_false, ne_eq, bne_self_eq_false, hst, hso, hn1,  List.nil_append, offs_getA, offs_get, offs_setA, offs_set, ap_cons, ap_skip, ap_skip0, ap_over, ap_over0, ap_self, ap_self0, ap_new, ap_appU, KA_lo, KA_hi, KB_lo, KB_hi, KAB, KBA, RA_lo, RA_hi, RB_lo, RB_hi, RA_uniq, RB_uniq, RA_k, RA_k0, RB_k, RB_k0, RA_ov, RA_ov0, FO_get, FO_getA, KARA, RAKA, KARB, RBKA, RAB, RBA, offs_gone, offs_rev, dis_goneL, dis_goneR, dis_revR, KA_uniq, KB_uniq, KA_k, KA_k0, KB_k, KB_k0, KA_k', KA_k0', KB_k', KB_k0', List.cons_append, List.nil_append, List.append_assoc]
  refine ⟨_, _, callR_look (r := .int .i64 (1 + (cf x x.length : Nat))) (news := []) (keep := RA x.length (mfL 1 x)) (args' := [.sl 99 8 ((mfL 1 x).map (Flt.row 99)), .int .i64 1]) (by simp only [tag0L, tag_sl, tag_int, tag_Flts]; exact hH) (by repeat' (first | exact getK_self (KA_uniq _) | exact getK_self (KB_uniq _) | exact uniq_self (KA_uniq _) | exact uniq_self (KB_uniq _) | exact uniq_self RA_uniq | exact uniq_self RB_uniq | exact getK_self RA_uniq | exact getK_self RB_uniq | refine getK_app (by first | exact KAB | exact KBA | exact dis_goneL KAB | exact dis_goneL KBA | exact KARA | exact RAKA | exact dis_goneL KARA | exact KARB | exact RBKA | exact dis_goneL KARB | exact RAB | exact RBA) ?_ | refine getK_cons (by first | exact KA_lo (by omega) | exact KA_hi (by omega) (by omega) | exact KB_lo (by omega) | exact KB_hi (by omega) (by omega) | exact RA_lo (by omega) | exact RA_hi (by omega) (by omega) | exact RB_lo (by omega) | exact RB_hi (by omega) (by omega)) ?_)) (purNL_cons (purN_FO mfL_len.symm (by repeat' (first | exact getK_self (KA_uniq _) | exact getK_self (KB_uniq _) | exact uniq_self (KA_uniq _) | exact uniq_self (KB_uniq _) | exact uniq_self RA_uniq | exact uniq_self RB_uniq | exact getK_self RA_uniq | exact getK_self RB_uniq | refine getK_app (by first | exact KAB | exact KBA | exact dis_goneL KAB | exact dis_goneL KBA | exact KARA | exact RAKA | exact dis_goneL KARA | exact KARB | exact RBKA | exact dis_goneL KARB | exact RAB | exact RBA) ?_ | refine getK_cons (by first | exact KA_lo (by omega) | exact KA_hi (by omega) (by omega) | exact KB_lo (by omega) | exact KB_hi (by omega) (by omega) | exact RA_lo (by omega) | exact RA_hi (by omega) (by omega) | exact RB_lo (by omega) | exact RB_hi (by omega) (by omega)) ?_)) (uniq_self RA_uniq)) rfl) (by simp only [no98L, no98, no98_Flts (show (99 : Nat) ≠ 98 by omega), no98_Flts (show (0 : Nat) ≠ 98 by omega)]; rfl) rfl rfl (by simp) rfl rfl trivial (by simp), ?_⟩
  simp (config := { maxSteps := 2000000, maxDischargeDepth := 8 }) only [bitvec_to_nat, reduceIte, Nat.reduceEqDiff, Nat.reduceAdd, Nat.reduceLeDiff, reduceCtorEq, Nat.reduceBEq, Nat.reduceLT, Nat.reduceMod, List.forall_mem_cons, t_szPBook, t_sPlAll, tk_map, dp_map, toNat_pred, appE, rowsOf, List.take_length, List.length_cons, List.length_nil, Nat.zero_add, srow, irow, un_s, un_i, Zone.row, Zone_eta, un_Zone, Word.row, Word_eta, Own.row, Own_eta, Part.row, Part_eta, Seen.row, Seen_eta, Book.row, Book_eta, Sector.row, Sector_eta, HCraft.row, HCraft_eta, World.row, World_eta, PKind.row, PKind_eta, PPt.row, PPt_eta, Cell.row, Cell_eta, PBase.row, PBase_eta, Chg.row, Chg_eta, Fld.row, Fld_eta, Ent.row, Ent_eta, PBook.row, PBook_eta, Flt.row, Flt_eta, un_Word, un_Own, un_Part, un_Seen, un_Book, un_Sector, un_HCraft, un_World, un_PKind, un_PPt, un_Cell, un_PBase, un_Chg, un_Fld, un_Ent, un_PBook, un_Flt, Chg.row, Chg_eta, PBook.row, PBook_eta, bkV, List.length_map, Int.toNat_natCast, Nat.sub_zero, and_self, eq_self, not_true_eq_false, ne_eq, bne_self_eq_false, hst, hso, hn1,  List.nil_append, offs_getA, offs_get, offs_setA, offs_set, ap_cons, ap_skip, ap_skip0, ap_over, ap_over0, ap_self, ap_self0, ap_new, ap_appU, KA_lo, KA_hi, KB_lo, KB_hi, KAB, KBA, RA_lo, RA_hi, RB_lo, RB_hi, RA_uniq, RB_uniq, RA_k, RA_k0, RB_k, RB_k0, RA_ov, RA_ov0, FO_get, FO_getA, KARA, RAKA, KARB, RBKA, RAB, RBA, offs_gone, offs_rev, dis_goneL, dis_goneR, dis_revR, KA_uniq, KB_uniq, KA_k, KA_k0, KB_k, KB_k0, KA_k', KA_k0', KB_k', KB_k0', List.cons_append, List.nil_append, List.append_assoc]
  refine ⟨fun h => by omega, fun _ => ⟨_, _, .inr (.inl ⟨rfl, _, rfl, hTA, rfl, n9A⟩), ?_⟩⟩
  simp (config := { maxSteps := 2000000, maxDischargeDepth := 8 }) only [bitvec_to_nat, reduceIte, Nat.reduceEqDiff, Nat.reduceAdd, Nat.reduceLeDiff, reduceCtorEq, Nat.reduceBEq, Nat.reduceLT, Nat.reduceMod, List.forall_mem_cons, t_szPBook, t_sPlAll, tk_map, dp_map, toNat_pred, appE, rowsOf, List.take_length, List.length_cons, List.length_nil, Nat.zero_add, srow, irow, un_s, un_i, Zone.row, Zone_eta, un_Zone, Word.row, Word_eta, Own.row, Own_eta, Part.row, Part_eta, Seen.row, Seen_eta, Book.row, Book_eta, Sector.row, Sector_eta, HCraft.row, HCraft_eta, World.row, World_eta, PKind.row, PKind_eta, PPt.row, PPt_eta, Cell.row, Cell_eta, PBase.row, PBase_eta, Chg.row, Chg_eta, Fld.row, Fld_eta, Ent.row, Ent_eta, PBook.row, PBook_eta, Flt.row, Flt_eta, un_Word, un_Own, un_Part, un_Seen, un_Book, un_Sector, un_HCraft, un_World, un_PKind, un_PPt, un_Cell, un_PBase, un_Chg, un_Fld, un_Ent, un_PBook, un_Flt, Chg.row, Chg_eta, PBook.row, PBook_eta, bkV, List.length_map, Int.toNat_natCast, Nat.sub_zero, and_self, eq_self, not_true_eq_false, ne_eq, bne_self_eq_false, hst, hso, hn1,  List.nil_append, offs_getA, offs_get, offs_setA, offs_set, ap_cons, ap_skip, ap_skip0, ap_over, ap_over0, ap_self, ap_self0, ap_new, ap_appU, KA_lo, KA_hi, KB_lo, KB_hi, KAB, KBA, RA_lo, RA_hi, RB_lo, RB_hi, RA_uniq, RB_uniq, RA_k, RA_k0, RB_k, RB_k0, RA_ov, RA_ov0, FO_get, FO_getA, KARA, RAKA, KARB, RBKA, RAB, RBA, offs_gone, offs_rev, dis_goneL, dis_goneR, dis_revR, KA_uniq, KB_uniq, KA_k, KA_k0, KB_k, KB_k0, KA_k', KA_k0', KB_k', KB_k0', List.cons_append, List.nil_append, List.append_assoc]
  refine ⟨_, _, .inr (.inr (.inl ⟨_, rfl, hI2, (newK_rev (by repeat' (first | exact newK_nil | exact newK_app0 (by first | exact KAB | exact KBA | exact dis_goneL KAB | exact dis_goneL KBA | exact KARA | exact RAKA | exact dis_goneL KARA | exact KARB | exact RBKA | exact dis_goneL KARB | exact RAB | exact RBA) | refine newK_app (by first | exact KAB | exact KBA | exact dis_goneL KAB | exact dis_goneL KBA | exact KARA | exact RAKA | exact dis_goneL KARA | exact KARB | exact RBKA | exact dis_goneL KARB | exact RAB | exact RBA) ?_ | refine newK_cons (by first | exact KA_lo (by omega) | exact KA_hi (by omega) (by omega) | exact KB_lo (by omega) | exact KB_hi (by omega) (by omega) | exact RA_lo (by omega) | exact RA_hi (by omega) (by omega) | exact RB_lo (by omega) | exact RB_hi (by omega) (by omega)) ?_))), FO_refV, FO_refr, trivial, RB_r99⟩)), ?_⟩
  simp (config := { maxSteps := 2000000, maxDischargeDepth := 8 }) only [bitvec_to_nat, reduceIte, Nat.reduceEqDiff, Nat.reduceAdd, Nat.reduceLeDiff, reduceCtorEq, Nat.reduceBEq, Nat.reduceLT, Nat.reduceMod, List.forall_mem_cons, t_szPBook, t_sPlAll, tk_map, dp_map, toNat_pred, appE, rowsOf, List.take_length, List.length_cons, List.length_nil, Nat.zero_add, srow, irow, un_s, un_i, Zone.row, Zone_eta, un_Zone, Word.row, Word_eta, Own.row, Own_eta, Part.row, Part_eta, Seen.row, Seen_eta, Book.row, Book_eta, Sector.row, Sector_eta, HCraft.row, HCraft_eta, World.row, World_eta, PKind.row, PKind_eta, PPt.row, PPt_eta, Cell.row, Cell_eta, PBase.row, PBase_eta, Chg.row, Chg_eta, Fld.row, Fld_eta, Ent.row, Ent_eta, PBook.row, PBook_eta, Flt.row, Flt_eta, un_Word, un_Own, un_Part, un_Seen, un_Book, un_Sector, un_HCraft, un_World, un_PKind, un_PPt, un_Cell, un_PBase, un_Chg, un_Fld, un_Ent, un_PBook, un_Flt, Chg.row, Chg_eta, PBook.row, PBook_eta, bkV, List.length_map, Int.toNat_natCast, Nat.sub_zero, and_self, eq_self, not_true_eq_false, ne_eq, bne_self_eq_false, hst, hso, hn1,  List.nil_append, offs_getA, offs_get, offs_setA, offs_set, ap_cons, ap_skip, ap_skip0, ap_over, ap_over0, ap_self, ap_self0, ap_new, ap_appU, KA_lo, KA_hi, KB_lo, KB_hi, KAB, KBA, RA_lo, RA_hi, RB_lo, RB_hi, RA_uniq, RB_uniq, RA_k, RA_k0, RB_k, RB_k0, RA_ov, RA_ov0, FO_get, FO_getA, KARA, RAKA, KARB, RBKA, RAB, RBA, offs_gone, offs_rev, dis_goneL, dis_goneR, dis_revR, KA_uniq, KB_uniq, KA_k, KA_k0, KB_k, KB_k0, KA_k', KA_k0', KB_k', KB_k0', List.cons_append, List.nil_append, List.append_assoc]
  refine ⟨_, _, callR_look (r := .bool true) (news := []) (keep := RB x.length x) (args' := [.sl 99 8 (x.map (Flt.row 99)), .sl 0 8 (x.map (Flt.row 0))]) (by simp only [tag0L, tag_sl, tag_int, tag_Flts]; exact eqF) (by repeat' (first | exact getK_self (KA_uniq _) | exact getK_self (KB_uniq _) | exact uniq_self (KA_uniq _) | exact uniq_self (KB_uniq _) | exact uniq_self RA_uniq | exact uniq_self RB_uniq | exact getK_self RA_uniq | exact getK_self RB_uniq | refine getK_app (by first | exact KAB | exact KBA | exact dis_goneL KAB | exact dis_goneL KBA | exact KARA | exact RAKA | exact dis_goneL KARA | exact KARB | exact RBKA | exact dis_goneL KARB | exact RAB | exact RBA) ?_ | refine getK_cons (by first | exact KA_lo (by omega) | exact KA_hi (by omega) (by omega) | exact KB_lo (by omega) | exact KB_hi (by omega) (by omega) | exact RA_lo (by omega) | exact RA_hi (by omega) (by omega) | exact RB_lo (by omega) | exact RB_hi (by omega) (by omega)) ?_)) (purNL_cons (purN_FO rfl (by repeat' (first | exact getK_self (KA_uniq _) | exact getK_self (KB_uniq _) | exact uniq_self (KA_uniq _) | exact uniq_self (KB_uniq _) | exact uniq_self RA_uniq | exact uniq_self RB_uniq | exact getK_self RA_uniq | exact getK_self RB_uniq | refine getK_app (by first | exact KAB | exact KBA | exact dis_goneL KAB | exact dis_goneL KBA | exact KARA | exact RAKA | exact dis_goneL KARA | exact KARB | exact RBKA | exact dis_goneL KARB | exact RAB | exact RBA) ?_ | refine getK_cons (by first | exact KA_lo (by omega) | exact KA_hi (by omega) (by omega) | exact KB_lo (by omega) | exact KB_hi (by omega) (by omega) | exact RA_lo (by omega) | exact RA_hi (by omega) (by omega) | exact RB_lo (by omega) | exact RB_hi (by omega) (by omega)) ?_)) (uniq_self RB_uniq)) rfl) (by simp only [no98L, no98, no98_Flts (show (99 : Nat) ≠ 98 by omega), no98_Flts (show (0 : Nat) ≠ 98 by omega)]; rfl) rfl rfl (by simp) rfl rfl trivial (by simp), ?_⟩
  simp (config := { maxSteps := 2000000, maxDischargeDepth := 8 }) only [bitvec_to_nat, reduceIte, Nat.reduceEqDiff, Nat.reduceAdd, Nat.reduceLeDiff, reduceCtorEq, Nat.reduceBEq, Nat.reduceLT, Nat.reduceMod, List.forall_mem_cons, t_szPBook, t_sPlAll, tk_map, dp_map, toNat_pred, appE, rowsOf, List.take_length, List.length_cons, List.length_nil, Nat.zero_add, srow, irow, un_s, un_i, Zone.row, Zone_eta, un_Zone, Word.row, Word_eta, Own.row, Own_eta, Part.row, Part_eta, Seen.row, Seen_eta, Book.row, Book_eta, Sector.row, Sector_eta, HCraft.row, HCraft_eta, World.row, World_eta, PKind.row, PKind_eta, PPt.row, PPt_eta, Cell.row, Cell_eta, PBase.row, PBase_eta, Chg.row, Chg_eta, Fld.row, Fld_eta, Ent.row, Ent_eta, PBook.row, PBook_eta, Flt.row, Flt_eta, un_Word, un_Own, un_Part, un_Seen, un_Book, un_Sector, un_HCraft, un_World, un_PKind, un_PPt, un_Cell, un_PBase, un_Chg, un_Fld, un_Ent, un_PBook, un_Flt, Chg.row, Chg_eta, PBook.row, PBook_eta, bkV, List.length_map, Int.toNat_natCast, Nat.sub_zero, and_self, eq_self, not_true_eq_false, ne_eq, bne_self_eq_false, hst, hso, hn1,  List.nil_append, offs_getA, offs_get, offs_setA, offs_set, ap_cons, ap_skip, ap_skip0, ap_over, ap_over0, ap_self, ap_self0, ap_new, ap_appU, KA_lo, KA_hi, KB_lo, KB_hi, KAB, KBA, RA_lo, RA_hi, RB_lo, RB_hi, RA_uniq, RB_uniq, RA_k, RA_k0, RB_k, RB_k0, RA_ov, RA_ov0, FO_get, FO_getA, KARA, RAKA, KARB, RBKA, RAB, RBA, offs_gone, offs_rev, dis_goneL, dis_goneR, dis_revR, KA_uniq, KB_uniq, KA_k, KA_k0, KB_k, KB_k0, KA_k', KA_k0', KB_k', KB_k0', List.cons_append, List.nil_append, List.append_assoc]
  refine ⟨_, _, callR_look (r := .int .i64 (1 + (cf x x.length : Nat))) (news := []) (keep := RA x.length (mfL 1 x)) (args' := [.sl 99 8 ((mfL 1 x).map (Flt.row 99)), .int .i64 1]) (by simp only [tag0L, tag_sl, tag_int, tag_Flts]; exact hH) (by repeat' (first | exact getK_self (KA_uniq _) | exact getK_self (KB_uniq _) | exact uniq_self (KA_uniq _) | exact uniq_self (KB_uniq _) | exact uniq_self RA_uniq | exact uniq_self RB_uniq | exact getK_self RA_uniq | exact getK_self RB_uniq | refine getK_app (by first | exact KAB | exact KBA | exact dis_goneL KAB | exact dis_goneL KBA | exact KARA | exact RAKA | exact dis_goneL KARA | exact KARB | exact RBKA | exact dis_goneL KARB | exact RAB | exact RBA) ?_ | refine getK_cons (by first | exact KA_lo (by omega) | exact KA_hi (by omega) (by omega) | exact KB_lo (by omega) | exact KB_hi (by omega) (by omega) | exact RA_lo (by omega) | exact RA_hi (by omega) (by omega) | exact RB_lo (by omega) | exact RB_hi (by omega) (by omega)) ?_)) (purNL_cons (purN_FO mfL_len.symm (by repeat' (first | exact getK_self (KA_uniq _) | exact getK_self (KB_uniq _) | exact uniq_self (KA_uniq _) | exact uniq_self (KB_uniq _) | exact uniq_self RA_uniq | exact uniq_self RB_uniq | exact getK_self RA_uniq | exact getK_self RB_uniq | refine getK_app (by first | exact KAB | exact KBA | exact dis_goneL KAB | exact dis_goneL KBA | exact KARA | exact RAKA | exact dis_goneL KARA | exact KARB | exact RBKA | exact dis_goneL KARB | exact RAB | exact RBA) ?_ | refine getK_cons (by first | exact KA_lo (by omega) | exact KA_hi (by omega) (by omega) | exact KB_lo (by omega) | exact KB_hi (by omega) (by omega) | exact RA_lo (by omega) | exact RA_hi (by omega) (by omega) | exact RB_lo (by omega) | exact RB_hi (by omega) (by omega)) ?_)) (uniq_self RA_uniq)) rfl) (by simp only [no98L, no98, no98_Flts (show (99 : Nat) ≠ 98 by omega), no98_Flts (show (0 : Nat) ≠ 98 by omega)]; rfl) rfl rfl (by simp) rfl rfl trivial (by simp), ?_⟩
  simp (config := { maxSteps := 2000000, maxDischargeDepth := 8 }) only [bitvec_to_nat, reduceIte, Nat.reduceEqDiff, Nat.reduceAdd, Nat.reduceLeDiff, reduceCtorEq, Nat.reduceBEq, Nat.reduceLT, Nat.reduceMod, List.forall_mem_cons, t_szPBook, t_sPlAll, tk_map, dp_map, toNat_pred, appE, rowsOf, List.take_length, List.length_cons, List.length_nil, Nat.zero_add, srow, irow, un_s, un_i, Zone.row, Zone_eta, un_Zone, Word.row, Word_eta, Own.row, Own_eta, Part.row, Part_eta, Seen.row, Seen_eta, Book.row, Book_eta, Sector.row, Sector_eta, HCraft.row, HCraft_eta, World.row, World_eta, PKind.row, PKind_eta, PPt.row, PPt_eta, Cell.row, Cell_eta, PBase.row, PBase_eta, Chg.row, Chg_eta, Fld.row, Fld_eta, Ent.row, Ent_eta, PBook.row, PBook_eta, Flt.row, Flt_eta, un_Word, un_Own, un_Part, un_Seen, un_Book, un_Sector, un_HCraft, un_World, un_PKind, un_PPt, un_Cell, un_PBase, un_Chg, un_Fld, un_Ent, un_PBook, un_Flt, Chg.row, Chg_eta, PBook.row, PBook_eta, bkV, List.length_map, Int.toNat_natCast, Nat.sub_zero, and_self, eq_self, not_true_eq_false, ne_eq, bne_self_eq_false, hst, hso, hn1,  List.nil_append, offs_getA, offs_get, offs_setA, offs_set, ap_cons, ap_skip, ap_skip0, ap_over, ap_over0, ap_self, ap_self0, ap_new, ap_appU, KA_lo, KA_hi, KB_lo, KB_hi, KAB, KBA, RA_lo, RA_hi, RB_lo, RB_hi, RA_uniq, RB_uniq, RA_k, RA_k0, RB_k, RB_k0, RA_ov, RA_ov0, FO_get, FO_getA, KARA, RAKA, KARB, RBKA, RAB, RBA, offs_gone, offs_rev, dis_goneL, dis_goneR, dis_revR, KA_uniq, KB_uniq, KA_k, KA_k0, KB_k, KB_k0, KA_k', KA_k0', KB_k', KB_k0', List.cons_append, List.nil_append, List.append_assoc]
  exact fun h => by omega

set_option maxHeartbeats 8000000 in
theorem c_lawAN (b : PBook) (hfa : b.fitp) (hv : ¬ b.ok) : Contract P 8 [.agg (b.row 1)] [] (.bool true) [] := by
  have hst : allL b = [] := if_neg hv
  have hso : True := trivial
  have z2 : PBook.sz b 1048576 ≤ 1048576 := by have := (meas_PBook b 1048576 (by omega)).2.2; omega
  have hn1 : True := trivial
  simp only [PBook.row]
  refine fn_sound (((Env.nil P).add 18 t_szPBook h_szPBook).add 34 t_sPlAll h_sPlAll) hm k_laws_FnExactPlanAll (Nat.le_of_ble_eq_true rfl) rfl ?_; unfold s_laws_FnExactPlanAll; simp (config := { maxSteps := 2000000, maxDischargeDepth := 8 }) only [bitvec_to_nat, reduceIte, Nat.reduceEqDiff, Nat.reduceAdd, Nat.reduceLeDiff, reduceCtorEq, Nat.reduceBEq, Nat.reduceLT, Nat.reduceMod, List.forall_mem_cons, t_szPBook, t_sPlAll, tk_map, dp_map, toNat_pred, appE, rowsOf, List.take_length, List.length_cons, List.length_nil, Nat.zero_add, srow, irow, un_s, un_i, Zone.row, Zone_eta, un_Zone, Word.row, Word_eta, Own.row, Own_eta, Part.row, Part_eta, Seen.row, Seen_eta, Book.row, Book_eta, Sector.row, Sector_eta, HCraft.row, HCraft_eta, World.row, World_eta, PKind.row, PKind_eta, PPt.row, PPt_eta, Cell.row, Cell_eta, PBase.row, PBase_eta, Chg.row, Chg_eta, Fld.row, Fld_eta, Ent.row, Ent_eta, PBook.row, PBook_eta, Flt.row, Flt_eta, un_Word, un_Own, un_Part, un_Seen, un_Book, un_Sector, un_HCraft, un_World, un_PKind, un_PPt, un_Cell, un_PBase, un_Chg, un_Fld, un_Ent, un_PBook, un_Flt, Chg.row, Chg_eta, PBook.row, PBook_eta, bkV, List.length_map, Int.toNat_natCast, Nat.sub_zero, and_self, eq_self, not_true_eq_false, ne_eq, bne_self_eq_false, hst, hso, hn1,  List.nil_append, offs_getA, offs_get, offs_setA, offs_set, ap_cons, ap_skip, ap_skip0, ap_over, ap_over0, ap_self, ap_self0, ap_new, ap_appU, KA_lo, KA_hi, KB_lo, KB_hi, KAB, KBA, RA_lo, RA_hi, RB_lo, RB_hi, RA_uniq, RB_uniq, RA_k, RA_k0, RB_k, RB_k0, RA_ov, RA_ov0, FO_get, FO_getA, KARA, RAKA, KARB, RBKA, RAB, RBA, offs_gone, offs_rev, dis_goneL, dis_goneR, dis_revR, KA_uniq, KB_uniq, KA_k, KA_k0, KB_k, KB_k0, KA_k', KA_k0', KB_k', KB_k0', List.cons_append, List.nil_append, List.append_assoc]
  refine ⟨⟨by omega, hfa⟩, fun g1 => ?_⟩
  have hsA : b.small := PBook.sz_ok (a := 1048576) (by omega) (by omega)
  have fiA : b.fine := PBook.sz_fine (a := 1048576) (by omega) (by omega)
  have nmA : b.names := ⟨hfa.1.2, hfa.2.1.2⟩
  have hTA := c_toPBook b hsA
  have n9A : No99 (.agg (b.row 0)) := by simp [PBook.row, No99, No99L, no99_PKind, no99_PPt, no99_Ent]
  have hcA : cntB b ≤ 20000000000000 := cntB_le hsA
  have eqA := eqBookC b hsA
  have mkA := markBookA 1 b hsA (by omega)
  have hI1 := c_iPlAllN b fiA nmA hv
  have hZ := c_markNFltS 98 1
  have eqF := c_eqFltS 98 0 [] [] (by simp) (by simp)
  have hH : Contract P 38 [.sl 98 8 [], .int .i64 1] [] (.int .i64 1) [] := by simpa [cf, mfL] using c_heldFltS 98 0 1 [] (by simp) (by simp) (by omega)
  simp only [List.map_nil, decide_true] at eqF
  simp only [PBook.row] at hTA n9A
  refine ⟨_, _, .inr (.inl ⟨rfl, _, rfl, hTA, rfl, n9A⟩), ?_⟩
  simp (config := { maxSteps := 2000000, maxDischargeDepth := 8 }) only [bitvec_to_nat, reduceIte, Nat.reduceEqDiff, Nat.reduceAdd, Nat.reduceLeDiff, reduceCtorEq, Nat.reduceBEq, Nat.reduceLT, Nat.reduceMod, List.forall_mem_cons, t_szPBook, t_sPlAll, tk_map, dp_map, toNat_pred, appE, rowsOf, List.take_length, List.length_cons, List.length_nil, Nat.zero_add, srow, irow, un_s, un_i, Zone.row, Zone_eta, un_Zone, Word.row, Word_eta, Own.row, Own_eta, Part.row, Part_eta, Seen.row, Seen_eta, Book.row, Book_eta, Sector.row, Sector_eta, HCraft.row, HCraft_eta, World.row, World_eta, PKind.row, PKind_eta, PPt.row, PPt_eta, Cell.row, Cell_eta, PBase.row, PBase_eta, Chg.row, Chg_eta, Fld.row, Fld_eta, Ent.row, Ent_eta, PBook.row, PBook_eta, Flt.row, Flt_eta, un_Word, un_Own, un_Part, un_Seen, un_Book, un_Sector, un_HCraft, un_World, un_PKind, un_PPt, un_Cell, un_PBase, un_Chg, un_Fld, un_Ent, un_PBook, un_Flt, Chg.row, Chg_eta, PBook.row, PBook_eta, bkV, List.length_map, Int.toNat_natCast, Nat.sub_zero, and_self, eq_self, not_true_eq_false, ne_eq, bne_self_eq_false, hst, hso, hn1,  List.nil_append, offs_getA, offs_get, offs_setA, offs_set, ap_cons, ap_skip, ap_skip0, ap_over, ap_over0, ap_self, ap_self0, ap_new, ap_appU, KA_lo, KA_hi, KB_lo, KB_hi, KAB, KBA, RA_lo, RA_hi, RB_lo, RB_hi, RA_uniq, RB_uniq, RA_k, RA_k0, RB_k, RB_k0, RA_ov, RA_ov0, FO_get, FO_getA, KARA, RAKA, KARB, RBKA, RAB, RBA, offs_gone, offs_rev, dis_goneL, dis_goneR, dis_revR, KA_uniq, KB_uniq, KA_k, KA_k0, KB_k, KB_k0, KA_k', KA_k0', KB_k', KB_k0', List.cons_append, List.nil_append, List.append_assoc]
  refine ⟨fiA, _, _, .inr (.inr (.inl ⟨_, rfl, toBookA b hsA, (newK_rev (by repeat' (first | exact newK_nil | exact newK_app0 (by first | exact KAB | exact KBA | exact dis_goneL KAB | exact dis_goneL KBA | exact KARA | exact RAKA | exact dis_goneL KARA | exact KARB | exact RBKA | exact dis_goneL KARB | exact RAB | exact RBA) | refine newK_app (by first | exact KAB | exact KBA | exact dis_goneL KAB | exact dis_goneL KBA | exact KARA | exact RAKA | exact dis_goneL KARA | exact KARB | exact RBKA | exact dis_goneL KARB | exact RAB | exact RBA) ?_ | refine newK_cons (by first | exact KA_lo (by omega) | exact KA_hi (by omega) (by omega) | exact KB_lo (by omega) | exact KB_hi (by omega) (by omega) | exact RA_lo (by omega) | exact RA_hi (by omega) (by omega) | exact RB_lo (by omega) | exact RB_hi (by omega) (by omega)) ?_))), bkr_refV, bkr_refs, by simp [bkV, No99, No99L], KA_99⟩)), ?_⟩
  simp (config := { maxSteps := 2000000, maxDischargeDepth := 8 }) only [bitvec_to_nat, reduceIte, Nat.reduceEqDiff, Nat.reduceAdd, Nat.reduceLeDiff, reduceCtorEq, Nat.reduceBEq, Nat.reduceLT, Nat.reduceMod, List.forall_mem_cons, t_szPBook, t_sPlAll, tk_map, dp_map, toNat_pred, appE, rowsOf, List.take_length, List.length_cons, List.length_nil, Nat.zero_add, srow, irow, un_s, un_i, Zone.row, Zone_eta, un_Zone, Word.row, Word_eta, Own.row, Own_eta, Part.row, Part_eta, Seen.row, Seen_eta, Book.row, Book_eta, Sector.row, Sector_eta, HCraft.row, HCraft_eta, World.row, World_eta, PKind.row, PKind_eta, PPt.row, PPt_eta, Cell.row, Cell_eta, PBase.row, PBase_eta, Chg.row, Chg_eta, Fld.row, Fld_eta, Ent.row, Ent_eta, PBook.row, PBook_eta, Flt.row, Flt_eta, un_Word, un_Own, un_Part, un_Seen, un_Book, un_Sector, un_HCraft, un_World, un_PKind, un_PPt, un_Cell, un_PBase, un_Chg, un_Fld, un_Ent, un_PBook, un_Flt, Chg.row, Chg_eta, PBook.row, PBook_eta, bkV, List.length_map, Int.toNat_natCast, Nat.sub_zero, and_self, eq_self, not_true_eq_false, ne_eq, bne_self_eq_false, hst, hso, hn1,  List.nil_append, offs_getA, offs_get, offs_setA, offs_set, ap_cons, ap_skip, ap_skip0, ap_over, ap_over0, ap_self, ap_self0, ap_new, ap_appU, KA_lo, KA_hi, KB_lo, KB_hi, KAB, KBA, RA_lo, RA_hi, RB_lo, RB_hi, RA_uniq, RB_uniq, RA_k, RA_k0, RB_k, RB_k0, RA_ov, RA_ov0, FO_get, FO_getA, KARA, RAKA, KARB, RBKA, RAB, RBA, offs_gone, offs_rev, dis_goneL, dis_goneR, dis_revR, KA_uniq, KB_uniq, KA_k, KA_k0, KB_k, KB_k0, KA_k', KA_k0', KB_k', KB_k0', List.cons_append, List.nil_append, List.append_assoc]
  refine ⟨_, _, callR_look (news := []) (keep := KA b) (args' := [.agg (b.row 99)]) (by simp only [tag0L, tag_bk]; exact hI1) (by repeat' (first | exact getK_self (KA_uniq _) | exact getK_self (KB_uniq _) | exact uniq_self (KA_uniq _) | exact uniq_self (KB_uniq _) | exact uniq_self RA_uniq | exact uniq_self RB_uniq | exact getK_self RA_uniq | exact getK_self RB_uniq | refine getK_app (by first | exact KAB | exact KBA | exact dis_goneL KAB | exact dis_goneL KBA | exact KARA | exact RAKA | exact dis_goneL KARA | exact KARB | exact RBKA | exact dis_goneL KARB | exact RAB | exact RBA) ?_ | refine getK_cons (by first | exact KA_lo (by omega) | exact KA_hi (by omega) (by omega) | exact KB_lo (by omega) | exact KB_hi (by omega) (by omega) | exact RA_lo (by omega) | exact RA_hi (by omega) (by omega) | exact RB_lo (by omega) | exact RB_hi (by omega) (by omega)) ?_)) (purNL_cons (purN_bk (by repeat' (first | exact getK_self (KA_uniq _) | exact getK_self (KB_uniq _) | exact uniq_self (KA_uniq _) | exact uniq_self (KB_uniq _) | exact uniq_self RA_uniq | exact uniq_self RB_uniq | exact getK_self RA_uniq | exact getK_self RB_uniq | refine getK_app (by first | exact KAB | exact KBA | exact dis_goneL KAB | exact dis_goneL KBA | exact KARA | exact RAKA | exact dis_goneL KARA | exact KARB | exact RBKA | exact dis_goneL KARB | exact RAB | exact RBA) ?_ | refine getK_cons (by first | exact KA_lo (by omega) | exact KA_hi (by omega) (by omega) | exact KB_lo (by omega) | exact KB_hi (by omega) (by omega) | exact RA_lo (by omega) | exact RA_hi (by omega) (by omega) | exact RB_lo (by omega) | exact RB_hi (by omega) (by omega)) ?_)) (uniq_self (KA_uniq b))) rfl) (by simp only [no98L, no98_bk 99 (by omega), Bool.and_self]) rfl rfl (by simp) rfl rfl (by simp [No99, No99L, No99LL]) (by simp), ?_⟩
  simp (config := { maxSteps := 2000000, maxDischargeDepth := 8 }) only [bitvec_to_nat, reduceIte, Nat.reduceEqDiff, Nat.reduceAdd, Nat.reduceLeDiff, reduceCtorEq, Nat.reduceBEq, Nat.reduceLT, Nat.reduceMod, List.forall_mem_cons, t_szPBook, t_sPlAll, tk_map, dp_map, toNat_pred, appE, rowsOf, List.take_length, List.length_cons, List.length_nil, Nat.zero_add, srow, irow, un_s, un_i, Zone.row, Zone_eta, un_Zone, Word.row, Word_eta, Own.row, Own_eta, Part.row, Part_eta, Seen.row, Seen_eta, Book.row, Book_eta, Sector.row, Sector_eta, HCraft.row, HCraft_eta, World.row, World_eta, PKind.row, PKind_eta, PPt.row, PPt_eta, Cell.row, Cell_eta, PBase.row, PBase_eta, Chg.row, Chg_eta, Fld.row, Fld_eta, Ent.row, Ent_eta, PBook.row, PBook_eta, Flt.row, Flt_eta, un_Word, un_Own, un_Part, un_Seen, un_Book, un_Sector, un_HCraft, un_World, un_PKind, un_PPt, un_Cell, un_PBase, un_Chg, un_Fld, un_Ent, un_PBook, un_Flt, Chg.row, Chg_eta, PBook.row, PBook_eta, bkV, List.length_map, Int.toNat_natCast, Nat.sub_zero, and_self, eq_self, not_true_eq_false, ne_eq, bne_self_eq_false, hst, hso, hn1,  List.nil_append, offs_getA, offs_get, offs_setA, offs_set, ap_cons, ap_skip, ap_skip0, ap_over, ap_over0, ap_self, ap_self0, ap_new, ap_appU, KA_lo, KA_hi, KB_lo, KB_hi, KAB, KBA, RA_lo, RA_hi, RB_lo, RB_hi, RA_uniq, RB_uniq, RA_k, RA_k0, RB_k, RB_k0, RA_ov, RA_ov0, FO_get, FO_getA, KARA, RAKA, KARB, RBKA, RAB, RBA, offs_gone, offs_rev, dis_goneL, dis_goneR, dis_revR, KA_uniq, KB_uniq, KA_k, KA_k0, KB_k, KB_k0, KA_k', KA_k0', KB_k', KB_k0', List.cons_append, List.nil_append, List.append_assoc]
  refine ⟨_, _, .inr (.inl ⟨rfl, _, rfl, eqF, rfl, trivial⟩), ?_⟩
  simp (config := { maxSteps := 2000000, maxDischargeDepth := 8 }) only [bitvec_to_nat, reduceIte, Nat.reduceEqDiff, Nat.reduceAdd, Nat.reduceLeDiff, reduceCtorEq, Nat.reduceBEq, Nat.reduceLT, Nat.reduceMod, List.forall_mem_cons, t_szPBook, t_sPlAll, tk_map, dp_map, toNat_pred, appE, rowsOf, List.take_length, List.length_cons, List.length_nil, Nat.zero_add, srow, irow, un_s, un_i, Zone.row, Zone_eta, un_Zone, Word.row, Word_eta, Own.row, Own_eta, Part.row, Part_eta, Seen.row, Seen_eta, Book.row, Book_eta, Sector.row, Sector_eta, HCraft.row, HCraft_eta, World.row, World_eta, PKind.row, PKind_eta, PPt.row, PPt_eta, Cell.row, Cell_eta, PBase.row, PBase_eta, Chg.row, Chg_eta, Fld.row, Fld_eta, Ent.row, Ent_eta, PBook.row, PBook_eta, Flt.row, Flt_eta, un_Word, un_Own, un_Part, un_Seen, un_Book, un_Sector, un_HCraft, un_World, un_PKind, un_PPt, un_Cell, un_PBase, un_Chg, un_Fld, un_Ent, un_PBook, un_Flt, Chg.row, Chg_eta, PBook.row, PBook_eta, bkV, List.length_map, Int.toNat_natCast, Nat.sub_zero, and_self, eq_self, not_true_eq_false, ne_eq, bne_self_eq_false, hst, hso, hn1,  List.nil_append, offs_getA, offs_get, offs_setA, offs_set, ap_cons, ap_skip, ap_skip0, ap_over, ap_over0, ap_self, ap_self0, ap_new, ap_appU, KA_lo, KA_hi, KB_lo, KB_hi, KAB, KBA, RA_lo, RA_hi, RB_lo, RB_hi, RA_uniq, RB_uniq, RA_k, RA_k0, RB_k, RB_k0, RA_ov, RA_ov0, FO_get, FO_getA, KARA, RAKA, KARB, RBKA, RAB, RBA, offs_gone, offs_rev, dis_goneL, dis_goneR, dis_revR, KA_uniq, KB_uniq, KA_k, KA_k0, KB_k, KB_k0, KA_k', KA_k0', KB_k', KB_k0', List.cons_append, List.nil_append, List.append_assoc]
  refine ⟨_, _, .inr (.inl ⟨rfl, _, rfl, hTA, rfl, n9A⟩), ?_⟩
  simp (config := { maxSteps := 2000000, maxDischargeDepth := 8 }) only [bitvec_to_nat, reduceIte, Nat.reduceEqDiff, Nat.reduceAdd, Nat.reduceLeDiff, reduceCtorEq, Nat.reduceBEq, Nat.reduceLT, Nat.reduceMod, List.forall_mem_cons, t_szPBook, t_sPlAll, tk_map, dp_map, toNat_pred, appE, rowsOf, List.take_length, List.length_cons, List.length_nil, Nat.zero_add, srow, irow, un_s, un_i, Zone.row, Zone_eta, un_Zone, Word.row, Word_eta, Own.row, Own_eta, Part.row, Part_eta, Seen.row, Seen_eta, Book.row, Book_eta, Sector.row, Sector_eta, HCraft.row, HCraft_eta, World.row, World_eta, PKind.row, PKind_eta, PPt.row, PPt_eta, Cell.row, Cell_eta, PBase.row, PBase_eta, Chg.row, Chg_eta, Fld.row, Fld_eta, Ent.row, Ent_eta, PBook.row, PBook_eta, Flt.row, Flt_eta, un_Word, un_Own, un_Part, un_Seen, un_Book, un_Sector, un_HCraft, un_World, un_PKind, un_PPt, un_Cell, un_PBase, un_Chg, un_Fld, un_Ent, un_PBook, un_Flt, Chg.row, Chg_eta, PBook.row, PBook_eta, bkV, List.length_map, Int.toNat_natCast, Nat.sub_zero, and_self, eq_self, not_true_eq_false, ne_eq, bne_self_eq_false, hst, hso, hn1,  List.nil_append, offs_getA, offs_get, offs_setA, offs_set, ap_cons, ap_skip, ap_skip0, ap_over, ap_over0, ap_self, ap_self0, ap_new, ap_appU, KA_lo, KA_hi, KB_lo, KB_hi, KAB, KBA, RA_lo, RA_hi, RB_lo, RB_hi, RA_uniq, RB_uniq, RA_k, RA_k0, RB_k, RB_k0, RA_ov, RA_ov0, FO_get, FO_getA, KARA, RAKA, KARB, RBKA, RAB, RBA, offs_gone, offs_rev, dis_goneL, dis_goneR, dis_revR, KA_uniq, KB_uniq, KA_k, KA_k0, KB_k, KB_k0, KA_k', KA_k0', KB_k', KB_k0', List.cons_append, List.nil_append, List.append_assoc]
  refine ⟨_, _, callR_look (r := .bool true) (news := []) (keep := KA b) (args' := [.agg (b.row 99), .agg (b.row 0)]) (by simp only [tag0L, tag_bk]; exact eqA) (by repeat' (first | exact getK_self (KA_uniq _) | exact getK_self (KB_uniq _) | exact uniq_self (KA_uniq _) | exact uniq_self (KB_uniq _) | exact uniq_self RA_uniq | exact uniq_self RB_uniq | exact getK_self RA_uniq | exact getK_self RB_uniq | refine getK_app (by first | exact KAB | exact KBA | exact dis_goneL KAB | exact dis_goneL KBA | exact KARA | exact RAKA | exact dis_goneL KARA | exact KARB | exact RBKA | exact dis_goneL KARB | exact RAB | exact RBA) ?_ | refine getK_cons (by first | exact KA_lo (by omega) | exact KA_hi (by omega) (by omega) | exact KB_lo (by omega) | exact KB_hi (by omega) (by omega) | exact RA_lo (by omega) | exact RA_hi (by omega) (by omega) | exact RB_lo (by omega) | exact RB_hi (by omega) (by omega)) ?_)) (purNL_cons (purN_bk (by repeat' (first | exact getK_self (KA_uniq _) | exact getK_self (KB_uniq _) | exact uniq_self (KA_uniq _) | exact uniq_self (KB_uniq _) | exact uniq_self RA_uniq | exact uniq_self RB_uniq | exact getK_self RA_uniq | exact getK_self RB_uniq | refine getK_app (by first | exact KAB | exact KBA | exact dis_goneL KAB | exact dis_goneL KBA | exact KARA | exact RAKA | exact dis_goneL KARA | exact KARB | exact RBKA | exact dis_goneL KARB | exact RAB | exact RBA) ?_ | refine getK_cons (by first | exact KA_lo (by omega) | exact KA_hi (by omega) (by omega) | exact KB_lo (by omega) | exact KB_hi (by omega) (by omega) | exact RA_lo (by omega) | exact RA_hi (by omega) (by omega) | exact RB_lo (by omega) | exact RB_hi (by omega) (by omega)) ?_)) (uniq_self (KA_uniq b))) rfl) (by simp only [no98L, no98_bk 99 (by omega), no98_bk 0 (by omega), Bool.and_self]) rfl rfl (by simp) rfl rfl trivial (by simp), ?_⟩
  simp (config := { maxSteps := 2000000, maxDischargeDepth := 8 }) only [bitvec_to_nat, reduceIte, Nat.reduceEqDiff, Nat.reduceAdd, Nat.reduceLeDiff, reduceCtorEq, Nat.reduceBEq, Nat.reduceLT, Nat.reduceMod, List.forall_mem_cons, t_szPBook, t_sPlAll, tk_map, dp_map, toNat_pred, appE, rowsOf, List.take_length, List.length_cons, List.length_nil, Nat.zero_add, srow, irow, un_s, un_i, Zone.row, Zone_eta, un_Zone, Word.row, Word_eta, Own.row, Own_eta, Part.row, Part_eta, Seen.row, Seen_eta, Book.row, Book_eta, Sector.row, Sector_eta, HCraft.row, HCraft_eta, World.row, World_eta, PKind.row, PKind_eta, PPt.row, PPt_eta, Cell.row, Cell_eta, PBase.row, PBase_eta, Chg.row, Chg_eta, Fld.row, Fld_eta, Ent.row, Ent_eta, PBook.row, PBook_eta, Flt.row, Flt_eta, un_Word, un_Own, un_Part, un_Seen, un_Book, un_Sector, un_HCraft, un_World, un_PKind, un_PPt, un_Cell, un_PBase, un_Chg, un_Fld, un_Ent, un_PBook, un_Flt, Chg.row, Chg_eta, PBook.row, PBook_eta, bkV, List.length_map, Int.toNat_natCast, Nat.sub_zero, and_self, eq_self, not_true_eq_false, ne_eq, bne_self_eq_false, hst, hso, hn1,  List.nil_append, offs_getA, offs_get, offs_setA, offs_set, ap_cons, ap_skip, ap_skip0, ap_over, ap_over0, ap_self, ap_self0, ap_new, ap_appU, KA_lo, KA_hi, KB_lo, KB_hi, KAB, KBA, RA_lo, RA_hi, RB_lo, RB_hi, RA_uniq, RB_uniq, RA_k, RA_k0, RB_k, RB_k0, RA_ov, RA_ov0, FO_get, FO_getA, KARA, RAKA, KARB, RBKA, RAB, RBA, offs_gone, offs_rev, dis_goneL, dis_goneR, dis_revR, KA_uniq, KB_uniq, KA_k, KA_k0, KB_k, KB_k0, KA_k', KA_k0', KB_k', KB_k0', List.cons_append, List.nil_append, List.append_assoc]
  refine ⟨_, _, callR_gone mkA (by repeat' (first | exact getK_self (KA_uniq _) | exact getK_self (KB_uniq _) | exact uniq_self (KA_uniq _) | exact uniq_self (KB_uniq _) | exact uniq_self RA_uniq | exact uniq_self RB_uniq | exact getK_self RA_uniq | exact getK_self RB_uniq | refine getK_app (by first | exact KAB | exact KBA | exact dis_goneL KAB | exact dis_goneL KBA | exact KARA | exact RAKA | exact dis_goneL KARA | exact KARB | exact RBKA | exact dis_goneL KARB | exact RAB | exact RBA) ?_ | refine getK_cons (by first | exact KA_lo (by omega) | exact KA_hi (by omega) (by omega) | exact KB_lo (by omega) | exact KB_hi (by omega) (by omega) | exact RA_lo (by omega) | exact RA_hi (by omega) (by omega) | exact RB_lo (by omega) | exact RB_hi (by omega) (by omega)) ?_)) KA_ref bk_refs rfl, ?_⟩
  simp (config := { maxSteps := 2000000, maxDischargeDepth := 8 }) only [bitvec_to_nat, reduceIte, Nat.reduceEqDiff, Nat.reduceAdd, Nat.reduceLeDiff, reduceCtorEq, Nat.reduceBEq, Nat.reduceLT, Nat.reduceMod, List.forall_mem_cons, t_szPBook, t_sPlAll, tk_map, dp_map, toNat_pred, appE, rowsOf, List.take_length, List.length_cons, List.length_nil, Nat.zero_add, srow, irow, un_s, un_i, Zone.row, Zone_eta, un_Zone, Word.row, Word_eta, Own.row, Own_eta, Part.row, Part_eta, Seen.row, Seen_eta, Book.row, Book_eta, Sector.row, Sector_eta, HCraft.row, HCraft_eta, World.row, World_eta, PKind.row, PKind_eta, PPt.row, PPt_eta, Cell.row, Cell_eta, PBase.row, PBase_eta, Chg.row, Chg_eta, Fld.row, Fld_eta, Ent.row, Ent_eta, PBook.row, PBook_eta, Flt.row, Flt_eta, un_Word, un_Own, un_Part, un_Seen, un_Book, un_Sector, un_HCraft, un_World, un_PKind, un_PPt, un_Cell, un_PBase, un_Chg, un_Fld, un_Ent, un_PBook, un_Flt, Chg.row, Chg_eta, PBook.row, PBook_eta, bkV, List.length_map, Int.toNat_natCast, Nat.sub_zero, and_self, eq_self, not_true_eq_false, ne_eq, bne_self_eq_false, hst, hso, hn1,  List.nil_append, offs_getA, offs_get, offs_setA, offs_set, ap_cons, ap_skip, ap_skip0, ap_over, ap_over0, ap_self, ap_self0, ap_new, ap_appU, KA_lo, KA_hi, KB_lo, KB_hi, KAB, KBA, RA_lo, RA_hi, RB_lo, RB_hi, RA_uniq, RB_uniq, RA_k, RA_k0, RB_k, RB_k0, RA_ov, RA_ov0, FO_get, FO_getA, KARA, RAKA, KARB, RBKA, RAB, RBA, offs_gone, offs_rev, dis_goneL, dis_goneR, dis_revR, KA_uniq, KB_uniq, KA_k, KA_k0, KB_k, KB_k0, KA_k', KA_k0', KB_k', KB_k0', List.cons_append, List.nil_append, List.append_assoc]
  refine ⟨fun h => by omega, fun _ => ⟨_, _, .inr (.inl ⟨rfl, _, rfl, eqF, rfl, trivial⟩), ?_⟩⟩
  simp (config := { maxSteps := 2000000, maxDischargeDepth := 8 }) only [bitvec_to_nat, reduceIte, Nat.reduceEqDiff, Nat.reduceAdd, Nat.reduceLeDiff, reduceCtorEq, Nat.reduceBEq, Nat.reduceLT, Nat.reduceMod, List.forall_mem_cons, t_szPBook, t_sPlAll, tk_map, dp_map, toNat_pred, appE, rowsOf, List.take_length, List.length_cons, List.length_nil, Nat.zero_add, srow, irow, un_s, un_i, Zone.row, Zone_eta, un_Zone, Word.row, Word_eta, Own.row, Own_eta, Part.row, Part_eta, Seen.row, Seen_eta, Book.row, Book_eta, Sector.row, Sector_eta, HCraft.row, HCraft_eta, World.row, World_eta, PKind.row, PKind_eta, PPt.row, PPt_eta, Cell.row, Cell_eta, PBase.row, PBase_eta, Chg.row, Chg_eta, Fld.row, Fld_eta, Ent.row, Ent_eta, PBook.row, PBook_eta, Flt.row, Flt_eta, un_Word, un_Own, un_Part, un_Seen, un_Book, un_Sector, un_HCraft, un_World, un_PKind, un_PPt, un_Cell, un_PBase, un_Chg, un_Fld, un_Ent, un_PBook, un_Flt, Chg.row, Chg_eta, PBook.row, PBook_eta, bkV, List.length_map, Int.toNat_natCast, Nat.sub_zero, and_self, eq_self, not_true_eq_false, ne_eq, bne_self_eq_false, hst, hso, hn1,  List.nil_append, offs_getA, offs_get, offs_setA, offs_set, ap_cons, ap_skip, ap_skip0, ap_over, ap_over0, ap_self, ap_self0, ap_new, ap_appU, KA_lo, KA_hi, KB_lo, KB_hi, KAB, KBA, RA_lo, RA_hi, RB_lo, RB_hi, RA_uniq, RB_uniq, RA_k, RA_k0, RB_k, RB_k0, RA_ov, RA_ov0, FO_get, FO_getA, KARA, RAKA, KARB, RBKA, RAB, RBA, offs_gone, offs_rev, dis_goneL, dis_goneR, dis_revR, KA_uniq, KB_uniq, KA_k, KA_k0, KB_k, KB_k0, KA_k', KA_k0', KB_k', KB_k0', List.cons_append, List.nil_append, List.append_assoc]
  refine ⟨_, _, .inr (.inl ⟨rfl, _, rfl, hZ, rfl, trivial⟩), ?_⟩
  simp (config := { maxSteps := 2000000, maxDischargeDepth := 8 }) only [bitvec_to_nat, reduceIte, Nat.reduceEqDiff, Nat.reduceAdd, Nat.reduceLeDiff, reduceCtorEq, Nat.reduceBEq, Nat.reduceLT, Nat.reduceMod, List.forall_mem_cons, t_szPBook, t_sPlAll, tk_map, dp_map, toNat_pred, appE, rowsOf, List.take_length, List.length_cons, List.length_nil, Nat.zero_add, srow, irow, un_s, un_i, Zone.row, Zone_eta, un_Zone, Word.row, Word_eta, Own.row, Own_eta, Part.row, Part_eta, Seen.row, Seen_eta, Book.row, Book_eta, Sector.row, Sector_eta, HCraft.row, HCraft_eta, World.row, World_eta, PKind.row, PKind_eta, PPt.row, PPt_eta, Cell.row, Cell_eta, PBase.row, PBase_eta, Chg.row, Chg_eta, Fld.row, Fld_eta, Ent.row, Ent_eta, PBook.row, PBook_eta, Flt.row, Flt_eta, un_Word, un_Own, un_Part, un_Seen, un_Book, un_Sector, un_HCraft, un_World, un_PKind, un_PPt, un_Cell, un_PBase, un_Chg, un_Fld, un_Ent, un_PBook, un_Flt, Chg.row, Chg_eta, PBook.row, PBook_eta, bkV, List.length_map, Int.toNat_natCast, Nat.sub_zero, and_self, eq_self, not_true_eq_false, ne_eq, bne_self_eq_false, hst, hso, hn1,  List.nil_append, offs_getA, offs_get, offs_setA, offs_set, ap_cons, ap_skip, ap_skip0, ap_over, ap_over0, ap_self, ap_self0, ap_new, ap_appU, KA_lo, KA_hi, KB_lo, KB_hi, KAB, KBA, RA_lo, RA_hi, RB_lo, RB_hi, RA_uniq, RB_uniq, RA_k, RA_k0, RB_k, RB_k0, RA_ov, RA_ov0, FO_get, FO_getA, KARA, RAKA, KARB, RBKA, RAB, RBA, offs_gone, offs_rev, dis_goneL, dis_goneR, dis_revR, KA_uniq, KB_uniq, KA_k, KA_k0, KB_k, KB_k0, KA_k', KA_k0', KB_k', KB_k0', List.cons_append, List.nil_append, List.append_assoc]
  refine ⟨_, _, .inr (.inl ⟨rfl, _, rfl, hH, rfl, trivial⟩), ?_⟩
  simp (config := { maxSteps := 2000000, maxDischargeDepth := 8 }) only [bitvec_to_nat, reduceIte, Nat.reduceEqDiff, Nat.reduceAdd, Nat.reduceLeDiff, reduceCtorEq, Nat.reduceBEq, Nat.reduceLT, Nat.reduceMod, List.forall_mem_cons, t_szPBook, t_sPlAll, tk_map, dp_map, toNat_pred, appE, rowsOf, List.take_length, List.length_cons, List.length_nil, Nat.zero_add, srow, irow, un_s, un_i, Zone.row, Zone_eta, un_Zone, Word.row, Word_eta, Own.row, Own_eta, Part.row, Part_eta, Seen.row, Seen_eta, Book.row, Book_eta, Sector.row, Sector_eta, HCraft.row, HCraft_eta, World.row, World_eta, PKind.row, PKind_eta, PPt.row, PPt_eta, Cell.row, Cell_eta, PBase.row, PBase_eta, Chg.row, Chg_eta, Fld.row, Fld_eta, Ent.row, Ent_eta, PBook.row, PBook_eta, Flt.row, Flt_eta, un_Word, un_Own, un_Part, un_Seen, un_Book, un_Sector, un_HCraft, un_World, un_PKind, un_PPt, un_Cell, un_PBase, un_Chg, un_Fld, un_Ent, un_PBook, un_Flt, Chg.row, Chg_eta, PBook.row, PBook_eta, bkV, List.length_map, Int.toNat_natCast, Nat.sub_zero, and_self, eq_self, not_true_eq_false, ne_eq, bne_self_eq_false, hst, hso, hn1,  List.nil_append, offs_getA, offs_get, offs_setA, offs_set, ap_cons, ap_skip, ap_skip0, ap_over, ap_over0, ap_self, ap_self0, ap_new, ap_appU, KA_lo, KA_hi, KB_lo, KB_hi, KAB, KBA, RA_lo, RA_hi, RB_lo, RB_hi, RA_uniq, RB_uniq, RA_k, RA_k0, RB_k, RB_k0, RA_ov, RA_ov0, FO_get, FO_getA, KARA, RAKA, KARB, RBKA, RAB, RBA, offs_gone, offs_rev, dis_goneL, dis_goneR, dis_revR, KA_uniq, KB_uniq, KA_k, KA_k0, KB_k, KB_k0, KA_k', KA_k0', KB_k', KB_k0', List.cons_append, List.nil_append, List.append_assoc]
  refine ⟨fun h => by omega, fun _ => ⟨_, _, .inr (.inl ⟨rfl, _, rfl, hTA, rfl, n9A⟩), ?_⟩⟩
  simp (config := { maxSteps := 2000000, maxDischargeDepth := 8 }) only [bitvec_to_nat, reduceIte, Nat.reduceEqDiff, Nat.reduceAdd, Nat.reduceLeDiff, reduceCtorEq, Nat.reduceBEq, Nat.reduceLT, Nat.reduceMod, List.forall_mem_cons, t_szPBook, t_sPlAll, tk_map, dp_map, toNat_pred, appE, rowsOf, List.take_length, List.length_cons, List.length_nil, Nat.zero_add, srow, irow, un_s, un_i, Zone.row, Zone_eta, un_Zone, Word.row, Word_eta, Own.row, Own_eta, Part.row, Part_eta, Seen.row, Seen_eta, Book.row, Book_eta, Sector.row, Sector_eta, HCraft.row, HCraft_eta, World.row, World_eta, PKind.row, PKind_eta, PPt.row, PPt_eta, Cell.row, Cell_eta, PBase.row, PBase_eta, Chg.row, Chg_eta, Fld.row, Fld_eta, Ent.row, Ent_eta, PBook.row, PBook_eta, Flt.row, Flt_eta, un_Word, un_Own, un_Part, un_Seen, un_Book, un_Sector, un_HCraft, un_World, un_PKind, un_PPt, un_Cell, un_PBase, un_Chg, un_Fld, un_Ent, un_PBook, un_Flt, Chg.row, Chg_eta, PBook.row, PBook_eta, bkV, List.length_map, Int.toNat_natCast, Nat.sub_zero, and_self, eq_self, not_true_eq_false, ne_eq, bne_self_eq_false, hst, hso, hn1,  List.nil_append, offs_getA, offs_get, offs_setA, offs_set, ap_cons, ap_skip, ap_skip0, ap_over, ap_over0, ap_self, ap_self0, ap_new, ap_appU, KA_lo, KA_hi, KB_lo, KB_hi, KAB, KBA, RA_lo, RA_hi, RB_lo, RB_hi, RA_uniq, RB_uniq, RA_k, RA_k0, RB_k, RB_k0, RA_ov, RA_ov0, FO_get, FO_getA, KARA, RAKA, KARB, RBKA, RAB, RBA, offs_gone, offs_rev, dis_goneL, dis_goneR, dis_revR, KA_uniq, KB_uniq, KA_k, KA_k0, KB_k, KB_k0, KA_k', KA_k0', KB_k', KB_k0', List.cons_append, List.nil_append, List.append_assoc]
  refine ⟨_, _, .inr (.inl ⟨rfl, _, rfl, hI1, rfl, by simp [No99, No99LL]⟩), ?_⟩
  simp (config := { maxSteps := 2000000, maxDischargeDepth := 8 }) only [bitvec_to_nat, reduceIte, Nat.reduceEqDiff, Nat.reduceAdd, Nat.reduceLeDiff, reduceCtorEq, Nat.reduceBEq, Nat.reduceLT, Nat.reduceMod, List.forall_mem_cons, t_szPBook, t_sPlAll, tk_map, dp_map, toNat_pred, appE, rowsOf, List.take_length, List.length_cons, List.length_nil, Nat.zero_add, srow, irow, un_s, un_i, Zone.row, Zone_eta, un_Zone, Word.row, Word_eta, Own.row, Own_eta, Part.row, Part_eta, Seen.row, Seen_eta, Book.row, Book_eta, Sector.row, Sector_eta, HCraft.row, HCraft_eta, World.row, World_eta, PKind.row, PKind_eta, PPt.row, PPt_eta, Cell.row, Cell_eta, PBase.row, PBase_eta, Chg.row, Chg_eta, Fld.row, Fld_eta, Ent.row, Ent_eta, PBook.row, PBook_eta, Flt.row, Flt_eta, un_Word, un_Own, un_Part, un_Seen, un_Book, un_Sector, un_HCraft, un_World, un_PKind, un_PPt, un_Cell, un_PBase, un_Chg, un_Fld, un_Ent, un_PBook, un_Flt, Chg.row, Chg_eta, PBook.row, PBook_eta, bkV, List.length_map, Int.toNat_natCast, Nat.sub_zero, and_self, eq_self, not_true_eq_false, ne_eq, bne_self_eq_false, hst, hso, hn1,  List.nil_append, offs_getA, offs_get, offs_setA, offs_set, ap_cons, ap_skip, ap_skip0, ap_over, ap_over0, ap_self, ap_self0, ap_new, ap_appU, KA_lo, KA_hi, KB_lo, KB_hi, KAB, KBA, RA_lo, RA_hi, RB_lo, RB_hi, RA_uniq, RB_uniq, RA_k, RA_k0, RB_k, RB_k0, RA_ov, RA_ov0, FO_get, FO_getA, KARA, RAKA, KARB, RBKA, RAB, RBA, offs_gone, offs_rev, dis_goneL, dis_goneR, dis_revR, KA_uniq, KB_uniq, KA_k, KA_k0, KB_k, KB_k0, KA_k', KA_k0', KB_k', KB_k0', List.cons_append, List.nil_append, List.append_assoc]
  refine ⟨_, _, .inr (.inl ⟨rfl, _, rfl, eqF, rfl, trivial⟩), ?_⟩
  simp (config := { maxSteps := 2000000, maxDischargeDepth := 8 }) only [bitvec_to_nat, reduceIte, Nat.reduceEqDiff, Nat.reduceAdd, Nat.reduceLeDiff, reduceCtorEq, Nat.reduceBEq, Nat.reduceLT, Nat.reduceMod, List.forall_mem_cons, t_szPBook, t_sPlAll, tk_map, dp_map, toNat_pred, appE, rowsOf, List.take_length, List.length_cons, List.length_nil, Nat.zero_add, srow, irow, un_s, un_i, Zone.row, Zone_eta, un_Zone, Word.row, Word_eta, Own.row, Own_eta, Part.row, Part_eta, Seen.row, Seen_eta, Book.row, Book_eta, Sector.row, Sector_eta, HCraft.row, HCraft_eta, World.row, World_eta, PKind.row, PKind_eta, PPt.row, PPt_eta, Cell.row, Cell_eta, PBase.row, PBase_eta, Chg.row, Chg_eta, Fld.row, Fld_eta, Ent.row, Ent_eta, PBook.row, PBook_eta, Flt.row, Flt_eta, un_Word, un_Own, un_Part, un_Seen, un_Book, un_Sector, un_HCraft, un_World, un_PKind, un_PPt, un_Cell, un_PBase, un_Chg, un_Fld, un_Ent, un_PBook, un_Flt, Chg.row, Chg_eta, PBook.row, PBook_eta, bkV, List.length_map, Int.toNat_natCast, Nat.sub_zero, and_self, eq_self, not_true_eq_false, ne_eq, bne_self_eq_false, hst, hso, hn1,  List.nil_append, offs_getA, offs_get, offs_setA, offs_set, ap_cons, ap_skip, ap_skip0, ap_over, ap_over0, ap_self, ap_self0, ap_new, ap_appU, KA_lo, KA_hi, KB_lo, KB_hi, KAB, KBA, RA_lo, RA_hi, RB_lo, RB_hi, RA_uniq, RB_uniq, RA_k, RA_k0, RB_k, RB_k0, RA_ov, RA_ov0, FO_get, FO_getA, KARA, RAKA, KARB, RBKA, RAB, RBA, offs_gone, offs_rev, dis_goneL, dis_goneR, dis_revR, KA_uniq, KB_uniq, KA_k, KA_k0, KB_k, KB_k0, KA_k', KA_k0', KB_k', KB_k0', List.cons_append, List.nil_append, List.append_assoc]
  refine ⟨_, _, .inr (.inl ⟨rfl, _, rfl, hH, rfl, trivial⟩), ?_⟩
  simp (config := { maxSteps := 2000000, maxDischargeDepth := 8 }) only [bitvec_to_nat, reduceIte, Nat.reduceEqDiff, Nat.reduceAdd, Nat.reduceLeDiff, reduceCtorEq, Nat.reduceBEq, Nat.reduceLT, Nat.reduceMod, List.forall_mem_cons, t_szPBook, t_sPlAll, tk_map, dp_map, toNat_pred, appE, rowsOf, List.take_length, List.length_cons, List.length_nil, Nat.zero_add, srow, irow, un_s, un_i, Zone.row, Zone_eta, un_Zone, Word.row, Word_eta, Own.row, Own_eta, Part.row, Part_eta, Seen.row, Seen_eta, Book.row, Book_eta, Sector.row, Sector_eta, HCraft.row, HCraft_eta, World.row, World_eta, PKind.row, PKind_eta, PPt.row, PPt_eta, Cell.row, Cell_eta, PBase.row, PBase_eta, Chg.row, Chg_eta, Fld.row, Fld_eta, Ent.row, Ent_eta, PBook.row, PBook_eta, Flt.row, Flt_eta, un_Word, un_Own, un_Part, un_Seen, un_Book, un_Sector, un_HCraft, un_World, un_PKind, un_PPt, un_Cell, un_PBase, un_Chg, un_Fld, un_Ent, un_PBook, un_Flt, Chg.row, Chg_eta, PBook.row, PBook_eta, bkV, List.length_map, Int.toNat_natCast, Nat.sub_zero, and_self, eq_self, not_true_eq_false, ne_eq, bne_self_eq_false, hst, hso, hn1,  List.nil_append, offs_getA, offs_get, offs_setA, offs_set, ap_cons, ap_skip, ap_skip0, ap_over, ap_over0, ap_self, ap_self0, ap_new, ap_appU, KA_lo, KA_hi, KB_lo, KB_hi, KAB, KBA, RA_lo, RA_hi, RB_lo, RB_hi, RA_uniq, RB_uniq, RA_k, RA_k0, RB_k, RB_k0, RA_ov, RA_ov0, FO_get, FO_getA, KARA, RAKA, KARB, RBKA, RAB, RBA, offs_gone, offs_rev, dis_goneL, dis_goneR, dis_revR, KA_uniq, KB_uniq, KA_k, KA_k0, KB_k, KB_k0, KA_k', KA_k0', KB_k', KB_k0', List.cons_append, List.nil_append, List.append_assoc]
  exact fun h => by omega

theorem c_FnExactPlanAll (b : PBook) (hfa : b.fitp) : Contract P 8 [.agg (b.row 1)] [] (.bool true) [] := by
  by_cases hv : b.ok
  · exact c_lawAY b hfa hv
  · exact c_lawAN b hfa hv
end
end Go.Ve

