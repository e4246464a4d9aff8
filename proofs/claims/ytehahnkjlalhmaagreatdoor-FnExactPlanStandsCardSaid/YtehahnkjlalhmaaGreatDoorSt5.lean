/- Part 5 of the proof: laws and contracts of functions, each proved; they are joined in the last part. No conditions beyond those that the theorems state. -/
import Derived.Test.YtehahnkjlalhmaaGreatDoorProg
import Derived.Test.YtehahnkjlalhmaaGreatDoorSt4
set_option linter.all false
namespace Go.Ve
noncomputable section
open Go.Proofs
set_option linter.unusedSimpArgs false
set_option linter.unusedVariables false
set_option maxRecDepth 100000
def fE (k : Nat) (b : PBook) : List NRow := nfam k 96 3 (b.es.map entP)
def bkV (b : PBook) (a c d : Nat) : AV := .agg [.own a 0 0 b.ks.length, .own c 0 0 b.ps.length, .own d 0 0 b.es.length]
def bkM (b : PBook) (a c d k : Nat) : List (Nat × AObj) := (a, .arr 60 0 3 (b.ks.map PKind.row)) :: (c, .arr 119 0 3 (b.ps.map PPt.row)) :: (d, .arr (1000000 + 93) 0 2 ((fE k b).map NRow.row)) :: nobjs (fE k b)
theorem bk_mem {b : PBook} {a c d k : Nat} {p : Nat × AObj} (h : p ∈ bkM b a c d k) : p.1 = a ∨ p.1 = c ∨ p.1 = d ∨ ∃ i, p.1 = fam k i := by
  simp only [bkM, List.mem_cons] at h
  rcases h with rfl | rfl | rfl | h
  · exact .inl rfl
  · exact .inr (.inl rfl)
  · exact .inr (.inr (.inl rfl))
  · obtain ⟨i, _, rfl⟩ := nfam_at h
    exact .inr (.inr (.inr ⟨i, rfl⟩))
theorem bk_offs {b : PBook} {a c d k o : Nat} (ha : o ≠ a) (hc : o ≠ c) (hd : o ≠ d) (ho : o < 1000) : offs (bkM b a c d k) o := fun p hp e => by
  rcases bk_mem hp with h | h | h | ⟨i, h⟩
  · exact ha (e ▸ h)
  · exact hc (e ▸ h)
  · exact hd (e ▸ h)
  · rw [e] at h; unfold fam at h; omega
theorem bk_uniq {b : PBook} {a c d k : Nat} (h1 : a ≠ c) (h2 : a ≠ d) (h3 : c ≠ d) (ha : a < 1000) (hc : c < 1000) (hd : d < 1000) : uniq (bkM b a c d k) := by
  have big : ∀ p ∈ nobjs (fE k b), 1000 ≤ p.1 := bigs_nfam
  unfold uniq
  simp only [bkM, List.pairwise_cons, List.mem_cons]
  refine ⟨?_, ?_, ?_, nfam_pw⟩
  · rintro p (rfl | rfl | hp)
    · exact h1
    · exact h2
    · have := big p hp; (try simp only); omega
  · rintro p (rfl | hp)
    · exact h3
    · have := big p hp; (try simp only); omega
  · rintro p hp
    have := big p hp; (try simp only); omega
theorem bk_dom {b : PBook} {a c d k : Nat} : dom (bkM b a c d k) = a :: c :: d :: (fE k b).map (·.o) := by simp [bkM, dom, nobjs]
theorem bk_refsD {b : PBook} {a c d k : Nat} {D : List Nat} (h : ∀ o ∈ dom (bkM b a c d k), o ∈ D) : ((bkM b a c d k).all fun p => refsInO D p.2) = true := by
  rw [bk_dom] at h
  simp only [bkM, List.all_cons, Bool.and_eq_true]
  refine ⟨rfl, rfl, ?_, refsO_nfam (by omega)⟩
  simp only [refsInO]
  rw [if_neg (by omega)]
  refine refs_rows fun r hr => ?_
  rw [List.contains_iff_mem]
  exact h _ (by simp only [List.mem_cons, List.mem_map]; exact .inr (.inr (.inr ⟨r, hr, rfl⟩)))
theorem bk_refs {b : PBook} {a c d k : Nat} : ((bkM b a c d k).all fun p => refsInO (dom (bkM b a c d k)) p.2) = true := bk_refsD fun o h => h
theorem bk_refV {b : PBook} {a c d k : Nat} : refsIn (dom (bkM b a c d k)) (bkV b a c d) = true := by
  rw [bk_dom]; simp [bkV, refsIn, refsInL]
theorem dom_rev {l : List (Nat × AObj)} : dom l.reverse = (dom l).reverse := by simp [dom]
theorem bkr_refs {b : PBook} {a c d k : Nat} : ((bkM b a c d k).reverse.all fun p => refsInO (dom (bkM b a c d k).reverse) p.2) = true := by
  rw [List.all_reverse]
  exact bk_refsD fun o h => by rw [dom_rev]; simpa using h
theorem bkr_refV {b : PBook} {a c d k : Nat} : refsIn (dom (bkM b a c d k).reverse) (bkV b a c d) = true := by
  rw [dom_rev, bk_dom]; simp [bkV, refsIn, refsInL]
theorem ent99 {b : PBook} {p : Nat × AObj} {k : Nat} (h : p ∈ nobjs (fE k b)) : No99O p.2 := by
  obtain ⟨i, hi, rfl⟩ := nfam_at h
  have hi' : i < b.es.length := by simpa using hi
  simp only [No99O]
  rw [show (b.es.map entP).getD i default = entP (b.es.getD i default) from by simp [hi']]
  exact no99_Fld _
theorem bk_99 {b : PBook} {a c d k : Nat} : ∀ p ∈ bkM b a c d k, No99O p.2 := by
  intro p hp
  simp only [bkM, List.mem_cons] at hp
  rcases hp with rfl | rfl | rfl | hp
  · exact no99_PKind _
  · exact no99_PPt _
  · exact no99_NRow _
  · exact ent99 hp
theorem bk_100 {b : PBook} {a c d k : Nat} (ha : 100 ≤ a % 1000) (hc : 100 ≤ c % 1000) (hd : 100 ≤ d % 1000) (hk : 100 ≤ k) (hk2 : k < 1000) : big100 (bkM b a c d k) :=
  big100_cons ha (big100_cons hc (big100_cons hd (big100_nfam hk2 hk)))
theorem bk_dis {b b' : PBook} {a c d k a' c' d' k' : Nat} (h : ∀ x ∈ [a, c, d], ∀ y ∈ [a', c', d'], x ≠ y) (hl : ∀ x ∈ [a, c, d, a', c', d'], x < 1000) (hk : k < 1000) (hk' : k' < 1000) (hn : k ≠ k') : dis (bkM b a c d k) (bkM b' a' c' d' k') := fun p hp q hq e => by
  simp only [List.mem_cons, List.not_mem_nil, or_false, forall_eq_or_imp, forall_eq] at h hl
  rcases bk_mem hp with h1 | h1 | h1 | ⟨i, h1⟩ <;> rcases bk_mem hq with h2 | h2 | h2 | ⟨j, h2⟩ <;> rw [h1, h2] at e <;> (try unfold fam at e) <;> omega
theorem bkM_ren {b : PBook} {a c d k k' : Nat} {σ : Nat → Nat} (hA : ∀ i, σ (fam k i) = fam k' i) : renM σ (bkM b a c d k) = bkM b (σ a) (σ c) (σ d) k' := by
  have eA : (fE k b).map (NRow.ren σ) = fE k' b := by
    refine List.ext_getElem (by simp [fE, nfam]) fun i h1 h2 => ?_
    simp [fE, nfam, NRow.ren, hA, renO]
  simp only [bkM, renM, renO, renM_nobjs, eA, renRows]
  rfl
theorem bkV_ren {b : PBook} {a c d : Nat} {σ : Nat → Nat} : ren σ (bkV b a c d) = bkV b (σ a) (σ c) (σ d) := by simp only [bkV, ren, renL]
theorem purN_bk {M K : Nat → Option AObj} {b : PBook} {a c d k : Nat} (hM : ∀ p ∈ bkM b a c d k, M p.1 = some p.2) (hK : ∀ p ∈ bkM b a c d k, K p.1 = some p.2) : purN M K (bkV b a c d) = some (.agg (b.row 99)) := by
  have h1 := hM _ (show (a, AObj.arr 60 0 3 (b.ks.map PKind.row)) ∈ bkM b a c d k from by simp [bkM])
  have h2 := hM _ (show (c, AObj.arr 119 0 3 (b.ps.map PPt.row)) ∈ bkM b a c d k from by simp [bkM])
  have h3 := hM _ (show (d, AObj.arr (1000000 + 93) 0 2 ((fE k b).map NRow.row)) ∈ bkM b a c d k from by simp [bkM])
  simp only at h1 h2 h3
  have hA := purRs_nfam K (k := k) (e := 96) (sz := 3) (by omega) (x := b.es.map entP) fun p hp => hK p (by simp only [bkM, List.mem_cons]; exact .inr (.inr (.inr hp)))
  have t1 : (b.ks.map PKind.row).take b.ks.length = b.ks.map PKind.row := List.take_of_length_le (by simp)
  have t2 : (b.ps.map PPt.row).take b.ps.length = b.ps.map PPt.row := List.take_of_length_le (by simp)
  have t3 : ((fE k b).map NRow.row).take b.es.length = (fE k b).map NRow.row := List.take_of_length_le (by simp [fE, nfam_len])
  have f1 : purRs K (b.ks.map PKind.row) = some (b.ks.map PKind.row) := purRs_flat K fun r hr => by obtain ⟨x, _, rfl⟩ := List.mem_map.1 hr; rfl
  have f2 : purRs K (b.ps.map PPt.row) = some (b.ps.map PPt.row) := purRs_flat K fun r hr => by obtain ⟨x, _, rfl⟩ := List.mem_map.1 hr; rfl
  simp only [fE] at t3 h3
  simp only [List.map_map] at hA
  simp only [bkV, purN, purNL, h1, h2, h3, if_true, List.drop_zero, t1, t2, t3, f1, f2, fE, hA, Option.map_some, PBook.row]
  rfl
theorem tag_bk (t : Nat) (b : PBook) : tag0 (.agg (b.row t)) = .agg (b.row 0) := by
  simp only [PBook.row, tag0, tag0L]
  rw [tag_flat (f := PKind.row) (fun _ => rfl), tag_flat (f := PPt.row) (fun _ => rfl), tag_rows (f := Ent.row) (fun x => by simp only [Ent.row, tag0L, tag0]; rw [tag_flat (f := Fld.row) fun _ => rfl])]
theorem no98_bk (t : Nat) (ht : t ≠ 98) (b : PBook) : no98 (.agg (b.row t)) = true := by
  simp only [PBook.row, no98, no98L]
  rw [no98_rows (f := PKind.row) (fun _ => rfl), no98_rows (f := PPt.row) (fun _ => rfl), no98_rows (f := Ent.row t) (fun x => by simp only [Ent.row, no98L, no98]; rw [no98_rows (f := Fld.row) fun _ => rfl]; simp [ht])]
  simp [ht]
theorem toEntS613 (b : PBook) (hs : b.small) : Contract P 58 [.sl 1 2 (b.es.map (Ent.row 1))] [] (.own 613 0 0 b.es.length) ((613, .arr (1000000 + 93) 0 2 ((fE 107 b).map NRow.row)) :: nobjs (fE 107 b)) := by
  unfold PBook.small at hs
  have h := (c_toEntSO 1 b.es (by omega) hs.2.2.2).ren (swp 107 613) (swp_swp _ _)
  simp only [renL, ren, renM, renO, swp, reduceIte, Nat.reduceLT, Nat.reduceAdd] at h
  rw [renM_nobjs, renRows, nfam_swp (by omega) (by omega) (by omega)] at h
  exact h
set_option maxHeartbeats 2000000 in
theorem c_toBookO (b : PBook) (hs : b.small) : Contract P 20 [.agg (b.row 1)] [] (bkV b 611 612 613) (bkM b 611 612 613 107) := by
  have hE := toEntS613 b hs
  have bA : bigs (nobjs (fE 107 b)).reverse := bigs_rev bigs_nfam
  have hB := ((c_toBaseO b.base (by unfold PBook.small at hs; exact ⟨hs.1, hs.2.1⟩)).ren (swp 601 611) (swp_swp _ _)).ren (swp 602 612) (swp_swp _ _)
  simp only [renL, ren, renM, renO, swp, reduceIte, Nat.reduceEqDiff, Nat.reduceLT, PBase.row, PBook.base] at hB
  unfold PBook.small at hs
  refine fn_sound (Env.nil P) hm k_laws_toPlanBook (Nat.le_of_ble_eq_true rfl) rfl ?_; unfold s_laws_toPlanBook; simp (config := { maxSteps := 2000000 }) only [bitvec_to_nat, reduceIte, Nat.reduceEqDiff, Nat.reduceAdd, Nat.reduceLeDiff, reduceCtorEq, Nat.reduceBEq, Nat.reduceLT, Nat.reduceMod, List.forall_mem_cons, retG_ret, retQ_eq, retQ_eqN, retOk, keepB, re_tupl, orr_t, tk_map, dp_map, toNat_pred, appE, rowsOf, List.take_length, List.length_cons, List.length_nil, Nat.zero_add, srow, irow, un_s, un_i, Zone.row, Zone_eta, un_Zone, Word.row, Word_eta, Own.row, Own_eta, Part.row, Part_eta, Seen.row, Seen_eta, Book.row, Book_eta, Sector.row, Sector_eta, HCraft.row, HCraft_eta, World.row, World_eta, PKind.row, PKind_eta, PPt.row, PPt_eta, Cell.row, Cell_eta, PBase.row, PBase_eta, Fld.row, Fld_eta, Ent.row, Ent_eta, PBook.row, PBook_eta, un_Word, un_Own, un_Part, un_Seen, un_Book, un_Sector, un_HCraft, un_World, un_PKind, un_PPt, un_Cell, un_PBase, un_Fld, un_Ent, un_PBook, Nat.sub_zero, PBook.row, bkV, gB, gB0, sB, sB0, bA, List.append_assoc, List.cons_append, List.nil_append, List.append_nil]
  refine ⟨_, _, .inr (.inr (.inl ⟨_, rfl, hB, by simp [getM], by simp [refsIn, refsInL, dom], rfl, by simp [No99, No99L], by simp [No99O, no99_PKind, no99_PPt]⟩)), ?_⟩
  simp (config := { maxSteps := 2000000 }) only [bitvec_to_nat, reduceIte, Nat.reduceEqDiff, Nat.reduceAdd, Nat.reduceLeDiff, reduceCtorEq, Nat.reduceBEq, Nat.reduceLT, Nat.reduceMod, List.forall_mem_cons, retG_ret, retQ_eq, retQ_eqN, retOk, keepB, re_tupl, orr_t, tk_map, dp_map, toNat_pred, appE, rowsOf, List.take_length, List.length_cons, List.length_nil, Nat.zero_add, srow, irow, un_s, un_i, Zone.row, Zone_eta, un_Zone, Word.row, Word_eta, Own.row, Own_eta, Part.row, Part_eta, Seen.row, Seen_eta, Book.row, Book_eta, Sector.row, Sector_eta, HCraft.row, HCraft_eta, World.row, World_eta, PKind.row, PKind_eta, PPt.row, PPt_eta, Cell.row, Cell_eta, PBase.row, PBase_eta, Fld.row, Fld_eta, Ent.row, Ent_eta, PBook.row, PBook_eta, un_Word, un_Own, un_Part, un_Seen, un_Book, un_Sector, un_HCraft, un_World, un_PKind, un_PPt, un_Cell, un_PBase, un_Fld, un_Ent, un_PBook, Nat.sub_zero, PBook.row, bkV, gB, gB0, sB, sB0, bA, List.append_assoc, List.cons_append, List.nil_append, List.append_nil]
  refine ⟨_, _, .inr (.inr (.inl ⟨_, rfl, hE, ?_, rfl, fam_refs (by omega), trivial, ?_⟩)), ?_⟩
  · intro p hp
    rcases List.mem_cons.1 hp with rfl | hp
    · simp [getM]
    · obtain ⟨i, _, rfl⟩ := nfam_at hp
      simp only [getM, fam_ne, Nat.reduceLT, if_false]
  · intro p hp
    rcases List.mem_cons.1 hp with rfl | hp
    · exact no99_NRow _
    · exact ent99 hp
  simp (config := { maxSteps := 2000000 }) only [bitvec_to_nat, reduceIte, Nat.reduceEqDiff, Nat.reduceAdd, Nat.reduceLeDiff, reduceCtorEq, Nat.reduceBEq, Nat.reduceLT, Nat.reduceMod, List.forall_mem_cons, retG_ret, retQ_eq, retQ_eqN, retOk, keepB, re_tupl, orr_t, tk_map, dp_map, toNat_pred, appE, rowsOf, List.take_length, List.length_cons, List.length_nil, Nat.zero_add, srow, irow, un_s, un_i, Zone.row, Zone_eta, un_Zone, Word.row, Word_eta, Own.row, Own_eta, Part.row, Part_eta, Seen.row, Seen_eta, Book.row, Book_eta, Sector.row, Sector_eta, HCraft.row, HCraft_eta, World.row, World_eta, PKind.row, PKind_eta, PPt.row, PPt_eta, Cell.row, Cell_eta, PBase.row, PBase_eta, Fld.row, Fld_eta, Ent.row, Ent_eta, PBook.row, PBook_eta, un_Word, un_Own, un_Part, un_Seen, un_Book, un_Sector, un_HCraft, un_World, un_PKind, un_PPt, un_Cell, un_PBase, un_Fld, un_Ent, un_PBook, Nat.sub_zero, PBook.row, bkV, gB, gB0, sB, sB0, bA, List.append_assoc, List.cons_append, List.nil_append, List.append_nil]
  rw [aU (U := nobjs (fE 107 b)) (fun p hp => by
    obtain ⟨i, _, rfl⟩ := nfam_at hp
    simp only [getM, fam_ne, Nat.reduceLT, if_false]) nfam_pw]
  simp (config := { maxSteps := 2000000 }) only [bitvec_to_nat, reduceIte, Nat.reduceEqDiff, Nat.reduceAdd, Nat.reduceLeDiff, reduceCtorEq, Nat.reduceBEq, Nat.reduceLT, Nat.reduceMod, List.forall_mem_cons, retG_ret, retQ_eq, retQ_eqN, retOk, keepB, re_tupl, orr_t, tk_map, dp_map, toNat_pred, appE, rowsOf, List.take_length, List.length_cons, List.length_nil, Nat.zero_add, srow, irow, un_s, un_i, Zone.row, Zone_eta, un_Zone, Word.row, Word_eta, Own.row, Own_eta, Part.row, Part_eta, Seen.row, Seen_eta, Book.row, Book_eta, Sector.row, Sector_eta, HCraft.row, HCraft_eta, World.row, World_eta, PKind.row, PKind_eta, PPt.row, PPt_eta, Cell.row, Cell_eta, PBase.row, PBase_eta, Fld.row, Fld_eta, Ent.row, Ent_eta, PBook.row, PBook_eta, un_Word, un_Own, un_Part, un_Seen, un_Book, un_Sector, un_HCraft, un_World, un_PKind, un_PPt, un_Cell, un_PBase, un_Fld, un_Ent, un_PBook, Nat.sub_zero, PBook.row, bkV, gB, gB0, sB, sB0, bA, List.append_assoc, List.cons_append, List.nil_append, List.append_nil]
  refine ⟨wkM_self fun p hp => ?_, bk_refs, ?_, ?_⟩
  · simp only [bkM, List.mem_cons] at hp
    rcases hp with rfl | rfl | rfl | hp
    · simp [getM]
    · simp [getM]
    · simp only [getM, gB bA, Nat.reduceLT, Nat.reduceEqDiff, reduceIte]
    · obtain ⟨i, hi, rfl⟩ := nfam_at hp
      simp only [getM, fam_ne, Nat.reduceLT, if_false, getM_append, fE, getM_rfam, nfam_obj hi, Option.some_or]
  · have := bk_refV (b := b) (a := 611) (c := 612) (d := 613) (k := 107)
    simpa only [bkV, refsIn, refsInL, Bool.and_true, dom] using this
  · simp only [Bool.true_or, Bool.true_and]
    rw [List.all_eq_true]
    intro o ho
    obtain ⟨p, hp, rfl⟩ := List.mem_map.1 ho
    have h100 : big100 ((nobjs (fE 107 b)).reverse ++ [(613, AObj.arr (1000000 + 93) 0 2 ((fE 107 b).map NRow.row))]) := big100_app (big100_rev (big100_nfam (by omega) (by omega))) (big100_cons (by omega) big100_nil)
    have := h100 p hp
    simp [this]
end
end Go.Ve

namespace Go.Ve
noncomputable section
open Go.Proofs
set_option linter.unusedSimpArgs false
set_option linter.unusedVariables false
set_option maxRecDepth 100000
theorem c_markBaseB (v w : Nat) (ks : List PKind) (ps : List PPt) (k : Int) (hk : 0 ≤ k ∧ k ≤ 30000000000000) (h1 : ks.length ≤ 1048577) (h2 : ps.length ≤ 1048577) : Contract P 64 [.agg [.own 3 v 0 ks.length, .own 4 w 0 ps.length], .int .i64 k]
    [(3, .arr 60 v 3 (ks.map PKind.row)), (4, .arr 119 w 3 (ps.map PPt.row))] (.int .i64 (k + 3 * ks.length + 3 * ps.length))
    [(3, .arr 60 v 3 ((ms_PKind k ks.length).map PKind.row)), (4, .arr 119 w 3 ((ms_PPt (k + 3 * ks.length) ps.length).map PPt.row))] := by
  have tkK : True := trivial
  have tkQ : True := trivial
  have m1 := c_markPKindS v k ks h1 (by omega)
  have m2 := (c_markPPtS w (k + 3 * ks.length) ps h2 (by omega)).ren (swp 3 4) (swp_swp _ _)
  simp only [renL, ren, renM, renO, swp, reduceIte, Nat.reduceEqDiff, Nat.reduceLT] at m2
  refine fn_sound (Env.nil P) hm k_laws_markPlanBase (Nat.le_of_ble_eq_true rfl) rfl ?_; unfold s_laws_markPlanBase; simp (config := { maxSteps := 2000000 }) only [bitvec_to_nat, reduceIte, Nat.reduceEqDiff, Nat.reduceAdd, Nat.reduceLeDiff, reduceCtorEq, Nat.reduceBEq, Nat.reduceLT, Nat.reduceMod, List.forall_mem_cons, retG_ret, retQ_eq, retQ_eqN, retOk, keepB, re_tupl, orr_t, List.length_map, Int.toNat_natCast, Nat.zero_add, Nat.sub_zero, tkK, tkQ, ms_PKind_len, ms_PPt_len]
  refine ⟨_, _, .inl ⟨_, m1, by simp [getM], by simp [dom], rfl, rfl, rfl, rfl, rfl⟩, ?_⟩
  simp (config := { maxSteps := 2000000 }) only [bitvec_to_nat, reduceIte, Nat.reduceEqDiff, Nat.reduceAdd, Nat.reduceLeDiff, reduceCtorEq, Nat.reduceBEq, Nat.reduceLT, Nat.reduceMod, List.forall_mem_cons, retG_ret, retQ_eq, retQ_eqN, retOk, keepB, re_tupl, orr_t, List.length_map, Int.toNat_natCast, Nat.zero_add, Nat.sub_zero, tkK, tkQ, ms_PKind_len, ms_PPt_len]
  refine ⟨_, _, .inl ⟨_, m2, by simp [getM], by simp [dom], rfl, rfl, rfl, rfl, rfl⟩, ?_⟩
  simp (config := { maxSteps := 2000000 }) only [bitvec_to_nat, reduceIte, Nat.reduceEqDiff, Nat.reduceAdd, Nat.reduceLeDiff, reduceCtorEq, Nat.reduceBEq, Nat.reduceLT, Nat.reduceMod, List.forall_mem_cons, retG_ret, retQ_eq, retQ_eqN, retOk, keepB, re_tupl, orr_t, List.length_map, Int.toNat_natCast, Nat.zero_add, Nat.sub_zero, tkK, tkQ, ms_PKind_len, ms_PPt_len]
def preE (b : PBook) : List (Nat × AObj) := (5, .arr (1000000 + 93) 0 2 ((fE 7 b).map NRow.row)) :: nobjs (fE 7 b)
theorem gpE {b : PBook} : gone (preE b) = (5, .gone) :: gone (nobjs (fE 7 b)) := rfl
theorem markEnt5 (k : Int) (b : PBook) (hs : b.small) (hk : 0 ≤ k ∧ k ≤ 35184372088832) : Contract P 65 [.own 5 0 0 b.es.length, .int .i64 k] (preE b) (.int .i64 (k + ct_Ent b.es b.es.length)) (gone (preE b)) := by
  unfold PBook.small at hs
  have h := (g_markEntS k b.es (by omega) hs.2.2.2 hk).ren (swp 3 5) (swp_swp _ _)
  have e : renM (swp 3 5) ((3, .arr (1000000 + 93) 0 2 ((nfam 7 96 3 (b.es.map entP)).map NRow.row)) :: nobjs (nfam 7 96 3 (b.es.map entP))) = preE b := by
    simp only [renM, renO, swp, reduceIte, Nat.reduceLT, Nat.reduceAdd]
    rw [renM_nobjs, renRows, nfam_swp (by omega) (by omega) (by omega)]; rfl
  rw [show (((3, AObj.arr (1000000 + 93) 0 2 ((nfam 7 96 3 (b.es.map entP)).map NRow.row)) :: nobjs (nfam 7 96 3 (b.es.map entP))).map fun p => (p.1, AObj.gone)) = gone ((3, AObj.arr (1000000 + 93) 0 2 ((nfam 7 96 3 (b.es.map entP)).map NRow.row)) :: nobjs (nfam 7 96 3 (b.es.map entP))) from rfl, renM_gone, e] at h
  simpa only [renL, ren, swp, reduceIte] using h
theorem bigs_gone {l : List (Nat × AObj)} (h : bigs l) : bigs (gone l) := fun p hp => by
  obtain ⟨x, hx⟩ := mem_gone hp
  exact h (p.1, x) hx
theorem offs_big {l : List (Nat × AObj)} (h : bigs l) {o : Nat} (ho : o < 1000) : offs l o := fun p hp e => by have := h p hp; omega
theorem apE {b : PBook} {x3 x4 x5 : AObj} {B : List (Nat × AObj)} : applyU ((3, x3) :: (4, x4) :: (5, x5) :: (nobjs (fE 7 b) ++ B)) (gone (nobjs (fE 7 b))) = (3, x3) :: (4, x4) :: (5, x5) :: (gone (nobjs (fE 7 b)) ++ B) := by
  have h : bigs (gone (nobjs (fE 7 b))) := bigs_gone bigs_nfam
  rw [ap_cons (offs_big h (by omega)), ap_cons (offs_big h (by omega)), ap_cons (offs_big h (by omega)), ap_over (show uniq (nobjs (fE 7 b)) from nfam_pw)]
def cntB (b : PBook) : Nat := 3 * b.ks.length + 3 * b.ps.length + ct_Ent b.es b.es.length
theorem bk_lt100 {b : PBook} : (dom (bkM b 3 4 5 7)).all (decide <| · % 1000 < 100) = true := by
  rw [bk_dom, List.all_eq_true]
  intro o ho
  simp only [List.mem_cons, List.mem_map] at ho
  rcases ho with rfl | rfl | rfl | ⟨r, hr, rfl⟩
  · rfl
  · rfl
  · rfl
  · rw [nfam_mod (k := 7) (by omega) hr]; rfl
theorem keep_of {M M' : List (Nat × AObj)} (h : ∀ p ∈ M, 100 ≤ p.1 % 1000 ∨ p.1 ∈ dom M') : keepB M M' = true := by
  unfold keepB
  rw [List.all_eq_true]
  intro o ho
  obtain ⟨p, hp, rfl⟩ := List.mem_map.1 ho
  rcases h p hp with h | h
  · simp [h]
  · simp [h]
set_option maxHeartbeats 2000000 in
theorem g_markBook (k : Int) (b : PBook) (hs : b.small) (hk : 0 ≤ k ∧ k ≤ 30000000000000) : Contract P 26 [bkV b 3 4 5, .int .i64 k] (bkM b 3 4 5 7) (.int .i64 (k + cntB b)) (gone (bkM b 3 4 5 7)) := by
  have bA : bigs (nobjs (fE 7 b)) := bigs_nfam
  have bGA := bigs_gone bA
  have hm9 := hs
  unfold PBook.small at hm9
  have hct := ct_Ent_le hm9.2.2.2 (Nat.le_refl _)
  have hB := (c_markBaseB 0 0 b.ks b.ps k (by omega) (by omega) (by omega)).gone rfl
  have hE := markEnt5 (k + 3 * b.ks.length + 3 * b.ps.length) b hs (by omega)
  refine fn_sound (Env.nil P) Go.Ve.hm k_laws_markPlanBook (Nat.le_of_ble_eq_true rfl) bk_lt100 ?_; unfold s_laws_markPlanBook
  simp (config := { maxSteps := 2000000 }) only [bitvec_to_nat, reduceIte, Nat.reduceEqDiff, Nat.reduceAdd, Nat.reduceLeDiff, reduceCtorEq, Nat.reduceBEq, Nat.reduceLT, Nat.reduceMod, List.forall_mem_cons, retG_ret, retQ_eq, retQ_eqN, retOk, keepB, re_tupl, orr_t, bkV, fam_ne, fam_ne', Nat.sub_zero, Nat.zero_add, gB, gB0, sB, sB0, bA, List.append_assoc, List.cons_append, List.nil_append, List.append_nil, bkM, bGA, gpE, apE]
  refine ⟨_, _, callR_gone (pre := [(3, .arr 60 0 3 (b.ks.map PKind.row)), (4, .arr 119 0 3 (b.ps.map PPt.row))]) hB (by simp [getM]) (by simp [refsInL, refsIn, dom]) (by simp [refsInO]) rfl, ?_⟩
  simp only [gone, List.map_cons, List.map_nil]
  simp (config := { maxSteps := 2000000 }) only [bitvec_to_nat, reduceIte, Nat.reduceEqDiff, Nat.reduceAdd, Nat.reduceLeDiff, reduceCtorEq, Nat.reduceBEq, Nat.reduceLT, Nat.reduceMod, List.forall_mem_cons, retG_ret, retQ_eq, retQ_eqN, retOk, keepB, re_tupl, orr_t, bkV, fam_ne, fam_ne', Nat.sub_zero, Nat.zero_add, gB, gB0, sB, sB0, bA, List.append_assoc, List.cons_append, List.nil_append, List.append_nil, bkM, bGA, gpE, apE]
  refine ⟨_, _, callR_gone (pre := preE b) hE (fun p hp => ?_) (by simp [refsInL, refsIn, dom, preE]) (fam_refs (by omega)) rfl, ?_⟩
  · rcases List.mem_cons.1 hp with rfl | hp
    · simp only [getM, Nat.reduceEqDiff, reduceIte]
    · obtain ⟨i, hi, rfl⟩ := nfam_at hp
      simp only [getM, fam_ne, Nat.reduceLT, if_false, getM_append, fE, nfam_obj hi, Option.some_or]
  simp (config := { maxSteps := 2000000 }) only [bitvec_to_nat, reduceIte, Nat.reduceEqDiff, Nat.reduceAdd, Nat.reduceLeDiff, reduceCtorEq, Nat.reduceBEq, Nat.reduceLT, Nat.reduceMod, List.forall_mem_cons, retG_ret, retQ_eq, retQ_eqN, retOk, keepB, re_tupl, orr_t, bkV, fam_ne, fam_ne', Nat.sub_zero, Nat.zero_add, gB, gB0, sB, sB0, bA, List.append_assoc, List.cons_append, List.nil_append, List.append_nil, bkM, bGA, gpE, apE]
  refine ⟨by unfold cntB; omega, wkM_self fun p hp => ?_, gone_refs, ?_⟩
  · obtain ⟨q, hq, rfl⟩ := List.mem_map.1 hp
    obtain ⟨i, hi, rfl⟩ := nfam_at hq
    show getM (_ :: _ :: _ :: (gone _ ++ _)) _ = _
    simp only [getM, fam_ne, Nat.reduceLT, if_false, getM_append, getM_gone, fE, nfam_obj hi, Option.map_some, Option.some_or]
  · refine keep_of (M := (3, .gone) :: (4, .gone) :: (5, .gone) :: (gone (nobjs (fE 7 b)) ++ [(102, _)])) (M' := (3, .gone) :: (4, .gone) :: (5, .gone) :: gone (nobjs (fE 7 b))) fun p hp => ?_
    simp only [List.mem_cons, List.mem_append, List.not_mem_nil, or_false] at hp
    simp only [dom, List.map_cons, List.mem_cons, List.mem_map]
    rcases hp with rfl | rfl | rfl | hp | rfl
    · exact .inr (.inl rfl)
    · exact .inr (.inr (.inl rfl))
    · exact .inr (.inr (.inr (.inl rfl)))
    · exact .inr (.inr (.inr (.inr ⟨p, hp, rfl⟩)))
    · exact .inl (by simp)
abbrev KA (b : PBook) : List (Nat × AObj) := bkM b 611 612 613 107
theorem KA_uniq (b : PBook) : uniq (KA b) := bk_uniq (by omega) (by omega) (by omega) (by omega) (by omega) (by omega)
theorem KA_lo {b : PBook} {o : Nat} (h : o < 611) : offs (KA b) o := bk_offs (by omega) (by omega) (by omega) (by omega)
theorem KA_hi {b : PBook} {o : Nat} (h : 613 < o) (h2 : o < 1000) : offs (KA b) o := bk_offs (by omega) (by omega) (by omega) (by omega)
theorem KA_100 (b : PBook) : big100 (KA b) := bk_100 (by omega) (by omega) (by omega) (by omega) (by omega)
theorem KA_k {b : PBook} {B : List (Nat × AObj)} : keepB (gone (KA b) ++ B) [] = keepB B [] := keep_appL (keep_big (big100_gone (KA_100 b)))
theorem KA_k0 {b : PBook} : keepB (gone (KA b)) [] = true := keep_big (big100_gone (KA_100 b))
theorem KA_k' {b : PBook} {B : List (Nat × AObj)} : keepB (KA b ++ B) [] = keepB B [] := keep_appL (keep_big (KA_100 b))
theorem KA_k0' {b : PBook} : keepB (KA b) [] = true := keep_big (KA_100 b)
theorem toBookA (b : PBook) (hs : b.small) : Contract P 20 [.agg (b.row 1)] [] (bkV b 611 612 613) (KA b).reverse := by
  have h := ((((c_toBookO b hs).ren (swp 611 611) (swp_swp _ _)).ren (swp 612 612) (swp_swp _ _)).ren (swp 613 613) (swp_swp _ _)).ren (swpF 107 107) (swpF_swpF (by omega) (by omega))
  rw [bkV_ren, bkV_ren, bkV_ren, bkV_ren, bkM_ren (k' := 107) (fun i => swp_fam (by omega) (by omega)), bkM_ren (k' := 107) (fun i => swp_fam (by omega) (by omega)), bkM_ren (k' := 107) (fun i => swp_fam (by omega) (by omega)), bkM_ren (k' := 107) (fun i => swpF_fam (by omega))] at h
  exact h.post_eq (funext fun o => getM_rev (KA_uniq b) o)
theorem markBookA (k : Int) (b : PBook) (hs : b.small) (hk : 0 ≤ k ∧ k ≤ 30000000000000) : Contract P 26 [bkV b 611 612 613, .int .i64 k] (KA b) (.int .i64 (k + cntB b)) (gone (KA b)) := by
  have h := ((((g_markBook k b hs hk).ren (swp 3 611) (swp_swp _ _)).ren (swp 4 612) (swp_swp _ _)).ren (swp 5 613) (swp_swp _ _)).ren (swpF 7 107) (swpF_swpF (by omega) (by omega))
  simp only [renM_gone, renL, bkV_ren, ren] at h
  rw [bkM_ren (k' := 7) (fun i => swp_fam (by omega) (by omega)), bkM_ren (k' := 7) (fun i => swp_fam (by omega) (by omega)), bkM_ren (k' := 7) (fun i => swp_fam (by omega) (by omega)), bkM_ren (k' := 107) (fun i => swpF_fam (by omega))] at h
  exact h
theorem KA_99 {b : PBook} : ∀ p ∈ (KA b).reverse, No99O p.2 := fun p hp => bk_99 p (List.mem_reverse.1 hp)
theorem KA_ref {b : PBook} {k : Int} : refsInL (dom (KA b)) [bkV b 611 612 613, .int .i64 k] = true := by
  simp only [refsInL, bk_refV, refsIn, Bool.and_self]
abbrev KB (b : PBook) : List (Nat × AObj) := bkM b 641 642 643 108
theorem KB_uniq (b : PBook) : uniq (KB b) := bk_uniq (by omega) (by omega) (by omega) (by omega) (by omega) (by omega)
theorem KB_lo {b : PBook} {o : Nat} (h : o < 641) : offs (KB b) o := bk_offs (by omega) (by omega) (by omega) (by omega)
theorem KB_hi {b : PBook} {o : Nat} (h : 643 < o) (h2 : o < 1000) : offs (KB b) o := bk_offs (by omega) (by omega) (by omega) (by omega)
theorem KB_100 (b : PBook) : big100 (KB b) := bk_100 (by omega) (by omega) (by omega) (by omega) (by omega)
theorem KB_k {b : PBook} {B : List (Nat × AObj)} : keepB (gone (KB b) ++ B) [] = keepB B [] := keep_appL (keep_big (big100_gone (KB_100 b)))
theorem KB_k0 {b : PBook} : keepB (gone (KB b)) [] = true := keep_big (big100_gone (KB_100 b))
theorem KB_k' {b : PBook} {B : List (Nat × AObj)} : keepB (KB b ++ B) [] = keepB B [] := keep_appL (keep_big (KB_100 b))
theorem KB_k0' {b : PBook} : keepB (KB b) [] = true := keep_big (KB_100 b)
theorem KAB {b b' : PBook} : dis (KA b) (KB b') := bk_dis (by decide) (by decide) (by omega) (by omega) (by omega)
theorem KBA {b b' : PBook} : dis (KB b) (KA b') := dis_symm KAB
end
end Go.Ve

namespace Go.Ve
noncomputable section
open Go.Proofs
set_option linter.unusedSimpArgs false
set_option linter.unusedVariables false
set_option maxRecDepth 100000
def Fld.later (f g : Fld) : Prop := g.nr < f.nr ∨ (f.nr = g.nr ∧ slt g.v f.v)
noncomputable instance (f g : Fld) : Decidable (f.later g) := Classical.propDecidable _
def eIdx (l : List Ent) (s : ByteArray) : Int := fIdx (fun e => decide (e.nm = s)) l
def wIdx (l : List Fld) (w : Int) : Int := fIdx (fun f => decide (f.w = w)) l
theorem eIdx_at {l : List Ent} {nm : ByteArray} (h : 0 ≤ eIdx l nm) : (eIdx l nm).toNat < l.length ∧ (l.getD (eIdx l nm).toNat default).nm = nm ∧ eIdx l nm < l.length := by
  unfold eIdx at *
  rcases fIdx_spec (fun p : Ent => decide (p.nm = nm)) l with ⟨h1, h2⟩ | ⟨i, h1, h2, h3, _⟩
  · omega
  · rw [h1]; exact ⟨by simpa using h2, by simpa using h3, by omega⟩
theorem wIdx_at {l : List Fld} {w : Int} (h : 0 ≤ wIdx l w) : (wIdx l w).toNat < l.length ∧ (l.getD (wIdx l w).toNat default).w = w ∧ wIdx l w < l.length := by
  unfold wIdx at *
  rcases fIdx_spec (fun p : Fld => decide (p.w = w)) l with ⟨h1, h2⟩ | ⟨i, h1, h2, h3, _⟩
  · omega
  · rw [h1]; exact ⟨by simpa using h2, by simpa using h3, by omega⟩
def fsOf (b : PBook) (nm : ByteArray) : List Fld := (b.es.getD (eIdx b.es nm).toNat default).fs
def hasF (b : PBook) (nm : ByteArray) (w : Int) : Prop := 0 ≤ eIdx b.es nm ∧ 0 ≤ wIdx (fsOf b nm) w
noncomputable instance (b : PBook) (nm : ByteArray) (w : Int) : Decidable (hasF b nm w) := Classical.propDecidable _
def fOf (b : PBook) (nm : ByteArray) (w : Int) : Fld := if hasF b nm w then (fsOf b nm).getD (wIdx (fsOf b nm) w).toNat default else ⟨0, 0, ⟨#[]⟩⟩
theorem wIdx_i {l : List Fld} {w : Int} {i : Nat} (hi : i < l.length) (h : (l.getD i default).w = w) (h2 : ∀ j, j < i → ¬ (l.getD j default).w = w) : wIdx l w = i := by
  unfold wIdx; rw [fIdx_at hi (by simpa using h) fun j hj => by simpa using h2 j hj]
theorem wIdx_no {l : List Fld} {w : Int} (h2 : ∀ j, j < l.length → ¬ (l.getD j default).w = w) : wIdx l w = -1 := by
  unfold wIdx; rw [fIdx_none fun j hj => by simpa using h2 j hj]
theorem has_i {b : PBook} {nm : ByteArray} {w : Int} {i : Nat} (he : 0 ≤ eIdx b.es nm) (hi : i < (fsOf b nm).length) (h : ((fsOf b nm).getD i default).w = w) (h2 : ∀ j, j < i → ¬ ((fsOf b nm).getD j default).w = w) : hasF b nm w ∧ fOf b nm w = (fsOf b nm).getD i default := by
  have e := wIdx_i hi h h2
  have hh : hasF b nm w := ⟨he, by omega⟩
  refine ⟨hh, ?_⟩
  rw [fOf, if_pos hh, e]; rfl
theorem has_no {b : PBook} {nm : ByteArray} {w : Int} (h : 0 ≤ eIdx b.es nm → ∀ j, j < (fsOf b nm).length → ¬ ((fsOf b nm).getD j default).w = w) : ¬ hasF b nm w ∧ fOf b nm w = ⟨0, 0, ⟨#[]⟩⟩ := by
  have hh : ¬ hasF b nm w := fun k => by have := wIdx_no (h k.1); have := k.2; omega
  exact ⟨hh, if_neg hh⟩
theorem c_IndexFunc_Ent (g : FuncId) (hg : calleeB P g = true) (ls : List AV) (hls : norefL ls = true) (p : Ent → Bool) (t : Nat) (zs : List Ent) (hl : zs.length ≤ 4611686018427387904)
    (hC : ∀ z, Contract P g (.agg (Ent.row 0 z) :: [.ptr 3 0]) [(3, .box ls)] (.bool (p z)) [(3, .box ls)]) : Contract P 110 [.sl t 2 (zs.map (Ent.row 0)), .fn g [] [.ptr 3 0]] [(3, .box ls)] (.int .i64 (fIdx p zs)) [(3, .box ls)] := by
  refine fn_sound (Env.nil P) hm k_slices_IndexFunc_PlanEntry (Nat.le_of_ble_eq_true rfl) rfl ?_; unfold s_slices_IndexFunc_PlanEntry; simp (config := { maxSteps := 2000000 }) only [bitvec_to_nat, reduceIte, Nat.reduceEqDiff, Nat.reduceAdd, Nat.reduceLeDiff, reduceCtorEq, Nat.reduceBEq, Nat.reduceLT, Nat.reduceMod, List.forall_mem_cons, retG_ret, retQ_eq, retQ_eqN, retOk, keepB, re_tupl, orr_t, callL_nil]
  refine loop_st (fun i : Nat => [(8, .int .i64 i)]) (fun _ => []) (fun i => i ≤ zs.length ∧ ∀ j, j < i → p (zs.getD j default) = false) (fun i => zs.length - i) (0) (by simp only [u_E0, u_E1, u_M0, u_M1, w_setE0, w_setE1, w_setM0, w_setM1, reduceIte, Nat.reduceEqDiff]; exact ⟨by repeat' (first | exact trivial | refine ⟨.inr rfl, ?_⟩), by repeat' (first | exact trivial | refine ⟨rfl, ?_⟩), by first | rfl | simp [closedB, refsIn, refsInL, refsInO, dom, refsInL_nr, *], by first | rfl | simp [keepB, dom]⟩) ?_ ?_
  · exact ⟨Nat.zero_le _, by intro j hj; omega⟩
  intro i hi NX hN
  unfold l_slices_IndexFunc_PlanEntry_0; simp (config := { maxSteps := 2000000 }) only [bitvec_to_nat, reduceIte, Nat.reduceEqDiff, Nat.reduceAdd, Nat.reduceLeDiff, reduceCtorEq, Nat.reduceBEq, Nat.reduceLT, Nat.reduceMod, List.forall_mem_cons, retG_ret, retQ_eq, retQ_eqN, retOk, keepB, re_tupl, orr_t, callL_nil, Ent_len, Ent_take]
  refine ⟨fun h1 => ⟨by omega, by omega, hg, _, _, .inl ⟨[(3, .box ls)], hC (zs.getD i default), ?_, ?_, ?_, ?_, ?_, rfl, ?_⟩, ?_⟩, fun h1 => ?_⟩
  · simp [getM]
  · intro q hq; left; revert q; simp [dom]
  · simp [dom]
  · simp [refsInL, refsIn, dom, refsInL_nr, Ent_nr]
  · simp [refsInO, refsInL_nr, *]
  · simp [refsInO, refsInL_nr, *]
  · simp (config := { maxSteps := 2000000 }) only [bitvec_to_nat, reduceIte, Nat.reduceEqDiff, Nat.reduceAdd, Nat.reduceLeDiff, reduceCtorEq, Nat.reduceBEq, Nat.reduceLT, Nat.reduceMod, List.forall_mem_cons, retG_ret, retQ_eq, retQ_eqN, retOk, keepB, re_tupl, orr_t, callL_nil]
    refine ⟨fun h2 => ?_, fun h2 => ?_⟩
    · simp (config := { maxSteps := 2000000 }) only [bitvec_to_nat, reduceIte, Nat.reduceEqDiff, Nat.reduceAdd, Nat.reduceLeDiff, reduceCtorEq, Nat.reduceBEq, Nat.reduceLT, Nat.reduceMod, List.forall_mem_cons, retG_ret, retQ_eq, retQ_eqN, retOk, keepB, re_tupl, orr_t, callL_nil]
      rw [fIdx_at (by omega) h2 hi.2]
      simp [dom, refsInL_nr, *]
    · simp (config := { maxSteps := 2000000 }) only [bitvec_to_nat, reduceIte, Nat.reduceEqDiff, Nat.reduceAdd, Nat.reduceLeDiff, reduceCtorEq, Nat.reduceBEq, Nat.reduceLT, Nat.reduceMod, List.forall_mem_cons, retG_ret, retQ_eq, retQ_eqN, retOk, keepB, re_tupl, orr_t, callL_nil]
      refine ⟨by omega, ?_⟩
      refine hN (i + 1) _ (by simp only [u_E0, u_E1, u_M0, u_M1, w_setE0, w_setE1, w_setM0, w_setM1, reduceIte, Nat.reduceEqDiff]; exact ⟨by repeat' (first | exact trivial | refine ⟨.inr rfl, ?_⟩), by repeat' (first | exact trivial | refine ⟨rfl, ?_⟩), by first | rfl | simp [closedB, refsIn, refsInL, refsInO, dom, refsInL_nr, *], by first | rfl | simp [keepB, dom]⟩) ?_ ?_
      · exact ⟨by omega, all_snoc hi.2 h2⟩
      · omega
  · rw [fIdx_none fun j hj => hi.2 j (by omega)]
    simp [dom, refsInL_nr, *]
theorem c_entry1 (z : Ent) (s : ByteArray) : Contract P 111 [.agg (z.row 0), .ptr 3 0] [(3, .box [.str s])] (.bool (decide (z.nm = s))) [(3, .box [.str s])] := by
  simp only [Ent.row]
  refine fn_sound (Env.nil P) hm k_impl_PlanBook_entry_1 (Nat.le_of_ble_eq_true rfl) rfl ?_; unfold s_impl_PlanBook_entry_1; simp (config := { maxSteps := 2000000 }) only [bitvec_to_nat, reduceIte, Nat.reduceEqDiff, Nat.reduceAdd, Nat.reduceLeDiff, reduceCtorEq, Nat.reduceBEq, Nat.reduceLT, Nat.reduceMod, List.forall_mem_cons, retG_ret, retQ_eq, retQ_eqN, retOk, keepB, re_tupl, orr_t, Ent_eta]
  all_goals simp [dom]
def r_entryI : RTab
  | [.sl zt 2 zx, .fn 111 [] [.ptr ob off]], M => match M ob with
    | some (.box [.str s]) => some ⟨off = 0 ∧ (zx.map unEnt).map (Ent.row 0) = zx ∧ (zx.map unEnt).length ≤ 4611686018427387904, fun _ : Unit => True, fun _ => .int .i64 (fIdx (fun z => decide (z.nm = s)) (zx.map unEnt)), fun _ => [(ob, .box [.str s])]⟩
    | _ => none
  | _, _ => none
theorem h_entryI : okTab P 110 r_entryI := by
  intro args M o h hp
  unfold r_entryI at h
  split at h
  · rename_i zt zx ob off
    split at h
    · rename_i s hM
      cases h
      obtain ⟨rfl, e0, HP⟩ := hp
      have hC := c_IndexFunc_Ent 111 (by kernel_rfl) _ rfl (fun z => decide (z.nm = s)) zt (zx.map unEnt) HP fun z => c_entry1 z s
      simp only [e0, decide_eq_true_eq] at hC
      exact ⟨(), trivial, callR_box _ hC (by simp [norefL, noref]) rfl (by assumption) (by simp [renL, ren, swp]) (by simp [refsInL, refsIn, noref])⟩
    · cases h
  · cases h
theorem c_entry (b : PBook) (nm : ByteArray) (hl : b.es.length ≤ 1048576) : Contract P 95 [.agg (b.row 0), .str nm] [] (.int .i64 (eIdx b.es nm)) [] := by
  refine fn_sound ((Env.nil P).addR 110 r_entryI h_entryI) hm k_impl_PlanBook_entry (Nat.le_of_ble_eq_true rfl) rfl ?_; unfold s_impl_PlanBook_entry; simp (config := { maxSteps := 2000000 }) only [bitvec_to_nat, reduceIte, Nat.reduceEqDiff, Nat.reduceAdd, Nat.reduceLeDiff, reduceCtorEq, Nat.reduceBEq, Nat.reduceLT, Nat.reduceMod, List.forall_mem_cons, retG_ret, retQ_eq, retQ_eqN, retOk, keepB, re_tupl, orr_t, r_entryI, un_Ent, PBook.row]
  exact ⟨by omega, fun _ => rfl⟩
def t_entry : List AV → Option (Prop × AV)
  | [.agg [.sl 0 3 b_ks, .sl 0 3 b_ps, .sl 0 2 b_es], .str nm] => some ((((b_ks.map unPKind).map PKind.row = b_ks) ∧ ((b_ps.map unPPt).map PPt.row = b_ps) ∧ ((b_es.map unEnt).map (Ent.row 0) = b_es)) ∧ ((PBook.es (PBook.mk (b_ks.map unPKind) (b_ps.map unPPt) (b_es.map unEnt))).length ≤ 1048576), .int .i64 (eIdx (PBook.es (PBook.mk (b_ks.map unPKind) (b_ps.map unPPt) (b_es.map unEnt))) nm))
  | _ => none
theorem h_entry : ∀ args p v, t_entry args = some (p, v) → p → Contract P 95 args [] v [] ∧ noref v = true ∧ No99 v := by
  intro args p v h1 h2
  unfold t_entry at h1
  split at h1
  · rename_i b_ks b_ps b_es nm
    cases h1
    obtain ⟨⟨e0, e1, e2⟩, HP⟩ := h2
    have := c_entry (PBook.mk (b_ks.map unPKind) (b_ps.map unPPt) (b_es.map unEnt)) nm HP
    exact ⟨by simpa only [e0, e1, e2, PBook.row] using this, rfl, trivial⟩
  · cases h1
theorem c_l13At (b : PBook) (nm : ByteArray) (hl : b.es.length ≤ 1048576) : Contract P 67 [.agg (b.row 0), .str nm] [] (.int .i64 (eIdx b.es nm)) [] := by
  simp only [PBook.row]
  refine fn_sound (Env.nil P) hm k_spec_l13At (Nat.le_of_ble_eq_true rfl) rfl ?_; unfold s_spec_l13At; simp (config := { maxSteps := 2000000 }) only [bitvec_to_nat, reduceIte, Nat.reduceEqDiff, Nat.reduceAdd, Nat.reduceLeDiff, reduceCtorEq, Nat.reduceBEq, Nat.reduceLT, Nat.reduceMod, List.forall_mem_cons, Ent.row, Ent_eta, un_Ent, un_Fld, tk_map, dp_map, toNat_pred, Int.toNat_natCast, Nat.sub_zero, Nat.zero_add, List.length_map, PBook.row]
  refine loop_st (fun i : Nat => [(5, .int .i64 i)]) (fun _ => []) (fun i => i ≤ b.es.length ∧ ∀ j, j < i → decide ((b.es.getD j default).nm = nm) = false) (fun i => b.es.length - i) (0) (by simp only [u_E0, u_E1, u_M0, u_M1, w_setE0, w_setE1, w_setM0, w_setM1, reduceIte, Nat.reduceEqDiff]; exact ⟨by repeat' (first | exact trivial | refine ⟨.inr rfl, ?_⟩), by repeat' (first | exact trivial | refine ⟨rfl, ?_⟩), by first | rfl | simp [closedB, refsIn, refsInL, refsInO, dom, refsInL_nr, *], by first | rfl | simp [keepB, dom]⟩) ?_ ?_
  · exact ⟨Nat.zero_le _, by intro j hj; omega⟩
  intro i hi NX hN
  unfold l_spec_l13At_0; simp (config := { maxSteps := 2000000 }) only [bitvec_to_nat, reduceIte, Nat.reduceEqDiff, Nat.reduceAdd, Nat.reduceLeDiff, reduceCtorEq, Nat.reduceBEq, Nat.reduceLT, Nat.reduceMod, List.forall_mem_cons, Ent.row, Ent_eta, un_Ent, un_Fld, tk_map, dp_map, toNat_pred, Int.toNat_natCast, Nat.sub_zero, Nat.zero_add, List.length_map, PBook.row]
  
  repeat' (first | with_reducible apply And.intro | with_reducible intro _)
  all_goals first
    | omega
    | (refine hN (i + 1) _ (by simp only [u_E0, u_E1, u_M0, u_M1, w_setE0, w_setE1, w_setM0, w_setM1, reduceIte, Nat.reduceEqDiff]; exact ⟨by repeat' (first | exact trivial | refine ⟨.inr rfl, ?_⟩), by repeat' (first | exact trivial | refine ⟨rfl, ?_⟩), by first | rfl | simp [closedB, refsIn, refsInL, refsInO, dom, refsInL_nr, *], by first | rfl | simp [keepB, dom]⟩) ?_ ?_
       · exact ⟨by omega, all_snoc hi.2 (by simpa using ‹¬ _›)⟩
       · omega)
    | (unfold eIdx; rw [fIdx_at (i := i) (by omega) (by simpa using ‹_›) hi.2])
    | (unfold eIdx; rw [fIdx_none fun j hj => hi.2 j (by omega)])
def t_l13At : List AV → Option (Prop × AV)
  | [.agg [.sl 0 3 b_ks, .sl 0 3 b_ps, .sl 0 2 b_es], .str nm] => some ((((b_ks.map unPKind).map PKind.row = b_ks) ∧ ((b_ps.map unPPt).map PPt.row = b_ps) ∧ ((b_es.map unEnt).map (Ent.row 0) = b_es)) ∧ ((PBook.es (PBook.mk (b_ks.map unPKind) (b_ps.map unPPt) (b_es.map unEnt))).length ≤ 1048576), .int .i64 (eIdx (PBook.es (PBook.mk (b_ks.map unPKind) (b_ps.map unPPt) (b_es.map unEnt))) nm))
  | _ => none
theorem h_l13At : ∀ args p v, t_l13At args = some (p, v) → p → Contract P 67 args [] v [] ∧ noref v = true ∧ No99 v := by
  intro args p v h1 h2
  unfold t_l13At at h1
  split at h1
  · rename_i b_ks b_ps b_es nm
    cases h1
    obtain ⟨⟨e0, e1, e2⟩, HP⟩ := h2
    have := c_l13At (PBook.mk (b_ks.map unPKind) (b_ps.map unPPt) (b_es.map unEnt)) nm HP
    exact ⟨by simpa only [e0, e1, e2, PBook.row] using this, rfl, trivial⟩
  · cases h1
theorem fs_eq {b : PBook} {nm : ByteArray} : (b.es.getD (eIdx b.es nm).toNat default).fs = fsOf b nm := rfl
set_option maxHeartbeats 1000000 in
theorem c_field (b : PBook) (nm : ByteArray) (w : Int) (hf : b.fine) : Contract P 61 [.agg (b.row 0), .str nm, .int .i64 w] [] (.tup [.agg (fOf b nm w).row, .bool (decide (hasF b nm w))]) [] := by
  obtain ⟨_, hl, hv⟩ := hf
  have he := eIdx_at (l := b.es) (nm := nm)
  have hfe := fs_eq (b := b) (nm := nm)
  simp only [PBook.row]
  refine fn_sound ((Env.nil P).add 95 t_entry h_entry) hm k_impl_PlanBook_field (Nat.le_of_ble_eq_true rfl) rfl ?_; unfold s_impl_PlanBook_field; simp (config := { maxSteps := 2000000 }) only [bitvec_to_nat, reduceIte, Nat.reduceEqDiff, Nat.reduceAdd, Nat.reduceLeDiff, reduceCtorEq, Nat.reduceBEq, Nat.reduceLT, Nat.reduceMod, List.forall_mem_cons, t_entry, tk_map, dp_map, toNat_pred, appE, rowsOf, List.take_length, List.length_cons, List.length_nil, Nat.zero_add, srow, irow, un_s, un_i, Zone.row, Zone_eta, un_Zone, Word.row, Word_eta, Own.row, Own_eta, Part.row, Part_eta, Seen.row, Seen_eta, Book.row, Book_eta, Sector.row, Sector_eta, HCraft.row, HCraft_eta, World.row, World_eta, PKind.row, PKind_eta, PPt.row, PPt_eta, Cell.row, Cell_eta, PBase.row, PBase_eta, Chg.row, Chg_eta, Fld.row, Fld_eta, Ent.row, Ent_eta, PBook.row, PBook_eta, un_Word, un_Own, un_Part, un_Seen, un_Book, un_Sector, un_HCraft, un_World, un_PKind, un_PPt, un_Cell, un_PBase, un_Chg, un_Fld, un_Ent, un_PBook, Nat.sub_zero, List.nil_append, Int.toNat_one, un_PKind, un_PPt, PBook.row, PBook_eta, Fld.row, Fld_eta, Ent.row, Ent_eta, un_Ent, un_Fld, Chg.row, Chg_eta, hfe]
  refine ⟨hl, fun h0 => ?_, fun h0 => ?_⟩
  · obtain ⟨he1, he2, he3⟩ := he h0
    have hfl : (fsOf b nm).length ≤ 1048576 := (hv _ (getD_mem' he1)).1
    refine ⟨by omega, by omega, ?_⟩
    refine loop_st (fun i : Nat => [(23, .int .i64 i)]) (fun _ => []) (fun i => i ≤ (fsOf b nm).length ∧ ∀ j, j < i → ¬ ((fsOf b nm).getD j default).w = w) (fun i => (fsOf b nm).length - i) 0 (by simp only [u_E0, u_E1, u_M0, u_M1, w_setE0, w_setE1, w_setM0, w_setM1, reduceIte, Nat.reduceEqDiff]; exact ⟨by repeat' (first | exact trivial | refine ⟨.inr rfl, ?_⟩), by repeat' (first | exact trivial | refine ⟨rfl, ?_⟩), by first | rfl | simp [closedB, refsIn, refsInL, refsInO, dom, refsInL_nr, *], by first | rfl | simp [keepB, dom]⟩) ⟨Nat.zero_le _, fun j h => absurd h (Nat.not_lt_zero _)⟩ ?_
    rintro i ⟨hi, h1⟩ NX hN
    by_cases hlt : i < (fsOf b nm).length
    · have hk := fun h => has_i (w := w) h0 hlt h h1
      unfold l_impl_PlanBook_field_0; simp (config := { maxSteps := 2000000 }) only [bitvec_to_nat, reduceIte, Nat.reduceEqDiff, Nat.reduceAdd, Nat.reduceLeDiff, reduceCtorEq, Nat.reduceBEq, Nat.reduceLT, Nat.reduceMod, List.forall_mem_cons, t_entry, tk_map, dp_map, toNat_pred, appE, rowsOf, List.take_length, List.length_cons, List.length_nil, Nat.zero_add, srow, irow, un_s, un_i, Zone.row, Zone_eta, un_Zone, Word.row, Word_eta, Own.row, Own_eta, Part.row, Part_eta, Seen.row, Seen_eta, Book.row, Book_eta, Sector.row, Sector_eta, HCraft.row, HCraft_eta, World.row, World_eta, PKind.row, PKind_eta, PPt.row, PPt_eta, Cell.row, Cell_eta, PBase.row, PBase_eta, Chg.row, Chg_eta, Fld.row, Fld_eta, Ent.row, Ent_eta, PBook.row, PBook_eta, un_Word, un_Own, un_Part, un_Seen, un_Book, un_Sector, un_HCraft, un_World, un_PKind, un_PPt, un_Cell, un_PBase, un_Chg, un_Fld, un_Ent, un_PBook, Nat.sub_zero, List.nil_append, Int.toNat_one, un_PKind, un_PPt, PBook.row, PBook_eta, Fld.row, Fld_eta, Ent.row, Ent_eta, un_Ent, un_Fld, Chg.row, Chg_eta, hfe]
      repeat' (first | with_reducible apply And.intro | with_reducible intro _)
      all_goals first
        | omega
        | (refine hN (i + 1) _ (by simp only [u_E0, u_E1, u_M0, u_M1, w_setE0, w_setE1, w_setM0, w_setM1, reduceIte, Nat.reduceEqDiff]; exact ⟨by repeat' (first | exact trivial | refine ⟨.inr rfl, ?_⟩), by repeat' (first | exact trivial | refine ⟨rfl, ?_⟩), by first | rfl | simp [closedB, refsIn, refsInL, refsInO, dom, refsInL_nr, *], by first | rfl | simp [keepB, dom]⟩) ⟨hlt, all_snoc h1 (by assumption)⟩ (by omega))
        | (have := hk (by assumption); simp [this.1, this.2, Fld.row]; done)
        | (have := hk (by assumption); exact this.1)
        | trace_state
    · have e : i = (fsOf b nm).length := by omega
      subst e
      have hk := has_no (w := w) (b := b) (nm := nm) fun _ => h1
      unfold l_impl_PlanBook_field_0; simp (config := { maxSteps := 2000000 }) only [bitvec_to_nat, reduceIte, Nat.reduceEqDiff, Nat.reduceAdd, Nat.reduceLeDiff, reduceCtorEq, Nat.reduceBEq, Nat.reduceLT, Nat.reduceMod, List.forall_mem_cons, t_entry, tk_map, dp_map, toNat_pred, appE, rowsOf, List.take_length, List.length_cons, List.length_nil, Nat.zero_add, srow, irow, un_s, un_i, Zone.row, Zone_eta, un_Zone, Word.row, Word_eta, Own.row, Own_eta, Part.row, Part_eta, Seen.row, Seen_eta, Book.row, Book_eta, Sector.row, Sector_eta, HCraft.row, HCraft_eta, World.row, World_eta, PKind.row, PKind_eta, PPt.row, PPt_eta, Cell.row, Cell_eta, PBase.row, PBase_eta, Chg.row, Chg_eta, Fld.row, Fld_eta, Ent.row, Ent_eta, PBook.row, PBook_eta, un_Word, un_Own, un_Part, un_Seen, un_Book, un_Sector, un_HCraft, un_World, un_PKind, un_PPt, un_Cell, un_PBase, un_Chg, un_Fld, un_Ent, un_PBook, Nat.sub_zero, List.nil_append, Int.toNat_one, un_PKind, un_PPt, PBook.row, PBook_eta, Fld.row, Fld_eta, Ent.row, Ent_eta, un_Ent, un_Fld, Chg.row, Chg_eta, hfe]
      repeat' (first | with_reducible apply And.intro | with_reducible intro _)
      all_goals first
        | omega
        | (simp [hk.1, hk.2, Fld.row]; done)
        | (exfalso; omega)
        | trace_state
  · have hk := has_no (w := w) (b := b) (nm := nm) fun h => absurd h (by omega)
    simp [hk.1, hk.2, Fld.row]
def t_field : List AV → Option (Prop × AV)
  | [.agg [.sl 0 3 b_ks, .sl 0 3 b_ps, .sl 0 2 b_es], .str nm, .int .i64 w] => some ((((b_ks.map unPKind).map PKind.row = b_ks) ∧ ((b_ps.map unPPt).map PPt.row = b_ps) ∧ ((b_es.map unEnt).map (Ent.row 0) = b_es)) ∧ (PBook.fine (PBook.mk (b_ks.map unPKind) (b_ps.map unPPt) (b_es.map unEnt))), .tup [.agg (Fld.row (fOf (PBook.mk (b_ks.map unPKind) (b_ps.map unPPt) (b_es.map unEnt)) nm w)), .bool (decide (hasF (PBook.mk (b_ks.map unPKind) (b_ps.map unPPt) (b_es.map unEnt)) nm w))])
  | _ => none
theorem h_field : ∀ args p v, t_field args = some (p, v) → p → Contract P 61 args [] v [] ∧ noref v = true ∧ No99 v := by
  intro args p v h1 h2
  unfold t_field at h1
  split at h1
  · rename_i b_ks b_ps b_es nm w
    cases h1
    obtain ⟨⟨e0, e1, e2⟩, HP⟩ := h2
    have := c_field (PBook.mk (b_ks.map unPKind) (b_ps.map unPPt) (b_es.map unEnt)) nm w HP
    exact ⟨by simpa only [e0, e1, e2, PBook.row] using this, rfl, by simp [No99, No99L, Fld.row]⟩
  · cases h1
end
end Go.Ve

namespace Go.Ve
noncomputable section
open Go.Proofs
set_option linter.unusedSimpArgs false
set_option linter.unusedVariables false
set_option maxRecDepth 100000
structure Flt where
  nm : ByteArray
  kn : ByteArray
  kq : Int
  ksl : Int
  fr : Int
  by_ : Int
  lv : Int
  rt : List ByteArray
  deriving Inhabited, DecidableEq
def Flt.row (t : Nat) (s : Flt) : List AV := [.str s.nm, .str s.kn, .int .i64 s.kq, .int .i64 s.ksl, .int .i64 s.fr, .int .i64 s.by_, .int .i64 s.lv, .sl t 1 (s.rt.map srow)]
def unFlt : List AV → Flt
  | [.str vnm, .str vkn, .int .i64 vkq, .int .i64 vksl, .int .i64 vfr, .int .i64 vby_, .int .i64 vlv, .sl _ 1 vrt] => (Flt.mk vnm vkn vkq vksl vfr vby_ vlv (vrt.map unS))
  | _ => default
theorem unFlt_row (t : Nat) (s : Flt) : unFlt (Flt.row t s) = s := by
  cases s; simp only [Flt.row, unFlt, un_s]
theorem un_Flt (t : Nat) (l : List Flt) : (l.map (Flt.row t)).map unFlt = l := by
  rw [List.map_map]; exact List.map_id'' (fun s => unFlt_row t s) l
theorem Flt_eta (s : Flt) : (Flt.mk s.nm s.kn s.kq s.ksl s.fr s.by_ s.lv s.rt) = s := (rfl)
def valF (b : PBook) (nm : ByteArray) (w : Int) : ByteArray := (fOf b nm w).v
def kdOf (b : PBook) (nm : ByteArray) : PKind := b.ks.getD (kIdx b.ks (valF b nm 1)).toNat default
def standsOk (b : PBook) (nm : ByteArray) : Prop := b.ok ∧ (hasF b nm 1 ∧ hasF b nm 2 ∧ hasF b nm 3 ∧ hasF b nm 4) ∧ valF b nm 5 ≠ wClosed
noncomputable instance (b : PBook) (nm : ByteArray) : Decidable (standsOk b nm) := Classical.propDecidable _
def fltOf (b : PBook) (nm : ByteArray) : Flt := ⟨nm, (kdOf b nm).nm, (kdOf b nm).q, (kdOf b nm).sl, ((decV ((cuts (valF b nm 2) 32).getD 0 default) : Nat) : Int), ((decV ((cuts (valF b nm 2) 32).getD 1 default) : Nat) : Int), ((decV (valF b nm 3) : Nat) : Int), cuts (valF b nm 4) 32⟩
def fltZ : Flt := ⟨⟨#[]⟩, ⟨#[]⟩, 0, 0, 0, 0, 0, []⟩
def stR (b : PBook) (nm : ByteArray) : Flt := if standsOk b nm then fltOf b nm else fltZ
theorem has_fits {b : PBook} {nm : ByteArray} {w : Int} (hb : b.ok) (h : hasF b nm w) : plFits b.ks b.ps w (valF b nm w) := by
  obtain ⟨h1, h2⟩ := h
  obtain ⟨e1, _, _⟩ := eIdx_at h1
  obtain ⟨w1, w2, _⟩ := wIdx_at h2
  have := ((hb.2 _ e1).1.2 _ w1).1.2.2
  simp only at this
  have hw : ((b.es.getD (eIdx b.es nm).toNat default).fs.getD (wIdx (fsOf b nm) w).toNat default).w = w := w2
  rw [hw] at this
  have ef : valF b nm w = ((b.es.getD (eIdx b.es nm).toNat default).fs.getD (wIdx (fsOf b nm) w).toNat default).v := by
    rw [valF, fOf, if_pos ⟨h1, h2⟩]; rfl
  rw [ef]; exact this
theorem val_small {b : PBook} {nm : ByteArray} {w : Int} (hf : b.fine) : (valF b nm w).toList.length ≤ 1048576 := by
  rw [valF, fOf]
  split
  · rename_i h
    obtain ⟨h1, h2⟩ := h
    obtain ⟨e1, _, _⟩ := eIdx_at h1
    obtain ⟨w1, _, _⟩ := wIdx_at h2
    exact (hf.2.2 _ (getD_mem' e1)).2 _ (getD_mem' w1)
  · show (⟨#[]⟩ : ByteArray).toList.length ≤ _
    rw [← toList_size]; exact Nat.zero_le _
theorem cuts_nil {c : UInt8} : (cuts ⟨#[]⟩ c).length = 1 := by
  rw [cuts_len]
  have : (⟨#[]⟩ : ByteArray).toList = [] := List.eq_nil_of_length_eq_zero (by rw [← toList_size]; rfl)
  rw [this]; rfl
theorem nameOk_ne {s : ByteArray} (h : nameOk s) : s ≠ ⟨#[]⟩ := fun e => by
  have := h.1.1
  rw [e, ← toList_size] at this
  exact absurd this (by decide)
theorem fits_ne {ks : List PKind} {ps : List PPt} {w : Int} {v : ByteArray} (hb : baseOk ks ps) (h : plFits ks ps w v) : v ≠ ⟨#[]⟩ := fun e => by
  subst e
  rcases h with ⟨_, h⟩ | ⟨_, h⟩ | ⟨_, h, _⟩ | ⟨_, h⟩ | ⟨_, h⟩
  · obtain ⟨k1, k2, _⟩ := kIdx_at h
    have := (hb.2.1 _ k1).1.1
    rw [k2] at this
    exact nameOk_ne this rfl
  · have := h.1
    rw [cuts_nil] at this; omega
  · have := h.1.1.1
    rw [← toList_size] at this; exact absurd this (by decide)
  · have := h.1.1
    rw [cuts_nil] at this; omega
  · rcases h with h | h
    · have := congrArg (fun b : ByteArray => b.data.size) h; simp [wOpen] at this
    · have := congrArg (fun b : ByteArray => b.data.size) h; simp [wClosed] at this
def valE (fs : List Fld) (w : Int) : ByteArray := if 0 ≤ wIdx fs w then (fs.getD (wIdx fs w).toNat default).v else ⟨#[]⟩
theorem valE_F {b : PBook} {nm : ByteArray} {w : Int} (h : 0 ≤ eIdx b.es nm) : valE (fsOf b nm) w = valF b nm w := by
  rw [valE, valF, fOf]
  by_cases hw : 0 ≤ wIdx (fsOf b nm) w
  · rw [if_pos hw, if_pos ⟨h, hw⟩]
  · rw [if_neg hw, if_neg fun k => hw k.2]
theorem val_has {b : PBook} {nm : ByteArray} {w : Int} (hb : b.ok) : valF b nm w ≠ ⟨#[]⟩ ↔ hasF b nm w := by
  constructor
  · intro h
    refine Classical.byContradiction fun k => h ?_
    rw [valF, fOf, if_neg k]
  · intro h
    exact fits_ne hb.1.1 (has_fits hb h)
theorem c_l16Value (nm : ByteArray) (t : Nat) (fs : List Fld) (w : Int) (hl : fs.length ≤ 1048576) : Contract P 99 [.agg [.str nm, .sl t 3 (fs.map Fld.row)], .int .i64 w] [] (.str (valE fs w)) [] := by
  have hn : (∀ j, j < fs.length → ¬ (fs.getD j default).w = w) → valE fs w = ⟨#[]⟩ := fun h => by
    rw [valE, wIdx_no h]; rfl
  have hi9 : ∀ i, i < fs.length → (fs.getD i default).w = w → (∀ j, j < i → ¬ (fs.getD j default).w = w) → valE fs w = (fs.getD i default).v := fun i h1 h2 h3 => by
    rw [valE, wIdx_i h1 h2 h3, if_pos (by omega)]; rfl
  refine fn_sound (Env.nil P) hm k_spec_l16Value (Nat.le_of_ble_eq_true rfl) rfl ?_; unfold s_spec_l16Value; simp (config := { maxSteps := 2000000 }) only [bitvec_to_nat, reduceIte, Nat.reduceEqDiff, Nat.reduceAdd, Nat.reduceLeDiff, reduceCtorEq, Nat.reduceBEq, Nat.reduceLT, Nat.reduceMod, List.forall_mem_cons, tk_map, dp_map, toNat_pred, appE, rowsOf, List.take_length, List.length_cons, List.length_nil, Nat.zero_add, srow, irow, un_s, un_i, Zone.row, Zone_eta, un_Zone, Word.row, Word_eta, Own.row, Own_eta, Part.row, Part_eta, Seen.row, Seen_eta, Book.row, Book_eta, Sector.row, Sector_eta, HCraft.row, HCraft_eta, World.row, World_eta, PKind.row, PKind_eta, PPt.row, PPt_eta, Cell.row, Cell_eta, PBase.row, PBase_eta, Chg.row, Chg_eta, Fld.row, Fld_eta, Ent.row, Ent_eta, PBook.row, PBook_eta, Flt.row, Flt_eta, un_Word, un_Own, un_Part, un_Seen, un_Book, un_Sector, un_HCraft, un_World, un_PKind, un_PPt, un_Cell, un_PBase, un_Chg, un_Fld, un_Ent, un_PBook, un_Flt, Nat.sub_zero, List.nil_append, Int.toNat_one, un_PKind, un_PPt, PBook.row, PBook_eta, Fld.row, Fld_eta, Ent.row, Ent_eta, un_Ent, un_Fld]
  refine loop_st (fun i : Nat => [(5, .int .i64 i)]) (fun _ => []) (fun i => i ≤ fs.length ∧ ∀ j, j < i → ¬ (fs.getD j default).w = w) (fun i => fs.length - i) (0) (by simp only [u_E0, u_E1, u_M0, u_M1, w_setE0, w_setE1, w_setM0, w_setM1, reduceIte, Nat.reduceEqDiff]; exact ⟨by repeat' (first | exact trivial | refine ⟨.inr rfl, ?_⟩), by repeat' (first | exact trivial | refine ⟨rfl, ?_⟩), by first | rfl | simp [closedB, refsIn, refsInL, refsInO, dom, refsInL_nr, *], by first | rfl | simp [keepB, dom]⟩) ?_ ?_
  · exact ⟨Nat.zero_le _, by intro j hj; omega⟩
  intro i hi NX hN
  unfold l_spec_l16Value_0; simp (config := { maxSteps := 2000000 }) only [bitvec_to_nat, reduceIte, Nat.reduceEqDiff, Nat.reduceAdd, Nat.reduceLeDiff, reduceCtorEq, Nat.reduceBEq, Nat.reduceLT, Nat.reduceMod, List.forall_mem_cons, tk_map, dp_map, toNat_pred, appE, rowsOf, List.take_length, List.length_cons, List.length_nil, Nat.zero_add, srow, irow, un_s, un_i, Zone.row, Zone_eta, un_Zone, Word.row, Word_eta, Own.row, Own_eta, Part.row, Part_eta, Seen.row, Seen_eta, Book.row, Book_eta, Sector.row, Sector_eta, HCraft.row, HCraft_eta, World.row, World_eta, PKind.row, PKind_eta, PPt.row, PPt_eta, Cell.row, Cell_eta, PBase.row, PBase_eta, Chg.row, Chg_eta, Fld.row, Fld_eta, Ent.row, Ent_eta, PBook.row, PBook_eta, Flt.row, Flt_eta, un_Word, un_Own, un_Part, un_Seen, un_Book, un_Sector, un_HCraft, un_World, un_PKind, un_PPt, un_Cell, un_PBase, un_Chg, un_Fld, un_Ent, un_PBook, un_Flt, Nat.sub_zero, List.nil_append, Int.toNat_one, un_PKind, un_PPt, PBook.row, PBook_eta, Fld.row, Fld_eta, Ent.row, Ent_eta, un_Ent, un_Fld]
  
  repeat' (first | with_reducible apply And.intro | with_reducible intro _)
  all_goals first
    | omega
    | (refine hN (i + 1) _ (by simp only [u_E0, u_E1, u_M0, u_M1, w_setE0, w_setE1, w_setM0, w_setM1, reduceIte, Nat.reduceEqDiff]; exact ⟨by repeat' (first | exact trivial | refine ⟨.inr rfl, ?_⟩), by repeat' (first | exact trivial | refine ⟨rfl, ?_⟩), by first | rfl | simp [closedB, refsIn, refsInL, refsInO, dom, refsInL_nr, *], by first | rfl | simp [keepB, dom]⟩) ?_ ?_
       · exact ⟨by omega, all_snoc hi.2 (by assumption)⟩
       · omega)
    | (rw [hi9 i (by omega) (by assumption) hi.2])
    | (rw [hn fun j hj => hi.2 j (by omega)])
    | trace_state
def t_l16Value : List AV → Option (Prop × AV)
  | [.agg [.str nm, .sl t 3 fx], .int .i64 w] => some ((fx.map unFld).map Fld.row = fx ∧ (fx.map unFld).length ≤ 1048576, .str (valE (fx.map unFld) w))
  | _ => none
theorem h_l16Value : ∀ args p v, t_l16Value args = some (p, v) → p → Contract P 99 args [] v [] ∧ noref v = true ∧ No99 v := by
  intro args p v h1 h2
  unfold t_l16Value at h1
  split at h1
  · rename_i nm t fx w
    cases h1
    have := c_l16Value nm t (fx.map unFld) w h2.2
    simp only [h2.1] at this
    exact ⟨this, rfl, trivial⟩
  · cases h1
end
end Go.Ve

namespace Go.Ve
open Go.Proofs
set_option maxRecDepth 100000
/-- impl.PlanBook).stands: function 69 -/
def sO_impl_PlanBook_stands : SFun := { n := 97, res := [.cN 4 8, .t 5], body := (.seq (.rg [⟨some 2, .box 102 (.v 0), none, [0]⟩, ⟨some 3, .box 103 (.v 1), none, [1]⟩, ⟨some 4, .alloc 104 [.str ⟨#[]⟩, .str ⟨#[]⟩, .int .i64 0, .int .i64 0, .int .i64 0, .int .i64 0, .int .i64 0, .sl 98 1 []], none, []⟩, ⟨some 5, .mv (.c (.bool false)), none, [5]⟩] [2, 3, 4]) (.seq (.rg [⟨some 21, .clos 100 [.v 2, .v 3], none, []⟩, ⟨some 6, .mv (.v 21), none, [21]⟩] [2, 3, 4, 6]) (.seq (.rg [⟨some 23, .mv (.v 6), none, []⟩, ⟨some 24, .callV (.v 23) [.c (.int .i64 1)], none, [23]⟩, ⟨some 22, .mv (.v 24), none, [24]⟩, ⟨some 25, .ext 0 (.v 22), none, []⟩, ⟨some 26, .ext 1 (.v 22), none, [22]⟩, ⟨some 7, .mv (.v 25), none, [25]⟩, ⟨some 8, .mv (.v 26), none, [26]⟩] [2, 3, 4, 6, 7, 8]) (.seq (.rg [⟨some 28, .mv (.v 6), none, []⟩, ⟨some 29, .callV (.v 28) [.c (.int .i64 2)], none, [28]⟩, ⟨some 27, .mv (.v 29), none, [29]⟩, ⟨some 30, .ext 0 (.v 27), none, []⟩, ⟨some 31, .ext 1 (.v 27), none, [27]⟩, ⟨some 9, .mv (.v 30), none, [30]⟩, ⟨some 10, .mv (.v 31), none, [31]⟩] [2, 3, 4, 6, 7, 8, 9, 10]) (.seq (.rg [⟨some 33, .mv (.v 6), none, []⟩, ⟨some 34, .callV (.v 33) [.c (.int .i64 3)], none, [33]⟩, ⟨some 32, .mv (.v 34), none, [34]⟩, ⟨some 35, .ext 0 (.v 32), none, []⟩, ⟨some 36, .ext 1 (.v 32), none, [32]⟩, ⟨some 11, .mv (.v 35), none, [35]⟩, ⟨some 12, .mv (.v 36), none, [36]⟩] [2, 3, 4, 6, 7, 8, 9, 10, 11, 12]) (.seq (.rg [⟨some 38, .mv (.v 6), none, []⟩, ⟨some 39, .callV (.v 38) [.c (.int .i64 4)], none, [38]⟩, ⟨some 37, .mv (.v 39), none, [39]⟩, ⟨some 40, .ext 0 (.v 37), none, []⟩, ⟨some 41, .ext 1 (.v 37), none, [37]⟩, ⟨some 13, .mv (.v 40), none, [40]⟩, ⟨some 14, .mv (.v 41), none, [41]⟩] [2, 3, 4, 6, 7, 8, 9, 10, 11, 12, 13, 14]) (.seq (.rg [⟨some 43, .mv (.v 6), none, [6]⟩, ⟨some 44, .callV (.v 43) [.c (.int .i64 5)], none, [43]⟩, ⟨some 42, .mv (.v 44), none, [44]⟩, ⟨some 45, .ext 0 (.v 42), none, []⟩, ⟨some 46, .ext 1 (.v 42), none, [42]⟩, ⟨some 15, .mv (.v 45), none, [45]⟩, ⟨some 16, .mv (.v 46), none, [16, 46]⟩] [2, 3, 4, 7, 8, 9, 10, 11, 12, 13, 14, 15]) (.seq (.seq (.rg [⟨some 47, .mv (.v 8), none, [8]⟩, ⟨some 48, .not (.v 47), none, [47]⟩, ⟨some 49, .mv (.v 48), none, [48]⟩, ⟨some 50, .mv (.v 10), some (49, false), [10]⟩, ⟨some 51, .not (.v 50), some (49, false), [50]⟩, ⟨some 52, .pick (.v 49) (.c (.bool true)) (.v 51), none, [49, 51]⟩, ⟨some 53, .mv (.v 52), none, [52]⟩, ⟨some 54, .mv (.v 12), some (53, false), [12]⟩, ⟨some 55, .not (.v 54), some (53, false), [54]⟩, ⟨some 56, .pick (.v 53) (.c (.bool true)) (.v 55), none, [53, 55]⟩, ⟨some 57, .mv (.v 56), none, [56]⟩, ⟨some 58, .mv (.v 14), some (57, false), [14]⟩, ⟨some 59, .not (.v 58), some (57, false), [58]⟩, ⟨some 60, .pick (.v 57) (.c (.bool true)) (.v 59), none, [57, 59]⟩, ⟨some 61, .mv (.v 60), none, [60]⟩, ⟨some 62, .mv (.v 15), some (61, false), [15]⟩, ⟨some 63, .bin .eql (.v 62) (.c (.str ⟨#[99, 108, 111, 115, 101, 100]⟩)), some (61, false), [62]⟩, ⟨some 64, .pick (.v 61) (.c (.bool true)) (.v 63), none, [61, 63]⟩] [2, 3, 4, 7, 9, 11, 13, 64]) (.cond (.v 64) (.seq (.rg [⟨some 65, .build [.str ⟨#[]⟩, .str ⟨#[]⟩, .int .i64 0, .int .i64 0, .int .i64 0, .int .i64 0, .int .i64 0, .sl 98 1 []] [], none, []⟩, ⟨none, .store 8 (.v 4) (.v 65), none, [65]⟩, ⟨some 5, .mv (.c (.bool false)), none, []⟩] [4, 5]) .ret) .skip)) (.seq (.rg [⟨some 67, .mv (.v 9), none, [9]⟩, ⟨some 68, .call 83 [.v 67, .c (.str ⟨#[32]⟩)], none, [67]⟩, ⟨some 69, .call 85 [.v 68, .c (.int .i64 7)], none, [68]⟩, ⟨some 66, .mv (.v 69), none, [69]⟩, ⟨some 70, .ext 0 (.v 66), none, []⟩, ⟨some 71, .ext 1 (.v 66), none, [66]⟩, ⟨some 17, .mv (.v 70), none, [70]⟩, ⟨some 18, .mv (.v 71), none, [18, 71]⟩] [2, 3, 4, 7, 11, 13, 17]) (.seq (.rg [⟨some 73, .mv (.v 11), none, [11]⟩, ⟨some 74, .call 86 [.v 73, .c (.int .i64 7)], none, [73]⟩, ⟨some 72, .mv (.v 74), none, [74]⟩, ⟨some 75, .ext 0 (.v 72), none, []⟩, ⟨some 76, .ext 1 (.v 72), none, [72]⟩, ⟨some 19, .mv (.v 75), none, [75]⟩, ⟨some 20, .mv (.v 76), none, [20, 76]⟩] [2, 3, 4, 7, 13, 17, 19]) (.seq (.rgd [⟨some 77, .load1 (.v 3), none, []⟩, ⟨some 78, .faddr 0 (.v 2), none, []⟩, ⟨some 79, .faddr 0 (.v 78), none, []⟩, ⟨some 80, .load1 (.v 79), none, []⟩, ⟨some 81, .faddr 0 (.v 2), none, []⟩, ⟨some 82, .loadN 2 (.v 81), none, []⟩, ⟨some 83, .mv (.v 7), none, []⟩, ⟨some 84, .call 84 [.v 82, .v 83], none, []⟩, ⟨some 85, .iaddr 3 (.v 80) (.v 84), none, []⟩, ⟨some 86, .loadN 3 (.v 85), none, []⟩, ⟨some 87, .mv (.v 17), none, []⟩, ⟨some 88, .iaddr 1 (.v 87) (.c (.int .i64 0)), none, []⟩, ⟨some 89, .load1 (.v 88), none, []⟩, ⟨some 90, .mv (.v 17), none, []⟩, ⟨some 91, .iaddr 1 (.v 90) (.c (.int .i64 1)), none, []⟩, ⟨some 92, .load1 (.v 91), none, []⟩, ⟨some 93, .mv (.v 19), none, []⟩, ⟨some 94, .mv (.v 13), none, []⟩, ⟨some 95, .call 83 [.v 94, .c (.str ⟨#[32]⟩)], none, []⟩, ⟨some 96, .build [.str ⟨#[]⟩, .str ⟨#[]⟩, .int .i64 0, .int .i64 0, .int .i64 0, .int .i64 0, .int .i64 0, .sl 98 1 []] [(0, 1, .v 77), (1, 3, .v 86), (4, 1, .v 89), (5, 1, .v 92), (6, 1, .v 93), (7, 1, .v 95)], none, []⟩, ⟨none, .store 8 (.v 4) (.v 96), none, []⟩, ⟨some 5, .mv (.c (.bool true)), none, []⟩] [4, 5] [some [], some [], some [], some [], none, none, none, some [6, 5, 4, 3], some [], some [], none, some [3], some [4], none, some [6], some [7], none, none, some [17, 16, 15, 14, 9, 8, 6, 5, 3, 2], none, none, none]) .ret))))))))))) }
theorem kO_impl_PlanBook_stands : okFun Go.Proofs.Tryz.prog 69 sO_impl_PlanBook_stands = true := by kernel_rfl
/-- impl.PlanStands: function 30 -/
def sO_impl_PlanStands : SFun := { n := 15, res := [.cN 4 8, .t 5], body := (.seq (.rg [⟨some 2, .box 102 (.v 0), none, [0]⟩, ⟨some 4, .alloc 104 [.str ⟨#[]⟩, .str ⟨#[]⟩, .int .i64 0, .int .i64 0, .int .i64 0, .int .i64 0, .int .i64 0, .sl 98 1 []], none, []⟩, ⟨some 5, .mv (.c (.bool false)), none, [5]⟩] [1, 2, 4]) (.seq (.seq (.rg [⟨some 6, .loadN 3 (.v 2), none, []⟩, ⟨some 7, .call 21 [.v 6], none, [6]⟩, ⟨some 8, .not (.v 7), none, [7]⟩] [1, 2, 4, 8]) (.cond (.v 8) (.seq (.rg [⟨some 9, .build [.str ⟨#[]⟩, .str ⟨#[]⟩, .int .i64 0, .int .i64 0, .int .i64 0, .int .i64 0, .int .i64 0, .sl 98 1 []] [], none, []⟩, ⟨none, .store 8 (.v 4) (.v 9), none, [9]⟩, ⟨some 5, .mv (.c (.bool false)), none, []⟩] [4, 5]) .ret) .skip)) (.seq (.rg [⟨some 10, .loadN 3 (.v 2), none, [2]⟩, ⟨some 11, .mv (.v 1), none, [1]⟩, ⟨some 12, .call 69 [.v 10, .v 11], none, [10, 11]⟩, ⟨some 13, .ext 0 (.v 12), none, []⟩, ⟨some 14, .ext 1 (.v 12), none, [12]⟩, ⟨none, .store 8 (.v 4) (.v 13), none, [13]⟩, ⟨some 5, .mv (.v 14), none, [14]⟩] [4, 5]) .ret))) }
theorem kO_impl_PlanStands : okFun Go.Proofs.Tryz.prog 30 sO_impl_PlanStands = true := by kernel_rfl
end Go.Ve

namespace Go.Ve
noncomputable section
open Go.Proofs
set_option linter.unusedSimpArgs false
set_option linter.unusedVariables false
set_option maxRecDepth 100000
theorem stands_facts {b : PBook} {nm : ByteArray} (hb : b.ok) (h : hasF b nm 1 ∧ hasF b nm 2 ∧ hasF b nm 3 ∧ hasF b nm 4) : 0 ≤ kIdx b.ks (valF b nm 1) ∧ timeOk (cuts (valF b nm 2) 32) ∧ decOk (valF b nm 3) := by
  obtain ⟨h1, h2, h3, h4⟩ := h
  exact ⟨(fits1 rfl).1 (has_fits hb h1), (fits2 rfl).1 (has_fits hb h2), ((fits3 rfl).1 (has_fits hb h3)).1⟩
theorem stR_ok {b : PBook} {nm : ByteArray} (h : standsOk b nm) : stR b nm = fltOf b nm := if_pos h
theorem stR_no {b : PBook} {nm : ByteArray} (h : ¬ standsOk b nm) : stR b nm = fltZ := if_neg h
theorem number_dec {s : ByteArray} (h : decOk s) : number s = ((decV s : Nat) : Int) := if_pos h
set_option maxHeartbeats 2000000 in
theorem c_l16Stands (b : PBook) (nm : ByteArray) (hf : b.fine) (hb : b.ok) (h0 : 0 ≤ eIdx b.es nm) : Contract P 68 [.agg (b.row 0), .agg [.str nm, .sl 0 3 ((fsOf b nm).map Fld.row)]] [] (.tup [.agg ((stR b nm).row 0), .bool (decide (standsOk b nm))]) [] := by
  have hfine := hf
  obtain ⟨⟨hkl, hpl⟩, hl, hv⟩ := hf
  obtain ⟨e1, _, _⟩ := eIdx_at h0
  have hfl : (fsOf b nm).length ≤ 1048576 := (hv _ (getD_mem' e1)).1
  have hfe := fun w => valE_F (w := w) h0
  have hvs := fun w => val_small (nm := nm) (w := w) hfine
  have hvh := fun w => val_has (nm := nm) (w := w) hb
  have hv2 : True := trivial
  have hv3 : True := trivial
  have n0 : True := trivial
  have n1 : True := trivial
  have n3 : True := trivial
  have hkd : True := trivial
  have tkq : True := trivial
  have e5 : True := trivial
  simp only [PBook.row]
  refine fn_sound (((((Env.nil P).add 99 t_l16Value h_l16Value).add 42 t_l12Cut h_l12Cut).add 43 t_l11Kind h_l11Kind).add 46 t_l12Number h_l12Number) hm k_spec_l16Stands (Nat.le_of_ble_eq_true rfl) rfl ?_; unfold s_spec_l16Stands; simp (config := { maxSteps := 2000000 }) only [bitvec_to_nat, reduceIte, Nat.reduceEqDiff, Nat.reduceAdd, Nat.reduceLeDiff, reduceCtorEq, Nat.reduceBEq, Nat.reduceLT, Nat.reduceMod, List.forall_mem_cons, t_l16Value, t_l12Cut, t_l11Kind, t_l12Number, tk_map, dp_map, toNat_pred, appE, rowsOf, List.take_length, List.length_cons, List.length_nil, Nat.zero_add, srow, irow, un_s, un_i, Zone.row, Zone_eta, un_Zone, Word.row, Word_eta, Own.row, Own_eta, Part.row, Part_eta, Seen.row, Seen_eta, Book.row, Book_eta, Sector.row, Sector_eta, HCraft.row, HCraft_eta, World.row, World_eta, PKind.row, PKind_eta, PPt.row, PPt_eta, Cell.row, Cell_eta, PBase.row, PBase_eta, Chg.row, Chg_eta, Fld.row, Fld_eta, Ent.row, Ent_eta, PBook.row, PBook_eta, Flt.row, Flt_eta, un_Word, un_Own, un_Part, un_Seen, un_Book, un_Sector, un_HCraft, un_World, un_PKind, un_PPt, un_Cell, un_PBase, un_Chg, un_Fld, un_Ent, un_PBook, un_Flt, Nat.sub_zero, List.nil_append, Int.toNat_one, un_PKind, un_PPt, PBook.row, PBook_eta, Fld.row, Fld_eta, Ent.row, Ent_eta, un_Ent, un_Fld, hfe, hv2, hv3, n0, n1, n3, hkd, tkq, Flt.row, fltOf, fltZ, List.map_nil, e5, kdOf]
  refine loop_st (fun m : Nat => [(6, .int .i64 m)]) (fun _ => []) (fun m => (1 ≤ m ∧ m ≤ 5) ∧ ∀ j : Nat, 1 ≤ j → j < m → hasF b nm j) (fun m => 5 - m) 1 (by simp only [u_E0, u_E1, u_M0, u_M1, w_setE0, w_setE1, w_setM0, w_setM1, reduceIte, Nat.reduceEqDiff]; exact ⟨by repeat' (first | exact trivial | refine ⟨.inr rfl, ?_⟩), by repeat' (first | exact trivial | refine ⟨rfl, ?_⟩), by first | rfl | simp [closedB, refsIn, refsInL, refsInO, dom, refsInL_nr, *], by first | rfl | simp [keepB, dom]⟩) ⟨⟨Nat.le_refl _, by omega⟩, fun j h1 h2 => by omega⟩ ?_
  rintro m ⟨⟨hm1, hm5⟩, h1⟩ NX hN
  by_cases hlt : m ≤ 4
  · unfold l_spec_l16Stands_0; simp (config := { maxSteps := 2000000 }) only [bitvec_to_nat, reduceIte, Nat.reduceEqDiff, Nat.reduceAdd, Nat.reduceLeDiff, reduceCtorEq, Nat.reduceBEq, Nat.reduceLT, Nat.reduceMod, List.forall_mem_cons, t_l16Value, t_l12Cut, t_l11Kind, t_l12Number, tk_map, dp_map, toNat_pred, appE, rowsOf, List.take_length, List.length_cons, List.length_nil, Nat.zero_add, srow, irow, un_s, un_i, Zone.row, Zone_eta, un_Zone, Word.row, Word_eta, Own.row, Own_eta, Part.row, Part_eta, Seen.row, Seen_eta, Book.row, Book_eta, Sector.row, Sector_eta, HCraft.row, HCraft_eta, World.row, World_eta, PKind.row, PKind_eta, PPt.row, PPt_eta, Cell.row, Cell_eta, PBase.row, PBase_eta, Chg.row, Chg_eta, Fld.row, Fld_eta, Ent.row, Ent_eta, PBook.row, PBook_eta, Flt.row, Flt_eta, un_Word, un_Own, un_Part, un_Seen, un_Book, un_Sector, un_HCraft, un_World, un_PKind, un_PPt, un_Cell, un_PBase, un_Chg, un_Fld, un_Ent, un_PBook, un_Flt, Nat.sub_zero, List.nil_append, Int.toNat_one, un_PKind, un_PPt, PBook.row, PBook_eta, Fld.row, Fld_eta, Ent.row, Ent_eta, un_Ent, un_Fld, hfe, hv2, hv3, n0, n1, n3, hkd, tkq, Flt.row, fltOf, fltZ, List.map_nil, e5, kdOf]
    repeat' (first | with_reducible apply And.intro | with_reducible intro _)
    all_goals first
      | omega
      | (refine hN (m + 1) _ (by simp only [u_E0, u_E1, u_M0, u_M1, w_setE0, w_setE1, w_setM0, w_setM1, reduceIte, Nat.reduceEqDiff]; exact ⟨by repeat' (first | exact trivial | refine ⟨.inr rfl, ?_⟩), by repeat' (first | exact trivial | refine ⟨rfl, ?_⟩), by first | rfl | simp [closedB, refsIn, refsInL, refsInO, dom, refsInL_nr, *], by first | rfl | simp [keepB, dom]⟩) ⟨⟨by omega, by omega⟩, fun j h8 h9 => ?_⟩ (by omega)
         by_cases e : j = m
         · subst e; exact (hvh _).1 (by assumption)
         · exact h1 j h8 (by omega))
      | (have hno : ¬ standsOk b nm := fun h => by
           have h2 := h.2.1
           have hh : hasF b nm (m : Int) := by
             rcases (show m = 1 ∨ m = 2 ∨ m = 3 ∨ m = 4 by omega) with rfl | rfl | rfl | rfl
             · exact h2.1
             · exact h2.2.1
             · exact h2.2.2.1
             · exact h2.2.2.2
           exact absurd (by assumption) ((hvh _).2 hh)
         simp [stR_no hno, hno, Flt.row, fltZ]; done)
      | (exfalso; omega)
      | trace_state
  · have e : m = 5 := by omega
    subst e
    have hall : hasF b nm 1 ∧ hasF b nm 2 ∧ hasF b nm 3 ∧ hasF b nm 4 := ⟨h1 1 (by omega) (by omega), h1 2 (by omega) (by omega), h1 3 (by omega) (by omega), h1 4 (by omega) (by omega)⟩
    obtain ⟨k1, ht, hd⟩ := stands_facts hb hall
    have hk2 := kIdx_at k1
    have n0 := number_dec ht.2.1.1
    have n1 := number_dec ht.2.1.2
    have n3 := number_dec hd
    unfold l_spec_l16Stands_0; simp (config := { maxSteps := 2000000 }) only [bitvec_to_nat, reduceIte, Nat.reduceEqDiff, Nat.reduceAdd, Nat.reduceLeDiff, reduceCtorEq, Nat.reduceBEq, Nat.reduceLT, Nat.reduceMod, List.forall_mem_cons, t_l16Value, t_l12Cut, t_l11Kind, t_l12Number, tk_map, dp_map, toNat_pred, appE, rowsOf, List.take_length, List.length_cons, List.length_nil, Nat.zero_add, srow, irow, un_s, un_i, Zone.row, Zone_eta, un_Zone, Word.row, Word_eta, Own.row, Own_eta, Part.row, Part_eta, Seen.row, Seen_eta, Book.row, Book_eta, Sector.row, Sector_eta, HCraft.row, HCraft_eta, World.row, World_eta, PKind.row, PKind_eta, PPt.row, PPt_eta, Cell.row, Cell_eta, PBase.row, PBase_eta, Chg.row, Chg_eta, Fld.row, Fld_eta, Ent.row, Ent_eta, PBook.row, PBook_eta, Flt.row, Flt_eta, un_Word, un_Own, un_Part, un_Seen, un_Book, un_Sector, un_HCraft, un_World, un_PKind, un_PPt, un_Cell, un_PBase, un_Chg, un_Fld, un_Ent, un_PBook, un_Flt, Nat.sub_zero, List.nil_append, Int.toNat_one, un_PKind, un_PPt, PBook.row, PBook_eta, Fld.row, Fld_eta, Ent.row, Ent_eta, un_Ent, un_Fld, hfe, hv2, hv3, n0, n1, n3, hkd, tkq, Flt.row, fltOf, fltZ, List.map_nil, e5, kdOf]
    repeat' (first | with_reducible apply And.intro | with_reducible intro _)
    all_goals first
      | omega
      | exact hvs _
      | exact hk2.2.2
      | (have hno : ¬ standsOk b nm := fun h => h.2.2 (by assumption)
         simp [stR_no hno, hno, Flt.row, fltZ]; done)
      | (have hok : standsOk b nm := ⟨hb, hall, by assumption⟩
         simp [stR_ok hok, hok, Flt.row, fltOf, kdOf, -List.map_map]; done)
      | (have hl2 := ht.1; omega)
      | (exfalso; omega)
      | trace_state
theorem c_get (b : PBook) (nm : ByteArray) (w : Int) (hf : b.fine) : Contract P 100 [.int .i64 w, .ptr 3 0, .ptr 4 0] [(3, .box (b.row 0)), (4, .box [.str nm])] (.tup [.str (valF b nm w), .bool (decide (hasF b nm w))]) [(3, .box (b.row 0)), (4, .box [.str nm])] := by
  simp only [PBook.row]
  refine fn_sound ((Env.nil P).add 61 t_field h_field) hm k_impl_PlanBook_stands_1 (Nat.le_of_ble_eq_true rfl) rfl ?_; unfold s_impl_PlanBook_stands_1; simp (config := { maxSteps := 2000000 }) only [bitvec_to_nat, reduceIte, Nat.reduceEqDiff, Nat.reduceAdd, Nat.reduceLeDiff, reduceCtorEq, Nat.reduceBEq, Nat.reduceLT, Nat.reduceMod, List.forall_mem_cons, retG_ret, retQ_eq, retQ_eqN, retOk, keepB, re_tupl, orr_t, t_field, tk_map, dp_map, toNat_pred, appE, rowsOf, List.take_length, List.length_cons, List.length_nil, Nat.zero_add, srow, irow, un_s, un_i, Zone.row, Zone_eta, un_Zone, Word.row, Word_eta, Own.row, Own_eta, Part.row, Part_eta, Seen.row, Seen_eta, Book.row, Book_eta, Sector.row, Sector_eta, HCraft.row, HCraft_eta, World.row, World_eta, PKind.row, PKind_eta, PPt.row, PPt_eta, Cell.row, Cell_eta, PBase.row, PBase_eta, Chg.row, Chg_eta, Fld.row, Fld_eta, Ent.row, Ent_eta, PBook.row, PBook_eta, Flt.row, Flt_eta, un_Word, un_Own, un_Part, un_Seen, un_Book, un_Sector, un_HCraft, un_World, un_PKind, un_PPt, un_Cell, un_PBase, un_Chg, un_Fld, un_Ent, un_PBook, un_Flt, Nat.sub_zero, List.nil_append, Int.toNat_one, un_PKind, un_PPt, PBook.row, PBook_eta, Fld.row, Fld_eta, Ent.row, Ent_eta, un_Ent, un_Fld]
  repeat' (first | with_reducible apply And.intro | with_reducible intro _)
  all_goals first
    | omega
    | exact hf
    | rfl
    | trace_state
def r_getF : RTab
  | [.int .i64 w, .ptr ob off, .ptr oq of2], M => match M ob, M oq with
    | some (.box [.sl 0 3 kx, .sl 0 3 px, .sl 0 2 ex]), some (.box [.str nm]) => some ⟨((off = 0 ∧ of2 = 0) ∧ (ob ≠ oq ∧ ob ≠ 4)) ∧ ((kx.map unPKind).map PKind.row = kx ∧ (px.map unPPt).map PPt.row = px ∧ (ex.map unEnt).map (Ent.row 0) = ex) ∧ PBook.fine ⟨kx.map unPKind, px.map unPPt, ex.map unEnt⟩, fun _ : Unit => True, fun _ => .tup [.str (valF ⟨kx.map unPKind, px.map unPPt, ex.map unEnt⟩ nm w), .bool (decide (hasF ⟨kx.map unPKind, px.map unPPt, ex.map unEnt⟩ nm w))], fun _ => [(ob, .box [.sl 0 3 kx, .sl 0 3 px, .sl 0 2 ex]), (oq, .box [.str nm])]⟩
    | _, _ => none
  | _, _ => none
theorem h_getF : okTab P 100 r_getF := by
  intro args M o h hp
  unfold r_getF at h
  split at h
  · rename_i w ob off oq of2
    split at h
    · rename_i kx px ex nm hM hM2
      cases h
      obtain ⟨⟨⟨rfl, rfl⟩, hoq, ho⟩, ⟨e1, e2, e3⟩, HP⟩ := hp
      have hC := c_get ⟨kx.map unPKind, px.map unPPt, ex.map unEnt⟩ nm w HP
      simp only [PBook.row, e1, e2, e3] at hC
      exact ⟨(), trivial, callR_box2 _ _ hoq ho hC (by simp [norefL, noref]) (by simp [norefL, noref]) rfl (by assumption) (by assumption) (by simp [renL, ren, swp, hoq, ho, Ne.symm ho, Ne.symm hoq]) (by simp [refsInL, refsIn, noref])⟩
    · cases h
  · cases h
set_option maxHeartbeats 4000000 in
theorem c_iStandsY (b : PBook) (nm : ByteArray) (hf : b.fine) (hb : b.ok) (hok : standsOk b nm) : Contract P 69 [.agg (b.row 0), .str nm] [] (.tup [.agg [.str (fltOf b nm).nm, .str (fltOf b nm).kn, .int .i64 (fltOf b nm).kq, .int .i64 (fltOf b nm).ksl, .int .i64 (fltOf b nm).fr, .int .i64 (fltOf b nm).by_, .int .i64 (fltOf b nm).lv, .own 131 0 0 (fltOf b nm).rt.length], .bool true]) [(131, .arr 9 0 1 ((fltOf b nm).rt.map srow))] := by
  have hfine := hf
  obtain ⟨⟨hkl, hpl⟩, hl, hv⟩ := hf
  have hvs := fun w => val_small (nm := nm) (w := w) hfine
  have hfe : True := trivial
  have hv2 : True := trivial
  have hv3 : True := trivial
  have n0 : True := trivial
  have n1 : True := trivial
  have n3 : True := trivial
  have hkd : True := trivial
  have tkq : True := trivial
  have e5 : True := trivial
  have hall := hok.2.1
  obtain ⟨k1, ht, hd⟩ := stands_facts hb hall
  have hk2 := kIdx_at k1
  have q1 := eq_true hall.1
  have q2 := eq_true hall.2.1
  have q3 := eq_true hall.2.2.1
  have q4 := eq_true hall.2.2.2
  have q5 : (valF b nm 5 = ⟨#[99, 108, 111, 115, 101, 100]⟩) = False := eq_false hok.2.2
  have hl2 := ht.1
  have had : allDec (cuts (valF b nm 2) 32) := fun i hi => by
    rcases (show i = 0 ∨ i = 1 by omega) with rfl | rfl
    · exact ht.2.1.1
    · exact ht.2.1.2
  have dl := decsL_len had
  have d0 := decsL_get had (i := 0) (by omega)
  have d1 := decsL_get had (i := 1) (by omega)
  simp only [PBook.row]
  refine fn_sound (((((Env.nil P).addR 100 r_getF h_getF).add 85 t_decimals h_decimals).add 86 t_decimal h_decimal).add 84 t_iKind h_iKind) hm kO_impl_PlanBook_stands (Nat.le_of_ble_eq_true rfl) rfl ?_; unfold sO_impl_PlanBook_stands; simp (config := { maxSteps := 2000000 }) only [bitvec_to_nat, reduceIte, Nat.reduceEqDiff, Nat.reduceAdd, Nat.reduceLeDiff, reduceCtorEq, Nat.reduceBEq, Nat.reduceLT, Nat.reduceMod, List.forall_mem_cons, retG_ret, retQ_eq, retQ_eqN, retOk, keepB, re_tupl, orr_t, t_decimals, t_decimal, t_iKind, r_getF, tk_map, dp_map, toNat_pred, appE, rowsOf, List.take_length, List.length_cons, List.length_nil, Nat.zero_add, srow, irow, un_s, un_i, Zone.row, Zone_eta, un_Zone, Word.row, Word_eta, Own.row, Own_eta, Part.row, Part_eta, Seen.row, Seen_eta, Book.row, Book_eta, Sector.row, Sector_eta, HCraft.row, HCraft_eta, World.row, World_eta, PKind.row, PKind_eta, PPt.row, PPt_eta, Cell.row, Cell_eta, PBase.row, PBase_eta, Chg.row, Chg_eta, Fld.row, Fld_eta, Ent.row, Ent_eta, PBook.row, PBook_eta, Flt.row, Flt_eta, un_Word, un_Own, un_Part, un_Seen, un_Book, un_Sector, un_HCraft, un_World, un_PKind, un_PPt, un_Cell, un_PBase, un_Chg, un_Fld, un_Ent, un_PBook, un_Flt, Nat.sub_zero, List.nil_append, Int.toNat_one, un_PKind, un_PPt, PBook.row, PBook_eta, Fld.row, Fld_eta, Ent.row, Ent_eta, un_Ent, un_Fld, hfe, hv2, hv3, n0, n1, n3, hkd, tkq, Flt.row, fltOf, fltZ, List.map_nil, e5, kdOf, w_callF, List.append_nil, q1, q2, q3, q4, q5]
  refine ⟨by kernel_rfl, hfine, fun _ => ⟨by kernel_rfl, hfine, fun _ => ⟨by kernel_rfl, hfine, fun _ => ⟨by kernel_rfl, hfine, fun _ => ⟨by kernel_rfl, hfine, fun _ => ⟨_, _, .inr (.inl ⟨rfl, _, rfl, c_Split _ (hvs 2), rfl, by simp only [No99]; exact ⟨by omega, no99_str _⟩⟩), ?_⟩⟩⟩⟩⟩⟩
  simp (config := { maxSteps := 2000000 }) only [bitvec_to_nat, reduceIte, Nat.reduceEqDiff, Nat.reduceAdd, Nat.reduceLeDiff, reduceCtorEq, Nat.reduceBEq, Nat.reduceLT, Nat.reduceMod, List.forall_mem_cons, retG_ret, retQ_eq, retQ_eqN, retOk, keepB, re_tupl, orr_t, t_decimals, t_decimal, t_iKind, r_getF, tk_map, dp_map, toNat_pred, appE, rowsOf, List.take_length, List.length_cons, List.length_nil, Nat.zero_add, srow, irow, un_s, un_i, Zone.row, Zone_eta, un_Zone, Word.row, Word_eta, Own.row, Own_eta, Part.row, Part_eta, Seen.row, Seen_eta, Book.row, Book_eta, Sector.row, Sector_eta, HCraft.row, HCraft_eta, World.row, World_eta, PKind.row, PKind_eta, PPt.row, PPt_eta, Cell.row, Cell_eta, PBase.row, PBase_eta, Chg.row, Chg_eta, Fld.row, Fld_eta, Ent.row, Ent_eta, PBook.row, PBook_eta, Flt.row, Flt_eta, un_Word, un_Own, un_Part, un_Seen, un_Book, un_Sector, un_HCraft, un_World, un_PKind, un_PPt, un_Cell, un_PBase, un_Chg, un_Fld, un_Ent, un_PBook, un_Flt, Nat.sub_zero, List.nil_append, Int.toNat_one, un_PKind, un_PPt, PBook.row, PBook_eta, Fld.row, Fld_eta, Ent.row, Ent_eta, un_Ent, un_Fld, hfe, hv2, hv3, n0, n1, n3, hkd, tkq, Flt.row, fltOf, fltZ, List.map_nil, e5, kdOf, w_callF, List.append_nil, q1, q2, q3, q4, q5]
  refine ⟨⟨by have := cuts_le (s := valF b nm 2) (c := 32); have := hvs 2; omega, cuts_small' _ _ (hvs 2)⟩, hvs 3, hkl, k1, hk2.2.2, by omega, by omega, by omega, by omega, _, _, .inr (.inr (.inl ⟨_, rfl, c_SplitO _ (hvs 4), by simp [getM], by simp [refsIn, refsInL, dom], rfl, trivial, by simp [No99O, no99_str]⟩)), ?_⟩
  simp (config := { maxSteps := 2000000 }) only [bitvec_to_nat, reduceIte, Nat.reduceEqDiff, Nat.reduceAdd, Nat.reduceLeDiff, reduceCtorEq, Nat.reduceBEq, Nat.reduceLT, Nat.reduceMod, List.forall_mem_cons, retG_ret, retQ_eq, retQ_eqN, retOk, keepB, re_tupl, orr_t, t_decimals, t_decimal, t_iKind, r_getF, tk_map, dp_map, toNat_pred, appE, rowsOf, List.take_length, List.length_cons, List.length_nil, Nat.zero_add, srow, irow, un_s, un_i, Zone.row, Zone_eta, un_Zone, Word.row, Word_eta, Own.row, Own_eta, Part.row, Part_eta, Seen.row, Seen_eta, Book.row, Book_eta, Sector.row, Sector_eta, HCraft.row, HCraft_eta, World.row, World_eta, PKind.row, PKind_eta, PPt.row, PPt_eta, Cell.row, Cell_eta, PBase.row, PBase_eta, Chg.row, Chg_eta, Fld.row, Fld_eta, Ent.row, Ent_eta, PBook.row, PBook_eta, Flt.row, Flt_eta, un_Word, un_Own, un_Part, un_Seen, un_Book, un_Sector, un_HCraft, un_World, un_PKind, un_PPt, un_Cell, un_PBase, un_Chg, un_Fld, un_Ent, un_PBook, un_Flt, Nat.sub_zero, List.nil_append, Int.toNat_one, un_PKind, un_PPt, PBook.row, PBook_eta, Fld.row, Fld_eta, Ent.row, Ent_eta, un_Ent, un_Fld, hfe, hv2, hv3, n0, n1, n3, hkd, tkq, Flt.row, fltOf, fltZ, List.map_nil, e5, kdOf, w_callF, List.append_nil, q1, q2, q3, q4, q5]
  have hd3 : (if decOk (valF b nm 3) then ((decV (valF b nm 3) : Nat) : Int) else 0) = ((decV (valF b nm 3) : Nat) : Int) := if_pos hd
  have e0 : (decsL (cuts (valF b nm 2) 32)).getD 0 default = _ := d0
  have e1 : (decsL (cuts (valF b nm 2) 32)).getD 1 default = _ := d1
  rw [hd3, e0, e1]
  exact ⟨rfl, by simp [refsIn], rfl⟩
set_option maxHeartbeats 4000000 in
theorem c_iStandsN (b : PBook) (nm : ByteArray) (hf : b.fine) (hb : b.ok) (hok : ¬ standsOk b nm) : Contract P 69 [.agg (b.row 0), .str nm] [] (.tup [.agg (fltZ.row 98), .bool false]) [] := by
  have hfine := hf
  obtain ⟨⟨hkl, hpl⟩, hl, hv⟩ := hf
  have hvs := fun w => val_small (nm := nm) (w := w) hfine
  have hfe : True := trivial
  have hv2 : True := trivial
  have hv3 : True := trivial
  have n0 : True := trivial
  have n1 : True := trivial
  have n3 : True := trivial
  have hkd : True := trivial
  have tkq : True := trivial
  have e5 : True := trivial
  have q1 : True := trivial
  have q2 : True := trivial
  have q3 : True := trivial
  have q4 : True := trivial
  have q5 : True := trivial
  simp only [PBook.row]
  refine fn_sound (((((Env.nil P).addR 100 r_getF h_getF).add 85 t_decimals h_decimals).add 86 t_decimal h_decimal).add 84 t_iKind h_iKind) hm kO_impl_PlanBook_stands (Nat.le_of_ble_eq_true rfl) rfl ?_; unfold sO_impl_PlanBook_stands; simp (config := { maxSteps := 2000000 }) only [bitvec_to_nat, reduceIte, Nat.reduceEqDiff, Nat.reduceAdd, Nat.reduceLeDiff, reduceCtorEq, Nat.reduceBEq, Nat.reduceLT, Nat.reduceMod, List.forall_mem_cons, retG_ret, retQ_eq, retQ_eqN, retOk, keepB, re_tupl, orr_t, t_decimals, t_decimal, t_iKind, r_getF, tk_map, dp_map, toNat_pred, appE, rowsOf, List.take_length, List.length_cons, List.length_nil, Nat.zero_add, srow, irow, un_s, un_i, Zone.row, Zone_eta, un_Zone, Word.row, Word_eta, Own.row, Own_eta, Part.row, Part_eta, Seen.row, Seen_eta, Book.row, Book_eta, Sector.row, Sector_eta, HCraft.row, HCraft_eta, World.row, World_eta, PKind.row, PKind_eta, PPt.row, PPt_eta, Cell.row, Cell_eta, PBase.row, PBase_eta, Chg.row, Chg_eta, Fld.row, Fld_eta, Ent.row, Ent_eta, PBook.row, PBook_eta, Flt.row, Flt_eta, un_Word, un_Own, un_Part, un_Seen, un_Book, un_Sector, un_HCraft, un_World, un_PKind, un_PPt, un_Cell, un_PBase, un_Chg, un_Fld, un_Ent, un_PBook, un_Flt, Nat.sub_zero, List.nil_append, Int.toNat_one, un_PKind, un_PPt, PBook.row, PBook_eta, Fld.row, Fld_eta, Ent.row, Ent_eta, un_Ent, un_Fld, hfe, hv2, hv3, n0, n1, n3, hkd, tkq, Flt.row, fltOf, fltZ, List.map_nil, e5, kdOf, w_callF, List.append_nil, q1, q2, q3, q4, q5]
  repeat' (first | with_reducible apply And.intro | with_reducible intro _)
  all_goals first
    | omega
    | kernel_rfl
    | exact hfine
    | exact absurd ⟨hb, ⟨by assumption, by assumption, by assumption, by assumption⟩, by assumption⟩ hok
    | trace_state
end
end Go.Ve

namespace Go.Ve
noncomputable section
open Go.Proofs
set_option linter.unusedSimpArgs false
set_option linter.unusedVariables false
set_option maxRecDepth 100000
def isNew (a : PBook) (nm : ByteArray) (f : Fld) : Prop := ¬ (hasF a nm f.w ∧ ¬ f.later (fOf a nm f.w))
noncomputable instance (a : PBook) (nm : ByteArray) (f : Fld) : Decidable (isNew a nm f) := Classical.propDecidable _
def newsOk (a b : PBook) : Prop := a.ok ∧ b.ok
noncomputable instance (a b : PBook) : Decidable (newsOk a b) := Classical.propDecidable _
end
end Go.Ve

namespace Go.Ve
noncomputable section
open Go.Proofs
set_option linter.unusedSimpArgs false
set_option linter.unusedVariables false
set_option maxRecDepth 100000
open Go.ChangeShapes Go.WideShapes
def Flt.own (x : Flt) (o : Nat) : List AV := [.str x.nm, .str x.kn, .int .i64 x.kq, .int .i64 x.ksl, .int .i64 x.fr, .int .i64 x.by_, .int .i64 x.lv, .own o 0 0 x.rt.length]
set_option maxHeartbeats 2000000 in
theorem c_iPlStandsY (b : PBook) (nm : ByteArray) (hf : b.fine) (hnm : b.names) (hok : standsOk b nm) : Contract P 30 [.agg (b.row 0), .str nm] [] (.tup [.agg ((fltOf b nm).own 131), .bool true]) [(131, .arr 9 0 1 ((fltOf b nm).rt.map srow))] := by
  have hI := c_iStandsY b nm hf hok.1 hok
  have ens : True := trivial
  unfold Flt.own
  simp only [PBook.row] at hI ⊢
  refine fn_sound ((Env.nil P).add 21 t_iBookOk h_iBookOk) hm kO_impl_PlanStands (Nat.le_of_ble_eq_true rfl) rfl ?_; unfold sO_impl_PlanStands; simp (config := { maxSteps := 2000000 }) only [bitvec_to_nat, reduceIte, Nat.reduceEqDiff, Nat.reduceAdd, Nat.reduceLeDiff, reduceCtorEq, Nat.reduceBEq, Nat.reduceLT, Nat.reduceMod, List.forall_mem_cons, retG_ret, retQ_eq, retQ_eqN, retOk, keepB, re_tupl, orr_t, t_iBookOk, tk_map, dp_map, toNat_pred, appE, rowsOf, List.take_length, List.length_cons, List.length_nil, Nat.zero_add, srow, irow, un_s, un_i, Zone.row, Zone_eta, un_Zone, Word.row, Word_eta, Own.row, Own_eta, Part.row, Part_eta, Seen.row, Seen_eta, Book.row, Book_eta, Sector.row, Sector_eta, HCraft.row, HCraft_eta, World.row, World_eta, PKind.row, PKind_eta, PPt.row, PPt_eta, Cell.row, Cell_eta, PBase.row, PBase_eta, Chg.row, Chg_eta, Fld.row, Fld_eta, Ent.row, Ent_eta, PBook.row, PBook_eta, Flt.row, Flt_eta, un_Word, un_Own, un_Part, un_Seen, un_Book, un_Sector, un_HCraft, un_World, un_PKind, un_PPt, un_Cell, un_PBase, un_Chg, un_Fld, un_Ent, un_PBook, un_Flt, Nat.sub_zero, List.nil_append, Int.toNat_one, un_PKind, un_PPt, PBook.row, PBook_eta, Fld.row, Fld_eta, Ent.row, Ent_eta, un_Ent, un_Fld, Flt.row, fltZ, List.map_nil, List.append_nil, ens]
  refine ⟨⟨hf, hnm⟩, fun _ => ⟨_, _, .inr (.inr (.inl ⟨_, rfl, hI, by simp [getM], by simp [refsIn, refsInL, dom], rfl, by simp [No99, No99L], by simp [No99O, no99_str]⟩)), ?_⟩, fun h => absurd hok.1 h⟩
  simp (config := { maxSteps := 2000000 }) only [bitvec_to_nat, reduceIte, Nat.reduceEqDiff, Nat.reduceAdd, Nat.reduceLeDiff, reduceCtorEq, Nat.reduceBEq, Nat.reduceLT, Nat.reduceMod, List.forall_mem_cons, retG_ret, retQ_eq, retQ_eqN, retOk, keepB, re_tupl, orr_t, t_iBookOk, tk_map, dp_map, toNat_pred, appE, rowsOf, List.take_length, List.length_cons, List.length_nil, Nat.zero_add, srow, irow, un_s, un_i, Zone.row, Zone_eta, un_Zone, Word.row, Word_eta, Own.row, Own_eta, Part.row, Part_eta, Seen.row, Seen_eta, Book.row, Book_eta, Sector.row, Sector_eta, HCraft.row, HCraft_eta, World.row, World_eta, PKind.row, PKind_eta, PPt.row, PPt_eta, Cell.row, Cell_eta, PBase.row, PBase_eta, Chg.row, Chg_eta, Fld.row, Fld_eta, Ent.row, Ent_eta, PBook.row, PBook_eta, Flt.row, Flt_eta, un_Word, un_Own, un_Part, un_Seen, un_Book, un_Sector, un_HCraft, un_World, un_PKind, un_PPt, un_Cell, un_PBase, un_Chg, un_Fld, un_Ent, un_PBook, un_Flt, Nat.sub_zero, List.nil_append, Int.toNat_one, un_PKind, un_PPt, PBook.row, PBook_eta, Fld.row, Fld_eta, Ent.row, Ent_eta, un_Ent, un_Fld, Flt.row, fltZ, List.map_nil, List.append_nil, ens]
  first | trivial | trace_state
set_option maxHeartbeats 2000000 in
theorem c_iPlStandsN (b : PBook) (nm : ByteArray) (hf : b.fine) (hnm : b.names) (hok : ¬ standsOk b nm) : Contract P 30 [.agg (b.row 0), .str nm] [] (.tup [.agg (fltZ.row 98), .bool false]) [] := by
  have ens : True := trivial
  have hI := fun hb => c_iStandsN b nm hf hb hok
  simp only [PBook.row, Flt.row, fltZ, List.map_nil] at hI ⊢
  refine fn_sound ((Env.nil P).add 21 t_iBookOk h_iBookOk) hm kO_impl_PlanStands (Nat.le_of_ble_eq_true rfl) rfl ?_; unfold sO_impl_PlanStands; simp (config := { maxSteps := 2000000 }) only [bitvec_to_nat, reduceIte, Nat.reduceEqDiff, Nat.reduceAdd, Nat.reduceLeDiff, reduceCtorEq, Nat.reduceBEq, Nat.reduceLT, Nat.reduceMod, List.forall_mem_cons, retG_ret, retQ_eq, retQ_eqN, retOk, keepB, re_tupl, orr_t, t_iBookOk, tk_map, dp_map, toNat_pred, appE, rowsOf, List.take_length, List.length_cons, List.length_nil, Nat.zero_add, srow, irow, un_s, un_i, Zone.row, Zone_eta, un_Zone, Word.row, Word_eta, Own.row, Own_eta, Part.row, Part_eta, Seen.row, Seen_eta, Book.row, Book_eta, Sector.row, Sector_eta, HCraft.row, HCraft_eta, World.row, World_eta, PKind.row, PKind_eta, PPt.row, PPt_eta, Cell.row, Cell_eta, PBase.row, PBase_eta, Chg.row, Chg_eta, Fld.row, Fld_eta, Ent.row, Ent_eta, PBook.row, PBook_eta, Flt.row, Flt_eta, un_Word, un_Own, un_Part, un_Seen, un_Book, un_Sector, un_HCraft, un_World, un_PKind, un_PPt, un_Cell, un_PBase, un_Chg, un_Fld, un_Ent, un_PBook, un_Flt, Nat.sub_zero, List.nil_append, Int.toNat_one, un_PKind, un_PPt, PBook.row, PBook_eta, Fld.row, Fld_eta, Ent.row, Ent_eta, un_Ent, un_Fld, Flt.row, fltZ, List.map_nil, List.append_nil, ens]
  refine ⟨⟨hf, hnm⟩, fun h => ⟨_, _, .inr (.inl ⟨rfl, _, rfl, hI h, rfl, by simp [No99, No99L, No99LL]⟩), ?_⟩⟩
  simp (config := { maxSteps := 2000000 }) only [bitvec_to_nat, reduceIte, Nat.reduceEqDiff, Nat.reduceAdd, Nat.reduceLeDiff, reduceCtorEq, Nat.reduceBEq, Nat.reduceLT, Nat.reduceMod, List.forall_mem_cons, retG_ret, retQ_eq, retQ_eqN, retOk, keepB, re_tupl, orr_t, t_iBookOk, tk_map, dp_map, toNat_pred, appE, rowsOf, List.take_length, List.length_cons, List.length_nil, Nat.zero_add, srow, irow, un_s, un_i, Zone.row, Zone_eta, un_Zone, Word.row, Word_eta, Own.row, Own_eta, Part.row, Part_eta, Seen.row, Seen_eta, Book.row, Book_eta, Sector.row, Sector_eta, HCraft.row, HCraft_eta, World.row, World_eta, PKind.row, PKind_eta, PPt.row, PPt_eta, Cell.row, Cell_eta, PBase.row, PBase_eta, Chg.row, Chg_eta, Fld.row, Fld_eta, Ent.row, Ent_eta, PBook.row, PBook_eta, Flt.row, Flt_eta, un_Word, un_Own, un_Part, un_Seen, un_Book, un_Sector, un_HCraft, un_World, un_PKind, un_PPt, un_Cell, un_PBase, un_Chg, un_Fld, un_Ent, un_PBook, un_Flt, Nat.sub_zero, List.nil_append, Int.toNat_one, un_PKind, un_PPt, PBook.row, PBook_eta, Fld.row, Fld_eta, Ent.row, Ent_eta, un_Ent, un_Fld, Flt.row, fltZ, List.map_nil, List.append_nil, ens]
set_option maxHeartbeats 2000000 in
theorem c_sPlStands (b : PBook) (nm : ByteArray) (hf : b.fine) : Contract P 29 [.agg (b.row 0), .str nm] [] (.tup [.agg ((stR b nm).row 0), .bool (decide (standsOk b nm))]) [] := by
  have ens : True := trivial
  have hI := fun hb h0 => c_l16Stands b nm hf hb h0
  have hno : ¬ b.ok → ¬ standsOk b nm := fun h h2 => h h2.1
  have hne : eIdx b.es nm < 0 → ¬ standsOk b nm := fun h h2 => by have := h2.2.1.1.1; omega
  have hl := hf.2.1
  simp only [PBook.row] at hI ⊢
  refine fn_sound (((Env.nil P).add 67 t_l13At h_l13At).add 19 t_sBookOk h_sBookOk) hm k_spec_PlanStands (Nat.le_of_ble_eq_true rfl) rfl ?_; unfold s_spec_PlanStands; simp (config := { maxSteps := 2000000 }) only [bitvec_to_nat, reduceIte, Nat.reduceEqDiff, Nat.reduceAdd, Nat.reduceLeDiff, reduceCtorEq, Nat.reduceBEq, Nat.reduceLT, Nat.reduceMod, List.forall_mem_cons, t_l13At, t_sBookOk, tk_map, dp_map, toNat_pred, appE, rowsOf, List.take_length, List.length_cons, List.length_nil, Nat.zero_add, srow, irow, un_s, un_i, Zone.row, Zone_eta, un_Zone, Word.row, Word_eta, Own.row, Own_eta, Part.row, Part_eta, Seen.row, Seen_eta, Book.row, Book_eta, Sector.row, Sector_eta, HCraft.row, HCraft_eta, World.row, World_eta, PKind.row, PKind_eta, PPt.row, PPt_eta, Cell.row, Cell_eta, PBase.row, PBase_eta, Chg.row, Chg_eta, Fld.row, Fld_eta, Ent.row, Ent_eta, PBook.row, PBook_eta, Flt.row, Flt_eta, un_Word, un_Own, un_Part, un_Seen, un_Book, un_Sector, un_HCraft, un_World, un_PKind, un_PPt, un_Cell, un_PBase, un_Chg, un_Fld, un_Ent, un_PBook, un_Flt, Nat.sub_zero, List.nil_append, Int.toNat_one, un_PKind, un_PPt, PBook.row, PBook_eta, Fld.row, Fld_eta, Ent.row, Ent_eta, un_Ent, un_Fld, Flt.row, fltZ, List.map_nil, List.append_nil, ens]
  repeat' (first | with_reducible apply And.intro | with_reducible intro _)
  all_goals first
    | omega
    | exact hf
    | (have hx := hno (by assumption); simp [stR_no hx, hx, Flt.row, fltZ]; done)
    | (have hx := hne (by assumption); simp [stR_no hx, hx, Flt.row, fltZ]; done)
    | (obtain ⟨e1, e2, e3⟩ := eIdx_at (show 0 ≤ eIdx b.es nm by omega); omega)
    | skip
  have h0 : 0 ≤ eIdx b.es nm := by omega
  have hb : b.ok := by assumption
  have hI := hI hb h0
  obtain ⟨e1, e2, e3⟩ := eIdx_at h0
  rw [e2]
  refine ⟨_, _, .inr (.inl ⟨rfl, _, rfl, hI, rfl, by simp [No99, No99L, Flt.row, no99_str]⟩), ?_⟩
  simp (config := { maxSteps := 2000000 }) only [bitvec_to_nat, reduceIte, Nat.reduceEqDiff, Nat.reduceAdd, Nat.reduceLeDiff, reduceCtorEq, Nat.reduceBEq, Nat.reduceLT, Nat.reduceMod, List.forall_mem_cons, t_l13At, t_sBookOk, tk_map, dp_map, toNat_pred, appE, rowsOf, List.take_length, List.length_cons, List.length_nil, Nat.zero_add, srow, irow, un_s, un_i, Zone.row, Zone_eta, un_Zone, Word.row, Word_eta, Own.row, Own_eta, Part.row, Part_eta, Seen.row, Seen_eta, Book.row, Book_eta, Sector.row, Sector_eta, HCraft.row, HCraft_eta, World.row, World_eta, PKind.row, PKind_eta, PPt.row, PPt_eta, Cell.row, Cell_eta, PBase.row, PBase_eta, Chg.row, Chg_eta, Fld.row, Fld_eta, Ent.row, Ent_eta, PBook.row, PBook_eta, Flt.row, Flt_eta, un_Word, un_Own, un_Part, un_Seen, un_Book, un_Sector, un_HCraft, un_World, un_PKind, un_PPt, un_Cell, un_PBase, un_Chg, un_Fld, un_Ent, un_PBook, un_Flt, Nat.sub_zero, List.nil_append, Int.toNat_one, un_PKind, un_PPt, PBook.row, PBook_eta, Fld.row, Fld_eta, Ent.row, Ent_eta, un_Ent, un_Fld, Flt.row, fltZ, List.map_nil, List.append_nil, ens]
  first | trivial | trace_state
def t_sPlStands : List AV → Option (Prop × AV)
  | [.agg [.sl 0 3 b_ks, .sl 0 3 b_ps, .sl 0 2 b_es], .str nm] => some ((((b_ks.map unPKind).map PKind.row = b_ks) ∧ ((b_ps.map unPPt).map PPt.row = b_ps) ∧ ((b_es.map unEnt).map (Ent.row 0) = b_es)) ∧ (PBook.fine (PBook.mk (b_ks.map unPKind) (b_ps.map unPPt) (b_es.map unEnt))), .tup [.agg (Flt.row 0 (stR (PBook.mk (b_ks.map unPKind) (b_ps.map unPPt) (b_es.map unEnt)) nm)), .bool (decide (standsOk (PBook.mk (b_ks.map unPKind) (b_ps.map unPPt) (b_es.map unEnt)) nm))])
  | _ => none
theorem h_sPlStands : ∀ args p v, t_sPlStands args = some (p, v) → p → Contract P 29 args [] v [] ∧ noref v = true ∧ No99 v := by
  intro args p v h1 h2
  unfold t_sPlStands at h1
  split at h1
  · rename_i b_ks b_ps b_es nm
    cases h1
    obtain ⟨⟨e0, e1, e2⟩, HP⟩ := h2
    have := c_sPlStands (PBook.mk (b_ks.map unPKind) (b_ps.map unPPt) (b_es.map unEnt)) nm HP
    exact ⟨by simpa only [e0, e1, e2, PBook.row] using this, rfl, by simp [No99, No99L, Flt.row, no99_str]⟩
  · cases h1
theorem c_eqFlt (t t' : Nat) (c d : Flt) (hl : c.rt.length ≤ 4611686018427387904) : Contract P 31 [.agg (c.row t), .agg (d.row t')] [] (.bool (decide (c = d))) [] := by
  obtain ⟨a1, a2, a3, a4, a5, a6, a7, a8⟩ := c
  obtain ⟨b1, b2, b3, b4, b5, b6, b7, b8⟩ := d
  simp only [Flt.row]
  refine fn_sound (((Env.nil P).add 70 t_eqPKind h_eqPKind).add 71 t_eqStringS h_eqStringS) hm k_laws_eqPlanFlight (Nat.le_of_ble_eq_true rfl) rfl ?_; unfold s_laws_eqPlanFlight; simp (config := { maxSteps := 2000000 }) only [bitvec_to_nat, reduceIte, Nat.reduceEqDiff, Nat.reduceAdd, Nat.reduceLeDiff, reduceCtorEq, Nat.reduceBEq, Nat.reduceLT, Nat.reduceMod, List.forall_mem_cons, t_eqPKind, t_eqStringS, tk_map, dp_map, toNat_pred, appE, rowsOf, List.take_length, List.length_cons, List.length_nil, Nat.zero_add, srow, irow, un_s, un_i, Zone.row, Zone_eta, un_Zone, Word.row, Word_eta, Own.row, Own_eta, Part.row, Part_eta, Seen.row, Seen_eta, Book.row, Book_eta, Sector.row, Sector_eta, HCraft.row, HCraft_eta, World.row, World_eta, PKind.row, PKind_eta, PPt.row, PPt_eta, Cell.row, Cell_eta, PBase.row, PBase_eta, Chg.row, Chg_eta, Fld.row, Fld_eta, Ent.row, Ent_eta, PBook.row, PBook_eta, Flt.row, Flt_eta, un_Word, un_Own, un_Part, un_Seen, un_Book, un_Sector, un_HCraft, un_World, un_PKind, un_PPt, un_Cell, un_PBase, un_Chg, un_Fld, un_Ent, un_PBook, un_Flt, Flt.row]
  simp only [Flt.mk.injEq]
  repeat' (first | with_reducible apply And.intro | with_reducible intro _)
  all_goals first | omega | (simp_all; done) | grind | trace_state
theorem flt_un (a b : ByteArray) (c d e f g : Int) (t : Nat) (rx : List (List AV)) (h : (rx.map unS).map srow = rx) : Flt.row t ⟨a, b, c, d, e, f, g, rx.map unS⟩ = [.str a, .str b, .int .i64 c, .int .i64 d, .int .i64 e, .int .i64 f, .int .i64 g, .sl t 1 rx] := by simp only [Flt.row, h]
def t_eqFlt : List AV → Option (Prop × AV)
  | [.agg [.str p1, .str p2, .int .i64 p3, .int .i64 p4, .int .i64 p5, .int .i64 p6, .int .i64 p7, .sl t 1 px], .agg [.str q1, .str q2, .int .i64 q3, .int .i64 q4, .int .i64 q5, .int .i64 q6, .int .i64 q7, .sl u 1 qx]] => some (((px.map unS).map srow = px ∧ (qx.map unS).map srow = qx) ∧ (px.map unS).length ≤ 4611686018427387904, .bool (decide ((⟨p1, p2, p3, p4, p5, p6, p7, px.map unS⟩ : Flt) = ⟨q1, q2, q3, q4, q5, q6, q7, qx.map unS⟩)))
  | _ => none
theorem h_eqFlt : ∀ args p v, t_eqFlt args = some (p, v) → p → Contract P 31 args [] v [] ∧ noref v = true ∧ No99 v := by
  intro args p v h1 h2
  unfold t_eqFlt at h1
  split at h1
  · rename_i p1 p2 p3 p4 p5 p6 p7 t px q1 q2 q3 q4 q5 q6 q7 u qx
    cases h1
    obtain ⟨⟨e1, e2⟩, h3⟩ := h2
    have := c_eqFlt t u ⟨p1, p2, p3, p4, p5, p6, p7, px.map unS⟩ ⟨q1, q2, q3, q4, q5, q6, q7, qx.map unS⟩ h3
    rw [flt_un _ _ _ _ _ _ _ _ _ e1, flt_un _ _ _ _ _ _ _ _ _ e2] at this
    exact ⟨this, rfl, trivial⟩
  · cases h1
set_option maxHeartbeats 1000000 in
theorem c_heldByteArrayS (t : Nat) (k : Int) (n : Nat) (ha : n ≤ 1048577) (hk : 0 ≤ k ∧ k ≤ 1125899906842624) : Contract P 73 [.sl t 1 ((ms_ByteArray k n).map srow), .int .i64 k] [] (.int .i64 (k + n)) [] := by
  have hz : ((0 : Nat) : Int) = 0 := rfl
  refine fn_sound ((Env.nil P).add 66 t_markText h_markText) hm k_laws_heldStringS (Nat.le_of_ble_eq_true rfl) rfl ?_; unfold s_laws_heldStringS; simp (config := { maxSteps := 2000000 }) only [bitvec_to_nat, reduceIte, Nat.reduceEqDiff, Nat.reduceAdd, Nat.reduceLeDiff, reduceCtorEq, Nat.reduceBEq, Nat.reduceLT, Nat.reduceMod, List.forall_mem_cons, t_markText, irow, srow, Int.toNat_natCast, List.length_map, Nat.sub_zero, Nat.zero_add, hz, eq_self, ms_ByteArray_len]
  refine loop_st (fun i : Nat => [(1, .int .i64 (k + i)), (5, .int .i64 i)]) (fun _ => []) (fun i => i ≤ n) (fun i => n - i) 0 ?_ (Nat.zero_le _) ?_
  · have e0 : k + ((0 : Nat) : Int) = k := by omega
    simp only [e0]
    simp only [u_E0, u_E1, u_M0, u_M1, w_setE0, w_setE1, w_setM0, w_setM1, reduceIte, Nat.reduceEqDiff]; exact ⟨by repeat' (first | exact trivial | refine ⟨.inr rfl, ?_⟩), by repeat' (first | exact trivial | refine ⟨rfl, ?_⟩), by first | rfl | simp [closedB, refsIn, refsInL, refsInO, dom, refsInL_nr, *], by first | rfl | simp [keepB, dom]⟩
  intro i hi NX hN
  have e5 : k + ((i + 1 : Nat) : Int) = k + (i : Int) + 1 := by omega
  by_cases h : i < n
  · have hg := ms_ByteArray_get (k := k) h
    have h' : (i : Int) < n := by omega
    unfold l_laws_heldStringS_0; simp (config := { maxSteps := 2000000 }) only [bitvec_to_nat, reduceIte, Nat.reduceEqDiff, Nat.reduceAdd, Nat.reduceLeDiff, reduceCtorEq, Nat.reduceBEq, Nat.reduceLT, Nat.reduceMod, List.forall_mem_cons, t_markText, irow, srow, Int.toNat_natCast, List.length_map, Nat.sub_zero, Nat.zero_add, hz, eq_self, ms_ByteArray_len, h', hg, mk_ByteArray, not_true_eq_false, ne_eq, bne_self_eq_false]
    repeat' (first | with_reducible apply And.intro | with_reducible intro _)
    all_goals first
      | omega
      | rfl
      | (rename_i h; exact absurd rfl h)
      | (refine hN (i + 1) _ (by simp only [e5]; simp only [u_E0, u_E1, u_M0, u_M1, w_setE0, w_setE1, w_setM0, w_setM1, reduceIte, Nat.reduceEqDiff]; exact ⟨by repeat' (first | exact trivial | refine ⟨.inr rfl, ?_⟩), by repeat' (first | exact trivial | refine ⟨rfl, ?_⟩), by first | rfl | simp [closedB, refsIn, refsInL, refsInO, dom, refsInL_nr, *], by first | rfl | simp [keepB, dom]⟩) ?_ ?_ <;> omega)
  · have h' : ¬ (i : Int) < n := by omega
    unfold l_laws_heldStringS_0; simp (config := { maxSteps := 2000000 }) only [bitvec_to_nat, reduceIte, Nat.reduceEqDiff, Nat.reduceAdd, Nat.reduceLeDiff, reduceCtorEq, Nat.reduceBEq, Nat.reduceLT, Nat.reduceMod, List.forall_mem_cons, t_markText, irow, srow, Int.toNat_natCast, List.length_map, Nat.sub_zero, Nat.zero_add, hz, eq_self, ms_ByteArray_len, h']
    omega
theorem c_markNByteArrayS (t : Nat) (k : Int) : Contract P 72 [.sl t 1 [], .int .i64 k] [] (.int .i64 k) [] := by
  refine fn_sound ((Env.nil P).add 66 t_markText h_markText) hm k_laws_markStringS (Nat.le_of_ble_eq_true rfl) rfl ?_; unfold s_laws_markStringS; simp (config := { maxSteps := 2000000 }) only [bitvec_to_nat, reduceIte, Nat.reduceEqDiff, Nat.reduceAdd, Nat.reduceLeDiff, reduceCtorEq, Nat.reduceBEq, Nat.reduceLT, Nat.reduceMod, List.forall_mem_cons, t_markText, List.map_nil, List.length_nil]
  refine loop_st (fun _ : Nat => [(5, .int .i64 0)]) (fun _ => []) (fun _ => True) (fun i => i) 0 (by simp only [u_E0, u_E1, u_M0, u_M1, w_setE0, w_setE1, w_setM0, w_setM1, reduceIte, Nat.reduceEqDiff]; exact ⟨by repeat' (first | exact trivial | refine ⟨.inr rfl, ?_⟩), by repeat' (first | exact trivial | refine ⟨rfl, ?_⟩), by first | rfl | simp [closedB, refsIn, refsInL, refsInO, dom, refsInL_nr, *], by first | rfl | simp [keepB, dom]⟩) trivial ?_
  intro i _ NX hN
  unfold l_laws_markStringS_0; simp (config := { maxSteps := 2000000 }) only [bitvec_to_nat, reduceIte, Nat.reduceEqDiff, Nat.reduceAdd, Nat.reduceLeDiff, reduceCtorEq, Nat.reduceBEq, Nat.reduceLT, Nat.reduceMod, List.forall_mem_cons, t_markText, List.map_nil, List.length_nil]
  first
    | exact fun h => absurd h (by omega)
    | exact ⟨fun h => absurd h (by omega), fun _ => by first | trivial | rfl⟩
def t_heldByteArrayS : List AV → Option (Prop × AV)
  | [.sl _ 1 zx, .int .i64 k] => some (zx = (ms_ByteArray k zx.length).map srow ∧ zx.length ≤ 1048577 ∧ (0 ≤ k ∧ k ≤ 1125899906842624), .int .i64 (k + (zx.length : Nat)))
  | _ => none
theorem h_heldByteArrayS : ∀ args p v, t_heldByteArrayS args = some (p, v) → p → Contract P 73 args [] v [] ∧ noref v = true ∧ No99 v := by
  intro args p v h1 h2
  unfold t_heldByteArrayS at h1
  split at h1
  · rename_i t zx k
    cases h1
    obtain ⟨e1, h3, h4⟩ := h2
    have := c_heldByteArrayS t k zx.length h3 h4
    rw [← e1] at this
    exact ⟨this, rfl, trivial⟩
  · cases h1
theorem c_markFlt (x : Flt) (k : Int) (hl : x.rt.length ≤ 1048577) (hk : 0 ≤ k ∧ k ≤ 1125899906842624) : Contract P 32 [.agg (x.own 3), .int .i64 k] [(3, .arr 9 0 1 (x.rt.map srow))] (.int .i64 (k + x.rt.length)) [(3, .arr 9 0 1 ((ms_ByteArray k x.rt.length).map srow))] := by
  have m1 := c_markByteArrayS 0 k x.rt hl hk
  simp only [Flt.own]
  refine fn_sound (Env.nil P) hm k_laws_markPlanFlight (Nat.le_of_ble_eq_true rfl) rfl ?_; unfold s_laws_markPlanFlight; simp (config := { maxSteps := 2000000 }) only [bitvec_to_nat, reduceIte, Nat.reduceEqDiff, Nat.reduceAdd, Nat.reduceLeDiff, reduceCtorEq, Nat.reduceBEq, Nat.reduceLT, Nat.reduceMod, List.forall_mem_cons, retG_ret, retQ_eq, retQ_eqN, retOk, keepB, re_tupl, orr_t, tk_map, dp_map, toNat_pred, appE, rowsOf, List.take_length, List.length_cons, List.length_nil, Nat.zero_add, srow, irow, un_s, un_i, Zone.row, Zone_eta, un_Zone, Word.row, Word_eta, Own.row, Own_eta, Part.row, Part_eta, Seen.row, Seen_eta, Book.row, Book_eta, Sector.row, Sector_eta, HCraft.row, HCraft_eta, World.row, World_eta, PKind.row, PKind_eta, PPt.row, PPt_eta, Cell.row, Cell_eta, PBase.row, PBase_eta, Chg.row, Chg_eta, Fld.row, Fld_eta, Ent.row, Ent_eta, PBook.row, PBook_eta, Flt.row, Flt_eta, un_Word, un_Own, un_Part, un_Seen, un_Book, un_Sector, un_HCraft, un_World, un_PKind, un_PPt, un_Cell, un_PBase, un_Chg, un_Fld, un_Ent, un_PBook, un_Flt, Flt.own, Flt.row, List.length_map, ms_ByteArray_len]
  refine ⟨_, _, .inl ⟨_, m1, by simp [getM], by simp [dom], rfl, rfl, rfl, rfl, rfl⟩, ?_⟩
  simp (config := { maxSteps := 2000000 }) only [bitvec_to_nat, reduceIte, Nat.reduceEqDiff, Nat.reduceAdd, Nat.reduceLeDiff, reduceCtorEq, Nat.reduceBEq, Nat.reduceLT, Nat.reduceMod, List.forall_mem_cons, retG_ret, retQ_eq, retQ_eqN, retOk, keepB, re_tupl, orr_t, tk_map, dp_map, toNat_pred, appE, rowsOf, List.take_length, List.length_cons, List.length_nil, Nat.zero_add, srow, irow, un_s, un_i, Zone.row, Zone_eta, un_Zone, Word.row, Word_eta, Own.row, Own_eta, Part.row, Part_eta, Seen.row, Seen_eta, Book.row, Book_eta, Sector.row, Sector_eta, HCraft.row, HCraft_eta, World.row, World_eta, PKind.row, PKind_eta, PPt.row, PPt_eta, Cell.row, Cell_eta, PBase.row, PBase_eta, Chg.row, Chg_eta, Fld.row, Fld_eta, Ent.row, Ent_eta, PBook.row, PBook_eta, Flt.row, Flt_eta, un_Word, un_Own, un_Part, un_Seen, un_Book, un_Sector, un_HCraft, un_World, un_PKind, un_PPt, un_Cell, un_PBase, un_Chg, un_Fld, un_Ent, un_PBook, un_Flt, Flt.own, Flt.row, List.length_map, ms_ByteArray_len]
  first | trivial | done | trace_state
theorem c_markNFlt (k : Int) : Contract P 32 [.agg (fltZ.row 98), .int .i64 k] [] (.int .i64 k) [] := by
  simp only [fltZ, Flt.row, List.map_nil]
  refine fn_sound (Env.nil P) hm k_laws_markPlanFlight (Nat.le_of_ble_eq_true rfl) rfl ?_; unfold s_laws_markPlanFlight; simp (config := { maxSteps := 2000000 }) only [bitvec_to_nat, reduceIte, Nat.reduceEqDiff, Nat.reduceAdd, Nat.reduceLeDiff, reduceCtorEq, Nat.reduceBEq, Nat.reduceLT, Nat.reduceMod, List.forall_mem_cons, tk_map, dp_map, toNat_pred, appE, rowsOf, List.take_length, List.length_cons, List.length_nil, Nat.zero_add, srow, irow, un_s, un_i, Zone.row, Zone_eta, un_Zone, Word.row, Word_eta, Own.row, Own_eta, Part.row, Part_eta, Seen.row, Seen_eta, Book.row, Book_eta, Sector.row, Sector_eta, HCraft.row, HCraft_eta, World.row, World_eta, PKind.row, PKind_eta, PPt.row, PPt_eta, Cell.row, Cell_eta, PBase.row, PBase_eta, Chg.row, Chg_eta, Fld.row, Fld_eta, Ent.row, Ent_eta, PBook.row, PBook_eta, Flt.row, Flt_eta, un_Word, un_Own, un_Part, un_Seen, un_Book, un_Sector, un_HCraft, un_World, un_PKind, un_PPt, un_Cell, un_PBase, un_Chg, un_Fld, un_Ent, un_PBook, un_Flt, Flt.own, Flt.row, List.length_map, ms_ByteArray_len]
  refine ⟨_, _, .inr (.inl ⟨rfl, _, rfl, c_markNByteArrayS 98 k, rfl, trivial⟩), ?_⟩
  simp (config := { maxSteps := 2000000 }) only [bitvec_to_nat, reduceIte, Nat.reduceEqDiff, Nat.reduceAdd, Nat.reduceLeDiff, reduceCtorEq, Nat.reduceBEq, Nat.reduceLT, Nat.reduceMod, List.forall_mem_cons, tk_map, dp_map, toNat_pred, appE, rowsOf, List.take_length, List.length_cons, List.length_nil, Nat.zero_add, srow, irow, un_s, un_i, Zone.row, Zone_eta, un_Zone, Word.row, Word_eta, Own.row, Own_eta, Part.row, Part_eta, Seen.row, Seen_eta, Book.row, Book_eta, Sector.row, Sector_eta, HCraft.row, HCraft_eta, World.row, World_eta, PKind.row, PKind_eta, PPt.row, PPt_eta, Cell.row, Cell_eta, PBase.row, PBase_eta, Chg.row, Chg_eta, Fld.row, Fld_eta, Ent.row, Ent_eta, PBook.row, PBook_eta, Flt.row, Flt_eta, un_Word, un_Own, un_Part, un_Seen, un_Book, un_Sector, un_HCraft, un_World, un_PKind, un_PPt, un_Cell, un_PBase, un_Chg, un_Fld, un_Ent, un_PBook, un_Flt, Flt.own, Flt.row, List.length_map, ms_ByteArray_len]
  first | trivial | done | trace_state
theorem c_heldFlt (a b : ByteArray) (c d e f g : Int) (t : Nat) (rx : List (List AV)) (k : Int) (h1 : rx = (ms_ByteArray k rx.length).map srow) (h2 : rx.length ≤ 1048577) (hk : 0 ≤ k ∧ k ≤ 1125899906842624) : Contract P 33 [.agg [.str a, .str b, .int .i64 c, .int .i64 d, .int .i64 e, .int .i64 f, .int .i64 g, .sl t 1 rx], .int .i64 k] [] (.int .i64 (k + (rx.length : Nat))) [] := by
  refine fn_sound ((Env.nil P).add 73 t_heldByteArrayS h_heldByteArrayS) hm k_laws_heldPlanFlight (Nat.le_of_ble_eq_true rfl) rfl ?_; unfold s_laws_heldPlanFlight; simp (config := { maxSteps := 2000000 }) only [bitvec_to_nat, reduceIte, Nat.reduceEqDiff, Nat.reduceAdd, Nat.reduceLeDiff, reduceCtorEq, Nat.reduceBEq, Nat.reduceLT, Nat.reduceMod, List.forall_mem_cons, t_heldByteArrayS, tk_map, dp_map, toNat_pred, appE, rowsOf, List.take_length, List.length_cons, List.length_nil, Nat.zero_add, srow, irow, un_s, un_i, Zone.row, Zone_eta, un_Zone, Word.row, Word_eta, Own.row, Own_eta, Part.row, Part_eta, Seen.row, Seen_eta, Book.row, Book_eta, Sector.row, Sector_eta, HCraft.row, HCraft_eta, World.row, World_eta, PKind.row, PKind_eta, PPt.row, PPt_eta, Cell.row, Cell_eta, PBase.row, PBase_eta, Chg.row, Chg_eta, Fld.row, Fld_eta, Ent.row, Ent_eta, PBook.row, PBook_eta, Flt.row, Flt_eta, un_Word, un_Own, un_Part, un_Seen, un_Book, un_Sector, un_HCraft, un_World, un_PKind, un_PPt, un_Cell, un_PBase, un_Chg, un_Fld, un_Ent, un_PBook, un_Flt, Flt.own, Flt.row, List.length_map, ms_ByteArray_len]
  repeat' (first | with_reducible apply And.intro | with_reducible intro _)
  all_goals first | omega | exact h1 | (exfalso; omega) | trace_state
def t_heldFlt : List AV → Option (Prop × AV)
  | [.agg [.str p1, .str p2, .int .i64 p3, .int .i64 p4, .int .i64 p5, .int .i64 p6, .int .i64 p7, .sl t 1 px], .int .i64 k] => some (px = (ms_ByteArray k px.length).map srow ∧ px.length ≤ 1048577 ∧ (0 ≤ k ∧ k ≤ 1125899906842624), .int .i64 (k + (px.length : Nat)))
  | _ => none
theorem h_heldFlt : ∀ args p v, t_heldFlt args = some (p, v) → p → Contract P 33 args [] v [] ∧ noref v = true ∧ No99 v := by
  intro args p v h1 h2
  unfold t_heldFlt at h1
  split at h1
  · rename_i p1 p2 p3 p4 p5 p6 p7 t px k
    cases h1
    obtain ⟨e1, h3, h4⟩ := h2
    exact ⟨c_heldFlt _ _ _ _ _ _ _ t px k e1 h3 h4, rfl, trivial⟩
  · cases h1
end
end Go.Ve

namespace Go.Ve
noncomputable section
open Go.Proofs
set_option linter.unusedSimpArgs false
set_option linter.unusedVariables false
set_option maxRecDepth 100000
open Go.ChangeShapes Go.WideShapes
theorem cntB_le {b : PBook} (hs : b.small) : cntB b ≤ 20000000000000 := by
  unfold PBook.small at hs
  have hct := ct_Ent_le hs.2.2.2 (Nat.le_refl _)
  unfold cntB
  omega
theorem eqBookC (s : PBook) (hs : s.small) : Contract P 22 [.agg (s.row 0), .agg (s.row 0)] [] (.bool true) [] := by
  have h := c_eqPBook s s (by have := hs; unfold PBook.small at this; exact ⟨by omega, by omega, by omega, fun x hx => by have := this.2.2.2 x hx; unfold Ent.small at this; omega⟩)
  simpa using h
end
end Go.Ve

namespace Go.Ve
noncomputable section
open Go.Proofs
set_option linter.unusedSimpArgs false
set_option linter.unusedVariables false
set_option maxRecDepth 100000
open Go.ChangeShapes Go.WideShapes
theorem tag_str (s : ByteArray) : tag0 (.str s) = .str s := rfl
theorem no98_str (s : ByteArray) : no98 (.str s) = true := rfl
set_option maxHeartbeats 8000000 in
theorem c_lawSY (b : PBook) (nm : ByteArray) (hfa : b.fitp) (hv : standsOk b nm) : Contract P 7 [.agg (b.row 1), .str nm] [] (.bool true) [] := by
  have hst : stR b nm = fltOf b nm := stR_ok hv
  have hso : standsOk b nm = True := eq_true hv
  have tkZ : List.take (fltOf b nm).rt.length ((fltOf b nm).rt.map srow) = (fltOf b nm).rt.map srow := List.take_of_length_le (by simp)
  have tkM : ∀ k : Int, List.take (fltOf b nm).rt.length ((ms_ByteArray k (fltOf b nm).rt.length).map srow) = (ms_ByteArray k (fltOf b nm).rt.length).map srow := fun k => List.take_of_length_le (by rw [List.length_map, ms_ByteArray_len]; omega)
  have z2 : PBook.sz b 1048576 ≤ 1048576 := by have := (meas_PBook b 1048576 (by omega)).2.2; omega
  have hn1 : True := trivial
  have fltN : True := trivial
  simp only [PBook.row]
  refine fn_sound (((((Env.nil P).add 18 t_szPBook h_szPBook).add 29 t_sPlStands h_sPlStands).add 31 t_eqFlt h_eqFlt).add 33 t_heldFlt h_heldFlt) hm k_laws_FnExactPlanStands (Nat.le_of_ble_eq_true rfl) rfl ?_; unfold s_laws_FnExactPlanStands; simp (config := { maxSteps := 2000000, maxDischargeDepth := 8 }) only [bitvec_to_nat, reduceIte, Nat.reduceEqDiff, Nat.reduceAdd, Nat.reduceLeDiff, reduceCtorEq, Nat.reduceBEq, Nat.reduceLT, Nat.reduceMod, List.forall_mem_cons, t_szPBook, t_sPlStands, t_eqFlt, t_heldFlt, tk_map, dp_map, toNat_pred, appE, rowsOf, List.take_length, List.length_cons, List.length_nil, Nat.zero_add, srow, irow, un_s, un_i, Zone.row, Zone_eta, un_Zone, Word.row, Word_eta, Own.row, Own_eta, Part.row, Part_eta, Seen.row, Seen_eta, Book.row, Book_eta, Sector.row, Sector_eta, HCraft.row, HCraft_eta, World.row, World_eta, PKind.row, PKind_eta, PPt.row, PPt_eta, Cell.row, Cell_eta, PBase.row, PBase_eta, Chg.row, Chg_eta, Fld.row, Fld_eta, Ent.row, Ent_eta, PBook.row, PBook_eta, Flt.row, Flt_eta, un_Word, un_Own, un_Part, un_Seen, un_Book, un_Sector, un_HCraft, un_World, un_PKind, un_PPt, un_Cell, un_PBase, un_Chg, un_Fld, un_Ent, un_PBook, un_Flt, Chg.row, Chg_eta, PBook.row, PBook_eta, bkV, List.length_map, Int.toNat_natCast, Nat.sub_zero, and_self, eq_self, not_true_eq_false, ne_eq, bne_self_eq_false, ms_ByteArray_len, fltN, tkZ, tkM, hst, hso, hn1, Flt.row, Flt_eta, Flt.own,  List.nil_append, offs_getA, offs_get, offs_setA, offs_set, ap_cons, ap_skip, ap_skip0, ap_over, ap_over0, ap_self, ap_self0, ap_new, ap_appU, KA_lo, KA_hi, KB_lo, KB_hi, KAB, KBA, offs_gone, offs_rev, dis_goneL, dis_goneR, dis_revR, KA_uniq, KB_uniq, KA_k, KA_k0, KB_k, KB_k0, KA_k', KA_k0', KB_k', KB_k0', List.cons_append, List.nil_append, List.append_assoc]
  refine fun g0 => ⟨⟨by omega, hfa⟩, fun g1 => ?_⟩
  have hsA : b.small := PBook.sz_ok (a := 1048576) (by omega) (by omega)
  have fiA : b.fine := PBook.sz_fine (a := 1048576) (by omega) (by omega)
  have nmA : b.names := ⟨hfa.1.2, hfa.2.1.2⟩
  have hTA := c_toPBook b hsA
  have n9A : No99 (.agg (b.row 0)) := by simp [PBook.row, No99, No99L, no99_PKind, no99_PPt, no99_Ent]
  have hcA : cntB b ≤ 20000000000000 := cntB_le hsA
  have eqA := eqBookC b hsA
  have mkA := markBookA 1 b hsA (by omega)
  have hrt : (fltOf b nm).rt.length ≤ 1048577 := by have := cuts_le (s := valF b nm 4) (c := 32); have := val_small (nm := nm) (w := 4) fiA; show (cuts (valF b nm 4) 32).length ≤ _; omega
  have hI1 := (c_iPlStandsY b nm fiA nmA hv).ren (swp 131 731) (swp_swp _ _)
  have hI2 := (c_iPlStandsY b nm fiA nmA hv).ren (swp 131 741) (swp_swp _ _)
  have hZ := (c_markFlt (fltOf b nm) 1 hrt (by omega)).ren (swp 3 731) (swp_swp _ _)
  rw [show renL (swp 131 731) [AV.agg (b.row 0), .str nm] = [.agg (b.row 0), .str nm] from rfl] at hI1
  rw [show renL (swp 131 741) [AV.agg (b.row 0), .str nm] = [.agg (b.row 0), .str nm] from rfl] at hI2
  simp only [Flt.own, renL, ren, renM, renO, swp, reduceIte, Nat.reduceEqDiff, Nat.reduceLT] at hI1 hI2 hZ
  generalize hfx : fltOf b nm = x at *
  simp only [PBook.row] at hTA n9A
  refine ⟨_, _, .inr (.inl ⟨rfl, _, rfl, hTA, rfl, n9A⟩), ?_⟩
  simp (config := { maxSteps := 2000000, maxDischargeDepth := 8 }) only [bitvec_to_nat, reduceIte, Nat.reduceEqDiff, Nat.reduceAdd, Nat.reduceLeDiff, reduceCtorEq, Nat.reduceBEq, Nat.reduceLT, Nat.reduceMod, List.forall_mem_cons, t_szPBook, t_sPlStands, t_eqFlt, t_heldFlt, tk_map, dp_map, toNat_pred, appE, rowsOf, List.take_length, List.length_cons, List.length_nil, Nat.zero_add, srow, irow, un_s, un_i, Zone.row, Zone_eta, un_Zone, Word.row, Word_eta, Own.row, Own_eta, Part.row, Part_eta, Seen.row, Seen_eta, Book.row, Book_eta, Sector.row, Sector_eta, HCraft.row, HCraft_eta, World.row, World_eta, PKind.row, PKind_eta, PPt.row, PPt_eta, Cell.row, Cell_eta, PBase.row, PBase_eta, Chg.row, Chg_eta, Fld.row, Fld_eta, Ent.row, Ent_eta, PBook.row, PBook_eta, Flt.row, Flt_eta, un_Word, un_Own, un_Part, un_Seen, un_Book, un_Sector, un_HCraft, un_World, un_PKind, un_PPt, un_Cell, un_PBase, un_Chg, un_Fld, un_Ent, un_PBook, un_Flt, Chg.row, Chg_eta, PBook.row, PBook_eta, bkV, List.length_map, Int.toNat_natCast, Nat.sub_zero, and_self, eq_self, not_true_eq_false, ne_eq, bne_self_eq_false, ms_ByteArray_len, fltN, tkZ, tkM, hst, hso, hn1, Flt.row, Flt_eta, Flt.own,  List.nil_append, offs_getA, offs_get, offs_setA, offs_set, ap_cons, ap_skip, ap_skip0, ap_over, ap_over0, ap_self, ap_self0, ap_new, ap_appU, KA_lo, KA_hi, KB_lo, KB_hi, KAB, KBA, offs_gone, offs_rev, dis_goneL, dis_goneR, dis_revR, KA_uniq, KB_uniq, KA_k, KA_k0, KB_k, KB_k0, KA_k', KA_k0', KB_k', KB_k0', List.cons_append, List.nil_append, List.append_assoc]
  refine ⟨fiA, _, _, .inr (.inr (.inl ⟨_, rfl, toBookA b hsA, (newK_rev (by repeat' (first | exact newK_nil | exact newK_app0 (by first | exact KAB | exact KBA | exact dis_goneL KAB | exact dis_goneL KBA) | refine newK_app (by first | exact KAB | exact KBA | exact dis_goneL KAB | exact dis_goneL KBA) ?_ | refine newK_cons (by first | exact KA_lo (by omega) | exact KA_hi (by omega) (by omega) | exact KB_lo (by omega) | exact KB_hi (by omega) (by omega)) ?_))), bkr_refV, bkr_refs, by simp [bkV, No99, No99L], KA_99⟩)), ?_⟩
  simp (config := { maxSteps := 2000000, maxDischargeDepth := 8 }) only [bitvec_to_nat, reduceIte, Nat.reduceEqDiff, Nat.reduceAdd, Nat.reduceLeDiff, reduceCtorEq, Nat.reduceBEq, Nat.reduceLT, Nat.reduceMod, List.forall_mem_cons, t_szPBook, t_sPlStands, t_eqFlt, t_heldFlt, tk_map, dp_map, toNat_pred, appE, rowsOf, List.take_length, List.length_cons, List.length_nil, Nat.zero_add, srow, irow, un_s, un_i, Zone.row, Zone_eta, un_Zone, Word.row, Word_eta, Own.row, Own_eta, Part.row, Part_eta, Seen.row, Seen_eta, Book.row, Book_eta, Sector.row, Sector_eta, HCraft.row, HCraft_eta, World.row, World_eta, PKind.row, PKind_eta, PPt.row, PPt_eta, Cell.row, Cell_eta, PBase.row, PBase_eta, Chg.row, Chg_eta, Fld.row, Fld_eta, Ent.row, Ent_eta, PBook.row, PBook_eta, Flt.row, Flt_eta, un_Word, un_Own, un_Part, un_Seen, un_Book, un_Sector, un_HCraft, un_World, un_PKind, un_PPt, un_Cell, un_PBase, un_Chg, un_Fld, un_Ent, un_PBook, un_Flt, Chg.row, Chg_eta, PBook.row, PBook_eta, bkV, List.length_map, Int.toNat_natCast, Nat.sub_zero, and_self, eq_self, not_true_eq_false, ne_eq, bne_self_eq_false, ms_ByteArray_len, fltN, tkZ, tkM, hst, hso, hn1, Flt.row, Flt_eta, Flt.own,  List.nil_append, offs_getA, offs_get, offs_setA, offs_set, ap_cons, ap_skip, ap_skip0, ap_over, ap_over0, ap_self, ap_self0, ap_new, ap_appU, KA_lo, KA_hi, KB_lo, KB_hi, KAB, KBA, offs_gone, offs_rev, dis_goneL, dis_goneR, dis_revR, KA_uniq, KB_uniq, KA_k, KA_k0, KB_k, KB_k0, KA_k', KA_k0', KB_k', KB_k0', List.cons_append, List.nil_append, List.append_assoc]
  refine ⟨_, _, callR_look (news := [(731, .arr 9 0 1 (x.rt.map srow))]) (keep := KA b) (args' := [.agg (b.row 99), .str nm]) (by simp only [tag0L, tag_bk, tag_str]; exact hI1) (by repeat' (first | exact getK_self (KA_uniq _) | exact getK_self (KB_uniq _) | exact uniq_self (KA_uniq _) | exact uniq_self (KB_uniq _) | refine getK_app (by first | exact KAB | exact KBA | exact dis_goneL KAB | exact dis_goneL KBA) ?_ | refine getK_cons (by first | exact KA_lo (by omega) | exact KA_hi (by omega) (by omega) | exact KB_lo (by omega) | exact KB_hi (by omega) (by omega)) ?_)) (purNL_cons (purN_bk (by repeat' (first | exact getK_self (KA_uniq _) | exact getK_self (KB_uniq _) | exact uniq_self (KA_uniq _) | exact uniq_self (KB_uniq _) | refine getK_app (by first | exact KAB | exact KBA | exact dis_goneL KAB | exact dis_goneL KBA) ?_ | refine getK_cons (by first | exact KA_lo (by omega) | exact KA_hi (by omega) (by omega) | exact KB_lo (by omega) | exact KB_hi (by omega) (by omega)) ?_)) (uniq_self (KA_uniq b))) (purNL_cons rfl rfl)) (by simp only [no98L, no98_str, no98_bk 99 (by omega), Bool.and_self]) rfl (by simp [plainO, srow, plainL, plainV]) (new_one (by simp (config := { maxDischargeDepth := 8 }) only [getM, offs_getA, offs_get, offs_setA, offs_set, ap_cons, ap_skip, ap_skip0, ap_over, ap_over0, ap_self, ap_self0, ap_new, ap_appU, KA_lo, KA_hi, KB_lo, KB_hi, KAB, KBA, offs_gone, offs_rev, dis_goneL, dis_goneR, dis_revR, KA_uniq, KB_uniq, KA_k, KA_k0, KB_k, KB_k0, KA_k', KA_k0', KB_k', KB_k0', List.cons_append, List.nil_append, List.append_assoc, Nat.reduceEqDiff, Nat.reduceLT, reduceIte])) (by simp [refsIn, refsInL, dom]) (by simp [refsInO]) (by simp [No99, No99L]) (by simp only [List.forall_mem_cons, fm0, and_true]; exact no99_str _), ?_⟩
  simp (config := { maxSteps := 2000000, maxDischargeDepth := 8 }) only [bitvec_to_nat, reduceIte, Nat.reduceEqDiff, Nat.reduceAdd, Nat.reduceLeDiff, reduceCtorEq, Nat.reduceBEq, Nat.reduceLT, Nat.reduceMod, List.forall_mem_cons, t_szPBook, t_sPlStands, t_eqFlt, t_heldFlt, tk_map, dp_map, toNat_pred, appE, rowsOf, List.take_length, List.length_cons, List.length_nil, Nat.zero_add, srow, irow, un_s, un_i, Zone.row, Zone_eta, un_Zone, Word.row, Word_eta, Own.row, Own_eta, Part.row, Part_eta, Seen.row, Seen_eta, Book.row, Book_eta, Sector.row, Sector_eta, HCraft.row, HCraft_eta, World.row, World_eta, PKind.row, PKind_eta, PPt.row, PPt_eta, Cell.row, Cell_eta, PBase.row, PBase_eta, Chg.row, Chg_eta, Fld.row, Fld_eta, Ent.row, Ent_eta, PBook.row, PBook_eta, Flt.row, Flt_eta, un_Word, un_Own, un_Part, un_Seen, un_Book, un_Sector, un_HCraft, un_World, un_PKind, un_PPt, un_Cell, un_PBase, un_Chg, un_Fld, un_Ent, un_PBook, un_Flt, Chg.row, Chg_eta, PBook.row, PBook_eta, bkV, List.length_map, Int.toNat_natCast, Nat.sub_zero, and_self, eq_self, not_true_eq_false, ne_eq, bne_self_eq_false, ms_ByteArray_len, fltN, tkZ, tkM, hst, hso, hn1, Flt.row, Flt_eta, Flt.own,  List.nil_append, offs_getA, offs_get, offs_setA, offs_set, ap_cons, ap_skip, ap_skip0, ap_over, ap_over0, ap_self, ap_self0, ap_new, ap_appU, KA_lo, KA_hi, KB_lo, KB_hi, KAB, KBA, offs_gone, offs_rev, dis_goneL, dis_goneR, dis_revR, KA_uniq, KB_uniq, KA_k, KA_k0, KB_k, KB_k0, KA_k', KA_k0', KB_k', KB_k0', List.cons_append, List.nil_append, List.append_assoc]
  refine ⟨by omega, _, _, .inr (.inl ⟨rfl, _, rfl, hTA, rfl, n9A⟩), ?_⟩
  simp (config := { maxSteps := 2000000, maxDischargeDepth := 8 }) only [bitvec_to_nat, reduceIte, Nat.reduceEqDiff, Nat.reduceAdd, Nat.reduceLeDiff, reduceCtorEq, Nat.reduceBEq, Nat.reduceLT, Nat.reduceMod, List.forall_mem_cons, t_szPBook, t_sPlStands, t_eqFlt, t_heldFlt, tk_map, dp_map, toNat_pred, appE, rowsOf, List.take_length, List.length_cons, List.length_nil, Nat.zero_add, srow, irow, un_s, un_i, Zone.row, Zone_eta, un_Zone, Word.row, Word_eta, Own.row, Own_eta, Part.row, Part_eta, Seen.row, Seen_eta, Book.row, Book_eta, Sector.row, Sector_eta, HCraft.row, HCraft_eta, World.row, World_eta, PKind.row, PKind_eta, PPt.row, PPt_eta, Cell.row, Cell_eta, PBase.row, PBase_eta, Chg.row, Chg_eta, Fld.row, Fld_eta, Ent.row, Ent_eta, PBook.row, PBook_eta, Flt.row, Flt_eta, un_Word, un_Own, un_Part, un_Seen, un_Book, un_Sector, un_HCraft, un_World, un_PKind, un_PPt, un_Cell, un_PBase, un_Chg, un_Fld, un_Ent, un_PBook, un_Flt, Chg.row, Chg_eta, PBook.row, PBook_eta, bkV, List.length_map, Int.toNat_natCast, Nat.sub_zero, and_self, eq_self, not_true_eq_false, ne_eq, bne_self_eq_false, ms_ByteArray_len, fltN, tkZ, tkM, hst, hso, hn1, Flt.row, Flt_eta, Flt.own,  List.nil_append, offs_getA, offs_get, offs_setA, offs_set, ap_cons, ap_skip, ap_skip0, ap_over, ap_over0, ap_self, ap_self0, ap_new, ap_appU, KA_lo, KA_hi, KB_lo, KB_hi, KAB, KBA, offs_gone, offs_rev, dis_goneL, dis_goneR, dis_revR, KA_uniq, KB_uniq, KA_k, KA_k0, KB_k, KB_k0, KA_k', KA_k0', KB_k', KB_k0', List.cons_append, List.nil_append, List.append_assoc]
  refine ⟨_, _, callR_look (r := .bool true) (news := []) (keep := KA b) (args' := [.agg (b.row 99), .agg (b.row 0)]) (by simp only [tag0L, tag_bk]; exact eqA) (by repeat' (first | exact getK_self (KA_uniq _) | exact getK_self (KB_uniq _) | exact uniq_self (KA_uniq _) | exact uniq_self (KB_uniq _) | refine getK_app (by first | exact KAB | exact KBA | exact dis_goneL KAB | exact dis_goneL KBA) ?_ | refine getK_cons (by first | exact KA_lo (by omega) | exact KA_hi (by omega) (by omega) | exact KB_lo (by omega) | exact KB_hi (by omega) (by omega)) ?_)) (purNL_cons (purN_bk (by repeat' (first | exact getK_self (KA_uniq _) | exact getK_self (KB_uniq _) | exact uniq_self (KA_uniq _) | exact uniq_self (KB_uniq _) | refine getK_app (by first | exact KAB | exact KBA | exact dis_goneL KAB | exact dis_goneL KBA) ?_ | refine getK_cons (by first | exact KA_lo (by omega) | exact KA_hi (by omega) (by omega) | exact KB_lo (by omega) | exact KB_hi (by omega) (by omega)) ?_)) (uniq_self (KA_uniq b))) rfl) (by simp only [no98L, no98_bk 99 (by omega), no98_bk 0 (by omega), Bool.and_self]) rfl rfl (by simp) rfl rfl trivial (by simp), ?_⟩
  simp (config := { maxSteps := 2000000, maxDischargeDepth := 8 }) only [bitvec_to_nat, reduceIte, Nat.reduceEqDiff, Nat.reduceAdd, Nat.reduceLeDiff, reduceCtorEq, Nat.reduceBEq, Nat.reduceLT, Nat.reduceMod, List.forall_mem_cons, t_szPBook, t_sPlStands, t_eqFlt, t_heldFlt, tk_map, dp_map, toNat_pred, appE, rowsOf, List.take_length, List.length_cons, List.length_nil, Nat.zero_add, srow, irow, un_s, un_i, Zone.row, Zone_eta, un_Zone, Word.row, Word_eta, Own.row, Own_eta, Part.row, Part_eta, Seen.row, Seen_eta, Book.row, Book_eta, Sector.row, Sector_eta, HCraft.row, HCraft_eta, World.row, World_eta, PKind.row, PKind_eta, PPt.row, PPt_eta, Cell.row, Cell_eta, PBase.row, PBase_eta, Chg.row, Chg_eta, Fld.row, Fld_eta, Ent.row, Ent_eta, PBook.row, PBook_eta, Flt.row, Flt_eta, un_Word, un_Own, un_Part, un_Seen, un_Book, un_Sector, un_HCraft, un_World, un_PKind, un_PPt, un_Cell, un_PBase, un_Chg, un_Fld, un_Ent, un_PBook, un_Flt, Chg.row, Chg_eta, PBook.row, PBook_eta, bkV, List.length_map, Int.toNat_natCast, Nat.sub_zero, and_self, eq_self, not_true_eq_false, ne_eq, bne_self_eq_false, ms_ByteArray_len, fltN, tkZ, tkM, hst, hso, hn1, Flt.row, Flt_eta, Flt.own,  List.nil_append, offs_getA, offs_get, offs_setA, offs_set, ap_cons, ap_skip, ap_skip0, ap_over, ap_over0, ap_self, ap_self0, ap_new, ap_appU, KA_lo, KA_hi, KB_lo, KB_hi, KAB, KBA, offs_gone, offs_rev, dis_goneL, dis_goneR, dis_revR, KA_uniq, KB_uniq, KA_k, KA_k0, KB_k, KB_k0, KA_k', KA_k0', KB_k', KB_k0', List.cons_append, List.nil_append, List.append_assoc]
  refine ⟨_, _, callR_gone mkA (by repeat' (first | exact getK_self (KA_uniq _) | exact getK_self (KB_uniq _) | exact uniq_self (KA_uniq _) | exact uniq_self (KB_uniq _) | refine getK_app (by first | exact KAB | exact KBA | exact dis_goneL KAB | exact dis_goneL KBA) ?_ | refine getK_cons (by first | exact KA_lo (by omega) | exact KA_hi (by omega) (by omega) | exact KB_lo (by omega) | exact KB_hi (by omega) (by omega)) ?_)) KA_ref bk_refs rfl, ?_⟩
  simp (config := { maxSteps := 2000000, maxDischargeDepth := 8 }) only [bitvec_to_nat, reduceIte, Nat.reduceEqDiff, Nat.reduceAdd, Nat.reduceLeDiff, reduceCtorEq, Nat.reduceBEq, Nat.reduceLT, Nat.reduceMod, List.forall_mem_cons, t_szPBook, t_sPlStands, t_eqFlt, t_heldFlt, tk_map, dp_map, toNat_pred, appE, rowsOf, List.take_length, List.length_cons, List.length_nil, Nat.zero_add, srow, irow, un_s, un_i, Zone.row, Zone_eta, un_Zone, Word.row, Word_eta, Own.row, Own_eta, Part.row, Part_eta, Seen.row, Seen_eta, Book.row, Book_eta, Sector.row, Sector_eta, HCraft.row, HCraft_eta, World.row, World_eta, PKind.row, PKind_eta, PPt.row, PPt_eta, Cell.row, Cell_eta, PBase.row, PBase_eta, Chg.row, Chg_eta, Fld.row, Fld_eta, Ent.row, Ent_eta, PBook.row, PBook_eta, Flt.row, Flt_eta, un_Word, un_Own, un_Part, un_Seen, un_Book, un_Sector, un_HCraft, un_World, un_PKind, un_PPt, un_Cell, un_PBase, un_Chg, un_Fld, un_Ent, un_PBook, un_Flt, Chg.row, Chg_eta, PBook.row, PBook_eta, bkV, List.length_map, Int.toNat_natCast, Nat.sub_zero, and_self, eq_self, not_true_eq_false, ne_eq, bne_self_eq_false, ms_ByteArray_len, fltN, tkZ, tkM, hst, hso, hn1, Flt.row, Flt_eta, Flt.own,  List.nil_append, offs_getA, offs_get, offs_setA, offs_set, ap_cons, ap_skip, ap_skip0, ap_over, ap_over0, ap_self, ap_self0, ap_new, ap_appU, KA_lo, KA_hi, KB_lo, KB_hi, KAB, KBA, offs_gone, offs_rev, dis_goneL, dis_goneR, dis_revR, KA_uniq, KB_uniq, KA_k, KA_k0, KB_k, KB_k0, KA_k', KA_k0', KB_k', KB_k0', List.cons_append, List.nil_append, List.append_assoc]
  refine ⟨fun h => by omega, fun _ => ⟨by omega, _, _, .inl ⟨_, hZ, by simp (config := { maxDischargeDepth := 8 }) only [List.forall_mem_cons, fm0, and_true, getM, offs_getA, offs_get, offs_setA, offs_set, ap_cons, ap_skip, ap_skip0, ap_over, ap_over0, ap_self, ap_self0, ap_new, ap_appU, KA_lo, KA_hi, KB_lo, KB_hi, KAB, KBA, offs_gone, offs_rev, dis_goneL, dis_goneR, dis_revR, KA_uniq, KB_uniq, KA_k, KA_k0, KB_k, KB_k0, KA_k', KA_k0', KB_k', KB_k0', List.cons_append, List.nil_append, List.append_assoc, Nat.reduceEqDiff, Nat.reduceLT, reduceIte], by simp [getM, dom], rfl, rfl, rfl, rfl, rfl⟩, ?_⟩⟩
  simp (config := { maxSteps := 2000000, maxDischargeDepth := 8 }) only [bitvec_to_nat, reduceIte, Nat.reduceEqDiff, Nat.reduceAdd, Nat.reduceLeDiff, reduceCtorEq, Nat.reduceBEq, Nat.reduceLT, Nat.reduceMod, List.forall_mem_cons, t_szPBook, t_sPlStands, t_eqFlt, t_heldFlt, tk_map, dp_map, toNat_pred, appE, rowsOf, List.take_length, List.length_cons, List.length_nil, Nat.zero_add, srow, irow, un_s, un_i, Zone.row, Zone_eta, un_Zone, Word.row, Word_eta, Own.row, Own_eta, Part.row, Part_eta, Seen.row, Seen_eta, Book.row, Book_eta, Sector.row, Sector_eta, HCraft.row, HCraft_eta, World.row, World_eta, PKind.row, PKind_eta, PPt.row, PPt_eta, Cell.row, Cell_eta, PBase.row, PBase_eta, Chg.row, Chg_eta, Fld.row, Fld_eta, Ent.row, Ent_eta, PBook.row, PBook_eta, Flt.row, Flt_eta, un_Word, un_Own, un_Part, un_Seen, un_Book, un_Sector, un_HCraft, un_World, un_PKind, un_PPt, un_Cell, un_PBase, un_Chg, un_Fld, un_Ent, un_PBook, un_Flt, Chg.row, Chg_eta, PBook.row, PBook_eta, bkV, List.length_map, Int.toNat_natCast, Nat.sub_zero, and_self, eq_self, not_true_eq_false, ne_eq, bne_self_eq_false, ms_ByteArray_len, fltN, tkZ, tkM, hst, hso, hn1, Flt.row, Flt_eta, Flt.own,  List.nil_append, offs_getA, offs_get, offs_setA, offs_set, ap_cons, ap_skip, ap_skip0, ap_over, ap_over0, ap_self, ap_self0, ap_new, ap_appU, KA_lo, KA_hi, KB_lo, KB_hi, KAB, KBA, offs_gone, offs_rev, dis_goneL, dis_goneR, dis_revR, KA_uniq, KB_uniq, KA_k, KA_k0, KB_k, KB_k0, KA_k', KA_k0', KB_k', KB_k0', List.cons_append, List.nil_append, List.append_assoc]
  refine ⟨⟨by omega, by omega, by omega⟩, fun h => by omega, fun _ => ⟨_, _, .inr (.inl ⟨rfl, _, rfl, hTA, rfl, n9A⟩), ?_⟩⟩
  simp (config := { maxSteps := 2000000, maxDischargeDepth := 8 }) only [bitvec_to_nat, reduceIte, Nat.reduceEqDiff, Nat.reduceAdd, Nat.reduceLeDiff, reduceCtorEq, Nat.reduceBEq, Nat.reduceLT, Nat.reduceMod, List.forall_mem_cons, t_szPBook, t_sPlStands, t_eqFlt, t_heldFlt, tk_map, dp_map, toNat_pred, appE, rowsOf, List.take_length, List.length_cons, List.length_nil, Nat.zero_add, srow, irow, un_s, un_i, Zone.row, Zone_eta, un_Zone, Word.row, Word_eta, Own.row, Own_eta, Part.row, Part_eta, Seen.row, Seen_eta, Book.row, Book_eta, Sector.row, Sector_eta, HCraft.row, HCraft_eta, World.row, World_eta, PKind.row, PKind_eta, PPt.row, PPt_eta, Cell.row, Cell_eta, PBase.row, PBase_eta, Chg.row, Chg_eta, Fld.row, Fld_eta, Ent.row, Ent_eta, PBook.row, PBook_eta, Flt.row, Flt_eta, un_Word, un_Own, un_Part, un_Seen, un_Book, un_Sector, un_HCraft, un_World, un_PKind, un_PPt, un_Cell, un_PBase, un_Chg, un_Fld, un_Ent, un_PBook, un_Flt, Chg.row, Chg_eta, PBook.row, PBook_eta, bkV, List.length_map, Int.toNat_natCast, Nat.sub_zero, and_self, eq_self, not_true_eq_false, ne_eq, bne_self_eq_false, ms_ByteArray_len, fltN, tkZ, tkM, hst, hso, hn1, Flt.row, Flt_eta, Flt.own,  List.nil_append, offs_getA, offs_get, offs_setA, offs_set, ap_cons, ap_skip, ap_skip0, ap_over, ap_over0, ap_self, ap_self0, ap_new, ap_appU, KA_lo, KA_hi, KB_lo, KB_hi, KAB, KBA, offs_gone, offs_rev, dis_goneL, dis_goneR, dis_revR, KA_uniq, KB_uniq, KA_k, KA_k0, KB_k, KB_k0, KA_k', KA_k0', KB_k', KB_k0', List.cons_append, List.nil_append, List.append_assoc]
  refine ⟨_, _, .inr (.inr (.inl ⟨_, rfl, hI2, new_one (by simp (config := { maxDischargeDepth := 8 }) only [getM, offs_getA, offs_get, offs_setA, offs_set, ap_cons, ap_skip, ap_skip0, ap_over, ap_over0, ap_self, ap_self0, ap_new, ap_appU, KA_lo, KA_hi, KB_lo, KB_hi, KAB, KBA, offs_gone, offs_rev, dis_goneL, dis_goneR, dis_revR, KA_uniq, KB_uniq, KA_k, KA_k0, KB_k, KB_k0, KA_k', KA_k0', KB_k', KB_k0', List.cons_append, List.nil_append, List.append_assoc, Nat.reduceEqDiff, Nat.reduceLT, reduceIte]), by simp [refsIn, refsInL, dom], rfl, by simp [No99, No99L], by simp only [List.forall_mem_cons, fm0, and_true]; exact no99_str _⟩)), ?_⟩
  simp (config := { maxSteps := 2000000, maxDischargeDepth := 8 }) only [bitvec_to_nat, reduceIte, Nat.reduceEqDiff, Nat.reduceAdd, Nat.reduceLeDiff, reduceCtorEq, Nat.reduceBEq, Nat.reduceLT, Nat.reduceMod, List.forall_mem_cons, t_szPBook, t_sPlStands, t_eqFlt, t_heldFlt, tk_map, dp_map, toNat_pred, appE, rowsOf, List.take_length, List.length_cons, List.length_nil, Nat.zero_add, srow, irow, un_s, un_i, Zone.row, Zone_eta, un_Zone, Word.row, Word_eta, Own.row, Own_eta, Part.row, Part_eta, Seen.row, Seen_eta, Book.row, Book_eta, Sector.row, Sector_eta, HCraft.row, HCraft_eta, World.row, World_eta, PKind.row, PKind_eta, PPt.row, PPt_eta, Cell.row, Cell_eta, PBase.row, PBase_eta, Chg.row, Chg_eta, Fld.row, Fld_eta, Ent.row, Ent_eta, PBook.row, PBook_eta, Flt.row, Flt_eta, un_Word, un_Own, un_Part, un_Seen, un_Book, un_Sector, un_HCraft, un_World, un_PKind, un_PPt, un_Cell, un_PBase, un_Chg, un_Fld, un_Ent, un_PBook, un_Flt, Chg.row, Chg_eta, PBook.row, PBook_eta, bkV, List.length_map, Int.toNat_natCast, Nat.sub_zero, and_self, eq_self, not_true_eq_false, ne_eq, bne_self_eq_false, ms_ByteArray_len, fltN, tkZ, tkM, hst, hso, hn1, Flt.row, Flt_eta, Flt.own,  List.nil_append, offs_getA, offs_get, offs_setA, offs_set, ap_cons, ap_skip, ap_skip0, ap_over, ap_over0, ap_self, ap_self0, ap_new, ap_appU, KA_lo, KA_hi, KB_lo, KB_hi, KAB, KBA, offs_gone, offs_rev, dis_goneL, dis_goneR, dis_revR, KA_uniq, KB_uniq, KA_k, KA_k0, KB_k, KB_k0, KA_k', KA_k0', KB_k', KB_k0', List.cons_append, List.nil_append, List.append_assoc]
  exact ⟨by omega, ⟨by omega, by omega, by omega⟩, fun h => by omega⟩

set_option maxHeartbeats 8000000 in
theorem c_lawSN (b : PBook) (nm : ByteArray) (hfa : b.fitp) (hv : ¬ standsOk b nm) : Contract P 7 [.agg (b.row 1), .str nm] [] (.bool true) [] := by
  have hst : stR b nm = ⟨⟨#[]⟩, ⟨#[]⟩, 0, 0, 0, 0, 0, []⟩ := stR_no hv
  have hso : standsOk b nm = False := eq_false hv
  have tkZ : True := trivial
  have tkM : True := trivial
  have z2 : PBook.sz b 1048576 ≤ 1048576 := by have := (meas_PBook b 1048576 (by omega)).2.2; omega
  have hn1 : True := trivial
  have fltN : True := trivial
  simp only [PBook.row]
  refine fn_sound (((((Env.nil P).add 18 t_szPBook h_szPBook).add 29 t_sPlStands h_sPlStands).add 31 t_eqFlt h_eqFlt).add 33 t_heldFlt h_heldFlt) hm k_laws_FnExactPlanStands (Nat.le_of_ble_eq_true rfl) rfl ?_; unfold s_laws_FnExactPlanStands; simp (config := { maxSteps := 2000000, maxDischargeDepth := 8 }) only [bitvec_to_nat, reduceIte, Nat.reduceEqDiff, Nat.reduceAdd, Nat.reduceLeDiff, reduceCtorEq, Nat.reduceBEq, Nat.reduceLT, Nat.reduceMod, List.forall_mem_cons, t_szPBook, t_sPlStands, t_eqFlt, t_heldFlt, tk_map, dp_map, toNat_pred, appE, rowsOf, List.take_length, List.length_cons, List.length_nil, Nat.zero_add, srow, irow, un_s, un_i, Zone.row, Zone_eta, un_Zone, Word.row, Word_eta, Own.row, Own_eta, Part.row, Part_eta, Seen.row, Seen_eta, Book.row, Book_eta, Sector.row, Sector_eta, HCraft.row, HCraft_eta, World.row, World_eta, PKind.row, PKind_eta, PPt.row, PPt_eta, Cell.row, Cell_eta, PBase.row, PBase_eta, Chg.row, Chg_eta, Fld.row, Fld_eta, Ent.row, Ent_eta, PBook.row, PBook_eta, Flt.row, Flt_eta, un_Word, un_Own, un_Part, un_Seen, un_Book, un_Sector, un_HCraft, un_World, un_PKind, un_PPt, un_Cell, un_PBase, un_Chg, un_Fld, un_Ent, un_PBook, un_Flt, Chg.row, Chg_eta, PBook.row, PBook_eta, bkV, List.length_map, Int.toNat_natCast, Nat.sub_zero, and_self, eq_self, not_true_eq_false, ne_eq, bne_self_eq_false, ms_ByteArray_len, fltN, tkZ, tkM, hst, hso, hn1, Flt.row, Flt_eta, Flt.own,  List.nil_append, offs_getA, offs_get, offs_setA, offs_set, ap_cons, ap_skip, ap_skip0, ap_over, ap_over0, ap_self, ap_self0, ap_new, ap_appU, KA_lo, KA_hi, KB_lo, KB_hi, KAB, KBA, offs_gone, offs_rev, dis_goneL, dis_goneR, dis_revR, KA_uniq, KB_uniq, KA_k, KA_k0, KB_k, KB_k0, KA_k', KA_k0', KB_k', KB_k0', List.cons_append, List.nil_append, List.append_assoc]
  refine fun g0 => ⟨⟨by omega, hfa⟩, fun g1 => ?_⟩
  have hsA : b.small := PBook.sz_ok (a := 1048576) (by omega) (by omega)
  have fiA : b.fine := PBook.sz_fine (a := 1048576) (by omega) (by omega)
  have nmA : b.names := ⟨hfa.1.2, hfa.2.1.2⟩
  have hTA := c_toPBook b hsA
  have n9A : No99 (.agg (b.row 0)) := by simp [PBook.row, No99, No99L, no99_PKind, no99_PPt, no99_Ent]
  have hcA : cntB b ≤ 20000000000000 := cntB_le hsA
  have eqA := eqBookC b hsA
  have mkA := markBookA 1 b hsA (by omega)
  have hI1 := c_iPlStandsN b nm fiA nmA hv
  have hZ := c_markNFlt 1
  simp only [Flt.row, fltZ, List.map_nil] at hI1 hZ
  simp only [PBook.row] at hTA n9A
  refine ⟨_, _, .inr (.inl ⟨rfl, _, rfl, hTA, rfl, n9A⟩), ?_⟩
  simp (config := { maxSteps := 2000000, maxDischargeDepth := 8 }) only [bitvec_to_nat, reduceIte, Nat.reduceEqDiff, Nat.reduceAdd, Nat.reduceLeDiff, reduceCtorEq, Nat.reduceBEq, Nat.reduceLT, Nat.reduceMod, List.forall_mem_cons, t_szPBook, t_sPlStands, t_eqFlt, t_heldFlt, tk_map, dp_map, toNat_pred, appE, rowsOf, List.take_length, List.length_cons, List.length_nil, Nat.zero_add, srow, irow, un_s, un_i, Zone.row, Zone_eta, un_Zone, Word.row, Word_eta, Own.row, Own_eta, Part.row, Part_eta, Seen.row, Seen_eta, Book.row, Book_eta, Sector.row, Sector_eta, HCraft.row, HCraft_eta, World.row, World_eta, PKind.row, PKind_eta, PPt.row, PPt_eta, Cell.row, Cell_eta, PBase.row, PBase_eta, Chg.row, Chg_eta, Fld.row, Fld_eta, Ent.row, Ent_eta, PBook.row, PBook_eta, Flt.row, Flt_eta, un_Word, un_Own, un_Part, un_Seen, un_Book, un_Sector, un_HCraft, un_World, un_PKind, un_PPt, un_Cell, un_PBase, un_Chg, un_Fld, un_Ent, un_PBook, un_Flt, Chg.row, Chg_eta, PBook.row, PBook_eta, bkV, List.length_map, Int.toNat_natCast, Nat.sub_zero, and_self, eq_self, not_true_eq_false, ne_eq, bne_self_eq_false, ms_ByteArray_len, fltN, tkZ, tkM, hst, hso, hn1, Flt.row, Flt_eta, Flt.own,  List.nil_append, offs_getA, offs_get, offs_setA, offs_set, ap_cons, ap_skip, ap_skip0, ap_over, ap_over0, ap_self, ap_self0, ap_new, ap_appU, KA_lo, KA_hi, KB_lo, KB_hi, KAB, KBA, offs_gone, offs_rev, dis_goneL, dis_goneR, dis_revR, KA_uniq, KB_uniq, KA_k, KA_k0, KB_k, KB_k0, KA_k', KA_k0', KB_k', KB_k0', List.cons_append, List.nil_append, List.append_assoc]
  refine ⟨fiA, _, _, .inr (.inr (.inl ⟨_, rfl, toBookA b hsA, (newK_rev (by repeat' (first | exact newK_nil | exact newK_app0 (by first | exact KAB | exact KBA | exact dis_goneL KAB | exact dis_goneL KBA) | refine newK_app (by first | exact KAB | exact KBA | exact dis_goneL KAB | exact dis_goneL KBA) ?_ | refine newK_cons (by first | exact KA_lo (by omega) | exact KA_hi (by omega) (by omega) | exact KB_lo (by omega) | exact KB_hi (by omega) (by omega)) ?_))), bkr_refV, bkr_refs, by simp [bkV, No99, No99L], KA_99⟩)), ?_⟩
  simp (config := { maxSteps := 2000000, maxDischargeDepth := 8 }) only [bitvec_to_nat, reduceIte, Nat.reduceEqDiff, Nat.reduceAdd, Nat.reduceLeDiff, reduceCtorEq, Nat.reduceBEq, Nat.reduceLT, Nat.reduceMod, List.forall_mem_cons, t_szPBook, t_sPlStands, t_eqFlt, t_heldFlt, tk_map, dp_map, toNat_pred, appE, rowsOf, List.take_length, List.length_cons, List.length_nil, Nat.zero_add, srow, irow, un_s, un_i, Zone.row, Zone_eta, un_Zone, Word.row, Word_eta, Own.row, Own_eta, Part.row, Part_eta, Seen.row, Seen_eta, Book.row, Book_eta, Sector.row, Sector_eta, HCraft.row, HCraft_eta, World.row, World_eta, PKind.row, PKind_eta, PPt.row, PPt_eta, Cell.row, Cell_eta, PBase.row, PBase_eta, Chg.row, Chg_eta, Fld.row, Fld_eta, Ent.row, Ent_eta, PBook.row, PBook_eta, Flt.row, Flt_eta, un_Word, un_Own, un_Part, un_Seen, un_Book, un_Sector, un_HCraft, un_World, un_PKind, un_PPt, un_Cell, un_PBase, un_Chg, un_Fld, un_Ent, un_PBook, un_Flt, Chg.row, Chg_eta, PBook.row, PBook_eta, bkV, List.length_map, Int.toNat_natCast, Nat.sub_zero, and_self, eq_self, not_true_eq_false, ne_eq, bne_self_eq_false, ms_ByteArray_len, fltN, tkZ, tkM, hst, hso, hn1, Flt.row, Flt_eta, Flt.own,  List.nil_append, offs_getA, offs_get, offs_setA, offs_set, ap_cons, ap_skip, ap_skip0, ap_over, ap_over0, ap_self, ap_self0, ap_new, ap_appU, KA_lo, KA_hi, KB_lo, KB_hi, KAB, KBA, offs_gone, offs_rev, dis_goneL, dis_goneR, dis_revR, KA_uniq, KB_uniq, KA_k, KA_k0, KB_k, KB_k0, KA_k', KA_k0', KB_k', KB_k0', List.cons_append, List.nil_append, List.append_assoc]
  refine ⟨_, _, callR_look (news := []) (keep := KA b) (args' := [.agg (b.row 99), .str nm]) (by simp only [tag0L, tag_bk, tag_str]; exact hI1) (by repeat' (first | exact getK_self (KA_uniq _) | exact getK_self (KB_uniq _) | exact uniq_self (KA_uniq _) | exact uniq_self (KB_uniq _) | refine getK_app (by first | exact KAB | exact KBA | exact dis_goneL KAB | exact dis_goneL KBA) ?_ | refine getK_cons (by first | exact KA_lo (by omega) | exact KA_hi (by omega) (by omega) | exact KB_lo (by omega) | exact KB_hi (by omega) (by omega)) ?_)) (purNL_cons (purN_bk (by repeat' (first | exact getK_self (KA_uniq _) | exact getK_self (KB_uniq _) | exact uniq_self (KA_uniq _) | exact uniq_self (KB_uniq _) | refine getK_app (by first | exact KAB | exact KBA | exact dis_goneL KAB | exact dis_goneL KBA) ?_ | refine getK_cons (by first | exact KA_lo (by omega) | exact KA_hi (by omega) (by omega) | exact KB_lo (by omega) | exact KB_hi (by omega) (by omega)) ?_)) (uniq_self (KA_uniq b))) (purNL_cons rfl rfl)) (by simp only [no98L, no98_str, no98_bk 99 (by omega), Bool.and_self]) rfl rfl (by simp) rfl rfl (by simp [No99, No99L, No99LL]) (by simp), ?_⟩
  simp (config := { maxSteps := 2000000, maxDischargeDepth := 8 }) only [bitvec_to_nat, reduceIte, Nat.reduceEqDiff, Nat.reduceAdd, Nat.reduceLeDiff, reduceCtorEq, Nat.reduceBEq, Nat.reduceLT, Nat.reduceMod, List.forall_mem_cons, t_szPBook, t_sPlStands, t_eqFlt, t_heldFlt, tk_map, dp_map, toNat_pred, appE, rowsOf, List.take_length, List.length_cons, List.length_nil, Nat.zero_add, srow, irow, un_s, un_i, Zone.row, Zone_eta, un_Zone, Word.row, Word_eta, Own.row, Own_eta, Part.row, Part_eta, Seen.row, Seen_eta, Book.row, Book_eta, Sector.row, Sector_eta, HCraft.row, HCraft_eta, World.row, World_eta, PKind.row, PKind_eta, PPt.row, PPt_eta, Cell.row, Cell_eta, PBase.row, PBase_eta, Chg.row, Chg_eta, Fld.row, Fld_eta, Ent.row, Ent_eta, PBook.row, PBook_eta, Flt.row, Flt_eta, un_Word, un_Own, un_Part, un_Seen, un_Book, un_Sector, un_HCraft, un_World, un_PKind, un_PPt, un_Cell, un_PBase, un_Chg, un_Fld, un_Ent, un_PBook, un_Flt, Chg.row, Chg_eta, PBook.row, PBook_eta, bkV, List.length_map, Int.toNat_natCast, Nat.sub_zero, and_self, eq_self, not_true_eq_false, ne_eq, bne_self_eq_false, ms_ByteArray_len, fltN, tkZ, tkM, hst, hso, hn1, Flt.row, Flt_eta, Flt.own,  List.nil_append, offs_getA, offs_get, offs_setA, offs_set, ap_cons, ap_skip, ap_skip0, ap_over, ap_over0, ap_self, ap_self0, ap_new, ap_appU, KA_lo, KA_hi, KB_lo, KB_hi, KAB, KBA, offs_gone, offs_rev, dis_goneL, dis_goneR, dis_revR, KA_uniq, KB_uniq, KA_k, KA_k0, KB_k, KB_k0, KA_k', KA_k0', KB_k', KB_k0', List.cons_append, List.nil_append, List.append_assoc]
  refine ⟨_, _, .inr (.inl ⟨rfl, _, rfl, hTA, rfl, n9A⟩), ?_⟩
  simp (config := { maxSteps := 2000000, maxDischargeDepth := 8 }) only [bitvec_to_nat, reduceIte, Nat.reduceEqDiff, Nat.reduceAdd, Nat.reduceLeDiff, reduceCtorEq, Nat.reduceBEq, Nat.reduceLT, Nat.reduceMod, List.forall_mem_cons, t_szPBook, t_sPlStands, t_eqFlt, t_heldFlt, tk_map, dp_map, toNat_pred, appE, rowsOf, List.take_length, List.length_cons, List.length_nil, Nat.zero_add, srow, irow, un_s, un_i, Zone.row, Zone_eta, un_Zone, Word.row, Word_eta, Own.row, Own_eta, Part.row, Part_eta, Seen.row, Seen_eta, Book.row, Book_eta, Sector.row, Sector_eta, HCraft.row, HCraft_eta, World.row, World_eta, PKind.row, PKind_eta, PPt.row, PPt_eta, Cell.row, Cell_eta, PBase.row, PBase_eta, Chg.row, Chg_eta, Fld.row, Fld_eta, Ent.row, Ent_eta, PBook.row, PBook_eta, Flt.row, Flt_eta, un_Word, un_Own, un_Part, un_Seen, un_Book, un_Sector, un_HCraft, un_World, un_PKind, un_PPt, un_Cell, un_PBase, un_Chg, un_Fld, un_Ent, un_PBook, un_Flt, Chg.row, Chg_eta, PBook.row, PBook_eta, bkV, List.length_map, Int.toNat_natCast, Nat.sub_zero, and_self, eq_self, not_true_eq_false, ne_eq, bne_self_eq_false, ms_ByteArray_len, fltN, tkZ, tkM, hst, hso, hn1, Flt.row, Flt_eta, Flt.own,  List.nil_append, offs_getA, offs_get, offs_setA, offs_set, ap_cons, ap_skip, ap_skip0, ap_over, ap_over0, ap_self, ap_self0, ap_new, ap_appU, KA_lo, KA_hi, KB_lo, KB_hi, KAB, KBA, offs_gone, offs_rev, dis_goneL, dis_goneR, dis_revR, KA_uniq, KB_uniq, KA_k, KA_k0, KB_k, KB_k0, KA_k', KA_k0', KB_k', KB_k0', List.cons_append, List.nil_append, List.append_assoc]
  refine ⟨_, _, callR_look (r := .bool true) (news := []) (keep := KA b) (args' := [.agg (b.row 99), .agg (b.row 0)]) (by simp only [tag0L, tag_bk]; exact eqA) (by repeat' (first | exact getK_self (KA_uniq _) | exact getK_self (KB_uniq _) | exact uniq_self (KA_uniq _) | exact uniq_self (KB_uniq _) | refine getK_app (by first | exact KAB | exact KBA | exact dis_goneL KAB | exact dis_goneL KBA) ?_ | refine getK_cons (by first | exact KA_lo (by omega) | exact KA_hi (by omega) (by omega) | exact KB_lo (by omega) | exact KB_hi (by omega) (by omega)) ?_)) (purNL_cons (purN_bk (by repeat' (first | exact getK_self (KA_uniq _) | exact getK_self (KB_uniq _) | exact uniq_self (KA_uniq _) | exact uniq_self (KB_uniq _) | refine getK_app (by first | exact KAB | exact KBA | exact dis_goneL KAB | exact dis_goneL KBA) ?_ | refine getK_cons (by first | exact KA_lo (by omega) | exact KA_hi (by omega) (by omega) | exact KB_lo (by omega) | exact KB_hi (by omega) (by omega)) ?_)) (uniq_self (KA_uniq b))) rfl) (by simp only [no98L, no98_bk 99 (by omega), no98_bk 0 (by omega), Bool.and_self]) rfl rfl (by simp) rfl rfl trivial (by simp), ?_⟩
  simp (config := { maxSteps := 2000000, maxDischargeDepth := 8 }) only [bitvec_to_nat, reduceIte, Nat.reduceEqDiff, Nat.reduceAdd, Nat.reduceLeDiff, reduceCtorEq, Nat.reduceBEq, Nat.reduceLT, Nat.reduceMod, List.forall_mem_cons, t_szPBook, t_sPlStands, t_eqFlt, t_heldFlt, tk_map, dp_map, toNat_pred, appE, rowsOf, List.take_length, List.length_cons, List.length_nil, Nat.zero_add, srow, irow, un_s, un_i, Zone.row, Zone_eta, un_Zone, Word.row, Word_eta, Own.row, Own_eta, Part.row, Part_eta, Seen.row, Seen_eta, Book.row, Book_eta, Sector.row, Sector_eta, HCraft.row, HCraft_eta, World.row, World_eta, PKind.row, PKind_eta, PPt.row, PPt_eta, Cell.row, Cell_eta, PBase.row, PBase_eta, Chg.row, Chg_eta, Fld.row, Fld_eta, Ent.row, Ent_eta, PBook.row, PBook_eta, Flt.row, Flt_eta, un_Word, un_Own, un_Part, un_Seen, un_Book, un_Sector, un_HCraft, un_World, un_PKind, un_PPt, un_Cell, un_PBase, un_Chg, un_Fld, un_Ent, un_PBook, un_Flt, Chg.row, Chg_eta, PBook.row, PBook_eta, bkV, List.length_map, Int.toNat_natCast, Nat.sub_zero, and_self, eq_self, not_true_eq_false, ne_eq, bne_self_eq_false, ms_ByteArray_len, fltN, tkZ, tkM, hst, hso, hn1, Flt.row, Flt_eta, Flt.own,  List.nil_append, offs_getA, offs_get, offs_setA, offs_set, ap_cons, ap_skip, ap_skip0, ap_over, ap_over0, ap_self, ap_self0, ap_new, ap_appU, KA_lo, KA_hi, KB_lo, KB_hi, KAB, KBA, offs_gone, offs_rev, dis_goneL, dis_goneR, dis_revR, KA_uniq, KB_uniq, KA_k, KA_k0, KB_k, KB_k0, KA_k', KA_k0', KB_k', KB_k0', List.cons_append, List.nil_append, List.append_assoc]
  refine ⟨_, _, callR_gone mkA (by repeat' (first | exact getK_self (KA_uniq _) | exact getK_self (KB_uniq _) | exact uniq_self (KA_uniq _) | exact uniq_self (KB_uniq _) | refine getK_app (by first | exact KAB | exact KBA | exact dis_goneL KAB | exact dis_goneL KBA) ?_ | refine getK_cons (by first | exact KA_lo (by omega) | exact KA_hi (by omega) (by omega) | exact KB_lo (by omega) | exact KB_hi (by omega) (by omega)) ?_)) KA_ref bk_refs rfl, ?_⟩
  simp (config := { maxSteps := 2000000, maxDischargeDepth := 8 }) only [bitvec_to_nat, reduceIte, Nat.reduceEqDiff, Nat.reduceAdd, Nat.reduceLeDiff, reduceCtorEq, Nat.reduceBEq, Nat.reduceLT, Nat.reduceMod, List.forall_mem_cons, t_szPBook, t_sPlStands, t_eqFlt, t_heldFlt, tk_map, dp_map, toNat_pred, appE, rowsOf, List.take_length, List.length_cons, List.length_nil, Nat.zero_add, srow, irow, un_s, un_i, Zone.row, Zone_eta, un_Zone, Word.row, Word_eta, Own.row, Own_eta, Part.row, Part_eta, Seen.row, Seen_eta, Book.row, Book_eta, Sector.row, Sector_eta, HCraft.row, HCraft_eta, World.row, World_eta, PKind.row, PKind_eta, PPt.row, PPt_eta, Cell.row, Cell_eta, PBase.row, PBase_eta, Chg.row, Chg_eta, Fld.row, Fld_eta, Ent.row, Ent_eta, PBook.row, PBook_eta, Flt.row, Flt_eta, un_Word, un_Own, un_Part, un_Seen, un_Book, un_Sector, un_HCraft, un_World, un_PKind, un_PPt, un_Cell, un_PBase, un_Chg, un_Fld, un_Ent, un_PBook, un_Flt, Chg.row, Chg_eta, PBook.row, PBook_eta, bkV, List.length_map, Int.toNat_natCast, Nat.sub_zero, and_self, eq_self, not_true_eq_false, ne_eq, bne_self_eq_false, ms_ByteArray_len, fltN, tkZ, tkM, hst, hso, hn1, Flt.row, Flt_eta, Flt.own,  List.nil_append, offs_getA, offs_get, offs_setA, offs_set, ap_cons, ap_skip, ap_skip0, ap_over, ap_over0, ap_self, ap_self0, ap_new, ap_appU, KA_lo, KA_hi, KB_lo, KB_hi, KAB, KBA, offs_gone, offs_rev, dis_goneL, dis_goneR, dis_revR, KA_uniq, KB_uniq, KA_k, KA_k0, KB_k, KB_k0, KA_k', KA_k0', KB_k', KB_k0', List.cons_append, List.nil_append, List.append_assoc]
  refine ⟨fun h => by omega, fun _ => ⟨_, _, .inr (.inl ⟨rfl, _, rfl, hZ, rfl, trivial⟩), ?_⟩⟩
  simp (config := { maxSteps := 2000000, maxDischargeDepth := 8 }) only [bitvec_to_nat, reduceIte, Nat.reduceEqDiff, Nat.reduceAdd, Nat.reduceLeDiff, reduceCtorEq, Nat.reduceBEq, Nat.reduceLT, Nat.reduceMod, List.forall_mem_cons, t_szPBook, t_sPlStands, t_eqFlt, t_heldFlt, tk_map, dp_map, toNat_pred, appE, rowsOf, List.take_length, List.length_cons, List.length_nil, Nat.zero_add, srow, irow, un_s, un_i, Zone.row, Zone_eta, un_Zone, Word.row, Word_eta, Own.row, Own_eta, Part.row, Part_eta, Seen.row, Seen_eta, Book.row, Book_eta, Sector.row, Sector_eta, HCraft.row, HCraft_eta, World.row, World_eta, PKind.row, PKind_eta, PPt.row, PPt_eta, Cell.row, Cell_eta, PBase.row, PBase_eta, Chg.row, Chg_eta, Fld.row, Fld_eta, Ent.row, Ent_eta, PBook.row, PBook_eta, Flt.row, Flt_eta, un_Word, un_Own, un_Part, un_Seen, un_Book, un_Sector, un_HCraft, un_World, un_PKind, un_PPt, un_Cell, un_PBase, un_Chg, un_Fld, un_Ent, un_PBook, un_Flt, Chg.row, Chg_eta, PBook.row, PBook_eta, bkV, List.length_map, Int.toNat_natCast, Nat.sub_zero, and_self, eq_self, not_true_eq_false, ne_eq, bne_self_eq_false, ms_ByteArray_len, fltN, tkZ, tkM, hst, hso, hn1, Flt.row, Flt_eta, Flt.own,  List.nil_append, offs_getA, offs_get, offs_setA, offs_set, ap_cons, ap_skip, ap_skip0, ap_over, ap_over0, ap_self, ap_self0, ap_new, ap_appU, KA_lo, KA_hi, KB_lo, KB_hi, KAB, KBA, offs_gone, offs_rev, dis_goneL, dis_goneR, dis_revR, KA_uniq, KB_uniq, KA_k, KA_k0, KB_k, KB_k0, KA_k', KA_k0', KB_k', KB_k0', List.cons_append, List.nil_append, List.append_assoc]
  refine ⟨⟨rfl, by omega, by omega⟩, fun h => by omega, fun _ => ⟨fun h => by omega, fun _ => ⟨_, _, .inr (.inl ⟨rfl, _, rfl, hTA, rfl, n9A⟩), ?_⟩⟩⟩
  simp (config := { maxSteps := 2000000, maxDischargeDepth := 8 }) only [bitvec_to_nat, reduceIte, Nat.reduceEqDiff, Nat.reduceAdd, Nat.reduceLeDiff, reduceCtorEq, Nat.reduceBEq, Nat.reduceLT, Nat.reduceMod, List.forall_mem_cons, t_szPBook, t_sPlStands, t_eqFlt, t_heldFlt, tk_map, dp_map, toNat_pred, appE, rowsOf, List.take_length, List.length_cons, List.length_nil, Nat.zero_add, srow, irow, un_s, un_i, Zone.row, Zone_eta, un_Zone, Word.row, Word_eta, Own.row, Own_eta, Part.row, Part_eta, Seen.row, Seen_eta, Book.row, Book_eta, Sector.row, Sector_eta, HCraft.row, HCraft_eta, World.row, World_eta, PKind.row, PKind_eta, PPt.row, PPt_eta, Cell.row, Cell_eta, PBase.row, PBase_eta, Chg.row, Chg_eta, Fld.row, Fld_eta, Ent.row, Ent_eta, PBook.row, PBook_eta, Flt.row, Flt_eta, un_Word, un_Own, un_Part, un_Seen, un_Book, un_Sector, un_HCraft, un_World, un_PKind, un_PPt, un_Cell, un_PBase, un_Chg, un_Fld, un_Ent, un_PBook, un_Flt, Chg.row, Chg_eta, PBook.row, PBook_eta, bkV, List.length_map, Int.toNat_natCast, Nat.sub_zero, and_self, eq_self, not_true_eq_false, ne_eq, bne_self_eq_false, ms_ByteArray_len, fltN, tkZ, tkM, hst, hso, hn1, Flt.row, Flt_eta, Flt.own,  List.nil_append, offs_getA, offs_get, offs_setA, offs_set, ap_cons, ap_skip, ap_skip0, ap_over, ap_over0, ap_self, ap_self0, ap_new, ap_appU, KA_lo, KA_hi, KB_lo, KB_hi, KAB, KBA, offs_gone, offs_rev, dis_goneL, dis_goneR, dis_revR, KA_uniq, KB_uniq, KA_k, KA_k0, KB_k, KB_k0, KA_k', KA_k0', KB_k', KB_k0', List.cons_append, List.nil_append, List.append_assoc]
  refine ⟨_, _, .inr (.inl ⟨rfl, _, rfl, hI1, rfl, by simp [No99, No99L, No99LL]⟩), ?_⟩
  simp (config := { maxSteps := 2000000, maxDischargeDepth := 8 }) only [bitvec_to_nat, reduceIte, Nat.reduceEqDiff, Nat.reduceAdd, Nat.reduceLeDiff, reduceCtorEq, Nat.reduceBEq, Nat.reduceLT, Nat.reduceMod, List.forall_mem_cons, t_szPBook, t_sPlStands, t_eqFlt, t_heldFlt, tk_map, dp_map, toNat_pred, appE, rowsOf, List.take_length, List.length_cons, List.length_nil, Nat.zero_add, srow, irow, un_s, un_i, Zone.row, Zone_eta, un_Zone, Word.row, Word_eta, Own.row, Own_eta, Part.row, Part_eta, Seen.row, Seen_eta, Book.row, Book_eta, Sector.row, Sector_eta, HCraft.row, HCraft_eta, World.row, World_eta, PKind.row, PKind_eta, PPt.row, PPt_eta, Cell.row, Cell_eta, PBase.row, PBase_eta, Chg.row, Chg_eta, Fld.row, Fld_eta, Ent.row, Ent_eta, PBook.row, PBook_eta, Flt.row, Flt_eta, un_Word, un_Own, un_Part, un_Seen, un_Book, un_Sector, un_HCraft, un_World, un_PKind, un_PPt, un_Cell, un_PBase, un_Chg, un_Fld, un_Ent, un_PBook, un_Flt, Chg.row, Chg_eta, PBook.row, PBook_eta, bkV, List.length_map, Int.toNat_natCast, Nat.sub_zero, and_self, eq_self, not_true_eq_false, ne_eq, bne_self_eq_false, ms_ByteArray_len, fltN, tkZ, tkM, hst, hso, hn1, Flt.row, Flt_eta, Flt.own,  List.nil_append, offs_getA, offs_get, offs_setA, offs_set, ap_cons, ap_skip, ap_skip0, ap_over, ap_over0, ap_self, ap_self0, ap_new, ap_appU, KA_lo, KA_hi, KB_lo, KB_hi, KAB, KBA, offs_gone, offs_rev, dis_goneL, dis_goneR, dis_revR, KA_uniq, KB_uniq, KA_k, KA_k0, KB_k, KB_k0, KA_k', KA_k0', KB_k', KB_k0', List.cons_append, List.nil_append, List.append_assoc]
  refine ⟨⟨rfl, by omega, by omega⟩, fun h => by omega, fun _ h => by omega⟩

theorem c_FnExactPlanStands (b : PBook) (nm : ByteArray) (hfa : b.fitp) : Contract P 7 [.agg (b.row 1), .str nm] [] (.bool true) [] := by
  by_cases hv : standsOk b nm
  · exact c_lawSY b nm hfa hv
  · exact c_lawSN b nm hfa hv
end
end Go.Ve

