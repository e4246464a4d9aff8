/- Part 6 of the proof: laws and contracts of functions, each proved; they are joined in the last part. No conditions beyond those that the theorems state. -/
import Derived.Test.YtppifjfappcbgaaGreatHa5
set_option linter.all false
namespace Go.Ve
noncomputable section
open Go.Proofs
set_option maxRecDepth 100000
open Go.ChangeShapes Go.WideShapes
theorem shp_Own (x y : Own) : (Own.row 0 x).map colSl = (Own.row 0 y).map colSl := rfl
theorem shp_Part (x y : Part) : (Part.row 0 x).map colSl = (Part.row 0 y).map colSl := rfl
theorem shp_VW (x y : VW) : x.rowO.map colSl = y.rowO.map colSl := rfl
def cfB1 (b : Book) : Nat := cf_Own b.own b.own.length
def cfB2 (b : Book) : Nat := cf_Part b.parts b.parts.length
def mb (k : Int) (b : Book) : Book := ⟨mo_Own k b.own, mo_Part (k + (cfB1 b : Nat)) b.parts, ms_Seen (k + (cfB1 b : Nat) + (cfB2 b : Nat)) b.seen.length⟩
def cfB (b : Book) : Int := (cfB1 b : Nat) + (cfB2 b : Nat) + 2 * (b.seen.length : Int)
def Book.sm (b : Book) : Prop := (b.own.length ≤ 1048577 ∧ ∀ x ∈ b.own, x.sm) ∧ (b.parts.length ≤ 1048577 ∧ ∀ x ∈ b.parts, x.sm) ∧ b.seen.length ≤ 1048577
theorem Book.small.sm {b : Book} (h : b.small) : b.sm := by
  unfold Book.small at h
  refine ⟨⟨by omega, fun x hx => ?_⟩, ⟨by omega, fun x hx => ?_⟩, by omega⟩
  · have := h.1.2 x hx; unfold Own.small at this; unfold Own.sm; omega
  · have := h.2.1.2 x hx; unfold Part.sm; omega
theorem cfB1_le {b : Book} (h : b.sm) : cfB1 b ≤ 1048577 * 13631600 := Nat.le_trans (cf_Own_le h.1.2 (Nat.le_refl _)) (Nat.mul_le_mul_right _ h.1.1)
theorem cfB2_le {b : Book} (h : b.sm) : cfB2 b ≤ 1048577 * 13631600 := Nat.le_trans (cf_Part_le h.2.1.2 (Nat.le_refl _)) (Nat.mul_le_mul_right _ h.2.1.1)
theorem mb_own {k : Int} {b : Book} : (mb k b).own.length = b.own.length := mo_Own_len
theorem mb_parts {k : Int} {b : Book} : (mb k b).parts.length = b.parts.length := mo_Part_len
theorem bk_domE {b b' : Book} {a va c vc d vd kO kP : Nat} (h1 : b.own.length = b'.own.length) (h2 : b.parts.length = b'.parts.length) : dom (bkM b a va c vc d vd kO kP) = dom (bkM b' a va c vc d vd kO kP) := by
  have e1 : dom (OwnS a va kO b.own) = dom (OwnS a va kO b'.own) := OO_dom shp_Own h1
  have e2 : dom (PartS c vc kP b.parts) = dom (PartS c vc kP b'.parts) := OO_dom shp_Part h2
  simp only [bkM, dom_app, e1, e2]; rfl
theorem keepB_sub {M M' : List (Nat × AObj)} (h : ∀ o ∈ dom M, 100 ≤ o % 1000 ∨ o ∈ dom M') : keepB M M' = true := by
  unfold keepB
  rw [List.all_eq_true]
  intro o ho
  have := h o ho
  simp only [Bool.or_eq_true, decide_eq_true_eq]
  exact this.imp id fun h => by simpa using h
set_option maxHeartbeats 4000000 in
theorem c_markBookO (b : Book) (va vc vd : Nat) (k : Int) (hb : b.sm) (hk : 0 ≤ k ∧ k ≤ 1099511627776) : Contract P 17 [bkV b 3 va 4 vc 5 vd, .int .i64 k] (bkM b 3 va 4 vc 5 vd 7 20) (.int .i64 (k + cfB b)) (bkM (mb k b) 3 va 4 vc 5 vd 7 20) := by
  have q1 := cfB1_le hb
  have q2 := cfB2_le hb
  have hO := c_markOwnO va k b.own hb.1.1 hb.1.2 (by omega)
  have hP := ((c_markPartO vc (k + (cfB1 b : Nat)) b.parts hb.2.1.1 hb.2.1.2 (by omega)).ren (swp 3 4) (swp_swp _ _)).ren (swpB 7 20 3) (swpB_swpB (by omega) (by omega) (by omega))
  have e4 : swpB 7 20 3 (swp 3 4 3) = 4 := by rw [show swp 3 4 3 = 4 from by simp [swp], swpB_lt (by omega)]
  rw [OO_ren (k' := 7) (i1 := 0) rok_Part hes_Part (fun j i hj => swp_fam (by omega) (by omega)), OO_ren (k' := 20) (i1 := 0) rok_Part hes_Part (fun j i hj => swpB_at (by omega) hj), OO_ren (k' := 7) (i1 := 0) rok_Part hes_Part (fun j i hj => swp_fam (by omega) (by omega)), OO_ren (k' := 20) (i1 := 0) rok_Part hes_Part (fun j i hj => swpB_at (by omega) hj)] at hP
  simp only [renL, ren, e4] at hP
  have hS := (c_markSeenS vd (k + (cfB1 b : Nat) + (cfB2 b : Nat)) b.seen hb.2.2 (by omega)).ren (swp 3 5) (swp_swp _ _)
  simp only [renL, ren, renM, renO, swp, reduceIte, Nat.reduceEqDiff, Nat.reduceLT] at hS
  have d1 : ∀ (l : List Own) (m : List Part), dis (OwnS 3 va 7 l) (PartS 4 vc 20 m) := fun l m p hp q hq e => by
    have := OO_num rok_Own (by omega) hp; have := OO_num rok_Part (by omega) hq; omega
  have d2 : ∀ (l : List Own) (m : List Part), dis (PartS 4 vc 20 m) (OwnS 3 va 7 l) := fun l m => dis_symm (d1 l m)
  have oOv : ∀ (B : List (Nat × AObj)), applyU (OwnS 3 va 7 b.own ++ B) (OwnS 3 va 7 (mo_Own k b.own)) = OwnS 3 va 7 (mo_Own k b.own) ++ B := fun B => ap_same (OwnO_uniq (by omega) (by omega)) (OO_dom shp_Own mo_Own_len)
  have pOv : ∀ (B : List (Nat × AObj)), applyU (PartS 4 vc 20 b.parts ++ B) (PartS 4 vc 20 (mo_Part (k + (cfB1 b : Nat)) b.parts)) = PartS 4 vc 20 (mo_Part (k + (cfB1 b : Nat)) b.parts) ++ B := fun B => ap_same (PartO_uniq (by omega) (by omega)) (OO_dom shp_Part mo_Part_len)
  have oOv0 : True := trivial
  have pOv0 : True := trivial
  refine fn_sound (Env.nil P) Go.Ve.hm k_laws_markHandBook (nlb rfl) ?_ ?_
  · rw [List.all_eq_true]
    intro q hq
    obtain ⟨p, hp, rfl⟩ := List.mem_map.1 hq
    have := bk_num (by omega) (by omega) hp
    simp only [decide_eq_true_eq]; omega
  unfold s_laws_markHandBook bkM SeenS
  simp (maxSteps := 2000000) (maxDischargeDepth := 8) only [bitvec_to_nat, reduceIte, Nat.reduceEqDiff, Nat.reduceAdd, Nat.reduceLeDiff, reduceCtorEq, Nat.reduceBEq, Nat.reduceLT, Nat.reduceMod, fmc, retG_ret, retQ_eq, retQ_eqN, retOk, keepB, re_tupl, orr_t, bXH, Zone.row, Box6.row, appE, rowsOf, srow, irow, bHX, Word.row, Own.row, Part.row, Seen.row, Book.row, Nat.sub_zero, List.append_nil, bkV, offs_getA, offs_get, offs_setA, offs_set, ap_cons, ap_skip, ap_skip0, ap_appU, OwnO_offs, PartO_offs, OwnO_uniq, PartO_uniq, List.cons_append, List.nil_append, List.append_assoc, d1, d2, oOv, oOv0, pOv, pOv0, OO_get, OO_getA]
  refine ⟨_, _, callR_same hO (OO_dom shp_Own mo_Own_len) (getK_self (OwnO_uniq (by omega) (by omega))) (by simp [refsInL, refsIn, OO, dom]) (OO_refs rok_Own hes_Own) rfl (OO_refs rok_Own hes_Own), ?_⟩
  simp (maxSteps := 2000000) (maxDischargeDepth := 8) only [bitvec_to_nat, reduceIte, Nat.reduceEqDiff, Nat.reduceAdd, Nat.reduceLeDiff, reduceCtorEq, Nat.reduceBEq, Nat.reduceLT, Nat.reduceMod, fmc, retG_ret, retQ_eq, retQ_eqN, retOk, keepB, re_tupl, orr_t, bXH, Zone.row, Box6.row, appE, rowsOf, srow, irow, bHX, Word.row, Own.row, Part.row, Seen.row, Book.row, Nat.sub_zero, List.append_nil, bkV, offs_getA, offs_get, offs_setA, offs_set, ap_cons, ap_skip, ap_skip0, ap_appU, OwnO_offs, PartO_offs, OwnO_uniq, PartO_uniq, List.cons_append, List.nil_append, List.append_assoc, d1, d2, oOv, oOv0, pOv, pOv0, OO_get, OO_getA]
  refine ⟨_, _, callR_same hP (OO_dom shp_Part mo_Part_len) (getK_app (d1 _ _) (getK_self (PartO_uniq (by omega) (by omega)))) (by simp [refsInL, refsIn, OO, dom]) (OO_refs rok_Part hes_Part) rfl (OO_refs rok_Part hes_Part), ?_⟩
  simp (maxSteps := 2000000) (maxDischargeDepth := 8) only [bitvec_to_nat, reduceIte, Nat.reduceEqDiff, Nat.reduceAdd, Nat.reduceLeDiff, reduceCtorEq, Nat.reduceBEq, Nat.reduceLT, Nat.reduceMod, fmc, retG_ret, retQ_eq, retQ_eqN, retOk, keepB, re_tupl, orr_t, bXH, Zone.row, Box6.row, appE, rowsOf, srow, irow, bHX, Word.row, Own.row, Part.row, Seen.row, Book.row, Nat.sub_zero, List.append_nil, bkV, offs_getA, offs_get, offs_setA, offs_set, ap_cons, ap_skip, ap_skip0, ap_appU, OwnO_offs, PartO_offs, OwnO_uniq, PartO_uniq, List.cons_append, List.nil_append, List.append_assoc, d1, d2, oOv, oOv0, pOv, pOv0, OO_get, OO_getA]
  refine ⟨_, _, callR_same hS rfl (getK_one (by simp (config := { maxDischargeDepth := 8 }) only [getM, offs_getA, offs_get, offs_setA, offs_set, ap_cons, ap_skip, ap_skip0, ap_appU, OwnO_offs, PartO_offs, OwnO_uniq, PartO_uniq, List.cons_append, List.nil_append, List.append_assoc, d1, d2, oOv, oOv0, pOv, pOv0, OO_get, OO_getA, Nat.reduceEqDiff, Nat.reduceLT, Nat.reduceAdd, Nat.reduceLeDiff, reduceIte, ne_eq, not_false_eq_true])) (by simp [refsInL, refsIn, dom]) rfl rfl rfl, ?_⟩
  simp (maxSteps := 2000000) (maxDischargeDepth := 8) only [bitvec_to_nat, reduceIte, Nat.reduceEqDiff, Nat.reduceAdd, Nat.reduceLeDiff, reduceCtorEq, Nat.reduceBEq, Nat.reduceLT, Nat.reduceMod, fmc, retG_ret, retQ_eq, retQ_eqN, retOk, keepB, re_tupl, orr_t, bXH, Zone.row, Box6.row, appE, rowsOf, srow, irow, bHX, Word.row, Own.row, Part.row, Seen.row, Book.row, Nat.sub_zero, List.append_nil, bkV, offs_getA, offs_get, offs_setA, offs_set, ap_cons, ap_skip, ap_skip0, ap_appU, OwnO_offs, PartO_offs, OwnO_uniq, PartO_uniq, List.cons_append, List.nil_append, List.append_assoc, d1, d2, oOv, oOv0, pOv, pOv0, OO_get, OO_getA]
  refine ⟨by unfold cfB; unfold cfB1 cfB2; omega, wkM_self ?_, bk_refs (b := mb k b) (a := 3) (va := va) (c := 4) (vc := vc) (d := 5) (vd := vd) (kO := 7) (kP := 20), keepB_sub ?_⟩
  · have := getK_self (B := [(102, AObj.box [AV.own 3 va 0 b.own.length, AV.own 4 vc 0 b.parts.length, AV.own 5 vd 0 b.seen.length])]) (bk_uniq (b := mb k b) (a := 3) (va := va) (c := 4) (vc := vc) (d := 5) (vd := vd) (kO := 7) (kP := 20) (by omega) (by omega) (by omega) (by omega) (by omega) (by omega) (by omega) (by omega) (by omega))
    simp only [bkM, SeenS, List.append_assoc, List.cons_append, List.nil_append] at this
    exact this
  · intro o ho
    obtain ⟨p, hp, rfl⟩ := List.mem_map.1 ho
    simp only [List.mem_append, List.mem_cons, List.not_mem_nil, or_false] at hp
    rcases hp with hp | hp | hp | hp
    · exact .inr (mem_dom (List.mem_append.2 (.inl hp)))
    · exact .inr (mem_dom (List.mem_append.2 (.inr (List.mem_append.2 (.inl hp)))))
    · subst hp
      exact .inr (by simp [dom])
    · subst hp; exact .inl (by omega)
theorem c_iAgainN (zs : List Zone) (me : ByteArray) (b : Book) (hb : b.small) (hz : zs.length ≤ 1048576) (h0 : ¬ hMay zs me b) : Contract P 12 [.sl 0 5 (zs.map Zone.row), .str me, .agg (b.row 0)] [] (.sl 98 8 []) [] := by
  simp only [Book.row]
  refine fn_sound ((Env.nil P).add 45 t_mayHand h_mayHand) hm kO_impl_HandAgain (nlb rfl) rfl ?_; unfold sO_impl_HandAgain; simp (maxSteps := 2000000) only [bitvec_to_nat, reduceIte, Nat.reduceEqDiff, Nat.reduceAdd, Nat.reduceLeDiff, reduceCtorEq, Nat.reduceBEq, Nat.reduceLT, Nat.reduceMod, fmc, retG_ret, retQ_eq, retQ_eqN, retOk, keepB, re_tupl, orr_t, t_mayHand, bXH, Zone.row, Box6.row, appE, rowsOf, srow, irow, bHX, Word.row, Own.row, Part.row, Seen.row, Book.row, Nat.sub_zero, List.append_nil, h0, decide_true, decide_false, offs_getA, ap_cons, ap_new, WordO_offs, WordO_uniq, offs_rev, List.cons_append, List.nil_append]
  exact ⟨hb, by omega⟩
theorem c_iAgainY (zs : List Zone) (me : ByteArray) (b : Book) (hb : b.small) (hz : zs.length ≤ 1048576) (h0 : hMay zs me b) : Contract P 12 [.sl 0 5 (zs.map Zone.row), .str me, .agg (b.row 0)] [] (.own 107 (agV b.own b.own.length) 0 (agL zs me b.own b.own.length).length) (WordS 107 (agV b.own b.own.length) 130 0 (agL zs me b.own b.own.length)) := by
  have hz4 := h0.1.1.1
  have hb6 := h0.1.2.1.1
  have hA := (c_againO 0 zs me b hb h0.1.1 (by omega) (by omega)).post_eq (post' := (WordS 107 (agV b.own b.own.length) 130 0 (agL zs me b.own b.own.length)).reverse) (funext fun o => getM_rev (OO_uniq rok_VW (by omega) (by omega)) o)
  simp only [Book.row] at hA ⊢
  refine fn_sound ((Env.nil P).add 45 t_mayHand h_mayHand) hm kO_impl_HandAgain (nlb rfl) rfl ?_; unfold sO_impl_HandAgain; simp (maxSteps := 2000000) (maxDischargeDepth := 8) only [bitvec_to_nat, reduceIte, Nat.reduceEqDiff, Nat.reduceAdd, Nat.reduceLeDiff, reduceCtorEq, Nat.reduceBEq, Nat.reduceLT, Nat.reduceMod, fmc, retG_ret, retQ_eq, retQ_eqN, retOk, keepB, re_tupl, orr_t, t_mayHand, bXH, Zone.row, Box6.row, appE, rowsOf, srow, irow, bHX, Word.row, Own.row, Part.row, Seen.row, Book.row, Nat.sub_zero, List.append_nil, h0, decide_true, decide_false, offs_getA, ap_cons, ap_new, WordO_offs, WordO_uniq, offs_rev, List.cons_append, List.nil_append]
  refine ⟨⟨hb, by omega⟩, _, _, .inr (.inr (.inl ⟨_, rfl, hA, newK_rev (newK_cons (WordO_offs (by omega) (by omega) (by omega)) newK_nil), by simp [OO, dom, refsIn], OO_refr rok_VW hes_Word, trivial, fun p hp => OO_99 rok_VW p (List.mem_reverse.1 hp)⟩)), ?_⟩
  simp (maxSteps := 2000000) (maxDischargeDepth := 8) only [bitvec_to_nat, reduceIte, Nat.reduceEqDiff, Nat.reduceAdd, Nat.reduceLeDiff, reduceCtorEq, Nat.reduceBEq, Nat.reduceLT, Nat.reduceMod, fmc, retG_ret, retQ_eq, retQ_eqN, retOk, keepB, re_tupl, orr_t, t_mayHand, bXH, Zone.row, Box6.row, appE, rowsOf, srow, irow, bHX, Word.row, Own.row, Part.row, Seen.row, Book.row, Nat.sub_zero, List.append_nil, h0, decide_true, decide_false, offs_getA, ap_cons, ap_new, WordO_offs, WordO_uniq, offs_rev, List.cons_append, List.nil_append]
  refine ⟨wkM_self (getK_cons (WordO_offs (by omega) (by omega) (by omega)) (OO_self rok_VW (by omega) (by omega))), OO_refs rok_VW hes_Word, by simp [OO, refsIn], ?_⟩
  simp only [Bool.true_or, Bool.true_and]
  exact big_all (OO_100 rok_VW (by omega) (by omega) (by omega))
end
end Go.Ve

namespace Go.Ve
noncomputable section
open Go.Proofs
set_option maxRecDepth 100000
open Go.ChangeShapes Go.WideShapes
abbrev KA (b : Book) : List (Nat × AObj) := bkM b 611 0 612 0 613 0 120 140
theorem KA_offs {b : Book} {q : Nat} (h1 : q ≠ 611) (h2 : q ≠ 612) (h3 : q ≠ 613) (h : q < 1000) : offs (KA b) q := fun p hp e => by
  have := bk_num (by omega) (by omega) hp; omega
theorem KA_uniq (b : Book) : uniq (KA b) := bk_uniq (by omega) (by omega) (by omega) (by omega) (by omega) (by omega) (by omega) (by omega) (by omega)
theorem KA_100 {b : Book} : big100 (KA b) := bk_100 (by omega) (by omega) (by omega) (by omega) (by omega) (by omega) (by omega)
abbrev RA (v : Nat) (l : List VW) : List (Nat × AObj) := WordS 731 v 160 0 l
abbrev RB (v : Nat) (l : List VW) : List (Nat × AObj) := WordS 741 v 170 0 l
theorem KARA {b : Book} {v : Nat} {l : List VW} : dis (KA b) (RA v l) := fun p hp q hq e => by
  have := bk_num (by omega) (by omega) hp; have := OO_num rok_VW (by omega) hq; omega
theorem KARB {b : Book} {v : Nat} {l : List VW} : dis (KA b) (RB v l) := fun p hp q hq e => by
  have := bk_num (by omega) (by omega) hp; have := OO_num rok_VW (by omega) hq; omega
theorem RARB {v v' : Nat} {l l' : List VW} : dis (RA v l) (RB v' l') := fun p hp q hq e => by
  have := OO_num rok_VW (by omega) hp; have := OO_num rok_VW (by omega) hq; omega
theorem RAKA {b : Book} {v : Nat} {l : List VW} : dis (RA v l) (KA b) := dis_symm KARA
theorem RBKA {b : Book} {v : Nat} {l : List VW} : dis (RB v l) (KA b) := dis_symm KARB
theorem RBRA {v v' : Nat} {l l' : List VW} : dis (RB v l) (RA v' l') := dis_symm RARB
theorem W_renT {fn : FuncId} {args : List AV} {v : Nat} {l : List VW} (o k : Nat) (ho : 107 < o ∧ o < 1000) (hk : 138 ≤ k ∧ k + 8 ≤ 1000) (h : Contract P fn args [] (.own 107 v 0 l.length) (WordS 107 v 130 0 l)) (ha : norefL args = true) :
    Contract P fn args [] (.own o v 0 l.length) (WordS o v k 0 l).reverse := by
  have h1 := (h.ren (swp 107 o) (swp_swp _ _)).ren (swpB 130 k 8) (swpB_swpB (by omega) (by omega) (by omega))
  have e1 : swpB 130 k 8 (swp 107 o 107) = o := by rw [show swp 107 o 107 = o from by simp [swp], swpB_lt (by omega)]
  rw [renL_nr _ _ ha, renL_nr _ _ ha, OO_ren (k' := 130) (i1 := 0) rok_VW hes_Word (fun j i hj => swp_fam (by omega) (by omega)), OO_ren (k' := k) (i1 := 0) rok_VW hes_Word (fun j i hj => swpB_at (by omega) hj)] at h1
  simp only [ren, renM, e1] at h1
  exact h1.post_eq (funext fun q => getM_rev (OO_uniq rok_VW (by omega) (by omega)) q)
theorem toBookKA (b : Book) (hs : b.small) : Contract P 11 [.agg (b.row 1)] [] (bkV b 611 0 612 0 613 0) (KA b).reverse := (c_toBookO b hs).post_eq (funext fun o => getM_rev (KA_uniq b) o)
theorem toZone501 (t : Nat) (zs : List Zone) (hz : zs.length ≤ 1048576) : Contract P 10 [.sl t 5 (zs.map Zone.row)] [] (.own 501 0 0 zs.length) [(501, .arr 76 0 5 (zs.map Zone.row))] := by
  have h := (c_toZoneSO t zs hz).ren (swp 107 501) (swp_swp _ _)
  simp only [renL, ren, renM, renO, swp, reduceIte, Nat.reduceLT] at h
  exact h
theorem markZone501 (k : Int) (zs : List Zone) (hz : zs.length ≤ 1048577) (hk : 0 ≤ k ∧ k ≤ 1125899906842624) : Contract P 16 [.own 501 0 0 zs.length, .int .i64 k] [(501, .arr 76 0 5 (zs.map Zone.row))] (.int .i64 (k + 5 * zs.length)) [(501, .arr 76 0 5 ((ms_Zone k zs.length).map Zone.row))] := by
  have h := (c_markZoneS 0 k zs hz hk).ren (swp 3 501) (swp_swp _ _)
  simp only [renL, ren, renM, renO, swp, reduceIte, Nat.reduceLT] at h
  exact h
theorem markBookKA (b : Book) (k : Int) (hb : b.sm) (hk : 0 ≤ k ∧ k ≤ 1099511627776) : Contract P 17 [bkV b 611 0 612 0 613 0, .int .i64 k] (KA b) (.int .i64 (k + cfB b)) (gone (KA b)) := by
  have h := (((((c_markBookO b 0 0 0 k hb hk).ren (swp 3 611) (swp_swp _ _)).ren (swp 4 612) (swp_swp _ _)).ren (swp 5 613) (swp_swp _ _)).ren (swpB 7 120 11) (swpB_swpB (by omega) (by omega) (by omega))).ren (swpB 20 140 3) (swpB_swpB (by omega) (by omega) (by omega))
  have hs : ∀ q q' : Nat, q < 1000 → q' < 1000 → ∀ b : Book, ∀ a c d, renM (swp q q') (bkM b a 0 c 0 d 0 7 20) = bkM b (swp q q' a) 0 (swp q q' c) 0 (swp q q' d) 0 7 20 := fun q q' h1 h2 b a c d => bkM_ren (fun j i hj => swp_fam h1 h2) (fun j i hj => swp_fam h1 h2)
  have hO : ∀ b : Book, ∀ a c d, renM (swpB 7 120 11) (bkM b a 0 c 0 d 0 7 20) = bkM b (swpB 7 120 11 a) 0 (swpB 7 120 11 c) 0 (swpB 7 120 11 d) 0 120 20 := fun b a c d => bkM_ren (fun j i hj => swpB_at (by omega) hj) (fun j i hj => swpB_ne (by omega) (by omega) (by omega))
  have hP : ∀ b : Book, ∀ a c d, renM (swpB 20 140 3) (bkM b a 0 c 0 d 0 120 20) = bkM b (swpB 20 140 3 a) 0 (swpB 20 140 3 c) 0 (swpB 20 140 3 d) 0 120 140 := fun b a c d => bkM_ren (fun j i hj => swpB_ne (by omega) (by omega) (by omega)) (fun j i hj => swpB_at (by omega) hj)
  simp only [renL, bkV_ren, hs _ _ (show (3 : Nat) < 1000 by omega) (show (611 : Nat) < 1000 by omega), hs _ _ (show (4 : Nat) < 1000 by omega) (show (612 : Nat) < 1000 by omega), hs _ _ (show (5 : Nat) < 1000 by omega) (show (613 : Nat) < 1000 by omega), hO, hP, ren, swp, swpB, reduceIte, Nat.reduceEqDiff, Nat.reduceLeDiff] at h
  have h2 := h.gone rfl
  have e : (bkM (mb k b) 611 0 612 0 613 0 120 140).map (fun p => (p.1, AObj.gone)) = gone (KA b) := by
    have hd := bk_domE (b := mb k b) (b' := b) (a := 611) (va := 0) (c := 612) (vc := 0) (d := 613) (vd := 0) (kO := 120) (kP := 140) mb_own mb_parts
    have hg : ∀ l : List (Nat × AObj), l.map (fun p => (p.1, AObj.gone)) = (dom l).map fun o => (o, AObj.gone) := fun l => by simp [dom]
    unfold gone
    rw [hg, hg, hd]
  rw [e] at h2
  exact h2
theorem markWRA (v : Nat) (l : List VW) (k : Int) (hl : l.length ≤ 1048577) (hs : ∀ x ∈ l, x.sm) (hk : 0 ≤ k ∧ k ≤ 35184372088832) : Contract P 18 [.own 731 v 0 l.length, .int .i64 k] (RA v l) (.int .i64 (k + (cf_VW l l.length : Nat))) (RA v (mo_VW k l)) := by
  have h := ((c_markVWO v k l hl hs hk).ren (swp 3 731) (swp_swp _ _)).ren (swpB 7 160 8) (swpB_swpB (by omega) (by omega) (by omega))
  have e1 : swpB 7 160 8 (swp 3 731 3) = 731 := by rw [show swp 3 731 3 = 731 from by simp [swp], swpB_lt (by omega)]
  rw [OO_ren (k' := 7) (i1 := 0) rok_VW hes_Word (fun j i hj => swp_fam (by omega) (by omega)), OO_ren (k' := 160) (i1 := 0) rok_VW hes_Word (fun j i hj => swpB_at (by omega) hj), OO_ren (k' := 7) (i1 := 0) rok_VW hes_Word (fun j i hj => swp_fam (by omega) (by omega)), OO_ren (k' := 160) (i1 := 0) rok_VW hes_Word (fun j i hj => swpB_at (by omega) hj)] at h
  simp only [renL, ren, e1] at h
  exact h
theorem RA_ov {v : Nat} {l : List VW} {k : Int} {B : List (Nat × AObj)} : applyU (RA v l ++ B) (RA v (mo_VW k l)) = RA v (mo_VW k l) ++ B := ap_same (OO_uniq rok_VW (by omega) (by omega)) (OO_dom shp_VW mo_VW_len)
theorem RA_ov0 {v : Nat} {l : List VW} {k : Int} : applyU (RA v l) (RA v (mo_VW k l)) = RA v (mo_VW k l) := ap_same0 (OO_uniq rok_VW (by omega) (by omega)) (OO_dom shp_VW mo_VW_len)
theorem keep_gone {T M' B : List (Nat × AObj)} (h : big100 T) : keepB (gone T ++ B) M' = keepB B M' := keep_appL (keep_big (big100_gone h))
theorem KA_kg {b : Book} {M' B : List (Nat × AObj)} : keepB (gone (KA b) ++ B) M' = keepB B M' := keep_gone KA_100
theorem KA_kg0 {b : Book} {M' : List (Nat × AObj)} : keepB (gone (KA b)) M' = true := keep_big (big100_gone KA_100)
theorem KA_k {b : Book} {M' B : List (Nat × AObj)} : keepB (KA b ++ B) M' = keepB B M' := keep_appL (keep_big KA_100)
theorem KA_k0 {b : Book} {M' : List (Nat × AObj)} : keepB (KA b) M' = true := keep_big KA_100
theorem RA_100 {v : Nat} {l : List VW} : big100 (RA v l) := OO_100 rok_VW (by omega) (by omega) (by omega)
theorem RB_100 {v : Nat} {l : List VW} : big100 (RB v l) := OO_100 rok_VW (by omega) (by omega) (by omega)
theorem RA_k {v : Nat} {l : List VW} {M' B : List (Nat × AObj)} : keepB (RA v l ++ B) M' = keepB B M' := keep_appL (keep_big RA_100)
theorem RA_k0 {v : Nat} {l : List VW} {M' : List (Nat × AObj)} : keepB (RA v l) M' = true := keep_big RA_100
theorem RB_k {v : Nat} {l : List VW} {M' B : List (Nat × AObj)} : keepB (RB v l ++ B) M' = keepB B M' := keep_appL (keep_big RB_100)
theorem RB_k0 {v : Nat} {l : List VW} {M' : List (Nat × AObj)} : keepB (RB v l) M' = true := keep_big RB_100
theorem purN_W {M K : Nat → Option AObj} {o v k n : Nat} {l : List VW} (hn : n = l.length) (hM : ∀ p ∈ WordS o v k 0 l, M p.1 = some p.2) (hK : ∀ p ∈ WordS o v k 0 l, K p.1 = some p.2) : purN M K (.own o v 0 n) = some (.sl 99 8 ((l.map VW.w).map (Word.row 99))) := by
  have := purN_OO (M := M) (K := K) (o := o) (e := 73) (v := v) (sz := 8) (m := n) rok_VW hes_Word hn hM hK
  rw [this, List.map_map]; rfl
theorem W_refV {o v k n : Nat} {l : List VW} : refsIn (dom (WordS o v k 0 l).reverse) (.own o v 0 n) = true := by simp [OO, dom, refsIn]
theorem W_plain {o v k : Nat} {l : List VW} : ((WordS o v k 0 l).reverse.all fun p => plainO p.2) = true := by rw [List.all_reverse]; exact OO_plain rok_VW
theorem W_r99 {o v k : Nat} {l : List VW} : ∀ p ∈ (WordS o v k 0 l).reverse, No99O p.2 := fun p hp => OO_99 rok_VW p (List.mem_reverse.1 hp)
theorem KA_r99 {b : Book} : ∀ p ∈ (KA b).reverse, No99O p.2 := fun p hp => bk_99 p (List.mem_reverse.1 hp)
def bKS := And.intro @offs_getA (And.intro @offs_get (And.intro @offs_setA (And.intro @offs_set (And.intro @ap_cons (And.intro @ap_skip (And.intro @ap_skip0 (And.intro @ap_over (And.intro @ap_over0 (And.intro @ap_self (And.intro @ap_self0 (And.intro @ap_new (And.intro @ap_appU (And.intro @KA_offs (And.intro @WordO_offs (And.intro @WordO_uniq (And.intro @KA_uniq (And.intro @RA_ov (And.intro @RA_ov0 (And.intro @OO_get (And.intro @OO_getA (And.intro @KARA (And.intro @KARB (And.intro @RAKA (And.intro @RBKA (And.intro @RARB (And.intro @RBRA (And.intro @offs_gone (And.intro @offs_rev (And.intro @dis_goneL (And.intro @dis_goneR (And.intro @dis_revR (And.intro @KA_kg (And.intro @KA_kg0 (And.intro @KA_k (And.intro @KA_k0 (And.intro @RA_k (And.intro @RA_k0 (And.intro @RB_k (And.intro @RB_k0 (And.intro @List.cons_append.{0} (And.intro @List.nil_append.{0} @List.append_assoc.{0})))))))))))))))))))))))))))))))))))))))))
end
end Go.Ve

namespace Go.Ve
noncomputable section
open Go.Proofs
set_option maxRecDepth 100000
open Go.ChangeShapes Go.WideShapes
theorem c_eqWord (c d : Word) (hl : c.tu.length ≤ 4611686018427387904) : Contract P 47 [.agg (c.row 0), .agg (d.row 0)] [] (.bool (decide (c = d))) [] := by
  obtain ⟨c_kd, c_fr, c_dst, c_fl, c_nr, c_la, c_tn, c_tu⟩ := c
  obtain ⟨d_kd, d_fr, d_dst, d_fl, d_nr, d_la, d_tn, d_tu⟩ := d
  simp only [Word.row]
  refine fn_sound ((Env.nil P).add 27 t_eqBoxS h_eqBoxS) hm k_laws_eqHandWord (nlb rfl) rfl ?_; unfold s_laws_eqHandWord; simp (maxSteps := 2000000) (maxDischargeDepth := 8) only [bitvec_to_nat, reduceIte, Nat.reduceEqDiff, Nat.reduceAdd, Nat.reduceLeDiff, reduceCtorEq, Nat.reduceBEq, Nat.reduceLT, Nat.reduceMod, fmc, t_eqBoxS, bXH, Zone.row, Box6.row, appE, rowsOf, srow, irow, bHX, Word.row, Own.row, Part.row, Seen.row, Book.row]
  simp only [Word.mk.injEq]
  repeat' (first | with_reducible apply And.intro | with_reducible intro _)
  all_goals first | omega | (simp_all; done) | grind | grind [Word.small, Own.small, Part.small, Book.small, Sector.small, HCraft.small, World.small]
def t_eqWord : List AV → Option (Prop × AV)
  | [.agg [.int .i64 c_kd, .str c_fr, .str c_dst, .str c_fl, .int .i64 c_nr, .int .i64 c_la, .int .i64 c_tn, .sl 0 6 c_tu], .agg [.int .i64 d_kd, .str d_fr, .str d_dst, .str d_fl, .int .i64 d_nr, .int .i64 d_la, .int .i64 d_tn, .sl 0 6 d_tu]] => some ((((c_tu.map unBox).map Box6.row = c_tu) ∧ ((d_tu.map unBox).map Box6.row = d_tu)) ∧ ((Word.mk c_kd c_fr c_dst c_fl c_nr c_la c_tn (c_tu.map unBox)).tu.length ≤ 4611686018427387904), .bool (decide ((Word.mk c_kd c_fr c_dst c_fl c_nr c_la c_tn (c_tu.map unBox)) = (Word.mk d_kd d_fr d_dst d_fl d_nr d_la d_tn (d_tu.map unBox)))))
  | _ => none
theorem h_eqWord : ∀ args p v, t_eqWord args = some (p, v) → p → Contract P 47 args [] v [] ∧ noref v = true ∧ No99 v := by
  intro args p v h1 h2
  unfold t_eqWord at h1
  split at h1
  · rename_i c_kd c_fr c_dst c_fl c_nr c_la c_tn c_tu d_kd d_fr d_dst d_fl d_nr d_la d_tn d_tu
    cases h1
    obtain ⟨⟨e0, e1⟩, HP⟩ := h2
    have := c_eqWord (Word.mk c_kd c_fr c_dst c_fl c_nr c_la c_tn (c_tu.map unBox)) (Word.mk d_kd d_fr d_dst d_fl d_nr d_la d_tn (d_tu.map unBox)) HP
    exact ⟨by simpa only [e0, e1, Word.row, Word.row] using this, rfl, trivial⟩
  · cases h1
theorem c_eqWordS (t t' : Nat) (p q : List Word) (hp : p.length ≤ 4611686018427387904) (hx : ∀ x ∈ p, x.tu.length ≤ 4611686018427387904) : Contract P 13 [.sl t 8 (p.map (Word.row 0)), .sl t' 8 (q.map (Word.row 0))] [] (.bool (decide (p = q))) [] := by
  refine fn_sound ((Env.nil P).add 47 t_eqWord h_eqWord) hm k_laws_eqHandWordS (nlb rfl) rfl ?_; unfold s_laws_eqHandWordS; simp (maxSteps := 2000000) (maxDischargeDepth := 8) only [bitvec_to_nat, reduceIte, Nat.reduceEqDiff, Nat.reduceAdd, Nat.reduceLeDiff, reduceCtorEq, Nat.reduceBEq, Nat.reduceLT, Nat.reduceMod, fmc, t_eqWord, bXH, Zone.row, Box6.row, appE, rowsOf, srow, irow, bHX, Word.row, Own.row, Part.row, Seen.row, Book.row]
  refine ⟨fun h1 h => h1 (by rw [h]), fun h1 => ?_⟩
  refine loop_st (fun i : Nat => [(5, .int .i64 i)]) (fun _ => []) (fun i => i ≤ p.length ∧ ∀ j, j < i → p.getD j default = q.getD j default) (fun i => p.length - i) (0) (by simp only [u_E0, u_E1, u_M0, u_M1, w_setE0, w_setE1, w_setM0, w_setM1, reduceIte, Nat.reduceEqDiff]; exact ⟨by repeat' (first | exact trivial | refine ⟨.inr rfl, ?_⟩), by repeat' (first | exact trivial | refine ⟨rfl, ?_⟩), by first | rfl | simp [closedB, refsIn, refsInL, refsInO, dom, refsInL_nr, *], by first | rfl | simp [keepB, dom]⟩) ?_ ?_
  · exact ⟨Nat.zero_le _, by intro j hj; omega⟩
  intro i hi NX hN
  unfold l_laws_eqHandWordS_0; simp (maxSteps := 2000000) (maxDischargeDepth := 8) only [bitvec_to_nat, reduceIte, Nat.reduceEqDiff, Nat.reduceAdd, Nat.reduceLeDiff, reduceCtorEq, Nat.reduceBEq, Nat.reduceLT, Nat.reduceMod, fmc, t_eqWord, bXH, Zone.row, Box6.row, appE, rowsOf, srow, irow, bHX, Word.row, Own.row, Part.row, Seen.row, Book.row]
  have hx2 : i < p.length → _ := fun h => hx _ (getD_mem' h)
  repeat' (first | with_reducible apply And.intro | with_reducible intro _)
  all_goals first
    | omega
    | (refine hN (i + 1) _ (by simp only [u_E0, u_E1, u_M0, u_M1, w_setE0, w_setE1, w_setM0, w_setM1, reduceIte, Nat.reduceEqDiff]; exact ⟨by repeat' (first | exact trivial | refine ⟨.inr rfl, ?_⟩), by repeat' (first | exact trivial | refine ⟨rfl, ?_⟩), by first | rfl | simp [closedB, refsIn, refsInL, refsInO, dom, refsInL_nr, *], by first | rfl | simp [keepB, dom]⟩) ?_ ?_
       · exact ⟨by omega, all_snoc hi.2 (by with_reducible assumption)⟩
       · omega)
    | (intro h; subst h; exact absurd rfl (by with_reducible assumption))
    | (exact ext_of (by omega) fun j hj => hi.2 j (by omega))
    | grind
def t_sAgain : List AV → Option (Prop × AV)
  | [.sl zst 5 zsx, .str me, .agg [.sl 0 11 b_own, .sl 0 3 b_parts, .sl 0 2 b_seen]] => some ((((zsx.map unZone).map Zone.row = zsx) ∧ ((b_own.map unOwn).map (Own.row 0) = b_own) ∧ ((b_parts.map unPart).map (Part.row 0) = b_parts) ∧ ((b_seen.map unSeen).map Seen.row = b_seen)) ∧ (Book.small (Book.mk (b_own.map unOwn) (b_parts.map unPart) (b_seen.map unSeen)) ∧ (zsx.map unZone).length ≤ 1048576), .sl 0 8 ((if hMay (zsx.map unZone) me (Book.mk (b_own.map unOwn) (b_parts.map unPart) (b_seen.map unSeen)) then agS (zsx.map unZone) me (Book.mk (b_own.map unOwn) (b_parts.map unPart) (b_seen.map unSeen)) (Book.own (Book.mk (b_own.map unOwn) (b_parts.map unPart) (b_seen.map unSeen))).length else []).map (Word.row 0)))
  | _ => none
theorem h_sAgain : ∀ args p v, t_sAgain args = some (p, v) → p → Contract P 9 args [] v [] ∧ noref v = true ∧ No99 v := by
  intro args p v h1 h2
  unfold t_sAgain at h1
  split at h1
  · rename_i zst zsx me b_own b_parts b_seen
    cases h1
    obtain ⟨⟨e0, e1, e2, e3⟩, HP⟩ := h2
    have := c_sAgain zst (zsx.map unZone) me (Book.mk (b_own.map unOwn) (b_parts.map unPart) (b_seen.map unSeen)) HP.1 HP.2
    exact ⟨by simpa only [e0, e1, e2, e3, Book.row] using this, rfl, by simp only [No99]; exact ⟨by omega, no99_Word _⟩⟩
  · cases h1
theorem n98_sl {t s : Nat} {xs : List (List AV)} : no98 (.sl t s xs) = (t != 98 && no98LL xs) := rfl
theorem n98_str {s : ByteArray} : no98 (.str s) = true := rfl
theorem tag_str {s : ByteArray} : tag0 (.str s) = .str s := rfl
theorem getK_both' {o : Nat} {x : AObj} {K : List (Nat × AObj)} {M : Nat → Option AObj} (h : M o = some x) (k : ∀ p ∈ K, M p.1 = some p.2) : ∀ p ∈ (o, x) :: K, M p.1 = some p.2 := fun p hp => by
  rcases List.mem_cons.1 hp with rfl | hp
  · exact h
  · exact k p hp
theorem askL_sm {zs : List Zone} {me : ByteArray} {o : Own} (ho : o.small) : ∀ i, ∀ x ∈ askL zs me o i, x.sm
  | 0, x, hx => by cases hx
  | i + 1, x, hx => by
    simp only [askL] at hx
    split at hx
    · rcases List.mem_append.1 hx with hx | hx
      · exact askL_sm ho i x hx
      · rw [List.mem_singleton.1 hx]
        have := part_len (zs.getD i default) o.nx
        unfold Own.small at ho
        show (partOf (zs.getD i default) o.nx).length ≤ _; omega
    · exact askL_sm ho i x hx
theorem agW_sm {zs : List Zone} {me : ByteArray} {o : Own} (ho : o.small) : ∀ x ∈ agW zs me o, x.sm := fun x hx => by
  have ho' := ho
  unfold Own.small at ho'
  unfold agW at hx
  split at hx
  · rw [List.mem_singleton.1 hx]; show o.tu.length ≤ _; omega
  · split at hx
    · rw [List.mem_singleton.1 hx]; show o.nx.length ≤ _; omega
    · split at hx
      · exact askL_sm ho _ x hx
      · split at hx
        · split at hx
          · cases hx
          · obtain ⟨z, _, rfl⟩ := List.mem_map.1 hx; show (0 : Nat) ≤ _; omega
        · cases hx
theorem agL_sm {zs : List Zone} {me : ByteArray} {l : List Own} (hl : ∀ o ∈ l, o.small) : ∀ i, i ≤ l.length → ∀ x ∈ agL zs me l i, x.sm
  | 0, _, x, hx => by cases hx
  | i + 1, hi, x, hx => by
    simp only [agL] at hx
    rcases List.mem_append.1 hx with hx | hx
    · exact agL_sm hl i (by omega) x hx
    · exact agW_sm (hl _ (getD_mem' (by omega))) x hx
theorem c_markNWordS (t : Nat) (k : Int) : Contract P 18 [.sl t 8 [], .int .i64 k] [] (.int .i64 k) [] := by
  refine fn_sound ((Env.nil P).add 52 t_markText h_markText) hm k_laws_markHandWordS (nlb rfl) rfl ?_; unfold s_laws_markHandWordS; simp (maxSteps := 2000000) (maxDischargeDepth := 8) only [bitvec_to_nat, reduceIte, Nat.reduceEqDiff, Nat.reduceAdd, Nat.reduceLeDiff, reduceCtorEq, Nat.reduceBEq, Nat.reduceLT, Nat.reduceMod, fmc, t_markText, List.map_nil, List.length_nil]
  refine loop_st (fun _ : Nat => [(5, .int .i64 0)]) (fun _ => []) (fun _ => True) (fun i => i) 0 (by simp only [u_E0, u_E1, u_M0, u_M1, w_setE0, w_setE1, w_setM0, w_setM1, reduceIte, Nat.reduceEqDiff]; exact ⟨by repeat' (first | exact trivial | refine ⟨.inr rfl, ?_⟩), by repeat' (first | exact trivial | refine ⟨rfl, ?_⟩), by first | rfl | simp [closedB, refsIn, refsInL, refsInO, dom, refsInL_nr, *], by first | rfl | simp [keepB, dom]⟩) trivial ?_
  intro i _ NX hN
  unfold l_laws_markHandWordS_0; simp (maxSteps := 2000000) (maxDischargeDepth := 8) only [bitvec_to_nat, reduceIte, Nat.reduceEqDiff, Nat.reduceAdd, Nat.reduceLeDiff, reduceCtorEq, Nat.reduceBEq, Nat.reduceLT, Nat.reduceMod, fmc, t_markText, List.map_nil, List.length_nil]
  first
    | exact fun h => absurd h (by omega)
    | exact ⟨fun h => absurd h (by omega), fun _ => by first | trivial | rfl⟩
set_option maxHeartbeats 8000000 in
theorem c_lawAY (t : Nat) (zs : List Zone) (me : ByteArray) (b : Book) (hz : zs.length ≤ 9223372036854775807 ∧ ∀ y ∈ zs, y.fitp) (hfb : b.fitp) (h0 : hMay zs me b) : Contract P 3 [.sl t 5 (zs.map Zone.row), .str me, .agg (b.row 1)] [] (.bool true) [] := by
  have z1 : 0 ≤ szS Zone.sz zs 1048576 → zs.length ≤ 1048576 := fun h => (szS_ok (p := fun _ => True) meas_Zone (fun _ _ _ _ => trivial) (by omega) h).1
  have z2 : szS Zone.sz zs 1048576 ≤ 1048576 := by have := (meas_szS meas_Zone zs 1048576 (by omega)).2.2; omega
  have z3 : 0 ≤ Book.sz b (szS Zone.sz zs 1048576) → b.small := fun h => Book.sz_ok z2 h
  have z4 : Book.sz b (szS Zone.sz zs 1048576) ≤ max (szS Zone.sz zs 1048576) (-1) := (meas_Book b _ z2).2.2
  have tkZ : List.take zs.length (zs.map Zone.row) = zs.map Zone.row := List.take_of_length_le (by simp)
  have tkM : ∀ (k : Int), List.take zs.length ((ms_Zone k zs.length).map Zone.row) = (ms_Zone k zs.length).map Zone.row := fun k => List.take_of_length_le (by rw [List.length_map, ms_Zone_len]; omega)
  have hst : True := trivial
  simp only [Book.row]
  refine fn_sound (((((Env.nil P).add 7 t_szZoneS h_szZoneS).add 8 t_szBook h_szBook).add 9 t_sAgain h_sAgain).add 14 t_eqZoneS h_eqZoneS) hm k_laws_FnExactHandAgain (nlb rfl) rfl ?_; unfold s_laws_FnExactHandAgain; simp (maxSteps := 2000000) (maxDischargeDepth := 8) only [bitvec_to_nat, reduceIte, Nat.reduceEqDiff, Nat.reduceAdd, Nat.reduceLeDiff, reduceCtorEq, Nat.reduceBEq, Nat.reduceLT, Nat.reduceMod, fmc, t_szZoneS, t_szBook, t_sAgain, t_eqZoneS, bXH, Zone.row, Box6.row, appE, rowsOf, srow, irow, bHX, Word.row, Own.row, Part.row, Seen.row, Book.row, bkV, List.length_map, Int.toNat_natCast, Nat.sub_zero, and_self, eq_self, not_true_eq_false, ne_eq, bne_self_eq_false, h0, tkZ, List.nil_append, if_true, if_false, List.map_nil, tkM, ms_Zone_len, hst, bKS]
  refine fun _ => ⟨⟨by omega, hz⟩, fun g1 => ⟨⟨by omega, hfb⟩, fun g2 => ?_⟩⟩
  have hsZ := z1 (by omega)
  have hsA : b.small := z3 (by omega)
  have smA := hsA.sm
  have hTZ := c_toZoneS t zs hsZ
  have n9Z : No99 (.sl 0 5 (zs.map Zone.row)) := by simp only [No99]; exact ⟨by omega, no99_Zone zs⟩
  have hTA := c_toBook b hsA
  have n9A : No99 (.agg (b.row 0)) := by simp [Book.row, No99, No99L, no99_Own, no99_Part, no99_Seen]
  have q1 := cfB1_le smA
  have q2 := cfB2_le smA
  have hcB : 0 ≤ cfB b ∧ cfB b ≤ 30000000000000 := by have := smA.2.2; unfold cfB; omega
  have eqA : Contract P 15 [.agg (b.row 0), .agg (b.row 0)] [] (.bool true) [] := by
    have hs := hsA
    unfold Book.small at hs
    have h := c_eqBook b b ⟨by omega, by omega, by omega, hs.1.2, fun p hp => by have := hs.2.1.2 p hp; show p.bx.length ≤ _; omega⟩
    simpa using h
  have hMZ := markZone501 1 zs (by omega) (by omega)
  have hMB := markBookKA b (1 + 5 * (zs.length : Int)) smA (by omega)
  have hTO := toZone501 t zs hsZ
  have hKB := toBookKA b hsA
  have hz4 := h0.1.1.1
  have hb6 := h0.1.2.1.1
  have hll := agL_len (zs := zs) (me := me) (l := b.own) b.own.length
  have hmul : b.own.length * (zs.length + 1) ≤ 6 * 5 := Nat.mul_le_mul (by omega) (by omega)
  have hI1 := W_renT 731 160 (by omega) (by omega) (c_iAgainY zs me b hsA hsZ h0) rfl
  have hI2 := W_renT 741 170 (by omega) (by omega) (c_iAgainY zs me b hsA hsZ h0) rfl
  have hsm := agL_sm (zs := zs) (me := me) hsA.1.2 b.own.length (Nat.le_refl _)
  have hst : agS zs me b b.own.length = (agL zs me b.own b.own.length).map VW.w := rfl
  generalize hfx : agL zs me b.own b.own.length = x at *
  generalize hfv : agV b.own b.own.length = vv at *
  have hcf := cf_VW_le hsm (Nat.le_refl _)
  have hZ := markWRA vv x 1 (by omega) hsm (by omega)
  have hH : Contract P 19 [.sl 0 8 (((mo_VW 1 x).map VW.w).map (Word.row 0)), .int .i64 1] [] (.int .i64 (1 + (cf_VW x x.length : Nat))) [] := by
    have h := c_heldVWO 0 0 1 x (by omega) hsm (by omega)
    rw [List.map_map]; exact h
  have eqF : Contract P 13 [.sl 0 8 ((x.map VW.w).map (Word.row 0)), .sl 0 8 ((x.map VW.w).map (Word.row 0))] [] (.bool true) [] := by
    have h := c_eqWordS 0 0 (x.map VW.w) (x.map VW.w) (by rw [List.length_map]; omega) (fun y hy => by
      obtain ⟨z, hz', rfl⟩ := List.mem_map.1 hy
      have := hsm z hz'
      unfold VW.sm at this
      show z.tu.length ≤ _; omega)
    simpa using h
  have hZtag : tag0LL (zs.map Zone.row) = zs.map Zone.row := tag_flat (f := Zone.row) (fun _ => rfl) zs
  have hZ98 : no98LL (zs.map Zone.row) = true := no98_rows (f := Zone.row) (fun _ => rfl) zs
  have hZpur : ∀ (M : Nat → Option AObj) (K : Nat → Option AObj), M 501 = some (.arr 76 0 5 (zs.map Zone.row)) → purN M K (.own 501 0 0 zs.length) = some (.sl 99 5 (zs.map Zone.row)) := fun M K hM => purN_flat hM (fun r hr => by obtain ⟨z, _, rfl⟩ := List.mem_map.1 hr; rfl) (by simp)
  simp only [Book.row] at hTA n9A hKB
  have kO : ∀ q, q < 600 → offs (KA b) q := fun q h => KA_offs (by omega) (by omega) (by omega) (by omega)
  have gK : ∀ (x y : AObj) (B : List (Nat × AObj)), ∀ p ∈ KA b, getM ((105, x) :: (501, y) :: (KA b ++ B)) p.1 = some p.2 := fun x y B => getK_cons (kO 105 (by omega)) (getK_cons (kO 501 (by omega)) (getK_self (KA_uniq b)))
  have wO : ∀ (v : Nat) (l : List VW) (q : Nat), q < 600 → offs (RA v l) q := fun v l q h => WordO_offs (by omega) (by omega) (by omega)
  have wU : ∀ {o v k : Nat} {l : List VW}, (h : o < 1000 := by omega) → (h2 : k + 8 ≤ 1000 := by omega) → ∀ p ∈ WordS o v k 0 l, getM (WordS o v k 0 l) p.1 = some p.2 := fun h h2 => uniq_self (WordO_uniq h h2)
  have gR1 : ∀ (v : Nat) (l : List VW) (x y z : AObj), ∀ p ∈ RA v l, getM ((105, x) :: (501, y) :: (KA b ++ (110, z) :: RA v l)) p.1 = some p.2 := fun v l x y z => getK_cons (wO _ _ 105 (by omega)) (getK_cons (wO _ _ 501 (by omega)) (getK_app KARA (getK_cons (wO _ _ 110 (by omega)) (uniq_self (WordO_uniq (by omega) (by omega))))))
  have gR2 : ∀ (v : Nat) (l : List VW) (x y z : AObj), ∀ p ∈ RA v l, getM ((105, x) :: (501, y) :: (gone (KA b) ++ (110, z) :: RA v l)) p.1 = some p.2 := fun v l x y z => getK_cons (wO _ _ 105 (by omega)) (getK_cons (wO _ _ 501 (by omega)) (getK_app (dis_goneL KARA) (getK_cons (wO _ _ 110 (by omega)) (uniq_self (WordO_uniq (by omega) (by omega))))))
  have gR3 : ∀ (v : Nat) (l : List VW) (x y z : AObj) (B : List (Nat × AObj)), ∀ p ∈ RA v l, getM ((105, x) :: (501, y) :: (gone (KA b) ++ (110, z) :: (RA v l ++ B))) p.1 = some p.2 := fun v l x y z B => getK_cons (wO _ _ 105 (by omega)) (getK_cons (wO _ _ 501 (by omega)) (getK_app (dis_goneL KARA) (getK_cons (wO _ _ 110 (by omega)) (getK_self (WordO_uniq (by omega) (by omega))))))
  have bO : ∀ (v : Nat) (l : List VW) (q : Nat), q < 600 → offs (RB v l) q := fun v l q h => WordO_offs (by omega) (by omega) (by omega)
  have gB1 : ∀ (v v' : Nat) (l l' : List VW) (x y z : AObj), ∀ p ∈ RB v l, getM ((105, x) :: (501, y) :: (gone (KA b) ++ (110, z) :: (RA v' l' ++ RB v l))) p.1 = some p.2 := fun v v' l l' x y z => getK_cons (bO _ _ 105 (by omega)) (getK_cons (bO _ _ 501 (by omega)) (getK_app (dis_goneL KARB) (getK_cons (bO _ _ 110 (by omega)) (getK_app RARB (uniq_self (WordO_uniq (by omega) (by omega)))))))
  have tgW : ∀ {l l' : List Word}, Contract P 13 [.sl 0 8 (l.map (Word.row 0)), .sl 0 8 (l'.map (Word.row 0))] [] (.bool true) [] → Contract P 13 (tag0L [.sl 99 8 (l.map (Word.row 99)), .sl 0 8 (l'.map (Word.row 0))]) [] (.bool true) [] := fun h => by simp only [tag0L, tag_sl, tag_Words]; exact h
  have tgH : ∀ {l : List Word} {r : AV}, Contract P 19 [.sl 0 8 (l.map (Word.row 0)), .int .i64 1] [] r [] → Contract P 19 (tag0L [.sl 99 8 (l.map (Word.row 99)), .int .i64 1]) [] r [] := fun h => by simp only [tag0L, tag_sl, tag_int, tag_Words]; exact h
  have nW : ∀ (l l' : List Word), no98L [.sl 99 8 (l.map (Word.row 99)), .sl 0 8 (l'.map (Word.row 0))] = true := fun l l' => by simp only [no98L, no98, no98_Words (show (99 : Nat) ≠ 98 by omega), no98_Words (show (0 : Nat) ≠ 98 by omega)]; rfl
  have nH : ∀ (l : List Word) (k : Int), no98L [.sl 99 8 (l.map (Word.row 99)), .int .i64 k] = true := fun l k => by simp only [no98L, no98, no98_Words (show (99 : Nat) ≠ 98 by omega)]; rfl
  refine ⟨_, _, .inr (.inl ⟨rfl, _, rfl, hTZ, rfl, n9Z⟩), ?_⟩
  simp (maxSteps := 2000000) (maxDischargeDepth := 8) only [bitvec_to_nat, reduceIte, Nat.reduceEqDiff, Nat.reduceAdd, Nat.reduceLeDiff, reduceCtorEq, Nat.reduceBEq, Nat.reduceLT, Nat.reduceMod, fmc, t_szZoneS, t_szBook, t_sAgain, t_eqZoneS, bXH, Zone.row, Box6.row, appE, rowsOf, srow, irow, bHX, Word.row, Own.row, Part.row, Seen.row, Book.row, bkV, List.length_map, Int.toNat_natCast, Nat.sub_zero, and_self, eq_self, not_true_eq_false, ne_eq, bne_self_eq_false, h0, tkZ, List.nil_append, if_true, if_false, List.map_nil, tkM, ms_Zone_len, hst, bKS]
  refine ⟨_, _, .inr (.inl ⟨rfl, _, rfl, hTA, rfl, n9A⟩), ?_⟩
  simp (maxSteps := 2000000) (maxDischargeDepth := 8) only [bitvec_to_nat, reduceIte, Nat.reduceEqDiff, Nat.reduceAdd, Nat.reduceLeDiff, reduceCtorEq, Nat.reduceBEq, Nat.reduceLT, Nat.reduceMod, fmc, t_szZoneS, t_szBook, t_sAgain, t_eqZoneS, bXH, Zone.row, Box6.row, appE, rowsOf, srow, irow, bHX, Word.row, Own.row, Part.row, Seen.row, Book.row, bkV, List.length_map, Int.toNat_natCast, Nat.sub_zero, and_self, eq_self, not_true_eq_false, ne_eq, bne_self_eq_false, h0, tkZ, List.nil_append, if_true, if_false, List.map_nil, tkM, ms_Zone_len, hst, bKS]
  refine ⟨⟨hsA, hsZ⟩, _, _, .inr (.inr (.inl ⟨_, rfl, hTO, new_one rfl, by simp [refsIn, refsInL, dom], rfl, by simp [No99], by simp [No99O, no99_Zone]⟩)), ?_⟩
  simp (maxSteps := 2000000) (maxDischargeDepth := 8) only [bitvec_to_nat, reduceIte, Nat.reduceEqDiff, Nat.reduceAdd, Nat.reduceLeDiff, reduceCtorEq, Nat.reduceBEq, Nat.reduceLT, Nat.reduceMod, fmc, t_szZoneS, t_szBook, t_sAgain, t_eqZoneS, bXH, Zone.row, Box6.row, appE, rowsOf, srow, irow, bHX, Word.row, Own.row, Part.row, Seen.row, Book.row, bkV, List.length_map, Int.toNat_natCast, Nat.sub_zero, and_self, eq_self, not_true_eq_false, ne_eq, bne_self_eq_false, h0, tkZ, List.nil_append, if_true, if_false, List.map_nil, tkM, ms_Zone_len, hst, bKS]
  refine ⟨_, _, .inr (.inr (.inl ⟨_, rfl, hKB, newK_rev (newK_cons (kO 105 (by omega)) (newK_cons (kO 501 (by omega)) newK_nil)), bkr_refV, bkr_refs, by simp [bkV, No99, No99L], KA_r99⟩)), ?_⟩
  simp (maxSteps := 2000000) (maxDischargeDepth := 8) only [bitvec_to_nat, reduceIte, Nat.reduceEqDiff, Nat.reduceAdd, Nat.reduceLeDiff, reduceCtorEq, Nat.reduceBEq, Nat.reduceLT, Nat.reduceMod, fmc, t_szZoneS, t_szBook, t_sAgain, t_eqZoneS, bXH, Zone.row, Box6.row, appE, rowsOf, srow, irow, bHX, Word.row, Own.row, Part.row, Seen.row, Book.row, bkV, List.length_map, Int.toNat_natCast, Nat.sub_zero, and_self, eq_self, not_true_eq_false, ne_eq, bne_self_eq_false, h0, tkZ, List.nil_append, if_true, if_false, List.map_nil, tkM, ms_Zone_len, hst, bKS]
  refine ⟨_, _, callR_look (r := .own 731 vv 0 x.length) (news := (RA vv x).reverse) (keep := (501, .arr 76 0 5 (zs.map Zone.row)) :: KA b) (args' := [.sl 99 5 (zs.map Zone.row), .str me, .agg (b.row 99)]) (by simp only [tag0L, tag_sl, tag_str, tag_bk, hZtag]; exact hI1) (getK_both' rfl (gK _ _ _)) (purNL_cons (hZpur _ _ rfl) (purNL_cons rfl (purNL_cons (purN_bk (gK _ _ _) (getK_cons (kO 501 (by omega)) (uniq_self (KA_uniq b)))) rfl))) (by simp only [no98L, no98_bk 99 (by omega), n98_sl, n98_str, hZ98]; rfl) rfl W_plain (newK_rev (newK_cons (wO _ _ 105 (by omega)) (newK_cons (wO _ _ 501 (by omega)) (newK_app KARA (newK_cons (wO _ _ 110 (by omega)) newK_nil))))) W_refV (OO_refr rok_VW hes_Word) trivial W_r99, ?_⟩
  simp (maxSteps := 2000000) (maxDischargeDepth := 8) only [bitvec_to_nat, reduceIte, Nat.reduceEqDiff, Nat.reduceAdd, Nat.reduceLeDiff, reduceCtorEq, Nat.reduceBEq, Nat.reduceLT, Nat.reduceMod, fmc, t_szZoneS, t_szBook, t_sAgain, t_eqZoneS, bXH, Zone.row, Box6.row, appE, rowsOf, srow, irow, bHX, Word.row, Own.row, Part.row, Seen.row, Book.row, bkV, List.length_map, Int.toNat_natCast, Nat.sub_zero, and_self, eq_self, not_true_eq_false, ne_eq, bne_self_eq_false, h0, tkZ, List.nil_append, if_true, if_false, List.map_nil, tkM, ms_Zone_len, hst, bKS]
  refine ⟨_, _, callR_look (r := .bool true) (news := []) (keep := RA vv x) (args' := [.sl 99 8 ((x.map VW.w).map (Word.row 99)), .sl 0 8 ((x.map VW.w).map (Word.row 0))]) (tgW eqF) (gR1 _ _ _ _ _) (purNL_cons (purN_W rfl (gR1 _ _ _ _ _) wU) rfl) (nW _ _) rfl rfl (by simp) rfl rfl trivial (by simp), ?_⟩
  simp (maxSteps := 2000000) (maxDischargeDepth := 8) only [bitvec_to_nat, reduceIte, Nat.reduceEqDiff, Nat.reduceAdd, Nat.reduceLeDiff, reduceCtorEq, Nat.reduceBEq, Nat.reduceLT, Nat.reduceMod, fmc, t_szZoneS, t_szBook, t_sAgain, t_eqZoneS, bXH, Zone.row, Box6.row, appE, rowsOf, srow, irow, bHX, Word.row, Own.row, Part.row, Seen.row, Book.row, bkV, List.length_map, Int.toNat_natCast, Nat.sub_zero, and_self, eq_self, not_true_eq_false, ne_eq, bne_self_eq_false, h0, tkZ, List.nil_append, if_true, if_false, List.map_nil, tkM, ms_Zone_len, hst, bKS]
  refine ⟨_, _, .inr (.inl ⟨rfl, _, rfl, hTZ, rfl, n9Z⟩), ?_⟩
  simp (maxSteps := 2000000) (maxDischargeDepth := 8) only [bitvec_to_nat, reduceIte, Nat.reduceEqDiff, Nat.reduceAdd, Nat.reduceLeDiff, reduceCtorEq, Nat.reduceBEq, Nat.reduceLT, Nat.reduceMod, fmc, t_szZoneS, t_szBook, t_sAgain, t_eqZoneS, bXH, Zone.row, Box6.row, appE, rowsOf, srow, irow, bHX, Word.row, Own.row, Part.row, Seen.row, Book.row, bkV, List.length_map, Int.toNat_natCast, Nat.sub_zero, and_self, eq_self, not_true_eq_false, ne_eq, bne_self_eq_false, h0, tkZ, List.nil_append, if_true, if_false, List.map_nil, tkM, ms_Zone_len, hst, bKS]
  refine ⟨by omega, _, _, .inr (.inl ⟨rfl, _, rfl, hTA, rfl, n9A⟩), ?_⟩
  simp (maxSteps := 2000000) (maxDischargeDepth := 8) only [bitvec_to_nat, reduceIte, Nat.reduceEqDiff, Nat.reduceAdd, Nat.reduceLeDiff, reduceCtorEq, Nat.reduceBEq, Nat.reduceLT, Nat.reduceMod, fmc, t_szZoneS, t_szBook, t_sAgain, t_eqZoneS, bXH, Zone.row, Box6.row, appE, rowsOf, srow, irow, bHX, Word.row, Own.row, Part.row, Seen.row, Book.row, bkV, List.length_map, Int.toNat_natCast, Nat.sub_zero, and_self, eq_self, not_true_eq_false, ne_eq, bne_self_eq_false, h0, tkZ, List.nil_append, if_true, if_false, List.map_nil, tkM, ms_Zone_len, hst, bKS]
  refine ⟨_, _, callR_look (r := .bool true) (news := []) (keep := KA b) (args' := [.agg (b.row 99), .agg (b.row 0)]) (by simp only [tag0L, tag_bk]; exact eqA) (gK _ _ _) (purNL_cons (purN_bk (gK _ _ _) (uniq_self (KA_uniq b))) rfl) (by simp only [no98L, no98_bk 99 (by omega), no98_bk 0 (by omega), Bool.and_self]) rfl rfl (by simp) rfl rfl trivial (by simp), ?_⟩
  simp (maxSteps := 2000000) (maxDischargeDepth := 8) only [bitvec_to_nat, reduceIte, Nat.reduceEqDiff, Nat.reduceAdd, Nat.reduceLeDiff, reduceCtorEq, Nat.reduceBEq, Nat.reduceLT, Nat.reduceMod, fmc, t_szZoneS, t_szBook, t_sAgain, t_eqZoneS, bXH, Zone.row, Box6.row, appE, rowsOf, srow, irow, bHX, Word.row, Own.row, Part.row, Seen.row, Book.row, bkV, List.length_map, Int.toNat_natCast, Nat.sub_zero, and_self, eq_self, not_true_eq_false, ne_eq, bne_self_eq_false, h0, tkZ, List.nil_append, if_true, if_false, List.map_nil, tkM, ms_Zone_len, hst, bKS]
  refine ⟨_, _, callR_same hMZ rfl (getK_one rfl) (by simp [refsInL, refsIn, dom]) rfl rfl rfl, ?_⟩
  simp (maxSteps := 2000000) (maxDischargeDepth := 8) only [bitvec_to_nat, reduceIte, Nat.reduceEqDiff, Nat.reduceAdd, Nat.reduceLeDiff, reduceCtorEq, Nat.reduceBEq, Nat.reduceLT, Nat.reduceMod, fmc, t_szZoneS, t_szBook, t_sAgain, t_eqZoneS, bXH, Zone.row, Box6.row, appE, rowsOf, srow, irow, bHX, Word.row, Own.row, Part.row, Seen.row, Book.row, bkV, List.length_map, Int.toNat_natCast, Nat.sub_zero, and_self, eq_self, not_true_eq_false, ne_eq, bne_self_eq_false, h0, tkZ, List.nil_append, if_true, if_false, List.map_nil, tkM, ms_Zone_len, hst, bKS]
  refine ⟨_, _, callR_gone hMB (gK _ _ _) (by have := bk_refV (b := b) (a := 611) (va := 0) (c := 612) (vc := 0) (d := 613) (vd := 0) (kO := 120) (kP := 140); simpa only [bkV, refsInL, refsIn, Bool.and_true] using this) bk_refs rfl, ?_⟩
  simp (maxSteps := 2000000) (maxDischargeDepth := 8) only [bitvec_to_nat, reduceIte, Nat.reduceEqDiff, Nat.reduceAdd, Nat.reduceLeDiff, reduceCtorEq, Nat.reduceBEq, Nat.reduceLT, Nat.reduceMod, fmc, t_szZoneS, t_szBook, t_sAgain, t_eqZoneS, bXH, Zone.row, Box6.row, appE, rowsOf, srow, irow, bHX, Word.row, Own.row, Part.row, Seen.row, Book.row, bkV, List.length_map, Int.toNat_natCast, Nat.sub_zero, and_self, eq_self, not_true_eq_false, ne_eq, bne_self_eq_false, h0, tkZ, List.nil_append, if_true, if_false, List.map_nil, tkM, ms_Zone_len, hst, bKS]
  refine ⟨fun h => by omega, fun _ => ⟨_, _, callR_look (r := .bool true) (news := []) (keep := RA vv x) (args' := [.sl 99 8 ((x.map VW.w).map (Word.row 99)), .sl 0 8 ((x.map VW.w).map (Word.row 0))]) (tgW eqF) (gR2 _ _ _ _ _) (purNL_cons (purN_W rfl (gR2 _ _ _ _ _) wU) rfl) (nW _ _) rfl rfl (by simp) rfl rfl trivial (by simp), ?_⟩⟩
  simp (maxSteps := 2000000) (maxDischargeDepth := 8) only [bitvec_to_nat, reduceIte, Nat.reduceEqDiff, Nat.reduceAdd, Nat.reduceLeDiff, reduceCtorEq, Nat.reduceBEq, Nat.reduceLT, Nat.reduceMod, fmc, t_szZoneS, t_szBook, t_sAgain, t_eqZoneS, bXH, Zone.row, Box6.row, appE, rowsOf, srow, irow, bHX, Word.row, Own.row, Part.row, Seen.row, Book.row, bkV, List.length_map, Int.toNat_natCast, Nat.sub_zero, and_self, eq_self, not_true_eq_false, ne_eq, bne_self_eq_false, h0, tkZ, List.nil_append, if_true, if_false, List.map_nil, tkM, ms_Zone_len, hst, bKS]
  refine ⟨_, _, callR_same hZ (OO_dom shp_VW mo_VW_len) (gR2 _ _ _ _ _) (by simp [refsInL, refsIn, OO, dom]) (OO_refs rok_VW hes_Word) rfl (OO_refs rok_VW hes_Word), ?_⟩
  simp (maxSteps := 2000000) (maxDischargeDepth := 8) only [bitvec_to_nat, reduceIte, Nat.reduceEqDiff, Nat.reduceAdd, Nat.reduceLeDiff, reduceCtorEq, Nat.reduceBEq, Nat.reduceLT, Nat.reduceMod, fmc, t_szZoneS, t_szBook, t_sAgain, t_eqZoneS, bXH, Zone.row, Box6.row, appE, rowsOf, srow, irow, bHX, Word.row, Own.row, Part.row, Seen.row, Book.row, bkV, List.length_map, Int.toNat_natCast, Nat.sub_zero, and_self, eq_self, not_true_eq_false, ne_eq, bne_self_eq_false, h0, tkZ, List.nil_append, if_true, if_false, List.map_nil, tkM, ms_Zone_len, hst, bKS]
  refine ⟨_, _, callR_look (r := .int .i64 (1 + (cf_VW x x.length : Nat))) (news := []) (keep := RA vv (mo_VW 1 x)) (args' := [.sl 99 8 (((mo_VW 1 x).map VW.w).map (Word.row 99)), .int .i64 1]) (tgH hH) (gR2 _ _ _ _ _) (purNL_cons (purN_W mo_VW_len.symm (gR2 _ _ _ _ _) wU) rfl) (nH _ _) rfl rfl (by simp) rfl rfl trivial (by simp), ?_⟩
  simp (maxSteps := 2000000) (maxDischargeDepth := 8) only [bitvec_to_nat, reduceIte, Nat.reduceEqDiff, Nat.reduceAdd, Nat.reduceLeDiff, reduceCtorEq, Nat.reduceBEq, Nat.reduceLT, Nat.reduceMod, fmc, t_szZoneS, t_szBook, t_sAgain, t_eqZoneS, bXH, Zone.row, Box6.row, appE, rowsOf, srow, irow, bHX, Word.row, Own.row, Part.row, Seen.row, Book.row, bkV, List.length_map, Int.toNat_natCast, Nat.sub_zero, and_self, eq_self, not_true_eq_false, ne_eq, bne_self_eq_false, h0, tkZ, List.nil_append, if_true, if_false, List.map_nil, tkM, ms_Zone_len, hst, bKS]
  refine ⟨fun h => by omega, fun _ => ⟨_, _, .inr (.inl ⟨rfl, _, rfl, hTZ, rfl, n9Z⟩), ?_⟩⟩
  simp (maxSteps := 2000000) (maxDischargeDepth := 8) only [bitvec_to_nat, reduceIte, Nat.reduceEqDiff, Nat.reduceAdd, Nat.reduceLeDiff, reduceCtorEq, Nat.reduceBEq, Nat.reduceLT, Nat.reduceMod, fmc, t_szZoneS, t_szBook, t_sAgain, t_eqZoneS, bXH, Zone.row, Box6.row, appE, rowsOf, srow, irow, bHX, Word.row, Own.row, Part.row, Seen.row, Book.row, bkV, List.length_map, Int.toNat_natCast, Nat.sub_zero, and_self, eq_self, not_true_eq_false, ne_eq, bne_self_eq_false, h0, tkZ, List.nil_append, if_true, if_false, List.map_nil, tkM, ms_Zone_len, hst, bKS]
  refine ⟨_, _, .inr (.inl ⟨rfl, _, rfl, hTA, rfl, n9A⟩), ?_⟩
  simp (maxSteps := 2000000) (maxDischargeDepth := 8) only [bitvec_to_nat, reduceIte, Nat.reduceEqDiff, Nat.reduceAdd, Nat.reduceLeDiff, reduceCtorEq, Nat.reduceBEq, Nat.reduceLT, Nat.reduceMod, fmc, t_szZoneS, t_szBook, t_sAgain, t_eqZoneS, bXH, Zone.row, Box6.row, appE, rowsOf, srow, irow, bHX, Word.row, Own.row, Part.row, Seen.row, Book.row, bkV, List.length_map, Int.toNat_natCast, Nat.sub_zero, and_self, eq_self, not_true_eq_false, ne_eq, bne_self_eq_false, h0, tkZ, List.nil_append, if_true, if_false, List.map_nil, tkM, ms_Zone_len, hst, bKS]
  refine ⟨_, _, .inr (.inr (.inl ⟨_, rfl, hI2, (newK_rev (newK_cons (bO _ _ 105 (by omega)) (newK_cons (bO _ _ 501 (by omega)) (newK_app (dis_goneL KARB) (newK_cons (bO _ _ 110 (by omega)) (newK_app0 RARB)))))), W_refV, OO_refr rok_VW hes_Word, trivial, W_r99⟩)), ?_⟩
  simp (maxSteps := 2000000) (maxDischargeDepth := 8) only [bitvec_to_nat, reduceIte, Nat.reduceEqDiff, Nat.reduceAdd, Nat.reduceLeDiff, reduceCtorEq, Nat.reduceBEq, Nat.reduceLT, Nat.reduceMod, fmc, t_szZoneS, t_szBook, t_sAgain, t_eqZoneS, bXH, Zone.row, Box6.row, appE, rowsOf, srow, irow, bHX, Word.row, Own.row, Part.row, Seen.row, Book.row, bkV, List.length_map, Int.toNat_natCast, Nat.sub_zero, and_self, eq_self, not_true_eq_false, ne_eq, bne_self_eq_false, h0, tkZ, List.nil_append, if_true, if_false, List.map_nil, tkM, ms_Zone_len, hst, bKS]
  refine ⟨_, _, callR_look (r := .bool true) (news := []) (keep := RB vv x) (args' := [.sl 99 8 ((x.map VW.w).map (Word.row 99)), .sl 0 8 ((x.map VW.w).map (Word.row 0))]) (tgW eqF) (gB1 _ _ _ _ _ _ _) (purNL_cons (purN_W rfl (gB1 _ _ _ _ _ _ _) wU) rfl) (nW _ _) rfl rfl (by simp) rfl rfl trivial (by simp), ?_⟩
  simp (maxSteps := 2000000) (maxDischargeDepth := 8) only [bitvec_to_nat, reduceIte, Nat.reduceEqDiff, Nat.reduceAdd, Nat.reduceLeDiff, reduceCtorEq, Nat.reduceBEq, Nat.reduceLT, Nat.reduceMod, fmc, t_szZoneS, t_szBook, t_sAgain, t_eqZoneS, bXH, Zone.row, Box6.row, appE, rowsOf, srow, irow, bHX, Word.row, Own.row, Part.row, Seen.row, Book.row, bkV, List.length_map, Int.toNat_natCast, Nat.sub_zero, and_self, eq_self, not_true_eq_false, ne_eq, bne_self_eq_false, h0, tkZ, List.nil_append, if_true, if_false, List.map_nil, tkM, ms_Zone_len, hst, bKS]
  refine ⟨_, _, callR_look (r := .int .i64 (1 + (cf_VW x x.length : Nat))) (news := []) (keep := RA vv (mo_VW 1 x)) (args' := [.sl 99 8 (((mo_VW 1 x).map VW.w).map (Word.row 99)), .int .i64 1]) (tgH hH) (gR3 _ _ _ _ _ _) (purNL_cons (purN_W mo_VW_len.symm (gR3 _ _ _ _ _ _) wU) rfl) (nH _ _) rfl rfl (by simp) rfl rfl trivial (by simp), ?_⟩
  simp (maxSteps := 2000000) (maxDischargeDepth := 8) only [bitvec_to_nat, reduceIte, Nat.reduceEqDiff, Nat.reduceAdd, Nat.reduceLeDiff, reduceCtorEq, Nat.reduceBEq, Nat.reduceLT, Nat.reduceMod, fmc, t_szZoneS, t_szBook, t_sAgain, t_eqZoneS, bXH, Zone.row, Box6.row, appE, rowsOf, srow, irow, bHX, Word.row, Own.row, Part.row, Seen.row, Book.row, bkV, List.length_map, Int.toNat_natCast, Nat.sub_zero, and_self, eq_self, not_true_eq_false, ne_eq, bne_self_eq_false, h0, tkZ, List.nil_append, if_true, if_false, List.map_nil, tkM, ms_Zone_len, hst, bKS]
  exact fun h => by omega

set_option maxHeartbeats 8000000 in
theorem c_lawAN (t : Nat) (zs : List Zone) (me : ByteArray) (b : Book) (hz : zs.length ≤ 9223372036854775807 ∧ ∀ y ∈ zs, y.fitp) (hfb : b.fitp) (h0 : ¬ hMay zs me b) : Contract P 3 [.sl t 5 (zs.map Zone.row), .str me, .agg (b.row 1)] [] (.bool true) [] := by
  have z1 : 0 ≤ szS Zone.sz zs 1048576 → zs.length ≤ 1048576 := fun h => (szS_ok (p := fun _ => True) meas_Zone (fun _ _ _ _ => trivial) (by omega) h).1
  have z2 : szS Zone.sz zs 1048576 ≤ 1048576 := by have := (meas_szS meas_Zone zs 1048576 (by omega)).2.2; omega
  have z3 : 0 ≤ Book.sz b (szS Zone.sz zs 1048576) → b.small := fun h => Book.sz_ok z2 h
  have z4 : Book.sz b (szS Zone.sz zs 1048576) ≤ max (szS Zone.sz zs 1048576) (-1) := (meas_Book b _ z2).2.2
  have tkZ : List.take zs.length (zs.map Zone.row) = zs.map Zone.row := List.take_of_length_le (by simp)
  have tkM : ∀ (k : Int), List.take zs.length ((ms_Zone k zs.length).map Zone.row) = (ms_Zone k zs.length).map Zone.row := fun k => List.take_of_length_le (by rw [List.length_map, ms_Zone_len]; omega)
  have hst : True := trivial
  simp only [Book.row]
  refine fn_sound (((((Env.nil P).add 7 t_szZoneS h_szZoneS).add 8 t_szBook h_szBook).add 9 t_sAgain h_sAgain).add 14 t_eqZoneS h_eqZoneS) hm k_laws_FnExactHandAgain (nlb rfl) rfl ?_; unfold s_laws_FnExactHandAgain; simp (maxSteps := 2000000) (maxDischargeDepth := 8) only [bitvec_to_nat, reduceIte, Nat.reduceEqDiff, Nat.reduceAdd, Nat.reduceLeDiff, reduceCtorEq, Nat.reduceBEq, Nat.reduceLT, Nat.reduceMod, fmc, t_szZoneS, t_szBook, t_sAgain, t_eqZoneS, bXH, Zone.row, Box6.row, appE, rowsOf, srow, irow, bHX, Word.row, Own.row, Part.row, Seen.row, Book.row, bkV, List.length_map, Int.toNat_natCast, Nat.sub_zero, and_self, eq_self, not_true_eq_false, ne_eq, bne_self_eq_false, h0, tkZ, List.nil_append, if_true, if_false, List.map_nil, tkM, ms_Zone_len, hst, bKS]
  refine fun _ => ⟨⟨by omega, hz⟩, fun g1 => ⟨⟨by omega, hfb⟩, fun g2 => ?_⟩⟩
  have hsZ := z1 (by omega)
  have hsA : b.small := z3 (by omega)
  have smA := hsA.sm
  have hTZ := c_toZoneS t zs hsZ
  have n9Z : No99 (.sl 0 5 (zs.map Zone.row)) := by simp only [No99]; exact ⟨by omega, no99_Zone zs⟩
  have hTA := c_toBook b hsA
  have n9A : No99 (.agg (b.row 0)) := by simp [Book.row, No99, No99L, no99_Own, no99_Part, no99_Seen]
  have q1 := cfB1_le smA
  have q2 := cfB2_le smA
  have hcB : 0 ≤ cfB b ∧ cfB b ≤ 30000000000000 := by have := smA.2.2; unfold cfB; omega
  have eqA : Contract P 15 [.agg (b.row 0), .agg (b.row 0)] [] (.bool true) [] := by
    have hs := hsA
    unfold Book.small at hs
    have h := c_eqBook b b ⟨by omega, by omega, by omega, hs.1.2, fun p hp => by have := hs.2.1.2 p hp; show p.bx.length ≤ _; omega⟩
    simpa using h
  have hMZ := markZone501 1 zs (by omega) (by omega)
  have hMB := markBookKA b (1 + 5 * (zs.length : Int)) smA (by omega)
  have hTO := toZone501 t zs hsZ
  have hKB := toBookKA b hsA
  have hI1 := c_iAgainN zs me b hsA hsZ h0
  have hst : True := trivial
  have eqF := c_eqWordS 98 0 [] [] (by simp) (by simp)
  have hH : Contract P 19 [.sl 98 8 [], .int .i64 1] [] (.int .i64 1) [] := by simpa [cf_VW, mo_VW] using c_heldVWO 98 0 1 [] (by simp) (by simp) (by omega)
  have hZ := c_markNWordS 98 1
  simp only [List.map_nil, decide_true] at eqF
  have hZtag : tag0LL (zs.map Zone.row) = zs.map Zone.row := tag_flat (f := Zone.row) (fun _ => rfl) zs
  have hZ98 : no98LL (zs.map Zone.row) = true := no98_rows (f := Zone.row) (fun _ => rfl) zs
  have hZpur : ∀ (M : Nat → Option AObj) (K : Nat → Option AObj), M 501 = some (.arr 76 0 5 (zs.map Zone.row)) → purN M K (.own 501 0 0 zs.length) = some (.sl 99 5 (zs.map Zone.row)) := fun M K hM => purN_flat hM (fun r hr => by obtain ⟨z, _, rfl⟩ := List.mem_map.1 hr; rfl) (by simp)
  simp only [Book.row] at hTA n9A hKB
  have kO : ∀ q, q < 600 → offs (KA b) q := fun q h => KA_offs (by omega) (by omega) (by omega) (by omega)
  have gK : ∀ (x y : AObj) (B : List (Nat × AObj)), ∀ p ∈ KA b, getM ((105, x) :: (501, y) :: (KA b ++ B)) p.1 = some p.2 := fun x y B => getK_cons (kO 105 (by omega)) (getK_cons (kO 501 (by omega)) (getK_self (KA_uniq b)))
  refine ⟨_, _, .inr (.inl ⟨rfl, _, rfl, hTZ, rfl, n9Z⟩), ?_⟩
  simp (maxSteps := 2000000) (maxDischargeDepth := 8) only [bitvec_to_nat, reduceIte, Nat.reduceEqDiff, Nat.reduceAdd, Nat.reduceLeDiff, reduceCtorEq, Nat.reduceBEq, Nat.reduceLT, Nat.reduceMod, fmc, t_szZoneS, t_szBook, t_sAgain, t_eqZoneS, bXH, Zone.row, Box6.row, appE, rowsOf, srow, irow, bHX, Word.row, Own.row, Part.row, Seen.row, Book.row, bkV, List.length_map, Int.toNat_natCast, Nat.sub_zero, and_self, eq_self, not_true_eq_false, ne_eq, bne_self_eq_false, h0, tkZ, List.nil_append, if_true, if_false, List.map_nil, tkM, ms_Zone_len, hst, bKS]
  refine ⟨_, _, .inr (.inl ⟨rfl, _, rfl, hTA, rfl, n9A⟩), ?_⟩
  simp (maxSteps := 2000000) (maxDischargeDepth := 8) only [bitvec_to_nat, reduceIte, Nat.reduceEqDiff, Nat.reduceAdd, Nat.reduceLeDiff, reduceCtorEq, Nat.reduceBEq, Nat.reduceLT, Nat.reduceMod, fmc, t_szZoneS, t_szBook, t_sAgain, t_eqZoneS, bXH, Zone.row, Box6.row, appE, rowsOf, srow, irow, bHX, Word.row, Own.row, Part.row, Seen.row, Book.row, bkV, List.length_map, Int.toNat_natCast, Nat.sub_zero, and_self, eq_self, not_true_eq_false, ne_eq, bne_self_eq_false, h0, tkZ, List.nil_append, if_true, if_false, List.map_nil, tkM, ms_Zone_len, hst, bKS]
  refine ⟨⟨hsA, hsZ⟩, _, _, .inr (.inr (.inl ⟨_, rfl, hTO, new_one rfl, by simp [refsIn, refsInL, dom], rfl, by simp [No99], by simp [No99O, no99_Zone]⟩)), ?_⟩
  simp (maxSteps := 2000000) (maxDischargeDepth := 8) only [bitvec_to_nat, reduceIte, Nat.reduceEqDiff, Nat.reduceAdd, Nat.reduceLeDiff, reduceCtorEq, Nat.reduceBEq, Nat.reduceLT, Nat.reduceMod, fmc, t_szZoneS, t_szBook, t_sAgain, t_eqZoneS, bXH, Zone.row, Box6.row, appE, rowsOf, srow, irow, bHX, Word.row, Own.row, Part.row, Seen.row, Book.row, bkV, List.length_map, Int.toNat_natCast, Nat.sub_zero, and_self, eq_self, not_true_eq_false, ne_eq, bne_self_eq_false, h0, tkZ, List.nil_append, if_true, if_false, List.map_nil, tkM, ms_Zone_len, hst, bKS]
  refine ⟨_, _, .inr (.inr (.inl ⟨_, rfl, hKB, newK_rev (newK_cons (kO 105 (by omega)) (newK_cons (kO 501 (by omega)) newK_nil)), bkr_refV, bkr_refs, by simp [bkV, No99, No99L], KA_r99⟩)), ?_⟩
  simp (maxSteps := 2000000) (maxDischargeDepth := 8) only [bitvec_to_nat, reduceIte, Nat.reduceEqDiff, Nat.reduceAdd, Nat.reduceLeDiff, reduceCtorEq, Nat.reduceBEq, Nat.reduceLT, Nat.reduceMod, fmc, t_szZoneS, t_szBook, t_sAgain, t_eqZoneS, bXH, Zone.row, Box6.row, appE, rowsOf, srow, irow, bHX, Word.row, Own.row, Part.row, Seen.row, Book.row, bkV, List.length_map, Int.toNat_natCast, Nat.sub_zero, and_self, eq_self, not_true_eq_false, ne_eq, bne_self_eq_false, h0, tkZ, List.nil_append, if_true, if_false, List.map_nil, tkM, ms_Zone_len, hst, bKS]
  refine ⟨_, _, callR_look (r := .sl 98 8 []) (news := []) (keep := (501, .arr 76 0 5 (zs.map Zone.row)) :: KA b) (args' := [.sl 99 5 (zs.map Zone.row), .str me, .agg (b.row 99)]) (by simp only [tag0L, tag_sl, tag_str, tag_bk, hZtag]; exact hI1) (getK_both' rfl (gK _ _ _)) (purNL_cons (hZpur _ _ rfl) (purNL_cons rfl (purNL_cons (purN_bk (gK _ _ _) (getK_cons (kO 501 (by omega)) (uniq_self (KA_uniq b)))) rfl))) (by simp only [no98L, no98_bk 99 (by omega), n98_sl, n98_str, hZ98]; rfl) rfl rfl (by simp) rfl rfl (by simp [No99, No99LL]) (by simp), ?_⟩
  simp (maxSteps := 2000000) (maxDischargeDepth := 8) only [bitvec_to_nat, reduceIte, Nat.reduceEqDiff, Nat.reduceAdd, Nat.reduceLeDiff, reduceCtorEq, Nat.reduceBEq, Nat.reduceLT, Nat.reduceMod, fmc, t_szZoneS, t_szBook, t_sAgain, t_eqZoneS, bXH, Zone.row, Box6.row, appE, rowsOf, srow, irow, bHX, Word.row, Own.row, Part.row, Seen.row, Book.row, bkV, List.length_map, Int.toNat_natCast, Nat.sub_zero, and_self, eq_self, not_true_eq_false, ne_eq, bne_self_eq_false, h0, tkZ, List.nil_append, if_true, if_false, List.map_nil, tkM, ms_Zone_len, hst, bKS]
  refine ⟨_, _, .inr (.inl ⟨rfl, _, rfl, eqF, rfl, trivial⟩), ?_⟩
  simp (maxSteps := 2000000) (maxDischargeDepth := 8) only [bitvec_to_nat, reduceIte, Nat.reduceEqDiff, Nat.reduceAdd, Nat.reduceLeDiff, reduceCtorEq, Nat.reduceBEq, Nat.reduceLT, Nat.reduceMod, fmc, t_szZoneS, t_szBook, t_sAgain, t_eqZoneS, bXH, Zone.row, Box6.row, appE, rowsOf, srow, irow, bHX, Word.row, Own.row, Part.row, Seen.row, Book.row, bkV, List.length_map, Int.toNat_natCast, Nat.sub_zero, and_self, eq_self, not_true_eq_false, ne_eq, bne_self_eq_false, h0, tkZ, List.nil_append, if_true, if_false, List.map_nil, tkM, ms_Zone_len, hst, bKS]
  refine ⟨_, _, .inr (.inl ⟨rfl, _, rfl, hTZ, rfl, n9Z⟩), ?_⟩
  simp (maxSteps := 2000000) (maxDischargeDepth := 8) only [bitvec_to_nat, reduceIte, Nat.reduceEqDiff, Nat.reduceAdd, Nat.reduceLeDiff, reduceCtorEq, Nat.reduceBEq, Nat.reduceLT, Nat.reduceMod, fmc, t_szZoneS, t_szBook, t_sAgain, t_eqZoneS, bXH, Zone.row, Box6.row, appE, rowsOf, srow, irow, bHX, Word.row, Own.row, Part.row, Seen.row, Book.row, bkV, List.length_map, Int.toNat_natCast, Nat.sub_zero, and_self, eq_self, not_true_eq_false, ne_eq, bne_self_eq_false, h0, tkZ, List.nil_append, if_true, if_false, List.map_nil, tkM, ms_Zone_len, hst, bKS]
  refine ⟨by omega, _, _, .inr (.inl ⟨rfl, _, rfl, hTA, rfl, n9A⟩), ?_⟩
  simp (maxSteps := 2000000) (maxDischargeDepth := 8) only [bitvec_to_nat, reduceIte, Nat.reduceEqDiff, Nat.reduceAdd, Nat.reduceLeDiff, reduceCtorEq, Nat.reduceBEq, Nat.reduceLT, Nat.reduceMod, fmc, t_szZoneS, t_szBook, t_sAgain, t_eqZoneS, bXH, Zone.row, Box6.row, appE, rowsOf, srow, irow, bHX, Word.row, Own.row, Part.row, Seen.row, Book.row, bkV, List.length_map, Int.toNat_natCast, Nat.sub_zero, and_self, eq_self, not_true_eq_false, ne_eq, bne_self_eq_false, h0, tkZ, List.nil_append, if_true, if_false, List.map_nil, tkM, ms_Zone_len, hst, bKS]
  refine ⟨_, _, callR_look (r := .bool true) (news := []) (keep := KA b) (args' := [.agg (b.row 99), .agg (b.row 0)]) (by simp only [tag0L, tag_bk]; exact eqA) (gK _ _ _) (purNL_cons (purN_bk (gK _ _ _) (uniq_self (KA_uniq b))) rfl) (by simp only [no98L, no98_bk 99 (by omega), no98_bk 0 (by omega), Bool.and_self]) rfl rfl (by simp) rfl rfl trivial (by simp), ?_⟩
  simp (maxSteps := 2000000) (maxDischargeDepth := 8) only [bitvec_to_nat, reduceIte, Nat.reduceEqDiff, Nat.reduceAdd, Nat.reduceLeDiff, reduceCtorEq, Nat.reduceBEq, Nat.reduceLT, Nat.reduceMod, fmc, t_szZoneS, t_szBook, t_sAgain, t_eqZoneS, bXH, Zone.row, Box6.row, appE, rowsOf, srow, irow, bHX, Word.row, Own.row, Part.row, Seen.row, Book.row, bkV, List.length_map, Int.toNat_natCast, Nat.sub_zero, and_self, eq_self, not_true_eq_false, ne_eq, bne_self_eq_false, h0, tkZ, List.nil_append, if_true, if_false, List.map_nil, tkM, ms_Zone_len, hst, bKS]
  refine ⟨_, _, callR_same hMZ rfl (getK_one rfl) (by simp [refsInL, refsIn, dom]) rfl rfl rfl, ?_⟩
  simp (maxSteps := 2000000) (maxDischargeDepth := 8) only [bitvec_to_nat, reduceIte, Nat.reduceEqDiff, Nat.reduceAdd, Nat.reduceLeDiff, reduceCtorEq, Nat.reduceBEq, Nat.reduceLT, Nat.reduceMod, fmc, t_szZoneS, t_szBook, t_sAgain, t_eqZoneS, bXH, Zone.row, Box6.row, appE, rowsOf, srow, irow, bHX, Word.row, Own.row, Part.row, Seen.row, Book.row, bkV, List.length_map, Int.toNat_natCast, Nat.sub_zero, and_self, eq_self, not_true_eq_false, ne_eq, bne_self_eq_false, h0, tkZ, List.nil_append, if_true, if_false, List.map_nil, tkM, ms_Zone_len, hst, bKS]
  refine ⟨_, _, callR_gone hMB (gK _ _ _) (by have := bk_refV (b := b) (a := 611) (va := 0) (c := 612) (vc := 0) (d := 613) (vd := 0) (kO := 120) (kP := 140); simpa only [bkV, refsInL, refsIn, Bool.and_true] using this) bk_refs rfl, ?_⟩
  simp (maxSteps := 2000000) (maxDischargeDepth := 8) only [bitvec_to_nat, reduceIte, Nat.reduceEqDiff, Nat.reduceAdd, Nat.reduceLeDiff, reduceCtorEq, Nat.reduceBEq, Nat.reduceLT, Nat.reduceMod, fmc, t_szZoneS, t_szBook, t_sAgain, t_eqZoneS, bXH, Zone.row, Box6.row, appE, rowsOf, srow, irow, bHX, Word.row, Own.row, Part.row, Seen.row, Book.row, bkV, List.length_map, Int.toNat_natCast, Nat.sub_zero, and_self, eq_self, not_true_eq_false, ne_eq, bne_self_eq_false, h0, tkZ, List.nil_append, if_true, if_false, List.map_nil, tkM, ms_Zone_len, hst, bKS]
  refine ⟨fun h => by omega, fun _ => ⟨_, _, .inr (.inl ⟨rfl, _, rfl, eqF, rfl, trivial⟩), ?_⟩⟩
  simp (maxSteps := 2000000) (maxDischargeDepth := 8) only [bitvec_to_nat, reduceIte, Nat.reduceEqDiff, Nat.reduceAdd, Nat.reduceLeDiff, reduceCtorEq, Nat.reduceBEq, Nat.reduceLT, Nat.reduceMod, fmc, t_szZoneS, t_szBook, t_sAgain, t_eqZoneS, bXH, Zone.row, Box6.row, appE, rowsOf, srow, irow, bHX, Word.row, Own.row, Part.row, Seen.row, Book.row, bkV, List.length_map, Int.toNat_natCast, Nat.sub_zero, and_self, eq_self, not_true_eq_false, ne_eq, bne_self_eq_false, h0, tkZ, List.nil_append, if_true, if_false, List.map_nil, tkM, ms_Zone_len, hst, bKS]
  refine ⟨_, _, .inr (.inl ⟨rfl, _, rfl, hZ, rfl, trivial⟩), ?_⟩
  simp (maxSteps := 2000000) (maxDischargeDepth := 8) only [bitvec_to_nat, reduceIte, Nat.reduceEqDiff, Nat.reduceAdd, Nat.reduceLeDiff, reduceCtorEq, Nat.reduceBEq, Nat.reduceLT, Nat.reduceMod, fmc, t_szZoneS, t_szBook, t_sAgain, t_eqZoneS, bXH, Zone.row, Box6.row, appE, rowsOf, srow, irow, bHX, Word.row, Own.row, Part.row, Seen.row, Book.row, bkV, List.length_map, Int.toNat_natCast, Nat.sub_zero, and_self, eq_self, not_true_eq_false, ne_eq, bne_self_eq_false, h0, tkZ, List.nil_append, if_true, if_false, List.map_nil, tkM, ms_Zone_len, hst, bKS]
  refine ⟨_, _, .inr (.inl ⟨rfl, _, rfl, hH, rfl, trivial⟩), ?_⟩
  simp (maxSteps := 2000000) (maxDischargeDepth := 8) only [bitvec_to_nat, reduceIte, Nat.reduceEqDiff, Nat.reduceAdd, Nat.reduceLeDiff, reduceCtorEq, Nat.reduceBEq, Nat.reduceLT, Nat.reduceMod, fmc, t_szZoneS, t_szBook, t_sAgain, t_eqZoneS, bXH, Zone.row, Box6.row, appE, rowsOf, srow, irow, bHX, Word.row, Own.row, Part.row, Seen.row, Book.row, bkV, List.length_map, Int.toNat_natCast, Nat.sub_zero, and_self, eq_self, not_true_eq_false, ne_eq, bne_self_eq_false, h0, tkZ, List.nil_append, if_true, if_false, List.map_nil, tkM, ms_Zone_len, hst, bKS]
  refine ⟨fun h => by omega, fun _ => ⟨_, _, .inr (.inl ⟨rfl, _, rfl, hTZ, rfl, n9Z⟩), ?_⟩⟩
  simp (maxSteps := 2000000) (maxDischargeDepth := 8) only [bitvec_to_nat, reduceIte, Nat.reduceEqDiff, Nat.reduceAdd, Nat.reduceLeDiff, reduceCtorEq, Nat.reduceBEq, Nat.reduceLT, Nat.reduceMod, fmc, t_szZoneS, t_szBook, t_sAgain, t_eqZoneS, bXH, Zone.row, Box6.row, appE, rowsOf, srow, irow, bHX, Word.row, Own.row, Part.row, Seen.row, Book.row, bkV, List.length_map, Int.toNat_natCast, Nat.sub_zero, and_self, eq_self, not_true_eq_false, ne_eq, bne_self_eq_false, h0, tkZ, List.nil_append, if_true, if_false, List.map_nil, tkM, ms_Zone_len, hst, bKS]
  refine ⟨_, _, .inr (.inl ⟨rfl, _, rfl, hTA, rfl, n9A⟩), ?_⟩
  simp (maxSteps := 2000000) (maxDischargeDepth := 8) only [bitvec_to_nat, reduceIte, Nat.reduceEqDiff, Nat.reduceAdd, Nat.reduceLeDiff, reduceCtorEq, Nat.reduceBEq, Nat.reduceLT, Nat.reduceMod, fmc, t_szZoneS, t_szBook, t_sAgain, t_eqZoneS, bXH, Zone.row, Box6.row, appE, rowsOf, srow, irow, bHX, Word.row, Own.row, Part.row, Seen.row, Book.row, bkV, List.length_map, Int.toNat_natCast, Nat.sub_zero, and_self, eq_self, not_true_eq_false, ne_eq, bne_self_eq_false, h0, tkZ, List.nil_append, if_true, if_false, List.map_nil, tkM, ms_Zone_len, hst, bKS]
  refine ⟨_, _, .inr (.inl ⟨rfl, _, rfl, hI1, rfl, by simp [No99, No99LL]⟩), ?_⟩
  simp (maxSteps := 2000000) (maxDischargeDepth := 8) only [bitvec_to_nat, reduceIte, Nat.reduceEqDiff, Nat.reduceAdd, Nat.reduceLeDiff, reduceCtorEq, Nat.reduceBEq, Nat.reduceLT, Nat.reduceMod, fmc, t_szZoneS, t_szBook, t_sAgain, t_eqZoneS, bXH, Zone.row, Box6.row, appE, rowsOf, srow, irow, bHX, Word.row, Own.row, Part.row, Seen.row, Book.row, bkV, List.length_map, Int.toNat_natCast, Nat.sub_zero, and_self, eq_self, not_true_eq_false, ne_eq, bne_self_eq_false, h0, tkZ, List.nil_append, if_true, if_false, List.map_nil, tkM, ms_Zone_len, hst, bKS]
  refine ⟨_, _, .inr (.inl ⟨rfl, _, rfl, eqF, rfl, trivial⟩), ?_⟩
  simp (maxSteps := 2000000) (maxDischargeDepth := 8) only [bitvec_to_nat, reduceIte, Nat.reduceEqDiff, Nat.reduceAdd, Nat.reduceLeDiff, reduceCtorEq, Nat.reduceBEq, Nat.reduceLT, Nat.reduceMod, fmc, t_szZoneS, t_szBook, t_sAgain, t_eqZoneS, bXH, Zone.row, Box6.row, appE, rowsOf, srow, irow, bHX, Word.row, Own.row, Part.row, Seen.row, Book.row, bkV, List.length_map, Int.toNat_natCast, Nat.sub_zero, and_self, eq_self, not_true_eq_false, ne_eq, bne_self_eq_false, h0, tkZ, List.nil_append, if_true, if_false, List.map_nil, tkM, ms_Zone_len, hst, bKS]
  refine ⟨_, _, .inr (.inl ⟨rfl, _, rfl, hH, rfl, trivial⟩), ?_⟩
  simp (maxSteps := 2000000) (maxDischargeDepth := 8) only [bitvec_to_nat, reduceIte, Nat.reduceEqDiff, Nat.reduceAdd, Nat.reduceLeDiff, reduceCtorEq, Nat.reduceBEq, Nat.reduceLT, Nat.reduceMod, fmc, t_szZoneS, t_szBook, t_sAgain, t_eqZoneS, bXH, Zone.row, Box6.row, appE, rowsOf, srow, irow, bHX, Word.row, Own.row, Part.row, Seen.row, Book.row, bkV, List.length_map, Int.toNat_natCast, Nat.sub_zero, and_self, eq_self, not_true_eq_false, ne_eq, bne_self_eq_false, h0, tkZ, List.nil_append, if_true, if_false, List.map_nil, tkM, ms_Zone_len, hst, bKS]
  exact fun h => by omega

theorem c_FnExactHandAgain (t : Nat) (zs : List Zone) (me : ByteArray) (b : Book) (hz : zs.length ≤ 9223372036854775807 ∧ ∀ y ∈ zs, y.fitp) (hfb : b.fitp) : Contract P 3 [.sl t 5 (zs.map Zone.row), .str me, .agg (b.row 1)] [] (.bool true) [] := by
  by_cases h0 : hMay zs me b
  · exact c_lawAY t zs me b hz hfb h0
  · exact c_lawAN t zs me b hz hfb h0
theorem fit_rows {α : Type} {f : α → List AV} {rs : List LSh} (h : ∀ r, fitsL rs r → ∃ x : α, r = f x) : ∀ {rows : List (List AV)}, (∀ r ∈ rows, fitsL rs r) → ∃ l : List α, rows = l.map f
  | [], _ => ⟨[], rfl⟩
  | r :: rows, k => by
    obtain ⟨x, rfl⟩ := h r (k r (by simp))
    obtain ⟨l, rfl⟩ := fit_rows h (rows := rows) fun r' h' => k r' (by simp [h'])
    exact ⟨x :: l, rfl⟩
def sh_ByteArray : List LSh := [.str]
def sh_Box6 : List LSh := [.int .i64, .int .i64, .int .i64, .int .i64, .int .i64, .int .i64]
theorem fit_ByteArray (r : List AV) (h : fitsL sh_ByteArray r) : ∃ x : ByteArray, r = srow x ∧ x.toList.length ≤ 9223372036854775807 := by
  simp only [sh_ByteArray, fitsL, fits] at h
  obtain ⟨_, _, rfl, ⟨n, rfl, h⟩, rfl⟩ := h
  exact ⟨n, rfl, by rw [← toList_size]; unfold maxLen at h; omega⟩
theorem fit_Box6 (r : List AV) (h : fitsL sh_Box6 r) : ∃ x : Box6, r = x.row := by
  simp only [sh_Box6, fitsL, fits] at h
  obtain ⟨_, _, rfl, ⟨a, rfl, _⟩, _, _, rfl, ⟨b, rfl, _⟩, _, _, rfl, ⟨c, rfl, _⟩, _, _, rfl, ⟨d, rfl, _⟩, _, _, rfl, ⟨e, rfl, _⟩, _, _, rfl, ⟨g, rfl, _⟩, rfl⟩ := h
  exact ⟨⟨a, b, c, d, e, g⟩, rfl⟩
def sh_Zone : List LSh := [.str, .int .i64, .int .i64, .int .i64, .int .i64]
theorem fit_Zone (r : List AV) (h : fitsL sh_Zone r) : ∃ x : Zone, r = Zone.row x ∧ x.fitp := by
  simp only [sh_Zone, fitsL, fits] at h
  obtain ⟨_, _, rfl, ⟨nm, rfl, h_nm⟩, _, _, rfl, ⟨x0, rfl, _⟩, _, _, rfl, ⟨y0, rfl, _⟩, _, _, rfl, ⟨x1, rfl, _⟩, _, _, rfl, ⟨y1, rfl, _⟩, rfl⟩ := h

  exact ⟨⟨nm, x0, y0, x1, y1⟩, rfl, (by have e := toList_size nm; unfold maxLen at h_nm; show nm.toList.length ≤ _; omega)⟩
def sh_Seen : List LSh := [.str, .int .i64]
theorem fit_Seen (r : List AV) (h : fitsL sh_Seen r) : ∃ x : Seen, r = Seen.row x ∧ x.fitp := by
  simp only [sh_Seen, fitsL, fits] at h
  obtain ⟨_, _, rfl, ⟨fl, rfl, h_fl⟩, _, _, rfl, ⟨nr, rfl, _⟩, rfl⟩ := h

  exact ⟨⟨fl, nr⟩, rfl, (by have e := toList_size fl; unfold maxLen at h_fl; show fl.toList.length ≤ _; omega)⟩
def sh_Part : List LSh := [.str, .int .i64, .sl sh_Box6]
theorem fit_Part (r : List AV) (h : fitsL sh_Part r) : ∃ x : Part, r = (Part.row 1) x ∧ x.fitp := by
  simp only [sh_Part, fitsL, fits] at h
  obtain ⟨_, _, rfl, ⟨fl, rfl, h_fl⟩, _, _, rfl, ⟨nr, rfl, _⟩, _, _, rfl, ⟨bx, rfl, h_bx, r_bx⟩, rfl⟩ := h
  obtain ⟨bx, rfl⟩ := fit_rows fit_Box6 r_bx
  rw [List.length_map] at h_bx
  exact ⟨⟨fl, nr, bx⟩, rfl, ⟨(by have e := toList_size fl; unfold maxLen at h_fl; show fl.toList.length ≤ _; omega), (by unfold maxLen at h_bx; omega)⟩⟩
def sh_Own : List LSh := [.str, .int .i64, .int .i64, .str, .int .i64, .int .i64, .sl sh_Box6, .int .i64, .sl sh_Box6, .sl sh_ByteArray, .bool]
theorem fit_Own (r : List AV) (h : fitsL sh_Own r) : ∃ x : Own, r = (Own.row 1) x ∧ x.fitp := by
  simp only [sh_Own, fitsL, fits] at h
  obtain ⟨_, _, rfl, ⟨fl, rfl, h_fl⟩, _, _, rfl, ⟨st, rfl, _⟩, _, _, rfl, ⟨tn, rfl, _⟩, _, _, rfl, ⟨dst, rfl, h_dst⟩, _, _, rfl, ⟨la, rfl, _⟩, _, _, rfl, ⟨nr, rfl, _⟩, _, _, rfl, ⟨tu, rfl, h_tu, r_tu⟩, _, _, rfl, ⟨wi, rfl, _⟩, _, _, rfl, ⟨nx, rfl, h_nx, r_nx⟩, _, _, rfl, ⟨gr, rfl, h_gr, r_gr⟩, _, _, rfl, ⟨sent, rfl⟩, rfl⟩ := h
  obtain ⟨tu, rfl⟩ := fit_rows fit_Box6 r_tu
  rw [List.length_map] at h_tu
  obtain ⟨nx, rfl⟩ := fit_rows fit_Box6 r_nx
  rw [List.length_map] at h_nx
  obtain ⟨gr, rfl, p_gr⟩ := fit_rows2 fit_ByteArray r_gr
  rw [List.length_map] at h_gr
  exact ⟨⟨fl, st, tn, dst, la, nr, tu, wi, nx, gr, sent⟩, rfl, ⟨(by have e := toList_size fl; unfold maxLen at h_fl; show fl.toList.length ≤ _; omega), (by have e := toList_size dst; unfold maxLen at h_dst; show dst.toList.length ≤ _; omega), (by unfold maxLen at h_tu; omega), (by unfold maxLen at h_nx; omega), ⟨(by unfold maxLen at h_gr; omega), p_gr⟩⟩⟩
def sh_Book : List LSh := [.sl sh_Own, .sl sh_Part, .sl sh_Seen]
theorem fit_Book (r : List AV) (h : fitsL sh_Book r) : ∃ x : Book, r = (Book.row 1) x ∧ x.fitp := by
  simp only [sh_Book, fitsL, fits] at h
  obtain ⟨_, _, rfl, ⟨own, rfl, h_own, r_own⟩, _, _, rfl, ⟨parts, rfl, h_parts, r_parts⟩, _, _, rfl, ⟨seen, rfl, h_seen, r_seen⟩, rfl⟩ := h
  obtain ⟨own, rfl, p_own⟩ := fit_rows2 fit_Own r_own
  rw [List.length_map] at h_own
  obtain ⟨parts, rfl, p_parts⟩ := fit_rows2 fit_Part r_parts
  rw [List.length_map] at h_parts
  obtain ⟨seen, rfl, p_seen⟩ := fit_rows2 fit_Seen r_seen
  rw [List.length_map] at h_seen
  exact ⟨⟨own, parts, seen⟩, rfl, ⟨⟨(by unfold maxLen at h_own; omega), p_own⟩, ⟨(by unfold maxLen at h_parts; omega), p_parts⟩, ⟨(by unfold maxLen at h_seen; omega), p_seen⟩⟩⟩
end
end Go.Ve

