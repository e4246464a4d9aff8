/- Part 5 of the proof: laws and contracts of functions, each proved; they are joined in the last part. No conditions beyond those that the theorems state. -/
import Derived.Test.YtehahnkjlalhmaaGreatDoorSn4
set_option linter.all false
namespace Go.Ve
noncomputable section
open Go.Proofs
set_option linter.unusedSimpArgs false
set_option linter.unusedVariables false
set_option maxRecDepth 100000
theorem c_markBaseB (v w : Nat) (ks : List PKind) (ps : List PPt) (k : Int) (hk : 0 ≤ k ∧ k ≤ 30000000000000) (h1 : ks.length ≤ 1048577) (h2 : ps.length ≤ 1048577) : Contract P 64 [.agg [.own 3 v 0 ks.length, .own 4 w 0 ps.length], .int .i64 k]
    [(3, .arr 60 v 3 (ks.map PKind.row)), (4, .arr 119 w 3 (ps.map PPt.row))] (.int .i64 (k + 3 * ks.length + 3 * ps.length))
    [(3, .arr 60 v 3 ((ms_PKind k ks.length).map PKind.row)), (4, .arr 119 w 3 ((ms_PPt (k + 3 * ks.length) ps.length).map PPt.row))] := by
  have tkK : True := trivial
  have tkQ : True := trivial
  have m1 := c_markPKindS v k ks h1 (by omega)
  have m2 := (c_markPPtS w (k + 3 * ks.length) ps h2 (by omega)).ren (swp 3 4) (swp_swp _ _)
  simp only [renL, ren, renM, renO, swp, reduceIte, Nat.reduceEqDiff, Nat.reduceLT] at m2
  refine fn_sound (Env.nil P) hm k_laws_markPlanBase (Nat.le_of_ble_eq_true rfl) rfl ?_; unfold s_laws_markPlanBase; simp (config := { maxSteps := 2000000 }) only [bitvec_to_nat, reduceIte, Nat.reduceEqDiff, Nat.reduceAdd, Nat.reduceLeDiff, reduceCtorEq, Nat.reduceBEq, Nat.reduceLT, Nat.reduceMod, List.forall_mem_cons, retG_ret, retQ_eq, retQ_eqN, retOk, keepB, re_tupl, orr_t, List.length_map, Int.toNat_natCast, Nat.zero_add, Nat.sub_zero, tkK, tkQ, ms_PKind_len, ms_PPt_len]
  refine ⟨_, _, .inl ⟨_, m1, by simp [getM], by simp [dom], rfl, rfl, rfl, rfl, rfl⟩, ?_⟩
  simp (config := { maxSteps := 2000000 }) only [bitvec_to_nat, reduceIte, Nat.reduceEqDiff, Nat.reduceAdd, Nat.reduceLeDiff, reduceCtorEq, Nat.reduceBEq, Nat.reduceLT, Nat.reduceMod, List.forall_mem_cons, retG_ret, retQ_eq, retQ_eqN, retOk, keepB, re_tupl, orr_t, List.length_map, Int.toNat_natCast, Nat.zero_add, Nat.sub_zero, tkK, tkQ, ms_PKind_len, ms_PPt_len]
  refine ⟨_, _, .inl ⟨_, m2, by simp [getM], by simp [dom], rfl, rfl, rfl, rfl, rfl⟩, ?_⟩
  simp (config := { maxSteps := 2000000 }) only [bitvec_to_nat, reduceIte, Nat.reduceEqDiff, Nat.reduceAdd, Nat.reduceLeDiff, reduceCtorEq, Nat.reduceBEq, Nat.reduceLT, Nat.reduceMod, List.forall_mem_cons, retG_ret, retQ_eq, retQ_eqN, retOk, keepB, re_tupl, orr_t, List.length_map, Int.toNat_natCast, Nat.zero_add, Nat.sub_zero, tkK, tkQ, ms_PKind_len, ms_PPt_len]
def preE (b : PBook) : List (Nat × AObj) := (5, .arr (1000000 + 93) 0 2 ((fE 7 b).map NRow.row)) :: nobjs (fE 7 b)
theorem gpE {b : PBook} : gone (preE b) = (5, .gone) :: gone (nobjs (fE 7 b)) := rfl
theorem markEnt5 (k : Int) (b : PBook) (hs : b.small) (hk : 0 ≤ k ∧ k ≤ 35184372088832) : Contract P 65 [.own 5 0 0 b.es.length, .int .i64 k] (preE b) (.int .i64 (k + ct_Ent b.es b.es.length)) (gone (preE b)) := by
  unfold PBook.small at hs
  have h := (g_markEntS k b.es (by omega) hs.2.2.2 hk).ren (swp 3 5) (swp_swp _ _)
  have e : renM (swp 3 5) ((3, .arr (1000000 + 93) 0 2 ((nfam 7 96 3 (b.es.map entP)).map NRow.row)) :: nobjs (nfam 7 96 3 (b.es.map entP))) = preE b := by
    simp only [renM, renO, swp, reduceIte, Nat.reduceLT, Nat.reduceAdd]
    rw [renM_nobjs, renRows, nfam_swp (by omega) (by omega) (by omega)]; rfl
  rw [show (((3, AObj.arr (1000000 + 93) 0 2 ((nfam 7 96 3 (b.es.map entP)).map NRow.row)) :: nobjs (nfam 7 96 3 (b.es.map entP))).map fun p => (p.1, AObj.gone)) = gone ((3, AObj.arr (1000000 + 93) 0 2 ((nfam 7 96 3 (b.es.map entP)).map NRow.row)) :: nobjs (nfam 7 96 3 (b.es.map entP))) from rfl, renM_gone, e] at h
  simpa only [renL, ren, swp, reduceIte] using h
theorem bigs_gone {l : List (Nat × AObj)} (h : bigs l) : bigs (gone l) := fun p hp => by
  obtain ⟨x, hx⟩ := mem_gone hp
  exact h (p.1, x) hx
theorem offs_big {l : List (Nat × AObj)} (h : bigs l) {o : Nat} (ho : o < 1000) : offs l o := fun p hp e => by have := h p hp; omega
theorem apE {b : PBook} {x3 x4 x5 : AObj} {B : List (Nat × AObj)} : applyU ((3, x3) :: (4, x4) :: (5, x5) :: (nobjs (fE 7 b) ++ B)) (gone (nobjs (fE 7 b))) = (3, x3) :: (4, x4) :: (5, x5) :: (gone (nobjs (fE 7 b)) ++ B) := by
  have h : bigs (gone (nobjs (fE 7 b))) := bigs_gone bigs_nfam
  rw [ap_cons (offs_big h (by omega)), ap_cons (offs_big h (by omega)), ap_cons (offs_big h (by omega)), ap_over (show uniq (nobjs (fE 7 b)) from nfam_pw)]
def cntB (b : PBook) : Nat := 3 * b.ks.length + 3 * b.ps.length + ct_Ent b.es b.es.length
theorem bk_lt100 {b : PBook} : (dom (bkM b 3 4 5 7)).all (decide <| · % 1000 < 100) = true := by
  rw [bk_dom, List.all_eq_true]
  intro o ho
  simp only [List.mem_cons, List.mem_map] at ho
  rcases ho with rfl | rfl | rfl | ⟨r, hr, rfl⟩
  · rfl
  · rfl
  · rfl
  · rw [nfam_mod (k := 7) (by omega) hr]; rfl
theorem keep_of {M M' : List (Nat × AObj)} (h : ∀ p ∈ M, 100 ≤ p.1 % 1000 ∨ p.1 ∈ dom M') : keepB M M' = true := by
  unfold keepB
  rw [List.all_eq_true]
  intro o ho
  obtain ⟨p, hp, rfl⟩ := List.mem_map.1 ho
  rcases h p hp with h | h
  · simp [h]
  · simp [h]
set_option maxHeartbeats 2000000 in
theorem g_markBook (k : Int) (b : PBook) (hs : b.small) (hk : 0 ≤ k ∧ k ≤ 30000000000000) : Contract P 26 [bkV b 3 4 5, .int .i64 k] (bkM b 3 4 5 7) (.int .i64 (k + cntB b)) (gone (bkM b 3 4 5 7)) := by
  have bA : bigs (nobjs (fE 7 b)) := bigs_nfam
  have bGA := bigs_gone bA
  have hm9 := hs
  unfold PBook.small at hm9
  have hct := ct_Ent_le hm9.2.2.2 (Nat.le_refl _)
  have hB := (c_markBaseB 0 0 b.ks b.ps k (by omega) (by omega) (by omega)).gone rfl
  have hE := markEnt5 (k + 3 * b.ks.length + 3 * b.ps.length) b hs (by omega)
  refine fn_sound (Env.nil P) Go.Ve.hm k_laws_markPlanBook (Nat.le_of_ble_eq_true rfl) bk_lt100 ?_; unfold s_laws_markPlanBook
  simp (config := { maxSteps := 2000000 }) only [bitvec_to_nat, reduceIte, Nat.reduceEqDiff, Nat.reduceAdd, Nat.reduceLeDiff, reduceCtorEq, Nat.reduceBEq, Nat.reduceLT, Nat.reduceMod, List.forall_mem_cons, retG_ret, retQ_eq, retQ_eqN, retOk, keepB, re_tupl, orr_t, bkV, fam_ne, fam_ne', Nat.sub_zero, Nat.zero_add, gB, gB0, sB, sB0, bA, List.append_assoc, List.cons_append, List.nil_append, List.append_nil, bkM, bGA, gpE, apE]
  refine ⟨_, _, callR_gone (pre := [(3, .arr 60 0 3 (b.ks.map PKind.row)), (4, .arr 119 0 3 (b.ps.map PPt.row))]) hB (by simp [getM]) (by simp [refsInL, refsIn, dom]) (by simp [refsInO]) rfl, ?_⟩
  simp only [gone, List.map_cons, List.map_nil]
  simp (config := { maxSteps := 2000000 }) only [bitvec_to_nat, reduceIte, Nat.reduceEqDiff, Nat.reduceAdd, Nat.reduceLeDiff, reduceCtorEq, Nat.reduceBEq, Nat.reduceLT, Nat.reduceMod, List.forall_mem_cons, retG_ret, retQ_eq, retQ_eqN, retOk, keepB, re_tupl, orr_t, bkV, fam_ne, fam_ne', Nat.sub_zero, Nat.zero_add, gB, gB0, sB, sB0, bA, List.append_assoc, List.cons_append, List.nil_append, List.append_nil, bkM, bGA, gpE, apE]
  refine ⟨_, _, callR_gone (pre := preE b) hE (fun p hp => ?_) (by simp [refsInL, refsIn, dom, preE]) (fam_refs (by omega)) rfl, ?_⟩
  · rcases List.mem_cons.1 hp with rfl | hp
    · simp only [getM, Nat.reduceEqDiff, reduceIte]
    · obtain ⟨i, hi, rfl⟩ := nfam_at hp
      simp only [getM, fam_ne, Nat.reduceLT, if_false, getM_append, fE, nfam_obj hi, Option.some_or]
  simp (config := { maxSteps := 2000000 }) only [bitvec_to_nat, reduceIte, Nat.reduceEqDiff, Nat.reduceAdd, Nat.reduceLeDiff, reduceCtorEq, Nat.reduceBEq, Nat.reduceLT, Nat.reduceMod, List.forall_mem_cons, retG_ret, retQ_eq, retQ_eqN, retOk, keepB, re_tupl, orr_t, bkV, fam_ne, fam_ne', Nat.sub_zero, Nat.zero_add, gB, gB0, sB, sB0, bA, List.append_assoc, List.cons_append, List.nil_append, List.append_nil, bkM, bGA, gpE, apE]
  refine ⟨by unfold cntB; omega, wkM_self fun p hp => ?_, gone_refs, ?_⟩
  · obtain ⟨q, hq, rfl⟩ := List.mem_map.1 hp
    obtain ⟨i, hi, rfl⟩ := nfam_at hq
    show getM (_ :: _ :: _ :: (gone _ ++ _)) _ = _
    simp only [getM, fam_ne, Nat.reduceLT, if_false, getM_append, getM_gone, fE, nfam_obj hi, Option.map_some, Option.some_or]
  · refine keep_of (M := (3, .gone) :: (4, .gone) :: (5, .gone) :: (gone (nobjs (fE 7 b)) ++ [(102, _)])) (M' := (3, .gone) :: (4, .gone) :: (5, .gone) :: gone (nobjs (fE 7 b))) fun p hp => ?_
    simp only [List.mem_cons, List.mem_append, List.not_mem_nil, or_false] at hp
    simp only [dom, List.map_cons, List.mem_cons, List.mem_map]
    rcases hp with rfl | rfl | rfl | hp | rfl
    · exact .inr (.inl rfl)
    · exact .inr (.inr (.inl rfl))
    · exact .inr (.inr (.inr (.inl rfl)))
    · exact .inr (.inr (.inr (.inr ⟨p, hp, rfl⟩)))
    · exact .inl (by simp)
abbrev KA (b : PBook) : List (Nat × AObj) := bkM b 611 612 613 107
theorem KA_uniq (b : PBook) : uniq (KA b) := bk_uniq (by omega) (by omega) (by omega) (by omega) (by omega) (by omega)
theorem KA_lo {b : PBook} {o : Nat} (h : o < 611) : offs (KA b) o := bk_offs (by omega) (by omega) (by omega) (by omega)
theorem KA_hi {b : PBook} {o : Nat} (h : 613 < o) (h2 : o < 1000) : offs (KA b) o := bk_offs (by omega) (by omega) (by omega) (by omega)
theorem KA_100 (b : PBook) : big100 (KA b) := bk_100 (by omega) (by omega) (by omega) (by omega) (by omega)
theorem KA_k {b : PBook} {B : List (Nat × AObj)} : keepB (gone (KA b) ++ B) [] = keepB B [] := keep_appL (keep_big (big100_gone (KA_100 b)))
theorem KA_k0 {b : PBook} : keepB (gone (KA b)) [] = true := keep_big (big100_gone (KA_100 b))
theorem KA_k' {b : PBook} {B : List (Nat × AObj)} : keepB (KA b ++ B) [] = keepB B [] := keep_appL (keep_big (KA_100 b))
theorem KA_k0' {b : PBook} : keepB (KA b) [] = true := keep_big (KA_100 b)
theorem toBookA (b : PBook) (hs : b.small) : Contract P 20 [.agg (b.row 1)] [] (bkV b 611 612 613) (KA b).reverse := by
  have h := ((((c_toBookO b hs).ren (swp 611 611) (swp_swp _ _)).ren (swp 612 612) (swp_swp _ _)).ren (swp 613 613) (swp_swp _ _)).ren (swpF 107 107) (swpF_swpF (by omega) (by omega))
  rw [bkV_ren, bkV_ren, bkV_ren, bkV_ren, bkM_ren (k' := 107) (fun i => swp_fam (by omega) (by omega)), bkM_ren (k' := 107) (fun i => swp_fam (by omega) (by omega)), bkM_ren (k' := 107) (fun i => swp_fam (by omega) (by omega)), bkM_ren (k' := 107) (fun i => swpF_fam (by omega))] at h
  exact h.post_eq (funext fun o => getM_rev (KA_uniq b) o)
theorem markBookA (k : Int) (b : PBook) (hs : b.small) (hk : 0 ≤ k ∧ k ≤ 30000000000000) : Contract P 26 [bkV b 611 612 613, .int .i64 k] (KA b) (.int .i64 (k + cntB b)) (gone (KA b)) := by
  have h := ((((g_markBook k b hs hk).ren (swp 3 611) (swp_swp _ _)).ren (swp 4 612) (swp_swp _ _)).ren (swp 5 613) (swp_swp _ _)).ren (swpF 7 107) (swpF_swpF (by omega) (by omega))
  simp only [renM_gone, renL, bkV_ren, ren] at h
  rw [bkM_ren (k' := 7) (fun i => swp_fam (by omega) (by omega)), bkM_ren (k' := 7) (fun i => swp_fam (by omega) (by omega)), bkM_ren (k' := 7) (fun i => swp_fam (by omega) (by omega)), bkM_ren (k' := 107) (fun i => swpF_fam (by omega))] at h
  exact h
theorem KA_99 {b : PBook} : ∀ p ∈ (KA b).reverse, No99O p.2 := fun p hp => bk_99 p (List.mem_reverse.1 hp)
theorem KA_ref {b : PBook} {k : Int} : refsInL (dom (KA b)) [bkV b 611 612 613, .int .i64 k] = true := by
  simp only [refsInL, bk_refV, refsIn, Bool.and_self]
abbrev KB (b : PBook) : List (Nat × AObj) := bkM b 641 642 643 108
theorem KB_uniq (b : PBook) : uniq (KB b) := bk_uniq (by omega) (by omega) (by omega) (by omega) (by omega) (by omega)
theorem KB_lo {b : PBook} {o : Nat} (h : o < 641) : offs (KB b) o := bk_offs (by omega) (by omega) (by omega) (by omega)
theorem KB_hi {b : PBook} {o : Nat} (h : 643 < o) (h2 : o < 1000) : offs (KB b) o := bk_offs (by omega) (by omega) (by omega) (by omega)
theorem KB_100 (b : PBook) : big100 (KB b) := bk_100 (by omega) (by omega) (by omega) (by omega) (by omega)
theorem KB_k {b : PBook} {B : List (Nat × AObj)} : keepB (gone (KB b) ++ B) [] = keepB B [] := keep_appL (keep_big (big100_gone (KB_100 b)))
theorem KB_k0 {b : PBook} : keepB (gone (KB b)) [] = true := keep_big (big100_gone (KB_100 b))
theorem KB_k' {b : PBook} {B : List (Nat × AObj)} : keepB (KB b ++ B) [] = keepB B [] := keep_appL (keep_big (KB_100 b))
theorem KB_k0' {b : PBook} : keepB (KB b) [] = true := keep_big (KB_100 b)
theorem toBookB (b : PBook) (hs : b.small) : Contract P 20 [.agg (b.row 1)] [] (bkV b 641 642 643) (KB b).reverse := by
  have h := ((((c_toBookO b hs).ren (swp 611 641) (swp_swp _ _)).ren (swp 612 642) (swp_swp _ _)).ren (swp 613 643) (swp_swp _ _)).ren (swpF 107 108) (swpF_swpF (by omega) (by omega))
  rw [bkV_ren, bkV_ren, bkV_ren, bkV_ren, bkM_ren (k' := 107) (fun i => swp_fam (by omega) (by omega)), bkM_ren (k' := 107) (fun i => swp_fam (by omega) (by omega)), bkM_ren (k' := 107) (fun i => swp_fam (by omega) (by omega)), bkM_ren (k' := 108) (fun i => swpF_fam (by omega))] at h
  exact h.post_eq (funext fun o => getM_rev (KB_uniq b) o)
theorem markBookB (k : Int) (b : PBook) (hs : b.small) (hk : 0 ≤ k ∧ k ≤ 30000000000000) : Contract P 26 [bkV b 641 642 643, .int .i64 k] (KB b) (.int .i64 (k + cntB b)) (gone (KB b)) := by
  have h := ((((g_markBook k b hs hk).ren (swp 3 641) (swp_swp _ _)).ren (swp 4 642) (swp_swp _ _)).ren (swp 5 643) (swp_swp _ _)).ren (swpF 7 108) (swpF_swpF (by omega) (by omega))
  simp only [renM_gone, renL, bkV_ren, ren] at h
  rw [bkM_ren (k' := 7) (fun i => swp_fam (by omega) (by omega)), bkM_ren (k' := 7) (fun i => swp_fam (by omega) (by omega)), bkM_ren (k' := 7) (fun i => swp_fam (by omega) (by omega)), bkM_ren (k' := 108) (fun i => swpF_fam (by omega))] at h
  exact h
theorem KB_99 {b : PBook} : ∀ p ∈ (KB b).reverse, No99O p.2 := fun p hp => bk_99 p (List.mem_reverse.1 hp)
theorem KB_ref {b : PBook} {k : Int} : refsInL (dom (KB b)) [bkV b 641 642 643, .int .i64 k] = true := by
  simp only [refsInL, bk_refV, refsIn, Bool.and_self]
theorem KAB {b b' : PBook} : dis (KA b) (KB b') := bk_dis (by decide) (by decide) (by omega) (by omega) (by omega)
theorem KBA {b b' : PBook} : dis (KB b) (KA b') := dis_symm KAB
end
end Go.Ve

namespace Go.Ve
noncomputable section
open Go.Proofs
set_option linter.unusedSimpArgs false
set_option linter.unusedVariables false
set_option maxRecDepth 100000
def Fld.later (f g : Fld) : Prop := g.nr < f.nr ∨ (f.nr = g.nr ∧ slt g.v f.v)
noncomputable instance (f g : Fld) : Decidable (f.later g) := Classical.propDecidable _
def eIdx (l : List Ent) (s : ByteArray) : Int := fIdx (fun e => decide (e.nm = s)) l
def wIdx (l : List Fld) (w : Int) : Int := fIdx (fun f => decide (f.w = w)) l
theorem eIdx_at {l : List Ent} {nm : ByteArray} (h : 0 ≤ eIdx l nm) : (eIdx l nm).toNat < l.length ∧ (l.getD (eIdx l nm).toNat default).nm = nm ∧ eIdx l nm < l.length := by
  unfold eIdx at *
  rcases fIdx_spec (fun p : Ent => decide (p.nm = nm)) l with ⟨h1, h2⟩ | ⟨i, h1, h2, h3, _⟩
  · omega
  · rw [h1]; exact ⟨by simpa using h2, by simpa using h3, by omega⟩
def fsOf (b : PBook) (nm : ByteArray) : List Fld := (b.es.getD (eIdx b.es nm).toNat default).fs
def hasF (b : PBook) (nm : ByteArray) (w : Int) : Prop := 0 ≤ eIdx b.es nm ∧ 0 ≤ wIdx (fsOf b nm) w
noncomputable instance (b : PBook) (nm : ByteArray) (w : Int) : Decidable (hasF b nm w) := Classical.propDecidable _
def fOf (b : PBook) (nm : ByteArray) (w : Int) : Fld := if hasF b nm w then (fsOf b nm).getD (wIdx (fsOf b nm) w).toNat default else ⟨0, 0, ⟨#[]⟩⟩
theorem wIdx_i {l : List Fld} {w : Int} {i : Nat} (hi : i < l.length) (h : (l.getD i default).w = w) (h2 : ∀ j, j < i → ¬ (l.getD j default).w = w) : wIdx l w = i := by
  unfold wIdx; rw [fIdx_at hi (by simpa using h) fun j hj => by simpa using h2 j hj]
theorem wIdx_no {l : List Fld} {w : Int} (h2 : ∀ j, j < l.length → ¬ (l.getD j default).w = w) : wIdx l w = -1 := by
  unfold wIdx; rw [fIdx_none fun j hj => by simpa using h2 j hj]
theorem has_i {b : PBook} {nm : ByteArray} {w : Int} {i : Nat} (he : 0 ≤ eIdx b.es nm) (hi : i < (fsOf b nm).length) (h : ((fsOf b nm).getD i default).w = w) (h2 : ∀ j, j < i → ¬ ((fsOf b nm).getD j default).w = w) : hasF b nm w ∧ fOf b nm w = (fsOf b nm).getD i default := by
  have e := wIdx_i hi h h2
  have hh : hasF b nm w := ⟨he, by omega⟩
  refine ⟨hh, ?_⟩
  rw [fOf, if_pos hh, e]; rfl
theorem has_no {b : PBook} {nm : ByteArray} {w : Int} (h : 0 ≤ eIdx b.es nm → ∀ j, j < (fsOf b nm).length → ¬ ((fsOf b nm).getD j default).w = w) : ¬ hasF b nm w ∧ fOf b nm w = ⟨0, 0, ⟨#[]⟩⟩ := by
  have hh : ¬ hasF b nm w := fun k => by have := wIdx_no (h k.1); have := k.2; omega
  exact ⟨hh, if_neg hh⟩
theorem c_l13Later (f g : Fld) : Contract P 94 [.agg f.row, .agg g.row] [] (.bool (decide (f.later g))) [] := by
  simp only [Fld.row]
  refine fn_sound (Env.nil P) hm k_spec_l13Later (Nat.le_of_ble_eq_true rfl) rfl ?_; unfold s_spec_l13Later; simp (config := { maxSteps := 2000000 }) only [bitvec_to_nat, reduceIte, Nat.reduceEqDiff, Nat.reduceAdd, Nat.reduceLeDiff, reduceCtorEq, Nat.reduceBEq, Nat.reduceLT, Nat.reduceMod, List.forall_mem_cons, tk_map, dp_map, toNat_pred, appE, rowsOf, List.take_length, List.length_cons, List.length_nil, Nat.zero_add, srow, irow, un_s, un_i, Zone.row, Zone_eta, un_Zone, Word.row, Word_eta, Own.row, Own_eta, Part.row, Part_eta, Seen.row, Seen_eta, Book.row, Book_eta, Sector.row, Sector_eta, HCraft.row, HCraft_eta, World.row, World_eta, PKind.row, PKind_eta, PPt.row, PPt_eta, Cell.row, Cell_eta, PBase.row, PBase_eta, Chg.row, Chg_eta, Fld.row, Fld_eta, Ent.row, Ent_eta, PBook.row, PBook_eta, un_Word, un_Own, un_Part, un_Seen, un_Book, un_Sector, un_HCraft, un_World, un_PKind, un_PPt, un_Cell, un_PBase, un_Chg, un_Fld, un_Ent, un_PBook, Nat.sub_zero, List.nil_append, Int.toNat_one, un_PKind, un_PPt, PBook.row, PBook_eta, Fld.row, Fld_eta, Ent.row, Ent_eta, un_Ent, un_Fld, Chg.row, Chg_eta]
  repeat' (first | with_reducible apply And.intro | with_reducible intro _)
  all_goals first
    | omega
    | grind [Fld.later]
    | (rw [decide_eq_decide]; grind [Fld.later])
    | trace_state
def t_l13Later : List AV → Option (Prop × AV)
  | [.agg [.int .i64 f_w, .int .i64 f_nr, .str f_v], .agg [.int .i64 g_w, .int .i64 g_nr, .str g_v]] => some ((True) ∧ (True), .bool (decide (Fld.later (Fld.mk f_w f_nr f_v) (Fld.mk g_w g_nr g_v))))
  | _ => none
theorem h_l13Later : ∀ args p v, t_l13Later args = some (p, v) → p → Contract P 94 args [] v [] ∧ noref v = true ∧ No99 v := by
  intro args p v h1 h2
  unfold t_l13Later at h1
  split at h1
  · rename_i f_w f_nr f_v g_w g_nr g_v
    cases h1
    obtain ⟨_, HP⟩ := h2
    have := c_l13Later (Fld.mk f_w f_nr f_v) (Fld.mk g_w g_nr g_v)
    exact ⟨by simpa only [Fld.row, Fld.row] using this, rfl, trivial⟩
  · cases h1
theorem c_later (f g : Fld) : Contract P 62 [.agg f.row, .agg g.row] [] (.bool (decide (f.later g))) [] := by
  simp only [Fld.row]
  refine fn_sound (Env.nil P) hm k_impl_PlanField_later (Nat.le_of_ble_eq_true rfl) rfl ?_; unfold s_impl_PlanField_later; simp (config := { maxSteps := 2000000 }) only [bitvec_to_nat, reduceIte, Nat.reduceEqDiff, Nat.reduceAdd, Nat.reduceLeDiff, reduceCtorEq, Nat.reduceBEq, Nat.reduceLT, Nat.reduceMod, List.forall_mem_cons, tk_map, dp_map, toNat_pred, appE, rowsOf, List.take_length, List.length_cons, List.length_nil, Nat.zero_add, srow, irow, un_s, un_i, Zone.row, Zone_eta, un_Zone, Word.row, Word_eta, Own.row, Own_eta, Part.row, Part_eta, Seen.row, Seen_eta, Book.row, Book_eta, Sector.row, Sector_eta, HCraft.row, HCraft_eta, World.row, World_eta, PKind.row, PKind_eta, PPt.row, PPt_eta, Cell.row, Cell_eta, PBase.row, PBase_eta, Chg.row, Chg_eta, Fld.row, Fld_eta, Ent.row, Ent_eta, PBook.row, PBook_eta, un_Word, un_Own, un_Part, un_Seen, un_Book, un_Sector, un_HCraft, un_World, un_PKind, un_PPt, un_Cell, un_PBase, un_Chg, un_Fld, un_Ent, un_PBook, Nat.sub_zero, List.nil_append, Int.toNat_one, un_PKind, un_PPt, PBook.row, PBook_eta, Fld.row, Fld_eta, Ent.row, Ent_eta, un_Ent, un_Fld, Chg.row, Chg_eta]
  repeat' (first | with_reducible apply And.intro | with_reducible intro _)
  all_goals first
    | omega
    | grind [Fld.later]
    | (rw [decide_eq_decide]; grind [Fld.later])
    | trace_state
def t_later : List AV → Option (Prop × AV)
  | [.agg [.int .i64 f_w, .int .i64 f_nr, .str f_v], .agg [.int .i64 g_w, .int .i64 g_nr, .str g_v]] => some ((True) ∧ (True), .bool (decide (Fld.later (Fld.mk f_w f_nr f_v) (Fld.mk g_w g_nr g_v))))
  | _ => none
theorem h_later : ∀ args p v, t_later args = some (p, v) → p → Contract P 62 args [] v [] ∧ noref v = true ∧ No99 v := by
  intro args p v h1 h2
  unfold t_later at h1
  split at h1
  · rename_i f_w f_nr f_v g_w g_nr g_v
    cases h1
    obtain ⟨_, HP⟩ := h2
    have := c_later (Fld.mk f_w f_nr f_v) (Fld.mk g_w g_nr g_v)
    exact ⟨by simpa only [Fld.row, Fld.row] using this, rfl, trivial⟩
  · cases h1
theorem c_IndexFunc_Ent (g : FuncId) (hg : calleeB P g = true) (ls : List AV) (hls : norefL ls = true) (p : Ent → Bool) (t : Nat) (zs : List Ent) (hl : zs.length ≤ 4611686018427387904)
    (hC : ∀ z, Contract P g (.agg (Ent.row 0 z) :: [.ptr 3 0]) [(3, .box ls)] (.bool (p z)) [(3, .box ls)]) : Contract P 110 [.sl t 2 (zs.map (Ent.row 0)), .fn g [] [.ptr 3 0]] [(3, .box ls)] (.int .i64 (fIdx p zs)) [(3, .box ls)] := by
  refine fn_sound (Env.nil P) hm k_slices_IndexFunc_PlanEntry (Nat.le_of_ble_eq_true rfl) rfl ?_; unfold s_slices_IndexFunc_PlanEntry; simp (config := { maxSteps := 2000000 }) only [bitvec_to_nat, reduceIte, Nat.reduceEqDiff, Nat.reduceAdd, Nat.reduceLeDiff, reduceCtorEq, Nat.reduceBEq, Nat.reduceLT, Nat.reduceMod, List.forall_mem_cons, retG_ret, retQ_eq, retQ_eqN, retOk, keepB, re_tupl, orr_t, callL_nil]
  refine loop_st (fun i : Nat => [(8, .int .i64 i)]) (fun _ => []) (fun i => i ≤ zs.length ∧ ∀ j, j < i → p (zs.getD j default) = false) (fun i => zs.length - i) (0) (by simp only [u_E0, u_E1, u_M0, u_M1, w_setE0, w_setE1, w_setM0, w_setM1, reduceIte, Nat.reduceEqDiff]; exact ⟨by repeat' (first | exact trivial | refine ⟨.inr rfl, ?_⟩), by repeat' (first | exact trivial | refine ⟨rfl, ?_⟩), by first | rfl | simp [closedB, refsIn, refsInL, refsInO, dom, refsInL_nr, *], by first | rfl | simp [keepB, dom]⟩) ?_ ?_
  · exact ⟨Nat.zero_le _, by intro j hj; omega⟩
  intro i hi NX hN
  unfold l_slices_IndexFunc_PlanEntry_0; simp (config := { maxSteps := 2000000 }) only [bitvec_to_nat, reduceIte, Nat.reduceEqDiff, Nat.reduceAdd, Nat.reduceLeDiff, reduceCtorEq, Nat.reduceBEq, Nat.reduceLT, Nat.reduceMod, List.forall_mem_cons, retG_ret, retQ_eq, retQ_eqN, retOk, keepB, re_tupl, orr_t, callL_nil, Ent_len, Ent_take]
  refine ⟨fun h1 => ⟨by omega, by omega, hg, _, _, .inl ⟨[(3, .box ls)], hC (zs.getD i default), ?_, ?_, ?_, ?_, ?_, rfl, ?_⟩, ?_⟩, fun h1 => ?_⟩
  · simp [getM]
  · intro q hq; left; revert q; simp [dom]
  · simp [dom]
  · simp [refsInL, refsIn, dom, refsInL_nr, Ent_nr]
  · simp [refsInO, refsInL_nr, *]
  · simp [refsInO, refsInL_nr, *]
  · simp (config := { maxSteps := 2000000 }) only [bitvec_to_nat, reduceIte, Nat.reduceEqDiff, Nat.reduceAdd, Nat.reduceLeDiff, reduceCtorEq, Nat.reduceBEq, Nat.reduceLT, Nat.reduceMod, List.forall_mem_cons, retG_ret, retQ_eq, retQ_eqN, retOk, keepB, re_tupl, orr_t, callL_nil]
    refine ⟨fun h2 => ?_, fun h2 => ?_⟩
    · simp (config := { maxSteps := 2000000 }) only [bitvec_to_nat, reduceIte, Nat.reduceEqDiff, Nat.reduceAdd, Nat.reduceLeDiff, reduceCtorEq, Nat.reduceBEq, Nat.reduceLT, Nat.reduceMod, List.forall_mem_cons, retG_ret, retQ_eq, retQ_eqN, retOk, keepB, re_tupl, orr_t, callL_nil]
      rw [fIdx_at (by omega) h2 hi.2]
      simp [dom, refsInL_nr, *]
    · simp (config := { maxSteps := 2000000 }) only [bitvec_to_nat, reduceIte, Nat.reduceEqDiff, Nat.reduceAdd, Nat.reduceLeDiff, reduceCtorEq, Nat.reduceBEq, Nat.reduceLT, Nat.reduceMod, List.forall_mem_cons, retG_ret, retQ_eq, retQ_eqN, retOk, keepB, re_tupl, orr_t, callL_nil]
      refine ⟨by omega, ?_⟩
      refine hN (i + 1) _ (by simp only [u_E0, u_E1, u_M0, u_M1, w_setE0, w_setE1, w_setM0, w_setM1, reduceIte, Nat.reduceEqDiff]; exact ⟨by repeat' (first | exact trivial | refine ⟨.inr rfl, ?_⟩), by repeat' (first | exact trivial | refine ⟨rfl, ?_⟩), by first | rfl | simp [closedB, refsIn, refsInL, refsInO, dom, refsInL_nr, *], by first | rfl | simp [keepB, dom]⟩) ?_ ?_
      · exact ⟨by omega, all_snoc hi.2 h2⟩
      · omega
  · rw [fIdx_none fun j hj => hi.2 j (by omega)]
    simp [dom, refsInL_nr, *]
theorem c_entry1 (z : Ent) (s : ByteArray) : Contract P 111 [.agg (z.row 0), .ptr 3 0] [(3, .box [.str s])] (.bool (decide (z.nm = s))) [(3, .box [.str s])] := by
  simp only [Ent.row]
  refine fn_sound (Env.nil P) hm k_impl_PlanBook_entry_1 (Nat.le_of_ble_eq_true rfl) rfl ?_; unfold s_impl_PlanBook_entry_1; simp (config := { maxSteps := 2000000 }) only [bitvec_to_nat, reduceIte, Nat.reduceEqDiff, Nat.reduceAdd, Nat.reduceLeDiff, reduceCtorEq, Nat.reduceBEq, Nat.reduceLT, Nat.reduceMod, List.forall_mem_cons, retG_ret, retQ_eq, retQ_eqN, retOk, keepB, re_tupl, orr_t, Ent_eta]
  all_goals simp [dom]
def r_entryI : RTab
  | [.sl zt 2 zx, .fn 111 [] [.ptr ob off]], M => match M ob with
    | some (.box [.str s]) => some ⟨off = 0 ∧ (zx.map unEnt).map (Ent.row 0) = zx ∧ (zx.map unEnt).length ≤ 4611686018427387904, fun _ : Unit => True, fun _ => .int .i64 (fIdx (fun z => decide (z.nm = s)) (zx.map unEnt)), fun _ => [(ob, .box [.str s])]⟩
    | _ => none
  | _, _ => none
theorem h_entryI : okTab P 110 r_entryI := by
  intro args M o h hp
  unfold r_entryI at h
  split at h
  · rename_i zt zx ob off
    split at h
    · rename_i s hM
      cases h
      obtain ⟨rfl, e0, HP⟩ := hp
      have hC := c_IndexFunc_Ent 111 (by kernel_rfl) _ rfl (fun z => decide (z.nm = s)) zt (zx.map unEnt) HP fun z => c_entry1 z s
      simp only [e0, decide_eq_true_eq] at hC
      exact ⟨(), trivial, callR_box _ hC (by simp [norefL, noref]) rfl (by assumption) (by simp [renL, ren, swp]) (by simp [refsInL, refsIn, noref])⟩
    · cases h
  · cases h
theorem c_entry (b : PBook) (nm : ByteArray) (hl : b.es.length ≤ 1048576) : Contract P 95 [.agg (b.row 0), .str nm] [] (.int .i64 (eIdx b.es nm)) [] := by
  refine fn_sound ((Env.nil P).addR 110 r_entryI h_entryI) hm k_impl_PlanBook_entry (Nat.le_of_ble_eq_true rfl) rfl ?_; unfold s_impl_PlanBook_entry; simp (config := { maxSteps := 2000000 }) only [bitvec_to_nat, reduceIte, Nat.reduceEqDiff, Nat.reduceAdd, Nat.reduceLeDiff, reduceCtorEq, Nat.reduceBEq, Nat.reduceLT, Nat.reduceMod, List.forall_mem_cons, retG_ret, retQ_eq, retQ_eqN, retOk, keepB, re_tupl, orr_t, r_entryI, un_Ent, PBook.row]
  exact ⟨by omega, fun _ => rfl⟩
def t_entry : List AV → Option (Prop × AV)
  | [.agg [.sl 0 3 b_ks, .sl 0 3 b_ps, .sl 0 2 b_es], .str nm] => some ((((b_ks.map unPKind).map PKind.row = b_ks) ∧ ((b_ps.map unPPt).map PPt.row = b_ps) ∧ ((b_es.map unEnt).map (Ent.row 0) = b_es)) ∧ ((PBook.es (PBook.mk (b_ks.map unPKind) (b_ps.map unPPt) (b_es.map unEnt))).length ≤ 1048576), .int .i64 (eIdx (PBook.es (PBook.mk (b_ks.map unPKind) (b_ps.map unPPt) (b_es.map unEnt))) nm))
  | _ => none
theorem h_entry : ∀ args p v, t_entry args = some (p, v) → p → Contract P 95 args [] v [] ∧ noref v = true ∧ No99 v := by
  intro args p v h1 h2
  unfold t_entry at h1
  split at h1
  · rename_i b_ks b_ps b_es nm
    cases h1
    obtain ⟨⟨e0, e1, e2⟩, HP⟩ := h2
    have := c_entry (PBook.mk (b_ks.map unPKind) (b_ps.map unPPt) (b_es.map unEnt)) nm HP
    exact ⟨by simpa only [e0, e1, e2, PBook.row] using this, rfl, trivial⟩
  · cases h1
theorem c_l13At (b : PBook) (nm : ByteArray) (hl : b.es.length ≤ 1048576) : Contract P 67 [.agg (b.row 0), .str nm] [] (.int .i64 (eIdx b.es nm)) [] := by
  simp only [PBook.row]
  refine fn_sound (Env.nil P) hm k_spec_l13At (Nat.le_of_ble_eq_true rfl) rfl ?_; unfold s_spec_l13At; simp (config := { maxSteps := 2000000 }) only [bitvec_to_nat, reduceIte, Nat.reduceEqDiff, Nat.reduceAdd, Nat.reduceLeDiff, reduceCtorEq, Nat.reduceBEq, Nat.reduceLT, Nat.reduceMod, List.forall_mem_cons, Ent.row, Ent_eta, un_Ent, un_Fld, tk_map, dp_map, toNat_pred, Int.toNat_natCast, Nat.sub_zero, Nat.zero_add, List.length_map, PBook.row]
  refine loop_st (fun i : Nat => [(5, .int .i64 i)]) (fun _ => []) (fun i => i ≤ b.es.length ∧ ∀ j, j < i → decide ((b.es.getD j default).nm = nm) = false) (fun i => b.es.length - i) (0) (by simp only [u_E0, u_E1, u_M0, u_M1, w_setE0, w_setE1, w_setM0, w_setM1, reduceIte, Nat.reduceEqDiff]; exact ⟨by repeat' (first | exact trivial | refine ⟨.inr rfl, ?_⟩), by repeat' (first | exact trivial | refine ⟨rfl, ?_⟩), by first | rfl | simp [closedB, refsIn, refsInL, refsInO, dom, refsInL_nr, *], by first | rfl | simp [keepB, dom]⟩) ?_ ?_
  · exact ⟨Nat.zero_le _, by intro j hj; omega⟩
  intro i hi NX hN
  unfold l_spec_l13At_0; simp (config := { maxSteps := 2000000 }) only [bitvec_to_nat, reduceIte, Nat.reduceEqDiff, Nat.reduceAdd, Nat.reduceLeDiff, reduceCtorEq, Nat.reduceBEq, Nat.reduceLT, Nat.reduceMod, List.forall_mem_cons, Ent.row, Ent_eta, un_Ent, un_Fld, tk_map, dp_map, toNat_pred, Int.toNat_natCast, Nat.sub_zero, Nat.zero_add, List.length_map, PBook.row]
  
  repeat' (first | with_reducible apply And.intro | with_reducible intro _)
  all_goals first
    | omega
    | (refine hN (i + 1) _ (by simp only [u_E0, u_E1, u_M0, u_M1, w_setE0, w_setE1, w_setM0, w_setM1, reduceIte, Nat.reduceEqDiff]; exact ⟨by repeat' (first | exact trivial | refine ⟨.inr rfl, ?_⟩), by repeat' (first | exact trivial | refine ⟨rfl, ?_⟩), by first | rfl | simp [closedB, refsIn, refsInL, refsInO, dom, refsInL_nr, *], by first | rfl | simp [keepB, dom]⟩) ?_ ?_
       · exact ⟨by omega, all_snoc hi.2 (by simpa using ‹¬ _›)⟩
       · omega)
    | (unfold eIdx; rw [fIdx_at (i := i) (by omega) (by simpa using ‹_›) hi.2])
    | (unfold eIdx; rw [fIdx_none fun j hj => hi.2 j (by omega)])
def t_l13At : List AV → Option (Prop × AV)
  | [.agg [.sl 0 3 b_ks, .sl 0 3 b_ps, .sl 0 2 b_es], .str nm] => some ((((b_ks.map unPKind).map PKind.row = b_ks) ∧ ((b_ps.map unPPt).map PPt.row = b_ps) ∧ ((b_es.map unEnt).map (Ent.row 0) = b_es)) ∧ ((PBook.es (PBook.mk (b_ks.map unPKind) (b_ps.map unPPt) (b_es.map unEnt))).length ≤ 1048576), .int .i64 (eIdx (PBook.es (PBook.mk (b_ks.map unPKind) (b_ps.map unPPt) (b_es.map unEnt))) nm))
  | _ => none
theorem h_l13At : ∀ args p v, t_l13At args = some (p, v) → p → Contract P 67 args [] v [] ∧ noref v = true ∧ No99 v := by
  intro args p v h1 h2
  unfold t_l13At at h1
  split at h1
  · rename_i b_ks b_ps b_es nm
    cases h1
    obtain ⟨⟨e0, e1, e2⟩, HP⟩ := h2
    have := c_l13At (PBook.mk (b_ks.map unPKind) (b_ps.map unPPt) (b_es.map unEnt)) nm HP
    exact ⟨by simpa only [e0, e1, e2, PBook.row] using this, rfl, trivial⟩
  · cases h1
theorem fs_eq {b : PBook} {nm : ByteArray} : (b.es.getD (eIdx b.es nm).toNat default).fs = fsOf b nm := rfl
set_option maxHeartbeats 1000000 in
theorem c_field (b : PBook) (nm : ByteArray) (w : Int) (hf : b.fine) : Contract P 61 [.agg (b.row 0), .str nm, .int .i64 w] [] (.tup [.agg (fOf b nm w).row, .bool (decide (hasF b nm w))]) [] := by
  obtain ⟨_, hl, hv⟩ := hf
  have he := eIdx_at (l := b.es) (nm := nm)
  have hfe := fs_eq (b := b) (nm := nm)
  simp only [PBook.row]
  refine fn_sound ((Env.nil P).add 95 t_entry h_entry) hm k_impl_PlanBook_field (Nat.le_of_ble_eq_true rfl) rfl ?_; unfold s_impl_PlanBook_field; simp (config := { maxSteps := 2000000 }) only [bitvec_to_nat, reduceIte, Nat.reduceEqDiff, Nat.reduceAdd, Nat.reduceLeDiff, reduceCtorEq, Nat.reduceBEq, Nat.reduceLT, Nat.reduceMod, List.forall_mem_cons, t_entry, tk_map, dp_map, toNat_pred, appE, rowsOf, List.take_length, List.length_cons, List.length_nil, Nat.zero_add, srow, irow, un_s, un_i, Zone.row, Zone_eta, un_Zone, Word.row, Word_eta, Own.row, Own_eta, Part.row, Part_eta, Seen.row, Seen_eta, Book.row, Book_eta, Sector.row, Sector_eta, HCraft.row, HCraft_eta, World.row, World_eta, PKind.row, PKind_eta, PPt.row, PPt_eta, Cell.row, Cell_eta, PBase.row, PBase_eta, Chg.row, Chg_eta, Fld.row, Fld_eta, Ent.row, Ent_eta, PBook.row, PBook_eta, un_Word, un_Own, un_Part, un_Seen, un_Book, un_Sector, un_HCraft, un_World, un_PKind, un_PPt, un_Cell, un_PBase, un_Chg, un_Fld, un_Ent, un_PBook, Nat.sub_zero, List.nil_append, Int.toNat_one, un_PKind, un_PPt, PBook.row, PBook_eta, Fld.row, Fld_eta, Ent.row, Ent_eta, un_Ent, un_Fld, Chg.row, Chg_eta, hfe]
  refine ⟨hl, fun h0 => ?_, fun h0 => ?_⟩
  · obtain ⟨he1, he2, he3⟩ := he h0
    have hfl : (fsOf b nm).length ≤ 1048576 := (hv _ (getD_mem' he1)).1
    refine ⟨by omega, by omega, ?_⟩
    refine loop_st (fun i : Nat => [(23, .int .i64 i)]) (fun _ => []) (fun i => i ≤ (fsOf b nm).length ∧ ∀ j, j < i → ¬ ((fsOf b nm).getD j default).w = w) (fun i => (fsOf b nm).length - i) 0 (by simp only [u_E0, u_E1, u_M0, u_M1, w_setE0, w_setE1, w_setM0, w_setM1, reduceIte, Nat.reduceEqDiff]; exact ⟨by repeat' (first | exact trivial | refine ⟨.inr rfl, ?_⟩), by repeat' (first | exact trivial | refine ⟨rfl, ?_⟩), by first | rfl | simp [closedB, refsIn, refsInL, refsInO, dom, refsInL_nr, *], by first | rfl | simp [keepB, dom]⟩) ⟨Nat.zero_le _, fun j h => absurd h (Nat.not_lt_zero _)⟩ ?_
    rintro i ⟨hi, h1⟩ NX hN
    by_cases hlt : i < (fsOf b nm).length
    · have hk := fun h => has_i (w := w) h0 hlt h h1
      unfold l_impl_PlanBook_field_0; simp (config := { maxSteps := 2000000 }) only [bitvec_to_nat, reduceIte, Nat.reduceEqDiff, Nat.reduceAdd, Nat.reduceLeDiff, reduceCtorEq, Nat.reduceBEq, Nat.reduceLT, Nat.reduceMod, List.forall_mem_cons, t_entry, tk_map, dp_map, toNat_pred, appE, rowsOf, List.take_length, List.length_cons, List.length_nil, Nat.zero_add, srow, irow, un_s, un_i, Zone.row, Zone_eta, un_Zone, Word.row, Word_eta, Own.row, Own_eta, Part.row, Part_eta, Seen.row, Seen_eta, Book.row, Book_eta, Sector.row, Sector_eta, HCraft.row, HCraft_eta, World.row, World_eta, PKind.row, PKind_eta, PPt.row, PPt_eta, Cell.row, Cell_eta, PBase.row, PBase_eta, Chg.row, Chg_eta, Fld.row, Fld_eta, Ent.row, Ent_eta, PBook.row, PBook_eta, un_Word, un_Own, un_Part, un_Seen, un_Book, un_Sector, un_HCraft, un_World, un_PKind, un_PPt, un_Cell, un_PBase, un_Chg, un_Fld, un_Ent, un_PBook, Nat.sub_zero, List.nil_append, Int.toNat_one, un_PKind, un_PPt, PBook.row, PBook_eta, Fld.row, Fld_eta, Ent.row, Ent_eta, un_Ent, un_Fld, Chg.row, Chg_eta, hfe]
      repeat' (first | with_reducible apply And.intro | with_reducible intro _)
      all_goals first
        | omega
        | (refine hN (i + 1) _ (by simp only [u_E0, u_E1, u_M0, u_M1, w_setE0, w_setE1, w_setM0, w_setM1, reduceIte, Nat.reduceEqDiff]; exact ⟨by repeat' (first | exact trivial | refine ⟨.inr rfl, ?_⟩), by repeat' (first | exact trivial | refine ⟨rfl, ?_⟩), by first | rfl | simp [closedB, refsIn, refsInL, refsInO, dom, refsInL_nr, *], by first | rfl | simp [keepB, dom]⟩) ⟨hlt, all_snoc h1 (by assumption)⟩ (by omega))
        | (have := hk (by assumption); simp [this.1, this.2, Fld.row]; done)
        | (have := hk (by assumption); exact this.1)
        | trace_state
    · have e : i = (fsOf b nm).length := by omega
      subst e
      have hk := has_no (w := w) (b := b) (nm := nm) fun _ => h1
      unfold l_impl_PlanBook_field_0; simp (config := { maxSteps := 2000000 }) only [bitvec_to_nat, reduceIte, Nat.reduceEqDiff, Nat.reduceAdd, Nat.reduceLeDiff, reduceCtorEq, Nat.reduceBEq, Nat.reduceLT, Nat.reduceMod, List.forall_mem_cons, t_entry, tk_map, dp_map, toNat_pred, appE, rowsOf, List.take_length, List.length_cons, List.length_nil, Nat.zero_add, srow, irow, un_s, un_i, Zone.row, Zone_eta, un_Zone, Word.row, Word_eta, Own.row, Own_eta, Part.row, Part_eta, Seen.row, Seen_eta, Book.row, Book_eta, Sector.row, Sector_eta, HCraft.row, HCraft_eta, World.row, World_eta, PKind.row, PKind_eta, PPt.row, PPt_eta, Cell.row, Cell_eta, PBase.row, PBase_eta, Chg.row, Chg_eta, Fld.row, Fld_eta, Ent.row, Ent_eta, PBook.row, PBook_eta, un_Word, un_Own, un_Part, un_Seen, un_Book, un_Sector, un_HCraft, un_World, un_PKind, un_PPt, un_Cell, un_PBase, un_Chg, un_Fld, un_Ent, un_PBook, Nat.sub_zero, List.nil_append, Int.toNat_one, un_PKind, un_PPt, PBook.row, PBook_eta, Fld.row, Fld_eta, Ent.row, Ent_eta, un_Ent, un_Fld, Chg.row, Chg_eta, hfe]
      repeat' (first | with_reducible apply And.intro | with_reducible intro _)
      all_goals first
        | omega
        | (simp [hk.1, hk.2, Fld.row]; done)
        | (exfalso; omega)
        | trace_state
  · have hk := has_no (w := w) (b := b) (nm := nm) fun h => absurd h (by omega)
    simp [hk.1, hk.2, Fld.row]
def t_field : List AV → Option (Prop × AV)
  | [.agg [.sl 0 3 b_ks, .sl 0 3 b_ps, .sl 0 2 b_es], .str nm, .int .i64 w] => some ((((b_ks.map unPKind).map PKind.row = b_ks) ∧ ((b_ps.map unPPt).map PPt.row = b_ps) ∧ ((b_es.map unEnt).map (Ent.row 0) = b_es)) ∧ (PBook.fine (PBook.mk (b_ks.map unPKind) (b_ps.map unPPt) (b_es.map unEnt))), .tup [.agg (Fld.row (fOf (PBook.mk (b_ks.map unPKind) (b_ps.map unPPt) (b_es.map unEnt)) nm w)), .bool (decide (hasF (PBook.mk (b_ks.map unPKind) (b_ps.map unPPt) (b_es.map unEnt)) nm w))])
  | _ => none
theorem h_field : ∀ args p v, t_field args = some (p, v) → p → Contract P 61 args [] v [] ∧ noref v = true ∧ No99 v := by
  intro args p v h1 h2
  unfold t_field at h1
  split at h1
  · rename_i b_ks b_ps b_es nm w
    cases h1
    obtain ⟨⟨e0, e1, e2⟩, HP⟩ := h2
    have := c_field (PBook.mk (b_ks.map unPKind) (b_ps.map unPPt) (b_es.map unEnt)) nm w HP
    exact ⟨by simpa only [e0, e1, e2, PBook.row] using this, rfl, by simp [No99, No99L, Fld.row]⟩
  · cases h1
set_option maxHeartbeats 1000000 in
theorem c_l14Has (b : PBook) (nm : ByteArray) (g : Fld) (hf : b.fine) : Contract P 60 [.agg (b.row 0), .str nm, .agg g.row] [] (.bool (decide (hasF b nm g.w ∧ ¬ g.later (fOf b nm g.w)))) [] := by
  obtain ⟨_, hl, hv⟩ := hf
  obtain ⟨gw, gn, gv⟩ := g
  have he := eIdx_at (l := b.es) (nm := nm)
  have hfe := fs_eq (b := b) (nm := nm)
  have h0d : True := trivial
  have hix' : True := trivial
  simp only [PBook.row, Fld.row]
  refine fn_sound (((Env.nil P).add 67 t_l13At h_l13At).add 94 t_l13Later h_l13Later) hm k_spec_l14Has (Nat.le_of_ble_eq_true rfl) rfl ?_; unfold s_spec_l14Has; simp (config := { maxSteps := 2000000 }) only [bitvec_to_nat, reduceIte, Nat.reduceEqDiff, Nat.reduceAdd, Nat.reduceLeDiff, reduceCtorEq, Nat.reduceBEq, Nat.reduceLT, Nat.reduceMod, List.forall_mem_cons, t_l13At, t_l13Later, tk_map, dp_map, toNat_pred, appE, rowsOf, List.take_length, List.length_cons, List.length_nil, Nat.zero_add, srow, irow, un_s, un_i, Zone.row, Zone_eta, un_Zone, Word.row, Word_eta, Own.row, Own_eta, Part.row, Part_eta, Seen.row, Seen_eta, Book.row, Book_eta, Sector.row, Sector_eta, HCraft.row, HCraft_eta, World.row, World_eta, PKind.row, PKind_eta, PPt.row, PPt_eta, Cell.row, Cell_eta, PBase.row, PBase_eta, Chg.row, Chg_eta, Fld.row, Fld_eta, Ent.row, Ent_eta, PBook.row, PBook_eta, un_Word, un_Own, un_Part, un_Seen, un_Book, un_Sector, un_HCraft, un_World, un_PKind, un_PPt, un_Cell, un_PBase, un_Chg, un_Fld, un_Ent, un_PBook, Nat.sub_zero, List.nil_append, Int.toNat_one, un_PKind, un_PPt, PBook.row, PBook_eta, Fld.row, Fld_eta, Ent.row, Ent_eta, un_Ent, un_Fld, Chg.row, Chg_eta, hfe, h0d, hix']
  refine ⟨hl, ?_⟩
  by_cases h0 : 0 ≤ eIdx b.es nm
  · obtain ⟨he1, he2, he3⟩ := he h0
    have hfl : (fsOf b nm).length ≤ 1048576 := (hv _ (getD_mem' he1)).1
    have h0d : (0 ≤ eIdx b.es nm) = True := eq_true h0
    refine loop_st (fun i : Nat => [(8, .int .i64 i)]) (fun _ => []) (fun i => i ≤ (fsOf b nm).length ∧ ∀ j, j < i → ¬ ((fsOf b nm).getD j default).w = gw) (fun i => (fsOf b nm).length - i) 0 (by simp only [u_E0, u_E1, u_M0, u_M1, w_setE0, w_setE1, w_setM0, w_setM1, reduceIte, Nat.reduceEqDiff]; exact ⟨by repeat' (first | exact trivial | refine ⟨.inr rfl, ?_⟩), by repeat' (first | exact trivial | refine ⟨rfl, ?_⟩), by first | rfl | simp [closedB, refsIn, refsInL, refsInO, dom, refsInL_nr, *], by first | rfl | simp [keepB, dom]⟩) ⟨Nat.zero_le _, fun j h => absurd h (Nat.not_lt_zero _)⟩ ?_
    rintro i ⟨hi, h1⟩ NX hN
    by_cases hlt : i < (fsOf b nm).length
    · have hk := fun h => has_i (w := gw) h0 hlt h h1
      unfold l_spec_l14Has_0; simp (config := { maxSteps := 2000000 }) only [bitvec_to_nat, reduceIte, Nat.reduceEqDiff, Nat.reduceAdd, Nat.reduceLeDiff, reduceCtorEq, Nat.reduceBEq, Nat.reduceLT, Nat.reduceMod, List.forall_mem_cons, t_l13At, t_l13Later, tk_map, dp_map, toNat_pred, appE, rowsOf, List.take_length, List.length_cons, List.length_nil, Nat.zero_add, srow, irow, un_s, un_i, Zone.row, Zone_eta, un_Zone, Word.row, Word_eta, Own.row, Own_eta, Part.row, Part_eta, Seen.row, Seen_eta, Book.row, Book_eta, Sector.row, Sector_eta, HCraft.row, HCraft_eta, World.row, World_eta, PKind.row, PKind_eta, PPt.row, PPt_eta, Cell.row, Cell_eta, PBase.row, PBase_eta, Chg.row, Chg_eta, Fld.row, Fld_eta, Ent.row, Ent_eta, PBook.row, PBook_eta, un_Word, un_Own, un_Part, un_Seen, un_Book, un_Sector, un_HCraft, un_World, un_PKind, un_PPt, un_Cell, un_PBase, un_Chg, un_Fld, un_Ent, un_PBook, Nat.sub_zero, List.nil_append, Int.toNat_one, un_PKind, un_PPt, PBook.row, PBook_eta, Fld.row, Fld_eta, Ent.row, Ent_eta, un_Ent, un_Fld, Chg.row, Chg_eta, hfe, h0d, hix']
      repeat' (first | with_reducible apply And.intro | with_reducible intro _)
      all_goals first
        | omega
        | (refine hN (i + 1) _ (by simp only [u_E0, u_E1, u_M0, u_M1, w_setE0, w_setE1, w_setM0, w_setM1, reduceIte, Nat.reduceEqDiff]; exact ⟨by repeat' (first | exact trivial | refine ⟨.inr rfl, ?_⟩), by repeat' (first | exact trivial | refine ⟨rfl, ?_⟩), by first | rfl | simp [closedB, refsIn, refsInL, refsInO, dom, refsInL_nr, *], by first | rfl | simp [keepB, dom]⟩) ⟨hlt, all_snoc h1 (by assumption)⟩ (by omega))
        | (have := hk (by assumption); simp [this.1, this.2]; done)
        | (have := hk (by assumption); exact this.1)
        | (exfalso; omega)
        | trace_state
    · have e : i = (fsOf b nm).length := by omega
      subst e
      have hk := has_no (w := gw) (b := b) (nm := nm) fun _ => h1
      unfold l_spec_l14Has_0; simp (config := { maxSteps := 2000000 }) only [bitvec_to_nat, reduceIte, Nat.reduceEqDiff, Nat.reduceAdd, Nat.reduceLeDiff, reduceCtorEq, Nat.reduceBEq, Nat.reduceLT, Nat.reduceMod, List.forall_mem_cons, t_l13At, t_l13Later, tk_map, dp_map, toNat_pred, appE, rowsOf, List.take_length, List.length_cons, List.length_nil, Nat.zero_add, srow, irow, un_s, un_i, Zone.row, Zone_eta, un_Zone, Word.row, Word_eta, Own.row, Own_eta, Part.row, Part_eta, Seen.row, Seen_eta, Book.row, Book_eta, Sector.row, Sector_eta, HCraft.row, HCraft_eta, World.row, World_eta, PKind.row, PKind_eta, PPt.row, PPt_eta, Cell.row, Cell_eta, PBase.row, PBase_eta, Chg.row, Chg_eta, Fld.row, Fld_eta, Ent.row, Ent_eta, PBook.row, PBook_eta, un_Word, un_Own, un_Part, un_Seen, un_Book, un_Sector, un_HCraft, un_World, un_PKind, un_PPt, un_Cell, un_PBase, un_Chg, un_Fld, un_Ent, un_PBook, Nat.sub_zero, List.nil_append, Int.toNat_one, un_PKind, un_PPt, PBook.row, PBook_eta, Fld.row, Fld_eta, Ent.row, Ent_eta, un_Ent, un_Fld, Chg.row, Chg_eta, hfe, h0d, hix']
      repeat' (first | with_reducible apply And.intro | with_reducible intro _)
      all_goals first
        | omega
        | (simp [hk.1, hk.2]; done)
        | (exact fun h => absurd h.1 hk.1)
        | (exfalso; omega)
        | trace_state
  · have hk := has_no (w := gw) (b := b) (nm := nm) fun h => absurd h h0
    have h0d : (0 ≤ eIdx b.es nm) = False := eq_false h0
    refine loop_st (fun _ : Nat => [(8, .int .i64 0)]) (fun _ => []) (fun _ => True) (fun i => i) 0 (by simp only [u_E0, u_E1, u_M0, u_M1, w_setE0, w_setE1, w_setM0, w_setM1, reduceIte, Nat.reduceEqDiff]; exact ⟨by repeat' (first | exact trivial | refine ⟨.inr rfl, ?_⟩), by repeat' (first | exact trivial | refine ⟨rfl, ?_⟩), by first | rfl | simp [closedB, refsIn, refsInL, refsInO, dom, refsInL_nr, *], by first | rfl | simp [keepB, dom]⟩) trivial ?_
    intro i _ NX hN
    unfold l_spec_l14Has_0; simp (config := { maxSteps := 2000000 }) only [bitvec_to_nat, reduceIte, Nat.reduceEqDiff, Nat.reduceAdd, Nat.reduceLeDiff, reduceCtorEq, Nat.reduceBEq, Nat.reduceLT, Nat.reduceMod, List.forall_mem_cons, t_l13At, t_l13Later, tk_map, dp_map, toNat_pred, appE, rowsOf, List.take_length, List.length_cons, List.length_nil, Nat.zero_add, srow, irow, un_s, un_i, Zone.row, Zone_eta, un_Zone, Word.row, Word_eta, Own.row, Own_eta, Part.row, Part_eta, Seen.row, Seen_eta, Book.row, Book_eta, Sector.row, Sector_eta, HCraft.row, HCraft_eta, World.row, World_eta, PKind.row, PKind_eta, PPt.row, PPt_eta, Cell.row, Cell_eta, PBase.row, PBase_eta, Chg.row, Chg_eta, Fld.row, Fld_eta, Ent.row, Ent_eta, PBook.row, PBook_eta, un_Word, un_Own, un_Part, un_Seen, un_Book, un_Sector, un_HCraft, un_World, un_PKind, un_PPt, un_Cell, un_PBase, un_Chg, un_Fld, un_Ent, un_PBook, Nat.sub_zero, List.nil_append, Int.toNat_one, un_PKind, un_PPt, PBook.row, PBook_eta, Fld.row, Fld_eta, Ent.row, Ent_eta, un_Ent, un_Fld, Chg.row, Chg_eta, hfe, h0d, hix']
    first | (simp [hk.1]; done) | (exact fun h => absurd h.1 hk.1) | trace_state
def t_l14Has : List AV → Option (Prop × AV)
  | [.agg [.sl 0 3 b_ks, .sl 0 3 b_ps, .sl 0 2 b_es], .str nm, .agg [.int .i64 g_w, .int .i64 g_nr, .str g_v]] => some ((((b_ks.map unPKind).map PKind.row = b_ks) ∧ ((b_ps.map unPPt).map PPt.row = b_ps) ∧ ((b_es.map unEnt).map (Ent.row 0) = b_es)) ∧ (PBook.fine (PBook.mk (b_ks.map unPKind) (b_ps.map unPPt) (b_es.map unEnt))), .bool (decide (hasF (PBook.mk (b_ks.map unPKind) (b_ps.map unPPt) (b_es.map unEnt)) nm (Fld.w (Fld.mk g_w g_nr g_v)) ∧ ¬ Fld.later (Fld.mk g_w g_nr g_v) (fOf (PBook.mk (b_ks.map unPKind) (b_ps.map unPPt) (b_es.map unEnt)) nm (Fld.w (Fld.mk g_w g_nr g_v))))))
  | _ => none
theorem h_l14Has : ∀ args p v, t_l14Has args = some (p, v) → p → Contract P 60 args [] v [] ∧ noref v = true ∧ No99 v := by
  intro args p v h1 h2
  unfold t_l14Has at h1
  split at h1
  · rename_i b_ks b_ps b_es nm g_w g_nr g_v
    cases h1
    obtain ⟨⟨e0, e1, e2⟩, HP⟩ := h2
    have := c_l14Has (PBook.mk (b_ks.map unPKind) (b_ps.map unPPt) (b_es.map unEnt)) nm (Fld.mk g_w g_nr g_v) HP
    exact ⟨by simpa only [e0, e1, e2, PBook.row, Fld.row] using this, rfl, trivial⟩
  · cases h1
end
end Go.Ve

namespace Go.Ve
noncomputable section
open Go.Proofs
set_option linter.unusedSimpArgs false
set_option linter.unusedVariables false
set_option maxRecDepth 100000
def isNew (a : PBook) (nm : ByteArray) (f : Fld) : Prop := ¬ (hasF a nm f.w ∧ ¬ f.later (fOf a nm f.w))
noncomputable instance (a : PBook) (nm : ByteArray) (f : Fld) : Decidable (isNew a nm f) := Classical.propDecidable _
def toChg' (nm : ByteArray) (f : Fld) : Chg := ⟨nm, f.w, f.nr, f.v⟩
def newF (a : PBook) (e : Ent) : Nat → List Chg
  | 0 => []
  | k + 1 => if isNew a e.nm (e.fs.getD k default) then newF a e k ++ [toChg' e.nm (e.fs.getD k default)] else newF a e k
def newE (a : PBook) (es : List Ent) : Nat → List Chg
  | 0 => []
  | i + 1 => newE a es i ++ newF a (es.getD i default) (es.getD i default).fs.length
def newsOk (a b : PBook) : Prop := a.ok ∧ b.ok
noncomputable instance (a b : PBook) : Decidable (newsOk a b) := Classical.propDecidable _
def newsL (a b : PBook) : List Chg := if newsOk a b then newE a b.es b.es.length else []
theorem newF_len {a : PBook} {e : Ent} : ∀ k, (newF a e k).length ≤ k
  | 0 => Nat.le_refl _
  | k + 1 => by
    have := newF_len (a := a) (e := e) k
    simp only [newF]; split
    · rw [List.length_append]; simp; omega
    · omega
theorem newE_len {a : PBook} {es : List Ent} (h : ∀ e ∈ es, e.fs.length ≤ 1048576) : ∀ i, i ≤ es.length → (newE a es i).length ≤ 1048576 * i
  | 0, _ => by simp [newE]
  | i + 1, hi => by
    have := newE_len (a := a) h i (by omega)
    have h2 := newF_len (a := a) (e := es.getD i default) (es.getD i default).fs.length
    have h3 := h _ (getD_mem' (show i < es.length by omega))
    simp only [newE, List.length_append]; omega
set_option maxHeartbeats 2000000 in
theorem c_sNews (a b : PBook) (hfa : a.fine) (hfb : b.fine) : Contract P 23 [.agg (a.row 0), .agg (b.row 0)] [] (.sl 0 4 ((newsL a b).map Chg.row)) [] := by
  have tkl : True := trivial
  have tk2 : True := trivial
  have hb1 := hfb
  obtain ⟨_, hbl, hbv⟩ := hb1
  have no : ¬ newsOk a b → newsL a b = [] := fun h => if_neg h
  simp only [PBook.row]
  refine fn_sound (((Env.nil P).add 19 t_sBookOk h_sBookOk).add 60 t_l14Has h_l14Has) hm k_spec_PlanNews (Nat.le_of_ble_eq_true rfl) rfl ?_; unfold s_spec_PlanNews; simp (config := { maxSteps := 2000000 }) only [bitvec_to_nat, reduceIte, Nat.reduceEqDiff, Nat.reduceAdd, Nat.reduceLeDiff, reduceCtorEq, Nat.reduceBEq, Nat.reduceLT, Nat.reduceMod, List.forall_mem_cons, t_sBookOk, t_l14Has, tk_map, dp_map, toNat_pred, appE, rowsOf, List.take_length, List.length_cons, List.length_nil, Nat.zero_add, srow, irow, un_s, un_i, Zone.row, Zone_eta, un_Zone, Word.row, Word_eta, Own.row, Own_eta, Part.row, Part_eta, Seen.row, Seen_eta, Book.row, Book_eta, Sector.row, Sector_eta, HCraft.row, HCraft_eta, World.row, World_eta, PKind.row, PKind_eta, PPt.row, PPt_eta, Cell.row, Cell_eta, PBase.row, PBase_eta, Chg.row, Chg_eta, Fld.row, Fld_eta, Ent.row, Ent_eta, PBook.row, PBook_eta, un_Word, un_Own, un_Part, un_Seen, un_Book, un_Sector, un_HCraft, un_World, un_PKind, un_PPt, un_Cell, un_PBase, un_Chg, un_Fld, un_Ent, un_PBook, Nat.sub_zero, List.nil_append, Int.toNat_one, un_PKind, un_PPt, PBook.row, PBook_eta, Fld.row, Fld_eta, Ent.row, Ent_eta, un_Ent, un_Fld, Chg.row, Chg_eta, ghost, tkl, tk2, toChg']
  repeat' (first | with_reducible apply And.intro | with_reducible intro _)
  all_goals first
    | omega
    | exact hfa
    | exact hfb
    | exact ⟨hfa, hna⟩
    | exact ⟨hfb, hnb⟩
    | exact hfa.1.1 | exact hfa.1.2 | exact hfa.2.1 | exact hfa.2.2
    | exact hfb.1.1 | exact hfb.1.2 | exact hfb.2.1 | exact hfb.2.2
    | (rw [no (by intro h; exact absurd h.1 (by assumption))]; rfl)
    | (rw [no (by intro h; exact absurd h.2 (by assumption))]; rfl)
    | skip
  have hnw : newsOk a b := by first | assumption | exact ⟨by assumption, by assumption⟩
  have hE := newE_len (a := a) (es := b.es) fun e he => (hbv e he).1
  refine loop_st (fun i : Nat => [(5, .own 109 (newE a b.es i).length 0 (newE a b.es i).length), (6, .int .i64 i)]) (fun i => [(109, .arr 39 (newE a b.es i).length 4 ((newE a b.es i).map Chg.row))]) (fun i => i ≤ b.es.length) (fun i => b.es.length - i) 0 (by simp only [u_E0, u_E1, u_M0, u_M1, w_setE0, w_setE1, w_setM0, w_setM1, reduceIte, Nat.reduceEqDiff]; exact ⟨by repeat' (first | exact trivial | refine ⟨.inr rfl, ?_⟩), by repeat' (first | exact trivial | refine ⟨rfl, ?_⟩), by first | rfl | simp [closedB, refsIn, refsInL, refsInO, dom, refsInL_nr, *], by first | rfl | simp [keepB, dom]⟩) (Nat.zero_le _) ?_
  intro i hi NX hN
  have hEi := hE i hi
  have hb12 : b.es.length ≤ 12 := hnw.2.1.2
  have tkl : List.take (newE a b.es i).length ((newE a b.es i).map Chg.row) = (newE a b.es i).map Chg.row := List.take_of_length_le (by simp)
  by_cases hlt : i < b.es.length
  · have hfl := (hbv _ (getD_mem' hlt)).1
    have hEs : newE a b.es (i + 1) = newE a b.es i ++ newF a (b.es.getD i default) (b.es.getD i default).fs.length := rfl
    unfold l_spec_PlanNews_1; simp (config := { maxSteps := 2000000 }) only [bitvec_to_nat, reduceIte, Nat.reduceEqDiff, Nat.reduceAdd, Nat.reduceLeDiff, reduceCtorEq, Nat.reduceBEq, Nat.reduceLT, Nat.reduceMod, List.forall_mem_cons, t_sBookOk, t_l14Has, tk_map, dp_map, toNat_pred, appE, rowsOf, List.take_length, List.length_cons, List.length_nil, Nat.zero_add, srow, irow, un_s, un_i, Zone.row, Zone_eta, un_Zone, Word.row, Word_eta, Own.row, Own_eta, Part.row, Part_eta, Seen.row, Seen_eta, Book.row, Book_eta, Sector.row, Sector_eta, HCraft.row, HCraft_eta, World.row, World_eta, PKind.row, PKind_eta, PPt.row, PPt_eta, Cell.row, Cell_eta, PBase.row, PBase_eta, Chg.row, Chg_eta, Fld.row, Fld_eta, Ent.row, Ent_eta, PBook.row, PBook_eta, un_Word, un_Own, un_Part, un_Seen, un_Book, un_Sector, un_HCraft, un_World, un_PKind, un_PPt, un_Cell, un_PBase, un_Chg, un_Fld, un_Ent, un_PBook, Nat.sub_zero, List.nil_append, Int.toNat_one, un_PKind, un_PPt, PBook.row, PBook_eta, Fld.row, Fld_eta, Ent.row, Ent_eta, un_Ent, un_Fld, Chg.row, Chg_eta, ghost, tkl, tk2, toChg']
    repeat' (first | with_reducible apply And.intro | with_reducible intro _)
    all_goals first
      | omega
      | skip
    refine loop_st (fun k : Nat => [(5, .own 109 (newE a b.es i ++ newF a (b.es.getD i default) k).length 0 (newE a b.es i ++ newF a (b.es.getD i default) k).length), (7, .int .i64 k)]) (fun k => [(109, .arr 39 (newE a b.es i ++ newF a (b.es.getD i default) k).length 4 ((newE a b.es i ++ newF a (b.es.getD i default) k).map Chg.row))]) (fun k => k ≤ (b.es.getD i default).fs.length) (fun k => (b.es.getD i default).fs.length - k) 0 (by
      have e0 : newE a b.es i ++ newF a (b.es.getD i default) 0 = newE a b.es i := by simp [newF]
      simp only [e0]; simp only [u_E0, u_E1, u_M0, u_M1, w_setE0, w_setE1, w_setM0, w_setM1, reduceIte, Nat.reduceEqDiff]; exact ⟨by repeat' (first | exact trivial | refine ⟨.inr rfl, ?_⟩), by repeat' (first | exact trivial | refine ⟨rfl, ?_⟩), by first | rfl | simp [closedB, refsIn, refsInL, refsInO, dom, refsInL_nr, *], by first | rfl | simp [keepB, dom]⟩) (Nat.zero_le _) ?_
    intro k hk NX2 hN2
    have hFk := newF_len (a := a) (e := b.es.getD i default) k
    have hll : (newE a b.es i ++ newF a (b.es.getD i default) k).length = (newE a b.es i).length + (newF a (b.es.getD i default) k).length := List.length_append
    have tk2 : List.take (newE a b.es i ++ newF a (b.es.getD i default) k).length ((newE a b.es i ++ newF a (b.es.getD i default) k).map Chg.row) = (newE a b.es i ++ newF a (b.es.getD i default) k).map Chg.row := List.take_of_length_le (by simp)
    by_cases hlt2 : k < (b.es.getD i default).fs.length
    · have hY : isNew a (b.es.getD i default).nm ((b.es.getD i default).fs.getD k default) → newE a b.es i ++ newF a (b.es.getD i default) (k + 1) = (newE a b.es i ++ newF a (b.es.getD i default) k) ++ [toChg' (b.es.getD i default).nm ((b.es.getD i default).fs.getD k default)] := fun h => by
        rw [newF, if_pos h, List.append_assoc]
      have hN' : ¬ isNew a (b.es.getD i default).nm ((b.es.getD i default).fs.getD k default) → newE a b.es i ++ newF a (b.es.getD i default) (k + 1) = (newE a b.es i ++ newF a (b.es.getD i default) k) := fun h => by
        rw [newF, if_neg h]
      unfold l_spec_PlanNews_0; simp (config := { maxSteps := 2000000 }) only [bitvec_to_nat, reduceIte, Nat.reduceEqDiff, Nat.reduceAdd, Nat.reduceLeDiff, reduceCtorEq, Nat.reduceBEq, Nat.reduceLT, Nat.reduceMod, List.forall_mem_cons, t_sBookOk, t_l14Has, tk_map, dp_map, toNat_pred, appE, rowsOf, List.take_length, List.length_cons, List.length_nil, Nat.zero_add, srow, irow, un_s, un_i, Zone.row, Zone_eta, un_Zone, Word.row, Word_eta, Own.row, Own_eta, Part.row, Part_eta, Seen.row, Seen_eta, Book.row, Book_eta, Sector.row, Sector_eta, HCraft.row, HCraft_eta, World.row, World_eta, PKind.row, PKind_eta, PPt.row, PPt_eta, Cell.row, Cell_eta, PBase.row, PBase_eta, Chg.row, Chg_eta, Fld.row, Fld_eta, Ent.row, Ent_eta, PBook.row, PBook_eta, un_Word, un_Own, un_Part, un_Seen, un_Book, un_Sector, un_HCraft, un_World, un_PKind, un_PPt, un_Cell, un_PBase, un_Chg, un_Fld, un_Ent, un_PBook, Nat.sub_zero, List.nil_append, Int.toNat_one, un_PKind, un_PPt, PBook.row, PBook_eta, Fld.row, Fld_eta, Ent.row, Ent_eta, un_Ent, un_Fld, Chg.row, Chg_eta, ghost, tkl, tk2, toChg']
      repeat' (first | with_reducible apply And.intro | with_reducible intro _)
      all_goals first
        | omega
        | exact hfa
        | exact hfa.1.1 | exact hfa.1.2 | exact hfa.2.1 | exact hfa.2.2
        | (have hq := hY (by unfold isNew; first | assumption | grind)
           refine hN2 (k + 1) _ (by simp only [hq, toChg', Chg.row, List.length_append, List.length_cons, List.length_nil, Nat.zero_add, List.map_append (l₂ := [_]), List.map_cons, List.map_nil]; simp only [u_E0, u_E1, u_M0, u_M1, w_setE0, w_setE1, w_setM0, w_setM1, reduceIte, Nat.reduceEqDiff]; exact ⟨by repeat' (first | exact trivial | refine ⟨.inr rfl, ?_⟩), by repeat' (first | exact trivial | refine ⟨rfl, ?_⟩), by first | rfl | simp [closedB, refsIn, refsInL, refsInO, dom, refsInL_nr, *], by first | rfl | simp [keepB, dom]⟩) hlt2 (by omega))
        | (have hq := hN' (by unfold isNew; first | assumption | grind)
           refine hN2 (k + 1) _ (by simp only [hq]; simp only [u_E0, u_E1, u_M0, u_M1, w_setE0, w_setE1, w_setM0, w_setM1, reduceIte, Nat.reduceEqDiff]; exact ⟨by repeat' (first | exact trivial | refine ⟨.inr rfl, ?_⟩), by repeat' (first | exact trivial | refine ⟨rfl, ?_⟩), by first | rfl | simp [closedB, refsIn, refsInL, refsInO, dom, refsInL_nr, *], by first | rfl | simp [keepB, dom]⟩) hlt2 (by omega))
        | trace_state
    · have e : k = (b.es.getD i default).fs.length := by omega
      subst e
      unfold l_spec_PlanNews_0; simp (config := { maxSteps := 2000000 }) only [bitvec_to_nat, reduceIte, Nat.reduceEqDiff, Nat.reduceAdd, Nat.reduceLeDiff, reduceCtorEq, Nat.reduceBEq, Nat.reduceLT, Nat.reduceMod, List.forall_mem_cons, t_sBookOk, t_l14Has, tk_map, dp_map, toNat_pred, appE, rowsOf, List.take_length, List.length_cons, List.length_nil, Nat.zero_add, srow, irow, un_s, un_i, Zone.row, Zone_eta, un_Zone, Word.row, Word_eta, Own.row, Own_eta, Part.row, Part_eta, Seen.row, Seen_eta, Book.row, Book_eta, Sector.row, Sector_eta, HCraft.row, HCraft_eta, World.row, World_eta, PKind.row, PKind_eta, PPt.row, PPt_eta, Cell.row, Cell_eta, PBase.row, PBase_eta, Chg.row, Chg_eta, Fld.row, Fld_eta, Ent.row, Ent_eta, PBook.row, PBook_eta, un_Word, un_Own, un_Part, un_Seen, un_Book, un_Sector, un_HCraft, un_World, un_PKind, un_PPt, un_Cell, un_PBase, un_Chg, un_Fld, un_Ent, un_PBook, Nat.sub_zero, List.nil_append, Int.toNat_one, un_PKind, un_PPt, PBook.row, PBook_eta, Fld.row, Fld_eta, Ent.row, Ent_eta, un_Ent, un_Fld, Chg.row, Chg_eta, ghost, tkl, tk2, toChg']
      repeat' (first | with_reducible apply And.intro | with_reducible intro _)
      all_goals first
        | omega
        | (refine hN (i + 1) _ (by simp only [hEs]; simp only [u_E0, u_E1, u_M0, u_M1, w_setE0, w_setE1, w_setM0, w_setM1, reduceIte, Nat.reduceEqDiff]; exact ⟨by repeat' (first | exact trivial | refine ⟨.inr rfl, ?_⟩), by repeat' (first | exact trivial | refine ⟨rfl, ?_⟩), by first | rfl | simp [closedB, refsIn, refsInL, refsInO, dom, refsInL_nr, *], by first | rfl | simp [keepB, dom]⟩) hlt (by omega))
        | (exfalso; omega)
        | trace_state
  · have e : i = b.es.length := by omega
    subst e
    have hL : newsL a b = newE a b.es b.es.length := if_pos hnw
    unfold l_spec_PlanNews_1; simp (config := { maxSteps := 2000000 }) only [bitvec_to_nat, reduceIte, Nat.reduceEqDiff, Nat.reduceAdd, Nat.reduceLeDiff, reduceCtorEq, Nat.reduceBEq, Nat.reduceLT, Nat.reduceMod, List.forall_mem_cons, t_sBookOk, t_l14Has, tk_map, dp_map, toNat_pred, appE, rowsOf, List.take_length, List.length_cons, List.length_nil, Nat.zero_add, srow, irow, un_s, un_i, Zone.row, Zone_eta, un_Zone, Word.row, Word_eta, Own.row, Own_eta, Part.row, Part_eta, Seen.row, Seen_eta, Book.row, Book_eta, Sector.row, Sector_eta, HCraft.row, HCraft_eta, World.row, World_eta, PKind.row, PKind_eta, PPt.row, PPt_eta, Cell.row, Cell_eta, PBase.row, PBase_eta, Chg.row, Chg_eta, Fld.row, Fld_eta, Ent.row, Ent_eta, PBook.row, PBook_eta, un_Word, un_Own, un_Part, un_Seen, un_Book, un_Sector, un_HCraft, un_World, un_PKind, un_PPt, un_Cell, un_PBase, un_Chg, un_Fld, un_Ent, un_PBook, Nat.sub_zero, List.nil_append, Int.toNat_one, un_PKind, un_PPt, PBook.row, PBook_eta, Fld.row, Fld_eta, Ent.row, Ent_eta, un_Ent, un_Fld, Chg.row, Chg_eta, ghost, tkl, tk2, toChg']
    repeat' (first | with_reducible apply And.intro | with_reducible intro _)
    all_goals first
      | omega
      | (rw [hL]; done)
      | (simp [hL, refsIn, refsInL, dom]; done)
      | (exfalso; omega)
      | trace_state
set_option maxHeartbeats 2000000 in
theorem c_iNewsY (a b : PBook) (hfa : a.fine) (hfb : b.fine) (hna : a.names) (hnb : b.names) (hok : newsOk a b) : Contract P 24 [.agg (a.row 0), .agg (b.row 0)] [] (.own 105 (newsL a b).length 0 (newsL a b).length) [(105, .arr 39 (newsL a b).length 4 ((newsL a b).map Chg.row))] := by
  have tkl : True := trivial
  have tk2 : True := trivial
  have hb1 := hfb
  obtain ⟨_, hbl, hbv⟩ := hb1
  have no : ¬ newsOk a b → newsL a b = [] := fun h => if_neg h
  simp only [PBook.row]
  refine fn_sound ((((Env.nil P).add 21 t_iBookOk h_iBookOk).add 61 t_field h_field).add 62 t_later h_later) hm kO_impl_PlanNews (Nat.le_of_ble_eq_true rfl) rfl ?_; unfold sO_impl_PlanNews; simp (config := { maxSteps := 2000000 }) only [bitvec_to_nat, reduceIte, Nat.reduceEqDiff, Nat.reduceAdd, Nat.reduceLeDiff, reduceCtorEq, Nat.reduceBEq, Nat.reduceLT, Nat.reduceMod, List.forall_mem_cons, retG_ret, retQ_eq, retQ_eqN, retOk, keepB, re_tupl, orr_t, t_iBookOk, t_field, t_later, tk_map, dp_map, toNat_pred, appE, rowsOf, List.take_length, List.length_cons, List.length_nil, Nat.zero_add, srow, irow, un_s, un_i, Zone.row, Zone_eta, un_Zone, Word.row, Word_eta, Own.row, Own_eta, Part.row, Part_eta, Seen.row, Seen_eta, Book.row, Book_eta, Sector.row, Sector_eta, HCraft.row, HCraft_eta, World.row, World_eta, PKind.row, PKind_eta, PPt.row, PPt_eta, Cell.row, Cell_eta, PBase.row, PBase_eta, Chg.row, Chg_eta, Fld.row, Fld_eta, Ent.row, Ent_eta, PBook.row, PBook_eta, un_Word, un_Own, un_Part, un_Seen, un_Book, un_Sector, un_HCraft, un_World, un_PKind, un_PPt, un_Cell, un_PBase, un_Chg, un_Fld, un_Ent, un_PBook, Nat.sub_zero, List.nil_append, Int.toNat_one, un_PKind, un_PPt, PBook.row, PBook_eta, Fld.row, Fld_eta, Ent.row, Ent_eta, un_Ent, un_Fld, Chg.row, Chg_eta, ghost, tkl, tk2, toChg']
  repeat' (first | with_reducible apply And.intro | with_reducible intro _)
  all_goals first
    | omega
    | exact hfa
    | exact hfb
    | exact ⟨hfa, hna⟩
    | exact ⟨hfb, hnb⟩
    | exact hfa.1.1 | exact hfa.1.2 | exact hfa.2.1 | exact hfa.2.2
    | exact hfb.1.1 | exact hfb.1.2 | exact hfb.2.1 | exact hfb.2.2
    | exact absurd hok.1 (by assumption)
    | exact absurd hok.2 (by assumption)
    | skip
  have hnw : newsOk a b := by first | assumption | exact ⟨by assumption, by assumption⟩
  have hE := newE_len (a := a) (es := b.es) fun e he => (hbv e he).1
  refine loop_st (fun i : Nat => [(5, .own 105 (newE a b.es i).length 0 (newE a b.es i).length), (23, .int .i64 i)]) (fun i => [(105, .arr 39 (newE a b.es i).length 4 ((newE a b.es i).map Chg.row))]) (fun i => i ≤ b.es.length) (fun i => b.es.length - i) 0 (by simp only [u_E0, u_E1, u_M0, u_M1, w_setE0, w_setE1, w_setM0, w_setM1, reduceIte, Nat.reduceEqDiff]; exact ⟨by repeat' (first | exact trivial | refine ⟨.inr rfl, ?_⟩), by repeat' (first | exact trivial | refine ⟨rfl, ?_⟩), by first | rfl | simp [closedB, refsIn, refsInL, refsInO, dom, refsInL_nr, *], by first | rfl | simp [keepB, dom]⟩) (Nat.zero_le _) ?_
  intro i hi NX hN
  have hEi := hE i hi
  have hb12 : b.es.length ≤ 12 := hnw.2.1.2
  have tkl : List.take (newE a b.es i).length ((newE a b.es i).map Chg.row) = (newE a b.es i).map Chg.row := List.take_of_length_le (by simp)
  by_cases hlt : i < b.es.length
  · have hfl := (hbv _ (getD_mem' hlt)).1
    have hEs : newE a b.es (i + 1) = newE a b.es i ++ newF a (b.es.getD i default) (b.es.getD i default).fs.length := rfl
    unfold lO_impl_PlanNews_1; simp (config := { maxSteps := 2000000 }) only [bitvec_to_nat, reduceIte, Nat.reduceEqDiff, Nat.reduceAdd, Nat.reduceLeDiff, reduceCtorEq, Nat.reduceBEq, Nat.reduceLT, Nat.reduceMod, List.forall_mem_cons, retG_ret, retQ_eq, retQ_eqN, retOk, keepB, re_tupl, orr_t, t_iBookOk, t_field, t_later, tk_map, dp_map, toNat_pred, appE, rowsOf, List.take_length, List.length_cons, List.length_nil, Nat.zero_add, srow, irow, un_s, un_i, Zone.row, Zone_eta, un_Zone, Word.row, Word_eta, Own.row, Own_eta, Part.row, Part_eta, Seen.row, Seen_eta, Book.row, Book_eta, Sector.row, Sector_eta, HCraft.row, HCraft_eta, World.row, World_eta, PKind.row, PKind_eta, PPt.row, PPt_eta, Cell.row, Cell_eta, PBase.row, PBase_eta, Chg.row, Chg_eta, Fld.row, Fld_eta, Ent.row, Ent_eta, PBook.row, PBook_eta, un_Word, un_Own, un_Part, un_Seen, un_Book, un_Sector, un_HCraft, un_World, un_PKind, un_PPt, un_Cell, un_PBase, un_Chg, un_Fld, un_Ent, un_PBook, Nat.sub_zero, List.nil_append, Int.toNat_one, un_PKind, un_PPt, PBook.row, PBook_eta, Fld.row, Fld_eta, Ent.row, Ent_eta, un_Ent, un_Fld, Chg.row, Chg_eta, ghost, tkl, tk2, toChg']
    repeat' (first | with_reducible apply And.intro | with_reducible intro _)
    all_goals first
      | omega
      | skip
    refine loop_st (fun k : Nat => [(5, .own 105 (newE a b.es i ++ newF a (b.es.getD i default) k).length 0 (newE a b.es i ++ newF a (b.es.getD i default) k).length), (30, .int .i64 k)]) (fun k => [(105, .arr 39 (newE a b.es i ++ newF a (b.es.getD i default) k).length 4 ((newE a b.es i ++ newF a (b.es.getD i default) k).map Chg.row))]) (fun k => k ≤ (b.es.getD i default).fs.length) (fun k => (b.es.getD i default).fs.length - k) 0 (by
      have e0 : newE a b.es i ++ newF a (b.es.getD i default) 0 = newE a b.es i := by simp [newF]
      simp only [e0]; simp only [u_E0, u_E1, u_M0, u_M1, w_setE0, w_setE1, w_setM0, w_setM1, reduceIte, Nat.reduceEqDiff]; exact ⟨by repeat' (first | exact trivial | refine ⟨.inr rfl, ?_⟩), by repeat' (first | exact trivial | refine ⟨rfl, ?_⟩), by first | rfl | simp [closedB, refsIn, refsInL, refsInO, dom, refsInL_nr, *], by first | rfl | simp [keepB, dom]⟩) (Nat.zero_le _) ?_
    intro k hk NX2 hN2
    have hFk := newF_len (a := a) (e := b.es.getD i default) k
    have hll : (newE a b.es i ++ newF a (b.es.getD i default) k).length = (newE a b.es i).length + (newF a (b.es.getD i default) k).length := List.length_append
    have tk2 : List.take (newE a b.es i ++ newF a (b.es.getD i default) k).length ((newE a b.es i ++ newF a (b.es.getD i default) k).map Chg.row) = (newE a b.es i ++ newF a (b.es.getD i default) k).map Chg.row := List.take_of_length_le (by simp)
    by_cases hlt2 : k < (b.es.getD i default).fs.length
    · have hY : isNew a (b.es.getD i default).nm ((b.es.getD i default).fs.getD k default) → newE a b.es i ++ newF a (b.es.getD i default) (k + 1) = (newE a b.es i ++ newF a (b.es.getD i default) k) ++ [toChg' (b.es.getD i default).nm ((b.es.getD i default).fs.getD k default)] := fun h => by
        rw [newF, if_pos h, List.append_assoc]
      have hN' : ¬ isNew a (b.es.getD i default).nm ((b.es.getD i default).fs.getD k default) → newE a b.es i ++ newF a (b.es.getD i default) (k + 1) = (newE a b.es i ++ newF a (b.es.getD i default) k) := fun h => by
        rw [newF, if_neg h]
      unfold lO_impl_PlanNews_0; simp (config := { maxSteps := 2000000 }) only [bitvec_to_nat, reduceIte, Nat.reduceEqDiff, Nat.reduceAdd, Nat.reduceLeDiff, reduceCtorEq, Nat.reduceBEq, Nat.reduceLT, Nat.reduceMod, List.forall_mem_cons, retG_ret, retQ_eq, retQ_eqN, retOk, keepB, re_tupl, orr_t, t_iBookOk, t_field, t_later, tk_map, dp_map, toNat_pred, appE, rowsOf, List.take_length, List.length_cons, List.length_nil, Nat.zero_add, srow, irow, un_s, un_i, Zone.row, Zone_eta, un_Zone, Word.row, Word_eta, Own.row, Own_eta, Part.row, Part_eta, Seen.row, Seen_eta, Book.row, Book_eta, Sector.row, Sector_eta, HCraft.row, HCraft_eta, World.row, World_eta, PKind.row, PKind_eta, PPt.row, PPt_eta, Cell.row, Cell_eta, PBase.row, PBase_eta, Chg.row, Chg_eta, Fld.row, Fld_eta, Ent.row, Ent_eta, PBook.row, PBook_eta, un_Word, un_Own, un_Part, un_Seen, un_Book, un_Sector, un_HCraft, un_World, un_PKind, un_PPt, un_Cell, un_PBase, un_Chg, un_Fld, un_Ent, un_PBook, Nat.sub_zero, List.nil_append, Int.toNat_one, un_PKind, un_PPt, PBook.row, PBook_eta, Fld.row, Fld_eta, Ent.row, Ent_eta, un_Ent, un_Fld, Chg.row, Chg_eta, ghost, tkl, tk2, toChg']
      repeat' (first | with_reducible apply And.intro | with_reducible intro _)
      all_goals first
        | omega
        | exact hfa
        | exact hfa.1.1 | exact hfa.1.2 | exact hfa.2.1 | exact hfa.2.2
        | (have hq := hY (by unfold isNew; first | assumption | grind)
           refine hN2 (k + 1) _ (by simp only [hq, toChg', Chg.row, List.length_append, List.length_cons, List.length_nil, Nat.zero_add, List.map_append (l₂ := [_]), List.map_cons, List.map_nil]; simp only [u_E0, u_E1, u_M0, u_M1, w_setE0, w_setE1, w_setM0, w_setM1, reduceIte, Nat.reduceEqDiff]; exact ⟨by repeat' (first | exact trivial | refine ⟨.inr rfl, ?_⟩), by repeat' (first | exact trivial | refine ⟨rfl, ?_⟩), by first | rfl | simp [closedB, refsIn, refsInL, refsInO, dom, refsInL_nr, *], by first | rfl | simp [keepB, dom]⟩) hlt2 (by omega))
        | (have hq := hN' (by unfold isNew; first | assumption | grind)
           refine hN2 (k + 1) _ (by simp only [hq]; simp only [u_E0, u_E1, u_M0, u_M1, w_setE0, w_setE1, w_setM0, w_setM1, reduceIte, Nat.reduceEqDiff]; exact ⟨by repeat' (first | exact trivial | refine ⟨.inr rfl, ?_⟩), by repeat' (first | exact trivial | refine ⟨rfl, ?_⟩), by first | rfl | simp [closedB, refsIn, refsInL, refsInO, dom, refsInL_nr, *], by first | rfl | simp [keepB, dom]⟩) hlt2 (by omega))
        | trace_state
    · have e : k = (b.es.getD i default).fs.length := by omega
      subst e
      unfold lO_impl_PlanNews_0; simp (config := { maxSteps := 2000000 }) only [bitvec_to_nat, reduceIte, Nat.reduceEqDiff, Nat.reduceAdd, Nat.reduceLeDiff, reduceCtorEq, Nat.reduceBEq, Nat.reduceLT, Nat.reduceMod, List.forall_mem_cons, retG_ret, retQ_eq, retQ_eqN, retOk, keepB, re_tupl, orr_t, t_iBookOk, t_field, t_later, tk_map, dp_map, toNat_pred, appE, rowsOf, List.take_length, List.length_cons, List.length_nil, Nat.zero_add, srow, irow, un_s, un_i, Zone.row, Zone_eta, un_Zone, Word.row, Word_eta, Own.row, Own_eta, Part.row, Part_eta, Seen.row, Seen_eta, Book.row, Book_eta, Sector.row, Sector_eta, HCraft.row, HCraft_eta, World.row, World_eta, PKind.row, PKind_eta, PPt.row, PPt_eta, Cell.row, Cell_eta, PBase.row, PBase_eta, Chg.row, Chg_eta, Fld.row, Fld_eta, Ent.row, Ent_eta, PBook.row, PBook_eta, un_Word, un_Own, un_Part, un_Seen, un_Book, un_Sector, un_HCraft, un_World, un_PKind, un_PPt, un_Cell, un_PBase, un_Chg, un_Fld, un_Ent, un_PBook, Nat.sub_zero, List.nil_append, Int.toNat_one, un_PKind, un_PPt, PBook.row, PBook_eta, Fld.row, Fld_eta, Ent.row, Ent_eta, un_Ent, un_Fld, Chg.row, Chg_eta, ghost, tkl, tk2, toChg']
      repeat' (first | with_reducible apply And.intro | with_reducible intro _)
      all_goals first
        | omega
        | (refine hN (i + 1) _ (by simp only [hEs]; simp only [u_E0, u_E1, u_M0, u_M1, w_setE0, w_setE1, w_setM0, w_setM1, reduceIte, Nat.reduceEqDiff]; exact ⟨by repeat' (first | exact trivial | refine ⟨.inr rfl, ?_⟩), by repeat' (first | exact trivial | refine ⟨rfl, ?_⟩), by first | rfl | simp [closedB, refsIn, refsInL, refsInO, dom, refsInL_nr, *], by first | rfl | simp [keepB, dom]⟩) hlt (by omega))
        | (exfalso; omega)
        | trace_state
  · have e : i = b.es.length := by omega
    subst e
    have hL : newsL a b = newE a b.es b.es.length := if_pos hnw
    unfold lO_impl_PlanNews_1; simp (config := { maxSteps := 2000000 }) only [bitvec_to_nat, reduceIte, Nat.reduceEqDiff, Nat.reduceAdd, Nat.reduceLeDiff, reduceCtorEq, Nat.reduceBEq, Nat.reduceLT, Nat.reduceMod, List.forall_mem_cons, retG_ret, retQ_eq, retQ_eqN, retOk, keepB, re_tupl, orr_t, t_iBookOk, t_field, t_later, tk_map, dp_map, toNat_pred, appE, rowsOf, List.take_length, List.length_cons, List.length_nil, Nat.zero_add, srow, irow, un_s, un_i, Zone.row, Zone_eta, un_Zone, Word.row, Word_eta, Own.row, Own_eta, Part.row, Part_eta, Seen.row, Seen_eta, Book.row, Book_eta, Sector.row, Sector_eta, HCraft.row, HCraft_eta, World.row, World_eta, PKind.row, PKind_eta, PPt.row, PPt_eta, Cell.row, Cell_eta, PBase.row, PBase_eta, Chg.row, Chg_eta, Fld.row, Fld_eta, Ent.row, Ent_eta, PBook.row, PBook_eta, un_Word, un_Own, un_Part, un_Seen, un_Book, un_Sector, un_HCraft, un_World, un_PKind, un_PPt, un_Cell, un_PBase, un_Chg, un_Fld, un_Ent, un_PBook, Nat.sub_zero, List.nil_append, Int.toNat_one, un_PKind, un_PPt, PBook.row, PBook_eta, Fld.row, Fld_eta, Ent.row, Ent_eta, un_Ent, un_Fld, Chg.row, Chg_eta, ghost, tkl, tk2, toChg']
    repeat' (first | with_reducible apply And.intro | with_reducible intro _)
    all_goals first
      | omega
      | (rw [hL]; done)
      | (simp [hL, refsIn, refsInL, dom]; done)
      | (exfalso; omega)
      | trace_state
set_option maxHeartbeats 2000000 in
theorem c_iNewsN (a b : PBook) (hfa : a.fine) (hfb : b.fine) (hna : a.names) (hnb : b.names) (hok : ¬ newsOk a b) : Contract P 24 [.agg (a.row 0), .agg (b.row 0)] [] (.sl 98 4 []) [] := by
  have tkl : True := trivial
  have tk2 : True := trivial
  have hb1 := hfb
  obtain ⟨_, hbl, hbv⟩ := hb1
  have no : ¬ newsOk a b → newsL a b = [] := fun h => if_neg h
  simp only [PBook.row]
  refine fn_sound ((((Env.nil P).add 21 t_iBookOk h_iBookOk).add 61 t_field h_field).add 62 t_later h_later) hm kO_impl_PlanNews (Nat.le_of_ble_eq_true rfl) rfl ?_; unfold sO_impl_PlanNews; simp (config := { maxSteps := 2000000 }) only [bitvec_to_nat, reduceIte, Nat.reduceEqDiff, Nat.reduceAdd, Nat.reduceLeDiff, reduceCtorEq, Nat.reduceBEq, Nat.reduceLT, Nat.reduceMod, List.forall_mem_cons, retG_ret, retQ_eq, retQ_eqN, retOk, keepB, re_tupl, orr_t, t_iBookOk, t_field, t_later, tk_map, dp_map, toNat_pred, appE, rowsOf, List.take_length, List.length_cons, List.length_nil, Nat.zero_add, srow, irow, un_s, un_i, Zone.row, Zone_eta, un_Zone, Word.row, Word_eta, Own.row, Own_eta, Part.row, Part_eta, Seen.row, Seen_eta, Book.row, Book_eta, Sector.row, Sector_eta, HCraft.row, HCraft_eta, World.row, World_eta, PKind.row, PKind_eta, PPt.row, PPt_eta, Cell.row, Cell_eta, PBase.row, PBase_eta, Chg.row, Chg_eta, Fld.row, Fld_eta, Ent.row, Ent_eta, PBook.row, PBook_eta, un_Word, un_Own, un_Part, un_Seen, un_Book, un_Sector, un_HCraft, un_World, un_PKind, un_PPt, un_Cell, un_PBase, un_Chg, un_Fld, un_Ent, un_PBook, Nat.sub_zero, List.nil_append, Int.toNat_one, un_PKind, un_PPt, PBook.row, PBook_eta, Fld.row, Fld_eta, Ent.row, Ent_eta, un_Ent, un_Fld, Chg.row, Chg_eta, ghost, tkl, tk2, toChg']
  repeat' (first | with_reducible apply And.intro | with_reducible intro _)
  all_goals first
    | omega
    | exact hfa
    | exact hfb
    | exact ⟨hfa, hna⟩
    | exact ⟨hfb, hnb⟩
    | exact hfa.1.1 | exact hfa.1.2 | exact hfa.2.1 | exact hfa.2.2
    | exact hfb.1.1 | exact hfb.1.2 | exact hfb.2.1 | exact hfb.2.2
    | rfl
    | skip
  have hnw : newsOk a b := by first | assumption | exact ⟨by assumption, by assumption⟩
  have hE := newE_len (a := a) (es := b.es) fun e he => (hbv e he).1
  exact absurd hnw hok
def t_sNews : List AV → Option (Prop × AV)
  | [.agg [.sl 0 3 a_ks, .sl 0 3 a_ps, .sl 0 2 a_es], .agg [.sl 0 3 b_ks, .sl 0 3 b_ps, .sl 0 2 b_es]] => some ((((a_ks.map unPKind).map PKind.row = a_ks) ∧ ((a_ps.map unPPt).map PPt.row = a_ps) ∧ ((a_es.map unEnt).map (Ent.row 0) = a_es) ∧ ((b_ks.map unPKind).map PKind.row = b_ks) ∧ ((b_ps.map unPPt).map PPt.row = b_ps) ∧ ((b_es.map unEnt).map (Ent.row 0) = b_es)) ∧ (PBook.fine (PBook.mk (a_ks.map unPKind) (a_ps.map unPPt) (a_es.map unEnt)) ∧ PBook.fine (PBook.mk (b_ks.map unPKind) (b_ps.map unPPt) (b_es.map unEnt))), .sl 0 4 ((newsL (PBook.mk (a_ks.map unPKind) (a_ps.map unPPt) (a_es.map unEnt)) (PBook.mk (b_ks.map unPKind) (b_ps.map unPPt) (b_es.map unEnt))).map Chg.row))
  | _ => none
theorem h_sNews : ∀ args p v, t_sNews args = some (p, v) → p → Contract P 23 args [] v [] ∧ noref v = true ∧ No99 v := by
  intro args p v h1 h2
  unfold t_sNews at h1
  split at h1
  · rename_i a_ks a_ps a_es b_ks b_ps b_es
    cases h1
    obtain ⟨⟨e0, e1, e2, e3, e4, e5⟩, HP⟩ := h2
    have := c_sNews (PBook.mk (a_ks.map unPKind) (a_ps.map unPPt) (a_es.map unEnt)) (PBook.mk (b_ks.map unPKind) (b_ps.map unPPt) (b_es.map unEnt)) HP.1 HP.2
    exact ⟨by simpa only [e0, e1, e2, e3, e4, e5, PBook.row, PBook.row] using this, rfl, by simp only [No99]; exact ⟨by omega, no99_Chg _⟩⟩
  · cases h1
end
end Go.Ve

namespace Go.Ve
noncomputable section
open Go.Proofs
set_option linter.unusedSimpArgs false
set_option linter.unusedVariables false
set_option maxRecDepth 100000
open Go.ChangeShapes Go.WideShapes
theorem c_eqChg (c d : Chg)  : Contract P 63 [.agg (c.row), .agg (d.row)] [] (.bool (decide (c = d))) [] := by
  obtain ⟨c_fl, c_w, c_nr, c_v⟩ := c
  obtain ⟨d_fl, d_w, d_nr, d_v⟩ := d
  simp only [Chg.row]
  refine fn_sound (Env.nil P) hm k_laws_eqPlanChange (Nat.le_of_ble_eq_true rfl) rfl ?_; unfold s_laws_eqPlanChange; simp (config := { maxSteps := 2000000, maxDischargeDepth := 8 }) only [bitvec_to_nat, reduceIte, Nat.reduceEqDiff, Nat.reduceAdd, Nat.reduceLeDiff, reduceCtorEq, Nat.reduceBEq, Nat.reduceLT, Nat.reduceMod, List.forall_mem_cons, tk_map, dp_map, toNat_pred, appE, rowsOf, List.take_length, List.length_cons, List.length_nil, Nat.zero_add, srow, irow, un_s, un_i, Zone.row, Zone_eta, un_Zone, Word.row, Word_eta, Own.row, Own_eta, Part.row, Part_eta, Seen.row, Seen_eta, Book.row, Book_eta, Sector.row, Sector_eta, HCraft.row, HCraft_eta, World.row, World_eta, PKind.row, PKind_eta, PPt.row, PPt_eta, Cell.row, Cell_eta, PBase.row, PBase_eta, Chg.row, Chg_eta, Fld.row, Fld_eta, Ent.row, Ent_eta, PBook.row, PBook_eta, un_Word, un_Own, un_Part, un_Seen, un_Book, un_Sector, un_HCraft, un_World, un_PKind, un_PPt, un_Cell, un_PBase, un_Chg, un_Fld, un_Ent, un_PBook]
  simp only [Chg.mk.injEq]
  repeat' (first | with_reducible apply And.intro | with_reducible intro _)
  all_goals first | omega | (simp_all; done) | grind
def t_eqChg : List AV → Option (Prop × AV)
  | [.agg [.str c_fl, .int .i64 c_w, .int .i64 c_nr, .str c_v], .agg [.str d_fl, .int .i64 d_w, .int .i64 d_nr, .str d_v]] => some ((True) ∧ (True), .bool (decide ((Chg.mk c_fl c_w c_nr c_v) = (Chg.mk d_fl d_w d_nr d_v))))
  | _ => none
theorem h_eqChg : ∀ args p v, t_eqChg args = some (p, v) → p → Contract P 63 args [] v [] ∧ noref v = true ∧ No99 v := by
  intro args p v h1 h2
  unfold t_eqChg at h1
  split at h1
  · rename_i c_fl c_w c_nr c_v d_fl d_w d_nr d_v
    cases h1
    obtain ⟨_, HP⟩ := h2
    have := c_eqChg (Chg.mk c_fl c_w c_nr c_v) (Chg.mk d_fl d_w d_nr d_v)
    exact ⟨by simpa only [Chg.row, Chg.row] using this, rfl, trivial⟩
  · cases h1
theorem c_eqChgS (t t' : Nat) (p q : List Chg) (hp : p.length ≤ 4611686018427387904) : Contract P 25 [.sl t 4 (p.map Chg.row), .sl t' 4 (q.map Chg.row)] [] (.bool (decide (p = q))) [] := by
  refine fn_sound ((Env.nil P).add 63 t_eqChg h_eqChg) hm k_laws_eqPlanChangeS (Nat.le_of_ble_eq_true rfl) rfl ?_; unfold s_laws_eqPlanChangeS; simp (config := { maxSteps := 2000000, maxDischargeDepth := 8 }) only [bitvec_to_nat, reduceIte, Nat.reduceEqDiff, Nat.reduceAdd, Nat.reduceLeDiff, reduceCtorEq, Nat.reduceBEq, Nat.reduceLT, Nat.reduceMod, List.forall_mem_cons, t_eqChg, tk_map, dp_map, toNat_pred, appE, rowsOf, List.take_length, List.length_cons, List.length_nil, Nat.zero_add, srow, irow, un_s, un_i, Zone.row, Zone_eta, un_Zone, Word.row, Word_eta, Own.row, Own_eta, Part.row, Part_eta, Seen.row, Seen_eta, Book.row, Book_eta, Sector.row, Sector_eta, HCraft.row, HCraft_eta, World.row, World_eta, PKind.row, PKind_eta, PPt.row, PPt_eta, Cell.row, Cell_eta, PBase.row, PBase_eta, Chg.row, Chg_eta, Fld.row, Fld_eta, Ent.row, Ent_eta, PBook.row, PBook_eta, un_Word, un_Own, un_Part, un_Seen, un_Book, un_Sector, un_HCraft, un_World, un_PKind, un_PPt, un_Cell, un_PBase, un_Chg, un_Fld, un_Ent, un_PBook]
  refine ⟨fun h1 h => h1 (by rw [h]), fun h1 => ?_⟩
  refine loop_st (fun i : Nat => [(5, .int .i64 i)]) (fun _ => []) (fun i => i ≤ p.length ∧ ∀ j, j < i → p.getD j default = q.getD j default) (fun i => p.length - i) (0) (by simp only [u_E0, u_E1, u_M0, u_M1, w_setE0, w_setE1, w_setM0, w_setM1, reduceIte, Nat.reduceEqDiff]; exact ⟨by repeat' (first | exact trivial | refine ⟨.inr rfl, ?_⟩), by repeat' (first | exact trivial | refine ⟨rfl, ?_⟩), by first | rfl | simp [closedB, refsIn, refsInL, refsInO, dom, refsInL_nr, *], by first | rfl | simp [keepB, dom]⟩) ?_ ?_
  · exact ⟨Nat.zero_le _, by intro j hj; omega⟩
  intro i hi NX hN
  unfold l_laws_eqPlanChangeS_0; simp (config := { maxSteps := 2000000, maxDischargeDepth := 8 }) only [bitvec_to_nat, reduceIte, Nat.reduceEqDiff, Nat.reduceAdd, Nat.reduceLeDiff, reduceCtorEq, Nat.reduceBEq, Nat.reduceLT, Nat.reduceMod, List.forall_mem_cons, t_eqChg, tk_map, dp_map, toNat_pred, appE, rowsOf, List.take_length, List.length_cons, List.length_nil, Nat.zero_add, srow, irow, un_s, un_i, Zone.row, Zone_eta, un_Zone, Word.row, Word_eta, Own.row, Own_eta, Part.row, Part_eta, Seen.row, Seen_eta, Book.row, Book_eta, Sector.row, Sector_eta, HCraft.row, HCraft_eta, World.row, World_eta, PKind.row, PKind_eta, PPt.row, PPt_eta, Cell.row, Cell_eta, PBase.row, PBase_eta, Chg.row, Chg_eta, Fld.row, Fld_eta, Ent.row, Ent_eta, PBook.row, PBook_eta, un_Word, un_Own, un_Part, un_Seen, un_Book, un_Sector, un_HCraft, un_World, un_PKind, un_PPt, un_Cell, un_PBase, un_Chg, un_Fld, un_Ent, un_PBook]
  skip
  repeat' (first | with_reducible apply And.intro | with_reducible intro _)
  all_goals first
    | omega
    | (refine hN (i + 1) _ (by simp only [u_E0, u_E1, u_M0, u_M1, w_setE0, w_setE1, w_setM0, w_setM1, reduceIte, Nat.reduceEqDiff]; exact ⟨by repeat' (first | exact trivial | refine ⟨.inr rfl, ?_⟩), by repeat' (first | exact trivial | refine ⟨rfl, ?_⟩), by first | rfl | simp [closedB, refsIn, refsInL, refsInO, dom, refsInL_nr, *], by first | rfl | simp [keepB, dom]⟩) ?_ ?_
       · exact ⟨by omega, all_snoc hi.2 (by with_reducible assumption)⟩
       · omega)
    | (intro h; subst h; exact absurd rfl (by with_reducible assumption))
    | (exact ext_of (by omega) fun j hj => hi.2 j (by omega))
    | grind
def t_eqChgS : List AV → Option (Prop × AV)
  | [.sl ct 4 cx, .sl dt 4 dx] => some ((((cx.map unChg).map Chg.row = cx) ∧ ((dx.map unChg).map Chg.row = dx)) ∧ ((cx.map unChg).length ≤ 4611686018427387904), .bool (decide ((cx.map unChg) = (dx.map unChg))))
  | _ => none
theorem h_eqChgS : ∀ args p v, t_eqChgS args = some (p, v) → p → Contract P 25 args [] v [] ∧ noref v = true ∧ No99 v := by
  intro args p v h1 h2
  unfold t_eqChgS at h1
  split at h1
  · rename_i ct cx dt dx
    cases h1
    obtain ⟨⟨e0, e1⟩, HP⟩ := h2
    have := c_eqChgS ct dt (cx.map unChg) (dx.map unChg) HP
    exact ⟨by simpa only [e0, e1] using this, rfl, trivial⟩
  · cases h1
def mk_Chg (k : Int) : Chg := ⟨mtx (k), k + 1, k + 1 + 1, mtx (k + 1 + 1 + 1)⟩
def ms_Chg (k : Int) (n : Nat) : List Chg := (List.range n).map fun j : Nat => mk_Chg (k + 4 * (j : Int))
theorem ms_Chg_len {k : Int} {n : Nat} : (ms_Chg k n).length = n := by simp [ms_Chg]
theorem ms_Chg_get {k : Int} {n j : Nat} (h : j < n) : (ms_Chg k n).getD j default = mk_Chg (k + 4 * (j : Int)) := by simp [ms_Chg, h]
theorem setm_Chg0 {l : List Chg} {i : Nat} {v : ByteArray} : (l.map Chg.row).set i (setSeg ((l.map Chg.row).getD i []) 0 [.str v]) = (l.set i { l.getD i default with fl := v }).map Chg.row :=
  set_rows (α := Chg) (f := Chg.row) (fun s => { s with fl := v }) fun x => by simp [Chg.row, setSeg]
theorem setm_Chg1 {l : List Chg} {i : Nat} {v : Int} : (l.map Chg.row).set i (setSeg ((l.map Chg.row).getD i []) 1 [.int .i64 v]) = (l.set i { l.getD i default with w := v }).map Chg.row :=
  set_rows (α := Chg) (f := Chg.row) (fun s => { s with w := v }) fun x => by simp [Chg.row, setSeg]
theorem setm_Chg2 {l : List Chg} {i : Nat} {v : Int} : (l.map Chg.row).set i (setSeg ((l.map Chg.row).getD i []) 2 [.int .i64 v]) = (l.set i { l.getD i default with nr := v }).map Chg.row :=
  set_rows (α := Chg) (f := Chg.row) (fun s => { s with nr := v }) fun x => by simp [Chg.row, setSeg]
theorem setm_Chg3 {l : List Chg} {i : Nat} {v : ByteArray} : (l.map Chg.row).set i (setSeg ((l.map Chg.row).getD i []) 3 [.str v]) = (l.set i { l.getD i default with v := v }).map Chg.row :=
  set_rows (α := Chg) (f := Chg.row) (fun s => { s with v := v }) fun x => by simp [Chg.row, setSeg]
set_option maxHeartbeats 1000000 in
theorem c_markChgS (v : Nat) (k : Int) (a : List Chg) (ha : a.length ≤ 16777217) (hk : 0 ≤ k ∧ k ≤ 1125899906842624) : Contract P 27 [.own 3 v 0 a.length, .int .i64 k] [(3, .arr 39 v 4 (a.map Chg.row))] (.int .i64 (k + 4 * a.length)) [(3, .arr 39 v 4 ((ms_Chg k a.length).map Chg.row))] := by
  have hz : ((0 : Nat) : Int) = 0 := rfl
  have gs : True := trivial
  refine fn_sound ((Env.nil P).add 66 t_markText h_markText) hm k_laws_markPlanChangeS (Nat.le_of_ble_eq_true rfl) rfl ?_; unfold s_laws_markPlanChangeS; simp (config := { maxSteps := 2000000, maxDischargeDepth := 8 }) only [bitvec_to_nat, reduceIte, Nat.reduceEqDiff, Nat.reduceAdd, Nat.reduceLeDiff, reduceCtorEq, Nat.reduceBEq, Nat.reduceLT, Nat.reduceMod, List.forall_mem_cons, retG_ret, retQ_eq, retQ_eqN, retOk, keepB, re_tupl, orr_t, t_markText, setm_Chg0, setm_Chg1, setm_Chg2, setm_Chg3, List.set_set, gs, Chg.row, irow, srow, Int.toNat_natCast, List.length_map, List.length_set, Nat.sub_zero, Nat.zero_add, hz]
  refine loop_st (fun b : Nat × List Chg => [(1, .int .i64 (k + 4 * b.1)), (5, .int .i64 b.1)]) (fun b => [(3, .arr 39 v 4 (b.2.map Chg.row))]) (fun b => b.2.length = a.length ∧ b.1 ≤ a.length ∧ ∀ j, j < b.1 → b.2.getD j default = mk_Chg (k + 4 * (j : Int))) (fun b => a.length - b.1) (0, a) ?_ ⟨rfl, Nat.zero_le _, fun j hj => absurd hj (Nat.not_lt_zero _)⟩ ?_
  · have e0 : k + 4 * ((0 : Nat) : Int) = k := by omega
    simp only [e0]
    simp only [u_E0, u_E1, u_M0, u_M1, w_setE0, w_setE1, w_setM0, w_setM1, reduceIte, Nat.reduceEqDiff]; exact ⟨by repeat' (first | exact trivial | refine ⟨.inr rfl, ?_⟩), by repeat' (first | exact trivial | refine ⟨rfl, ?_⟩), by first | rfl | simp [closedB, refsIn, refsInL, refsInO, dom, refsInL_nr, *], by first | rfl | simp [keepB, dom]⟩
  rintro ⟨i, l⟩ ⟨h1, h2, h3⟩ NX hN
  simp only at h1 h2 h3
  have gs : i < a.length → ∀ x : Chg, (l.set i x).getD i default = x := fun h x => getD_seti' (by omega)
  by_cases hi : i < a.length
  · have gs := gs hi
    have e5 : k + 4 * ((i + 1 : Nat) : Int) = k + 4 * (i : Int) + 1 + 1 + 1 + 1 := by omega
    unfold l_laws_markPlanChangeS_0; simp (config := { maxSteps := 2000000, maxDischargeDepth := 8 }) only [bitvec_to_nat, reduceIte, Nat.reduceEqDiff, Nat.reduceAdd, Nat.reduceLeDiff, reduceCtorEq, Nat.reduceBEq, Nat.reduceLT, Nat.reduceMod, List.forall_mem_cons, retG_ret, retQ_eq, retQ_eqN, retOk, keepB, re_tupl, orr_t, t_markText, setm_Chg0, setm_Chg1, setm_Chg2, setm_Chg3, List.set_set, gs, Chg.row, irow, srow, Int.toNat_natCast, List.length_map, List.length_set, Nat.sub_zero, Nat.zero_add, hz]
    repeat' (first | with_reducible apply And.intro | with_reducible intro _)
    all_goals first
      | omega
      | (refine hN (i + 1, l.set i (mk_Chg (k + 4 * (i : Int)))) _ (by simp only [e5]; simp only [u_E0, u_E1, u_M0, u_M1, w_setE0, w_setE1, w_setM0, w_setM1, reduceIte, Nat.reduceEqDiff]; exact ⟨by repeat' (first | exact trivial | refine ⟨.inr rfl, ?_⟩), by repeat' (first | exact trivial | refine ⟨rfl, ?_⟩), by first | rfl | simp [closedB, refsIn, refsInL, refsInO, dom, refsInL_nr, *], by first | rfl | simp [keepB, dom]⟩) ⟨by simp only [List.length_set]; exact h1, hi, fun j hj => ?_⟩ (by simp only; omega)
         simp only at hj ⊢
         by_cases e : j = i
         · subst e; exact getD_seti' (by omega)
         · rw [getD_setn' (Ne.symm e)]; exact h3 j (by omega))
      | (exfalso; omega)
  · have hl : l = ms_Chg k a.length := ext_of (by rw [ms_Chg_len]; exact h1) fun j hj => by rw [ms_Chg_get (by omega)]; exact h3 j (by omega)
    have hi' : ¬ (i : Int) < a.length := by omega
    unfold l_laws_markPlanChangeS_0; simp (config := { maxSteps := 2000000, maxDischargeDepth := 8 }) only [bitvec_to_nat, reduceIte, Nat.reduceEqDiff, Nat.reduceAdd, Nat.reduceLeDiff, reduceCtorEq, Nat.reduceBEq, Nat.reduceLT, Nat.reduceMod, List.forall_mem_cons, retG_ret, retQ_eq, retQ_eqN, retOk, keepB, re_tupl, orr_t, t_markText, setm_Chg0, setm_Chg1, setm_Chg2, setm_Chg3, List.set_set, gs, Chg.row, irow, srow, Int.toNat_natCast, List.length_map, List.length_set, Nat.sub_zero, Nat.zero_add, hz, hi']
    refine ⟨by omega, ?_⟩
    rw [hl]
set_option maxHeartbeats 1000000 in
theorem c_heldChgS (t : Nat) (k : Int) (n : Nat) (ha : n ≤ 16777217) (hk : 0 ≤ k ∧ k ≤ 1125899906842624) : Contract P 28 [.sl t 4 ((ms_Chg k n).map Chg.row), .int .i64 k] [] (.int .i64 (k + 4 * n)) [] := by
  have hz : ((0 : Nat) : Int) = 0 := rfl
  refine fn_sound ((Env.nil P).add 66 t_markText h_markText) hm k_laws_heldPlanChangeS (Nat.le_of_ble_eq_true rfl) rfl ?_; unfold s_laws_heldPlanChangeS; simp (config := { maxSteps := 2000000, maxDischargeDepth := 8 }) only [bitvec_to_nat, reduceIte, Nat.reduceEqDiff, Nat.reduceAdd, Nat.reduceLeDiff, reduceCtorEq, Nat.reduceBEq, Nat.reduceLT, Nat.reduceMod, List.forall_mem_cons, t_markText, Chg.row, Chg_eta, irow, srow, Int.toNat_natCast, List.length_map, Nat.sub_zero, Nat.zero_add, hz, eq_self, ms_Chg_len]
  refine loop_st (fun i : Nat => [(1, .int .i64 (k + 4 * i)), (5, .int .i64 i)]) (fun _ => []) (fun i => i ≤ n) (fun i => n - i) 0 ?_ (Nat.zero_le _) ?_
  · have e0 : k + 4 * ((0 : Nat) : Int) = k := by omega
    simp only [e0]
    simp only [u_E0, u_E1, u_M0, u_M1, w_setE0, w_setE1, w_setM0, w_setM1, reduceIte, Nat.reduceEqDiff]; exact ⟨by repeat' (first | exact trivial | refine ⟨.inr rfl, ?_⟩), by repeat' (first | exact trivial | refine ⟨rfl, ?_⟩), by first | rfl | simp [closedB, refsIn, refsInL, refsInO, dom, refsInL_nr, *], by first | rfl | simp [keepB, dom]⟩
  intro i hi NX hN
  have e5 : k + 4 * ((i + 1 : Nat) : Int) = k + 4 * (i : Int) + 1 + 1 + 1 + 1 := by omega
  by_cases h : i < n
  · have hg := ms_Chg_get (k := k) h
    have h' : (i : Int) < n := by omega
    unfold l_laws_heldPlanChangeS_0; simp (config := { maxSteps := 2000000, maxDischargeDepth := 8 }) only [bitvec_to_nat, reduceIte, Nat.reduceEqDiff, Nat.reduceAdd, Nat.reduceLeDiff, reduceCtorEq, Nat.reduceBEq, Nat.reduceLT, Nat.reduceMod, List.forall_mem_cons, t_markText, Chg.row, Chg_eta, irow, srow, Int.toNat_natCast, List.length_map, Nat.sub_zero, Nat.zero_add, hz, eq_self, ms_Chg_len, h', hg, mk_Chg, not_true_eq_false, ne_eq, bne_self_eq_false]
    repeat' (first | with_reducible apply And.intro | with_reducible intro _)
    all_goals first
      | omega
      | rfl
      | (rename_i h; exact absurd rfl h)
      | (refine hN (i + 1) _ (by simp only [e5]; simp only [u_E0, u_E1, u_M0, u_M1, w_setE0, w_setE1, w_setM0, w_setM1, reduceIte, Nat.reduceEqDiff]; exact ⟨by repeat' (first | exact trivial | refine ⟨.inr rfl, ?_⟩), by repeat' (first | exact trivial | refine ⟨rfl, ?_⟩), by first | rfl | simp [closedB, refsIn, refsInL, refsInO, dom, refsInL_nr, *], by first | rfl | simp [keepB, dom]⟩) ?_ ?_ <;> omega)
  · have h' : ¬ (i : Int) < n := by omega
    unfold l_laws_heldPlanChangeS_0; simp (config := { maxSteps := 2000000, maxDischargeDepth := 8 }) only [bitvec_to_nat, reduceIte, Nat.reduceEqDiff, Nat.reduceAdd, Nat.reduceLeDiff, reduceCtorEq, Nat.reduceBEq, Nat.reduceLT, Nat.reduceMod, List.forall_mem_cons, t_markText, Chg.row, Chg_eta, irow, srow, Int.toNat_natCast, List.length_map, Nat.sub_zero, Nat.zero_add, hz, eq_self, ms_Chg_len, h']
    omega
theorem c_markNChgS (t : Nat) (k : Int) : Contract P 27 [.sl t 4 [], .int .i64 k] [] (.int .i64 k) [] := by
  refine fn_sound ((Env.nil P).add 66 t_markText h_markText) hm k_laws_markPlanChangeS (Nat.le_of_ble_eq_true rfl) rfl ?_; unfold s_laws_markPlanChangeS; simp (config := { maxSteps := 2000000, maxDischargeDepth := 8 }) only [bitvec_to_nat, reduceIte, Nat.reduceEqDiff, Nat.reduceAdd, Nat.reduceLeDiff, reduceCtorEq, Nat.reduceBEq, Nat.reduceLT, Nat.reduceMod, List.forall_mem_cons, t_markText, List.map_nil, List.length_nil]
  refine loop_st (fun _ : Nat => [(5, .int .i64 0)]) (fun _ => []) (fun _ => True) (fun i => i) 0 (by simp only [u_E0, u_E1, u_M0, u_M1, w_setE0, w_setE1, w_setM0, w_setM1, reduceIte, Nat.reduceEqDiff]; exact ⟨by repeat' (first | exact trivial | refine ⟨.inr rfl, ?_⟩), by repeat' (first | exact trivial | refine ⟨rfl, ?_⟩), by first | rfl | simp [closedB, refsIn, refsInL, refsInO, dom, refsInL_nr, *], by first | rfl | simp [keepB, dom]⟩) trivial ?_
  intro i _ NX hN
  unfold l_laws_markPlanChangeS_0; simp (config := { maxSteps := 2000000, maxDischargeDepth := 8 }) only [bitvec_to_nat, reduceIte, Nat.reduceEqDiff, Nat.reduceAdd, Nat.reduceLeDiff, reduceCtorEq, Nat.reduceBEq, Nat.reduceLT, Nat.reduceMod, List.forall_mem_cons, t_markText, List.map_nil, List.length_nil]
  first
    | exact fun h => absurd h (by omega)
    | exact ⟨fun h => absurd h (by omega), fun _ => by first | trivial | rfl⟩
def t_heldChgS : List AV → Option (Prop × AV)
  | [.sl _ 4 zx, .int .i64 k] => some (zx = (ms_Chg k zx.length).map Chg.row ∧ zx.length ≤ 16777217 ∧ (0 ≤ k ∧ k ≤ 1125899906842624), .int .i64 (k + 4 * (zx.length : Nat)))
  | _ => none
theorem h_heldChgS : ∀ args p v, t_heldChgS args = some (p, v) → p → Contract P 28 args [] v [] ∧ noref v = true ∧ No99 v := by
  intro args p v h1 h2
  unfold t_heldChgS at h1
  split at h1
  · rename_i t zx k
    cases h1
    obtain ⟨e1, h3, h4⟩ := h2
    have := c_heldChgS t k zx.length h3 h4
    rw [← e1] at this
    exact ⟨this, rfl, trivial⟩
  · cases h1
theorem cntB_le {b : PBook} (hs : b.small) : cntB b ≤ 20000000000000 := by
  unfold PBook.small at hs
  have hct := ct_Ent_le hs.2.2.2 (Nat.le_refl _)
  unfold cntB
  omega
theorem eqBookC (s : PBook) (hs : s.small) : Contract P 22 [.agg (s.row 0), .agg (s.row 0)] [] (.bool true) [] := by
  have h := c_eqPBook s s (by have := hs; unfold PBook.small at this; exact ⟨by omega, by omega, by omega, fun x hx => by have := this.2.2.2 x hx; unfold Ent.small at this; omega⟩)
  simpa using h
set_option maxHeartbeats 8000000 in
theorem c_lawNY (a b : PBook) (hfa : a.fitp) (hfb : b.fitp) (hv : newsOk a b) : Contract P 6 [.agg (a.row 1), .agg (b.row 1)] [] (.bool true) [] := by
  have hlz : True := trivial
  have tkZ : List.take (newsL a b).length ((newsL a b).map Chg.row) = (newsL a b).map Chg.row := List.take_of_length_le (by simp)
  have tkM : ∀ k : Int, List.take (newsL a b).length ((ms_Chg k (newsL a b).length).map Chg.row) = (ms_Chg k (newsL a b).length).map Chg.row := fun k => List.take_of_length_le (by rw [List.length_map, ms_Chg_len]; omega)
  have z2 : PBook.sz a 1048576 ≤ 1048576 := by have := (meas_PBook a 1048576 (by omega)).2.2; omega
  generalize hn1 : PBook.sz a 1048576 = n1 at *
  have hn2 : True := trivial
  simp only [PBook.row]
  refine fn_sound (((((Env.nil P).add 18 t_szPBook h_szPBook).add 23 t_sNews h_sNews).add 25 t_eqChgS h_eqChgS).add 28 t_heldChgS h_heldChgS) hm k_laws_FnExactPlanNews (Nat.le_of_ble_eq_true rfl) rfl ?_; unfold s_laws_FnExactPlanNews; simp (config := { maxSteps := 2000000, maxDischargeDepth := 8 }) only [bitvec_to_nat, reduceIte, Nat.reduceEqDiff, Nat.reduceAdd, Nat.reduceLeDiff, reduceCtorEq, Nat.reduceBEq, Nat.reduceLT, Nat.reduceMod, List.forall_mem_cons, t_szPBook, t_sNews, t_eqChgS, t_heldChgS, tk_map, dp_map, toNat_pred, appE, rowsOf, List.take_length, List.length_cons, List.length_nil, Nat.zero_add, srow, irow, un_s, un_i, Zone.row, Zone_eta, un_Zone, Word.row, Word_eta, Own.row, Own_eta, Part.row, Part_eta, Seen.row, Seen_eta, Book.row, Book_eta, Sector.row, Sector_eta, HCraft.row, HCraft_eta, World.row, World_eta, PKind.row, PKind_eta, PPt.row, PPt_eta, Cell.row, Cell_eta, PBase.row, PBase_eta, Chg.row, Chg_eta, Fld.row, Fld_eta, Ent.row, Ent_eta, PBook.row, PBook_eta, un_Word, un_Own, un_Part, un_Seen, un_Book, un_Sector, un_HCraft, un_World, un_PKind, un_PPt, un_Cell, un_PBase, un_Chg, un_Fld, un_Ent, un_PBook, Chg.row, Chg_eta, PBook.row, PBook_eta, bkV, List.length_map, Int.toNat_natCast, Nat.sub_zero, and_self, eq_self, not_true_eq_false, ne_eq, bne_self_eq_false, ms_Chg_len, tkZ, tkM, hlz, hn1, hn2, List.nil_append, offs_getA, offs_get, offs_setA, offs_set, ap_cons, ap_skip, ap_skip0, ap_over, ap_over0, ap_self, ap_self0, ap_new, ap_appU, KA_lo, KA_hi, KB_lo, KB_hi, KAB, KBA, offs_gone, offs_rev, dis_goneL, dis_goneR, dis_revR, KA_uniq, KB_uniq, KA_k, KA_k0, KB_k, KB_k0, KA_k', KA_k0', KB_k', KB_k0', List.cons_append, List.nil_append, List.append_assoc]
  refine ⟨⟨by omega, hfa⟩, fun g1 => ⟨⟨by omega, hfb⟩, fun g2 => ?_⟩⟩
  have hsA : a.small := PBook.sz_ok (a := 1048576) (by omega) (by omega)
  have hsB : b.small := PBook.sz_ok (a := n1) (by omega) (by omega)
  have fiA : a.fine := PBook.sz_fine (a := 1048576) (by omega) (by omega)
  have fiB : b.fine := PBook.sz_fine (a := n1) (by omega) (by omega)
  have nmA : a.names := ⟨hfa.1.2, hfa.2.1.2⟩
  have nmB : b.names := ⟨hfb.1.2, hfb.2.1.2⟩
  have hTA := c_toPBook a hsA
  have n9A : No99 (.agg (a.row 0)) := by simp [PBook.row, No99, No99L, no99_PKind, no99_PPt, no99_Ent]
  have hTB := c_toPBook b hsB
  have n9B : No99 (.agg (b.row 0)) := by simp [PBook.row, No99, No99L, no99_PKind, no99_PPt, no99_Ent]
  have hcA : cntB a ≤ 20000000000000 := cntB_le hsA
  have hcB : cntB b ≤ 20000000000000 := cntB_le hsB
  have eqA := eqBookC a hsA
  have eqB := eqBookC b hsB
  have mkA := markBookA 1 a hsA (by omega)
  have mkB := markBookB (1 + cntB a) b hsB (by omega)
  have hlen : (newsL a b).length ≤ 16777216 := by
    rw [show newsL a b = newE a b.es b.es.length from if_pos hv]
    have := newE_len (a := a) (es := b.es) (fun e he => (fiB.2.2 e he).1) b.es.length (Nat.le_refl _)
    have := hv.2.1.2
    omega
  have hI1 := (c_iNewsY a b fiA fiB nmA nmB hv).ren (swp 105 731) (swp_swp _ _)
  have hI2 := (c_iNewsY a b fiA fiB nmA nmB hv).ren (swp 105 741) (swp_swp _ _)
  have hZ := (c_markChgS (newsL a b).length 1 (newsL a b) (by omega) (by omega)).ren (swp 3 731) (swp_swp _ _)
  rw [show renL (swp 105 731) [AV.agg (a.row 0), .agg (b.row 0)] = [.agg (a.row 0), .agg (b.row 0)] from rfl] at hI1
  rw [show renL (swp 105 741) [AV.agg (a.row 0), .agg (b.row 0)] = [.agg (a.row 0), .agg (b.row 0)] from rfl] at hI2
  simp only [renL, ren, renM, renO, swp, reduceIte, Nat.reduceEqDiff, Nat.reduceLT] at hI1 hI2 hZ
  simp only [PBook.row] at hTA n9A hTB n9B
  refine ⟨_, _, .inr (.inl ⟨rfl, _, rfl, hTA, rfl, n9A⟩), ?_⟩
  simp (config := { maxSteps := 2000000, maxDischargeDepth := 8 }) only [bitvec_to_nat, reduceIte, Nat.reduceEqDiff, Nat.reduceAdd, Nat.reduceLeDiff, reduceCtorEq, Nat.reduceBEq, Nat.reduceLT, Nat.reduceMod, List.forall_mem_cons, t_szPBook, t_sNews, t_eqChgS, t_heldChgS, tk_map, dp_map, toNat_pred, appE, rowsOf, List.take_length, List.length_cons, List.length_nil, Nat.zero_add, srow, irow, un_s, un_i, Zone.row, Zone_eta, un_Zone, Word.row, Word_eta, Own.row, Own_eta, Part.row, Part_eta, Seen.row, Seen_eta, Book.row, Book_eta, Sector.row, Sector_eta, HCraft.row, HCraft_eta, World.row, World_eta, PKind.row, PKind_eta, PPt.row, PPt_eta, Cell.row, Cell_eta, PBase.row, PBase_eta, Chg.row, Chg_eta, Fld.row, Fld_eta, Ent.row, Ent_eta, PBook.row, PBook_eta, un_Word, un_Own, un_Part, un_Seen, un_Book, un_Sector, un_HCraft, un_World, un_PKind, un_PPt, un_Cell, un_PBase, un_Chg, un_Fld, un_Ent, un_PBook, Chg.row, Chg_eta, PBook.row, PBook_eta, bkV, List.length_map, Int.toNat_natCast, Nat.sub_zero, and_self, eq_self, not_true_eq_false, ne_eq, bne_self_eq_false, ms_Chg_len, tkZ, tkM, hlz, hn1, hn2, List.nil_append, offs_getA, offs_get, offs_setA, offs_set, ap_cons, ap_skip, ap_skip0, ap_over, ap_over0, ap_self, ap_self0, ap_new, ap_appU, KA_lo, KA_hi, KB_lo, KB_hi, KAB, KBA, offs_gone, offs_rev, dis_goneL, dis_goneR, dis_revR, KA_uniq, KB_uniq, KA_k, KA_k0, KB_k, KB_k0, KA_k', KA_k0', KB_k', KB_k0', List.cons_append, List.nil_append, List.append_assoc]
  refine ⟨_, _, .inr (.inl ⟨rfl, _, rfl, hTB, rfl, n9B⟩), ?_⟩
  simp (config := { maxSteps := 2000000, maxDischargeDepth := 8 }) only [bitvec_to_nat, reduceIte, Nat.reduceEqDiff, Nat.reduceAdd, Nat.reduceLeDiff, reduceCtorEq, Nat.reduceBEq, Nat.reduceLT, Nat.reduceMod, List.forall_mem_cons, t_szPBook, t_sNews, t_eqChgS, t_heldChgS, tk_map, dp_map, toNat_pred, appE, rowsOf, List.take_length, List.length_cons, List.length_nil, Nat.zero_add, srow, irow, un_s, un_i, Zone.row, Zone_eta, un_Zone, Word.row, Word_eta, Own.row, Own_eta, Part.row, Part_eta, Seen.row, Seen_eta, Book.row, Book_eta, Sector.row, Sector_eta, HCraft.row, HCraft_eta, World.row, World_eta, PKind.row, PKind_eta, PPt.row, PPt_eta, Cell.row, Cell_eta, PBase.row, PBase_eta, Chg.row, Chg_eta, Fld.row, Fld_eta, Ent.row, Ent_eta, PBook.row, PBook_eta, un_Word, un_Own, un_Part, un_Seen, un_Book, un_Sector, un_HCraft, un_World, un_PKind, un_PPt, un_Cell, un_PBase, un_Chg, un_Fld, un_Ent, un_PBook, Chg.row, Chg_eta, PBook.row, PBook_eta, bkV, List.length_map, Int.toNat_natCast, Nat.sub_zero, and_self, eq_self, not_true_eq_false, ne_eq, bne_self_eq_false, ms_Chg_len, tkZ, tkM, hlz, hn1, hn2, List.nil_append, offs_getA, offs_get, offs_setA, offs_set, ap_cons, ap_skip, ap_skip0, ap_over, ap_over0, ap_self, ap_self0, ap_new, ap_appU, KA_lo, KA_hi, KB_lo, KB_hi, KAB, KBA, offs_gone, offs_rev, dis_goneL, dis_goneR, dis_revR, KA_uniq, KB_uniq, KA_k, KA_k0, KB_k, KB_k0, KA_k', KA_k0', KB_k', KB_k0', List.cons_append, List.nil_append, List.append_assoc]
  refine ⟨⟨fiA, fiB⟩, _, _, .inr (.inr (.inl ⟨_, rfl, toBookA a hsA, (newK_rev (by repeat' (first | exact newK_nil | exact newK_app0 (by first | exact KAB | exact KBA | exact dis_goneL KAB | exact dis_goneL KBA) | refine newK_app (by first | exact KAB | exact KBA | exact dis_goneL KAB | exact dis_goneL KBA) ?_ | refine newK_cons (by first | exact KA_lo (by omega) | exact KA_hi (by omega) (by omega) | exact KB_lo (by omega) | exact KB_hi (by omega) (by omega)) ?_))), bkr_refV, bkr_refs, by simp [bkV, No99, No99L], KA_99⟩)), ?_⟩
  simp (config := { maxSteps := 2000000, maxDischargeDepth := 8 }) only [bitvec_to_nat, reduceIte, Nat.reduceEqDiff, Nat.reduceAdd, Nat.reduceLeDiff, reduceCtorEq, Nat.reduceBEq, Nat.reduceLT, Nat.reduceMod, List.forall_mem_cons, t_szPBook, t_sNews, t_eqChgS, t_heldChgS, tk_map, dp_map, toNat_pred, appE, rowsOf, List.take_length, List.length_cons, List.length_nil, Nat.zero_add, srow, irow, un_s, un_i, Zone.row, Zone_eta, un_Zone, Word.row, Word_eta, Own.row, Own_eta, Part.row, Part_eta, Seen.row, Seen_eta, Book.row, Book_eta, Sector.row, Sector_eta, HCraft.row, HCraft_eta, World.row, World_eta, PKind.row, PKind_eta, PPt.row, PPt_eta, Cell.row, Cell_eta, PBase.row, PBase_eta, Chg.row, Chg_eta, Fld.row, Fld_eta, Ent.row, Ent_eta, PBook.row, PBook_eta, un_Word, un_Own, un_Part, un_Seen, un_Book, un_Sector, un_HCraft, un_World, un_PKind, un_PPt, un_Cell, un_PBase, un_Chg, un_Fld, un_Ent, un_PBook, Chg.row, Chg_eta, PBook.row, PBook_eta, bkV, List.length_map, Int.toNat_natCast, Nat.sub_zero, and_self, eq_self, not_true_eq_false, ne_eq, bne_self_eq_false, ms_Chg_len, tkZ, tkM, hlz, hn1, hn2, List.nil_append, offs_getA, offs_get, offs_setA, offs_set, ap_cons, ap_skip, ap_skip0, ap_over, ap_over0, ap_self, ap_self0, ap_new, ap_appU, KA_lo, KA_hi, KB_lo, KB_hi, KAB, KBA, offs_gone, offs_rev, dis_goneL, dis_goneR, dis_revR, KA_uniq, KB_uniq, KA_k, KA_k0, KB_k, KB_k0, KA_k', KA_k0', KB_k', KB_k0', List.cons_append, List.nil_append, List.append_assoc]
  refine ⟨_, _, .inr (.inr (.inl ⟨_, rfl, toBookB b hsB, (newK_rev (by repeat' (first | exact newK_nil | exact newK_app0 (by first | exact KAB | exact KBA | exact dis_goneL KAB | exact dis_goneL KBA) | refine newK_app (by first | exact KAB | exact KBA | exact dis_goneL KAB | exact dis_goneL KBA) ?_ | refine newK_cons (by first | exact KA_lo (by omega) | exact KA_hi (by omega) (by omega) | exact KB_lo (by omega) | exact KB_hi (by omega) (by omega)) ?_))), bkr_refV, bkr_refs, by simp [bkV, No99, No99L], KB_99⟩)), ?_⟩
  simp (config := { maxSteps := 2000000, maxDischargeDepth := 8 }) only [bitvec_to_nat, reduceIte, Nat.reduceEqDiff, Nat.reduceAdd, Nat.reduceLeDiff, reduceCtorEq, Nat.reduceBEq, Nat.reduceLT, Nat.reduceMod, List.forall_mem_cons, t_szPBook, t_sNews, t_eqChgS, t_heldChgS, tk_map, dp_map, toNat_pred, appE, rowsOf, List.take_length, List.length_cons, List.length_nil, Nat.zero_add, srow, irow, un_s, un_i, Zone.row, Zone_eta, un_Zone, Word.row, Word_eta, Own.row, Own_eta, Part.row, Part_eta, Seen.row, Seen_eta, Book.row, Book_eta, Sector.row, Sector_eta, HCraft.row, HCraft_eta, World.row, World_eta, PKind.row, PKind_eta, PPt.row, PPt_eta, Cell.row, Cell_eta, PBase.row, PBase_eta, Chg.row, Chg_eta, Fld.row, Fld_eta, Ent.row, Ent_eta, PBook.row, PBook_eta, un_Word, un_Own, un_Part, un_Seen, un_Book, un_Sector, un_HCraft, un_World, un_PKind, un_PPt, un_Cell, un_PBase, un_Chg, un_Fld, un_Ent, un_PBook, Chg.row, Chg_eta, PBook.row, PBook_eta, bkV, List.length_map, Int.toNat_natCast, Nat.sub_zero, and_self, eq_self, not_true_eq_false, ne_eq, bne_self_eq_false, ms_Chg_len, tkZ, tkM, hlz, hn1, hn2, List.nil_append, offs_getA, offs_get, offs_setA, offs_set, ap_cons, ap_skip, ap_skip0, ap_over, ap_over0, ap_self, ap_self0, ap_new, ap_appU, KA_lo, KA_hi, KB_lo, KB_hi, KAB, KBA, offs_gone, offs_rev, dis_goneL, dis_goneR, dis_revR, KA_uniq, KB_uniq, KA_k, KA_k0, KB_k, KB_k0, KA_k', KA_k0', KB_k', KB_k0', List.cons_append, List.nil_append, List.append_assoc]
  refine ⟨_, _, callR_look (news := [(731, .arr 39 (newsL a b).length 4 ((newsL a b).map Chg.row))]) (keep := KA a ++ KB b) (args' := [.agg (a.row 99), .agg (b.row 99)]) (by simp only [tag0L, tag_bk]; exact hI1) (getK_both (by repeat' (first | exact getK_self (KA_uniq _) | exact getK_self (KB_uniq _) | exact uniq_self (KA_uniq _) | exact uniq_self (KB_uniq _) | refine getK_app (by first | exact KAB | exact KBA | exact dis_goneL KAB | exact dis_goneL KBA) ?_ | refine getK_cons (by first | exact KA_lo (by omega) | exact KA_hi (by omega) (by omega) | exact KB_lo (by omega) | exact KB_hi (by omega) (by omega)) ?_)) (by repeat' (first | exact getK_self (KA_uniq _) | exact getK_self (KB_uniq _) | exact uniq_self (KA_uniq _) | exact uniq_self (KB_uniq _) | refine getK_app (by first | exact KAB | exact KBA | exact dis_goneL KAB | exact dis_goneL KBA) ?_ | refine getK_cons (by first | exact KA_lo (by omega) | exact KA_hi (by omega) (by omega) | exact KB_lo (by omega) | exact KB_hi (by omega) (by omega)) ?_))) (purNL_cons (purN_bk (by repeat' (first | exact getK_self (KA_uniq _) | exact getK_self (KB_uniq _) | exact uniq_self (KA_uniq _) | exact uniq_self (KB_uniq _) | refine getK_app (by first | exact KAB | exact KBA | exact dis_goneL KAB | exact dis_goneL KBA) ?_ | refine getK_cons (by first | exact KA_lo (by omega) | exact KA_hi (by omega) (by omega) | exact KB_lo (by omega) | exact KB_hi (by omega) (by omega)) ?_)) (getK_self (KA_uniq a))) (purNL_cons (purN_bk (by repeat' (first | exact getK_self (KA_uniq _) | exact getK_self (KB_uniq _) | exact uniq_self (KA_uniq _) | exact uniq_self (KB_uniq _) | refine getK_app (by first | exact KAB | exact KBA | exact dis_goneL KAB | exact dis_goneL KBA) ?_ | refine getK_cons (by first | exact KA_lo (by omega) | exact KA_hi (by omega) (by omega) | exact KB_lo (by omega) | exact KB_hi (by omega) (by omega)) ?_)) (getK_app KAB (uniq_self (KB_uniq b)))) rfl)) (by simp only [no98L, no98_bk 99 (by omega), Bool.and_self]) rfl (by simp [plainO, Chg.row, plainL, plainV]) (new_one (by simp (config := { maxDischargeDepth := 8 }) only [getM, offs_getA, offs_get, offs_setA, offs_set, ap_cons, ap_skip, ap_skip0, ap_over, ap_over0, ap_self, ap_self0, ap_new, ap_appU, KA_lo, KA_hi, KB_lo, KB_hi, KAB, KBA, offs_gone, offs_rev, dis_goneL, dis_goneR, dis_revR, KA_uniq, KB_uniq, KA_k, KA_k0, KB_k, KB_k0, KA_k', KA_k0', KB_k', KB_k0', List.cons_append, List.nil_append, List.append_assoc, Nat.reduceEqDiff, Nat.reduceLT, reduceIte])) (by simp [refsIn, refsInL, dom]) (by simp [refsInO]) (by simp [No99]) (by simp only [List.forall_mem_cons, fm0, and_true]; exact no99_Chg _), ?_⟩
  simp (config := { maxSteps := 2000000, maxDischargeDepth := 8 }) only [bitvec_to_nat, reduceIte, Nat.reduceEqDiff, Nat.reduceAdd, Nat.reduceLeDiff, reduceCtorEq, Nat.reduceBEq, Nat.reduceLT, Nat.reduceMod, List.forall_mem_cons, t_szPBook, t_sNews, t_eqChgS, t_heldChgS, tk_map, dp_map, toNat_pred, appE, rowsOf, List.take_length, List.length_cons, List.length_nil, Nat.zero_add, srow, irow, un_s, un_i, Zone.row, Zone_eta, un_Zone, Word.row, Word_eta, Own.row, Own_eta, Part.row, Part_eta, Seen.row, Seen_eta, Book.row, Book_eta, Sector.row, Sector_eta, HCraft.row, HCraft_eta, World.row, World_eta, PKind.row, PKind_eta, PPt.row, PPt_eta, Cell.row, Cell_eta, PBase.row, PBase_eta, Chg.row, Chg_eta, Fld.row, Fld_eta, Ent.row, Ent_eta, PBook.row, PBook_eta, un_Word, un_Own, un_Part, un_Seen, un_Book, un_Sector, un_HCraft, un_World, un_PKind, un_PPt, un_Cell, un_PBase, un_Chg, un_Fld, un_Ent, un_PBook, Chg.row, Chg_eta, PBook.row, PBook_eta, bkV, List.length_map, Int.toNat_natCast, Nat.sub_zero, and_self, eq_self, not_true_eq_false, ne_eq, bne_self_eq_false, ms_Chg_len, tkZ, tkM, hlz, hn1, hn2, List.nil_append, offs_getA, offs_get, offs_setA, offs_set, ap_cons, ap_skip, ap_skip0, ap_over, ap_over0, ap_self, ap_self0, ap_new, ap_appU, KA_lo, KA_hi, KB_lo, KB_hi, KAB, KBA, offs_gone, offs_rev, dis_goneL, dis_goneR, dis_revR, KA_uniq, KB_uniq, KA_k, KA_k0, KB_k, KB_k0, KA_k', KA_k0', KB_k', KB_k0', List.cons_append, List.nil_append, List.append_assoc]
  refine ⟨by omega, _, _, .inr (.inl ⟨rfl, _, rfl, hTA, rfl, n9A⟩), ?_⟩
  simp (config := { maxSteps := 2000000, maxDischargeDepth := 8 }) only [bitvec_to_nat, reduceIte, Nat.reduceEqDiff, Nat.reduceAdd, Nat.reduceLeDiff, reduceCtorEq, Nat.reduceBEq, Nat.reduceLT, Nat.reduceMod, List.forall_mem_cons, t_szPBook, t_sNews, t_eqChgS, t_heldChgS, tk_map, dp_map, toNat_pred, appE, rowsOf, List.take_length, List.length_cons, List.length_nil, Nat.zero_add, srow, irow, un_s, un_i, Zone.row, Zone_eta, un_Zone, Word.row, Word_eta, Own.row, Own_eta, Part.row, Part_eta, Seen.row, Seen_eta, Book.row, Book_eta, Sector.row, Sector_eta, HCraft.row, HCraft_eta, World.row, World_eta, PKind.row, PKind_eta, PPt.row, PPt_eta, Cell.row, Cell_eta, PBase.row, PBase_eta, Chg.row, Chg_eta, Fld.row, Fld_eta, Ent.row, Ent_eta, PBook.row, PBook_eta, un_Word, un_Own, un_Part, un_Seen, un_Book, un_Sector, un_HCraft, un_World, un_PKind, un_PPt, un_Cell, un_PBase, un_Chg, un_Fld, un_Ent, un_PBook, Chg.row, Chg_eta, PBook.row, PBook_eta, bkV, List.length_map, Int.toNat_natCast, Nat.sub_zero, and_self, eq_self, not_true_eq_false, ne_eq, bne_self_eq_false, ms_Chg_len, tkZ, tkM, hlz, hn1, hn2, List.nil_append, offs_getA, offs_get, offs_setA, offs_set, ap_cons, ap_skip, ap_skip0, ap_over, ap_over0, ap_self, ap_self0, ap_new, ap_appU, KA_lo, KA_hi, KB_lo, KB_hi, KAB, KBA, offs_gone, offs_rev, dis_goneL, dis_goneR, dis_revR, KA_uniq, KB_uniq, KA_k, KA_k0, KB_k, KB_k0, KA_k', KA_k0', KB_k', KB_k0', List.cons_append, List.nil_append, List.append_assoc]
  refine ⟨_, _, callR_look (r := .bool true) (news := []) (keep := KA a) (args' := [.agg (a.row 99), .agg (a.row 0)]) (by simp only [tag0L, tag_bk]; exact eqA) (by repeat' (first | exact getK_self (KA_uniq _) | exact getK_self (KB_uniq _) | exact uniq_self (KA_uniq _) | exact uniq_self (KB_uniq _) | refine getK_app (by first | exact KAB | exact KBA | exact dis_goneL KAB | exact dis_goneL KBA) ?_ | refine getK_cons (by first | exact KA_lo (by omega) | exact KA_hi (by omega) (by omega) | exact KB_lo (by omega) | exact KB_hi (by omega) (by omega)) ?_)) (purNL_cons (purN_bk (by repeat' (first | exact getK_self (KA_uniq _) | exact getK_self (KB_uniq _) | exact uniq_self (KA_uniq _) | exact uniq_self (KB_uniq _) | refine getK_app (by first | exact KAB | exact KBA | exact dis_goneL KAB | exact dis_goneL KBA) ?_ | refine getK_cons (by first | exact KA_lo (by omega) | exact KA_hi (by omega) (by omega) | exact KB_lo (by omega) | exact KB_hi (by omega) (by omega)) ?_)) (uniq_self (KA_uniq a))) rfl) (by simp only [no98L, no98_bk 99 (by omega), no98_bk 0 (by omega), Bool.and_self]) rfl rfl (by simp) rfl rfl trivial (by simp), ?_⟩
  simp (config := { maxSteps := 2000000, maxDischargeDepth := 8 }) only [bitvec_to_nat, reduceIte, Nat.reduceEqDiff, Nat.reduceAdd, Nat.reduceLeDiff, reduceCtorEq, Nat.reduceBEq, Nat.reduceLT, Nat.reduceMod, List.forall_mem_cons, t_szPBook, t_sNews, t_eqChgS, t_heldChgS, tk_map, dp_map, toNat_pred, appE, rowsOf, List.take_length, List.length_cons, List.length_nil, Nat.zero_add, srow, irow, un_s, un_i, Zone.row, Zone_eta, un_Zone, Word.row, Word_eta, Own.row, Own_eta, Part.row, Part_eta, Seen.row, Seen_eta, Book.row, Book_eta, Sector.row, Sector_eta, HCraft.row, HCraft_eta, World.row, World_eta, PKind.row, PKind_eta, PPt.row, PPt_eta, Cell.row, Cell_eta, PBase.row, PBase_eta, Chg.row, Chg_eta, Fld.row, Fld_eta, Ent.row, Ent_eta, PBook.row, PBook_eta, un_Word, un_Own, un_Part, un_Seen, un_Book, un_Sector, un_HCraft, un_World, un_PKind, un_PPt, un_Cell, un_PBase, un_Chg, un_Fld, un_Ent, un_PBook, Chg.row, Chg_eta, PBook.row, PBook_eta, bkV, List.length_map, Int.toNat_natCast, Nat.sub_zero, and_self, eq_self, not_true_eq_false, ne_eq, bne_self_eq_false, ms_Chg_len, tkZ, tkM, hlz, hn1, hn2, List.nil_append, offs_getA, offs_get, offs_setA, offs_set, ap_cons, ap_skip, ap_skip0, ap_over, ap_over0, ap_self, ap_self0, ap_new, ap_appU, KA_lo, KA_hi, KB_lo, KB_hi, KAB, KBA, offs_gone, offs_rev, dis_goneL, dis_goneR, dis_revR, KA_uniq, KB_uniq, KA_k, KA_k0, KB_k, KB_k0, KA_k', KA_k0', KB_k', KB_k0', List.cons_append, List.nil_append, List.append_assoc]
  refine ⟨_, _, .inr (.inl ⟨rfl, _, rfl, hTB, rfl, n9B⟩), ?_⟩
  simp (config := { maxSteps := 2000000, maxDischargeDepth := 8 }) only [bitvec_to_nat, reduceIte, Nat.reduceEqDiff, Nat.reduceAdd, Nat.reduceLeDiff, reduceCtorEq, Nat.reduceBEq, Nat.reduceLT, Nat.reduceMod, List.forall_mem_cons, t_szPBook, t_sNews, t_eqChgS, t_heldChgS, tk_map, dp_map, toNat_pred, appE, rowsOf, List.take_length, List.length_cons, List.length_nil, Nat.zero_add, srow, irow, un_s, un_i, Zone.row, Zone_eta, un_Zone, Word.row, Word_eta, Own.row, Own_eta, Part.row, Part_eta, Seen.row, Seen_eta, Book.row, Book_eta, Sector.row, Sector_eta, HCraft.row, HCraft_eta, World.row, World_eta, PKind.row, PKind_eta, PPt.row, PPt_eta, Cell.row, Cell_eta, PBase.row, PBase_eta, Chg.row, Chg_eta, Fld.row, Fld_eta, Ent.row, Ent_eta, PBook.row, PBook_eta, un_Word, un_Own, un_Part, un_Seen, un_Book, un_Sector, un_HCraft, un_World, un_PKind, un_PPt, un_Cell, un_PBase, un_Chg, un_Fld, un_Ent, un_PBook, Chg.row, Chg_eta, PBook.row, PBook_eta, bkV, List.length_map, Int.toNat_natCast, Nat.sub_zero, and_self, eq_self, not_true_eq_false, ne_eq, bne_self_eq_false, ms_Chg_len, tkZ, tkM, hlz, hn1, hn2, List.nil_append, offs_getA, offs_get, offs_setA, offs_set, ap_cons, ap_skip, ap_skip0, ap_over, ap_over0, ap_self, ap_self0, ap_new, ap_appU, KA_lo, KA_hi, KB_lo, KB_hi, KAB, KBA, offs_gone, offs_rev, dis_goneL, dis_goneR, dis_revR, KA_uniq, KB_uniq, KA_k, KA_k0, KB_k, KB_k0, KA_k', KA_k0', KB_k', KB_k0', List.cons_append, List.nil_append, List.append_assoc]
  refine ⟨_, _, callR_look (r := .bool true) (news := []) (keep := KB b) (args' := [.agg (b.row 99), .agg (b.row 0)]) (by simp only [tag0L, tag_bk]; exact eqB) (by repeat' (first | exact getK_self (KA_uniq _) | exact getK_self (KB_uniq _) | exact uniq_self (KA_uniq _) | exact uniq_self (KB_uniq _) | refine getK_app (by first | exact KAB | exact KBA | exact dis_goneL KAB | exact dis_goneL KBA) ?_ | refine getK_cons (by first | exact KA_lo (by omega) | exact KA_hi (by omega) (by omega) | exact KB_lo (by omega) | exact KB_hi (by omega) (by omega)) ?_)) (purNL_cons (purN_bk (by repeat' (first | exact getK_self (KA_uniq _) | exact getK_self (KB_uniq _) | exact uniq_self (KA_uniq _) | exact uniq_self (KB_uniq _) | refine getK_app (by first | exact KAB | exact KBA | exact dis_goneL KAB | exact dis_goneL KBA) ?_ | refine getK_cons (by first | exact KA_lo (by omega) | exact KA_hi (by omega) (by omega) | exact KB_lo (by omega) | exact KB_hi (by omega) (by omega)) ?_)) (uniq_self (KB_uniq b))) rfl) (by simp only [no98L, no98_bk 99 (by omega), no98_bk 0 (by omega), Bool.and_self]) rfl rfl (by simp) rfl rfl trivial (by simp), ?_⟩
  simp (config := { maxSteps := 2000000, maxDischargeDepth := 8 }) only [bitvec_to_nat, reduceIte, Nat.reduceEqDiff, Nat.reduceAdd, Nat.reduceLeDiff, reduceCtorEq, Nat.reduceBEq, Nat.reduceLT, Nat.reduceMod, List.forall_mem_cons, t_szPBook, t_sNews, t_eqChgS, t_heldChgS, tk_map, dp_map, toNat_pred, appE, rowsOf, List.take_length, List.length_cons, List.length_nil, Nat.zero_add, srow, irow, un_s, un_i, Zone.row, Zone_eta, un_Zone, Word.row, Word_eta, Own.row, Own_eta, Part.row, Part_eta, Seen.row, Seen_eta, Book.row, Book_eta, Sector.row, Sector_eta, HCraft.row, HCraft_eta, World.row, World_eta, PKind.row, PKind_eta, PPt.row, PPt_eta, Cell.row, Cell_eta, PBase.row, PBase_eta, Chg.row, Chg_eta, Fld.row, Fld_eta, Ent.row, Ent_eta, PBook.row, PBook_eta, un_Word, un_Own, un_Part, un_Seen, un_Book, un_Sector, un_HCraft, un_World, un_PKind, un_PPt, un_Cell, un_PBase, un_Chg, un_Fld, un_Ent, un_PBook, Chg.row, Chg_eta, PBook.row, PBook_eta, bkV, List.length_map, Int.toNat_natCast, Nat.sub_zero, and_self, eq_self, not_true_eq_false, ne_eq, bne_self_eq_false, ms_Chg_len, tkZ, tkM, hlz, hn1, hn2, List.nil_append, offs_getA, offs_get, offs_setA, offs_set, ap_cons, ap_skip, ap_skip0, ap_over, ap_over0, ap_self, ap_self0, ap_new, ap_appU, KA_lo, KA_hi, KB_lo, KB_hi, KAB, KBA, offs_gone, offs_rev, dis_goneL, dis_goneR, dis_revR, KA_uniq, KB_uniq, KA_k, KA_k0, KB_k, KB_k0, KA_k', KA_k0', KB_k', KB_k0', List.cons_append, List.nil_append, List.append_assoc]
  refine ⟨_, _, callR_gone mkA (by repeat' (first | exact getK_self (KA_uniq _) | exact getK_self (KB_uniq _) | exact uniq_self (KA_uniq _) | exact uniq_self (KB_uniq _) | refine getK_app (by first | exact KAB | exact KBA | exact dis_goneL KAB | exact dis_goneL KBA) ?_ | refine getK_cons (by first | exact KA_lo (by omega) | exact KA_hi (by omega) (by omega) | exact KB_lo (by omega) | exact KB_hi (by omega) (by omega)) ?_)) KA_ref bk_refs rfl, ?_⟩
  simp (config := { maxSteps := 2000000, maxDischargeDepth := 8 }) only [bitvec_to_nat, reduceIte, Nat.reduceEqDiff, Nat.reduceAdd, Nat.reduceLeDiff, reduceCtorEq, Nat.reduceBEq, Nat.reduceLT, Nat.reduceMod, List.forall_mem_cons, t_szPBook, t_sNews, t_eqChgS, t_heldChgS, tk_map, dp_map, toNat_pred, appE, rowsOf, List.take_length, List.length_cons, List.length_nil, Nat.zero_add, srow, irow, un_s, un_i, Zone.row, Zone_eta, un_Zone, Word.row, Word_eta, Own.row, Own_eta, Part.row, Part_eta, Seen.row, Seen_eta, Book.row, Book_eta, Sector.row, Sector_eta, HCraft.row, HCraft_eta, World.row, World_eta, PKind.row, PKind_eta, PPt.row, PPt_eta, Cell.row, Cell_eta, PBase.row, PBase_eta, Chg.row, Chg_eta, Fld.row, Fld_eta, Ent.row, Ent_eta, PBook.row, PBook_eta, un_Word, un_Own, un_Part, un_Seen, un_Book, un_Sector, un_HCraft, un_World, un_PKind, un_PPt, un_Cell, un_PBase, un_Chg, un_Fld, un_Ent, un_PBook, Chg.row, Chg_eta, PBook.row, PBook_eta, bkV, List.length_map, Int.toNat_natCast, Nat.sub_zero, and_self, eq_self, not_true_eq_false, ne_eq, bne_self_eq_false, ms_Chg_len, tkZ, tkM, hlz, hn1, hn2, List.nil_append, offs_getA, offs_get, offs_setA, offs_set, ap_cons, ap_skip, ap_skip0, ap_over, ap_over0, ap_self, ap_self0, ap_new, ap_appU, KA_lo, KA_hi, KB_lo, KB_hi, KAB, KBA, offs_gone, offs_rev, dis_goneL, dis_goneR, dis_revR, KA_uniq, KB_uniq, KA_k, KA_k0, KB_k, KB_k0, KA_k', KA_k0', KB_k', KB_k0', List.cons_append, List.nil_append, List.append_assoc]
  refine ⟨_, _, callR_gone mkB (by repeat' (first | exact getK_self (KA_uniq _) | exact getK_self (KB_uniq _) | exact uniq_self (KA_uniq _) | exact uniq_self (KB_uniq _) | refine getK_app (by first | exact KAB | exact KBA | exact dis_goneL KAB | exact dis_goneL KBA) ?_ | refine getK_cons (by first | exact KA_lo (by omega) | exact KA_hi (by omega) (by omega) | exact KB_lo (by omega) | exact KB_hi (by omega) (by omega)) ?_)) KB_ref bk_refs rfl, ?_⟩
  simp (config := { maxSteps := 2000000, maxDischargeDepth := 8 }) only [bitvec_to_nat, reduceIte, Nat.reduceEqDiff, Nat.reduceAdd, Nat.reduceLeDiff, reduceCtorEq, Nat.reduceBEq, Nat.reduceLT, Nat.reduceMod, List.forall_mem_cons, t_szPBook, t_sNews, t_eqChgS, t_heldChgS, tk_map, dp_map, toNat_pred, appE, rowsOf, List.take_length, List.length_cons, List.length_nil, Nat.zero_add, srow, irow, un_s, un_i, Zone.row, Zone_eta, un_Zone, Word.row, Word_eta, Own.row, Own_eta, Part.row, Part_eta, Seen.row, Seen_eta, Book.row, Book_eta, Sector.row, Sector_eta, HCraft.row, HCraft_eta, World.row, World_eta, PKind.row, PKind_eta, PPt.row, PPt_eta, Cell.row, Cell_eta, PBase.row, PBase_eta, Chg.row, Chg_eta, Fld.row, Fld_eta, Ent.row, Ent_eta, PBook.row, PBook_eta, un_Word, un_Own, un_Part, un_Seen, un_Book, un_Sector, un_HCraft, un_World, un_PKind, un_PPt, un_Cell, un_PBase, un_Chg, un_Fld, un_Ent, un_PBook, Chg.row, Chg_eta, PBook.row, PBook_eta, bkV, List.length_map, Int.toNat_natCast, Nat.sub_zero, and_self, eq_self, not_true_eq_false, ne_eq, bne_self_eq_false, ms_Chg_len, tkZ, tkM, hlz, hn1, hn2, List.nil_append, offs_getA, offs_get, offs_setA, offs_set, ap_cons, ap_skip, ap_skip0, ap_over, ap_over0, ap_self, ap_self0, ap_new, ap_appU, KA_lo, KA_hi, KB_lo, KB_hi, KAB, KBA, offs_gone, offs_rev, dis_goneL, dis_goneR, dis_revR, KA_uniq, KB_uniq, KA_k, KA_k0, KB_k, KB_k0, KA_k', KA_k0', KB_k', KB_k0', List.cons_append, List.nil_append, List.append_assoc]
  refine ⟨fun h => by omega, fun _ => ⟨by omega, _, _, .inl ⟨_, hZ, by simp (config := { maxDischargeDepth := 8 }) only [List.forall_mem_cons, fm0, and_true, getM, offs_getA, offs_get, offs_setA, offs_set, ap_cons, ap_skip, ap_skip0, ap_over, ap_over0, ap_self, ap_self0, ap_new, ap_appU, KA_lo, KA_hi, KB_lo, KB_hi, KAB, KBA, offs_gone, offs_rev, dis_goneL, dis_goneR, dis_revR, KA_uniq, KB_uniq, KA_k, KA_k0, KB_k, KB_k0, KA_k', KA_k0', KB_k', KB_k0', List.cons_append, List.nil_append, List.append_assoc, Nat.reduceEqDiff, Nat.reduceLT, reduceIte], by simp [getM, dom], rfl, rfl, rfl, rfl, rfl⟩, ?_⟩⟩
  simp (config := { maxSteps := 2000000, maxDischargeDepth := 8 }) only [bitvec_to_nat, reduceIte, Nat.reduceEqDiff, Nat.reduceAdd, Nat.reduceLeDiff, reduceCtorEq, Nat.reduceBEq, Nat.reduceLT, Nat.reduceMod, List.forall_mem_cons, t_szPBook, t_sNews, t_eqChgS, t_heldChgS, tk_map, dp_map, toNat_pred, appE, rowsOf, List.take_length, List.length_cons, List.length_nil, Nat.zero_add, srow, irow, un_s, un_i, Zone.row, Zone_eta, un_Zone, Word.row, Word_eta, Own.row, Own_eta, Part.row, Part_eta, Seen.row, Seen_eta, Book.row, Book_eta, Sector.row, Sector_eta, HCraft.row, HCraft_eta, World.row, World_eta, PKind.row, PKind_eta, PPt.row, PPt_eta, Cell.row, Cell_eta, PBase.row, PBase_eta, Chg.row, Chg_eta, Fld.row, Fld_eta, Ent.row, Ent_eta, PBook.row, PBook_eta, un_Word, un_Own, un_Part, un_Seen, un_Book, un_Sector, un_HCraft, un_World, un_PKind, un_PPt, un_Cell, un_PBase, un_Chg, un_Fld, un_Ent, un_PBook, Chg.row, Chg_eta, PBook.row, PBook_eta, bkV, List.length_map, Int.toNat_natCast, Nat.sub_zero, and_self, eq_self, not_true_eq_false, ne_eq, bne_self_eq_false, ms_Chg_len, tkZ, tkM, hlz, hn1, hn2, List.nil_append, offs_getA, offs_get, offs_setA, offs_set, ap_cons, ap_skip, ap_skip0, ap_over, ap_over0, ap_self, ap_self0, ap_new, ap_appU, KA_lo, KA_hi, KB_lo, KB_hi, KAB, KBA, offs_gone, offs_rev, dis_goneL, dis_goneR, dis_revR, KA_uniq, KB_uniq, KA_k, KA_k0, KB_k, KB_k0, KA_k', KA_k0', KB_k', KB_k0', List.cons_append, List.nil_append, List.append_assoc]
  refine ⟨by omega, fun h => by omega, fun _ => ⟨_, _, .inr (.inl ⟨rfl, _, rfl, hTA, rfl, n9A⟩), ?_⟩⟩
  simp (config := { maxSteps := 2000000, maxDischargeDepth := 8 }) only [bitvec_to_nat, reduceIte, Nat.reduceEqDiff, Nat.reduceAdd, Nat.reduceLeDiff, reduceCtorEq, Nat.reduceBEq, Nat.reduceLT, Nat.reduceMod, List.forall_mem_cons, t_szPBook, t_sNews, t_eqChgS, t_heldChgS, tk_map, dp_map, toNat_pred, appE, rowsOf, List.take_length, List.length_cons, List.length_nil, Nat.zero_add, srow, irow, un_s, un_i, Zone.row, Zone_eta, un_Zone, Word.row, Word_eta, Own.row, Own_eta, Part.row, Part_eta, Seen.row, Seen_eta, Book.row, Book_eta, Sector.row, Sector_eta, HCraft.row, HCraft_eta, World.row, World_eta, PKind.row, PKind_eta, PPt.row, PPt_eta, Cell.row, Cell_eta, PBase.row, PBase_eta, Chg.row, Chg_eta, Fld.row, Fld_eta, Ent.row, Ent_eta, PBook.row, PBook_eta, un_Word, un_Own, un_Part, un_Seen, un_Book, un_Sector, un_HCraft, un_World, un_PKind, un_PPt, un_Cell, un_PBase, un_Chg, un_Fld, un_Ent, un_PBook, Chg.row, Chg_eta, PBook.row, PBook_eta, bkV, List.length_map, Int.toNat_natCast, Nat.sub_zero, and_self, eq_self, not_true_eq_false, ne_eq, bne_self_eq_false, ms_Chg_len, tkZ, tkM, hlz, hn1, hn2, List.nil_append, offs_getA, offs_get, offs_setA, offs_set, ap_cons, ap_skip, ap_skip0, ap_over, ap_over0, ap_self, ap_self0, ap_new, ap_appU, KA_lo, KA_hi, KB_lo, KB_hi, KAB, KBA, offs_gone, offs_rev, dis_goneL, dis_goneR, dis_revR, KA_uniq, KB_uniq, KA_k, KA_k0, KB_k, KB_k0, KA_k', KA_k0', KB_k', KB_k0', List.cons_append, List.nil_append, List.append_assoc]
  refine ⟨_, _, .inr (.inl ⟨rfl, _, rfl, hTB, rfl, n9B⟩), ?_⟩
  simp (config := { maxSteps := 2000000, maxDischargeDepth := 8 }) only [bitvec_to_nat, reduceIte, Nat.reduceEqDiff, Nat.reduceAdd, Nat.reduceLeDiff, reduceCtorEq, Nat.reduceBEq, Nat.reduceLT, Nat.reduceMod, List.forall_mem_cons, t_szPBook, t_sNews, t_eqChgS, t_heldChgS, tk_map, dp_map, toNat_pred, appE, rowsOf, List.take_length, List.length_cons, List.length_nil, Nat.zero_add, srow, irow, un_s, un_i, Zone.row, Zone_eta, un_Zone, Word.row, Word_eta, Own.row, Own_eta, Part.row, Part_eta, Seen.row, Seen_eta, Book.row, Book_eta, Sector.row, Sector_eta, HCraft.row, HCraft_eta, World.row, World_eta, PKind.row, PKind_eta, PPt.row, PPt_eta, Cell.row, Cell_eta, PBase.row, PBase_eta, Chg.row, Chg_eta, Fld.row, Fld_eta, Ent.row, Ent_eta, PBook.row, PBook_eta, un_Word, un_Own, un_Part, un_Seen, un_Book, un_Sector, un_HCraft, un_World, un_PKind, un_PPt, un_Cell, un_PBase, un_Chg, un_Fld, un_Ent, un_PBook, Chg.row, Chg_eta, PBook.row, PBook_eta, bkV, List.length_map, Int.toNat_natCast, Nat.sub_zero, and_self, eq_self, not_true_eq_false, ne_eq, bne_self_eq_false, ms_Chg_len, tkZ, tkM, hlz, hn1, hn2, List.nil_append, offs_getA, offs_get, offs_setA, offs_set, ap_cons, ap_skip, ap_skip0, ap_over, ap_over0, ap_self, ap_self0, ap_new, ap_appU, KA_lo, KA_hi, KB_lo, KB_hi, KAB, KBA, offs_gone, offs_rev, dis_goneL, dis_goneR, dis_revR, KA_uniq, KB_uniq, KA_k, KA_k0, KB_k, KB_k0, KA_k', KA_k0', KB_k', KB_k0', List.cons_append, List.nil_append, List.append_assoc]
  refine ⟨_, _, .inr (.inr (.inl ⟨_, rfl, hI2, new_one (by simp (config := { maxDischargeDepth := 8 }) only [getM, offs_getA, offs_get, offs_setA, offs_set, ap_cons, ap_skip, ap_skip0, ap_over, ap_over0, ap_self, ap_self0, ap_new, ap_appU, KA_lo, KA_hi, KB_lo, KB_hi, KAB, KBA, offs_gone, offs_rev, dis_goneL, dis_goneR, dis_revR, KA_uniq, KB_uniq, KA_k, KA_k0, KB_k, KB_k0, KA_k', KA_k0', KB_k', KB_k0', List.cons_append, List.nil_append, List.append_assoc, Nat.reduceEqDiff, Nat.reduceLT, reduceIte]), by simp [refsIn, refsInL, dom], rfl, by simp [No99], by simp only [List.forall_mem_cons, fm0, and_true]; exact no99_Chg _⟩)), ?_⟩
  simp (config := { maxSteps := 2000000, maxDischargeDepth := 8 }) only [bitvec_to_nat, reduceIte, Nat.reduceEqDiff, Nat.reduceAdd, Nat.reduceLeDiff, reduceCtorEq, Nat.reduceBEq, Nat.reduceLT, Nat.reduceMod, List.forall_mem_cons, t_szPBook, t_sNews, t_eqChgS, t_heldChgS, tk_map, dp_map, toNat_pred, appE, rowsOf, List.take_length, List.length_cons, List.length_nil, Nat.zero_add, srow, irow, un_s, un_i, Zone.row, Zone_eta, un_Zone, Word.row, Word_eta, Own.row, Own_eta, Part.row, Part_eta, Seen.row, Seen_eta, Book.row, Book_eta, Sector.row, Sector_eta, HCraft.row, HCraft_eta, World.row, World_eta, PKind.row, PKind_eta, PPt.row, PPt_eta, Cell.row, Cell_eta, PBase.row, PBase_eta, Chg.row, Chg_eta, Fld.row, Fld_eta, Ent.row, Ent_eta, PBook.row, PBook_eta, un_Word, un_Own, un_Part, un_Seen, un_Book, un_Sector, un_HCraft, un_World, un_PKind, un_PPt, un_Cell, un_PBase, un_Chg, un_Fld, un_Ent, un_PBook, Chg.row, Chg_eta, PBook.row, PBook_eta, bkV, List.length_map, Int.toNat_natCast, Nat.sub_zero, and_self, eq_self, not_true_eq_false, ne_eq, bne_self_eq_false, ms_Chg_len, tkZ, tkM, hlz, hn1, hn2, List.nil_append, offs_getA, offs_get, offs_setA, offs_set, ap_cons, ap_skip, ap_skip0, ap_over, ap_over0, ap_self, ap_self0, ap_new, ap_appU, KA_lo, KA_hi, KB_lo, KB_hi, KAB, KBA, offs_gone, offs_rev, dis_goneL, dis_goneR, dis_revR, KA_uniq, KB_uniq, KA_k, KA_k0, KB_k, KB_k0, KA_k', KA_k0', KB_k', KB_k0', List.cons_append, List.nil_append, List.append_assoc]
  exact ⟨by omega, ⟨by omega, by omega, by omega⟩, fun h => by omega⟩

set_option maxHeartbeats 8000000 in
theorem c_lawNN (a b : PBook) (hfa : a.fitp) (hfb : b.fitp) (hv : ¬ newsOk a b) : Contract P 6 [.agg (a.row 1), .agg (b.row 1)] [] (.bool true) [] := by
  have hlz : newsL a b = [] := if_neg hv
  have tkZ : True := trivial
  have tkM : True := trivial
  have z2 : PBook.sz a 1048576 ≤ 1048576 := by have := (meas_PBook a 1048576 (by omega)).2.2; omega
  generalize hn1 : PBook.sz a 1048576 = n1 at *
  have hn2 : True := trivial
  simp only [PBook.row]
  refine fn_sound (((((Env.nil P).add 18 t_szPBook h_szPBook).add 23 t_sNews h_sNews).add 25 t_eqChgS h_eqChgS).add 28 t_heldChgS h_heldChgS) hm k_laws_FnExactPlanNews (Nat.le_of_ble_eq_true rfl) rfl ?_; unfold s_laws_FnExactPlanNews; simp (config := { maxSteps := 2000000, maxDischargeDepth := 8 }) only [bitvec_to_nat, reduceIte, Nat.reduceEqDiff, Nat.reduceAdd, Nat.reduceLeDiff, reduceCtorEq, Nat.reduceBEq, Nat.reduceLT, Nat.reduceMod, List.forall_mem_cons, t_szPBook, t_sNews, t_eqChgS, t_heldChgS, tk_map, dp_map, toNat_pred, appE, rowsOf, List.take_length, List.length_cons, List.length_nil, Nat.zero_add, srow, irow, un_s, un_i, Zone.row, Zone_eta, un_Zone, Word.row, Word_eta, Own.row, Own_eta, Part.row, Part_eta, Seen.row, Seen_eta, Book.row, Book_eta, Sector.row, Sector_eta, HCraft.row, HCraft_eta, World.row, World_eta, PKind.row, PKind_eta, PPt.row, PPt_eta, Cell.row, Cell_eta, PBase.row, PBase_eta, Chg.row, Chg_eta, Fld.row, Fld_eta, Ent.row, Ent_eta, PBook.row, PBook_eta, un_Word, un_Own, un_Part, un_Seen, un_Book, un_Sector, un_HCraft, un_World, un_PKind, un_PPt, un_Cell, un_PBase, un_Chg, un_Fld, un_Ent, un_PBook, Chg.row, Chg_eta, PBook.row, PBook_eta, bkV, List.length_map, Int.toNat_natCast, Nat.sub_zero, and_self, eq_self, not_true_eq_false, ne_eq, bne_self_eq_false, ms_Chg_len, tkZ, tkM, hlz, hn1, hn2, List.nil_append, offs_getA, offs_get, offs_setA, offs_set, ap_cons, ap_skip, ap_skip0, ap_over, ap_over0, ap_self, ap_self0, ap_new, ap_appU, KA_lo, KA_hi, KB_lo, KB_hi, KAB, KBA, offs_gone, offs_rev, dis_goneL, dis_goneR, dis_revR, KA_uniq, KB_uniq, KA_k, KA_k0, KB_k, KB_k0, KA_k', KA_k0', KB_k', KB_k0', List.cons_append, List.nil_append, List.append_assoc]
  refine ⟨⟨by omega, hfa⟩, fun g1 => ⟨⟨by omega, hfb⟩, fun g2 => ?_⟩⟩
  have hsA : a.small := PBook.sz_ok (a := 1048576) (by omega) (by omega)
  have hsB : b.small := PBook.sz_ok (a := n1) (by omega) (by omega)
  have fiA : a.fine := PBook.sz_fine (a := 1048576) (by omega) (by omega)
  have fiB : b.fine := PBook.sz_fine (a := n1) (by omega) (by omega)
  have nmA : a.names := ⟨hfa.1.2, hfa.2.1.2⟩
  have nmB : b.names := ⟨hfb.1.2, hfb.2.1.2⟩
  have hTA := c_toPBook a hsA
  have n9A : No99 (.agg (a.row 0)) := by simp [PBook.row, No99, No99L, no99_PKind, no99_PPt, no99_Ent]
  have hTB := c_toPBook b hsB
  have n9B : No99 (.agg (b.row 0)) := by simp [PBook.row, No99, No99L, no99_PKind, no99_PPt, no99_Ent]
  have hcA : cntB a ≤ 20000000000000 := cntB_le hsA
  have hcB : cntB b ≤ 20000000000000 := cntB_le hsB
  have eqA := eqBookC a hsA
  have eqB := eqBookC b hsB
  have mkA := markBookA 1 a hsA (by omega)
  have mkB := markBookB (1 + cntB a) b hsB (by omega)
  have hI1 := c_iNewsN a b fiA fiB nmA nmB hv
  simp only [PBook.row] at hTA n9A hTB n9B
  refine ⟨_, _, .inr (.inl ⟨rfl, _, rfl, hTA, rfl, n9A⟩), ?_⟩
  simp (config := { maxSteps := 2000000, maxDischargeDepth := 8 }) only [bitvec_to_nat, reduceIte, Nat.reduceEqDiff, Nat.reduceAdd, Nat.reduceLeDiff, reduceCtorEq, Nat.reduceBEq, Nat.reduceLT, Nat.reduceMod, List.forall_mem_cons, t_szPBook, t_sNews, t_eqChgS, t_heldChgS, tk_map, dp_map, toNat_pred, appE, rowsOf, List.take_length, List.length_cons, List.length_nil, Nat.zero_add, srow, irow, un_s, un_i, Zone.row, Zone_eta, un_Zone, Word.row, Word_eta, Own.row, Own_eta, Part.row, Part_eta, Seen.row, Seen_eta, Book.row, Book_eta, Sector.row, Sector_eta, HCraft.row, HCraft_eta, World.row, World_eta, PKind.row, PKind_eta, PPt.row, PPt_eta, Cell.row, Cell_eta, PBase.row, PBase_eta, Chg.row, Chg_eta, Fld.row, Fld_eta, Ent.row, Ent_eta, PBook.row, PBook_eta, un_Word, un_Own, un_Part, un_Seen, un_Book, un_Sector, un_HCraft, un_World, un_PKind, un_PPt, un_Cell, un_PBase, un_Chg, un_Fld, un_Ent, un_PBook, Chg.row, Chg_eta, PBook.row, PBook_eta, bkV, List.length_map, Int.toNat_natCast, Nat.sub_zero, and_self, eq_self, not_true_eq_false, ne_eq, bne_self_eq_false, ms_Chg_len, tkZ, tkM, hlz, hn1, hn2, List.nil_append, offs_getA, offs_get, offs_setA, offs_set, ap_cons, ap_skip, ap_skip0, ap_over, ap_over0, ap_self, ap_self0, ap_new, ap_appU, KA_lo, KA_hi, KB_lo, KB_hi, KAB, KBA, offs_gone, offs_rev, dis_goneL, dis_goneR, dis_revR, KA_uniq, KB_uniq, KA_k, KA_k0, KB_k, KB_k0, KA_k', KA_k0', KB_k', KB_k0', List.cons_append, List.nil_append, List.append_assoc]
  refine ⟨_, _, .inr (.inl ⟨rfl, _, rfl, hTB, rfl, n9B⟩), ?_⟩
  simp (config := { maxSteps := 2000000, maxDischargeDepth := 8 }) only [bitvec_to_nat, reduceIte, Nat.reduceEqDiff, Nat.reduceAdd, Nat.reduceLeDiff, reduceCtorEq, Nat.reduceBEq, Nat.reduceLT, Nat.reduceMod, List.forall_mem_cons, t_szPBook, t_sNews, t_eqChgS, t_heldChgS, tk_map, dp_map, toNat_pred, appE, rowsOf, List.take_length, List.length_cons, List.length_nil, Nat.zero_add, srow, irow, un_s, un_i, Zone.row, Zone_eta, un_Zone, Word.row, Word_eta, Own.row, Own_eta, Part.row, Part_eta, Seen.row, Seen_eta, Book.row, Book_eta, Sector.row, Sector_eta, HCraft.row, HCraft_eta, World.row, World_eta, PKind.row, PKind_eta, PPt.row, PPt_eta, Cell.row, Cell_eta, PBase.row, PBase_eta, Chg.row, Chg_eta, Fld.row, Fld_eta, Ent.row, Ent_eta, PBook.row, PBook_eta, un_Word, un_Own, un_Part, un_Seen, un_Book, un_Sector, un_HCraft, un_World, un_PKind, un_PPt, un_Cell, un_PBase, un_Chg, un_Fld, un_Ent, un_PBook, Chg.row, Chg_eta, PBook.row, PBook_eta, bkV, List.length_map, Int.toNat_natCast, Nat.sub_zero, and_self, eq_self, not_true_eq_false, ne_eq, bne_self_eq_false, ms_Chg_len, tkZ, tkM, hlz, hn1, hn2, List.nil_append, offs_getA, offs_get, offs_setA, offs_set, ap_cons, ap_skip, ap_skip0, ap_over, ap_over0, ap_self, ap_self0, ap_new, ap_appU, KA_lo, KA_hi, KB_lo, KB_hi, KAB, KBA, offs_gone, offs_rev, dis_goneL, dis_goneR, dis_revR, KA_uniq, KB_uniq, KA_k, KA_k0, KB_k, KB_k0, KA_k', KA_k0', KB_k', KB_k0', List.cons_append, List.nil_append, List.append_assoc]
  refine ⟨⟨fiA, fiB⟩, _, _, .inr (.inr (.inl ⟨_, rfl, toBookA a hsA, (newK_rev (by repeat' (first | exact newK_nil | exact newK_app0 (by first | exact KAB | exact KBA | exact dis_goneL KAB | exact dis_goneL KBA) | refine newK_app (by first | exact KAB | exact KBA | exact dis_goneL KAB | exact dis_goneL KBA) ?_ | refine newK_cons (by first | exact KA_lo (by omega) | exact KA_hi (by omega) (by omega) | exact KB_lo (by omega) | exact KB_hi (by omega) (by omega)) ?_))), bkr_refV, bkr_refs, by simp [bkV, No99, No99L], KA_99⟩)), ?_⟩
  simp (config := { maxSteps := 2000000, maxDischargeDepth := 8 }) only [bitvec_to_nat, reduceIte, Nat.reduceEqDiff, Nat.reduceAdd, Nat.reduceLeDiff, reduceCtorEq, Nat.reduceBEq, Nat.reduceLT, Nat.reduceMod, List.forall_mem_cons, t_szPBook, t_sNews, t_eqChgS, t_heldChgS, tk_map, dp_map, toNat_pred, appE, rowsOf, List.take_length, List.length_cons, List.length_nil, Nat.zero_add, srow, irow, un_s, un_i, Zone.row, Zone_eta, un_Zone, Word.row, Word_eta, Own.row, Own_eta, Part.row, Part_eta, Seen.row, Seen_eta, Book.row, Book_eta, Sector.row, Sector_eta, HCraft.row, HCraft_eta, World.row, World_eta, PKind.row, PKind_eta, PPt.row, PPt_eta, Cell.row, Cell_eta, PBase.row, PBase_eta, Chg.row, Chg_eta, Fld.row, Fld_eta, Ent.row, Ent_eta, PBook.row, PBook_eta, un_Word, un_Own, un_Part, un_Seen, un_Book, un_Sector, un_HCraft, un_World, un_PKind, un_PPt, un_Cell, un_PBase, un_Chg, un_Fld, un_Ent, un_PBook, Chg.row, Chg_eta, PBook.row, PBook_eta, bkV, List.length_map, Int.toNat_natCast, Nat.sub_zero, and_self, eq_self, not_true_eq_false, ne_eq, bne_self_eq_false, ms_Chg_len, tkZ, tkM, hlz, hn1, hn2, List.nil_append, offs_getA, offs_get, offs_setA, offs_set, ap_cons, ap_skip, ap_skip0, ap_over, ap_over0, ap_self, ap_self0, ap_new, ap_appU, KA_lo, KA_hi, KB_lo, KB_hi, KAB, KBA, offs_gone, offs_rev, dis_goneL, dis_goneR, dis_revR, KA_uniq, KB_uniq, KA_k, KA_k0, KB_k, KB_k0, KA_k', KA_k0', KB_k', KB_k0', List.cons_append, List.nil_append, List.append_assoc]
  refine ⟨_, _, .inr (.inr (.inl ⟨_, rfl, toBookB b hsB, (newK_rev (by repeat' (first | exact newK_nil | exact newK_app0 (by first | exact KAB | exact KBA | exact dis_goneL KAB | exact dis_goneL KBA) | refine newK_app (by first | exact KAB | exact KBA | exact dis_goneL KAB | exact dis_goneL KBA) ?_ | refine newK_cons (by first | exact KA_lo (by omega) | exact KA_hi (by omega) (by omega) | exact KB_lo (by omega) | exact KB_hi (by omega) (by omega)) ?_))), bkr_refV, bkr_refs, by simp [bkV, No99, No99L], KB_99⟩)), ?_⟩
  simp (config := { maxSteps := 2000000, maxDischargeDepth := 8 }) only [bitvec_to_nat, reduceIte, Nat.reduceEqDiff, Nat.reduceAdd, Nat.reduceLeDiff, reduceCtorEq, Nat.reduceBEq, Nat.reduceLT, Nat.reduceMod, List.forall_mem_cons, t_szPBook, t_sNews, t_eqChgS, t_heldChgS, tk_map, dp_map, toNat_pred, appE, rowsOf, List.take_length, List.length_cons, List.length_nil, Nat.zero_add, srow, irow, un_s, un_i, Zone.row, Zone_eta, un_Zone, Word.row, Word_eta, Own.row, Own_eta, Part.row, Part_eta, Seen.row, Seen_eta, Book.row, Book_eta, Sector.row, Sector_eta, HCraft.row, HCraft_eta, World.row, World_eta, PKind.row, PKind_eta, PPt.row, PPt_eta, Cell.row, Cell_eta, PBase.row, PBase_eta, Chg.row, Chg_eta, Fld.row, Fld_eta, Ent.row, Ent_eta, PBook.row, PBook_eta, un_Word, un_Own, un_Part, un_Seen, un_Book, un_Sector, un_HCraft, un_World, un_PKind, un_PPt, un_Cell, un_PBase, un_Chg, un_Fld, un_Ent, un_PBook, Chg.row, Chg_eta, PBook.row, PBook_eta, bkV, List.length_map, Int.toNat_natCast, Nat.sub_zero, and_self, eq_self, not_true_eq_false, ne_eq, bne_self_eq_false, ms_Chg_len, tkZ, tkM, hlz, hn1, hn2, List.nil_append, offs_getA, offs_get, offs_setA, offs_set, ap_cons, ap_skip, ap_skip0, ap_over, ap_over0, ap_self, ap_self0, ap_new, ap_appU, KA_lo, KA_hi, KB_lo, KB_hi, KAB, KBA, offs_gone, offs_rev, dis_goneL, dis_goneR, dis_revR, KA_uniq, KB_uniq, KA_k, KA_k0, KB_k, KB_k0, KA_k', KA_k0', KB_k', KB_k0', List.cons_append, List.nil_append, List.append_assoc]
  refine ⟨_, _, callR_look (news := []) (keep := KA a ++ KB b) (args' := [.agg (a.row 99), .agg (b.row 99)]) (by simp only [tag0L, tag_bk]; exact hI1) (getK_both (by repeat' (first | exact getK_self (KA_uniq _) | exact getK_self (KB_uniq _) | exact uniq_self (KA_uniq _) | exact uniq_self (KB_uniq _) | refine getK_app (by first | exact KAB | exact KBA | exact dis_goneL KAB | exact dis_goneL KBA) ?_ | refine getK_cons (by first | exact KA_lo (by omega) | exact KA_hi (by omega) (by omega) | exact KB_lo (by omega) | exact KB_hi (by omega) (by omega)) ?_)) (by repeat' (first | exact getK_self (KA_uniq _) | exact getK_self (KB_uniq _) | exact uniq_self (KA_uniq _) | exact uniq_self (KB_uniq _) | refine getK_app (by first | exact KAB | exact KBA | exact dis_goneL KAB | exact dis_goneL KBA) ?_ | refine getK_cons (by first | exact KA_lo (by omega) | exact KA_hi (by omega) (by omega) | exact KB_lo (by omega) | exact KB_hi (by omega) (by omega)) ?_))) (purNL_cons (purN_bk (by repeat' (first | exact getK_self (KA_uniq _) | exact getK_self (KB_uniq _) | exact uniq_self (KA_uniq _) | exact uniq_self (KB_uniq _) | refine getK_app (by first | exact KAB | exact KBA | exact dis_goneL KAB | exact dis_goneL KBA) ?_ | refine getK_cons (by first | exact KA_lo (by omega) | exact KA_hi (by omega) (by omega) | exact KB_lo (by omega) | exact KB_hi (by omega) (by omega)) ?_)) (getK_self (KA_uniq a))) (purNL_cons (purN_bk (by repeat' (first | exact getK_self (KA_uniq _) | exact getK_self (KB_uniq _) | exact uniq_self (KA_uniq _) | exact uniq_self (KB_uniq _) | refine getK_app (by first | exact KAB | exact KBA | exact dis_goneL KAB | exact dis_goneL KBA) ?_ | refine getK_cons (by first | exact KA_lo (by omega) | exact KA_hi (by omega) (by omega) | exact KB_lo (by omega) | exact KB_hi (by omega) (by omega)) ?_)) (getK_app KAB (uniq_self (KB_uniq b)))) rfl)) (by simp only [no98L, no98_bk 99 (by omega), Bool.and_self]) rfl rfl (by simp) rfl rfl (by simp [No99, No99LL]) (by simp), ?_⟩
  simp (config := { maxSteps := 2000000, maxDischargeDepth := 8 }) only [bitvec_to_nat, reduceIte, Nat.reduceEqDiff, Nat.reduceAdd, Nat.reduceLeDiff, reduceCtorEq, Nat.reduceBEq, Nat.reduceLT, Nat.reduceMod, List.forall_mem_cons, t_szPBook, t_sNews, t_eqChgS, t_heldChgS, tk_map, dp_map, toNat_pred, appE, rowsOf, List.take_length, List.length_cons, List.length_nil, Nat.zero_add, srow, irow, un_s, un_i, Zone.row, Zone_eta, un_Zone, Word.row, Word_eta, Own.row, Own_eta, Part.row, Part_eta, Seen.row, Seen_eta, Book.row, Book_eta, Sector.row, Sector_eta, HCraft.row, HCraft_eta, World.row, World_eta, PKind.row, PKind_eta, PPt.row, PPt_eta, Cell.row, Cell_eta, PBase.row, PBase_eta, Chg.row, Chg_eta, Fld.row, Fld_eta, Ent.row, Ent_eta, PBook.row, PBook_eta, un_Word, un_Own, un_Part, un_Seen, un_Book, un_Sector, un_HCraft, un_World, un_PKind, un_PPt, un_Cell, un_PBase, un_Chg, un_Fld, un_Ent, un_PBook, Chg.row, Chg_eta, PBook.row, PBook_eta, bkV, List.length_map, Int.toNat_natCast, Nat.sub_zero, and_self, eq_self, not_true_eq_false, ne_eq, bne_self_eq_false, ms_Chg_len, tkZ, tkM, hlz, hn1, hn2, List.nil_append, offs_getA, offs_get, offs_setA, offs_set, ap_cons, ap_skip, ap_skip0, ap_over, ap_over0, ap_self, ap_self0, ap_new, ap_appU, KA_lo, KA_hi, KB_lo, KB_hi, KAB, KBA, offs_gone, offs_rev, dis_goneL, dis_goneR, dis_revR, KA_uniq, KB_uniq, KA_k, KA_k0, KB_k, KB_k0, KA_k', KA_k0', KB_k', KB_k0', List.cons_append, List.nil_append, List.append_assoc]
  refine ⟨_, _, .inr (.inl ⟨rfl, _, rfl, hTA, rfl, n9A⟩), ?_⟩
  simp (config := { maxSteps := 2000000, maxDischargeDepth := 8 }) only [bitvec_to_nat, reduceIte, Nat.reduceEqDiff, Nat.reduceAdd, Nat.reduceLeDiff, reduceCtorEq, Nat.reduceBEq, Nat.reduceLT, Nat.reduceMod, List.forall_mem_cons, t_szPBook, t_sNews, t_eqChgS, t_heldChgS, tk_map, dp_map, toNat_pred, appE, rowsOf, List.take_length, List.length_cons, List.length_nil, Nat.zero_add, srow, irow, un_s, un_i, Zone.row, Zone_eta, un_Zone, Word.row, Word_eta, Own.row, Own_eta, Part.row, Part_eta, Seen.row, Seen_eta, Book.row, Book_eta, Sector.row, Sector_eta, HCraft.row, HCraft_eta, World.row, World_eta, PKind.row, PKind_eta, PPt.row, PPt_eta, Cell.row, Cell_eta, PBase.row, PBase_eta, Chg.row, Chg_eta, Fld.row, Fld_eta, Ent.row, Ent_eta, PBook.row, PBook_eta, un_Word, un_Own, un_Part, un_Seen, un_Book, un_Sector, un_HCraft, un_World, un_PKind, un_PPt, un_Cell, un_PBase, un_Chg, un_Fld, un_Ent, un_PBook, Chg.row, Chg_eta, PBook.row, PBook_eta, bkV, List.length_map, Int.toNat_natCast, Nat.sub_zero, and_self, eq_self, not_true_eq_false, ne_eq, bne_self_eq_false, ms_Chg_len, tkZ, tkM, hlz, hn1, hn2, List.nil_append, offs_getA, offs_get, offs_setA, offs_set, ap_cons, ap_skip, ap_skip0, ap_over, ap_over0, ap_self, ap_self0, ap_new, ap_appU, KA_lo, KA_hi, KB_lo, KB_hi, KAB, KBA, offs_gone, offs_rev, dis_goneL, dis_goneR, dis_revR, KA_uniq, KB_uniq, KA_k, KA_k0, KB_k, KB_k0, KA_k', KA_k0', KB_k', KB_k0', List.cons_append, List.nil_append, List.append_assoc]
  refine ⟨_, _, callR_look (r := .bool true) (news := []) (keep := KA a) (args' := [.agg (a.row 99), .agg (a.row 0)]) (by simp only [tag0L, tag_bk]; exact eqA) (by repeat' (first | exact getK_self (KA_uniq _) | exact getK_self (KB_uniq _) | exact uniq_self (KA_uniq _) | exact uniq_self (KB_uniq _) | refine getK_app (by first | exact KAB | exact KBA | exact dis_goneL KAB | exact dis_goneL KBA) ?_ | refine getK_cons (by first | exact KA_lo (by omega) | exact KA_hi (by omega) (by omega) | exact KB_lo (by omega) | exact KB_hi (by omega) (by omega)) ?_)) (purNL_cons (purN_bk (by repeat' (first | exact getK_self (KA_uniq _) | exact getK_self (KB_uniq _) | exact uniq_self (KA_uniq _) | exact uniq_self (KB_uniq _) | refine getK_app (by first | exact KAB | exact KBA | exact dis_goneL KAB | exact dis_goneL KBA) ?_ | refine getK_cons (by first | exact KA_lo (by omega) | exact KA_hi (by omega) (by omega) | exact KB_lo (by omega) | exact KB_hi (by omega) (by omega)) ?_)) (uniq_self (KA_uniq a))) rfl) (by simp only [no98L, no98_bk 99 (by omega), no98_bk 0 (by omega), Bool.and_self]) rfl rfl (by simp) rfl rfl trivial (by simp), ?_⟩
  simp (config := { maxSteps := 2000000, maxDischargeDepth := 8 }) only [bitvec_to_nat, reduceIte, Nat.reduceEqDiff, Nat.reduceAdd, Nat.reduceLeDiff, reduceCtorEq, Nat.reduceBEq, Nat.reduceLT, Nat.reduceMod, List.forall_mem_cons, t_szPBook, t_sNews, t_eqChgS, t_heldChgS, tk_map, dp_map, toNat_pred, appE, rowsOf, List.take_length, List.length_cons, List.length_nil, Nat.zero_add, srow, irow, un_s, un_i, Zone.row, Zone_eta, un_Zone, Word.row, Word_eta, Own.row, Own_eta, Part.row, Part_eta, Seen.row, Seen_eta, Book.row, Book_eta, Sector.row, Sector_eta, HCraft.row, HCraft_eta, World.row, World_eta, PKind.row, PKind_eta, PPt.row, PPt_eta, Cell.row, Cell_eta, PBase.row, PBase_eta, Chg.row, Chg_eta, Fld.row, Fld_eta, Ent.row, Ent_eta, PBook.row, PBook_eta, un_Word, un_Own, un_Part, un_Seen, un_Book, un_Sector, un_HCraft, un_World, un_PKind, un_PPt, un_Cell, un_PBase, un_Chg, un_Fld, un_Ent, un_PBook, Chg.row, Chg_eta, PBook.row, PBook_eta, bkV, List.length_map, Int.toNat_natCast, Nat.sub_zero, and_self, eq_self, not_true_eq_false, ne_eq, bne_self_eq_false, ms_Chg_len, tkZ, tkM, hlz, hn1, hn2, List.nil_append, offs_getA, offs_get, offs_setA, offs_set, ap_cons, ap_skip, ap_skip0, ap_over, ap_over0, ap_self, ap_self0, ap_new, ap_appU, KA_lo, KA_hi, KB_lo, KB_hi, KAB, KBA, offs_gone, offs_rev, dis_goneL, dis_goneR, dis_revR, KA_uniq, KB_uniq, KA_k, KA_k0, KB_k, KB_k0, KA_k', KA_k0', KB_k', KB_k0', List.cons_append, List.nil_append, List.append_assoc]
  refine ⟨_, _, .inr (.inl ⟨rfl, _, rfl, hTB, rfl, n9B⟩), ?_⟩
  simp (config := { maxSteps := 2000000, maxDischargeDepth := 8 }) only [bitvec_to_nat, reduceIte, Nat.reduceEqDiff, Nat.reduceAdd, Nat.reduceLeDiff, reduceCtorEq, Nat.reduceBEq, Nat.reduceLT, Nat.reduceMod, List.forall_mem_cons, t_szPBook, t_sNews, t_eqChgS, t_heldChgS, tk_map, dp_map, toNat_pred, appE, rowsOf, List.take_length, List.length_cons, List.length_nil, Nat.zero_add, srow, irow, un_s, un_i, Zone.row, Zone_eta, un_Zone, Word.row, Word_eta, Own.row, Own_eta, Part.row, Part_eta, Seen.row, Seen_eta, Book.row, Book_eta, Sector.row, Sector_eta, HCraft.row, HCraft_eta, World.row, World_eta, PKind.row, PKind_eta, PPt.row, PPt_eta, Cell.row, Cell_eta, PBase.row, PBase_eta, Chg.row, Chg_eta, Fld.row, Fld_eta, Ent.row, Ent_eta, PBook.row, PBook_eta, un_Word, un_Own, un_Part, un_Seen, un_Book, un_Sector, un_HCraft, un_World, un_PKind, un_PPt, un_Cell, un_PBase, un_Chg, un_Fld, un_Ent, un_PBook, Chg.row, Chg_eta, PBook.row, PBook_eta, bkV, List.length_map, Int.toNat_natCast, Nat.sub_zero, and_self, eq_self, not_true_eq_false, ne_eq, bne_self_eq_false, ms_Chg_len, tkZ, tkM, hlz, hn1, hn2, List.nil_append, offs_getA, offs_get, offs_setA, offs_set, ap_cons, ap_skip, ap_skip0, ap_over, ap_over0, ap_self, ap_self0, ap_new, ap_appU, KA_lo, KA_hi, KB_lo, KB_hi, KAB, KBA, offs_gone, offs_rev, dis_goneL, dis_goneR, dis_revR, KA_uniq, KB_uniq, KA_k, KA_k0, KB_k, KB_k0, KA_k', KA_k0', KB_k', KB_k0', List.cons_append, List.nil_append, List.append_assoc]
  refine ⟨_, _, callR_look (r := .bool true) (news := []) (keep := KB b) (args' := [.agg (b.row 99), .agg (b.row 0)]) (by simp only [tag0L, tag_bk]; exact eqB) (by repeat' (first | exact getK_self (KA_uniq _) | exact getK_self (KB_uniq _) | exact uniq_self (KA_uniq _) | exact uniq_self (KB_uniq _) | refine getK_app (by first | exact KAB | exact KBA | exact dis_goneL KAB | exact dis_goneL KBA) ?_ | refine getK_cons (by first | exact KA_lo (by omega) | exact KA_hi (by omega) (by omega) | exact KB_lo (by omega) | exact KB_hi (by omega) (by omega)) ?_)) (purNL_cons (purN_bk (by repeat' (first | exact getK_self (KA_uniq _) | exact getK_self (KB_uniq _) | exact uniq_self (KA_uniq _) | exact uniq_self (KB_uniq _) | refine getK_app (by first | exact KAB | exact KBA | exact dis_goneL KAB | exact dis_goneL KBA) ?_ | refine getK_cons (by first | exact KA_lo (by omega) | exact KA_hi (by omega) (by omega) | exact KB_lo (by omega) | exact KB_hi (by omega) (by omega)) ?_)) (uniq_self (KB_uniq b))) rfl) (by simp only [no98L, no98_bk 99 (by omega), no98_bk 0 (by omega), Bool.and_self]) rfl rfl (by simp) rfl rfl trivial (by simp), ?_⟩
  simp (config := { maxSteps := 2000000, maxDischargeDepth := 8 }) only [bitvec_to_nat, reduceIte, Nat.reduceEqDiff, Nat.reduceAdd, Nat.reduceLeDiff, reduceCtorEq, Nat.reduceBEq, Nat.reduceLT, Nat.reduceMod, List.forall_mem_cons, t_szPBook, t_sNews, t_eqChgS, t_heldChgS, tk_map, dp_map, toNat_pred, appE, rowsOf, List.take_length, List.length_cons, List.length_nil, Nat.zero_add, srow, irow, un_s, un_i, Zone.row, Zone_eta, un_Zone, Word.row, Word_eta, Own.row, Own_eta, Part.row, Part_eta, Seen.row, Seen_eta, Book.row, Book_eta, Sector.row, Sector_eta, HCraft.row, HCraft_eta, World.row, World_eta, PKind.row, PKind_eta, PPt.row, PPt_eta, Cell.row, Cell_eta, PBase.row, PBase_eta, Chg.row, Chg_eta, Fld.row, Fld_eta, Ent.row, Ent_eta, PBook.row, PBook_eta, un_Word, un_Own, un_Part, un_Seen, un_Book, un_Sector, un_HCraft, un_World, un_PKind, un_PPt, un_Cell, un_PBase, un_Chg, un_Fld, un_Ent, un_PBook, Chg.row, Chg_eta, PBook.row, PBook_eta, bkV, List.length_map, Int.toNat_natCast, Nat.sub_zero, and_self, eq_self, not_true_eq_false, ne_eq, bne_self_eq_false, ms_Chg_len, tkZ, tkM, hlz, hn1, hn2, List.nil_append, offs_getA, offs_get, offs_setA, offs_set, ap_cons, ap_skip, ap_skip0, ap_over, ap_over0, ap_self, ap_self0, ap_new, ap_appU, KA_lo, KA_hi, KB_lo, KB_hi, KAB, KBA, offs_gone, offs_rev, dis_goneL, dis_goneR, dis_revR, KA_uniq, KB_uniq, KA_k, KA_k0, KB_k, KB_k0, KA_k', KA_k0', KB_k', KB_k0', List.cons_append, List.nil_append, List.append_assoc]
  refine ⟨_, _, callR_gone mkA (by repeat' (first | exact getK_self (KA_uniq _) | exact getK_self (KB_uniq _) | exact uniq_self (KA_uniq _) | exact uniq_self (KB_uniq _) | refine getK_app (by first | exact KAB | exact KBA | exact dis_goneL KAB | exact dis_goneL KBA) ?_ | refine getK_cons (by first | exact KA_lo (by omega) | exact KA_hi (by omega) (by omega) | exact KB_lo (by omega) | exact KB_hi (by omega) (by omega)) ?_)) KA_ref bk_refs rfl, ?_⟩
  simp (config := { maxSteps := 2000000, maxDischargeDepth := 8 }) only [bitvec_to_nat, reduceIte, Nat.reduceEqDiff, Nat.reduceAdd, Nat.reduceLeDiff, reduceCtorEq, Nat.reduceBEq, Nat.reduceLT, Nat.reduceMod, List.forall_mem_cons, t_szPBook, t_sNews, t_eqChgS, t_heldChgS, tk_map, dp_map, toNat_pred, appE, rowsOf, List.take_length, List.length_cons, List.length_nil, Nat.zero_add, srow, irow, un_s, un_i, Zone.row, Zone_eta, un_Zone, Word.row, Word_eta, Own.row, Own_eta, Part.row, Part_eta, Seen.row, Seen_eta, Book.row, Book_eta, Sector.row, Sector_eta, HCraft.row, HCraft_eta, World.row, World_eta, PKind.row, PKind_eta, PPt.row, PPt_eta, Cell.row, Cell_eta, PBase.row, PBase_eta, Chg.row, Chg_eta, Fld.row, Fld_eta, Ent.row, Ent_eta, PBook.row, PBook_eta, un_Word, un_Own, un_Part, un_Seen, un_Book, un_Sector, un_HCraft, un_World, un_PKind, un_PPt, un_Cell, un_PBase, un_Chg, un_Fld, un_Ent, un_PBook, Chg.row, Chg_eta, PBook.row, PBook_eta, bkV, List.length_map, Int.toNat_natCast, Nat.sub_zero, and_self, eq_self, not_true_eq_false, ne_eq, bne_self_eq_false, ms_Chg_len, tkZ, tkM, hlz, hn1, hn2, List.nil_append, offs_getA, offs_get, offs_setA, offs_set, ap_cons, ap_skip, ap_skip0, ap_over, ap_over0, ap_self, ap_self0, ap_new, ap_appU, KA_lo, KA_hi, KB_lo, KB_hi, KAB, KBA, offs_gone, offs_rev, dis_goneL, dis_goneR, dis_revR, KA_uniq, KB_uniq, KA_k, KA_k0, KB_k, KB_k0, KA_k', KA_k0', KB_k', KB_k0', List.cons_append, List.nil_append, List.append_assoc]
  refine ⟨_, _, callR_gone mkB (by repeat' (first | exact getK_self (KA_uniq _) | exact getK_self (KB_uniq _) | exact uniq_self (KA_uniq _) | exact uniq_self (KB_uniq _) | refine getK_app (by first | exact KAB | exact KBA | exact dis_goneL KAB | exact dis_goneL KBA) ?_ | refine getK_cons (by first | exact KA_lo (by omega) | exact KA_hi (by omega) (by omega) | exact KB_lo (by omega) | exact KB_hi (by omega) (by omega)) ?_)) KB_ref bk_refs rfl, ?_⟩
  simp (config := { maxSteps := 2000000, maxDischargeDepth := 8 }) only [bitvec_to_nat, reduceIte, Nat.reduceEqDiff, Nat.reduceAdd, Nat.reduceLeDiff, reduceCtorEq, Nat.reduceBEq, Nat.reduceLT, Nat.reduceMod, List.forall_mem_cons, t_szPBook, t_sNews, t_eqChgS, t_heldChgS, tk_map, dp_map, toNat_pred, appE, rowsOf, List.take_length, List.length_cons, List.length_nil, Nat.zero_add, srow, irow, un_s, un_i, Zone.row, Zone_eta, un_Zone, Word.row, Word_eta, Own.row, Own_eta, Part.row, Part_eta, Seen.row, Seen_eta, Book.row, Book_eta, Sector.row, Sector_eta, HCraft.row, HCraft_eta, World.row, World_eta, PKind.row, PKind_eta, PPt.row, PPt_eta, Cell.row, Cell_eta, PBase.row, PBase_eta, Chg.row, Chg_eta, Fld.row, Fld_eta, Ent.row, Ent_eta, PBook.row, PBook_eta, un_Word, un_Own, un_Part, un_Seen, un_Book, un_Sector, un_HCraft, un_World, un_PKind, un_PPt, un_Cell, un_PBase, un_Chg, un_Fld, un_Ent, un_PBook, Chg.row, Chg_eta, PBook.row, PBook_eta, bkV, List.length_map, Int.toNat_natCast, Nat.sub_zero, and_self, eq_self, not_true_eq_false, ne_eq, bne_self_eq_false, ms_Chg_len, tkZ, tkM, hlz, hn1, hn2, List.nil_append, offs_getA, offs_get, offs_setA, offs_set, ap_cons, ap_skip, ap_skip0, ap_over, ap_over0, ap_self, ap_self0, ap_new, ap_appU, KA_lo, KA_hi, KB_lo, KB_hi, KAB, KBA, offs_gone, offs_rev, dis_goneL, dis_goneR, dis_revR, KA_uniq, KB_uniq, KA_k, KA_k0, KB_k, KB_k0, KA_k', KA_k0', KB_k', KB_k0', List.cons_append, List.nil_append, List.append_assoc]
  refine ⟨fun h => by omega, fun _ => ⟨_, _, .inr (.inl ⟨rfl, _, rfl, c_markNChgS 98 1, rfl, trivial⟩), ?_⟩⟩
  simp (config := { maxSteps := 2000000, maxDischargeDepth := 8 }) only [bitvec_to_nat, reduceIte, Nat.reduceEqDiff, Nat.reduceAdd, Nat.reduceLeDiff, reduceCtorEq, Nat.reduceBEq, Nat.reduceLT, Nat.reduceMod, List.forall_mem_cons, t_szPBook, t_sNews, t_eqChgS, t_heldChgS, tk_map, dp_map, toNat_pred, appE, rowsOf, List.take_length, List.length_cons, List.length_nil, Nat.zero_add, srow, irow, un_s, un_i, Zone.row, Zone_eta, un_Zone, Word.row, Word_eta, Own.row, Own_eta, Part.row, Part_eta, Seen.row, Seen_eta, Book.row, Book_eta, Sector.row, Sector_eta, HCraft.row, HCraft_eta, World.row, World_eta, PKind.row, PKind_eta, PPt.row, PPt_eta, Cell.row, Cell_eta, PBase.row, PBase_eta, Chg.row, Chg_eta, Fld.row, Fld_eta, Ent.row, Ent_eta, PBook.row, PBook_eta, un_Word, un_Own, un_Part, un_Seen, un_Book, un_Sector, un_HCraft, un_World, un_PKind, un_PPt, un_Cell, un_PBase, un_Chg, un_Fld, un_Ent, un_PBook, Chg.row, Chg_eta, PBook.row, PBook_eta, bkV, List.length_map, Int.toNat_natCast, Nat.sub_zero, and_self, eq_self, not_true_eq_false, ne_eq, bne_self_eq_false, ms_Chg_len, tkZ, tkM, hlz, hn1, hn2, List.nil_append, offs_getA, offs_get, offs_setA, offs_set, ap_cons, ap_skip, ap_skip0, ap_over, ap_over0, ap_self, ap_self0, ap_new, ap_appU, KA_lo, KA_hi, KB_lo, KB_hi, KAB, KBA, offs_gone, offs_rev, dis_goneL, dis_goneR, dis_revR, KA_uniq, KB_uniq, KA_k, KA_k0, KB_k, KB_k0, KA_k', KA_k0', KB_k', KB_k0', List.cons_append, List.nil_append, List.append_assoc]
  refine ⟨⟨rfl, by omega, by omega⟩, fun h => by omega, fun _ => ⟨fun h => by omega, fun _ => ⟨_, _, .inr (.inl ⟨rfl, _, rfl, hTA, rfl, n9A⟩), ?_⟩⟩⟩
  simp (config := { maxSteps := 2000000, maxDischargeDepth := 8 }) only [bitvec_to_nat, reduceIte, Nat.reduceEqDiff, Nat.reduceAdd, Nat.reduceLeDiff, reduceCtorEq, Nat.reduceBEq, Nat.reduceLT, Nat.reduceMod, List.forall_mem_cons, t_szPBook, t_sNews, t_eqChgS, t_heldChgS, tk_map, dp_map, toNat_pred, appE, rowsOf, List.take_length, List.length_cons, List.length_nil, Nat.zero_add, srow, irow, un_s, un_i, Zone.row, Zone_eta, un_Zone, Word.row, Word_eta, Own.row, Own_eta, Part.row, Part_eta, Seen.row, Seen_eta, Book.row, Book_eta, Sector.row, Sector_eta, HCraft.row, HCraft_eta, World.row, World_eta, PKind.row, PKind_eta, PPt.row, PPt_eta, Cell.row, Cell_eta, PBase.row, PBase_eta, Chg.row, Chg_eta, Fld.row, Fld_eta, Ent.row, Ent_eta, PBook.row, PBook_eta, un_Word, un_Own, un_Part, un_Seen, un_Book, un_Sector, un_HCraft, un_World, un_PKind, un_PPt, un_Cell, un_PBase, un_Chg, un_Fld, un_Ent, un_PBook, Chg.row, Chg_eta, PBook.row, PBook_eta, bkV, List.length_map, Int.toNat_natCast, Nat.sub_zero, and_self, eq_self, not_true_eq_false, ne_eq, bne_self_eq_false, ms_Chg_len, tkZ, tkM, hlz, hn1, hn2, List.nil_append, offs_getA, offs_get, offs_setA, offs_set, ap_cons, ap_skip, ap_skip0, ap_over, ap_over0, ap_self, ap_self0, ap_new, ap_appU, KA_lo, KA_hi, KB_lo, KB_hi, KAB, KBA, offs_gone, offs_rev, dis_goneL, dis_goneR, dis_revR, KA_uniq, KB_uniq, KA_k, KA_k0, KB_k, KB_k0, KA_k', KA_k0', KB_k', KB_k0', List.cons_append, List.nil_append, List.append_assoc]
  refine ⟨_, _, .inr (.inl ⟨rfl, _, rfl, hTB, rfl, n9B⟩), ?_⟩
  simp (config := { maxSteps := 2000000, maxDischargeDepth := 8 }) only [bitvec_to_nat, reduceIte, Nat.reduceEqDiff, Nat.reduceAdd, Nat.reduceLeDiff, reduceCtorEq, Nat.reduceBEq, Nat.reduceLT, Nat.reduceMod, List.forall_mem_cons, t_szPBook, t_sNews, t_eqChgS, t_heldChgS, tk_map, dp_map, toNat_pred, appE, rowsOf, List.take_length, List.length_cons, List.length_nil, Nat.zero_add, srow, irow, un_s, un_i, Zone.row, Zone_eta, un_Zone, Word.row, Word_eta, Own.row, Own_eta, Part.row, Part_eta, Seen.row, Seen_eta, Book.row, Book_eta, Sector.row, Sector_eta, HCraft.row, HCraft_eta, World.row, World_eta, PKind.row, PKind_eta, PPt.row, PPt_eta, Cell.row, Cell_eta, PBase.row, PBase_eta, Chg.row, Chg_eta, Fld.row, Fld_eta, Ent.row, Ent_eta, PBook.row, PBook_eta, un_Word, un_Own, un_Part, un_Seen, un_Book, un_Sector, un_HCraft, un_World, un_PKind, un_PPt, un_Cell, un_PBase, un_Chg, un_Fld, un_Ent, un_PBook, Chg.row, Chg_eta, PBook.row, PBook_eta, bkV, List.length_map, Int.toNat_natCast, Nat.sub_zero, and_self, eq_self, not_true_eq_false, ne_eq, bne_self_eq_false, ms_Chg_len, tkZ, tkM, hlz, hn1, hn2, List.nil_append, offs_getA, offs_get, offs_setA, offs_set, ap_cons, ap_skip, ap_skip0, ap_over, ap_over0, ap_self, ap_self0, ap_new, ap_appU, KA_lo, KA_hi, KB_lo, KB_hi, KAB, KBA, offs_gone, offs_rev, dis_goneL, dis_goneR, dis_revR, KA_uniq, KB_uniq, KA_k, KA_k0, KB_k, KB_k0, KA_k', KA_k0', KB_k', KB_k0', List.cons_append, List.nil_append, List.append_assoc]
  refine ⟨_, _, .inr (.inl ⟨rfl, _, rfl, hI1, rfl, by simp [No99, No99LL]⟩), ?_⟩
  simp (config := { maxSteps := 2000000, maxDischargeDepth := 8 }) only [bitvec_to_nat, reduceIte, Nat.reduceEqDiff, Nat.reduceAdd, Nat.reduceLeDiff, reduceCtorEq, Nat.reduceBEq, Nat.reduceLT, Nat.reduceMod, List.forall_mem_cons, t_szPBook, t_sNews, t_eqChgS, t_heldChgS, tk_map, dp_map, toNat_pred, appE, rowsOf, List.take_length, List.length_cons, List.length_nil, Nat.zero_add, srow, irow, un_s, un_i, Zone.row, Zone_eta, un_Zone, Word.row, Word_eta, Own.row, Own_eta, Part.row, Part_eta, Seen.row, Seen_eta, Book.row, Book_eta, Sector.row, Sector_eta, HCraft.row, HCraft_eta, World.row, World_eta, PKind.row, PKind_eta, PPt.row, PPt_eta, Cell.row, Cell_eta, PBase.row, PBase_eta, Chg.row, Chg_eta, Fld.row, Fld_eta, Ent.row, Ent_eta, PBook.row, PBook_eta, un_Word, un_Own, un_Part, un_Seen, un_Book, un_Sector, un_HCraft, un_World, un_PKind, un_PPt, un_Cell, un_PBase, un_Chg, un_Fld, un_Ent, un_PBook, Chg.row, Chg_eta, PBook.row, PBook_eta, bkV, List.length_map, Int.toNat_natCast, Nat.sub_zero, and_self, eq_self, not_true_eq_false, ne_eq, bne_self_eq_false, ms_Chg_len, tkZ, tkM, hlz, hn1, hn2, List.nil_append, offs_getA, offs_get, offs_setA, offs_set, ap_cons, ap_skip, ap_skip0, ap_over, ap_over0, ap_self, ap_self0, ap_new, ap_appU, KA_lo, KA_hi, KB_lo, KB_hi, KAB, KBA, offs_gone, offs_rev, dis_goneL, dis_goneR, dis_revR, KA_uniq, KB_uniq, KA_k, KA_k0, KB_k, KB_k0, KA_k', KA_k0', KB_k', KB_k0', List.cons_append, List.nil_append, List.append_assoc]
  refine ⟨⟨rfl, by omega, by omega⟩, fun h => by omega, fun _ h => by omega⟩

theorem c_FnExactPlanNews (a b : PBook) (hfa : a.fitp) (hfb : b.fitp) : Contract P 6 [.agg (a.row 1), .agg (b.row 1)] [] (.bool true) [] := by
  by_cases hv : newsOk a b
  · exact c_lawNY a b hfa hfb hv
  · exact c_lawNN a b hfa hfb hv
end
end Go.Ve

