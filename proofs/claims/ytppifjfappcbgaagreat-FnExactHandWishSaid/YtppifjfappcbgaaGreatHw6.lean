/- Part 6 of the proof: laws and contracts of functions, each proved; they are joined in the last part. No conditions beyond those that the theorems state. -/
import Derived.Test.YtppifjfappcbgaaGreatProg
import Derived.Test.YtppifjfappcbgaaGreatHw5
set_option linter.all false
namespace Go.Ve
noncomputable section
open Go.Proofs
set_option maxRecDepth 100000
open Go.ChangeShapes Go.WideShapes
theorem Qrd (zs : List Zone) (me fl : ByteArray) (tu : List Box6) (b : Book) (hb : b.small) (hz : zs.length ≤ 1048576) (htu : tu.length ≤ 1048576) (h0 : ¬ QjD zs me b) : Contract P 26 [.sl 0 5 (zs.map Zone.row), .str me, .agg (b.row 0), .str fl, .sl 0 6 (tu.map Box6.row)] [] (.tup [.agg [.sl 98 11 [], .sl 98 3 [], .sl 98 2 []], .sl 98 8 [], .int .i64 1]) [] := by
  have hc : True := trivial
  have apK : True := trivial
  have apK2 : True := trivial
  have sB1 : True := trivial
  have sB2 : True := trivial
  have sA1 : True := trivial
  have sA2 : True := trivial
  have sA3 : True := trivial
  have sA4 : True := trivial
  simp only [Book.row]
  refine Qh ((Env.nil P).add 45 Yg QhH) hm Za (nlb rfl) rfl ?_; unfold Gi; simp (maxSteps := 2000000) only [bitvec_to_nat, reduceIte, Nat.reduceEqDiff, Nat.reduceAdd, Nat.reduceLeDiff, reduceCtorEq, Nat.reduceBEq, Nat.reduceLT, Nat.reduceMod, fmc, Qf, Qm, Qe, QE, keepB, Qn, QJ, Yg, int_toBitVec_meta, method_specs_simp, bkV, Nat.sub_zero, List.append_nil, h0, hc, decide_true, decide_false, JX, Wj, apK, apK2, sA1, sA2, sA3, sA4, sB1, sB2, List.cons_append, List.nil_append]
  exact ⟨hb, by omega⟩
set_option maxHeartbeats 4000000 in
theorem Qre (zs : List Zone) (me fl : ByteArray) (tu : List Box6) (b : Book) (hb : b.small) (hz : zs.length ≤ 1048576) (htu : tu.length ≤ 1048576) (h0 : QjD zs me b) (hc : wiC zs b fl tu ≠ 0) : Contract P 26 [.sl 0 5 (zs.map Zone.row), .str me, .agg (b.row 0), .str fl, .sl 0 6 (tu.map Box6.row)] [] (.tup [bkV b 131 b.own.length 149 b.parts.length 154 0, .sl 98 8 [], .int .i64 (wiC zs b fl tu)]) (bkM b 131 b.own.length 149 b.parts.length 154 0 110 121) := by
  have bkO : ∀ q, q < 1000 → q ≠ 131 → q ≠ 149 → q ≠ 154 → W4 (bkM b 131 b.own.length 149 b.parts.length 154 0 110 121) q := fun q h1 h2 h3 h4 p hp e => by have := KQ (by omega) (by omega) hp; omega
  have bkU : ZW (bkM b 131 b.own.length 149 b.parts.length 154 0 110 121) := UG (by omega) (by omega) (by omega) (by omega) (by omega) (by omega) (by omega) (by omega) (by omega)
  have sB1 : True := trivial
  have sB2 : True := trivial
  have apK : ∀ x y : AObj, Q1 [(107, x), (110, y)] (bkM b 131 b.own.length 149 b.parts.length 154 0 110 121).reverse = (107, x) :: (110, y) :: bkM b 131 b.own.length 149 b.parts.length 154 0 110 121 := fun x y => by
    rw [aU (YV (QV (bkO _ (by omega) (by omega) (by omega) (by omega)) (QV (bkO _ (by omega) (by omega) (by omega) (by omega)) K7))) (QcW bkU), List.reverse_reverse]; rfl
  have sA1 : getM (bkM b 131 b.own.length 149 b.parts.length 154 0 110 121) 113 = none := QZ (bkO _ (by omega) (by omega) (by omega) (by omega))
  have sA2 : ∀ x : AObj, Kj (bkM b 131 b.own.length 149 b.parts.length 154 0 110 121) 113 x = bkM b 131 b.own.length 149 b.parts.length 154 0 110 121 ++ [(113, x)] := fun x => J4 (bkO _ (by omega) (by omega) (by omega) (by omega))
  have sA3 : ∀ x : AObj, getM (bkM b 131 b.own.length 149 b.parts.length 154 0 110 121 ++ [(113, x)]) 113 = some x := fun x => by rw [QL sA1]; rfl
  have sA4 : ∀ x y : AObj, Kj (bkM b 131 b.own.length 149 b.parts.length 154 0 110 121 ++ [(113, x)]) 113 y = bkM b 131 b.own.length 149 b.parts.length 154 0 110 121 ++ [(113, y)] := fun x y => by rw [Gc sA1]; rfl
  have apK2 : ∀ x y z : AObj, Q1 ((107, x) :: (110, y) :: (bkM b 131 b.own.length 149 b.parts.length 154 0 110 121 ++ [(113, z)])) (bkM b 131 b.own.length 149 b.parts.length 154 0 110 121) = (107, x) :: (110, y) :: (bkM b 131 b.own.length 149 b.parts.length 154 0 110 121 ++ [(113, z)]) := fun x y z => by
    rw [JX (bkO _ (by omega) (by omega) (by omega) (by omega)), JX (bkO _ (by omega) (by omega) (by omega) (by omega)), QaW bkU]
  have rf : (((113, .box [.own 131 b.own.length 0 b.own.length, .own 149 b.parts.length 0 b.parts.length, .own 154 0 0 b.seen.length]) :: bkM b 131 b.own.length 149 b.parts.length 154 0 110 121).all fun p => Qd (dom ((113, .box [.own 131 b.own.length 0 b.own.length, .own 149 b.parts.length 0 b.parts.length, .own 154 0 0 b.seen.length]) :: bkM b 131 b.own.length 149 b.parts.length 154 0 110 121)) p.2) = true := by
    rw [List.all_cons, Bool.and_eq_true]
    exact ⟨Vm (b := b) fun p h => List.mem_cons_of_mem _ (JI h), Vl fun p h => List.mem_cons_of_mem _ (JI h)⟩
  have hB := (QiQ b hb).post_eq (post' := (bkM b 131 b.own.length 149 b.parts.length 154 0 110 121).reverse) (funext fun o => ZE bkU o)
  simp only [Book.row] at hB ⊢
  refine Qh ((Env.nil P).add 45 Yg QhH) hm Za (nlb rfl) rfl ?_; unfold Gi; simp (maxSteps := 2000000) only [bitvec_to_nat, reduceIte, Nat.reduceEqDiff, Nat.reduceAdd, Nat.reduceLeDiff, reduceCtorEq, Nat.reduceBEq, Nat.reduceLT, Nat.reduceMod, fmc, Qf, Qm, Qe, QE, keepB, Qn, QJ, Yg, int_toBitVec_meta, method_specs_simp, bkV, Nat.sub_zero, List.append_nil, h0, hc, decide_true, decide_false, JX, Wj, apK, apK2, sA1, sA2, sA3, sA4, sB1, sB2, List.cons_append, List.nil_append]
  refine ⟨⟨hb, by omega⟩, _, _, .inr (.inr (.inl ⟨_, rfl, hB, YV (QV (bkO _ (by omega) (by omega) (by omega) (by omega)) (QV (bkO _ (by omega) (by omega) (by omega) (by omega)) K7)), QbT, Qae, by simp [bkV, No99, JT], fun p hp => Qpr p (List.mem_reverse.1 hp)⟩)), ?_⟩
  simp (maxSteps := 2000000) only [bitvec_to_nat, reduceIte, Nat.reduceEqDiff, Nat.reduceAdd, Nat.reduceLeDiff, reduceCtorEq, Nat.reduceBEq, Nat.reduceLT, Nat.reduceMod, fmc, Qf, Qm, Qe, QE, keepB, Qn, QJ, Yg, int_toBitVec_meta, method_specs_simp, bkV, Nat.sub_zero, List.append_nil, h0, hc, decide_true, decide_false, JX, Wj, apK, apK2, sA1, sA2, sA3, sA4, sB1, sB2, List.cons_append, List.nil_append]
  have dm : dom ((113, .box [.own 131 b.own.length 0 b.own.length, .own 149 b.parts.length 0 b.parts.length, .own 154 0 0 b.seen.length]) :: bkM b 131 b.own.length 149 b.parts.length 154 0 110 121) = dom ((113, .box [.own 131 b.own.length 0 b.own.length, .own 149 b.parts.length 0 b.parts.length, .own 154 0 0 b.seen.length]) :: bkM b 131 b.own.length 149 b.parts.length 154 0 110 121) := rfl
  have gk : ∀ x y : AObj, ∀ p ∈ (113, .box [.own 131 b.own.length 0 b.own.length, .own 149 b.parts.length 0 b.parts.length, .own 154 0 0 b.seen.length]) :: bkM b 131 b.own.length 149 b.parts.length 154 0 110 121, getM ((107, x) :: (110, y) :: (bkM b 131 b.own.length 149 b.parts.length 154 0 110 121 ++ [(113, .box [.own 131 b.own.length 0 b.own.length, .own 149 b.parts.length 0 b.parts.length, .own 154 0 0 b.seen.length])])) p.1 = some p.2 := fun x y p hp => by
    rcases List.mem_cons.1 hp with rfl | hp
    · simp only [getM, Nat.reduceEqDiff, if_false]; exact sA3 _
    · exact Qw (bkO _ (by omega) (by omega) (by omega) (by omega)) (Qw (bkO _ (by omega) (by omega) (by omega) (by omega)) (JN bkU)) p hp
  refine ⟨_, _, Kr (Qrb zs me fl tu b hb hz htu hc) rfl (gk _ _) ?_ ?_ rfl ?_, ?_⟩
  · simp [Qb, Qc, dom]
  · exact rf
  · exact rf
  simp (maxSteps := 2000000) only [bitvec_to_nat, reduceIte, Nat.reduceEqDiff, Nat.reduceAdd, Nat.reduceLeDiff, reduceCtorEq, Nat.reduceBEq, Nat.reduceLT, Nat.reduceMod, fmc, Qf, Qm, Qe, QE, keepB, Qn, QJ, Yg, int_toBitVec_meta, method_specs_simp, bkV, Nat.sub_zero, List.append_nil, h0, hc, decide_true, decide_false, JX, Wj, apK, apK2, sA1, sA2, sA3, sA4, sB1, sB2, List.cons_append, List.nil_append]
  refine ⟨Jl (Qw (bkO _ (by omega) (by omega) (by omega) (by omega)) (Qw (bkO _ (by omega) (by omega) (by omega) (by omega)) (JN bkU))), UH, ?_, ?_⟩
  · have r := Qbv (b := b) (a := 131) (va := b.own.length) (c := 149) (vc := b.parts.length) (d := 154) (vd := 0) (kO := 110) (kP := 121)
    simpa only [bkV, dom, Qc, Qb, Bool.and_true] using r
  · rw [Bool.true_or, Bool.true_or, Bool.true_and, Bool.true_and, List.all_eq_true]
    intro o ho
    obtain ⟨p, hp, rfl⟩ := List.mem_map.1 ho
    rw [Bool.or_eq_true]
    refine .inl ?_
    rw [decide_eq_true_eq]
    rcases List.mem_append.1 hp with hp | hp
    · have := KQ (by omega) (by omega) hp; omega
    · rw [List.mem_singleton.1 hp]; omega
def Quj (b : Book) (i : Nat) (tu : List Box6) (o : Own) (l : List VW) : List (Nat × AObj) := (131, .arr (1000000 + 71) b.own.length 11 ((Ja (Own.row 0) 110 0 b.own).set i (Vv tu o 110 i 104))) :: ((Q2 JE (Own.row 0) 110 0 b.own ++ (X2 149 b.parts.length 121 b.parts ++ Qfl 154 0 b.seen)).filter (fun p => p.1 != fam 118 i && p.1 != fam 119 i) ++ (Jk 120 l.length 150 0 l ++ [(104, .arr 100 0 6 (tu.map Box6.row))]))
set_option maxHeartbeats 4000000 in
theorem Qrf (zs : List Zone) (me fl : ByteArray) (tu : List Box6) (b : Book) (hb : b.small) (hz : zs.length ≤ 1048576) (htu : tu.length ≤ 1048576) (h0 : QjD zs me b) (hc : wiC zs b fl tu = 0) (hla : 0 ≤ (oG b fl).la) : Contract P 26 [.sl 0 5 (zs.map Zone.row), .str me, .agg (b.row 0), .str fl, .sl 0 6 (tu.map Box6.row)] [] (.tup [bkV b 131 b.own.length 149 b.parts.length 154 0, .own 120 (Yp zs me (wiO tu (oG b fl)) zs.length).length 0 (Yp zs me (wiO tu (oG b fl)) zs.length).length, .int .i64 0]) (Quj b (oI b fl) tu (oG b fl) (Yp zs me (wiO tu (oG b fl)) zs.length)) := by
  have bkO : ∀ q, q < 1000 → q ≠ 131 → q ≠ 149 → q ≠ 154 → W4 (bkM b 131 b.own.length 149 b.parts.length 154 0 110 121) q := fun q h1 h2 h3 h4 p hp e => by have := KQ (by omega) (by omega) hp; omega
  have bkU : ZW (bkM b 131 b.own.length 149 b.parts.length 154 0 110 121) := UG (by omega) (by omega) (by omega) (by omega) (by omega) (by omega) (by omega) (by omega) (by omega)
  have sB1 : True := trivial
  have sB2 : True := trivial
  have apK : ∀ x y : AObj, Q1 [(107, x), (110, y)] (bkM b 131 b.own.length 149 b.parts.length 154 0 110 121).reverse = (107, x) :: (110, y) :: bkM b 131 b.own.length 149 b.parts.length 154 0 110 121 := fun x y => by
    rw [aU (YV (QV (bkO _ (by omega) (by omega) (by omega) (by omega)) (QV (bkO _ (by omega) (by omega) (by omega) (by omega)) K7))) (QcW bkU), List.reverse_reverse]; rfl
  have sA1 : getM (bkM b 131 b.own.length 149 b.parts.length 154 0 110 121) 113 = none := QZ (bkO _ (by omega) (by omega) (by omega) (by omega))
  have sA2 : ∀ x : AObj, Kj (bkM b 131 b.own.length 149 b.parts.length 154 0 110 121) 113 x = bkM b 131 b.own.length 149 b.parts.length 154 0 110 121 ++ [(113, x)] := fun x => J4 (bkO _ (by omega) (by omega) (by omega) (by omega))
  have sA3 : ∀ x : AObj, getM (bkM b 131 b.own.length 149 b.parts.length 154 0 110 121 ++ [(113, x)]) 113 = some x := fun x => by rw [QL sA1]; rfl
  have sA4 : ∀ x y : AObj, Kj (bkM b 131 b.own.length 149 b.parts.length 154 0 110 121 ++ [(113, x)]) 113 y = bkM b 131 b.own.length 149 b.parts.length 154 0 110 121 ++ [(113, y)] := fun x y => by rw [Gc sA1]; rfl
  have apK9 : ∀ x y z : AObj, Q1 ((107, x) :: (110, y) :: (bkM b 131 b.own.length 149 b.parts.length 154 0 110 121 ++ [(113, z)])) (bkM b 131 b.own.length 149 b.parts.length 154 0 110 121) = (107, x) :: (110, y) :: (bkM b 131 b.own.length 149 b.parts.length 154 0 110 121 ++ [(113, z)]) := fun x y z => by
    rw [JX (bkO _ (by omega) (by omega) (by omega) (by omega)), JX (bkO _ (by omega) (by omega) (by omega) (by omega)), QaW bkU]
  have rf : (((113, .box [.own 131 b.own.length 0 b.own.length, .own 149 b.parts.length 0 b.parts.length, .own 154 0 0 b.seen.length]) :: bkM b 131 b.own.length 149 b.parts.length 154 0 110 121).all fun p => Qd (dom ((113, .box [.own 131 b.own.length 0 b.own.length, .own 149 b.parts.length 0 b.parts.length, .own 154 0 0 b.seen.length]) :: bkM b 131 b.own.length 149 b.parts.length 154 0 110 121)) p.2) = true := by
    rw [List.all_cons, Bool.and_eq_true]
    exact ⟨Vm (b := b) fun p h => List.mem_cons_of_mem _ (JI h), Vl fun p h => List.mem_cons_of_mem _ (JI h)⟩
  have hY := Qrc zs me fl tu b hb hz htu h0.1.1 hc hla
  generalize hLg : Yp zs me (wiO tu (oG b fl)) zs.length = l at hY ⊢
  have hi : oI b fl < b.own.length := (QhQ (l := b.own) (s := fl) (by have := (QtX hc).2.1; omega)).1
  generalize oG b fl = o at hY ⊢
  generalize oI b fl = I at hY hi ⊢
  have hWn : ∀ p ∈ Jk 120 l.length 150 0 l, p.1 = 120 ∨ (1000 ≤ p.1 ∧ 150 ≤ p.1 % 1000) := fun p hp => by have := KZ Jb (by omega) hp; omega
  have hWu : ZW (Jk 120 l.length 150 0 l) := Kt (by omega) (by omega)
  obtain ⟨R, hR⟩ : ∃ R, R = Q2 JE (Own.row 0) 110 0 b.own ++ (X2 149 b.parts.length 121 b.parts ++ Qfl 154 0 b.seen) := ⟨_, rfl⟩
  have hR0 : bkM b 131 b.own.length 149 b.parts.length 154 0 110 121 = (131, .arr (1000000 + 71) b.own.length 11 (Ja (Own.row 0) 110 0 b.own)) :: R := by rw [hR]; rfl
  have hM0 : wiM b 131 b.own.length 149 b.parts.length 154 0 110 121 I 104 tu o 120 l = (131, .arr (1000000 + 71) b.own.length 11 ((Ja (Own.row 0) 110 0 b.own).set I (Vv tu o 110 I 104))) :: (R ++ ((104, .arr 100 0 6 (tu.map Box6.row)) :: (Jk 120 l.length 150 0 l).reverse)) := by rw [hR]; rfl
  have hP0 : Quj b I tu o l = (131, .arr (1000000 + 71) b.own.length 11 ((Ja (Own.row 0) 110 0 b.own).set I (Vv tu o 110 I 104))) :: (R.filter (fun p => p.1 != fam 118 I && p.1 != fam 119 I) ++ (Jk 120 l.length 150 0 l ++ [(104, .arr 100 0 6 (tu.map Box6.row))])) := by rw [hR]; rfl
  have hRu : ZW ((131, AObj.arr (1000000 + 71) b.own.length 11 (Ja (Own.row 0) 110 0 b.own)) :: R) := hR0 ▸ bkU
  have hRn : ∀ p ∈ R, p.1 ≠ 131 ∧ p.1 ≠ 107 ∧ p.1 ≠ 110 ∧ p.1 ≠ 113 ∧ p.1 ≠ 104 ∧ p.1 ≠ 120 ∧ 100 ≤ p.1 % 1000 ∧ (p.1 < 1000 ∨ p.1 % 1000 < 124) := fun p hp => by
    have q1 := KQ (by omega) (by omega) (hR0 ▸ List.mem_cons_of_mem _ hp : p ∈ bkM b 131 b.own.length 149 b.parts.length 154 0 110 121)
    have q2 := (List.pairwise_cons.1 hRu).1 p hp
    simp only at q2
    omega
  have hRg : ∀ p ∈ R, getM R p.1 = some p.2 := QI (List.pairwise_cons.1 hRu).2
  generalize hA' : (Ja (Own.row 0) 110 0 b.own).set I (Vv tu o 110 I 104) = rows' at hM0 hP0
  have uT : ZW ((104, AObj.arr 100 0 6 (tu.map Box6.row)) :: (Jk 120 l.length 150 0 l).reverse) := List.pairwise_cons.2 ⟨fun p hp e => by have := hWn p (List.mem_reverse.1 hp); simp only at e; omega, QcW hWu⟩
  have hTn : ∀ p ∈ (104, AObj.arr 100 0 6 (tu.map Box6.row)) :: (Jk 120 l.length 150 0 l).reverse, p.1 = 104 ∨ p.1 = 120 ∨ (1000 ≤ p.1 ∧ 150 ≤ p.1 % 1000) := fun p hp => by
    rcases List.mem_cons.1 hp with rfl | hp
    · exact .inl rfl
    · exact .inr (hWn p (List.mem_reverse.1 hp))
  have fT : ∀ x y z : AObj, ∀ p ∈ (104, AObj.arr 100 0 6 (tu.map Box6.row)) :: (Jk 120 l.length 150 0 l).reverse, getM ((107, x) :: (110, y) :: (bkM b 131 b.own.length 149 b.parts.length 154 0 110 121 ++ [(113, z)])) p.1 = none := fun x y z p hp => by
    have e := hTn p hp
    simp only [getM]
    rw [if_neg (by omega), if_neg (by omega), QL (QZ fun q hq e' => by
      have := KQ (by omega) (by omega) hq; omega)]
    simp only [getM]
    rw [if_neg (by omega)]
  have apK2 : ∀ x y z : AObj, Q1 ((107, x) :: (110, y) :: (bkM b 131 b.own.length 149 b.parts.length 154 0 110 121 ++ [(113, z)])) (R ++ ((104, .arr 100 0 6 (tu.map Box6.row)) :: (Jk 120 l.length 150 0 l).reverse)) = (107, x) :: (110, y) :: (bkM b 131 b.own.length 149 b.parts.length 154 0 110 121 ++ (113, z) :: (Jk 120 l.length 150 0 l ++ [(104, .arr 100 0 6 (tu.map Box6.row))])) := fun x y z => by
    rw [X5, aU (fT x y z) uT]
    have e : ((107, x) :: (110, y) :: (bkM b 131 b.own.length 149 b.parts.length 154 0 110 121 ++ [(113, z)])) ++ ((104, AObj.arr 100 0 6 (tu.map Box6.row)) :: (Jk 120 l.length 150 0 l).reverse).reverse = (107, x) :: (110, y) :: (bkM b 131 b.own.length 149 b.parts.length 154 0 110 121 ++ (113, z) :: (Jk 120 l.length 150 0 l ++ [(104, .arr 100 0 6 (tu.map Box6.row))])) := by simp
    rw [e]
    refine Qle fun p hp => ?_
    have q := hRn p hp
    simp only [getM]
    rw [if_neg (by omega), if_neg (by omega), hR0]
    simp only [List.cons_append, getM]
    rw [if_neg (by omega)]
    exact JA (hRg p hp)
  have hB := (QiQ b hb).post_eq (post' := (bkM b 131 b.own.length 149 b.parts.length 154 0 110 121).reverse) (funext fun o => ZE bkU o)
  simp only [Book.row] at hB ⊢
  refine Qh ((Env.nil P).add 45 Yg QhH) hm Za (nlb rfl) rfl ?_; unfold Gi; simp (maxSteps := 2000000) (maxDischargeDepth := 8) only [bitvec_to_nat, reduceIte, Nat.reduceEqDiff, Nat.reduceAdd, Nat.reduceLeDiff, reduceCtorEq, Nat.reduceBEq, Nat.reduceLT, Nat.reduceMod, fmc, Qf, Qm, Qe, QE, keepB, Qn, QJ, Yg, int_toBitVec_meta, method_specs_simp, bkV, Nat.sub_zero, List.append_nil, h0, hc, decide_true, decide_false, JX, Wj, apK, apK2, sA1, sA2, sA3, sA4, sB1, sB2, List.cons_append, List.nil_append]
  refine ⟨⟨hb, by omega⟩, _, _, .inr (.inr (.inl ⟨_, rfl, hB, YV (QV (bkO _ (by omega) (by omega) (by omega) (by omega)) (QV (bkO _ (by omega) (by omega) (by omega) (by omega)) K7)), QbT, Qae, by simp [bkV, No99, JT], fun p hp => Qpr p (List.mem_reverse.1 hp)⟩)), ?_⟩
  simp (maxSteps := 2000000) (maxDischargeDepth := 8) only [bitvec_to_nat, reduceIte, Nat.reduceEqDiff, Nat.reduceAdd, Nat.reduceLeDiff, reduceCtorEq, Nat.reduceBEq, Nat.reduceLT, Nat.reduceMod, fmc, Qf, Qm, Qe, QE, keepB, Qn, QJ, Yg, int_toBitVec_meta, method_specs_simp, bkV, Nat.sub_zero, List.append_nil, h0, hc, decide_true, decide_false, JX, Wj, apK, apK2, sA1, sA2, sA3, sA4, sB1, sB2, List.cons_append, List.nil_append]
  have hrow : ∀ D : List Nat, (∀ p ∈ R, p.1 ≠ fam 118 I → p.1 ≠ fam 119 I → p.1 ∈ D) → 104 ∈ D → rows'.all (Qb D) = true := fun D hD h4 => by
    rw [← hA', List.all_eq_true]
    intro r hr
    obtain ⟨j, hj, rfl⟩ := List.getElem_of_mem hr
    have hj' : j < b.own.length := by simpa [QN] using hj
    by_cases e : j = I
    · subst e
      rw [List.getElem_set_self]
      have q16 : fam (110 + 6) j ∈ D := hD (fam (110 + 6) j, .arr 100 0 6 ((b.own.getD j default).tu.map Box6.row)) (by
        rw [hR]; exact List.mem_append_left _ (JB.2 ⟨j, 6, 0, 6, _, hj', rfl, by rw [Nat.zero_add]; rfl⟩)) (by unfold fam; simp only; omega) (by unfold fam; simp only; omega)
      simp only [Vv, Qb, Qc, Bool.and_true, Bool.true_and, Bool.and_eq_true]
      exact ⟨List.contains_iff_mem.2 q16, List.contains_iff_mem.2 h4⟩
    · rw [List.getElem_set_ne (Ne.symm e)]
      have e2 : (Ja (Own.row 0) 110 0 b.own)[j]'(by simpa using hj) = UL 110 (0 + j) 0 (Own.row 0 (b.own.getD j default)) := by simp [Ja, hj']
      rw [e2]
      refine QgW (QX.sim _) fun j' v sz xs hx => ?_
      have hlt := Qb5 hx
      rw [QX.len] at hlt
      refine hD (fam (110 + (0 + j')) (0 + j), .arr (JE j') v sz xs) (by
        rw [hR]; exact List.mem_append_left _ (JB.2 ⟨j, j', v, sz, xs, hj', hx, by rw [Nat.zero_add j']⟩)) ?_ ?_
      · unfold fam; simp only; omega
      · unfold fam; simp only; omega
  have hRall : ∀ D : List Nat, (∀ p ∈ R, p.1 ≠ fam 118 I → p.1 ≠ fam 119 I → p.1 ∈ D) → (R.all fun p => Qd D p.2) = true := fun D hD => by
    rw [hR] at hD ⊢
    rw [List.all_append, List.all_append, Bool.and_eq_true, Bool.and_eq_true]
    refine ⟨QbJ YH, YW QR Kn fun p hp => ?_, rfl⟩
    have hp' := List.mem_cons_of_mem (149, AObj.arr (1000000 + 124) b.parts.length 3 (Ja (Part.row 0) 121 0 b.parts)) hp
    have := KZ (o := 149) (e := 124) (v := b.parts.length) (sz := 3) QR (by omega) hp'
    refine hD p (List.mem_append_right _ (List.mem_append_left _ hp')) ?_ ?_
    · unfold fam; omega
    · unfold fam; omega
  rw [hM0] at hY
  simp only [hP0]
  have g113 : getM R 113 = none := QZ fun p hp => (hRn p hp).2.2.2.1
  have sB2 : ∀ (x y z : AObj) (Z : List (Nat × AObj)), Kj (Kj (bkM b 131 b.own.length 149 b.parts.length 154 0 110 121 ++ (113, x) :: Z) 131 y) 113 z = (131, y) :: (R ++ (113, z) :: Z) := fun x y z Z => by
    rw [hR0]
    simp only [List.cons_append, Kj, reduceIte, Nat.reduceEqDiff]
    rw [Gc g113]
    simp only [Kj, reduceIte]
  have sB1 : ∀ (y z : AObj) (Z : List (Nat × AObj)), getM ((131, y) :: (R ++ (113, z) :: Z)) 113 = some z := fun y z Z => by
    simp only [getM, Nat.reduceEqDiff, if_false]
    rw [QL g113]; simp only [getM, if_true]
  have gk : ∀ x y : AObj, ∀ p ∈ (113, .box [.own 131 b.own.length 0 b.own.length, .own 149 b.parts.length 0 b.parts.length, .own 154 0 0 b.seen.length]) :: bkM b 131 b.own.length 149 b.parts.length 154 0 110 121, getM ((107, x) :: (110, y) :: (bkM b 131 b.own.length 149 b.parts.length 154 0 110 121 ++ [(113, .box [.own 131 b.own.length 0 b.own.length, .own 149 b.parts.length 0 b.parts.length, .own 154 0 0 b.seen.length])])) p.1 = some p.2 := fun x y p hp => by
    rcases List.mem_cons.1 hp with rfl | hp
    · simp only [getM, Nat.reduceEqDiff, if_false]; exact sA3 _
    · exact Qw (bkO _ (by omega) (by omega) (by omega) (by omega)) (Qw (bkO _ (by omega) (by omega) (by omega) (by omega)) (JN bkU)) p hp
  generalize hT : (104, AObj.arr 100 0 6 (tu.map Box6.row)) :: (Jk 120 l.length 150 0 l).reverse = T at hY uT hTn fT apK2
  have hTm : ∀ p ∈ T, p.1 ∈ dom ((113, .box [.own 131 b.own.length 0 b.own.length, .own 149 b.parts.length 0 b.parts.length, .own 154 0 0 b.seen.length]) :: (131, AObj.arr (1000000 + 71) b.own.length 11 rows') :: (R ++ T)) := fun p hp => List.mem_cons_of_mem _ (List.mem_cons_of_mem _ (JI (List.mem_append_right _ hp)))
  have hRm : ∀ p ∈ R, p.1 ∈ dom ((113, .box [.own 131 b.own.length 0 b.own.length, .own 149 b.parts.length 0 b.parts.length, .own 154 0 0 b.seen.length]) :: (131, AObj.arr (1000000 + 71) b.own.length 11 rows') :: (R ++ T)) := fun p hp => List.mem_cons_of_mem _ (List.mem_cons_of_mem _ (JI (List.mem_append_left _ hp)))
  have m104 : 104 ∈ dom T := by rw [← hT]; exact List.mem_cons_self ..
  have m120 : 120 ∈ dom T := by rw [← hT]; exact List.mem_cons_of_mem _ (JI (List.mem_reverse.2 (List.mem_cons_self (a := (120, AObj.arr (1000000 + 73) l.length 8 (Ja VW.rowO 150 0 l))) ..)))
  have dT : ∀ q, q ∈ dom T → q ∈ dom ((113, .box [.own 131 b.own.length 0 b.own.length, .own 149 b.parts.length 0 b.parts.length, .own 154 0 0 b.seen.length]) :: (131, AObj.arr (1000000 + 71) b.own.length 11 rows') :: (R ++ T)) := fun q hq => by
    obtain ⟨p, hp, rfl⟩ := List.mem_map.1 hq; exact hTm p hp
  have m149 : 149 ∈ dom R := by rw [hR]; exact JI (List.mem_append_right _ (List.mem_append_left _ (List.mem_cons_self (a := (149, AObj.arr (1000000 + 124) b.parts.length 3 (Ja (Part.row 0) 121 0 b.parts))) ..)))
  have m154 : 154 ∈ dom R := by rw [hR]; exact JI (List.mem_append_right _ (List.mem_append_right _ (List.mem_cons_self ..)))
  have dR : ∀ q, q ∈ dom R → q ∈ dom ((113, .box [.own 131 b.own.length 0 b.own.length, .own 149 b.parts.length 0 b.parts.length, .own 154 0 0 b.seen.length]) :: (131, AObj.arr (1000000 + 71) b.own.length 11 rows') :: (R ++ T)) := fun q hq => by
    obtain ⟨p, hp, rfl⟩ := List.mem_map.1 hq; exact hRm p hp
  have hTall : ∀ D : List Nat, (∀ p ∈ T, p.1 ∈ D) → (T.all fun p => Qd D p.2) = true := fun D hD => by
    rw [← hT] at hD ⊢
    rw [List.all_cons, List.all_reverse, Bool.and_eq_true]
    exact ⟨rfl, YW Jb JM fun p hp => hD p (List.mem_cons_of_mem _ (List.mem_reverse.2 (List.mem_cons_of_mem _ hp)))⟩
  have rf2 : (((113, .box [.own 131 b.own.length 0 b.own.length, .own 149 b.parts.length 0 b.parts.length, .own 154 0 0 b.seen.length]) :: (131, AObj.arr (1000000 + 71) b.own.length 11 rows') :: (R ++ T)).all fun p => Qd (dom ((113, .box [.own 131 b.own.length 0 b.own.length, .own 149 b.parts.length 0 b.parts.length, .own 154 0 0 b.seen.length]) :: (131, AObj.arr (1000000 + 71) b.own.length 11 rows') :: (R ++ T))) p.2) = true := by
    have q131 : 131 ∈ dom ((113, .box [.own 131 b.own.length 0 b.own.length, .own 149 b.parts.length 0 b.parts.length, .own 154 0 0 b.seen.length]) :: (131, AObj.arr (1000000 + 71) b.own.length 11 rows') :: (R ++ T)) := List.mem_cons_of_mem _ (List.mem_cons_self ..)
    have q149 := dR _ m149
    have q154 := dR _ m154
    have q104 := dT _ m104
    generalize dom ((113, .box [.own 131 b.own.length 0 b.own.length, .own 149 b.parts.length 0 b.parts.length, .own 154 0 0 b.seen.length]) :: (131, AObj.arr (1000000 + 71) b.own.length 11 rows') :: (R ++ T)) = D at *
    rw [List.all_cons, List.all_cons, List.all_append, Bool.and_eq_true, Bool.and_eq_true, Bool.and_eq_true]
    refine ⟨?_, ?_, hRall D fun p hp _ _ => hRm p hp, hTall D hTm⟩
    · simp only [Qd, Qb, Qc, Bool.and_true, Bool.and_eq_true]
      exact ⟨List.contains_iff_mem.2 q131, List.contains_iff_mem.2 q149, List.contains_iff_mem.2 q154⟩
    · simp only [Qd]; rw [if_neg (by omega)]; exact hrow D (fun p hp _ _ => hRm p hp) q104
  refine ⟨_, _, .inl ⟨_, hY, gk _ _, fun p hp => ?_, ?_, ?_, rf, ?_, rf2⟩, ?_⟩
  · rcases List.mem_cons.1 hp with rfl | hp
    · exact .inl rfl
    rcases List.mem_cons.1 hp with rfl | hp
    · exact .inl (List.contains_iff_mem.2 (List.mem_cons_of_mem _ (by show 131 ∈ dom (bkM b 131 b.own.length 149 b.parts.length 154 0 110 121); rw [hR0]; exact List.mem_cons_self ..)))
    rcases List.mem_append.1 hp with hp | hp
    · exact .inl (List.contains_iff_mem.2 (List.mem_cons_of_mem _ (by show p.1 ∈ dom (bkM b 131 b.own.length 149 b.parts.length 154 0 110 121); rw [hR0]; exact List.mem_cons_of_mem _ (JI hp))))
    · exact .inr (fT _ _ _ p hp)
  · rw [List.all_eq_true]
    intro o' ho
    refine List.contains_iff_mem.2 ?_
    rcases List.mem_cons.1 ho with rfl | ho
    · exact List.mem_cons_self ..
    · change o' ∈ dom (bkM b 131 b.own.length 149 b.parts.length 154 0 110 121) at ho
      rw [hR0] at ho
      rcases List.mem_cons.1 ho with rfl | ho
      · exact List.mem_cons_of_mem _ (List.mem_cons_self ..)
      · exact dR _ ho
  · simp [Qb, Qc, dom]
  · simp only [Qc, Qb, Bool.and_true]
    exact List.contains_iff_mem.2 (dT _ m120)
  simp (maxSteps := 2000000) (maxDischargeDepth := 8) only [bitvec_to_nat, reduceIte, Nat.reduceEqDiff, Nat.reduceAdd, Nat.reduceLeDiff, reduceCtorEq, Nat.reduceBEq, Nat.reduceLT, Nat.reduceMod, fmc, Qf, Qm, Qe, QE, keepB, Qn, QJ, Yg, int_toBitVec_meta, method_specs_simp, bkV, Nat.sub_zero, List.append_nil, h0, hc, decide_true, decide_false, JX, Wj, apK, apK2, sA1, sA2, sA3, sA4, sB1, sB2, List.cons_append, List.nil_append]
  have hFR : ∀ p ∈ R.filter (fun p => p.1 != fam 118 I && p.1 != fam 119 I), p ∈ R := fun p hp => (List.mem_filter.1 hp).1
  have gW : ∀ p ∈ Jk 120 l.length 150 0 l, getM R p.1 = none := fun p hp => QZ fun q hq e => by have := hRn q hq; have := hWn p hp; omega
  have g104 : getM R 104 = none := QZ fun p hp => (hRn p hp).2.2.2.2.1
  have w104 : getM (Jk 120 l.length 150 0 l) 104 = none := QZ fun p hp => by have := hWn p hp; omega
  have mF : ∀ p ∈ R, p.1 ≠ fam 118 I → p.1 ≠ fam 119 I → p.1 ∈ 131 :: List.map (fun x : Nat × AObj => x.1) (R.filter (fun p => p.1 != fam 118 I && p.1 != fam 119 I) ++ (Jk 120 l.length 150 0 l ++ [(104, AObj.arr 100 0 6 (tu.map Box6.row))])) := fun p hp h1 h2 => List.mem_cons_of_mem _ (List.mem_map.2 ⟨p, List.mem_append_left _ (List.mem_filter.2 ⟨hp, by simp [h1, h2]⟩), rfl⟩)
  have mW : ∀ p ∈ Jk 120 l.length 150 0 l, p.1 ∈ 131 :: List.map (fun x : Nat × AObj => x.1) (R.filter (fun p => p.1 != fam 118 I && p.1 != fam 119 I) ++ (Jk 120 l.length 150 0 l ++ [(104, AObj.arr 100 0 6 (tu.map Box6.row))])) := fun p hp => List.mem_cons_of_mem _ (List.mem_map.2 ⟨p, List.mem_append_right _ (List.mem_append_left _ hp), rfl⟩)
  have mY : 104 ∈ 131 :: List.map (fun x : Nat × AObj => x.1) (R.filter (fun p => p.1 != fam 118 I && p.1 != fam 119 I) ++ (Jk 120 l.length 150 0 l ++ [(104, AObj.arr 100 0 6 (tu.map Box6.row))])) := List.mem_cons_of_mem _ (List.mem_map.2 ⟨(104, _), List.mem_append_right _ (List.mem_append_right _ (List.mem_cons_self ..)), rfl⟩)
  refine ⟨Jl fun p hp => ?_, ?_, ?_, ?_⟩
  · rcases List.mem_append.1 hp with hp | hp
    · have q := hRn p (hFR p hp)
      simp only [getM]
      rw [if_neg (by omega), if_neg (by omega), if_neg (by omega)]
      exact JA (hRg p (hFR p hp))
    rcases List.mem_append.1 hp with hp | hp
    · have q := hWn p hp
      simp only [getM]
      rw [if_neg (by omega), if_neg (by omega), if_neg (by omega), QL (gW p hp)]
      simp only [getM]
      rw [if_neg (by omega)]
      exact JA (QI hWu p hp)
    · rw [List.mem_singleton.1 hp]
      simp only [getM, Nat.reduceEqDiff, if_false]
      rw [QL g104]
      simp only [getM, Nat.reduceEqDiff, if_false]
      rw [QL w104]; simp only [getM, if_true]
  · rw [Bool.and_eq_true]
    refine ⟨hrow _ mF mY, ?_⟩
    have a1 := hRall _ mF
    have a2 : ((Jk 120 l.length 150 0 l).all fun p => Qd (131 :: List.map (fun x : Nat × AObj => x.1) (R.filter (fun p => p.1 != fam 118 I && p.1 != fam 119 I) ++ (Jk 120 l.length 150 0 l ++ [(104, AObj.arr 100 0 6 (tu.map Box6.row))]))) p.2) = true := YW Jb JM fun p hp => mW p (List.mem_cons_of_mem _ hp)
    generalize 131 :: List.map (fun x : Nat × AObj => x.1) (R.filter (fun p => p.1 != fam 118 I && p.1 != fam 119 I) ++ (Jk 120 l.length 150 0 l ++ [(104, AObj.arr 100 0 6 (tu.map Box6.row))])) = D at *
    show (List.all _ fun p : Nat × AObj => Qd D p.2) = true
    rw [List.all_append, List.all_append, Bool.and_eq_true, Bool.and_eq_true]
    exact ⟨List.all_eq_true.2 fun p hp => List.all_eq_true.1 a1 p (hFR p hp), a2, rfl⟩
  · simp only [Qc, Bool.and_eq_true]
    have n149 : ∀ q, q < 1000 → q ∈ dom R → q ∈ 131 :: List.map (fun x : Nat × AObj => x.1) (R.filter (fun p => p.1 != fam 118 I && p.1 != fam 119 I) ++ (Jk 120 l.length 150 0 l ++ [(104, AObj.arr 100 0 6 (tu.map Box6.row))])) := fun q hq hm => by
      obtain ⟨p, hp, rfl⟩ := List.mem_map.1 hm
      exact mF p hp (by unfold fam; omega) (by unfold fam; omega)
    exact ⟨⟨List.contains_iff_mem.2 (List.mem_cons_self ..), List.contains_iff_mem.2 (n149 149 (by omega) m149), List.contains_iff_mem.2 (n149 154 (by omega) m154)⟩, List.contains_iff_mem.2 (mW (120, .arr (1000000 + 73) l.length 8 (Ja VW.rowO 150 0 l)) (List.mem_cons_self ..))⟩
  · rw [Bool.true_or, Bool.true_or, Bool.true_or, Bool.true_and, Bool.true_and, Bool.true_and, List.all_eq_true]
    intro o' ho
    obtain ⟨p, hp, rfl⟩ := List.mem_map.1 ho
    rw [Bool.or_eq_true]
    refine .inl ?_
    rw [decide_eq_true_eq]
    rcases List.mem_append.1 hp with hp | hp
    · exact (hRn p hp).2.2.2.2.2.2.1
    rcases List.mem_cons.1 hp with rfl | hp
    · omega
    rcases List.mem_append.1 hp with hp | hp
    · have := hWn p hp; omega
    · rw [List.mem_singleton.1 hp]; omega
end
end Go.Ve

namespace Go.Ve
noncomputable section
open Go.Proofs
set_option maxRecDepth 100000
open Go.ChangeShapes Go.WideShapes
theorem QlM {α : Type} {f : α → α} : ∀ {l : List α}, l.map f = l → ∀ x ∈ l, f x = x
  | [], _, x, hx => by cases hx
  | y :: l, h, x, hx => by
    simp only [List.map_cons, List.cons.injEq] at h
    rcases List.mem_cons.1 hx with rfl | hx
    · exact h.1
    · exact QlM h.2 x hx
def wiR (b : Book) : List (Nat × AObj) := Q2 JE (Own.row 0) 110 0 b.own ++ (X2 149 b.parts.length 121 b.parts ++ Qfl 154 0 b.seen)
theorem QsT {b : Book} {I : Nat} : ∀ p ∈ wiR b, p.1 ≠ fam 118 I → (swp 104 (fam 118 I) p.1, renO (swp 104 (fam 118 I)) p.2) = p := fun p hp hn => by
  have sn : ∀ q, q ≠ 104 → q ≠ fam 118 I → swp 104 (fam 118 I) q = q := fun q h1 h2 => Vr h1 h2
  unfold wiR at hp
  rcases List.mem_append.1 hp with hp | hp
  · have q := (Kw QX (by omega) hp)
    obtain ⟨i, j, v, sz, xs, h1, h2, rfl⟩ := JB.1 hp
    simp only at hn q ⊢
    rw [sn _ (by omega) hn]
    simp [renO, YH]
  rcases List.mem_append.1 hp with hp | hp
  · have e : J5 (swp 104 (fam 118 I)) (X2 149 b.parts.length 121 b.parts) = X2 (swp 104 (fam 118 I) 149) b.parts.length 121 b.parts := Yr QR Kn fun j i hj => sn _ (by unfold fam; omega) (by unfold fam; omega)
    rw [sn 149 (by omega) (by unfold fam; omega), ZG] at e
    exact QlM e p hp
  · rw [List.mem_singleton.1 hp, sn 154 (by omega) (by unfold fam; omega)]
    simp [renO]
theorem QsU {l : List VW} {I : Nat} : ∀ p ∈ Jk 120 l.length 150 0 l, (swp 104 (fam 118 I) p.1, renO (swp 104 (fam 118 I)) p.2) = p := fun p hp => by
  have sn : ∀ q, q ≠ 104 → q ≠ fam 118 I → swp 104 (fam 118 I) q = q := fun q h1 h2 => Vr h1 h2
  have e : J5 (swp 104 (fam 118 I)) (Jk 120 l.length 150 0 l) = Jk (swp 104 (fam 118 I) 120) l.length 150 0 l := Yr Jb JM fun j i hj => sn _ (by unfold fam; omega) (by unfold fam; omega)
  rw [sn 120 (by omega) (by unfold fam; omega), ZG] at e
  exact QlM e p hp
theorem Qrg {b : Book} {I : Nat} {tu : List Box6} {o : Own} {l : List VW} : J5 (swp 104 (fam 118 I)) (Quj b I tu o l) = (131, .arr (1000000 + 71) b.own.length 11 (((Ja (Own.row 0) 110 0 b.own).map (K4 (swp 104 (fam 118 I)))).set I (Vv tu o 110 I (fam 118 I)))) :: ((wiR b).filter (fun p => p.1 != fam 118 I && p.1 != fam 119 I) ++ (Jk 120 l.length 150 0 l ++ [(fam 118 I, .arr 100 0 6 (tu.map Box6.row))])) := by
  have sn : ∀ q, q ≠ 104 → q ≠ fam 118 I → swp 104 (fam 118 I) q = q := fun q h1 h2 => Vr h1 h2
  have e1 : K4 (swp 104 (fam 118 I)) (Vv tu o 110 I 104) = Vv tu o 110 I (fam 118 I) := by
    simp only [Vv, K4, ren, sn (fam (110 + 6) I) (by unfold fam; omega) (by unfold fam; omega)]
    simp [swp]
  have e2 : J5 (swp 104 (fam 118 I)) ((wiR b).filter (fun p => p.1 != fam 118 I && p.1 != fam 119 I)) = (wiR b).filter (fun p => p.1 != fam 118 I && p.1 != fam 119 I) := by
    rw [ZG]
    refine (List.map_congr_left fun p hp => ?_).trans (List.map_id _)
    have := List.mem_filter.1 hp
    exact QsT p this.1 (by have := this.2; simp at this; exact this.1)
  have e3 : J5 (swp 104 (fam 118 I)) (Jk 120 l.length 150 0 l) = Jk 120 l.length 150 0 l := by
    rw [ZG]
    exact (List.map_congr_left fun p hp => QsU p hp).trans (List.map_id _)
  have e4 : ∀ (x y : List (Nat × AObj)), J5 (swp 104 (fam 118 I)) (x ++ y) = J5 (swp 104 (fam 118 I)) x ++ J5 (swp 104 (fam 118 I)) y := fun x y => XO
  show J5 _ ((131, _) :: ((wiR b).filter _ ++ (_ ++ [(104, _)]))) = _
  simp only [J5, e4, e2, e3, renO, List.map_set, e1, sn 131 (by omega) (by unfold fam; omega)]
  simp [swp]
theorem Qrh {A B : List (Nat × AObj)} {q : Nat} (hA : ZW A) (hB : ZW B) (h : ∀ x, (q, x) ∈ A ↔ (q, x) ∈ B) : getM A q = getM B q := by
  cases e : getM A q with
  | some x => exact (QI hB (q, x) ((h x).1 (KU e))).symm
  | none =>
    cases e2 : getM B q with
    | none => rfl
    | some x =>
      have := QI hA (q, x) ((h x).2 (KU e2))
      simp only at this
      rw [e] at this; cases this
theorem QlN {A : List (Nat × AObj)} {q : Nat} {F : Nat × AObj → Bool} (h : ∀ x, F (q, x) = true) : getM (A.filter F) q = getM A q := by
  induction A with
  | nil => rfl
  | cons p A ih =>
    obtain ⟨k, x⟩ := p
    by_cases hk : q = k
    · subst hk; rw [List.filter_cons_of_pos (h x)]; simp only [getM, if_true]
    · by_cases hf : F (k, x) = true
      · rw [List.filter_cons_of_pos hf]; simp only [getM, hk, if_false, ih]
      · rw [List.filter_cons_of_neg hf]; simp only [getM, hk, if_false, ih]
theorem Qgt {b : Book} : ZW (wiR b) := by
  have h : ZW (bkM b 131 b.own.length 149 b.parts.length 154 0 110 121) := UG (by omega) (by omega) (by omega) (by omega) (by omega) (by omega) (by omega) (by omega) (by omega)
  exact (List.pairwise_cons.1 (show ZW ((131, AObj.arr (1000000 + 71) b.own.length 11 (Ja (Own.row 0) 110 0 b.own)) :: wiR b) from h)).2
theorem QsV {b : Book} {I q : Nat} {tu : List Box6} (hi : I < b.own.length) (h8 : q ≠ fam 118 I) (h9 : q ≠ fam 119 I) (x : AObj) : (q, x) ∈ wiR b ↔ (q, x) ∈ wiR { b with own := b.own.set I (wiO tu (b.own.getD I default)) } := by
  have key : (q, x) ∈ Q2 JE (Own.row 0) 110 0 b.own ↔ (q, x) ∈ Q2 JE (Own.row 0) 110 0 (b.own.set I (wiO tu (b.own.getD I default))) := by
    rw [JB, JB]
    refine exists_congr fun i => exists_congr fun j => exists_congr fun v => exists_congr fun sz => exists_congr fun xs => ?_
    rw [List.length_set]
    by_cases e : i = I
    · subst e
      have e1 : (b.own.set i (wiO tu (b.own.getD i default))).getD i default = wiO tu (b.own.getD i default) := Kh hi
      rw [e1, Nat.zero_add]
      refine and_congr_right fun _ => ?_
      by_cases hj : j = 8
      · subst hj; exact ⟨fun h => absurd (congrArg Prod.fst h.2) h8, fun h => absurd (congrArg Prod.fst h.2) h8⟩
      by_cases hj : j = 9
      · subst hj; exact ⟨fun h => absurd (congrArg Prod.fst h.2) h9, fun h => absurd (congrArg Prod.fst h.2) h9⟩
      refine and_congr_left fun _ => ?_
      by_cases h11 : j < 11
      · have cs : j = 0 ∨ j = 1 ∨ j = 2 ∨ j = 3 ∨ j = 4 ∨ j = 5 ∨ j = 6 ∨ j = 7 ∨ j = 10 := by omega
        rcases cs with rfl | rfl | rfl | rfl | rfl | rfl | rfl | rfl | rfl <;> simp [Own.row, wiO]
      · rw [List.getElem?_eq_none (by simp [Own.row]; omega), List.getElem?_eq_none (by simp [Own.row]; omega)]
    · rw [K2 (Ne.symm e)]
  exact (List.mem_append.trans (or_congr key Iff.rfl)).trans List.mem_append.symm
set_option maxHeartbeats 1000000 in
theorem Qri (zs : List Zone) (me fl : ByteArray) (tu : List Box6) (b : Book) (hb : b.small) (hz : zs.length ≤ 1048576) (htu : tu.length ≤ 1048576) (h0 : QjD zs me b) (hc : wiC zs b fl tu = 0) (hla : 0 ≤ (oG b fl).la) : Contract P 26 [.sl 0 5 (zs.map Zone.row), .str me, .agg (b.row 0), .str fl, .sl 0 6 (tu.map Box6.row)] [] (.tup [bkV b 131 b.own.length 149 b.parts.length 154 0, .own 120 (Yp zs me (wiO tu (oG b fl)) zs.length).length 0 (Yp zs me (wiO tu (oG b fl)) zs.length).length, .int .i64 0]) (bkM (wiB b fl tu) 131 b.own.length 149 b.parts.length 154 0 110 121 ++ Jk 120 (Yp zs me (wiO tu (oG b fl)) zs.length).length 150 0 (Yp zs me (wiO tu (oG b fl)) zs.length)) := by
  have hi : oI b fl < b.own.length := (QhQ (l := b.own) (s := fl) (by have := (QtX hc).2.1; omega)).1
  have H := (Qrf zs me fl tu b hb hz htu h0 hc hla).ren (swp 104 (fam 118 (oI b fl))) (Q0 _ _)
  have sn : ∀ q, q ≠ 104 → q < 1000 → swp 104 (fam 118 (oI b fl)) q = q := fun q h1 h2 => Vr h1 (by unfold fam; omega)
  rw [Qrg, ZT _ _ (show Jy [.sl 0 5 (zs.map Zone.row), .str me, .agg (b.row 0), .str fl, .sl 0 6 (tu.map Box6.row)] = true from rfl)] at H
  simp only [ren, K4, QcE, sn 131 (by omega) (by omega), sn 149 (by omega) (by omega), sn 154 (by omega) (by omega), sn 120 (by omega) (by omega), J5] at H
  unfold wiB
  unfold oG at H ⊢
  generalize Yp zs me (wiO tu (b.own.getD (oI b fl) default)) zs.length = l at H ⊢
  generalize oI b fl = I at H hi sn ⊢
  have hWn : ∀ p ∈ Jk 120 l.length 150 0 l, p.1 = 120 ∨ (1000 ≤ p.1 ∧ 150 ≤ p.1 % 1000) := fun p hp => by have := KZ Jb (by omega) hp; omega
  have lr : I < ((Ja (Own.row 0) 110 0 b.own).map (K4 (swp 104 (fam 118 I)))).length := by rw [List.length_map, QN]; exact hi
  have hg : (((Ja (Own.row 0) 110 0 b.own).map (K4 (swp 104 (fam 118 I)))).set I (Vv tu (b.own.getD I default) 110 I (fam 118 I))).getD I [] = Vv tu (b.own.getD I default) 110 I (fam 118 I) := Wn lr
  have H2 := H.own_nil (o := 131) (o' := fam 119 I) (e' := 9) (i := I) (c := 9) (s := 1) rfl rfl (by omega) (by rw [List.length_set]; exact lr) (by rw [hg]; rfl) (QZ fun p hp => by
    rcases List.mem_cons.1 hp with rfl | hp
    · show 131 ≠ _; unfold fam; omega
    rcases List.mem_append.1 hp with hp | hp
    · have := (List.mem_filter.1 hp).2; simp at this; exact this.2
    rcases List.mem_append.1 hp with hp | hp
    · have := hWn p hp; unfold fam; omega
    · rw [List.mem_singleton.1 hp]; unfold fam; simp only; omega)
  rw [hg] at H2
  have eR : ((((Ja (Own.row 0) 110 0 b.own).map (K4 (swp 104 (fam 118 I)))).set I (Vv tu (b.own.getD I default) 110 I (fam 118 I))).set I ((Vv tu (b.own.getD I default) 110 I (fam 118 I)).set 9 (.own (fam 119 I) 0 0 0))) = Ja (Own.row 0) 110 0 (b.own.set I (wiO tu (b.own.getD I default))) := by
    rw [List.set_set]
    refine List.ext_getElem (by simp [Ja]) fun j h1 h2 => ?_
    have hj : j < b.own.length := by simpa [Ja] using h2
    by_cases e : j = I
    · subst e
      rw [List.getElem_set_self]
      simp [Ja, Vv, wiO, Own.row, UL, QeG]
    · rw [List.getElem_set_ne (Ne.symm e)]
      have e2 : (Ja (Own.row 0) 110 0 b.own)[j]'(by rw [QN]; exact hj) = UL 110 (0 + j) 0 (Own.row 0 (b.own.getD j default)) := by simp [Ja, hj]
      have e3 : (Ja (Own.row 0) 110 0 (b.own.set I (wiO tu (b.own.getD I default))))[j] = UL 110 (0 + j) 0 (Own.row 0 (b.own.getD j default)) := by simp [Ja, hj, List.getElem_set_ne (Ne.symm e)]
      rw [List.getElem_map, e2, e3]
      refine Qgf (QX.sim _) fun c hc' => ?_
      rw [QX.len] at hc'
      exact Vr (by unfold fam; omega) (by unfold fam; omega)
  rw [eR] at H2
  refine H2.post_eq (funext fun q => Eq.symm ?_)
  rw [QM, QM]
  show _ = getM ((131, AObj.arr (1000000 + 71) b.own.length 11 (Ja (Own.row 0) 110 0 (b.own.set I (wiO tu (b.own.getD I default))))) :: (wiR { b with own := b.own.set I (wiO tu (b.own.getD I default)) } ++ Jk 120 l.length 150 0 l)) q
  have hlen : I < (b.own.set I (wiO tu (b.own.getD I default))).length := by rw [List.length_set]; exact hi
  have m9 : (fam 119 I, AObj.arr 9 0 1 []) ∈ wiR { b with own := b.own.set I (wiO tu (b.own.getD I default)) } := List.mem_append_left _ (JB.2 ⟨I, 9, 0, 1, [], hlen, by rw [Kh hi]; rfl, by rw [Nat.zero_add]; rfl⟩)
  have m8 : (fam 118 I, AObj.arr 100 0 6 (tu.map Box6.row)) ∈ wiR { b with own := b.own.set I (wiO tu (b.own.getD I default)) } := List.mem_append_left _ (JB.2 ⟨I, 8, 0, 6, _, hlen, by rw [Kh hi]; rfl, by rw [Nat.zero_add]; rfl⟩)
  by_cases q1 : q = 131
  · subst q1; simp only [getM, if_true]
  simp only [getM, q1, if_false]
  by_cases q2 : q = fam 119 I
  · subst q2
    rw [if_pos rfl]
    exact (JA (QI Qgt _ m9)).symm
  rw [if_neg q2]
  by_cases q3 : q = fam 118 I
  · subst q3
    rw [JA (QI Qgt _ m8), QL (QZ fun p hp => by have := (List.mem_filter.1 hp).2; simp at this; exact this.1), QL (QZ fun p hp => by have := hWn p hp; unfold fam; omega)]
    simp only [getM, if_true]
  have e1 : getM ((wiR b).filter (fun p => p.1 != fam 118 I && p.1 != fam 119 I)) q = getM (wiR { b with own := b.own.set I (wiO tu (b.own.getD I default)) }) q := (QlN fun x => by simp [q2, q3]).trans (Qrh Qgt Qgt (QsV hi q3 q2))
  cases e2 : getM (wiR { b with own := b.own.set I (wiO tu (b.own.getD I default)) }) q with
  | some x => rw [JA e2, JA (e1.trans e2)]
  | none =>
    rw [QL e2, QL (e1.trans e2)]
    cases e3 : getM (Jk 120 l.length 150 0 l) q with
    | some x => exact JA e3
    | none => rw [QL e3]; simp only [getM, q3, if_false]
end
end Go.Ve

namespace Go.Ve
open Go.Proofs
set_option maxRecDepth 100000
/-- spec.HandWish: function 24 -/
def Zb : SFun := { n := 97,res := [.cN 10 3,.t 11,.t 12],body := (jq [jn 7 (.box 107 (.v 2)) [2],jn 10 (.alloc 110 [.sl 0 11 [],.sl 0 3 [],.sl 0 2 []]) [],jn 11 (.mv (.c (.sl 0 8 []))) [11],jI 12 0 [12]] [0,1,3,4,7,10] (.seq (jq [jm 16 0 [],jL 17 3 7 [],jn 18 (.call 35 [.v 16,.v 17]) [16,17],jn 19 (.not (.v 18)) [18],jm 20 19 [19],jM 21 20 0 [],jM 22 20 1 [],jh 23 20 (.call 36 [.v 21,.v 22]) [21,22],jh 24 20 (.bin .lss (.v 23) (ci 0)) [23],jp 25 20 24 [20,24]] [0,1,3,4,7,10,25] (.cond (.v 25) (jq [jn 26 (.build [.sl 0 11 [],.sl 0 3 [],.sl 0 2 []] []) [],jn 27 (.lit 73 8 []) [],⟨none,.store 3 (.v 10) (.v 26),none,[26]⟩,jm 11 27 [27],jI 12 1 []] [10,11,12] (.gh (.frzB 110 0) (.gh (.frzB 110 1) (.gh (.frzB 110 2) .ret)))) .skip)) (jq [jL 28 3 7 [],jn 29 (.call 57 [.v 28]) [28],jn 13 (.alloc 113 [.sl 0 11 [],.sl 0 3 [],.sl 0 2 []]) [],⟨none,.store 3 (.v 13) (.v 29),none,[29]⟩] [0,1,3,4,7,10,13] (jq [jL 30 3 7 [],jm 31 3 [3],jn 32 (.call 58 [.v 30,.v 31]) [30,31],jm 14 32 [32]] [0,1,4,7,10,13,14] (.seq (jq [jm 33 0 [],jm 34 4 [],jn 35 (.call 65 [.v 33,.v 34]) [33,34],jn 36 (.not (.v 35)) [35]] [0,1,4,7,10,13,14,36] (.cond (.v 36) (jq [jL 37 3 13 [13],jn 38 (.lit 73 8 []) [],⟨none,.store 3 (.v 10) (.v 37),none,[37]⟩,jm 11 38 [38],jI 12 2 []] [10,11,12] (.gh (.frzB 110 0) (.gh (.frzB 110 1) (.gh (.frzB 110 2) .ret)))) .skip)) (.seq (jq [jm 39 14 [],jc 40 .lss 39 0 [39],jm 41 40 [40],jh 42 41 (.faddr 0 (.v 7)) [],jh 43 41 (.load1 (.v 42)) [42],jM 44 41 14 [],jh 45 41 (.iaddr 11 (.v 43) (.v 44)) [43,44],jh 46 41 (.faddr 1 (.v 45)) [45],jh 47 41 (.load1 (.v 46)) [46],jh 48 41 (.bin .neq (.v 47) (ci 1)) [47],jp 49 41 48 [41,48]] [0,1,4,7,10,13,14,49] (.cond (.v 49) (jq [jL 50 3 13 [13],jn 51 (.lit 73 8 []) [],⟨none,.store 3 (.v 10) (.v 50),none,[50]⟩,jm 11 51 [51],jI 12 5 []] [10,11,12] (.gh (.frzB 110 0) (.gh (.frzB 110 1) (.gh (.frzB 110 2) .ret)))) .skip)) (.seq (jq [jf 52 0 7 [],jl 53 52 [52],jm 54 14 [],ja 55 11 53 54 [53,54],jf 56 7 55 [55],jl 57 56 [56],jc 58 .gtr 57 0 [57]] [0,1,4,7,10,13,14,58] (.cond (.v 58) (jq [jL 59 3 13 [13],jn 60 (.lit 73 8 []) [],⟨none,.store 3 (.v 10) (.v 59),none,[59]⟩,jm 11 60 [60],jI 12 6 []] [10,11,12] (.gh (.frzB 110 0) (.gh (.frzB 110 1) (.gh (.frzB 110 2) .ret)))) .skip)) (.seq (jq [jf 61 0 7 [],jl 62 61 [61],jm 63 14 [],ja 64 11 62 63 [62,63],jf 65 4 64 [64],jl 66 65 [65],jc 67 .geq 66 1000000 [66]] [0,1,4,7,10,13,14,67] (.cond (.v 67) (jq [jL 68 3 13 [13],jn 69 (.lit 73 8 []) [],⟨none,.store 3 (.v 10) (.v 68),none,[68]⟩,jm 11 69 [69],jI 12 4 []] [10,11,12] (.gh (.frzB 110 0) (.gh (.frzB 110 1) (.gh (.frzB 110 2) .ret)))) .skip)) (jq [jf 70 0 7 [7],jl 71 70 [70],jm 72 14 [],ja 73 11 71 72 [71,72],jL 74 11 73 [73],jn 75 (.call 59 [.v 74]) [74],jn 15 (.alloc 115 [.str ⟨#[]⟩,.int .i64 0,.int .i64 0,.str ⟨#[]⟩,.int .i64 0,.int .i64 0,.sl 0 6 [],.int .i64 0,.sl 0 6 [],.sl 0 1 [],.bool false]) [],⟨none,.store 11 (.v 15) (.v 75),none,[75]⟩] [0,1,4,10,13,14,15] (jq [jf 76 4 15 [],jl 77 76 [76],jn 78 (.binN .add (.v 77) (ci 1)) [77],jf 79 4 15 [],⟨none,.store 1 (.v 79) (.v 78),none,[78,79]⟩] [0,1,4,10,13,14,15] (jq [jf 80 4 15 [],jl 81 80 [80],jf 82 7 15 [],⟨none,.store 1 (.v 82) (.v 81),none,[81,82]⟩] [0,1,4,10,13,14,15] (jq [jm 83 4 [4],jn 84 (.call 66 [.v 83]) [83],jf 85 8 15 [],⟨none,.store 1 (.v 85) (.v 84),none,[84,85]⟩] [0,1,10,13,14,15] (jq [jf 86 0 13 [],jl 87 86 [86],jm 88 14 [14],jL 89 11 15 [],ja 90 11 87 88 [87,88],⟨none,.store 11 (.v 90) (.v 89),none,[89,90]⟩] [0,1,10,13,15] (.seq (.gh (.frzB 113 0) (.gh (.frzB 113 1) (.gh (.frzB 113 2) (.rgd [jL 91 3 13 [],jn 92 (.call 57 [.v 91]) [],jm 93 0 [],jm 94 1 [],jL 95 11 15 [],jn 96 (.call 39 [.v 93,.v 94,.v 95]) [],⟨none,.store 3 (.v 10) (.v 92),none,[]⟩,jm 11 96 [],jI 12 0 []] [10,11,12] [none,some [],none,none,some [2],none,none,none,none])))) (.gh (.frzB 110 0) (.gh (.frzB 110 1) (.gh (.frzB 110 2) .ret))))))))))))))))) }
theorem QaH : QY Go.Proofs.Tryz.prog 24 Zb = true := by kernel_rfl
end Go.Ve

namespace Go.Ve
noncomputable section
open Go.Proofs
set_option maxRecDepth 100000
open Go.ChangeShapes Go.WideShapes
def Qjy (zs : List Zone) (me fl : ByteArray) (tu : List Box6) (b : Book) : Book := if QjD zs me b then (if wiC zs b fl tu = 0 then wiB b fl tu else b) else ⟨[], [], []⟩
def QlO (zs : List Zone) (me fl : ByteArray) (tu : List Box6) (b : Book) : List VW := if QjD zs me b then (if wiC zs b fl tu = 0 then Yp zs me (wiO tu (oG b fl)) zs.length else []) else []
def QlP (zs : List Zone) (me fl : ByteArray) (tu : List Box6) (b : Book) : Int := if QjD zs me b then wiC zs b fl tu else 1
theorem QpM {zs : List Zone} {me fl : ByteArray} {b : Book} (h : QjD zs me b) (h3 : ¬ oAt b.own fl < 0) : Qls zs (oG b fl) := by
  obtain ⟨q1, _⟩ := QhQ (l := b.own) (s := fl) (by omega)
  exact (h.1.2.1.2 _ q1).1
theorem QrK {zs : List Zone} {me fl : ByteArray} {b : Book} (h : QjD zs me b) (h3 : ¬ oAt b.own fl < 0) : 0 ≤ (oG b fl).la := by
  exact (QpM h h3).1.2.2.2.1.1
theorem QnO {zs : List Zone} {me fl : ByteArray} {b : Book} (h : QjD zs me b) (h3 : ¬ oAt b.own fl < 0) (hw : ¬ 0 < (oG b fl).wi) : (oG b fl).gr = [] ∧ (oG b fl).sent = false := by
  have q := QpM h h3
  have q1 := q.1.2.2.2.2.2.1
  have w0 : (oG b fl).wi = 0 := by omega
  have q3 := q.2.2.1.2
  have q4 := q.2.2.2
  have hn : (oG b fl).nx.length = 0 := q3.1 w0
  have hw0 : Kd zs (oG b fl).nx = [] := by
    unfold Kd
    rw [List.filter_eq_nil_iff.2 fun z _ => by have := Qdn z (oG b fl).nx; rw [decide_eq_true_eq]; omega]; rfl
  refine ⟨?_, ?_⟩
  · cases hg : (oG b fl).gr with
    | nil => rfl
    | cons x l => have := (q4.1 0 (by rw [hg]; simp)).1; rw [hw0] at this; cases this
  · cases hs : (oG b fl).sent with
    | false => rfl
    | true => have := (q4.2.1 hs).1; omega
theorem QkJ {b : Book} {fl : ByteArray} {tu : List Box6} (h : b.small) (htu : tu.length ≤ 1048576) (hi : oI b fl < b.own.length) : (wiB b fl tu).small := by
  have hx := h.1.2 _ (Jg hi)
  unfold Book.small at h ⊢
  refine ⟨⟨by unfold wiB; rw [List.length_set]; exact h.1.1, fun o ho => ?_⟩, h.2⟩
  unfold wiB at ho
  rcases List.mem_or_eq_of_mem_set ho with ho | rfl
  · exact h.1.2 o ho
  · unfold Own.small at hx ⊢; exact ⟨hx.1, htu, Nat.zero_le _⟩
set_option maxHeartbeats 4000000 in
theorem Qrj (t t' : Nat) (zs : List Zone) (me fl : ByteArray) (tu : List Box6) (b : Book) (hb : b.small) (hz : zs.length ≤ 1048576) (htu : tu.length ≤ 1048576) : Contract P 24 [.sl t 5 (zs.map Zone.row), .str me, .agg (b.row 0), .str fl, .sl t' 6 (tu.map Box6.row)] [] (.tup [.agg ((Qjy zs me fl tu b).row 0), .sl 0 8 (((QlO zs me fl tu b).map VW.w).map (Word.row 0)), .int .i64 (QlP zs me fl tu b)]) [] := by
  have hC := Qq7 b hb
  have hb2 := hb
  unfold Book.small at hb2
  have hI : True := trivial
  have n3 : True := trivial
  by_cases h0 : QjD zs me b
  · have h0a := h0.1
    have h0b := h0.2
    simp only [Book.row] at hC ⊢
    refine Qh ((((((((Env.nil P).add 35 XY Qkz).add 36 Jp Uv).add 58 QkF QtF).add 59 GD Qmw).add 65 JK WT).add 66 JL Qbx).add 39 Qby Qpx) hm QaH (nlb rfl) rfl ?_; unfold Zb; simp (maxSteps := 2000000) only [bitvec_to_nat, reduceIte, Nat.reduceEqDiff, Nat.reduceAdd, Nat.reduceLeDiff, reduceCtorEq, Nat.reduceBEq, Nat.reduceLT, Nat.reduceMod, fmc, XY, Jp, QkF, GD, JK, JL, Qby, int_toBitVec_meta, method_specs_simp, Nat.sub_zero, List.append_nil, List.length_map, h0, h0a, h0b, hI, n3]
    refine ⟨⟨hb, by omega⟩, by omega, fun h => absurd h0b (by omega), fun _ => ⟨_, _, .inr (.inr (.inl ⟨_, rfl, hC, by simp [getM], by simp [Qc, Qb, dom], rfl, by simp [No99, JT], by simp [GF, KM, Kc, JY]⟩)), ?_⟩⟩
    simp (maxSteps := 2000000) only [bitvec_to_nat, reduceIte, Nat.reduceEqDiff, Nat.reduceAdd, Nat.reduceLeDiff, reduceCtorEq, Nat.reduceBEq, Nat.reduceLT, Nat.reduceMod, fmc, XY, Jp, QkF, GD, JK, JL, Qby, int_toBitVec_meta, method_specs_simp, Nat.sub_zero, List.append_nil, List.length_map, h0, h0a, h0b, hI, n3]
    have cls : ∀ k : Int, k ≠ 0 → wiC zs b fl tu = k → (AV.agg [.sl 0 11 ((Qjy zs me fl tu b).own.map (Own.row 0)), .sl 0 3 ((Qjy zs me fl tu b).parts.map (Part.row 0)), .sl 0 2 ((Qjy zs me fl tu b).seen.map Seen.row)] = AV.agg [.sl 0 11 (b.own.map (Own.row 0)), .sl 0 3 (b.parts.map (Part.row 0)), .sl 0 2 (b.seen.map Seen.row)] ∧ AV.sl 0 8 [] = AV.sl 0 8 (((QlO zs me fl tu b).map VW.w).map (Word.row 0)) ∧ k = QlP zs me fl tu b) := fun k hk e => by simp [Qjy, QlO, QlP, h0, e, hk]
    have cls : ∀ k : Int, k ≠ 0 → wiC zs b fl tu = k → (AV.agg [.sl 0 11 ((Qjy zs me fl tu b).own.map (Own.row 0)), .sl 0 3 ((Qjy zs me fl tu b).parts.map (Part.row 0)), .sl 0 2 ((Qjy zs me fl tu b).seen.map Seen.row)] = AV.agg [.sl 0 11 (b.own.map (Own.row 0)), .sl 0 3 (b.parts.map (Part.row 0)), .sl 0 2 (b.seen.map Seen.row)] ∧ AV.sl 0 8 [] = AV.sl 0 8 (((QlO zs me fl tu b).map VW.w).map (Word.row 0)) ∧ k = QlP zs me fl tu b) := fun k hk e => by simp [Qjy, QlO, QlP, h0, e, hk]
    refine ⟨by omega, ⟨by omega, by omega⟩, fun h1 => ?_, fun h1 => cls 2 (by omega) (by unfold wiC; rw [if_pos h1])⟩
    have n1 : ¬ ¬ tubeOk zs tu := fun h => h h1
    refine ⟨fun h3 => cls 5 (by omega) (by unfold wiC; rw [if_neg n1, if_pos h3]), fun h3 => ?_⟩
    obtain ⟨q1, q2⟩ := QhQ (l := b.own) (s := fl) (by omega)
    refine ⟨by omega, by omega, fun s1 => cls 5 (by omega) ?_, fun s1 => ⟨by omega, by omega, fun s3 => cls 6 (by omega) ?_, fun s3 => ⟨by omega, by omega, fun s4 => cls 4 (by omega) ?_, fun s4 => ?_⟩⟩⟩
    · simp only [wiC, n1, h3, oG, oI, s1, if_false, if_true, ne_eq, not_false_eq_true]
    · simp only [wiC, n1, h3, oG, oI, s1, s3, if_false, if_true, ne_eq, not_true_eq_false]
    · simp only [wiC, n1, h3, oG, oI, s1, s3, s4, if_false, if_true, ne_eq, not_true_eq_false]
    have e0 : wiC zs b fl tu = 0 := by simp only [wiC, n1, h3, oG, oI, s1, s3, s4, if_false, if_true, ne_eq, not_true_eq_false]
    have hx := hb.1.2 _ (Jg q1)
    have hla : 0 ≤ (b.own.getD (oAt b.own fl).toNat default).la := QrK h0 h3
    have hnw : (b.own.getD (oAt b.own fl).toNat default).gr = [] ∧ (b.own.getD (oAt b.own fl).toNat default).sent = false := QnO h0 h3 s3
    have ho' : (wiO tu (b.own.getD (oAt b.own fl).toNat default)).small := by unfold Own.small at hx ⊢; exact ⟨hx.1, htu, Nat.zero_le _⟩
    refine ⟨by omega, by omega, hx, ⟨by omega, by omega⟩, by omega, ⟨by omega, by omega⟩, ?_⟩
    have e1 : List.take b.own.length ((b.own.map (Own.row 0)).set (oAt b.own fl).toNat (Q7 ((b.own.map (Own.row 0)).getD (oAt b.own fl).toNat []) 0 (Own.row 0 (wiO tu (b.own.getD (oAt b.own fl).toNat default))))) = (wiB b fl tu).own.map (Own.row 0) := by
      rw [List.take_of_length_le (by simp)]
      have e2 : (b.own.map (Own.row 0)).getD (oAt b.own fl).toNat [] = Own.row 0 (b.own.getD (oAt b.own fl).toNat default) := by simp [q1]
      rw [e2]
      unfold wiB
      rw [List.map_set]; rfl
    simp only [hnw.1, hnw.2, List.map_nil]
    simp only [Own.row, wiO, List.map_nil] at e1
    simp only [e1]
    have hC2 := Qq8 (wiB b fl tu) (QkJ hb htu q1)
    simp only [Book.row] at hC2
    refine ⟨_, _, .inr (.inl ⟨rfl, _, rfl, hC2, rfl, by simp [No99, JT, KM, Kc, JY]⟩), ?_⟩
    simp (maxSteps := 2000000) only [bitvec_to_nat, reduceIte, Nat.reduceEqDiff, Nat.reduceAdd, Nat.reduceLeDiff, reduceCtorEq, Nat.reduceBEq, Nat.reduceLT, Nat.reduceMod, fmc, XY, Jp, QkF, GD, JK, JL, Qby, int_toBitVec_meta, method_specs_simp, Nat.sub_zero, List.append_nil, List.length_map, h0, h0a, h0b, hI, n3]
    have b1 : Qjy zs me fl tu b = wiB b fl tu := by simp only [Qjy, if_pos h0, if_pos e0]
    have w1 : QlO zs me fl tu b = Yp zs me (wiO tu (oG b fl)) zs.length := by simp only [QlO, if_pos h0, if_pos e0]
    have c1 : QlP zs me fl tu b = 0 := by simp only [QlP, if_pos h0, e0]
    rw [b1, w1, c1, ← QsH h0.1.1]
    refine ⟨ho', rfl, ?_, rfl⟩
    have e5 : oG b fl = b.own.getD (oAt b.own fl).toNat default := rfl
    rw [e5]
    simp only [wiO]
  · have h0a : True := trivial
    have h0b : True := trivial
    simp only [Qjy, QlO, QlP, if_neg h0, Book.row, List.map_nil]
    refine Qh ((((((((Env.nil P).add 35 XY Qkz).add 36 Jp Uv).add 58 QkF QtF).add 59 GD Qmw).add 65 JK WT).add 66 JL Qbx).add 39 Qby Qpx) hm QaH (nlb rfl) rfl ?_; unfold Zb; simp (maxSteps := 2000000) only [bitvec_to_nat, reduceIte, Nat.reduceEqDiff, Nat.reduceAdd, Nat.reduceLeDiff, reduceCtorEq, Nat.reduceBEq, Nat.reduceLT, Nat.reduceMod, fmc, XY, Jp, QkF, GD, JK, JL, Qby, int_toBitVec_meta, method_specs_simp, Nat.sub_zero, List.append_nil, List.length_map, h0, h0a, h0b, hI, n3]
    exact ⟨⟨hb, by omega⟩, fun hq => ⟨by omega, fun hn => absurd ⟨hq, by omega⟩ h0⟩⟩
def Qu : List AV → Option (Prop × AV)
  | [.sl zst 5 zsx, .str me, .agg [.sl 0 11 b_own, .sl 0 3 b_parts, .sl 0 2 b_seen], .str fl, .sl tut 6 tux] => some ((((zsx.map QB).map Zone.row = zsx) ∧ ((b_own.map JC).map (Own.row 0) = b_own) ∧ ((b_parts.map Q9).map (Part.row 0) = b_parts) ∧ ((b_seen.map Jc).map Seen.row = b_seen) ∧ ((tux.map QD).map Box6.row = tux)) ∧ (Book.small (Book.mk (b_own.map JC) (b_parts.map Q9) (b_seen.map Jc)) ∧ (zsx.map QB).length ≤ 1048576 ∧ (tux.map QD).length ≤ 1048576), .tup [.agg ((Qjy (zsx.map QB) me fl (tux.map QD) (Book.mk (b_own.map JC) (b_parts.map Q9) (b_seen.map Jc))).row 0), .sl 0 8 (((QlO (zsx.map QB) me fl (tux.map QD) (Book.mk (b_own.map JC) (b_parts.map Q9) (b_seen.map Jc))).map VW.w).map (Word.row 0)), .int .i64 (QlP (zsx.map QB) me fl (tux.map QD) (Book.mk (b_own.map JC) (b_parts.map Q9) (b_seen.map Jc)))])
  | _ => none
theorem Qjz : ∀ args p v, Qu args = some (p, v) → p → Contract P 24 args [] v [] ∧ noref v = true ∧ No99 v := by
  intro args p v h1 h2
  unfold Qu at h1
  split at h1
  · rename_i zst zsx me b_own b_parts b_seen fl tut tux
    cases h1
    obtain ⟨⟨e0, e1, e2, e3, e4⟩, HP⟩ := h2
    have := Qrj zst tut (zsx.map QB) me fl (tux.map QD) (Book.mk (b_own.map JC) (b_parts.map Q9) (b_seen.map Jc)) HP.1 HP.2.1 HP.2.2
    exact ⟨by simpa only [e0, e1, e2, e3, e4, Book.row] using this, rfl, by simp only [No99, JT, Book.row]; exact ⟨⟨⟨by omega, KM _⟩, ⟨by omega, Kc _⟩, ⟨by omega, JY _⟩, trivial⟩, ⟨by omega, Ye _⟩, trivial, trivial⟩⟩
  · cases h1
end
end Go.Ve

namespace Go.Ve
noncomputable section
open Go.Proofs
set_option maxRecDepth 100000
open Go.ChangeShapes Go.WideShapes
theorem Qfq (k : Int) (tu : List Box6) (ht : tu.length ≤ 1048577) (hk : 0 ≤ k ∧ k ≤ 1125899906842624) : Contract P 28 [.own 511 0 0 tu.length, .int .i64 k] [(511, .arr 100 0 6 (tu.map Box6.row))] (.int .i64 (k + 6 * tu.length)) [(511, .arr 100 0 6 ((XH k tu.length).map Box6.row))] := by
  have h := (UE 0 k tu ht hk).ren (swp 3 511) (Q0 _ _)
  simp only [K4, ren, J5, renO, swp, reduceIte, Nat.reduceLT] at h
  exact h
theorem YX {o o' : Nat} {x x' : AObj} {M K : List (Nat × AObj)} (h : W4 K o) (h' : W4 K o') (hM : ∀ p ∈ K, getM M p.1 = some p.2) : ∀ p ∈ K, getM ((o, x) :: (o', x') :: M) p.1 = some p.2 := Qw h (Qw h' hM)
theorem ZO {o o' : Nat} {x x' : AObj} {M K : List (Nat × AObj)} (h : W4 K o) (h' : W4 K o') (hM : ∀ p ∈ K, getM M p.1 = none) : ∀ p ∈ K, getM ((o, x) :: (o', x') :: M) p.1 = none := QV h (QV h' hM)
theorem QjA (t : Nat) (tu : List Box6) (h : tu.length ≤ 1048576) : Contract P 25 [.sl t 6 (tu.map Box6.row)] [] (.own 511 0 0 tu.length) [(511, .arr 100 0 6 (tu.map Box6.row))] := by
  have h := (QbS t tu h).ren (swp 107 511) (Q0 _ _)
  simp only [K4, ren, J5, renO, swp, reduceIte, Nat.reduceLT] at h
  exact h
end
end Go.Ve

namespace Go.Ve
noncomputable section
open Go.Proofs
set_option maxRecDepth 100000
open Go.ChangeShapes Go.WideShapes
set_option maxHeartbeats 8000000 in
theorem Qij (t : Nat) (zs : List Zone) (me fl : ByteArray) (tu : List Box6) (b : Book) (hz : zs.length ≤ 9223372036854775807 ∧ ∀ y ∈ zs, y.fitp) (hfb : b.fitp) (htl : tu.length ≤ 9223372036854775807) (B : Book) (ws : List VW) (cd : Int) (va vc v : Nat) (hB : b.small → tu.length ≤ 1048576 → B.small) (hsm0 : b.small → tu.length ≤ 1048576 → ∀ x ∈ ws, x.sm) (hwl : ws.length ≤ 1048576) (eB : Qjy zs me fl tu b = B) (eW : QlO zs me fl tu b = ws) (eC : QlP zs me fl tu b = cd) (hI : b.small → zs.length ≤ 1048576 → tu.length ≤ 1048576 → Contract P 26 [.sl 0 5 (zs.map Zone.row), .str me, .agg (b.row 0), .str fl, .sl 0 6 (tu.map Box6.row)] [] (.tup [bkV B 131 va 149 vc 154 0, .own 120 v 0 ws.length, .int .i64 cd]) (bkM B 131 va 149 vc 154 0 110 121 ++ Jk 120 v 150 0 ws)) : Contract P 5 [.sl t 5 (zs.map Zone.row), .str me, .agg (b.row 1), .str fl, .sl t 6 (tu.map Box6.row)] [] (.bool true) [] := by
  have z1 : 0 ≤ szS Zone.sz zs 1048576 → zs.length ≤ 1048576 := fun h => (Qhn (p := fun _ => True) GO (fun _ _ _ _ => trivial) (by omega) h).1
  have z2 : szS Zone.sz zs 1048576 ≤ 1048576 := by have := (Yb GO zs 1048576 (by omega)).2.2; omega
  have z3 : 0 ≤ Book.sz b (szS Zone.sz zs 1048576) → b.small := fun h => Book.sz_ok z2 h
  have z4 : Book.sz b (szS Zone.sz zs 1048576) ≤ max (szS Zone.sz zs 1048576) (-1) := (Qho b _ z2).2.2
  have tkZ : List.take zs.length (zs.map Zone.row) = zs.map Zone.row := List.take_of_length_le (by simp)
  have tkM : ∀ (k : Int), List.take zs.length ((XI k zs.length).map Zone.row) = (XI k zs.length).map Zone.row := fun k => List.take_of_length_le (by rw [List.length_map, Qg]; omega)
  have h0 : True := trivial
  have tkT : True := trivial
  simp only [Book.row]
  refine Qh (((((((Env.nil P).add 7 Qo Qhp).add 8 Qt Qjj).add 23 Qs Qdj).add 24 Qu Qjz).add 14 Qp Qhs).add 27 Qr QbN) hm Yi (nlb rfl) rfl ?_; unfold KC; simp (maxSteps := 2000000) (maxDischargeDepth := 8) only [bitvec_to_nat, reduceIte, Nat.reduceEqDiff, Nat.reduceAdd, Nat.reduceLeDiff, reduceCtorEq, Nat.reduceBEq, Nat.reduceLT, Nat.reduceMod, fmc, Qo, Qt, Qs, Qu, Qp, Qr, int_toBitVec_meta, method_specs_simp, bkV, List.length_map, Int.toNat_natCast, Nat.sub_zero, and_self, eq_self, not_true_eq_false, ne_eq, bne_self_eq_false, h0, tkZ, List.nil_append, if_true, if_false, List.map_nil, tkM, tkT, Qg, eB, eW, eC, bKG]
  refine fun _ => fun _ => ⟨⟨by omega, hz⟩, fun g1 => ⟨⟨by omega, hfb⟩, fun g2 => ⟨⟨⟨by omega, by omega⟩, htl⟩, fun g3 => ?_⟩⟩⟩
  have hsZ := z1 (by omega)
  have hsA : b.small := z3 (by omega)
  have htu : tu.length ≤ 1048576 := by unfold GG at g3; split at g3 <;> omega
  have smA := hsA.sm
  have hTZ := Qhr t zs hsZ
  have n9Z : No99 (.sl 0 5 (zs.map Zone.row)) := by simp only [No99]; exact ⟨by omega, Ky zs⟩
  have hTA := Qjk b hsA
  have n9A : No99 (.agg (b.row 0)) := by simp [Book.row, No99, JT, KM, Kc, JY]
  have q1 := UI smA
  have q2 := UJ smA
  have hcB : 0 ≤ cfB b ∧ cfB b ≤ 30000000000000 := by have := smA.2.2; unfold cfB; omega
  have eqQ : ∀ B : Book, B.small → Contract P 15 [.agg (B.row 0), .agg (B.row 0)] [] (.bool true) [] := fun B hs => by
    unfold Book.small at hs
    have h := Qjl B B ⟨by omega, by omega, by omega, hs.1.2, fun p hp => by have := hs.2.1.2 p hp; show p.bx.length ≤ _; omega⟩
    simpa using h
  have eqA := eqQ b hsA
  have hsB := hB hsA htu
  have eqG := eqQ B hsB
  have smB := hsB.sm
  have p1 := UI smB
  have p2 := UJ smB
  have hcG : 0 ≤ cfB B ∧ cfB B ≤ 30000000000000 := by have := smB.2.2; unfold cfB; omega
  have hMZ := QcH 1 zs (by omega) (by omega)
  have hMB := Qfp b (1 + 5 * (zs.length : Int)) smA (by omega)
  have hTO := QhL t zs hsZ
  have hKB := Qjs b hsA
  have hZtag : Gx (zs.map Zone.row) = zs.map Zone.row := Gd (f := Zone.row) (fun _ => rfl) zs
  have hZ98 : Zc (zs.map Zone.row) = true := Kv (f := Zone.row) (fun _ => rfl) zs
  have hZpur : ∀ (M : Nat → Option AObj) (K : Nat → Option AObj), M 501 = some (.arr 76 0 5 (zs.map Zone.row)) → Vo M K (.own 501 0 0 zs.length) = some (.sl 99 5 (zs.map Zone.row)) := fun M K hM => ZX hM (fun r hr => by obtain ⟨z, _, rfl⟩ := List.mem_map.1 hr; rfl) (by simp)
  have KA_501 : W4 (KA b) 501 := Ki (by omega) (by omega) (by omega) (by omega)
  have hTX := QjA t tu htu
  have hTT := Qgi t tu htu
  have n9T : No99 (.sl 0 6 (tu.map Box6.row)) := by simp only [No99]; exact ⟨by omega, Jj _⟩
  have KA_511 : W4 (KA b) 511 := Ki (by omega) (by omega) (by omega) (by omega)
  have hTtag : Gx (tu.map Box6.row) = tu.map Box6.row := Gd (f := Box6.row) (fun _ => rfl) tu
  have hT98 : Zc (tu.map Box6.row) = true := Kv (f := Box6.row) (fun _ => rfl) tu
  have fB511 : ∀ r ∈ tu.map Box6.row, flatOk r = true := fun r hr => by obtain ⟨z, _, rfl⟩ := List.mem_map.1 hr; rfl
  have g511 : ∀ (x y z u w : AObj), getM ((107, x) :: (112, y) :: (501, z) :: (KA b ++ [(116, u), (511, w)])) 511 = some w := fun x y z u w => by
    simp only [getM, Nat.reduceEqDiff, if_false]; rw [QL (QZ KA_511)]; rfl
  have k511 : ∀ (x y z u w : AObj) (C : List (Nat × AObj)), getM ((107, x) :: (112, y) :: (501, z) :: (gone (KA b) ++ (116, u) :: (511, w) :: C)) 511 = some w := fun x y z u w C => by
    simp only [getM, Nat.reduceEqDiff, if_false]; rw [QL (QZ (QcV KA_511))]; rfl
  have hMT := Qfq (1 + 5 * (zs.length : Int) + cfB b) tu (by omega) (by have q1 := UI (z3 (by omega)).sm; have q2 := UJ (z3 (by omega)).sm; have q3 := (z3 (by omega)).sm.2.2; have := z1 (by omega); unfold cfB; omega)
  have tkT : List.take tu.length (tu.map Box6.row) = tu.map Box6.row := List.take_of_length_le (by simp)
  have hMG := QiR va vc B 1 smB (by omega)
  have hHB := QhK B 1 smB (by omega)
  have hI1 := QtL rfl rfl (hI hsA hsZ htu)
  have hI2 := QtM rfl rfl (hI hsA hsZ htu)
  have hsm := hsm0 hsA htu
  have hcf := Qjo hsm (Nat.le_refl _)
  have hZ := QsM v ws (1 + cfB B) (by omega) hsm (by omega)
  have hH : Contract P 19 [.sl 0 8 (((W0 (1 + cfB B) ws).map VW.w).map (Word.row 0)), .int .i64 (1 + cfB B)] [] (.int .i64 (1 + cfB B + (Gu ws ws.length : Nat))) [] := by
    have h := QhF 0 0 (1 + cfB B) ws (by omega) hsm (by omega)
    rw [List.map_map]; exact h
  have eqF : Contract P 13 [.sl 0 8 ((ws.map VW.w).map (Word.row 0)), .sl 0 8 ((ws.map VW.w).map (Word.row 0))] [] (.bool true) [] := by
    have h := QhM 0 0 (ws.map VW.w) (ws.map VW.w) (by rw [List.length_map]; omega) (fun y hy => by
      obtain ⟨z, hz', rfl⟩ := List.mem_map.1 hy
      have := hsm z hz'
      unfold VW.sm at this
      show z.tu.length ≤ _; omega)
    simpa using h
  have fK : ∀ (x y z : AObj) (C : List (Nat × AObj)), ∀ p ∈ KA b, getM ((107, x) :: (112, y) :: (501, z) :: (KA b ++ C)) p.1 = some p.2 := fun x y z C => Qw (Ki (by omega) (by omega) (by omega) (by omega)) (Qw (Ki (by omega) (by omega) (by omega) (by omega)) (Qw (Ki (by omega) (by omega) (by omega) (by omega)) (JN (UK b))))
  have fG : ∀ (x y z u u5 : AObj) (B' : Book) (C : List (Nat × AObj)), ∀ p ∈ GA va vc B', getM ((107, x) :: (112, y) :: (501, z) :: (KA b ++ (116, u) :: (511, u5) :: (GA va vc B' ++ C))) p.1 = some p.2 := fun x y z u u5 B' C => Qw (JO (by omega) (by omega) (by omega) (by omega)) (Qw (JO (by omega) (by omega) (by omega) (by omega)) (Qw (JO (by omega) (by omega) (by omega) (by omega)) (KB QrJ (YX (JO (by omega) (by omega) (by omega) (by omega)) (JO (by omega) (by omega) (by omega) (by omega)) (JN (YI va vc B'))))))
  have fR : ∀ (x y z u u5 : AObj) (B' : Book) (l : List VW) (C : List (Nat × AObj)), ∀ p ∈ RA v l, getM ((107, x) :: (112, y) :: (501, z) :: (KA b ++ (116, u) :: (511, u5) :: (GA va vc B' ++ (RA v l ++ C)))) p.1 = some p.2 := fun x y z u u5 B' l C => Qw (Q8 (by omega) (by omega) (by omega)) (Qw (Q8 (by omega) (by omega) (by omega)) (Qw (Q8 (by omega) (by omega) (by omega)) (KB QtA (YX (Q8 (by omega) (by omega) (by omega)) (Q8 (by omega) (by omega) (by omega)) (KB QtJ (JN (Kt (by omega) (by omega))))))))
  have fG' : ∀ (x y z u u5 : AObj) (B' : Book) (C : List (Nat × AObj)), ∀ p ∈ GA va vc B', getM ((107, x) :: (112, y) :: (501, z) :: (gone (KA b) ++ (116, u) :: (511, u5) :: (GA va vc B' ++ C))) p.1 = some p.2 := fun x y z u u5 B' C => Qw (JO (by omega) (by omega) (by omega) (by omega)) (Qw (JO (by omega) (by omega) (by omega) (by omega)) (Qw (JO (by omega) (by omega) (by omega) (by omega)) (KB (Yy QrJ) (YX (JO (by omega) (by omega) (by omega) (by omega)) (JO (by omega) (by omega) (by omega) (by omega)) (JN (YI va vc B'))))))
  have fR' : ∀ (x y z u u5 : AObj) (B' : Book) (l : List VW) (C : List (Nat × AObj)), ∀ p ∈ RA v l, getM ((107, x) :: (112, y) :: (501, z) :: (gone (KA b) ++ (116, u) :: (511, u5) :: (GA va vc B' ++ (RA v l ++ C)))) p.1 = some p.2 := fun x y z u u5 B' l C => Qw (Q8 (by omega) (by omega) (by omega)) (Qw (Q8 (by omega) (by omega) (by omega)) (Qw (Q8 (by omega) (by omega) (by omega)) (KB (Yy QtA) (YX (Q8 (by omega) (by omega) (by omega)) (Q8 (by omega) (by omega) (by omega)) (KB QtJ (JN (Kt (by omega) (by omega))))))))
  have fH : ∀ (x y z u u5 w : AObj) (B' : Book) (l : List VW) (C : List (Nat × AObj)), ∀ p ∈ GB va vc B, getM ((107, x) :: (112, y) :: (501, z) :: (gone (KA b) ++ (116, u) :: (511, u5) :: (GA va vc B' ++ (RA v l ++ (118, w) :: (GB va vc B ++ C))))) p.1 = some p.2 := fun x y z u u5 w B' l C => Qw (Ka (by omega) (by omega) (by omega) (by omega)) (Qw (Ka (by omega) (by omega) (by omega) (by omega)) (Qw (Ka (by omega) (by omega) (by omega) (by omega)) (KB (Yy Qs2) (YX (Ka (by omega) (by omega) (by omega) (by omega)) (Ka (by omega) (by omega) (by omega) (by omega)) (KB Qs3 (KB Quh (Qw (Ka (by omega) (by omega) (by omega) (by omega)) (JN (QcJ va vc B)))))))))
  have fS : ∀ (x y z u u5 w : AObj) (B' : Book) (l : List VW) (C : List (Nat × AObj)), ∀ p ∈ RB v ws, getM ((107, x) :: (112, y) :: (501, z) :: (gone (KA b) ++ (116, u) :: (511, u5) :: (GA va vc B' ++ (RA v l ++ (118, w) :: (GB va vc B ++ (RB v ws ++ C)))))) p.1 = some p.2 := fun x y z u u5 w B' l C => Qw (Q8 (by omega) (by omega) (by omega)) (Qw (Q8 (by omega) (by omega) (by omega)) (Qw (Q8 (by omega) (by omega) (by omega)) (KB (Yy QtT) (YX (Q8 (by omega) (by omega) (by omega)) (Q8 (by omega) (by omega) (by omega)) (KB QtV (KB QtU (Qw (Q8 (by omega) (by omega) (by omega)) (KB QtW (JN (Kt (by omega) (by omega)))))))))))
  simp only [Book.row] at hTA n9A hKB
  refine ⟨_, _, .inr (.inl ⟨rfl, _, rfl, hTZ, rfl, n9Z⟩), ?_⟩
  simp (maxSteps := 2000000) (maxDischargeDepth := 8) only [bitvec_to_nat, reduceIte, Nat.reduceEqDiff, Nat.reduceAdd, Nat.reduceLeDiff, reduceCtorEq, Nat.reduceBEq, Nat.reduceLT, Nat.reduceMod, fmc, Qo, Qt, Qs, Qu, Qp, Qr, int_toBitVec_meta, method_specs_simp, bkV, List.length_map, Int.toNat_natCast, Nat.sub_zero, and_self, eq_self, not_true_eq_false, ne_eq, bne_self_eq_false, h0, tkZ, List.nil_append, if_true, if_false, List.map_nil, tkM, tkT, Qg, eB, eW, eC, bKG]
  refine ⟨_, _, .inr (.inl ⟨rfl, _, rfl, hTA, rfl, n9A⟩), ?_⟩
  simp (maxSteps := 2000000) (maxDischargeDepth := 8) only [bitvec_to_nat, reduceIte, Nat.reduceEqDiff, Nat.reduceAdd, Nat.reduceLeDiff, reduceCtorEq, Nat.reduceBEq, Nat.reduceLT, Nat.reduceMod, fmc, Qo, Qt, Qs, Qu, Qp, Qr, int_toBitVec_meta, method_specs_simp, bkV, List.length_map, Int.toNat_natCast, Nat.sub_zero, and_self, eq_self, not_true_eq_false, ne_eq, bne_self_eq_false, h0, tkZ, List.nil_append, if_true, if_false, List.map_nil, tkM, tkT, Qg, eB, eW, eC, bKG]
  refine ⟨_, _, .inr (.inl ⟨rfl, _, rfl, hTT, rfl, n9T⟩), ?_⟩
  simp (maxSteps := 2000000) (maxDischargeDepth := 8) only [bitvec_to_nat, reduceIte, Nat.reduceEqDiff, Nat.reduceAdd, Nat.reduceLeDiff, reduceCtorEq, Nat.reduceBEq, Nat.reduceLT, Nat.reduceMod, fmc, Qo, Qt, Qs, Qu, Qp, Qr, int_toBitVec_meta, method_specs_simp, bkV, List.length_map, Int.toNat_natCast, Nat.sub_zero, and_self, eq_self, not_true_eq_false, ne_eq, bne_self_eq_false, h0, tkZ, List.nil_append, if_true, if_false, List.map_nil, tkM, tkT, Qg, eB, eW, eC, bKG]
  refine ⟨⟨hsA, hsZ, htu⟩, _, _, .inr (.inr (.inl ⟨_, rfl, hTO, QaX rfl, by simp [Qc, Qb, dom], rfl, by simp [No99], by simp [GF, Ky]⟩)), ?_⟩
  simp (maxSteps := 2000000) (maxDischargeDepth := 8) only [bitvec_to_nat, reduceIte, Nat.reduceEqDiff, Nat.reduceAdd, Nat.reduceLeDiff, reduceCtorEq, Nat.reduceBEq, Nat.reduceLT, Nat.reduceMod, fmc, Qo, Qt, Qs, Qu, Qp, Qr, int_toBitVec_meta, method_specs_simp, bkV, List.length_map, Int.toNat_natCast, Nat.sub_zero, and_self, eq_self, not_true_eq_false, ne_eq, bne_self_eq_false, h0, tkZ, List.nil_append, if_true, if_false, List.map_nil, tkM, tkT, Qg, eB, eW, eC, bKG]
  refine ⟨_, _, .inr (.inr (.inl ⟨_, rfl, hKB, (YV (QV (Ki (by omega) (by omega) (by omega) (by omega)) (QV (Ki (by omega) (by omega) (by omega) (by omega)) (QV (Ki (by omega) (by omega) (by omega) (by omega)) K7)))), QbT, Qae, by simp [bkV, No99, JT], QpD⟩)), ?_⟩
  simp (maxSteps := 2000000) (maxDischargeDepth := 8) only [bitvec_to_nat, reduceIte, Nat.reduceEqDiff, Nat.reduceAdd, Nat.reduceLeDiff, reduceCtorEq, Nat.reduceBEq, Nat.reduceLT, Nat.reduceMod, fmc, Qo, Qt, Qs, Qu, Qp, Qr, int_toBitVec_meta, method_specs_simp, bkV, List.length_map, Int.toNat_natCast, Nat.sub_zero, and_self, eq_self, not_true_eq_false, ne_eq, bne_self_eq_false, h0, tkZ, List.nil_append, if_true, if_false, List.map_nil, tkM, tkT, Qg, eB, eW, eC, bKG]
  refine ⟨_, _, .inr (.inr (.inl ⟨_, rfl, hTX, QaX (by simp (config := { maxDischargeDepth := 8 }) only [getM, bKG, Nat.reduceEqDiff, if_false, reduceIte, ne_eq, not_false_eq_true, Nat.reduceLT]), by simp [Qc, Qb, dom], rfl, by simp [No99], by simp [GF, Jj]⟩)), ?_⟩
  simp (maxSteps := 2000000) (maxDischargeDepth := 8) only [bitvec_to_nat, reduceIte, Nat.reduceEqDiff, Nat.reduceAdd, Nat.reduceLeDiff, reduceCtorEq, Nat.reduceBEq, Nat.reduceLT, Nat.reduceMod, fmc, Qo, Qt, Qs, Qu, Qp, Qr, int_toBitVec_meta, method_specs_simp, bkV, List.length_map, Int.toNat_natCast, Nat.sub_zero, and_self, eq_self, not_true_eq_false, ne_eq, bne_self_eq_false, h0, tkZ, List.nil_append, if_true, if_false, List.map_nil, tkM, tkT, Qg, eB, eW, eC, bKG]
  refine ⟨_, _, Jn (r := .tup [bkV B 631 va 632 vc 633 0, .own 731 v 0 ws.length, .int .i64 cd]) (news := (GA va vc B ++ RA v ws).reverse) (keep := (501, .arr 76 0 5 (zs.map Zone.row)) :: (511, .arr 100 0 6 (tu.map Box6.row)) :: KA b) (args' := [.sl 99 5 (zs.map Zone.row), .str me, .agg (b.row 99), .str fl, .sl 99 6 (tu.map Box6.row)]) (by simp only [KH, QfH, QhO, GT, hZtag, hTtag]; exact hI1) (ZN rfl (ZN (g511 _ _ _ _ _) (fK _ _ _ _))) (QW (hZpur _ _ rfl) (QW rfl (QW (GP (fK _ _ _ _) (Qw KA_501 (Qw KA_511 (QI (UK b))))) (QW rfl (QW (ZX (g511 _ _ _ _ _) fB511 (by simp)) rfl))))) (by simp only [K6, J9 99 (by omega), QhN, QpE, hZ98, hT98]; rfl) rfl Qq9 (YV (QkG (QV (JO (by omega) (by omega) (by omega) (by omega)) (QV (JO (by omega) (by omega) (by omega) (by omega)) (QV (JO (by omega) (by omega) (by omega) (by omega)) (Ge QrJ (ZO (JO (by omega) (by omega) (by omega) (by omega)) (JO (by omega) (by omega) (by omega) (by omega)) K7))))) (QV (Q8 (by omega) (by omega) (by omega)) (QV (Q8 (by omega) (by omega) (by omega)) (QV (Q8 (by omega) (by omega) (by omega)) (Ge QtA (ZO (Q8 (by omega) (by omega) (by omega)) (Q8 (by omega) (by omega) (by omega)) K7))))))) (QpI rfl) QpJ (by simp [bkV, No99, JT, Jo]) QtO, ?_⟩
  simp (maxSteps := 2000000) (maxDischargeDepth := 8) only [bitvec_to_nat, reduceIte, Nat.reduceEqDiff, Nat.reduceAdd, Nat.reduceLeDiff, reduceCtorEq, Nat.reduceBEq, Nat.reduceLT, Nat.reduceMod, fmc, Qo, Qt, Qs, Qu, Qp, Qr, int_toBitVec_meta, method_specs_simp, bkV, List.length_map, Int.toNat_natCast, Nat.sub_zero, and_self, eq_self, not_true_eq_false, ne_eq, bne_self_eq_false, h0, tkZ, List.nil_append, if_true, if_false, List.map_nil, tkM, tkT, Qg, eB, eW, eC, bKG]
  refine ⟨_, _, Jn (r := .bool true) (news := []) (keep := GA va vc B) (args' := [.agg (B.row 99), .agg (B.row 0)]) (by simp only [KH, GT]; exact eqG) (fG _ _ _ _ _ _ _) (QW (GP (fG _ _ _ _ _ _ _) (QI (YI _ _ _))) rfl) (by simp only [K6, J9 99 (by omega), J9 0 (by omega), Bool.and_self]) rfl rfl (by simp) rfl rfl trivial (by simp), ?_⟩
  simp (maxSteps := 2000000) (maxDischargeDepth := 8) only [bitvec_to_nat, reduceIte, Nat.reduceEqDiff, Nat.reduceAdd, Nat.reduceLeDiff, reduceCtorEq, Nat.reduceBEq, Nat.reduceLT, Nat.reduceMod, fmc, Qo, Qt, Qs, Qu, Qp, Qr, int_toBitVec_meta, method_specs_simp, bkV, List.length_map, Int.toNat_natCast, Nat.sub_zero, and_self, eq_self, not_true_eq_false, ne_eq, bne_self_eq_false, h0, tkZ, List.nil_append, if_true, if_false, List.map_nil, tkM, tkT, Qg, eB, eW, eC, bKG]
  refine ⟨_, _, Jn (r := .bool true) (news := []) (keep := RA v ws) (args' := [.sl 99 8 ((ws.map VW.w).map (Word.row 99)), .sl 0 8 ((ws.map VW.w).map (Word.row 0))]) (by simp only [KH, QfH, Qbu]; exact eqF) (fR _ _ _ _ _ _ _ _) (QW (QkE rfl (fR _ _ _ _ _ _ _ _) (QI (Kt (by omega) (by omega)))) rfl) (by simp only [K6, Qi5, GC (show (99 : Nat) ≠ 98 by omega), GC (show (0 : Nat) ≠ 98 by omega)]; rfl) rfl rfl (by simp) rfl rfl trivial (by simp), ?_⟩
  simp (maxSteps := 2000000) (maxDischargeDepth := 8) only [bitvec_to_nat, reduceIte, Nat.reduceEqDiff, Nat.reduceAdd, Nat.reduceLeDiff, reduceCtorEq, Nat.reduceBEq, Nat.reduceLT, Nat.reduceMod, fmc, Qo, Qt, Qs, Qu, Qp, Qr, int_toBitVec_meta, method_specs_simp, bkV, List.length_map, Int.toNat_natCast, Nat.sub_zero, and_self, eq_self, not_true_eq_false, ne_eq, bne_self_eq_false, h0, tkZ, List.nil_append, if_true, if_false, List.map_nil, tkM, tkT, Qg, eB, eW, eC, bKG]
  refine ⟨_, _, .inr (.inl ⟨rfl, _, rfl, hTZ, rfl, n9Z⟩), ?_⟩
  simp (maxSteps := 2000000) (maxDischargeDepth := 8) only [bitvec_to_nat, reduceIte, Nat.reduceEqDiff, Nat.reduceAdd, Nat.reduceLeDiff, reduceCtorEq, Nat.reduceBEq, Nat.reduceLT, Nat.reduceMod, fmc, Qo, Qt, Qs, Qu, Qp, Qr, int_toBitVec_meta, method_specs_simp, bkV, List.length_map, Int.toNat_natCast, Nat.sub_zero, and_self, eq_self, not_true_eq_false, ne_eq, bne_self_eq_false, h0, tkZ, List.nil_append, if_true, if_false, List.map_nil, tkM, tkT, Qg, eB, eW, eC, bKG]
  refine ⟨by omega, _, _, .inr (.inl ⟨rfl, _, rfl, hTA, rfl, n9A⟩), ?_⟩
  simp (maxSteps := 2000000) (maxDischargeDepth := 8) only [bitvec_to_nat, reduceIte, Nat.reduceEqDiff, Nat.reduceAdd, Nat.reduceLeDiff, reduceCtorEq, Nat.reduceBEq, Nat.reduceLT, Nat.reduceMod, fmc, Qo, Qt, Qs, Qu, Qp, Qr, int_toBitVec_meta, method_specs_simp, bkV, List.length_map, Int.toNat_natCast, Nat.sub_zero, and_self, eq_self, not_true_eq_false, ne_eq, bne_self_eq_false, h0, tkZ, List.nil_append, if_true, if_false, List.map_nil, tkM, tkT, Qg, eB, eW, eC, bKG]
  refine ⟨_, _, Jn (r := .bool true) (news := []) (keep := KA b) (args' := [.agg (b.row 99), .agg (b.row 0)]) (by simp only [KH, GT]; exact eqA) (fK _ _ _ _) (QW (GP (fK _ _ _ _) (QI (UK b))) rfl) (by simp only [K6, J9 99 (by omega), J9 0 (by omega), Bool.and_self]) rfl rfl (by simp) rfl rfl trivial (by simp), ?_⟩
  simp (maxSteps := 2000000) (maxDischargeDepth := 8) only [bitvec_to_nat, reduceIte, Nat.reduceEqDiff, Nat.reduceAdd, Nat.reduceLeDiff, reduceCtorEq, Nat.reduceBEq, Nat.reduceLT, Nat.reduceMod, fmc, Qo, Qt, Qs, Qu, Qp, Qr, int_toBitVec_meta, method_specs_simp, bkV, List.length_map, Int.toNat_natCast, Nat.sub_zero, and_self, eq_self, not_true_eq_false, ne_eq, bne_self_eq_false, h0, tkZ, List.nil_append, if_true, if_false, List.map_nil, tkM, tkT, Qg, eB, eW, eC, bKG]
  refine ⟨_, _, .inr (.inl ⟨rfl, _, rfl, hTT, rfl, n9T⟩), ?_⟩
  simp (maxSteps := 2000000) (maxDischargeDepth := 8) only [bitvec_to_nat, reduceIte, Nat.reduceEqDiff, Nat.reduceAdd, Nat.reduceLeDiff, reduceCtorEq, Nat.reduceBEq, Nat.reduceLT, Nat.reduceMod, fmc, Qo, Qt, Qs, Qu, Qp, Qr, int_toBitVec_meta, method_specs_simp, bkV, List.length_map, Int.toNat_natCast, Nat.sub_zero, and_self, eq_self, not_true_eq_false, ne_eq, bne_self_eq_false, h0, tkZ, List.nil_append, if_true, if_false, List.map_nil, tkM, tkT, Qg, eB, eW, eC, bKG]
  refine ⟨by omega, _, _, Kr hMZ rfl (Qad rfl) (by simp [Qb, Qc, dom]) rfl rfl rfl, ?_⟩
  simp (maxSteps := 2000000) (maxDischargeDepth := 8) only [bitvec_to_nat, reduceIte, Nat.reduceEqDiff, Nat.reduceAdd, Nat.reduceLeDiff, reduceCtorEq, Nat.reduceBEq, Nat.reduceLT, Nat.reduceMod, fmc, Qo, Qt, Qs, Qu, Qp, Qr, int_toBitVec_meta, method_specs_simp, bkV, List.length_map, Int.toNat_natCast, Nat.sub_zero, and_self, eq_self, not_true_eq_false, ne_eq, bne_self_eq_false, h0, tkZ, List.nil_append, if_true, if_false, List.map_nil, tkM, tkT, Qg, eB, eW, eC, bKG]
  refine ⟨_, _, QeF hMB (fK _ _ _ _) (by have := Qbv (b := b) (a := 611) (va := 0) (c := 612) (vc := 0) (d := 613) (vd := 0) (kO := 120) (kP := 140); simpa only [bkV, Qb, Qc, Bool.and_true] using this) UH rfl, ?_⟩
  simp (maxSteps := 2000000) (maxDischargeDepth := 8) only [bitvec_to_nat, reduceIte, Nat.reduceEqDiff, Nat.reduceAdd, Nat.reduceLeDiff, reduceCtorEq, Nat.reduceBEq, Nat.reduceLT, Nat.reduceMod, fmc, Qo, Qt, Qs, Qu, Qp, Qr, int_toBitVec_meta, method_specs_simp, bkV, List.length_map, Int.toNat_natCast, Nat.sub_zero, and_self, eq_self, not_true_eq_false, ne_eq, bne_self_eq_false, h0, tkZ, List.nil_append, if_true, if_false, List.map_nil, tkM, tkT, Qg, eB, eW, eC, bKG]
  refine ⟨_, _, Kr hMT rfl (Qad (k511 _ _ _ _ _ _)) (by simp [Qb, Qc, dom]) rfl rfl rfl, ?_⟩
  simp (maxSteps := 2000000) (maxDischargeDepth := 8) only [bitvec_to_nat, reduceIte, Nat.reduceEqDiff, Nat.reduceAdd, Nat.reduceLeDiff, reduceCtorEq, Nat.reduceBEq, Nat.reduceLT, Nat.reduceMod, fmc, Qo, Qt, Qs, Qu, Qp, Qr, int_toBitVec_meta, method_specs_simp, bkV, List.length_map, Int.toNat_natCast, Nat.sub_zero, and_self, eq_self, not_true_eq_false, ne_eq, bne_self_eq_false, h0, tkZ, List.nil_append, if_true, if_false, List.map_nil, tkM, tkT, Qg, eB, eW, eC, bKG]
  refine ⟨fun h => by omega, fun _ => ⟨_, _, Jn (r := .bool true) (news := []) (keep := GA va vc B) (args' := [.agg (B.row 99), .agg (B.row 0)]) (by simp only [KH, GT]; exact eqG) (fG' _ _ _ _ _ _ _) (QW (GP (fG' _ _ _ _ _ _ _) (QI (YI _ _ _))) rfl) (by simp only [K6, J9 99 (by omega), J9 0 (by omega), Bool.and_self]) rfl rfl (by simp) rfl rfl trivial (by simp), ?_⟩⟩
  simp (maxSteps := 2000000) (maxDischargeDepth := 8) only [bitvec_to_nat, reduceIte, Nat.reduceEqDiff, Nat.reduceAdd, Nat.reduceLeDiff, reduceCtorEq, Nat.reduceBEq, Nat.reduceLT, Nat.reduceMod, fmc, Qo, Qt, Qs, Qu, Qp, Qr, int_toBitVec_meta, method_specs_simp, bkV, List.length_map, Int.toNat_natCast, Nat.sub_zero, and_self, eq_self, not_true_eq_false, ne_eq, bne_self_eq_false, h0, tkZ, List.nil_append, if_true, if_false, List.map_nil, tkM, tkT, Qg, eB, eW, eC, bKG]
  refine ⟨_, _, Jn (r := .bool true) (news := []) (keep := RA v ws) (args' := [.sl 99 8 ((ws.map VW.w).map (Word.row 99)), .sl 0 8 ((ws.map VW.w).map (Word.row 0))]) (by simp only [KH, QfH, Qbu]; exact eqF) (fR' _ _ _ _ _ _ _ _) (QW (QkE rfl (fR' _ _ _ _ _ _ _ _) (QI (Kt (by omega) (by omega)))) rfl) (by simp only [K6, Qi5, GC (show (99 : Nat) ≠ 98 by omega), GC (show (0 : Nat) ≠ 98 by omega)]; rfl) rfl rfl (by simp) rfl rfl trivial (by simp), ?_⟩
  simp (maxSteps := 2000000) (maxDischargeDepth := 8) only [bitvec_to_nat, reduceIte, Nat.reduceEqDiff, Nat.reduceAdd, Nat.reduceLeDiff, reduceCtorEq, Nat.reduceBEq, Nat.reduceLT, Nat.reduceMod, fmc, Qo, Qt, Qs, Qu, Qp, Qr, int_toBitVec_meta, method_specs_simp, bkV, List.length_map, Int.toNat_natCast, Nat.sub_zero, and_self, eq_self, not_true_eq_false, ne_eq, bne_self_eq_false, h0, tkZ, List.nil_append, if_true, if_false, List.map_nil, tkM, tkT, Qg, eB, eW, eC, bKG]
  refine ⟨_, _, Kr hMG (QhI QiP QbU) (fG' _ _ _ _ _ _ _) (by have := Qbv (b := B) (a := 631) (va := va) (c := 632) (vc := vc) (d := 633) (vd := 0) (kO := 300) (kP := 320); simpa only [bkV, Qb, Qc, Bool.and_true] using this) UH rfl UH, ?_⟩
  simp (maxSteps := 2000000) (maxDischargeDepth := 8) only [bitvec_to_nat, reduceIte, Nat.reduceEqDiff, Nat.reduceAdd, Nat.reduceLeDiff, reduceCtorEq, Nat.reduceBEq, Nat.reduceLT, Nat.reduceMod, fmc, Qo, Qt, Qs, Qu, Qp, Qr, int_toBitVec_meta, method_specs_simp, bkV, List.length_map, Int.toNat_natCast, Nat.sub_zero, and_self, eq_self, not_true_eq_false, ne_eq, bne_self_eq_false, h0, tkZ, List.nil_append, if_true, if_false, List.map_nil, tkM, tkT, Qg, eB, eW, eC, bKG]
  refine ⟨_, _, Kr hZ (Qah Qpz GQ) (fR' _ _ _ _ _ _ _ _) (by simp [Qb, Qc, OO, dom]) (Y0 Jb JM) rfl (Y0 Jb JM), ?_⟩
  simp (maxSteps := 2000000) (maxDischargeDepth := 8) only [bitvec_to_nat, reduceIte, Nat.reduceEqDiff, Nat.reduceAdd, Nat.reduceLeDiff, reduceCtorEq, Nat.reduceBEq, Nat.reduceLT, Nat.reduceMod, fmc, Qo, Qt, Qs, Qu, Qp, Qr, int_toBitVec_meta, method_specs_simp, bkV, List.length_map, Int.toNat_natCast, Nat.sub_zero, and_self, eq_self, not_true_eq_false, ne_eq, bne_self_eq_false, h0, tkZ, List.nil_append, if_true, if_false, List.map_nil, tkM, tkT, Qg, eB, eW, eC, bKG]
  refine ⟨_, _, Jn (r := .int .i64 (1 + cfB B)) (news := []) (keep := GA va vc (mb 1 B)) (args' := [.agg ((mb 1 B).row 99), .int .i64 1]) (by simp only [KH, GT, Qe7]; exact hHB) (fG' _ _ _ _ _ _ _) (QW (Qjw (fG' _ _ _ _ _ _ _) (QI (YI _ _ _))) rfl) (by simp only [K6, J9 99 (by omega)]; rfl) rfl rfl (by simp) rfl rfl trivial (by simp), ?_⟩
  simp (maxSteps := 2000000) (maxDischargeDepth := 8) only [bitvec_to_nat, reduceIte, Nat.reduceEqDiff, Nat.reduceAdd, Nat.reduceLeDiff, reduceCtorEq, Nat.reduceBEq, Nat.reduceLT, Nat.reduceMod, fmc, Qo, Qt, Qs, Qu, Qp, Qr, int_toBitVec_meta, method_specs_simp, bkV, List.length_map, Int.toNat_natCast, Nat.sub_zero, and_self, eq_self, not_true_eq_false, ne_eq, bne_self_eq_false, h0, tkZ, List.nil_append, if_true, if_false, List.map_nil, tkM, tkT, Qg, eB, eW, eC, bKG]
  refine ⟨fun h => by omega, fun _ => ⟨_, _, Jn (r := .int .i64 (1 + cfB B + (Gu ws ws.length : Nat))) (news := []) (keep := RA v (W0 (1 + cfB B) ws)) (args' := [.sl 99 8 (((W0 (1 + cfB B) ws).map VW.w).map (Word.row 99)), .int .i64 (1 + cfB B)]) (by simp only [KH, QfH, Qe7, Qbu]; exact hH) (fR' _ _ _ _ _ _ _ _) (QW (QkE GQ.symm (fR' _ _ _ _ _ _ _ _) (QI (Kt (by omega) (by omega)))) rfl) (by simp only [K6, Qi5, GC (show (99 : Nat) ≠ 98 by omega)]; rfl) rfl rfl (by simp) rfl rfl trivial (by simp), ?_⟩⟩
  simp (maxSteps := 2000000) (maxDischargeDepth := 8) only [bitvec_to_nat, reduceIte, Nat.reduceEqDiff, Nat.reduceAdd, Nat.reduceLeDiff, reduceCtorEq, Nat.reduceBEq, Nat.reduceLT, Nat.reduceMod, fmc, Qo, Qt, Qs, Qu, Qp, Qr, int_toBitVec_meta, method_specs_simp, bkV, List.length_map, Int.toNat_natCast, Nat.sub_zero, and_self, eq_self, not_true_eq_false, ne_eq, bne_self_eq_false, h0, tkZ, List.nil_append, if_true, if_false, List.map_nil, tkM, tkT, Qg, eB, eW, eC, bKG]
  refine ⟨fun h => by omega, fun _ => ⟨_, _, .inr (.inl ⟨rfl, _, rfl, hTZ, rfl, n9Z⟩), ?_⟩⟩
  simp (maxSteps := 2000000) (maxDischargeDepth := 8) only [bitvec_to_nat, reduceIte, Nat.reduceEqDiff, Nat.reduceAdd, Nat.reduceLeDiff, reduceCtorEq, Nat.reduceBEq, Nat.reduceLT, Nat.reduceMod, fmc, Qo, Qt, Qs, Qu, Qp, Qr, int_toBitVec_meta, method_specs_simp, bkV, List.length_map, Int.toNat_natCast, Nat.sub_zero, and_self, eq_self, not_true_eq_false, ne_eq, bne_self_eq_false, h0, tkZ, List.nil_append, if_true, if_false, List.map_nil, tkM, tkT, Qg, eB, eW, eC, bKG]
  refine ⟨_, _, .inr (.inl ⟨rfl, _, rfl, hTA, rfl, n9A⟩), ?_⟩
  simp (maxSteps := 2000000) (maxDischargeDepth := 8) only [bitvec_to_nat, reduceIte, Nat.reduceEqDiff, Nat.reduceAdd, Nat.reduceLeDiff, reduceCtorEq, Nat.reduceBEq, Nat.reduceLT, Nat.reduceMod, fmc, Qo, Qt, Qs, Qu, Qp, Qr, int_toBitVec_meta, method_specs_simp, bkV, List.length_map, Int.toNat_natCast, Nat.sub_zero, and_self, eq_self, not_true_eq_false, ne_eq, bne_self_eq_false, h0, tkZ, List.nil_append, if_true, if_false, List.map_nil, tkM, tkT, Qg, eB, eW, eC, bKG]
  refine ⟨_, _, .inr (.inl ⟨rfl, _, rfl, hTT, rfl, n9T⟩), ?_⟩
  simp (maxSteps := 2000000) (maxDischargeDepth := 8) only [bitvec_to_nat, reduceIte, Nat.reduceEqDiff, Nat.reduceAdd, Nat.reduceLeDiff, reduceCtorEq, Nat.reduceBEq, Nat.reduceLT, Nat.reduceMod, fmc, Qo, Qt, Qs, Qu, Qp, Qr, int_toBitVec_meta, method_specs_simp, bkV, List.length_map, Int.toNat_natCast, Nat.sub_zero, and_self, eq_self, not_true_eq_false, ne_eq, bne_self_eq_false, h0, tkZ, List.nil_append, if_true, if_false, List.map_nil, tkM, tkT, Qg, eB, eW, eC, bKG]
  refine ⟨_, _, .inr (.inr (.inl ⟨_, rfl, hI2, (YV (QkG (QV (Ka (by omega) (by omega) (by omega) (by omega)) (QV (Ka (by omega) (by omega) (by omega) (by omega)) (QV (Ka (by omega) (by omega) (by omega) (by omega)) (Ge (Yy Qs2) (ZO (Ka (by omega) (by omega) (by omega) (by omega)) (Ka (by omega) (by omega) (by omega) (by omega)) (Ge Qs3 (Ge Quh (QV (Ka (by omega) (by omega) (by omega) (by omega)) K7)))))))) (QV (Q8 (by omega) (by omega) (by omega)) (QV (Q8 (by omega) (by omega) (by omega)) (QV (Q8 (by omega) (by omega) (by omega)) (Ge (Yy QtT) (ZO (Q8 (by omega) (by omega) (by omega)) (Q8 (by omega) (by omega) (by omega)) (Ge QtV (Ge QtU (QV (Q8 (by omega) (by omega) (by omega)) K7)))))))))), (QpI rfl), QpJ, by simp [bkV, No99, JT, Jo], QtO⟩)), ?_⟩
  simp (maxSteps := 2000000) (maxDischargeDepth := 8) only [bitvec_to_nat, reduceIte, Nat.reduceEqDiff, Nat.reduceAdd, Nat.reduceLeDiff, reduceCtorEq, Nat.reduceBEq, Nat.reduceLT, Nat.reduceMod, fmc, Qo, Qt, Qs, Qu, Qp, Qr, int_toBitVec_meta, method_specs_simp, bkV, List.length_map, Int.toNat_natCast, Nat.sub_zero, and_self, eq_self, not_true_eq_false, ne_eq, bne_self_eq_false, h0, tkZ, List.nil_append, if_true, if_false, List.map_nil, tkM, tkT, Qg, eB, eW, eC, bKG]
  refine ⟨QtN (Ka (by omega) (by omega) (by omega) (by omega)) (Q8 (by omega) (by omega) (by omega)), _, _, Jn (r := .bool true) (news := []) (keep := GB va vc B) (args' := [.agg (B.row 99), .agg (B.row 0)]) (by simp only [KH, GT]; exact eqG) (fH _ _ _ _ _ _ _ _ _) (QW (GP (fH _ _ _ _ _ _ _ _ _) (QI (QcJ _ _ _))) rfl) (by simp only [K6, J9 99 (by omega), J9 0 (by omega), Bool.and_self]) rfl rfl (by simp) rfl rfl trivial (by simp), ?_⟩
  simp (maxSteps := 2000000) (maxDischargeDepth := 8) only [bitvec_to_nat, reduceIte, Nat.reduceEqDiff, Nat.reduceAdd, Nat.reduceLeDiff, reduceCtorEq, Nat.reduceBEq, Nat.reduceLT, Nat.reduceMod, fmc, Qo, Qt, Qs, Qu, Qp, Qr, int_toBitVec_meta, method_specs_simp, bkV, List.length_map, Int.toNat_natCast, Nat.sub_zero, and_self, eq_self, not_true_eq_false, ne_eq, bne_self_eq_false, h0, tkZ, List.nil_append, if_true, if_false, List.map_nil, tkM, tkT, Qg, eB, eW, eC, bKG]
  refine ⟨_, _, Jn (r := .bool true) (news := []) (keep := RB v ws) (args' := [.sl 99 8 ((ws.map VW.w).map (Word.row 99)), .sl 0 8 ((ws.map VW.w).map (Word.row 0))]) (by simp only [KH, QfH, Qbu]; exact eqF) (fS _ _ _ _ _ _ _ _ _) (QW (QkE rfl (fS _ _ _ _ _ _ _ _ _) (QI (Kt (by omega) (by omega)))) rfl) (by simp only [K6, Qi5, GC (show (99 : Nat) ≠ 98 by omega), GC (show (0 : Nat) ≠ 98 by omega)]; rfl) rfl rfl (by simp) rfl rfl trivial (by simp), ?_⟩
  simp (maxSteps := 2000000) (maxDischargeDepth := 8) only [bitvec_to_nat, reduceIte, Nat.reduceEqDiff, Nat.reduceAdd, Nat.reduceLeDiff, reduceCtorEq, Nat.reduceBEq, Nat.reduceLT, Nat.reduceMod, fmc, Qo, Qt, Qs, Qu, Qp, Qr, int_toBitVec_meta, method_specs_simp, bkV, List.length_map, Int.toNat_natCast, Nat.sub_zero, and_self, eq_self, not_true_eq_false, ne_eq, bne_self_eq_false, h0, tkZ, List.nil_append, if_true, if_false, List.map_nil, tkM, tkT, Qg, eB, eW, eC, bKG]
  refine ⟨_, _, Jn (r := .int .i64 (1 + cfB B)) (news := []) (keep := GA va vc (mb 1 B)) (args' := [.agg ((mb 1 B).row 99), .int .i64 1]) (by simp only [KH, GT, Qe7]; exact hHB) (fG' _ _ _ _ _ _ _) (QW (Qjw (fG' _ _ _ _ _ _ _) (QI (YI _ _ _))) rfl) (by simp only [K6, J9 99 (by omega)]; rfl) rfl rfl (by simp) rfl rfl trivial (by simp), ?_⟩
  simp (maxSteps := 2000000) (maxDischargeDepth := 8) only [bitvec_to_nat, reduceIte, Nat.reduceEqDiff, Nat.reduceAdd, Nat.reduceLeDiff, reduceCtorEq, Nat.reduceBEq, Nat.reduceLT, Nat.reduceMod, fmc, Qo, Qt, Qs, Qu, Qp, Qr, int_toBitVec_meta, method_specs_simp, bkV, List.length_map, Int.toNat_natCast, Nat.sub_zero, and_self, eq_self, not_true_eq_false, ne_eq, bne_self_eq_false, h0, tkZ, List.nil_append, if_true, if_false, List.map_nil, tkM, tkT, Qg, eB, eW, eC, bKG]
  refine ⟨fun h => by omega, fun _ => ⟨_, _, Jn (r := .int .i64 (1 + cfB B + (Gu ws ws.length : Nat))) (news := []) (keep := RA v (W0 (1 + cfB B) ws)) (args' := [.sl 99 8 (((W0 (1 + cfB B) ws).map VW.w).map (Word.row 99)), .int .i64 (1 + cfB B)]) (by simp only [KH, QfH, Qe7, Qbu]; exact hH) (fR' _ _ _ _ _ _ _ _) (QW (QkE GQ.symm (fR' _ _ _ _ _ _ _ _) (QI (Kt (by omega) (by omega)))) rfl) (by simp only [K6, Qi5, GC (show (99 : Nat) ≠ 98 by omega)]; rfl) rfl rfl (by simp) rfl rfl trivial (by simp), ?_⟩⟩
  simp (maxSteps := 2000000) (maxDischargeDepth := 8) only [bitvec_to_nat, reduceIte, Nat.reduceEqDiff, Nat.reduceAdd, Nat.reduceLeDiff, reduceCtorEq, Nat.reduceBEq, Nat.reduceLT, Nat.reduceMod, fmc, Qo, Qt, Qs, Qu, Qp, Qr, int_toBitVec_meta, method_specs_simp, bkV, List.length_map, Int.toNat_natCast, Nat.sub_zero, and_self, eq_self, not_true_eq_false, ne_eq, bne_self_eq_false, h0, tkZ, List.nil_append, if_true, if_false, List.map_nil, tkM, tkT, Qg, eB, eW, eC, bKG]
  exact fun h => by omega

end
end Go.Ve

namespace Go.Ve
noncomputable section
open Go.Proofs
set_option maxRecDepth 100000
open Go.ChangeShapes Go.WideShapes
set_option maxHeartbeats 8000000 in
theorem Qik (t : Nat) (zs : List Zone) (me fl : ByteArray) (tu : List Box6) (b : Book) (hz : zs.length ≤ 9223372036854775807 ∧ ∀ y ∈ zs, y.fitp) (hfb : b.fitp) (htl : tu.length ≤ 9223372036854775807) (B : Book) (cd : Int) (va vc : Nat) (hB : b.small → tu.length ≤ 1048576 → B.small) (eB : Qjy zs me fl tu b = B) (eW : QlO zs me fl tu b = []) (eC : QlP zs me fl tu b = cd) (hI : b.small → zs.length ≤ 1048576 → tu.length ≤ 1048576 → Contract P 26 [.sl 0 5 (zs.map Zone.row), .str me, .agg (b.row 0), .str fl, .sl 0 6 (tu.map Box6.row)] [] (.tup [bkV B 131 va 149 vc 154 0, .sl 98 8 [], .int .i64 cd]) (bkM B 131 va 149 vc 154 0 110 121)) : Contract P 5 [.sl t 5 (zs.map Zone.row), .str me, .agg (b.row 1), .str fl, .sl t 6 (tu.map Box6.row)] [] (.bool true) [] := by
  have z1 : 0 ≤ szS Zone.sz zs 1048576 → zs.length ≤ 1048576 := fun h => (Qhn (p := fun _ => True) GO (fun _ _ _ _ => trivial) (by omega) h).1
  have z2 : szS Zone.sz zs 1048576 ≤ 1048576 := by have := (Yb GO zs 1048576 (by omega)).2.2; omega
  have z3 : 0 ≤ Book.sz b (szS Zone.sz zs 1048576) → b.small := fun h => Book.sz_ok z2 h
  have z4 : Book.sz b (szS Zone.sz zs 1048576) ≤ max (szS Zone.sz zs 1048576) (-1) := (Qho b _ z2).2.2
  have tkZ : List.take zs.length (zs.map Zone.row) = zs.map Zone.row := List.take_of_length_le (by simp)
  have tkM : ∀ (k : Int), List.take zs.length ((XI k zs.length).map Zone.row) = (XI k zs.length).map Zone.row := fun k => List.take_of_length_le (by rw [List.length_map, Qg]; omega)
  have h0 : True := trivial
  have tkT : True := trivial
  simp only [Book.row]
  refine Qh (((((((Env.nil P).add 7 Qo Qhp).add 8 Qt Qjj).add 23 Qs Qdj).add 24 Qu Qjz).add 14 Qp Qhs).add 27 Qr QbN) hm Yi (nlb rfl) rfl ?_; unfold KC; simp (maxSteps := 2000000) (maxDischargeDepth := 8) only [bitvec_to_nat, reduceIte, Nat.reduceEqDiff, Nat.reduceAdd, Nat.reduceLeDiff, reduceCtorEq, Nat.reduceBEq, Nat.reduceLT, Nat.reduceMod, fmc, Qo, Qt, Qs, Qu, Qp, Qr, int_toBitVec_meta, method_specs_simp, bkV, List.length_map, Int.toNat_natCast, Nat.sub_zero, and_self, eq_self, not_true_eq_false, ne_eq, bne_self_eq_false, h0, tkZ, List.nil_append, if_true, if_false, List.map_nil, tkM, tkT, Qg, eB, eW, eC, bKG]
  refine fun _ => fun _ => ⟨⟨by omega, hz⟩, fun g1 => ⟨⟨by omega, hfb⟩, fun g2 => ⟨⟨⟨by omega, by omega⟩, htl⟩, fun g3 => ?_⟩⟩⟩
  have hsZ := z1 (by omega)
  have hsA : b.small := z3 (by omega)
  have htu : tu.length ≤ 1048576 := by unfold GG at g3; split at g3 <;> omega
  have smA := hsA.sm
  have hTZ := Qhr t zs hsZ
  have n9Z : No99 (.sl 0 5 (zs.map Zone.row)) := by simp only [No99]; exact ⟨by omega, Ky zs⟩
  have hTA := Qjk b hsA
  have n9A : No99 (.agg (b.row 0)) := by simp [Book.row, No99, JT, KM, Kc, JY]
  have q1 := UI smA
  have q2 := UJ smA
  have hcB : 0 ≤ cfB b ∧ cfB b ≤ 30000000000000 := by have := smA.2.2; unfold cfB; omega
  have eqQ : ∀ B : Book, B.small → Contract P 15 [.agg (B.row 0), .agg (B.row 0)] [] (.bool true) [] := fun B hs => by
    unfold Book.small at hs
    have h := Qjl B B ⟨by omega, by omega, by omega, hs.1.2, fun p hp => by have := hs.2.1.2 p hp; show p.bx.length ≤ _; omega⟩
    simpa using h
  have eqA := eqQ b hsA
  have hsB := hB hsA htu
  have eqG := eqQ B hsB
  have smB := hsB.sm
  have p1 := UI smB
  have p2 := UJ smB
  have hcG : 0 ≤ cfB B ∧ cfB B ≤ 30000000000000 := by have := smB.2.2; unfold cfB; omega
  have hMZ := QcH 1 zs (by omega) (by omega)
  have hMB := Qfp b (1 + 5 * (zs.length : Int)) smA (by omega)
  have hTO := QhL t zs hsZ
  have hKB := Qjs b hsA
  have hZtag : Gx (zs.map Zone.row) = zs.map Zone.row := Gd (f := Zone.row) (fun _ => rfl) zs
  have hZ98 : Zc (zs.map Zone.row) = true := Kv (f := Zone.row) (fun _ => rfl) zs
  have hZpur : ∀ (M : Nat → Option AObj) (K : Nat → Option AObj), M 501 = some (.arr 76 0 5 (zs.map Zone.row)) → Vo M K (.own 501 0 0 zs.length) = some (.sl 99 5 (zs.map Zone.row)) := fun M K hM => ZX hM (fun r hr => by obtain ⟨z, _, rfl⟩ := List.mem_map.1 hr; rfl) (by simp)
  have KA_501 : W4 (KA b) 501 := Ki (by omega) (by omega) (by omega) (by omega)
  have hTX := QjA t tu htu
  have hTT := Qgi t tu htu
  have n9T : No99 (.sl 0 6 (tu.map Box6.row)) := by simp only [No99]; exact ⟨by omega, Jj _⟩
  have KA_511 : W4 (KA b) 511 := Ki (by omega) (by omega) (by omega) (by omega)
  have hTtag : Gx (tu.map Box6.row) = tu.map Box6.row := Gd (f := Box6.row) (fun _ => rfl) tu
  have hT98 : Zc (tu.map Box6.row) = true := Kv (f := Box6.row) (fun _ => rfl) tu
  have fB511 : ∀ r ∈ tu.map Box6.row, flatOk r = true := fun r hr => by obtain ⟨z, _, rfl⟩ := List.mem_map.1 hr; rfl
  have g511 : ∀ (x y z u w : AObj), getM ((107, x) :: (112, y) :: (501, z) :: (KA b ++ [(116, u), (511, w)])) 511 = some w := fun x y z u w => by
    simp only [getM, Nat.reduceEqDiff, if_false]; rw [QL (QZ KA_511)]; rfl
  have k511 : ∀ (x y z u w : AObj) (C : List (Nat × AObj)), getM ((107, x) :: (112, y) :: (501, z) :: (gone (KA b) ++ (116, u) :: (511, w) :: C)) 511 = some w := fun x y z u w C => by
    simp only [getM, Nat.reduceEqDiff, if_false]; rw [QL (QZ (QcV KA_511))]; rfl
  have hMT := Qfq (1 + 5 * (zs.length : Int) + cfB b) tu (by omega) (by have q1 := UI (z3 (by omega)).sm; have q2 := UJ (z3 (by omega)).sm; have q3 := (z3 (by omega)).sm.2.2; have := z1 (by omega); unfold cfB; omega)
  have tkT : List.take tu.length (tu.map Box6.row) = tu.map Box6.row := List.take_of_length_le (by simp)
  have hMG := QiR va vc B 1 smB (by omega)
  have hHB := QhK B 1 smB (by omega)
  have hI1 := QuI rfl rfl rfl (hI hsA hsZ htu)
  have hI2 := QuJ rfl rfl rfl (hI hsA hsZ htu)
  have eqF := QhM 98 0 [] [] (by simp) (by simp)
  have hH : Contract P 19 [.sl 98 8 [], .int .i64 (1 + cfB B)] [] (.int .i64 (1 + cfB B)) [] := by simpa [Gu, W0] using QhF 98 0 (1 + cfB B) [] (by simp) (by simp) (by omega)
  have hZ := QfI 98 (1 + cfB B)
  simp only [List.map_nil, decide_true] at eqF
  have fK : ∀ (x y z : AObj) (C : List (Nat × AObj)), ∀ p ∈ KA b, getM ((107, x) :: (112, y) :: (501, z) :: (KA b ++ C)) p.1 = some p.2 := fun x y z C => Qw (Ki (by omega) (by omega) (by omega) (by omega)) (Qw (Ki (by omega) (by omega) (by omega) (by omega)) (Qw (Ki (by omega) (by omega) (by omega) (by omega)) (JN (UK b))))
  have fG : ∀ (x y z u u5 : AObj) (B' : Book) (C : List (Nat × AObj)), ∀ p ∈ GA va vc B', getM ((107, x) :: (112, y) :: (501, z) :: (KA b ++ (116, u) :: (511, u5) :: (GA va vc B' ++ C))) p.1 = some p.2 := fun x y z u u5 B' C => Qw (JO (by omega) (by omega) (by omega) (by omega)) (Qw (JO (by omega) (by omega) (by omega) (by omega)) (Qw (JO (by omega) (by omega) (by omega) (by omega)) (KB QrJ (YX (JO (by omega) (by omega) (by omega) (by omega)) (JO (by omega) (by omega) (by omega) (by omega)) (JN (YI va vc B'))))))
  have fG' : ∀ (x y z u u5 : AObj) (B' : Book) (C : List (Nat × AObj)), ∀ p ∈ GA va vc B', getM ((107, x) :: (112, y) :: (501, z) :: (gone (KA b) ++ (116, u) :: (511, u5) :: (GA va vc B' ++ C))) p.1 = some p.2 := fun x y z u u5 B' C => Qw (JO (by omega) (by omega) (by omega) (by omega)) (Qw (JO (by omega) (by omega) (by omega) (by omega)) (Qw (JO (by omega) (by omega) (by omega) (by omega)) (KB (Yy QrJ) (YX (JO (by omega) (by omega) (by omega) (by omega)) (JO (by omega) (by omega) (by omega) (by omega)) (JN (YI va vc B'))))))
  have fH : ∀ (x y z u u5 w : AObj) (B' : Book) (C : List (Nat × AObj)), ∀ p ∈ GB va vc B, getM ((107, x) :: (112, y) :: (501, z) :: (gone (KA b) ++ (116, u) :: (511, u5) :: (GA va vc B' ++ ((118, w) :: (GB va vc B ++ C))))) p.1 = some p.2 := fun x y z u u5 w B' C => Qw (Ka (by omega) (by omega) (by omega) (by omega)) (Qw (Ka (by omega) (by omega) (by omega) (by omega)) (Qw (Ka (by omega) (by omega) (by omega) (by omega)) (KB (Yy Qs2) (YX (Ka (by omega) (by omega) (by omega) (by omega)) (Ka (by omega) (by omega) (by omega) (by omega)) (KB Qs3 (Qw (Ka (by omega) (by omega) (by omega) (by omega)) (JN (QcJ va vc B))))))))
  simp only [Book.row] at hTA n9A hKB
  refine ⟨_, _, .inr (.inl ⟨rfl, _, rfl, hTZ, rfl, n9Z⟩), ?_⟩
  simp (maxSteps := 2000000) (maxDischargeDepth := 8) only [bitvec_to_nat, reduceIte, Nat.reduceEqDiff, Nat.reduceAdd, Nat.reduceLeDiff, reduceCtorEq, Nat.reduceBEq, Nat.reduceLT, Nat.reduceMod, fmc, Qo, Qt, Qs, Qu, Qp, Qr, int_toBitVec_meta, method_specs_simp, bkV, List.length_map, Int.toNat_natCast, Nat.sub_zero, and_self, eq_self, not_true_eq_false, ne_eq, bne_self_eq_false, h0, tkZ, List.nil_append, if_true, if_false, List.map_nil, tkM, tkT, Qg, eB, eW, eC, bKG]
  refine ⟨_, _, .inr (.inl ⟨rfl, _, rfl, hTA, rfl, n9A⟩), ?_⟩
  simp (maxSteps := 2000000) (maxDischargeDepth := 8) only [bitvec_to_nat, reduceIte, Nat.reduceEqDiff, Nat.reduceAdd, Nat.reduceLeDiff, reduceCtorEq, Nat.reduceBEq, Nat.reduceLT, Nat.reduceMod, fmc, Qo, Qt, Qs, Qu, Qp, Qr, int_toBitVec_meta, method_specs_simp, bkV, List.length_map, Int.toNat_natCast, Nat.sub_zero, and_self, eq_self, not_true_eq_false, ne_eq, bne_self_eq_false, h0, tkZ, List.nil_append, if_true, if_false, List.map_nil, tkM, tkT, Qg, eB, eW, eC, bKG]
  refine ⟨_, _, .inr (.inl ⟨rfl, _, rfl, hTT, rfl, n9T⟩), ?_⟩
  simp (maxSteps := 2000000) (maxDischargeDepth := 8) only [bitvec_to_nat, reduceIte, Nat.reduceEqDiff, Nat.reduceAdd, Nat.reduceLeDiff, reduceCtorEq, Nat.reduceBEq, Nat.reduceLT, Nat.reduceMod, fmc, Qo, Qt, Qs, Qu, Qp, Qr, int_toBitVec_meta, method_specs_simp, bkV, List.length_map, Int.toNat_natCast, Nat.sub_zero, and_self, eq_self, not_true_eq_false, ne_eq, bne_self_eq_false, h0, tkZ, List.nil_append, if_true, if_false, List.map_nil, tkM, tkT, Qg, eB, eW, eC, bKG]
  refine ⟨⟨hsA, hsZ, htu⟩, _, _, .inr (.inr (.inl ⟨_, rfl, hTO, QaX rfl, by simp [Qc, Qb, dom], rfl, by simp [No99], by simp [GF, Ky]⟩)), ?_⟩
  simp (maxSteps := 2000000) (maxDischargeDepth := 8) only [bitvec_to_nat, reduceIte, Nat.reduceEqDiff, Nat.reduceAdd, Nat.reduceLeDiff, reduceCtorEq, Nat.reduceBEq, Nat.reduceLT, Nat.reduceMod, fmc, Qo, Qt, Qs, Qu, Qp, Qr, int_toBitVec_meta, method_specs_simp, bkV, List.length_map, Int.toNat_natCast, Nat.sub_zero, and_self, eq_self, not_true_eq_false, ne_eq, bne_self_eq_false, h0, tkZ, List.nil_append, if_true, if_false, List.map_nil, tkM, tkT, Qg, eB, eW, eC, bKG]
  refine ⟨_, _, .inr (.inr (.inl ⟨_, rfl, hKB, (YV (QV (Ki (by omega) (by omega) (by omega) (by omega)) (QV (Ki (by omega) (by omega) (by omega) (by omega)) (QV (Ki (by omega) (by omega) (by omega) (by omega)) K7)))), QbT, Qae, by simp [bkV, No99, JT], QpD⟩)), ?_⟩
  simp (maxSteps := 2000000) (maxDischargeDepth := 8) only [bitvec_to_nat, reduceIte, Nat.reduceEqDiff, Nat.reduceAdd, Nat.reduceLeDiff, reduceCtorEq, Nat.reduceBEq, Nat.reduceLT, Nat.reduceMod, fmc, Qo, Qt, Qs, Qu, Qp, Qr, int_toBitVec_meta, method_specs_simp, bkV, List.length_map, Int.toNat_natCast, Nat.sub_zero, and_self, eq_self, not_true_eq_false, ne_eq, bne_self_eq_false, h0, tkZ, List.nil_append, if_true, if_false, List.map_nil, tkM, tkT, Qg, eB, eW, eC, bKG]
  refine ⟨_, _, .inr (.inr (.inl ⟨_, rfl, hTX, QaX (by simp (config := { maxDischargeDepth := 8 }) only [getM, bKG, Nat.reduceEqDiff, if_false, reduceIte, ne_eq, not_false_eq_true, Nat.reduceLT]), by simp [Qc, Qb, dom], rfl, by simp [No99], by simp [GF, Jj]⟩)), ?_⟩
  simp (maxSteps := 2000000) (maxDischargeDepth := 8) only [bitvec_to_nat, reduceIte, Nat.reduceEqDiff, Nat.reduceAdd, Nat.reduceLeDiff, reduceCtorEq, Nat.reduceBEq, Nat.reduceLT, Nat.reduceMod, fmc, Qo, Qt, Qs, Qu, Qp, Qr, int_toBitVec_meta, method_specs_simp, bkV, List.length_map, Int.toNat_natCast, Nat.sub_zero, and_self, eq_self, not_true_eq_false, ne_eq, bne_self_eq_false, h0, tkZ, List.nil_append, if_true, if_false, List.map_nil, tkM, tkT, Qg, eB, eW, eC, bKG]
  refine ⟨_, _, Jn (r := .tup [bkV B 631 va 632 vc 633 0, .sl 98 8 [], .int .i64 cd]) (news := (GA va vc B).reverse) (keep := (501, .arr 76 0 5 (zs.map Zone.row)) :: (511, .arr 100 0 6 (tu.map Box6.row)) :: KA b) (args' := [.sl 99 5 (zs.map Zone.row), .str me, .agg (b.row 99), .str fl, .sl 99 6 (tu.map Box6.row)]) (by simp only [KH, QfH, QhO, GT, hZtag, hTtag]; exact hI1) (ZN rfl (ZN (g511 _ _ _ _ _) (fK _ _ _ _))) (QW (hZpur _ _ rfl) (QW rfl (QW (GP (fK _ _ _ _) (Qw KA_501 (Qw KA_511 (QI (UK b))))) (QW rfl (QW (ZX (g511 _ _ _ _ _) fB511 (by simp)) rfl))))) (by simp only [K6, J9 99 (by omega), QhN, QpE, hZ98, hT98]; rfl) rfl Qra (YV (QV (JO (by omega) (by omega) (by omega) (by omega)) (QV (JO (by omega) (by omega) (by omega) (by omega)) (QV (JO (by omega) (by omega) (by omega) (by omega)) (Ge QrJ (ZO (JO (by omega) (by omega) (by omega) (by omega)) (JO (by omega) (by omega) (by omega) (by omega)) K7)))))) (QpK rfl rfl) Qae (by simp [bkV, No99, JT, Jo]) QtP, ?_⟩
  simp (maxSteps := 2000000) (maxDischargeDepth := 8) only [bitvec_to_nat, reduceIte, Nat.reduceEqDiff, Nat.reduceAdd, Nat.reduceLeDiff, reduceCtorEq, Nat.reduceBEq, Nat.reduceLT, Nat.reduceMod, fmc, Qo, Qt, Qs, Qu, Qp, Qr, int_toBitVec_meta, method_specs_simp, bkV, List.length_map, Int.toNat_natCast, Nat.sub_zero, and_self, eq_self, not_true_eq_false, ne_eq, bne_self_eq_false, h0, tkZ, List.nil_append, if_true, if_false, List.map_nil, tkM, tkT, Qg, eB, eW, eC, bKG]
  refine ⟨_, _, Jn (r := .bool true) (news := []) (keep := GA va vc B) (args' := [.agg (B.row 99), .agg (B.row 0)]) (by simp only [KH, GT]; exact eqG) (fG _ _ _ _ _ _ _) (QW (GP (fG _ _ _ _ _ _ _) (QI (YI _ _ _))) rfl) (by simp only [K6, J9 99 (by omega), J9 0 (by omega), Bool.and_self]) rfl rfl (by simp) rfl rfl trivial (by simp), ?_⟩
  simp (maxSteps := 2000000) (maxDischargeDepth := 8) only [bitvec_to_nat, reduceIte, Nat.reduceEqDiff, Nat.reduceAdd, Nat.reduceLeDiff, reduceCtorEq, Nat.reduceBEq, Nat.reduceLT, Nat.reduceMod, fmc, Qo, Qt, Qs, Qu, Qp, Qr, int_toBitVec_meta, method_specs_simp, bkV, List.length_map, Int.toNat_natCast, Nat.sub_zero, and_self, eq_self, not_true_eq_false, ne_eq, bne_self_eq_false, h0, tkZ, List.nil_append, if_true, if_false, List.map_nil, tkM, tkT, Qg, eB, eW, eC, bKG]
  refine ⟨_, _, .inr (.inl ⟨rfl, _, rfl, eqF, rfl, trivial⟩), ?_⟩
  simp (maxSteps := 2000000) (maxDischargeDepth := 8) only [bitvec_to_nat, reduceIte, Nat.reduceEqDiff, Nat.reduceAdd, Nat.reduceLeDiff, reduceCtorEq, Nat.reduceBEq, Nat.reduceLT, Nat.reduceMod, fmc, Qo, Qt, Qs, Qu, Qp, Qr, int_toBitVec_meta, method_specs_simp, bkV, List.length_map, Int.toNat_natCast, Nat.sub_zero, and_self, eq_self, not_true_eq_false, ne_eq, bne_self_eq_false, h0, tkZ, List.nil_append, if_true, if_false, List.map_nil, tkM, tkT, Qg, eB, eW, eC, bKG]
  refine ⟨_, _, .inr (.inl ⟨rfl, _, rfl, hTZ, rfl, n9Z⟩), ?_⟩
  simp (maxSteps := 2000000) (maxDischargeDepth := 8) only [bitvec_to_nat, reduceIte, Nat.reduceEqDiff, Nat.reduceAdd, Nat.reduceLeDiff, reduceCtorEq, Nat.reduceBEq, Nat.reduceLT, Nat.reduceMod, fmc, Qo, Qt, Qs, Qu, Qp, Qr, int_toBitVec_meta, method_specs_simp, bkV, List.length_map, Int.toNat_natCast, Nat.sub_zero, and_self, eq_self, not_true_eq_false, ne_eq, bne_self_eq_false, h0, tkZ, List.nil_append, if_true, if_false, List.map_nil, tkM, tkT, Qg, eB, eW, eC, bKG]
  refine ⟨by omega, _, _, .inr (.inl ⟨rfl, _, rfl, hTA, rfl, n9A⟩), ?_⟩
  simp (maxSteps := 2000000) (maxDischargeDepth := 8) only [bitvec_to_nat, reduceIte, Nat.reduceEqDiff, Nat.reduceAdd, Nat.reduceLeDiff, reduceCtorEq, Nat.reduceBEq, Nat.reduceLT, Nat.reduceMod, fmc, Qo, Qt, Qs, Qu, Qp, Qr, int_toBitVec_meta, method_specs_simp, bkV, List.length_map, Int.toNat_natCast, Nat.sub_zero, and_self, eq_self, not_true_eq_false, ne_eq, bne_self_eq_false, h0, tkZ, List.nil_append, if_true, if_false, List.map_nil, tkM, tkT, Qg, eB, eW, eC, bKG]
  refine ⟨_, _, Jn (r := .bool true) (news := []) (keep := KA b) (args' := [.agg (b.row 99), .agg (b.row 0)]) (by simp only [KH, GT]; exact eqA) (fK _ _ _ _) (QW (GP (fK _ _ _ _) (QI (UK b))) rfl) (by simp only [K6, J9 99 (by omega), J9 0 (by omega), Bool.and_self]) rfl rfl (by simp) rfl rfl trivial (by simp), ?_⟩
  simp (maxSteps := 2000000) (maxDischargeDepth := 8) only [bitvec_to_nat, reduceIte, Nat.reduceEqDiff, Nat.reduceAdd, Nat.reduceLeDiff, reduceCtorEq, Nat.reduceBEq, Nat.reduceLT, Nat.reduceMod, fmc, Qo, Qt, Qs, Qu, Qp, Qr, int_toBitVec_meta, method_specs_simp, bkV, List.length_map, Int.toNat_natCast, Nat.sub_zero, and_self, eq_self, not_true_eq_false, ne_eq, bne_self_eq_false, h0, tkZ, List.nil_append, if_true, if_false, List.map_nil, tkM, tkT, Qg, eB, eW, eC, bKG]
  refine ⟨_, _, .inr (.inl ⟨rfl, _, rfl, hTT, rfl, n9T⟩), ?_⟩
  simp (maxSteps := 2000000) (maxDischargeDepth := 8) only [bitvec_to_nat, reduceIte, Nat.reduceEqDiff, Nat.reduceAdd, Nat.reduceLeDiff, reduceCtorEq, Nat.reduceBEq, Nat.reduceLT, Nat.reduceMod, fmc, Qo, Qt, Qs, Qu, Qp, Qr, int_toBitVec_meta, method_specs_simp, bkV, List.length_map, Int.toNat_natCast, Nat.sub_zero, and_self, eq_self, not_true_eq_false, ne_eq, bne_self_eq_false, h0, tkZ, List.nil_append, if_true, if_false, List.map_nil, tkM, tkT, Qg, eB, eW, eC, bKG]
  refine ⟨by omega, _, _, Kr hMZ rfl (Qad rfl) (by simp [Qb, Qc, dom]) rfl rfl rfl, ?_⟩
  simp (maxSteps := 2000000) (maxDischargeDepth := 8) only [bitvec_to_nat, reduceIte, Nat.reduceEqDiff, Nat.reduceAdd, Nat.reduceLeDiff, reduceCtorEq, Nat.reduceBEq, Nat.reduceLT, Nat.reduceMod, fmc, Qo, Qt, Qs, Qu, Qp, Qr, int_toBitVec_meta, method_specs_simp, bkV, List.length_map, Int.toNat_natCast, Nat.sub_zero, and_self, eq_self, not_true_eq_false, ne_eq, bne_self_eq_false, h0, tkZ, List.nil_append, if_true, if_false, List.map_nil, tkM, tkT, Qg, eB, eW, eC, bKG]
  refine ⟨_, _, QeF hMB (fK _ _ _ _) (by have := Qbv (b := b) (a := 611) (va := 0) (c := 612) (vc := 0) (d := 613) (vd := 0) (kO := 120) (kP := 140); simpa only [bkV, Qb, Qc, Bool.and_true] using this) UH rfl, ?_⟩
  simp (maxSteps := 2000000) (maxDischargeDepth := 8) only [bitvec_to_nat, reduceIte, Nat.reduceEqDiff, Nat.reduceAdd, Nat.reduceLeDiff, reduceCtorEq, Nat.reduceBEq, Nat.reduceLT, Nat.reduceMod, fmc, Qo, Qt, Qs, Qu, Qp, Qr, int_toBitVec_meta, method_specs_simp, bkV, List.length_map, Int.toNat_natCast, Nat.sub_zero, and_self, eq_self, not_true_eq_false, ne_eq, bne_self_eq_false, h0, tkZ, List.nil_append, if_true, if_false, List.map_nil, tkM, tkT, Qg, eB, eW, eC, bKG]
  refine ⟨_, _, Kr hMT rfl (Qad (k511 _ _ _ _ _ _)) (by simp [Qb, Qc, dom]) rfl rfl rfl, ?_⟩
  simp (maxSteps := 2000000) (maxDischargeDepth := 8) only [bitvec_to_nat, reduceIte, Nat.reduceEqDiff, Nat.reduceAdd, Nat.reduceLeDiff, reduceCtorEq, Nat.reduceBEq, Nat.reduceLT, Nat.reduceMod, fmc, Qo, Qt, Qs, Qu, Qp, Qr, int_toBitVec_meta, method_specs_simp, bkV, List.length_map, Int.toNat_natCast, Nat.sub_zero, and_self, eq_self, not_true_eq_false, ne_eq, bne_self_eq_false, h0, tkZ, List.nil_append, if_true, if_false, List.map_nil, tkM, tkT, Qg, eB, eW, eC, bKG]
  refine ⟨fun h => by omega, fun _ => ⟨_, _, Jn (r := .bool true) (news := []) (keep := GA va vc B) (args' := [.agg (B.row 99), .agg (B.row 0)]) (by simp only [KH, GT]; exact eqG) (fG' _ _ _ _ _ _ _) (QW (GP (fG' _ _ _ _ _ _ _) (QI (YI _ _ _))) rfl) (by simp only [K6, J9 99 (by omega), J9 0 (by omega), Bool.and_self]) rfl rfl (by simp) rfl rfl trivial (by simp), ?_⟩⟩
  simp (maxSteps := 2000000) (maxDischargeDepth := 8) only [bitvec_to_nat, reduceIte, Nat.reduceEqDiff, Nat.reduceAdd, Nat.reduceLeDiff, reduceCtorEq, Nat.reduceBEq, Nat.reduceLT, Nat.reduceMod, fmc, Qo, Qt, Qs, Qu, Qp, Qr, int_toBitVec_meta, method_specs_simp, bkV, List.length_map, Int.toNat_natCast, Nat.sub_zero, and_self, eq_self, not_true_eq_false, ne_eq, bne_self_eq_false, h0, tkZ, List.nil_append, if_true, if_false, List.map_nil, tkM, tkT, Qg, eB, eW, eC, bKG]
  refine ⟨_, _, .inr (.inl ⟨rfl, _, rfl, eqF, rfl, trivial⟩), ?_⟩
  simp (maxSteps := 2000000) (maxDischargeDepth := 8) only [bitvec_to_nat, reduceIte, Nat.reduceEqDiff, Nat.reduceAdd, Nat.reduceLeDiff, reduceCtorEq, Nat.reduceBEq, Nat.reduceLT, Nat.reduceMod, fmc, Qo, Qt, Qs, Qu, Qp, Qr, int_toBitVec_meta, method_specs_simp, bkV, List.length_map, Int.toNat_natCast, Nat.sub_zero, and_self, eq_self, not_true_eq_false, ne_eq, bne_self_eq_false, h0, tkZ, List.nil_append, if_true, if_false, List.map_nil, tkM, tkT, Qg, eB, eW, eC, bKG]
  refine ⟨_, _, Kr hMG (QhI QiP QbU) (fG' _ _ _ _ _ _ _) (by have := Qbv (b := B) (a := 631) (va := va) (c := 632) (vc := vc) (d := 633) (vd := 0) (kO := 300) (kP := 320); simpa only [bkV, Qb, Qc, Bool.and_true] using this) UH rfl UH, ?_⟩
  simp (maxSteps := 2000000) (maxDischargeDepth := 8) only [bitvec_to_nat, reduceIte, Nat.reduceEqDiff, Nat.reduceAdd, Nat.reduceLeDiff, reduceCtorEq, Nat.reduceBEq, Nat.reduceLT, Nat.reduceMod, fmc, Qo, Qt, Qs, Qu, Qp, Qr, int_toBitVec_meta, method_specs_simp, bkV, List.length_map, Int.toNat_natCast, Nat.sub_zero, and_self, eq_self, not_true_eq_false, ne_eq, bne_self_eq_false, h0, tkZ, List.nil_append, if_true, if_false, List.map_nil, tkM, tkT, Qg, eB, eW, eC, bKG]
  refine ⟨_, _, .inr (.inl ⟨rfl, _, rfl, hZ, rfl, trivial⟩), ?_⟩
  simp (maxSteps := 2000000) (maxDischargeDepth := 8) only [bitvec_to_nat, reduceIte, Nat.reduceEqDiff, Nat.reduceAdd, Nat.reduceLeDiff, reduceCtorEq, Nat.reduceBEq, Nat.reduceLT, Nat.reduceMod, fmc, Qo, Qt, Qs, Qu, Qp, Qr, int_toBitVec_meta, method_specs_simp, bkV, List.length_map, Int.toNat_natCast, Nat.sub_zero, and_self, eq_self, not_true_eq_false, ne_eq, bne_self_eq_false, h0, tkZ, List.nil_append, if_true, if_false, List.map_nil, tkM, tkT, Qg, eB, eW, eC, bKG]
  refine ⟨_, _, Jn (r := .int .i64 (1 + cfB B)) (news := []) (keep := GA va vc (mb 1 B)) (args' := [.agg ((mb 1 B).row 99), .int .i64 1]) (by simp only [KH, GT, Qe7]; exact hHB) (fG' _ _ _ _ _ _ _) (QW (Qjw (fG' _ _ _ _ _ _ _) (QI (YI _ _ _))) rfl) (by simp only [K6, J9 99 (by omega)]; rfl) rfl rfl (by simp) rfl rfl trivial (by simp), ?_⟩
  simp (maxSteps := 2000000) (maxDischargeDepth := 8) only [bitvec_to_nat, reduceIte, Nat.reduceEqDiff, Nat.reduceAdd, Nat.reduceLeDiff, reduceCtorEq, Nat.reduceBEq, Nat.reduceLT, Nat.reduceMod, fmc, Qo, Qt, Qs, Qu, Qp, Qr, int_toBitVec_meta, method_specs_simp, bkV, List.length_map, Int.toNat_natCast, Nat.sub_zero, and_self, eq_self, not_true_eq_false, ne_eq, bne_self_eq_false, h0, tkZ, List.nil_append, if_true, if_false, List.map_nil, tkM, tkT, Qg, eB, eW, eC, bKG]
  refine ⟨fun h => by omega, fun _ => ⟨_, _, .inr (.inl ⟨rfl, _, rfl, hH, rfl, trivial⟩), ?_⟩⟩
  simp (maxSteps := 2000000) (maxDischargeDepth := 8) only [bitvec_to_nat, reduceIte, Nat.reduceEqDiff, Nat.reduceAdd, Nat.reduceLeDiff, reduceCtorEq, Nat.reduceBEq, Nat.reduceLT, Nat.reduceMod, fmc, Qo, Qt, Qs, Qu, Qp, Qr, int_toBitVec_meta, method_specs_simp, bkV, List.length_map, Int.toNat_natCast, Nat.sub_zero, and_self, eq_self, not_true_eq_false, ne_eq, bne_self_eq_false, h0, tkZ, List.nil_append, if_true, if_false, List.map_nil, tkM, tkT, Qg, eB, eW, eC, bKG]
  refine ⟨fun h => by omega, fun _ => ⟨_, _, .inr (.inl ⟨rfl, _, rfl, hTZ, rfl, n9Z⟩), ?_⟩⟩
  simp (maxSteps := 2000000) (maxDischargeDepth := 8) only [bitvec_to_nat, reduceIte, Nat.reduceEqDiff, Nat.reduceAdd, Nat.reduceLeDiff, reduceCtorEq, Nat.reduceBEq, Nat.reduceLT, Nat.reduceMod, fmc, Qo, Qt, Qs, Qu, Qp, Qr, int_toBitVec_meta, method_specs_simp, bkV, List.length_map, Int.toNat_natCast, Nat.sub_zero, and_self, eq_self, not_true_eq_false, ne_eq, bne_self_eq_false, h0, tkZ, List.nil_append, if_true, if_false, List.map_nil, tkM, tkT, Qg, eB, eW, eC, bKG]
  refine ⟨_, _, .inr (.inl ⟨rfl, _, rfl, hTA, rfl, n9A⟩), ?_⟩
  simp (maxSteps := 2000000) (maxDischargeDepth := 8) only [bitvec_to_nat, reduceIte, Nat.reduceEqDiff, Nat.reduceAdd, Nat.reduceLeDiff, reduceCtorEq, Nat.reduceBEq, Nat.reduceLT, Nat.reduceMod, fmc, Qo, Qt, Qs, Qu, Qp, Qr, int_toBitVec_meta, method_specs_simp, bkV, List.length_map, Int.toNat_natCast, Nat.sub_zero, and_self, eq_self, not_true_eq_false, ne_eq, bne_self_eq_false, h0, tkZ, List.nil_append, if_true, if_false, List.map_nil, tkM, tkT, Qg, eB, eW, eC, bKG]
  refine ⟨_, _, .inr (.inl ⟨rfl, _, rfl, hTT, rfl, n9T⟩), ?_⟩
  simp (maxSteps := 2000000) (maxDischargeDepth := 8) only [bitvec_to_nat, reduceIte, Nat.reduceEqDiff, Nat.reduceAdd, Nat.reduceLeDiff, reduceCtorEq, Nat.reduceBEq, Nat.reduceLT, Nat.reduceMod, fmc, Qo, Qt, Qs, Qu, Qp, Qr, int_toBitVec_meta, method_specs_simp, bkV, List.length_map, Int.toNat_natCast, Nat.sub_zero, and_self, eq_self, not_true_eq_false, ne_eq, bne_self_eq_false, h0, tkZ, List.nil_append, if_true, if_false, List.map_nil, tkM, tkT, Qg, eB, eW, eC, bKG]
  refine ⟨_, _, .inr (.inr (.inl ⟨_, rfl, hI2, (YV (QV (Ka (by omega) (by omega) (by omega) (by omega)) (QV (Ka (by omega) (by omega) (by omega) (by omega)) (QV (Ka (by omega) (by omega) (by omega) (by omega)) (Ge (Yy Qs2) (ZO (Ka (by omega) (by omega) (by omega) (by omega)) (Ka (by omega) (by omega) (by omega) (by omega)) (Ge Qs3 (QV (Ka (by omega) (by omega) (by omega) (by omega)) K7)))))))), (QpK rfl rfl), Qae, by simp [bkV, No99, JT, Jo], QtP⟩)), ?_⟩
  simp (maxSteps := 2000000) (maxDischargeDepth := 8) only [bitvec_to_nat, reduceIte, Nat.reduceEqDiff, Nat.reduceAdd, Nat.reduceLeDiff, reduceCtorEq, Nat.reduceBEq, Nat.reduceLT, Nat.reduceMod, fmc, Qo, Qt, Qs, Qu, Qp, Qr, int_toBitVec_meta, method_specs_simp, bkV, List.length_map, Int.toNat_natCast, Nat.sub_zero, and_self, eq_self, not_true_eq_false, ne_eq, bne_self_eq_false, h0, tkZ, List.nil_append, if_true, if_false, List.map_nil, tkM, tkT, Qg, eB, eW, eC, bKG]
  refine ⟨QpH (Ka (by omega) (by omega) (by omega) (by omega)), _, _, Jn (r := .bool true) (news := []) (keep := GB va vc B) (args' := [.agg (B.row 99), .agg (B.row 0)]) (by simp only [KH, GT]; exact eqG) (fH _ _ _ _ _ _ _ _) (QW (GP (fH _ _ _ _ _ _ _ _) (QI (QcJ _ _ _))) rfl) (by simp only [K6, J9 99 (by omega), J9 0 (by omega), Bool.and_self]) rfl rfl (by simp) rfl rfl trivial (by simp), ?_⟩
  simp (maxSteps := 2000000) (maxDischargeDepth := 8) only [bitvec_to_nat, reduceIte, Nat.reduceEqDiff, Nat.reduceAdd, Nat.reduceLeDiff, reduceCtorEq, Nat.reduceBEq, Nat.reduceLT, Nat.reduceMod, fmc, Qo, Qt, Qs, Qu, Qp, Qr, int_toBitVec_meta, method_specs_simp, bkV, List.length_map, Int.toNat_natCast, Nat.sub_zero, and_self, eq_self, not_true_eq_false, ne_eq, bne_self_eq_false, h0, tkZ, List.nil_append, if_true, if_false, List.map_nil, tkM, tkT, Qg, eB, eW, eC, bKG]
  refine ⟨_, _, .inr (.inl ⟨rfl, _, rfl, eqF, rfl, trivial⟩), ?_⟩
  simp (maxSteps := 2000000) (maxDischargeDepth := 8) only [bitvec_to_nat, reduceIte, Nat.reduceEqDiff, Nat.reduceAdd, Nat.reduceLeDiff, reduceCtorEq, Nat.reduceBEq, Nat.reduceLT, Nat.reduceMod, fmc, Qo, Qt, Qs, Qu, Qp, Qr, int_toBitVec_meta, method_specs_simp, bkV, List.length_map, Int.toNat_natCast, Nat.sub_zero, and_self, eq_self, not_true_eq_false, ne_eq, bne_self_eq_false, h0, tkZ, List.nil_append, if_true, if_false, List.map_nil, tkM, tkT, Qg, eB, eW, eC, bKG]
  refine ⟨_, _, Jn (r := .int .i64 (1 + cfB B)) (news := []) (keep := GA va vc (mb 1 B)) (args' := [.agg ((mb 1 B).row 99), .int .i64 1]) (by simp only [KH, GT, Qe7]; exact hHB) (fG' _ _ _ _ _ _ _) (QW (Qjw (fG' _ _ _ _ _ _ _) (QI (YI _ _ _))) rfl) (by simp only [K6, J9 99 (by omega)]; rfl) rfl rfl (by simp) rfl rfl trivial (by simp), ?_⟩
  simp (maxSteps := 2000000) (maxDischargeDepth := 8) only [bitvec_to_nat, reduceIte, Nat.reduceEqDiff, Nat.reduceAdd, Nat.reduceLeDiff, reduceCtorEq, Nat.reduceBEq, Nat.reduceLT, Nat.reduceMod, fmc, Qo, Qt, Qs, Qu, Qp, Qr, int_toBitVec_meta, method_specs_simp, bkV, List.length_map, Int.toNat_natCast, Nat.sub_zero, and_self, eq_self, not_true_eq_false, ne_eq, bne_self_eq_false, h0, tkZ, List.nil_append, if_true, if_false, List.map_nil, tkM, tkT, Qg, eB, eW, eC, bKG]
  refine ⟨fun h => by omega, fun _ => ⟨_, _, .inr (.inl ⟨rfl, _, rfl, hH, rfl, trivial⟩), ?_⟩⟩
  simp (maxSteps := 2000000) (maxDischargeDepth := 8) only [bitvec_to_nat, reduceIte, Nat.reduceEqDiff, Nat.reduceAdd, Nat.reduceLeDiff, reduceCtorEq, Nat.reduceBEq, Nat.reduceLT, Nat.reduceMod, fmc, Qo, Qt, Qs, Qu, Qp, Qr, int_toBitVec_meta, method_specs_simp, bkV, List.length_map, Int.toNat_natCast, Nat.sub_zero, and_self, eq_self, not_true_eq_false, ne_eq, bne_self_eq_false, h0, tkZ, List.nil_append, if_true, if_false, List.map_nil, tkM, tkT, Qg, eB, eW, eC, bKG]
  exact fun h => by omega

end
end Go.Ve

namespace Go.Ve
noncomputable section
open Go.Proofs
set_option maxRecDepth 100000
open Go.ChangeShapes Go.WideShapes
set_option maxHeartbeats 8000000 in
theorem Qil (t : Nat) (zs : List Zone) (me fl : ByteArray) (tu : List Box6) (b : Book) (hz : zs.length ≤ 9223372036854775807 ∧ ∀ y ∈ zs, y.fitp) (hfb : b.fitp) (htl : tu.length ≤ 9223372036854775807) (B : Book) (cd : Int) (hBn : B = ⟨[], [], []⟩) (hB : b.small → tu.length ≤ 1048576 → B.small) (eB : Qjy zs me fl tu b = B) (eW : QlO zs me fl tu b = []) (eC : QlP zs me fl tu b = cd) (hI : b.small → zs.length ≤ 1048576 → tu.length ≤ 1048576 → Contract P 26 [.sl 0 5 (zs.map Zone.row), .str me, .agg (b.row 0), .str fl, .sl 0 6 (tu.map Box6.row)] [] (.tup [.agg [.sl 98 11 [], .sl 98 3 [], .sl 98 2 []], .sl 98 8 [], .int .i64 cd]) ([])) : Contract P 5 [.sl t 5 (zs.map Zone.row), .str me, .agg (b.row 1), .str fl, .sl t 6 (tu.map Box6.row)] [] (.bool true) [] := by
  have z1 : 0 ≤ szS Zone.sz zs 1048576 → zs.length ≤ 1048576 := fun h => (Qhn (p := fun _ => True) GO (fun _ _ _ _ => trivial) (by omega) h).1
  have z2 : szS Zone.sz zs 1048576 ≤ 1048576 := by have := (Yb GO zs 1048576 (by omega)).2.2; omega
  have z3 : 0 ≤ Book.sz b (szS Zone.sz zs 1048576) → b.small := fun h => Book.sz_ok z2 h
  have z4 : Book.sz b (szS Zone.sz zs 1048576) ≤ max (szS Zone.sz zs 1048576) (-1) := (Qho b _ z2).2.2
  have tkZ : List.take zs.length (zs.map Zone.row) = zs.map Zone.row := List.take_of_length_le (by simp)
  have tkM : ∀ (k : Int), List.take zs.length ((XI k zs.length).map Zone.row) = (XI k zs.length).map Zone.row := fun k => List.take_of_length_le (by rw [List.length_map, Qg]; omega)
  have h0 : True := trivial
  have tkT : True := trivial
  simp only [Book.row]
  refine Qh (((((((Env.nil P).add 7 Qo Qhp).add 8 Qt Qjj).add 23 Qs Qdj).add 24 Qu Qjz).add 14 Qp Qhs).add 27 Qr QbN) hm Yi (nlb rfl) rfl ?_; unfold KC; simp (maxSteps := 2000000) (maxDischargeDepth := 8) only [bitvec_to_nat, reduceIte, Nat.reduceEqDiff, Nat.reduceAdd, Nat.reduceLeDiff, reduceCtorEq, Nat.reduceBEq, Nat.reduceLT, Nat.reduceMod, fmc, Qo, Qt, Qs, Qu, Qp, Qr, int_toBitVec_meta, method_specs_simp, bkV, List.length_map, Int.toNat_natCast, Nat.sub_zero, and_self, eq_self, not_true_eq_false, ne_eq, bne_self_eq_false, h0, tkZ, List.nil_append, if_true, if_false, List.map_nil, tkM, tkT, Qg, eB, eW, eC, bKG]
  refine fun _ => fun _ => ⟨⟨by omega, hz⟩, fun g1 => ⟨⟨by omega, hfb⟩, fun g2 => ⟨⟨⟨by omega, by omega⟩, htl⟩, fun g3 => ?_⟩⟩⟩
  have hsZ := z1 (by omega)
  have hsA : b.small := z3 (by omega)
  have htu : tu.length ≤ 1048576 := by unfold GG at g3; split at g3 <;> omega
  have smA := hsA.sm
  have hTZ := Qhr t zs hsZ
  have n9Z : No99 (.sl 0 5 (zs.map Zone.row)) := by simp only [No99]; exact ⟨by omega, Ky zs⟩
  have hTA := Qjk b hsA
  have n9A : No99 (.agg (b.row 0)) := by simp [Book.row, No99, JT, KM, Kc, JY]
  have q1 := UI smA
  have q2 := UJ smA
  have hcB : 0 ≤ cfB b ∧ cfB b ≤ 30000000000000 := by have := smA.2.2; unfold cfB; omega
  have eqQ : ∀ B : Book, B.small → Contract P 15 [.agg (B.row 0), .agg (B.row 0)] [] (.bool true) [] := fun B hs => by
    unfold Book.small at hs
    have h := Qjl B B ⟨by omega, by omega, by omega, hs.1.2, fun p hp => by have := hs.2.1.2 p hp; show p.bx.length ≤ _; omega⟩
    simpa using h
  have eqA := eqQ b hsA
  have hsB := hB hsA htu
  have eqG := eqQ B hsB
  have smB := hsB.sm
  have p1 := UI smB
  have p2 := UJ smB
  have hcG : 0 ≤ cfB B ∧ cfB B ≤ 30000000000000 := by have := smB.2.2; unfold cfB; omega
  have hMZ := QcH 1 zs (by omega) (by omega)
  have hMB := Qfp b (1 + 5 * (zs.length : Int)) smA (by omega)
  have hTO := QhL t zs hsZ
  have hKB := Qjs b hsA
  have hZtag : Gx (zs.map Zone.row) = zs.map Zone.row := Gd (f := Zone.row) (fun _ => rfl) zs
  have hZ98 : Zc (zs.map Zone.row) = true := Kv (f := Zone.row) (fun _ => rfl) zs
  have hZpur : ∀ (M : Nat → Option AObj) (K : Nat → Option AObj), M 501 = some (.arr 76 0 5 (zs.map Zone.row)) → Vo M K (.own 501 0 0 zs.length) = some (.sl 99 5 (zs.map Zone.row)) := fun M K hM => ZX hM (fun r hr => by obtain ⟨z, _, rfl⟩ := List.mem_map.1 hr; rfl) (by simp)
  have KA_501 : W4 (KA b) 501 := Ki (by omega) (by omega) (by omega) (by omega)
  have hTX := QjA t tu htu
  have hTT := Qgi t tu htu
  have n9T : No99 (.sl 0 6 (tu.map Box6.row)) := by simp only [No99]; exact ⟨by omega, Jj _⟩
  have KA_511 : W4 (KA b) 511 := Ki (by omega) (by omega) (by omega) (by omega)
  have hTtag : Gx (tu.map Box6.row) = tu.map Box6.row := Gd (f := Box6.row) (fun _ => rfl) tu
  have hT98 : Zc (tu.map Box6.row) = true := Kv (f := Box6.row) (fun _ => rfl) tu
  have fB511 : ∀ r ∈ tu.map Box6.row, flatOk r = true := fun r hr => by obtain ⟨z, _, rfl⟩ := List.mem_map.1 hr; rfl
  have g511 : ∀ (x y z u w : AObj), getM ((107, x) :: (112, y) :: (501, z) :: (KA b ++ [(116, u), (511, w)])) 511 = some w := fun x y z u w => by
    simp only [getM, Nat.reduceEqDiff, if_false]; rw [QL (QZ KA_511)]; rfl
  have k511 : ∀ (x y z u w : AObj) (C : List (Nat × AObj)), getM ((107, x) :: (112, y) :: (501, z) :: (gone (KA b) ++ (116, u) :: (511, w) :: C)) 511 = some w := fun x y z u w C => by
    simp only [getM, Nat.reduceEqDiff, if_false]; rw [QL (QZ (QcV KA_511))]; rfl
  have hMT := Qfq (1 + 5 * (zs.length : Int) + cfB b) tu (by omega) (by have q1 := UI (z3 (by omega)).sm; have q2 := UJ (z3 (by omega)).sm; have q3 := (z3 (by omega)).sm.2.2; have := z1 (by omega); unfold cfB; omega)
  have tkT : List.take tu.length (tu.map Box6.row) = tu.map Box6.row := List.take_of_length_le (by simp)
  have hI1 := hI hsA hsZ htu
  have hI2 := hI hsA hsZ htu
  have eqF := QhM 98 0 [] [] (by simp) (by simp)
  have hH : Contract P 19 [.sl 98 8 [], .int .i64 (1 + cfB B)] [] (.int .i64 (1 + cfB B)) [] := by simpa [Gu, W0] using QhF 98 0 (1 + cfB B) [] (by simp) (by simp) (by omega)
  have hZ := QfI 98 (1 + cfB B)
  simp only [List.map_nil, decide_true] at eqF
  subst hBn
  have cf0 : cfB ⟨[], [], []⟩ = 0 := rfl
  have hMG := QlK 1
  have hHB := QlL 1 (by omega)
  have eqG := QpL
  rw [cf0, Int.add_zero] at hH hZ
  have fK : ∀ (x y z : AObj) (C : List (Nat × AObj)), ∀ p ∈ KA b, getM ((107, x) :: (112, y) :: (501, z) :: (KA b ++ C)) p.1 = some p.2 := fun x y z C => Qw (Ki (by omega) (by omega) (by omega) (by omega)) (Qw (Ki (by omega) (by omega) (by omega) (by omega)) (Qw (Ki (by omega) (by omega) (by omega) (by omega)) (JN (UK b))))
  simp only [Book.row] at hTA n9A hKB
  refine ⟨_, _, .inr (.inl ⟨rfl, _, rfl, hTZ, rfl, n9Z⟩), ?_⟩
  simp (maxSteps := 2000000) (maxDischargeDepth := 8) only [bitvec_to_nat, reduceIte, Nat.reduceEqDiff, Nat.reduceAdd, Nat.reduceLeDiff, reduceCtorEq, Nat.reduceBEq, Nat.reduceLT, Nat.reduceMod, fmc, Qo, Qt, Qs, Qu, Qp, Qr, int_toBitVec_meta, method_specs_simp, bkV, List.length_map, Int.toNat_natCast, Nat.sub_zero, and_self, eq_self, not_true_eq_false, ne_eq, bne_self_eq_false, h0, tkZ, List.nil_append, if_true, if_false, List.map_nil, tkM, tkT, Qg, eB, eW, eC, bKG]
  refine ⟨_, _, .inr (.inl ⟨rfl, _, rfl, hTA, rfl, n9A⟩), ?_⟩
  simp (maxSteps := 2000000) (maxDischargeDepth := 8) only [bitvec_to_nat, reduceIte, Nat.reduceEqDiff, Nat.reduceAdd, Nat.reduceLeDiff, reduceCtorEq, Nat.reduceBEq, Nat.reduceLT, Nat.reduceMod, fmc, Qo, Qt, Qs, Qu, Qp, Qr, int_toBitVec_meta, method_specs_simp, bkV, List.length_map, Int.toNat_natCast, Nat.sub_zero, and_self, eq_self, not_true_eq_false, ne_eq, bne_self_eq_false, h0, tkZ, List.nil_append, if_true, if_false, List.map_nil, tkM, tkT, Qg, eB, eW, eC, bKG]
  refine ⟨_, _, .inr (.inl ⟨rfl, _, rfl, hTT, rfl, n9T⟩), ?_⟩
  simp (maxSteps := 2000000) (maxDischargeDepth := 8) only [bitvec_to_nat, reduceIte, Nat.reduceEqDiff, Nat.reduceAdd, Nat.reduceLeDiff, reduceCtorEq, Nat.reduceBEq, Nat.reduceLT, Nat.reduceMod, fmc, Qo, Qt, Qs, Qu, Qp, Qr, int_toBitVec_meta, method_specs_simp, bkV, List.length_map, Int.toNat_natCast, Nat.sub_zero, and_self, eq_self, not_true_eq_false, ne_eq, bne_self_eq_false, h0, tkZ, List.nil_append, if_true, if_false, List.map_nil, tkM, tkT, Qg, eB, eW, eC, bKG]
  refine ⟨⟨hsA, hsZ, htu⟩, _, _, .inr (.inr (.inl ⟨_, rfl, hTO, QaX rfl, by simp [Qc, Qb, dom], rfl, by simp [No99], by simp [GF, Ky]⟩)), ?_⟩
  simp (maxSteps := 2000000) (maxDischargeDepth := 8) only [bitvec_to_nat, reduceIte, Nat.reduceEqDiff, Nat.reduceAdd, Nat.reduceLeDiff, reduceCtorEq, Nat.reduceBEq, Nat.reduceLT, Nat.reduceMod, fmc, Qo, Qt, Qs, Qu, Qp, Qr, int_toBitVec_meta, method_specs_simp, bkV, List.length_map, Int.toNat_natCast, Nat.sub_zero, and_self, eq_self, not_true_eq_false, ne_eq, bne_self_eq_false, h0, tkZ, List.nil_append, if_true, if_false, List.map_nil, tkM, tkT, Qg, eB, eW, eC, bKG]
  refine ⟨_, _, .inr (.inr (.inl ⟨_, rfl, hKB, (YV (QV (Ki (by omega) (by omega) (by omega) (by omega)) (QV (Ki (by omega) (by omega) (by omega) (by omega)) (QV (Ki (by omega) (by omega) (by omega) (by omega)) K7)))), QbT, Qae, by simp [bkV, No99, JT], QpD⟩)), ?_⟩
  simp (maxSteps := 2000000) (maxDischargeDepth := 8) only [bitvec_to_nat, reduceIte, Nat.reduceEqDiff, Nat.reduceAdd, Nat.reduceLeDiff, reduceCtorEq, Nat.reduceBEq, Nat.reduceLT, Nat.reduceMod, fmc, Qo, Qt, Qs, Qu, Qp, Qr, int_toBitVec_meta, method_specs_simp, bkV, List.length_map, Int.toNat_natCast, Nat.sub_zero, and_self, eq_self, not_true_eq_false, ne_eq, bne_self_eq_false, h0, tkZ, List.nil_append, if_true, if_false, List.map_nil, tkM, tkT, Qg, eB, eW, eC, bKG]
  refine ⟨_, _, .inr (.inr (.inl ⟨_, rfl, hTX, QaX (by simp (config := { maxDischargeDepth := 8 }) only [getM, bKG, Nat.reduceEqDiff, if_false, reduceIte, ne_eq, not_false_eq_true, Nat.reduceLT]), by simp [Qc, Qb, dom], rfl, by simp [No99], by simp [GF, Jj]⟩)), ?_⟩
  simp (maxSteps := 2000000) (maxDischargeDepth := 8) only [bitvec_to_nat, reduceIte, Nat.reduceEqDiff, Nat.reduceAdd, Nat.reduceLeDiff, reduceCtorEq, Nat.reduceBEq, Nat.reduceLT, Nat.reduceMod, fmc, Qo, Qt, Qs, Qu, Qp, Qr, int_toBitVec_meta, method_specs_simp, bkV, List.length_map, Int.toNat_natCast, Nat.sub_zero, and_self, eq_self, not_true_eq_false, ne_eq, bne_self_eq_false, h0, tkZ, List.nil_append, if_true, if_false, List.map_nil, tkM, tkT, Qg, eB, eW, eC, bKG]
  refine ⟨_, _, Jn (r := .tup [.agg [.sl 98 11 [], .sl 98 3 [], .sl 98 2 []], .sl 98 8 [], .int .i64 cd]) (news := []) (keep := (501, .arr 76 0 5 (zs.map Zone.row)) :: (511, .arr 100 0 6 (tu.map Box6.row)) :: KA b) (args' := [.sl 99 5 (zs.map Zone.row), .str me, .agg (b.row 99), .str fl, .sl 99 6 (tu.map Box6.row)]) (by simp only [KH, QfH, QhO, GT, hZtag, hTtag]; exact hI1) (ZN rfl (ZN (g511 _ _ _ _ _) (fK _ _ _ _))) (QW (hZpur _ _ rfl) (QW rfl (QW (GP (fK _ _ _ _) (Qw KA_501 (Qw KA_511 (QI (UK b))))) (QW rfl (QW (ZX (g511 _ _ _ _ _) fB511 (by simp)) rfl))))) (by simp only [K6, J9 99 (by omega), QhN, QpE, hZ98, hT98]; rfl) rfl rfl (by simp) rfl rfl (by simp [bkV, No99, JT, Jo]) (by simp), ?_⟩
  simp (maxSteps := 2000000) (maxDischargeDepth := 8) only [bitvec_to_nat, reduceIte, Nat.reduceEqDiff, Nat.reduceAdd, Nat.reduceLeDiff, reduceCtorEq, Nat.reduceBEq, Nat.reduceLT, Nat.reduceMod, fmc, Qo, Qt, Qs, Qu, Qp, Qr, int_toBitVec_meta, method_specs_simp, bkV, List.length_map, Int.toNat_natCast, Nat.sub_zero, and_self, eq_self, not_true_eq_false, ne_eq, bne_self_eq_false, h0, tkZ, List.nil_append, if_true, if_false, List.map_nil, tkM, tkT, Qg, eB, eW, eC, bKG]
  refine ⟨_, _, .inr (.inl ⟨rfl, _, rfl, eqG, rfl, trivial⟩), ?_⟩
  simp (maxSteps := 2000000) (maxDischargeDepth := 8) only [bitvec_to_nat, reduceIte, Nat.reduceEqDiff, Nat.reduceAdd, Nat.reduceLeDiff, reduceCtorEq, Nat.reduceBEq, Nat.reduceLT, Nat.reduceMod, fmc, Qo, Qt, Qs, Qu, Qp, Qr, int_toBitVec_meta, method_specs_simp, bkV, List.length_map, Int.toNat_natCast, Nat.sub_zero, and_self, eq_self, not_true_eq_false, ne_eq, bne_self_eq_false, h0, tkZ, List.nil_append, if_true, if_false, List.map_nil, tkM, tkT, Qg, eB, eW, eC, bKG]
  refine ⟨_, _, .inr (.inl ⟨rfl, _, rfl, eqF, rfl, trivial⟩), ?_⟩
  simp (maxSteps := 2000000) (maxDischargeDepth := 8) only [bitvec_to_nat, reduceIte, Nat.reduceEqDiff, Nat.reduceAdd, Nat.reduceLeDiff, reduceCtorEq, Nat.reduceBEq, Nat.reduceLT, Nat.reduceMod, fmc, Qo, Qt, Qs, Qu, Qp, Qr, int_toBitVec_meta, method_specs_simp, bkV, List.length_map, Int.toNat_natCast, Nat.sub_zero, and_self, eq_self, not_true_eq_false, ne_eq, bne_self_eq_false, h0, tkZ, List.nil_append, if_true, if_false, List.map_nil, tkM, tkT, Qg, eB, eW, eC, bKG]
  refine ⟨_, _, .inr (.inl ⟨rfl, _, rfl, hTZ, rfl, n9Z⟩), ?_⟩
  simp (maxSteps := 2000000) (maxDischargeDepth := 8) only [bitvec_to_nat, reduceIte, Nat.reduceEqDiff, Nat.reduceAdd, Nat.reduceLeDiff, reduceCtorEq, Nat.reduceBEq, Nat.reduceLT, Nat.reduceMod, fmc, Qo, Qt, Qs, Qu, Qp, Qr, int_toBitVec_meta, method_specs_simp, bkV, List.length_map, Int.toNat_natCast, Nat.sub_zero, and_self, eq_self, not_true_eq_false, ne_eq, bne_self_eq_false, h0, tkZ, List.nil_append, if_true, if_false, List.map_nil, tkM, tkT, Qg, eB, eW, eC, bKG]
  refine ⟨by omega, _, _, .inr (.inl ⟨rfl, _, rfl, hTA, rfl, n9A⟩), ?_⟩
  simp (maxSteps := 2000000) (maxDischargeDepth := 8) only [bitvec_to_nat, reduceIte, Nat.reduceEqDiff, Nat.reduceAdd, Nat.reduceLeDiff, reduceCtorEq, Nat.reduceBEq, Nat.reduceLT, Nat.reduceMod, fmc, Qo, Qt, Qs, Qu, Qp, Qr, int_toBitVec_meta, method_specs_simp, bkV, List.length_map, Int.toNat_natCast, Nat.sub_zero, and_self, eq_self, not_true_eq_false, ne_eq, bne_self_eq_false, h0, tkZ, List.nil_append, if_true, if_false, List.map_nil, tkM, tkT, Qg, eB, eW, eC, bKG]
  refine ⟨_, _, Jn (r := .bool true) (news := []) (keep := KA b) (args' := [.agg (b.row 99), .agg (b.row 0)]) (by simp only [KH, GT]; exact eqA) (fK _ _ _ _) (QW (GP (fK _ _ _ _) (QI (UK b))) rfl) (by simp only [K6, J9 99 (by omega), J9 0 (by omega), Bool.and_self]) rfl rfl (by simp) rfl rfl trivial (by simp), ?_⟩
  simp (maxSteps := 2000000) (maxDischargeDepth := 8) only [bitvec_to_nat, reduceIte, Nat.reduceEqDiff, Nat.reduceAdd, Nat.reduceLeDiff, reduceCtorEq, Nat.reduceBEq, Nat.reduceLT, Nat.reduceMod, fmc, Qo, Qt, Qs, Qu, Qp, Qr, int_toBitVec_meta, method_specs_simp, bkV, List.length_map, Int.toNat_natCast, Nat.sub_zero, and_self, eq_self, not_true_eq_false, ne_eq, bne_self_eq_false, h0, tkZ, List.nil_append, if_true, if_false, List.map_nil, tkM, tkT, Qg, eB, eW, eC, bKG]
  refine ⟨_, _, .inr (.inl ⟨rfl, _, rfl, hTT, rfl, n9T⟩), ?_⟩
  simp (maxSteps := 2000000) (maxDischargeDepth := 8) only [bitvec_to_nat, reduceIte, Nat.reduceEqDiff, Nat.reduceAdd, Nat.reduceLeDiff, reduceCtorEq, Nat.reduceBEq, Nat.reduceLT, Nat.reduceMod, fmc, Qo, Qt, Qs, Qu, Qp, Qr, int_toBitVec_meta, method_specs_simp, bkV, List.length_map, Int.toNat_natCast, Nat.sub_zero, and_self, eq_self, not_true_eq_false, ne_eq, bne_self_eq_false, h0, tkZ, List.nil_append, if_true, if_false, List.map_nil, tkM, tkT, Qg, eB, eW, eC, bKG]
  refine ⟨by omega, _, _, Kr hMZ rfl (Qad rfl) (by simp [Qb, Qc, dom]) rfl rfl rfl, ?_⟩
  simp (maxSteps := 2000000) (maxDischargeDepth := 8) only [bitvec_to_nat, reduceIte, Nat.reduceEqDiff, Nat.reduceAdd, Nat.reduceLeDiff, reduceCtorEq, Nat.reduceBEq, Nat.reduceLT, Nat.reduceMod, fmc, Qo, Qt, Qs, Qu, Qp, Qr, int_toBitVec_meta, method_specs_simp, bkV, List.length_map, Int.toNat_natCast, Nat.sub_zero, and_self, eq_self, not_true_eq_false, ne_eq, bne_self_eq_false, h0, tkZ, List.nil_append, if_true, if_false, List.map_nil, tkM, tkT, Qg, eB, eW, eC, bKG]
  refine ⟨_, _, QeF hMB (fK _ _ _ _) (by have := Qbv (b := b) (a := 611) (va := 0) (c := 612) (vc := 0) (d := 613) (vd := 0) (kO := 120) (kP := 140); simpa only [bkV, Qb, Qc, Bool.and_true] using this) UH rfl, ?_⟩
  simp (maxSteps := 2000000) (maxDischargeDepth := 8) only [bitvec_to_nat, reduceIte, Nat.reduceEqDiff, Nat.reduceAdd, Nat.reduceLeDiff, reduceCtorEq, Nat.reduceBEq, Nat.reduceLT, Nat.reduceMod, fmc, Qo, Qt, Qs, Qu, Qp, Qr, int_toBitVec_meta, method_specs_simp, bkV, List.length_map, Int.toNat_natCast, Nat.sub_zero, and_self, eq_self, not_true_eq_false, ne_eq, bne_self_eq_false, h0, tkZ, List.nil_append, if_true, if_false, List.map_nil, tkM, tkT, Qg, eB, eW, eC, bKG]
  refine ⟨_, _, Kr hMT rfl (Qad (k511 _ _ _ _ _ _)) (by simp [Qb, Qc, dom]) rfl rfl rfl, ?_⟩
  simp (maxSteps := 2000000) (maxDischargeDepth := 8) only [bitvec_to_nat, reduceIte, Nat.reduceEqDiff, Nat.reduceAdd, Nat.reduceLeDiff, reduceCtorEq, Nat.reduceBEq, Nat.reduceLT, Nat.reduceMod, fmc, Qo, Qt, Qs, Qu, Qp, Qr, int_toBitVec_meta, method_specs_simp, bkV, List.length_map, Int.toNat_natCast, Nat.sub_zero, and_self, eq_self, not_true_eq_false, ne_eq, bne_self_eq_false, h0, tkZ, List.nil_append, if_true, if_false, List.map_nil, tkM, tkT, Qg, eB, eW, eC, bKG]
  refine ⟨fun h => by omega, fun _ => ⟨_, _, .inr (.inl ⟨rfl, _, rfl, eqG, rfl, trivial⟩), ?_⟩⟩
  simp (maxSteps := 2000000) (maxDischargeDepth := 8) only [bitvec_to_nat, reduceIte, Nat.reduceEqDiff, Nat.reduceAdd, Nat.reduceLeDiff, reduceCtorEq, Nat.reduceBEq, Nat.reduceLT, Nat.reduceMod, fmc, Qo, Qt, Qs, Qu, Qp, Qr, int_toBitVec_meta, method_specs_simp, bkV, List.length_map, Int.toNat_natCast, Nat.sub_zero, and_self, eq_self, not_true_eq_false, ne_eq, bne_self_eq_false, h0, tkZ, List.nil_append, if_true, if_false, List.map_nil, tkM, tkT, Qg, eB, eW, eC, bKG]
  refine ⟨_, _, .inr (.inl ⟨rfl, _, rfl, eqF, rfl, trivial⟩), ?_⟩
  simp (maxSteps := 2000000) (maxDischargeDepth := 8) only [bitvec_to_nat, reduceIte, Nat.reduceEqDiff, Nat.reduceAdd, Nat.reduceLeDiff, reduceCtorEq, Nat.reduceBEq, Nat.reduceLT, Nat.reduceMod, fmc, Qo, Qt, Qs, Qu, Qp, Qr, int_toBitVec_meta, method_specs_simp, bkV, List.length_map, Int.toNat_natCast, Nat.sub_zero, and_self, eq_self, not_true_eq_false, ne_eq, bne_self_eq_false, h0, tkZ, List.nil_append, if_true, if_false, List.map_nil, tkM, tkT, Qg, eB, eW, eC, bKG]
  refine ⟨_, _, .inr (.inl ⟨rfl, _, rfl, hMG, rfl, trivial⟩), ?_⟩
  simp (maxSteps := 2000000) (maxDischargeDepth := 8) only [bitvec_to_nat, reduceIte, Nat.reduceEqDiff, Nat.reduceAdd, Nat.reduceLeDiff, reduceCtorEq, Nat.reduceBEq, Nat.reduceLT, Nat.reduceMod, fmc, Qo, Qt, Qs, Qu, Qp, Qr, int_toBitVec_meta, method_specs_simp, bkV, List.length_map, Int.toNat_natCast, Nat.sub_zero, and_self, eq_self, not_true_eq_false, ne_eq, bne_self_eq_false, h0, tkZ, List.nil_append, if_true, if_false, List.map_nil, tkM, tkT, Qg, eB, eW, eC, bKG]
  refine ⟨_, _, .inr (.inl ⟨rfl, _, rfl, hZ, rfl, trivial⟩), ?_⟩
  simp (maxSteps := 2000000) (maxDischargeDepth := 8) only [bitvec_to_nat, reduceIte, Nat.reduceEqDiff, Nat.reduceAdd, Nat.reduceLeDiff, reduceCtorEq, Nat.reduceBEq, Nat.reduceLT, Nat.reduceMod, fmc, Qo, Qt, Qs, Qu, Qp, Qr, int_toBitVec_meta, method_specs_simp, bkV, List.length_map, Int.toNat_natCast, Nat.sub_zero, and_self, eq_self, not_true_eq_false, ne_eq, bne_self_eq_false, h0, tkZ, List.nil_append, if_true, if_false, List.map_nil, tkM, tkT, Qg, eB, eW, eC, bKG]
  refine ⟨_, _, .inr (.inl ⟨rfl, _, rfl, hHB, rfl, trivial⟩), ?_⟩
  simp (maxSteps := 2000000) (maxDischargeDepth := 8) only [bitvec_to_nat, reduceIte, Nat.reduceEqDiff, Nat.reduceAdd, Nat.reduceLeDiff, reduceCtorEq, Nat.reduceBEq, Nat.reduceLT, Nat.reduceMod, fmc, Qo, Qt, Qs, Qu, Qp, Qr, int_toBitVec_meta, method_specs_simp, bkV, List.length_map, Int.toNat_natCast, Nat.sub_zero, and_self, eq_self, not_true_eq_false, ne_eq, bne_self_eq_false, h0, tkZ, List.nil_append, if_true, if_false, List.map_nil, tkM, tkT, Qg, eB, eW, eC, bKG]
  refine ⟨fun h => by omega, fun _ => ⟨_, _, .inr (.inl ⟨rfl, _, rfl, hH, rfl, trivial⟩), ?_⟩⟩
  simp (maxSteps := 2000000) (maxDischargeDepth := 8) only [bitvec_to_nat, reduceIte, Nat.reduceEqDiff, Nat.reduceAdd, Nat.reduceLeDiff, reduceCtorEq, Nat.reduceBEq, Nat.reduceLT, Nat.reduceMod, fmc, Qo, Qt, Qs, Qu, Qp, Qr, int_toBitVec_meta, method_specs_simp, bkV, List.length_map, Int.toNat_natCast, Nat.sub_zero, and_self, eq_self, not_true_eq_false, ne_eq, bne_self_eq_false, h0, tkZ, List.nil_append, if_true, if_false, List.map_nil, tkM, tkT, Qg, eB, eW, eC, bKG]
  refine ⟨fun h => by omega, fun _ => ⟨_, _, .inr (.inl ⟨rfl, _, rfl, hTZ, rfl, n9Z⟩), ?_⟩⟩
  simp (maxSteps := 2000000) (maxDischargeDepth := 8) only [bitvec_to_nat, reduceIte, Nat.reduceEqDiff, Nat.reduceAdd, Nat.reduceLeDiff, reduceCtorEq, Nat.reduceBEq, Nat.reduceLT, Nat.reduceMod, fmc, Qo, Qt, Qs, Qu, Qp, Qr, int_toBitVec_meta, method_specs_simp, bkV, List.length_map, Int.toNat_natCast, Nat.sub_zero, and_self, eq_self, not_true_eq_false, ne_eq, bne_self_eq_false, h0, tkZ, List.nil_append, if_true, if_false, List.map_nil, tkM, tkT, Qg, eB, eW, eC, bKG]
  refine ⟨_, _, .inr (.inl ⟨rfl, _, rfl, hTA, rfl, n9A⟩), ?_⟩
  simp (maxSteps := 2000000) (maxDischargeDepth := 8) only [bitvec_to_nat, reduceIte, Nat.reduceEqDiff, Nat.reduceAdd, Nat.reduceLeDiff, reduceCtorEq, Nat.reduceBEq, Nat.reduceLT, Nat.reduceMod, fmc, Qo, Qt, Qs, Qu, Qp, Qr, int_toBitVec_meta, method_specs_simp, bkV, List.length_map, Int.toNat_natCast, Nat.sub_zero, and_self, eq_self, not_true_eq_false, ne_eq, bne_self_eq_false, h0, tkZ, List.nil_append, if_true, if_false, List.map_nil, tkM, tkT, Qg, eB, eW, eC, bKG]
  refine ⟨_, _, .inr (.inl ⟨rfl, _, rfl, hTT, rfl, n9T⟩), ?_⟩
  simp (maxSteps := 2000000) (maxDischargeDepth := 8) only [bitvec_to_nat, reduceIte, Nat.reduceEqDiff, Nat.reduceAdd, Nat.reduceLeDiff, reduceCtorEq, Nat.reduceBEq, Nat.reduceLT, Nat.reduceMod, fmc, Qo, Qt, Qs, Qu, Qp, Qr, int_toBitVec_meta, method_specs_simp, bkV, List.length_map, Int.toNat_natCast, Nat.sub_zero, and_self, eq_self, not_true_eq_false, ne_eq, bne_self_eq_false, h0, tkZ, List.nil_append, if_true, if_false, List.map_nil, tkM, tkT, Qg, eB, eW, eC, bKG]
  refine ⟨_, _, .inr (.inl ⟨rfl, _, rfl, hI2, rfl, by simp [bkV, No99, JT, Jo]⟩), ?_⟩
  simp (maxSteps := 2000000) (maxDischargeDepth := 8) only [bitvec_to_nat, reduceIte, Nat.reduceEqDiff, Nat.reduceAdd, Nat.reduceLeDiff, reduceCtorEq, Nat.reduceBEq, Nat.reduceLT, Nat.reduceMod, fmc, Qo, Qt, Qs, Qu, Qp, Qr, int_toBitVec_meta, method_specs_simp, bkV, List.length_map, Int.toNat_natCast, Nat.sub_zero, and_self, eq_self, not_true_eq_false, ne_eq, bne_self_eq_false, h0, tkZ, List.nil_append, if_true, if_false, List.map_nil, tkM, tkT, Qg, eB, eW, eC, bKG]
  refine ⟨_, _, .inr (.inl ⟨rfl, _, rfl, eqG, rfl, trivial⟩), ?_⟩
  simp (maxSteps := 2000000) (maxDischargeDepth := 8) only [bitvec_to_nat, reduceIte, Nat.reduceEqDiff, Nat.reduceAdd, Nat.reduceLeDiff, reduceCtorEq, Nat.reduceBEq, Nat.reduceLT, Nat.reduceMod, fmc, Qo, Qt, Qs, Qu, Qp, Qr, int_toBitVec_meta, method_specs_simp, bkV, List.length_map, Int.toNat_natCast, Nat.sub_zero, and_self, eq_self, not_true_eq_false, ne_eq, bne_self_eq_false, h0, tkZ, List.nil_append, if_true, if_false, List.map_nil, tkM, tkT, Qg, eB, eW, eC, bKG]
  refine ⟨_, _, .inr (.inl ⟨rfl, _, rfl, eqF, rfl, trivial⟩), ?_⟩
  simp (maxSteps := 2000000) (maxDischargeDepth := 8) only [bitvec_to_nat, reduceIte, Nat.reduceEqDiff, Nat.reduceAdd, Nat.reduceLeDiff, reduceCtorEq, Nat.reduceBEq, Nat.reduceLT, Nat.reduceMod, fmc, Qo, Qt, Qs, Qu, Qp, Qr, int_toBitVec_meta, method_specs_simp, bkV, List.length_map, Int.toNat_natCast, Nat.sub_zero, and_self, eq_self, not_true_eq_false, ne_eq, bne_self_eq_false, h0, tkZ, List.nil_append, if_true, if_false, List.map_nil, tkM, tkT, Qg, eB, eW, eC, bKG]
  refine ⟨_, _, .inr (.inl ⟨rfl, _, rfl, hHB, rfl, trivial⟩), ?_⟩
  simp (maxSteps := 2000000) (maxDischargeDepth := 8) only [bitvec_to_nat, reduceIte, Nat.reduceEqDiff, Nat.reduceAdd, Nat.reduceLeDiff, reduceCtorEq, Nat.reduceBEq, Nat.reduceLT, Nat.reduceMod, fmc, Qo, Qt, Qs, Qu, Qp, Qr, int_toBitVec_meta, method_specs_simp, bkV, List.length_map, Int.toNat_natCast, Nat.sub_zero, and_self, eq_self, not_true_eq_false, ne_eq, bne_self_eq_false, h0, tkZ, List.nil_append, if_true, if_false, List.map_nil, tkM, tkT, Qg, eB, eW, eC, bKG]
  refine ⟨fun h => by omega, fun _ => ⟨_, _, .inr (.inl ⟨rfl, _, rfl, hH, rfl, trivial⟩), ?_⟩⟩
  simp (maxSteps := 2000000) (maxDischargeDepth := 8) only [bitvec_to_nat, reduceIte, Nat.reduceEqDiff, Nat.reduceAdd, Nat.reduceLeDiff, reduceCtorEq, Nat.reduceBEq, Nat.reduceLT, Nat.reduceMod, fmc, Qo, Qt, Qs, Qu, Qp, Qr, int_toBitVec_meta, method_specs_simp, bkV, List.length_map, Int.toNat_natCast, Nat.sub_zero, and_self, eq_self, not_true_eq_false, ne_eq, bne_self_eq_false, h0, tkZ, List.nil_append, if_true, if_false, List.map_nil, tkM, tkT, Qg, eB, eW, eC, bKG]
  exact fun h => by omega

end
end Go.Ve

namespace Go.Ve
noncomputable section
open Go.Proofs
set_option maxRecDepth 100000
open Go.ChangeShapes Go.WideShapes
theorem Qfr (t : Nat) (zs : List Zone) (me fl : ByteArray) (tu : List Box6) (b : Book) (hz : zs.length ≤ 9223372036854775807 ∧ ∀ y ∈ zs, y.fitp) (hfb : b.fitp) (htl : tu.length ≤ 9223372036854775807) : Contract P 5 [.sl t 5 (zs.map Zone.row), .str me, .agg (b.row 1), .str fl, .sl t 6 (tu.map Box6.row)] [] (.bool true) [] := by
  by_cases h0 : QjD zs me b
  · by_cases hc : wiC zs b fl tu = 0
    · have h3 := (QtX hc).2.1
      have hi : oI b fl < b.own.length := (QhQ (l := b.own) (s := fl) (by omega)).1
      have hz4 := h0.1.1.1
      have hal := Qjp (zs := zs) (me := me) (o := wiO tu (oG b fl)) zs.length
      refine Qij t zs me fl tu b hz hfb htl (wiB b fl tu) (Yp zs me (wiO tu (oG b fl)) zs.length) 0 b.own.length b.parts.length (Yp zs me (wiO tu (oG b fl)) zs.length).length (fun hs htu => QkJ hs htu hi) (fun hs htu => ?_) (by omega) (by simp only [Qjy, if_pos h0, if_pos hc]) (by simp only [QlO, if_pos h0, if_pos hc]) (by simp only [QlP, if_pos h0, hc]) fun hs hz' htu => ?_
      · have hx := hs.1.2 _ (Jg hi)
        exact QlG (by unfold Own.small at hx ⊢; exact ⟨hx.1, htu, Nat.zero_le _⟩) _
      · have h := Qri zs me fl tu b hs hz' htu h0 hc (QrK h0 h3)
        have e : bkV (wiB b fl tu) 131 b.own.length 149 b.parts.length 154 0 = bkV b 131 b.own.length 149 b.parts.length 154 0 := by simp only [bkV, wiB, List.length_set]
        rw [e]; exact h
    · exact Qik t zs me fl tu b hz hfb htl b (wiC zs b fl tu) b.own.length b.parts.length (fun h _ => h) (by simp only [Qjy, if_pos h0, if_neg hc]) (by simp only [QlO, if_pos h0, if_neg hc]) (by simp only [QlP, if_pos h0]) fun hs hz' htu => Qre zs me fl tu b hs hz' htu h0 hc
  · exact Qil t zs me fl tu b hz hfb htl ⟨[], [], []⟩ 1 rfl (fun _ _ => ⟨⟨Nat.zero_le _, fun o ho => by cases ho⟩, ⟨Nat.zero_le _, fun o ho => by cases ho⟩, Nat.zero_le _⟩) (by simp only [Qjy, if_neg h0]) (by simp only [QlO, if_neg h0]) (by simp only [QlP, if_neg h0]) fun hs hz' htu => Qrd zs me fl tu b hs hz' htu h0
end
end Go.Ve

