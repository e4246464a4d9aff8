/- Part 5 of the proof: laws and contracts of functions, each proved; they are joined in the last part. No conditions beyond those that the theorems state. -/
import Derived.Test.YtppifjfappcbgaaGreatProg
import Derived.Test.YtppifjfappcbgaaGreatHw4
set_option linter.all false
namespace Go.Ve
noncomputable section
open Go.Proofs
set_option maxRecDepth 100000
open Go.ChangeShapes Go.WideShapes
set_option maxHeartbeats 2000000 in
theorem QqX (s : Own) (hs : s.small) : Contract P 83 [.agg (s.row 1)] [] (.agg [.str s.fl, .int .i64 s.st, .int .i64 s.tn, .str s.dst, .int .i64 s.la, .int .i64 s.nr, .own 601 0 0 s.tu.length, .int .i64 s.wi, .own 602 0 0 s.nx.length, .own 603 0 0 s.gr.length, .bool s.sent]) [(603, .arr 9 0 1 (s.gr.map JJ)), (602, .arr 100 0 6 (s.nx.map Box6.row)), (601, .arr 100 0 6 (s.tu.map Box6.row))] := by
  have hs1 : True := trivial
  have hs2 : True := trivial
  have hs3 : True := trivial
  have hs4 : True := trivial
  unfold Own.small at hs
  simp only [Own.row]
  refine Qh (Env.nil P) hm Qaq (nlb rfl) rfl ?_; unfold X7; simp (maxSteps := 2000000) only [bitvec_to_nat, reduceIte, Nat.reduceEqDiff, Nat.reduceAdd, Nat.reduceLeDiff, reduceCtorEq, Nat.reduceBEq, Nat.reduceLT, Nat.reduceMod, fmc, Qf, Qm, Qe, QE, keepB, Qn, QJ, int_toBitVec_meta, method_specs_simp, Nat.sub_zero, List.append_nil, Q6, QO, QM, Q4, Yo, hs1, hs2, hs3, hs4]
  have hT0 := (QbS 1 s.tu (by omega)).ren (swp 107 601) (Q0 _ _)
  simp only [K4, ren, J5, renO, swp, reduceIte, Nat.reduceEqDiff, Nat.reduceLT] at hT0
  refine ⟨_, _, .inr (.inr (.inl ⟨_, rfl, hT0, by simp [getM], by simp [Qc, Qb, dom], rfl, by simp [No99], by simp [GF, Jj, Kz]⟩)), ?_⟩
  simp (maxSteps := 2000000) only [bitvec_to_nat, reduceIte, Nat.reduceEqDiff, Nat.reduceAdd, Nat.reduceLeDiff, reduceCtorEq, Nat.reduceBEq, Nat.reduceLT, Nat.reduceMod, fmc, Qf, Qm, Qe, QE, keepB, Qn, QJ, int_toBitVec_meta, method_specs_simp, Nat.sub_zero, List.append_nil, Q6, QO, QM, Q4, Yo, hs1, hs2, hs3, hs4]
  have hT1 := (QbS 1 s.nx (by omega)).ren (swp 107 602) (Q0 _ _)
  simp only [K4, ren, J5, renO, swp, reduceIte, Nat.reduceEqDiff, Nat.reduceLT] at hT1
  refine ⟨_, _, .inr (.inr (.inl ⟨_, rfl, hT1, by simp [getM], by simp [Qc, Qb, dom], rfl, by simp [No99], by simp [GF, Jj, Kz]⟩)), ?_⟩
  simp (maxSteps := 2000000) only [bitvec_to_nat, reduceIte, Nat.reduceEqDiff, Nat.reduceAdd, Nat.reduceLeDiff, reduceCtorEq, Nat.reduceBEq, Nat.reduceLT, Nat.reduceMod, fmc, Qf, Qm, Qe, QE, keepB, Qn, QJ, int_toBitVec_meta, method_specs_simp, Nat.sub_zero, List.append_nil, Q6, QO, QM, Q4, Yo, hs1, hs2, hs3, hs4]
  have hT2 := (Qhx 1 s.gr (by omega)).ren (swp 107 603) (Q0 _ _)
  simp only [K4, ren, J5, renO, swp, reduceIte, Nat.reduceEqDiff, Nat.reduceLT] at hT2
  refine ⟨_, _, .inr (.inr (.inl ⟨_, rfl, hT2, by simp [getM], by simp [Qc, Qb, dom], rfl, by simp [No99], by simp [GF, Jj, Kz]⟩)), ?_⟩
  simp (maxSteps := 2000000) only [bitvec_to_nat, reduceIte, Nat.reduceEqDiff, Nat.reduceAdd, Nat.reduceLeDiff, reduceCtorEq, Nat.reduceBEq, Nat.reduceLT, Nat.reduceMod, fmc, Qf, Qm, Qe, QE, keepB, Qn, QJ, int_toBitVec_meta, method_specs_simp, Nat.sub_zero, List.append_nil, Q6, QO, QM, Q4, Yo, hs1, hs2, hs3, hs4]
  repeat' (first | with_reducible apply And.intro | with_reducible intro _)
  all_goals first | omega | rfl | (simp [Qc, Qb, dom]; done)
set_option maxHeartbeats 4000000 in
theorem Qpp (t : Nat) (a : List Own) (ha : a.length ≤ 1048576) (hs : ∀ x ∈ a, x.small) : Contract P 42 [.sl t 11 (a.map (Own.row 1))] [] (.own 107 0 0 a.length) (OO 107 71 0 11 JE (Own.row 0) 120 0 a) := by
  have hs1 : True := trivial
  have hs2 : True := trivial
  have hs3 : True := trivial
  have hs4 : True := trivial
  have cl : ∀ (i : Nat), closedB ⟨[(0, .sl t 11 (a.map (Own.row 1))), (3, .own 107 0 0 a.length), (4, .int .i64 ((i : Nat) : Int))], (107, .arr (1000000 + 71) 0 11 (zR (Own.row 0) 120 a i [.str ⟨#[]⟩, .int .i64 0, .int .i64 0, .str ⟨#[]⟩, .int .i64 0, .int .i64 0, .sl 0 6 [], .int .i64 0, .sl 0 6 [], .sl 0 1 [], .bool false])) :: Q2 JE (Own.row 0) 120 0 (a.take i)⟩ = true := fun i => by
    simp only [closedB, List.all_cons, Bool.and_eq_true]
    refine ⟨⟨rfl, by simp [Qc, dom], rfl, rfl⟩, ?_, QbJ YH⟩
    simp only [Qd]
    rw [if_neg (by omega)]
    exact QoC QX rfl fun p hp => List.mem_cons_of_mem _ (JI hp)
  have kp : ∀ (x : AObj) (i : Nat) (M' : List (Nat × AObj)), keepB ((107, x) :: Q2 JE (Own.row 0) 120 0 (a.take i)) M' = true := fun x i M' => J3 (Q3 (by omega) (Ji QX (by omega) (by omega)))
  have wm : ∀ (x : AObj) (i : Nat), wkM ((107, x) :: Q2 JE (Own.row 0) 120 0 (a.take i)) (Q2 JE (Own.row 0) 120 0 (a.take i)) := fun x i => Jl fun p hp => by
    have h1 := QI (KY QX (by omega)) p hp
    have h2 := (Kw QX (by omega) hp).1
    simp only [getM]
    rw [if_neg (by omega)]; exact h1
  have m0 : List.replicate a.length [.str ⟨#[]⟩, .int .i64 0, .int .i64 0, .str ⟨#[]⟩, .int .i64 0, .int .i64 0, .sl 0 6 [], .int .i64 0, .sl 0 6 [], .sl 0 1 [], .bool false] = zR (Own.row 0) 120 a 0 [.str ⟨#[]⟩, .int .i64 0, .int .i64 0, .str ⟨#[]⟩, .int .i64 0, .int .i64 0, .sl 0 6 [], .int .i64 0, .sl 0 6 [], .sl 0 1 [], .bool false] := QoB
  refine Qh (Env.nil P) hm QdK (nlb rfl) rfl ?_; unfold Vj; simp (maxSteps := 2000000) only [bitvec_to_nat, reduceIte, Nat.reduceEqDiff, Nat.reduceAdd, Nat.reduceLeDiff, reduceCtorEq, Nat.reduceBEq, Nat.reduceLT, Nat.reduceMod, fmc, Qf, Qm, Qe, QE, keepB, Qn, QJ, int_toBitVec_meta, method_specs_simp, Nat.sub_zero, List.append_nil, Q6, QO, QM, Q4, Yo, hs1, hs2, hs3, hs4]
  refine ⟨by omega, ?_⟩
  refine QfG (fun i : Nat => ⟨[(0, .sl t 11 (a.map (Own.row 1))), (3, .own 107 0 0 a.length), (4, .int .i64 i)], (107, .arr (1000000 + 71) 0 11 (zR (Own.row 0) 120 a i [.str ⟨#[]⟩, .int .i64 0, .int .i64 0, .str ⟨#[]⟩, .int .i64 0, .int .i64 0, .sl 0 6 [], .int .i64 0, .sl 0 6 [], .sl 0 1 [], .bool false])) :: Q2 JE (Own.row 0) 120 0 (a.take i)⟩) (fun i => i ≤ a.length) (fun i => a.length - i) 0 ?_ (Nat.zero_le _) ?_
  · exact ⟨by repeat' (first | exact trivial | refine ⟨.inr rfl, ?_⟩), ⟨congrArg (fun g => some (AObj.arr (1000000 + 71) 0 11 g)) m0, trivial⟩, cl 0, by simp [keepB, dom]⟩
  intro i hi NX hN
  by_cases h : i < a.length
  · have hx := hs _ (Jg h)
    have hC := (((QqX (a.getD i default) hx).ren (swp 601 (fam 126 i)) (Q0 _ _)).ren (swp 602 (fam 128 i)) (Q0 _ _)).ren (swp 603 (fam 129 i)) (Q0 _ _)
    simp only [K4, ren, J5, renO, swp, reduceIte, Nat.reduceEqDiff, Nat.reduceLT, Q6, QO, Q4, Own.row] at hC
    have hn : ∀ q, q < 1000 → getM (Q2 JE (Own.row 0) 120 0 (a.take i)) (fam q i) = none := fun q hq => QbL QX (by omega) hq
    have hs1 : ∀ (B : List (Nat × AObj)) (q : Nat) (x : AObj), q < 1000 → Kj (Q2 JE (Own.row 0) 120 0 (a.take i) ++ B) (fam q i) x = Q2 JE (Own.row 0) 120 0 (a.take i) ++ Kj B (fam q i) x := fun B q x hq => Gc (hn q hq)
    have hs3 : ∀ (q : Nat) (x : AObj), q < 1000 → Kj (Q2 JE (Own.row 0) 120 0 (a.take i)) (fam q i) x = Q2 JE (Own.row 0) 120 0 (a.take i) ++ [(fam q i, x)] := fun q x hq => ZD (hn q hq)
    have hs2 := Qrx (f := (Own.row 0)) (k := 120) (z := [.str ⟨#[]⟩, .int .i64 0, .int .i64 0, .str ⟨#[]⟩, .int .i64 0, .int .i64 0, .sl 0 6 [], .int .i64 0, .sl 0 6 [], .sl 0 1 [], .bool false]) (row := [.str (a.getD i default).fl, .int .i64 (a.getD i default).st, .int .i64 (a.getD i default).tn, .str (a.getD i default).dst, .int .i64 (a.getD i default).la, .int .i64 (a.getD i default).nr, .own (fam 126 i) 0 0 (a.getD i default).tu.length, .int .i64 (a.getD i default).wi, .own (fam 128 i) 0 0 (a.getD i default).nx.length, .own (fam 129 i) 0 0 (a.getD i default).gr.length, .bool (a.getD i default).sent]) h (by simp [UL, QeG, Own.row]) rfl
    unfold Y6; simp (maxSteps := 2000000) only [bitvec_to_nat, reduceIte, Nat.reduceEqDiff, Nat.reduceAdd, Nat.reduceLeDiff, reduceCtorEq, Nat.reduceBEq, Nat.reduceLT, Nat.reduceMod, fmc, Qf, Qm, Qe, QE, keepB, Qn, QJ, int_toBitVec_meta, method_specs_simp, Nat.sub_zero, List.append_nil, Q6, QO, QM, Q4, Yo, hs1, hs2, hs3, hs4]
    refine ⟨fun _ => ⟨by omega, by omega, _, _, .inr (.inr (.inl ⟨_, by simp only [QaJ, pur, Option.map_some], hC, by simp [getM, Q6, hn], by simp [Qc, Qb, dom], by simp [Qd], by simp [No99, JT, Jo], by simp [GF, Jj, Kz]⟩)), ?_⟩, fun h' => absurd (by omega) h'⟩
    simp (maxSteps := 2000000) only [bitvec_to_nat, reduceIte, Nat.reduceEqDiff, Nat.reduceAdd, Nat.reduceLeDiff, reduceCtorEq, Nat.reduceBEq, Nat.reduceLT, Nat.reduceMod, fmc, Qf, Qm, Qe, QE, keepB, Qn, QJ, int_toBitVec_meta, method_specs_simp, Nat.sub_zero, List.append_nil, Q6, QO, QM, Q4, Yo, hs1, hs2, hs3, hs4]
    have em : Q2 JE (Own.row 0) 120 0 (a.take (i + 1)) = Q2 JE (Own.row 0) 120 0 (a.take i) ++ [((fam 126 i), .arr 100 0 6 ((a.getD i default).tu.map Box6.row)), ((fam 128 i), .arr 100 0 6 ((a.getD i default).nx.map Box6.row)), ((fam 129 i), .arr 9 0 1 ((a.getD i default).gr.map JJ))] := QbK h
    refine ⟨by omega, by omega, hN (i + 1) _ ⟨by repeat' (first | exact trivial | refine ⟨.inr rfl, ?_⟩), ⟨rfl, ?_⟩, cl (i + 1), ?_⟩ h (by omega)⟩
    · rw [em]
      refine Jl fun p hp => ?_
      have h1 := QI (U := Q2 JE (Own.row 0) 120 0 (a.take (i + 1))) (KY QX (by omega)) p (by rw [em]; exact hp)
      have h2 := (Kw (es := JE) (k := 120) (i0 := 0) (a := a.take (i + 1)) QX (by omega) (p := p) (by rw [em]; exact hp)).1
      rw [em] at h1
      simp only [getM]
      rw [if_neg (by omega)]
      simp only [JW, List.cons_append, List.nil_append, getM] at h1 ⊢
      exact h1
    · exact J3 (Q3 (by omega) (Kq (Ji QX (by omega) (by omega)) (by repeat' (first | exact Yh | refine Q3 (by rw [ZV (by omega)]; omega) ?_))))
  · have e : i = a.length := by omega
    subst e
    have et : a.take a.length = a := List.take_length
    have ez : zR (Own.row 0) 120 a a.length [.str ⟨#[]⟩, .int .i64 0, .int .i64 0, .str ⟨#[]⟩, .int .i64 0, .int .i64 0, .sl 0 6 [], .int .i64 0, .sl 0 6 [], .sl 0 1 [], .bool false] = Ja (Own.row 0) 120 0 a := Qrw
    have cl' := cl a.length
    have wm' := wm .gone a.length
    have kp' := kp .gone a.length
    rw [et] at cl' wm' kp'
    rw [ez] at cl'
    have hs1 := ez
    have hs2 := et
    unfold Y6; simp (maxSteps := 2000000) only [bitvec_to_nat, reduceIte, Nat.reduceEqDiff, Nat.reduceAdd, Nat.reduceLeDiff, reduceCtorEq, Nat.reduceBEq, Nat.reduceLT, Nat.reduceMod, fmc, Qf, Qm, Qe, QE, keepB, Qn, QJ, int_toBitVec_meta, method_specs_simp, Nat.sub_zero, List.append_nil, Q6, QO, QM, Q4, Yo, hs1, hs2, hs3, hs4]
    refine ⟨fun h' => absurd h' (by omega), fun _ => ?_⟩
    refine ⟨Jl fun p hp => Vq QX (by omega) (by omega) p hp, Y0 QX YH, by simp [Qc, OO, dom], ?_⟩
    simp only [Bool.true_or, Bool.true_and]
    exact QgX (Ji QX (by omega) (by omega))
set_option maxHeartbeats 2000000 in
theorem Qpq (s : Part) (hs : s.small) : Contract P 84 [.agg (s.row 1)] [] (.agg [.str s.fl, .int .i64 s.nr, .own 601 0 0 s.bx.length]) [(601, .arr 100 0 6 (s.bx.map Box6.row))] := by
  have hs1 : True := trivial
  have hs2 : True := trivial
  have hs3 : True := trivial
  have hs4 : True := trivial
  unfold Part.small at hs
  simp only [Part.row]
  refine Qh (Env.nil P) hm WJ (nlb rfl) rfl ?_; unfold Xz; simp (maxSteps := 2000000) only [bitvec_to_nat, reduceIte, Nat.reduceEqDiff, Nat.reduceAdd, Nat.reduceLeDiff, reduceCtorEq, Nat.reduceBEq, Nat.reduceLT, Nat.reduceMod, fmc, Qf, Qm, Qe, QE, keepB, Qn, QJ, int_toBitVec_meta, method_specs_simp, Nat.sub_zero, List.append_nil, Q6, QO, QM, Q4, Yo, hs1, hs2, hs3, hs4]
  have hT0 := (QbS 1 s.bx (by omega)).ren (swp 107 601) (Q0 _ _)
  simp only [K4, ren, J5, renO, swp, reduceIte, Nat.reduceEqDiff, Nat.reduceLT] at hT0
  refine ⟨_, _, .inr (.inr (.inl ⟨_, rfl, hT0, by simp [getM], by simp [Qc, Qb, dom], rfl, by simp [No99], by simp [GF, Jj, Kz]⟩)), ?_⟩
  simp (maxSteps := 2000000) only [bitvec_to_nat, reduceIte, Nat.reduceEqDiff, Nat.reduceAdd, Nat.reduceLeDiff, reduceCtorEq, Nat.reduceBEq, Nat.reduceLT, Nat.reduceMod, fmc, Qf, Qm, Qe, QE, keepB, Qn, QJ, int_toBitVec_meta, method_specs_simp, Nat.sub_zero, List.append_nil, Q6, QO, QM, Q4, Yo, hs1, hs2, hs3, hs4]
  repeat' (first | with_reducible apply And.intro | with_reducible intro _)
  all_goals first | omega | rfl | (simp [Qc, Qb, dom]; done)
set_option maxHeartbeats 4000000 in
theorem QnL (t : Nat) (a : List Part) (ha : a.length ≤ 1048576) (hs : ∀ x ∈ a, x.small) : Contract P 43 [.sl t 3 (a.map (Part.row 1))] [] (.own 107 0 0 a.length) (OO 107 124 0 3 JF (Part.row 0) 140 0 a) := by
  have hs1 : True := trivial
  have hs2 : True := trivial
  have hs3 : True := trivial
  have hs4 : True := trivial
  have cl : ∀ (i : Nat), closedB ⟨[(0, .sl t 3 (a.map (Part.row 1))), (3, .own 107 0 0 a.length), (4, .int .i64 ((i : Nat) : Int))], (107, .arr (1000000 + 124) 0 3 (zR (Part.row 0) 140 a i [.str ⟨#[]⟩, .int .i64 0, .sl 0 6 []])) :: Q2 JF (Part.row 0) 140 0 (a.take i)⟩ = true := fun i => by
    simp only [closedB, List.all_cons, Bool.and_eq_true]
    refine ⟨⟨rfl, by simp [Qc, dom], rfl, rfl⟩, ?_, QbJ Kn⟩
    simp only [Qd]
    rw [if_neg (by omega)]
    exact QoC QR rfl fun p hp => List.mem_cons_of_mem _ (JI hp)
  have kp : ∀ (x : AObj) (i : Nat) (M' : List (Nat × AObj)), keepB ((107, x) :: Q2 JF (Part.row 0) 140 0 (a.take i)) M' = true := fun x i M' => J3 (Q3 (by omega) (Ji QR (by omega) (by omega)))
  have wm : ∀ (x : AObj) (i : Nat), wkM ((107, x) :: Q2 JF (Part.row 0) 140 0 (a.take i)) (Q2 JF (Part.row 0) 140 0 (a.take i)) := fun x i => Jl fun p hp => by
    have h1 := QI (KY QR (by omega)) p hp
    have h2 := (Kw QR (by omega) hp).1
    simp only [getM]
    rw [if_neg (by omega)]; exact h1
  have m0 : List.replicate a.length [.str ⟨#[]⟩, .int .i64 0, .sl 0 6 []] = zR (Part.row 0) 140 a 0 [.str ⟨#[]⟩, .int .i64 0, .sl 0 6 []] := QoB
  refine Qh (Env.nil P) hm QcD (nlb rfl) rfl ?_; unfold UD; simp (maxSteps := 2000000) only [bitvec_to_nat, reduceIte, Nat.reduceEqDiff, Nat.reduceAdd, Nat.reduceLeDiff, reduceCtorEq, Nat.reduceBEq, Nat.reduceLT, Nat.reduceMod, fmc, Qf, Qm, Qe, QE, keepB, Qn, QJ, int_toBitVec_meta, method_specs_simp, Nat.sub_zero, List.append_nil, Q6, QO, QM, Q4, Yo, hs1, hs2, hs3, hs4]
  refine ⟨by omega, ?_⟩
  refine QfG (fun i : Nat => ⟨[(0, .sl t 3 (a.map (Part.row 1))), (3, .own 107 0 0 a.length), (4, .int .i64 i)], (107, .arr (1000000 + 124) 0 3 (zR (Part.row 0) 140 a i [.str ⟨#[]⟩, .int .i64 0, .sl 0 6 []])) :: Q2 JF (Part.row 0) 140 0 (a.take i)⟩) (fun i => i ≤ a.length) (fun i => a.length - i) 0 ?_ (Nat.zero_le _) ?_
  · exact ⟨by repeat' (first | exact trivial | refine ⟨.inr rfl, ?_⟩), ⟨congrArg (fun g => some (AObj.arr (1000000 + 124) 0 3 g)) m0, trivial⟩, cl 0, by simp [keepB, dom]⟩
  intro i hi NX hN
  by_cases h : i < a.length
  · have hx := hs _ (Jg h)
    have hC := (Qpq (a.getD i default) hx).ren (swp 601 (fam 142 i)) (Q0 _ _)
    simp only [K4, ren, J5, renO, swp, reduceIte, Nat.reduceEqDiff, Nat.reduceLT, Q6, QO, Q4, Part.row] at hC
    have hn : ∀ q, q < 1000 → getM (Q2 JF (Part.row 0) 140 0 (a.take i)) (fam q i) = none := fun q hq => QbL QR (by omega) hq
    have hs1 : ∀ (B : List (Nat × AObj)) (q : Nat) (x : AObj), q < 1000 → Kj (Q2 JF (Part.row 0) 140 0 (a.take i) ++ B) (fam q i) x = Q2 JF (Part.row 0) 140 0 (a.take i) ++ Kj B (fam q i) x := fun B q x hq => Gc (hn q hq)
    have hs3 : ∀ (q : Nat) (x : AObj), q < 1000 → Kj (Q2 JF (Part.row 0) 140 0 (a.take i)) (fam q i) x = Q2 JF (Part.row 0) 140 0 (a.take i) ++ [(fam q i, x)] := fun q x hq => ZD (hn q hq)
    have hs2 := Qrx (f := (Part.row 0)) (k := 140) (z := [.str ⟨#[]⟩, .int .i64 0, .sl 0 6 []]) (row := [.str (a.getD i default).fl, .int .i64 (a.getD i default).nr, .own (fam 142 i) 0 0 (a.getD i default).bx.length]) h (by simp [UL, QeG, Part.row]) rfl
    unfold YG; simp (maxSteps := 2000000) only [bitvec_to_nat, reduceIte, Nat.reduceEqDiff, Nat.reduceAdd, Nat.reduceLeDiff, reduceCtorEq, Nat.reduceBEq, Nat.reduceLT, Nat.reduceMod, fmc, Qf, Qm, Qe, QE, keepB, Qn, QJ, int_toBitVec_meta, method_specs_simp, Nat.sub_zero, List.append_nil, Q6, QO, QM, Q4, Yo, hs1, hs2, hs3, hs4]
    refine ⟨fun _ => ⟨by omega, by omega, _, _, .inr (.inr (.inl ⟨_, by simp only [QaJ, pur, Option.map_some], hC, by simp [getM, Q6, hn], by simp [Qc, Qb, dom], by simp [Qd], by simp [No99, JT, Jo], by simp [GF, Jj, Kz]⟩)), ?_⟩, fun h' => absurd (by omega) h'⟩
    simp (maxSteps := 2000000) only [bitvec_to_nat, reduceIte, Nat.reduceEqDiff, Nat.reduceAdd, Nat.reduceLeDiff, reduceCtorEq, Nat.reduceBEq, Nat.reduceLT, Nat.reduceMod, fmc, Qf, Qm, Qe, QE, keepB, Qn, QJ, int_toBitVec_meta, method_specs_simp, Nat.sub_zero, List.append_nil, Q6, QO, QM, Q4, Yo, hs1, hs2, hs3, hs4]
    have em : Q2 JF (Part.row 0) 140 0 (a.take (i + 1)) = Q2 JF (Part.row 0) 140 0 (a.take i) ++ [((fam 142 i), .arr 100 0 6 ((a.getD i default).bx.map Box6.row))] := QbK h
    refine ⟨by omega, by omega, hN (i + 1) _ ⟨by repeat' (first | exact trivial | refine ⟨.inr rfl, ?_⟩), ⟨rfl, ?_⟩, cl (i + 1), ?_⟩ h (by omega)⟩
    · rw [em]
      refine Jl fun p hp => ?_
      have h1 := QI (U := Q2 JF (Part.row 0) 140 0 (a.take (i + 1))) (KY QR (by omega)) p (by rw [em]; exact hp)
      have h2 := (Kw (es := JF) (k := 140) (i0 := 0) (a := a.take (i + 1)) QR (by omega) (p := p) (by rw [em]; exact hp)).1
      rw [em] at h1
      simp only [getM]
      rw [if_neg (by omega)]
      simp only [JW, List.cons_append, List.nil_append, getM] at h1 ⊢
      exact h1
    · exact J3 (Q3 (by omega) (Kq (Ji QR (by omega) (by omega)) (by repeat' (first | exact Yh | refine Q3 (by rw [ZV (by omega)]; omega) ?_))))
  · have e : i = a.length := by omega
    subst e
    have et : a.take a.length = a := List.take_length
    have ez : zR (Part.row 0) 140 a a.length [.str ⟨#[]⟩, .int .i64 0, .sl 0 6 []] = Ja (Part.row 0) 140 0 a := Qrw
    have cl' := cl a.length
    have wm' := wm .gone a.length
    have kp' := kp .gone a.length
    rw [et] at cl' wm' kp'
    rw [ez] at cl'
    have hs1 := ez
    have hs2 := et
    unfold YG; simp (maxSteps := 2000000) only [bitvec_to_nat, reduceIte, Nat.reduceEqDiff, Nat.reduceAdd, Nat.reduceLeDiff, reduceCtorEq, Nat.reduceBEq, Nat.reduceLT, Nat.reduceMod, fmc, Qf, Qm, Qe, QE, keepB, Qn, QJ, int_toBitVec_meta, method_specs_simp, Nat.sub_zero, List.append_nil, Q6, QO, QM, Q4, Yo, hs1, hs2, hs3, hs4]
    refine ⟨fun h' => absurd h' (by omega), fun _ => ?_⟩
    refine ⟨Jl fun p hp => Vq QR (by omega) (by omega) p hp, Y0 QR Kn, by simp [Qc, OO, dom], ?_⟩
    simp only [Bool.true_or, Bool.true_and]
    exact QgX (Ji QR (by omega) (by omega))
end
end Go.Ve

namespace Go.Ve
noncomputable section
open Go.Proofs
set_option maxRecDepth 100000
open Go.ChangeShapes Go.WideShapes
theorem Jm {o e v k q sz : Nat} {a : List Own} (h : q ≠ o) (hq : q < 1000) (hk : k + 11 ≤ 1000) : W4 (OO o e v sz JE (Own.row 0) k 0 a) q := fun p hp e => by
  have := KZ QX hk hp; omega
theorem KP {o e v k sz : Nat} {a : List Own} (ho : o < 1000) (hk : k + 11 ≤ 1000) : ZW (OO o e v sz JE (Own.row 0) k 0 a) := Vp QX hk ho
theorem JG {o e v k q sz : Nat} {a : List Part} (h : q ≠ o) (hq : q < 1000) (hk : k + 3 ≤ 1000) : W4 (OO o e v sz JF (Part.row 0) k 0 a) q := fun p hp e => by
  have := KZ QR hk hp; omega
theorem KJ {o e v k sz : Nat} {a : List Part} (ho : o < 1000) (hk : k + 3 ≤ 1000) : ZW (OO o e v sz JF (Part.row 0) k 0 a) := Vp QR hk ho
theorem Qad {M : Nat → Option AObj} {o : Nat} {x : AObj} (h : M o = some x) : ∀ p ∈ [(o, x)], M p.1 = some p.2 := fun p hp => by
  rw [List.mem_singleton.1 hp]; exact h
abbrev QiL (o v k : Nat) (l : List Own) : List (Nat × AObj) := OO o 71 v 11 JE (Own.row 0) k 0 l
abbrev X2 (o v k : Nat) (l : List Part) : List (Nat × AObj) := OO o 124 v 3 JF (Part.row 0) k 0 l
abbrev Qfl (o v : Nat) (l : List Seen) : List (Nat × AObj) := [(o, .arr 118 v 2 (l.map Seen.row))]
def bkV (b : Book) (a va c vc d vd : Nat) : AV := .agg [.own a va 0 b.own.length, .own c vc 0 b.parts.length, .own d vd 0 b.seen.length]
def bkM (b : Book) (a va c vc d vd kO kP : Nat) : List (Nat × AObj) := QiL a va kO b.own ++ (X2 c vc kP b.parts ++ Qfl d vd b.seen)
theorem KQ {b : Book} {a va c vc d vd kO kP : Nat} (hO : kO + 11 ≤ 1000) (hP : kP + 3 ≤ 1000) {p : Nat × AObj} (h : p ∈ bkM b a va c vc d vd kO kP) :
    p.1 = a ∨ p.1 = c ∨ p.1 = d ∨ (1000 ≤ p.1 ∧ ((kO ≤ p.1 % 1000 ∧ p.1 % 1000 < kO + 11) ∨ (kP ≤ p.1 % 1000 ∧ p.1 % 1000 < kP + 3))) := by
  simp only [bkM, List.mem_append] at h
  rcases h with h | h | h
  · have := KZ QX hO h; omega
  · have := KZ QR hP h; omega
  · rw [List.mem_singleton.1 h]; exact .inr (.inr (.inl rfl))
theorem QdM {A B : List (Nat × AObj)} (h : ZW A) (k : ZW B) (d : dis A B) : ZW (A ++ B) := by
  unfold ZW; rw [List.pairwise_append]; exact ⟨h, k, fun p hp q hq => d p hp q hq⟩
theorem QqY {o : Nat} {x : AObj} : ZW [(o, x)] := List.pairwise_singleton _ _
theorem UG {b : Book} {a va c vc d vd kO kP : Nat} (h1 : a ≠ c) (h2 : a ≠ d) (h3 : c ≠ d) (ha : a < 1000) (hc : c < 1000) (hd : d < 1000) (hO : kO + 11 ≤ 1000) (hP : kP + 3 ≤ 1000) (hk : kO + 11 ≤ kP ∨ kP + 3 ≤ kO) : ZW (bkM b a va c vc d vd kO kP) := by
  unfold bkM
  refine QdM (Vp QX hO ha) (QdM (Vp QR hP hc) QqY fun p hp q hq e => ?_) fun p hp q hq e => ?_
  · have := KZ QR hP hp; rw [List.mem_singleton.1 hq] at e; simp only at e; omega
  · have := KZ QX hO hp
    rcases List.mem_append.1 hq with hq | hq
    · have := KZ QR hP hq; omega
    · rw [List.mem_singleton.1 hq] at e; simp only at e; omega
theorem Vl {b : Book} {a va c vc d vd kO kP : Nat} {D : List Nat} (h : ∀ p ∈ bkM b a va c vc d vd kO kP, p.1 ∈ D) : ((bkM b a va c vc d vd kO kP).all fun p => Qd D p.2) = true := by
  simp only [bkM, List.mem_append] at h
  simp only [bkM, List.all_append, Bool.and_eq_true]
  exact ⟨YW QX YH fun p hp => h p (.inl (List.mem_cons_of_mem _ hp)), YW QR Kn fun p hp => h p (.inr (.inl (List.mem_cons_of_mem _ hp))), rfl⟩
theorem UH {b : Book} {a va c vc d vd kO kP : Nat} : ((bkM b a va c vc d vd kO kP).all fun p => Qd (dom (bkM b a va c vc d vd kO kP)) p.2) = true := Vl fun p h => JI h
theorem Qae {b : Book} {a va c vc d vd kO kP : Nat} : ((bkM b a va c vc d vd kO kP).reverse.all fun p => Qd (dom (bkM b a va c vc d vd kO kP).reverse) p.2) = true := by
  rw [List.all_reverse]
  exact Vl fun p h => JI (List.mem_reverse.2 h)
theorem Vm {b : Book} {a va c vc d vd kO kP : Nat} {D : List Nat} (h : ∀ p ∈ bkM b a va c vc d vd kO kP, p.1 ∈ D) : Qc D (bkV b a va c vc d vd) = true := by
  have h1 : a ∈ D := h (a, _) (by simp only [bkM, OO, List.cons_append, List.mem_cons]; exact .inl rfl)
  have h2 : c ∈ D := h (c, _) (by simp only [bkM, OO, List.cons_append, List.mem_cons, List.mem_append]; exact .inr (.inr (.inl rfl)))
  have h3 : d ∈ D := h (d, _) (by simp only [bkM, List.mem_append]; exact .inr (.inr (List.mem_singleton.2 rfl)))
  simp [bkV, Qc, Qb, h1, h2, h3]
theorem Qbv {b : Book} {a va c vc d vd kO kP : Nat} : Qc (dom (bkM b a va c vc d vd kO kP)) (bkV b a va c vc d vd) = true := Vm (kO := kO) (kP := kP) fun p h => JI h
theorem QbT {b : Book} {a va c vc d vd kO kP : Nat} : Qc (dom (bkM b a va c vc d vd kO kP).reverse) (bkV b a va c vc d vd) = true := Vm (kO := kO) (kP := kP) fun p h => JI (List.mem_reverse.2 h)
theorem Qpr {b : Book} {a va c vc d vd kO kP : Nat} : ∀ p ∈ bkM b a va c vc d vd kO kP, GF p.2 := fun p hp => by
  simp only [bkM, List.mem_append] at hp
  rcases hp with h | h | h
  · exact Qnl QX p h
  · exact Qnl QR p h
  · rw [List.mem_singleton.1 h]; exact JY _
theorem Qmq {b : Book} {a va c vc d vd kO kP : Nat} : ((bkM b a va c vc d vd kO kP).all fun p => Qb4 p.2) = true := by
  have h1 := Qi7 (o := a) (e := 71) (v := va) (sz := 11) (es := JE) (k := kO) (i0 := 0) (a := b.own) QX
  have h2 := Qi7 (o := c) (e := 124) (v := vc) (sz := 3) (es := JF) (k := kP) (i0 := 0) (a := b.parts) QR
  unfold bkM
  rw [List.all_append, List.all_append, h1, h2, Bool.true_and, Bool.true_and]
  simp only [List.all_cons, List.all_nil, Bool.and_true, Qb4]
  rw [List.all_eq_true]
  intro r hr
  obtain ⟨x, _, rfl⟩ := List.mem_map.1 hr
  rfl
theorem Qmr {b : Book} {a va c vc d vd kO kP : Nat} (ha : 100 ≤ a % 1000) (hc : 100 ≤ c % 1000) (hd : 100 ≤ d % 1000) (hO : kO + 11 ≤ 1000) (hP : kP + 3 ≤ 1000) (h1 : 100 ≤ kO) (h2 : 100 ≤ kP) : Y7 (bkM b a va c vc d vd kO kP) :=
  Kq (Ql7 QX hO h1 ha) (Kq (Ql7 QR hP h2 hc) (Q3 hd Yh))
theorem JZ {b : Book} {a va c vc d vd kO kP kO' kP' : Nat} {σ : Nat → Nat} (hO : ∀ j i, j < 11 → σ (fam (kO + j) (0 + i)) = fam (kO' + j) (0 + i)) (hP : ∀ j i, j < 3 → σ (fam (kP + j) (0 + i)) = fam (kP' + j) (0 + i)) : J5 σ (bkM b a va c vc d vd kO kP) = bkM b (σ a) va (σ c) vc (σ d) vd kO' kP' := by
  simp only [bkM, XO, QiL, X2, Qfl, Yr QX YH hO, Yr QR Kn hP, J5, renO]
  rfl
theorem QcE {b : Book} {a va c vc d vd : Nat} {σ : Nat → Nat} : ren σ (bkV b a va c vc d vd) = bkV b (σ a) va (σ c) vc (σ d) vd := by simp only [bkV, ren, K4]
theorem GP {M K : Nat → Option AObj} {b : Book} {a va c vc d vd kO kP : Nat} (hM : ∀ p ∈ bkM b a va c vc d vd kO kP, M p.1 = some p.2) (hK : ∀ p ∈ bkM b a va c vc d vd kO kP, K p.1 = some p.2) : Vo M K (bkV b a va c vc d vd) = some (.agg (b.row 99)) := by
  have m1 : ∀ p ∈ QiL a va kO b.own, p ∈ bkM b a va c vc d vd kO kP := fun p hp => by simp only [bkM, List.mem_append]; exact .inl hp
  have m2 : ∀ p ∈ X2 c vc kP b.parts, p ∈ bkM b a va c vc d vd kO kP := fun p hp => by simp only [bkM, List.mem_append]; exact .inr (.inl hp)
  have m3 : ∀ p ∈ Qfl d vd b.seen, p ∈ bkM b a va c vc d vd kO kP := fun p hp => by simp only [bkM, List.mem_append]; exact .inr (.inr hp)
  have e1 := Qlg (M := M) (K := K) (o := a) (e := 71) (v := va) (sz := 11) (m := b.own.length) QX YH rfl (fun p hp => hM p (m1 p hp)) (fun p hp => hK p (m1 p hp))
  have e2 := Qlg (M := M) (K := K) (o := c) (e := 124) (v := vc) (sz := 3) (m := b.parts.length) QR Kn rfl (fun p hp => hM p (m2 p hp)) (fun p hp => hK p (m2 p hp))
  have e3 := ZX (M := M) (K := K) (hM _ (m3 (d, .arr 118 vd 2 (b.seen.map Seen.row)) (List.mem_singleton.2 rfl))) (fun r hr => by obtain ⟨x, _, rfl⟩ := List.mem_map.1 hr; rfl) (List.length_map ..).symm
  simp only [bkV, Vo, Vx] at e1 e2 e3 ⊢
  simp only [e1, e2, e3, Option.map_some, Book.row]
  rfl
theorem GT (t : Nat) (b : Book) : tag0 (.agg (b.row t)) = .agg (b.row 0) := by
  simp only [Book.row, tag0, KH, QqW, Qpn]
  rw [Gd (f := Seen.row) (fun _ => rfl)]
theorem J9 (t : Nat) (ht : t ≠ 98) (b : Book) : Qi5 (.agg (b.row t)) = true := by
  simp only [Book.row, Qi5, K6, Qpo ht, QnG ht]
  rw [Kv (f := Seen.row) (fun _ => rfl)]
  simp [ht]
set_option maxHeartbeats 2000000 in
theorem Qps (b : Book) (hs : b.small) : Contract P 11 [.agg (b.row 1)] [] (bkV b 611 0 612 0 613 0) (bkM b 611 0 612 0 613 0 120 140) := by
  have d3 : True := trivial
  unfold Book.small at hs
  have hT1 := ((Qpp 1 b.own hs.1.1 hs.1.2).ren (swp 107 611) (Q0 _ _)).post_eq (post' := (QiL 611 0 120 b.own).reverse) (by
    rw [Yr (k' := 120) (i1 := 0) QX YH (fun j i hj => JD (by omega) (by omega))]
    exact funext fun o => ZE (Vp QX (by omega) (by omega)) o)
  have hT2 := ((QnL 1 b.parts hs.2.1.1 hs.2.1.2).ren (swp 107 612) (Q0 _ _)).post_eq (post' := (X2 612 0 140 b.parts).reverse) (by
    rw [Yr (k' := 140) (i1 := 0) QR Kn (fun j i hj => JD (by omega) (by omega))]
    exact funext fun o => ZE (Vp QR (by omega) (by omega)) o)
  have hT3 := (QnI 1 b.seen (by omega)).ren (swp 107 613) (Q0 _ _)
  simp only [K4, ren, J5, renO, swp, reduceIte, Nat.reduceEqDiff, Nat.reduceLT] at hT1 hT2 hT3
  have d1 : dis (QiL 611 0 120 b.own) (X2 612 0 140 b.parts) := fun p hp q hq e => by
    have := KZ QX (by omega) hp; have := KZ QR (by omega) hq; omega
  have d2 : dis (X2 612 0 140 b.parts) (QiL 611 0 120 b.own) := Yq d1
  simp only [Book.row]
  refine Qh (Env.nil P) hm Wp (nlb rfl) rfl ?_; unfold Xx; simp (maxSteps := 2000000) (maxDischargeDepth := 8) only [bitvec_to_nat, reduceIte, Nat.reduceEqDiff, Nat.reduceAdd, Nat.reduceLeDiff, reduceCtorEq, Nat.reduceBEq, Nat.reduceLT, Nat.reduceMod, fmc, Qf, Qm, Qe, QE, keepB, Qn, QJ, int_toBitVec_meta, method_specs_simp, Nat.sub_zero, bkV, List.append_nil, JP, QZ, JQ, J4, JX, X4, GJ, Qcs, QbG, QaW, ZF, Wj, X5, QbE, Jm, JG, KP, KJ, List.cons_append, List.nil_append, List.append_assoc, QbF, d1, d2, d3, Y8, K0]
  refine ⟨_, _, .inr (.inr (.inl ⟨_, rfl, hT1, YV (by repeat' (first | exact K7 | refine QV (Jm (by omega) (by omega) (by omega)) ?_)), by simp [Qc, OO, dom], Qox QX YH, trivial, fun p hp => Qnl QX p (List.mem_reverse.1 hp)⟩)), ?_⟩
  simp (maxSteps := 2000000) (maxDischargeDepth := 8) only [bitvec_to_nat, reduceIte, Nat.reduceEqDiff, Nat.reduceAdd, Nat.reduceLeDiff, reduceCtorEq, Nat.reduceBEq, Nat.reduceLT, Nat.reduceMod, fmc, Qf, Qm, Qe, QE, keepB, Qn, QJ, int_toBitVec_meta, method_specs_simp, Nat.sub_zero, bkV, List.append_nil, JP, QZ, JQ, J4, JX, X4, GJ, Qcs, QbG, QaW, ZF, Wj, X5, QbE, Jm, JG, KP, KJ, List.cons_append, List.nil_append, List.append_assoc, QbF, d1, d2, d3, Y8, K0]
  refine ⟨_, _, .inr (.inr (.inl ⟨_, rfl, hT2, YV (by repeat' (first | exact K7 | exact Qow d1 | refine Ge d1 ?_ | refine QV (JG (by omega) (by omega) (by omega)) ?_)), by simp [Qc, OO, dom], Qox QR Kn, trivial, fun p hp => Qnl QR p (List.mem_reverse.1 hp)⟩)), ?_⟩
  simp (maxSteps := 2000000) (maxDischargeDepth := 8) only [bitvec_to_nat, reduceIte, Nat.reduceEqDiff, Nat.reduceAdd, Nat.reduceLeDiff, reduceCtorEq, Nat.reduceBEq, Nat.reduceLT, Nat.reduceMod, fmc, Qf, Qm, Qe, QE, keepB, Qn, QJ, int_toBitVec_meta, method_specs_simp, Nat.sub_zero, bkV, List.append_nil, JP, QZ, JQ, J4, JX, X4, GJ, Qcs, QbG, QaW, ZF, Wj, X5, QbE, Jm, JG, KP, KJ, List.cons_append, List.nil_append, List.append_assoc, QbF, d1, d2, d3, Y8, K0]
  refine ⟨_, _, .inr (.inr (.inl ⟨_, rfl, hT3, QaX (by simp (config := { maxDischargeDepth := 8 }) only [getM, JP, QZ, JQ, J4, JX, X4, GJ, Qcs, QbG, QaW, ZF, Wj, X5, QbE, Jm, JG, KP, KJ, List.cons_append, List.nil_append, List.append_assoc, QbF, d1, d2, d3, Y8, K0, Nat.reduceEqDiff, Nat.reduceLT, Nat.reduceAdd, Nat.reduceLeDiff, reduceIte, ne_eq, not_false_eq_true]), by simp [Qc, dom], rfl, trivial, by simp [GF, JY]⟩)), ?_⟩
  simp (maxSteps := 2000000) (maxDischargeDepth := 8) only [bitvec_to_nat, reduceIte, Nat.reduceEqDiff, Nat.reduceAdd, Nat.reduceLeDiff, reduceCtorEq, Nat.reduceBEq, Nat.reduceLT, Nat.reduceMod, fmc, Qf, Qm, Qe, QE, keepB, Qn, QJ, int_toBitVec_meta, method_specs_simp, Nat.sub_zero, bkV, List.append_nil, JP, QZ, JQ, J4, JX, X4, GJ, Qcs, QbG, QaW, ZF, Wj, X5, QbE, Jm, JG, KP, KJ, List.cons_append, List.nil_append, List.append_assoc, QbF, d1, d2, d3, Y8, K0]
  have ho : ∀ q, q < 600 → W4 (bkM b 611 0 612 0 613 0 120 140) q := fun q hq p hp e => by
    have := KQ (by omega) (by omega) hp; omega
  refine ⟨Jl (Qw (ho 101 (by omega)) (Qw (ho 102 (by omega)) (Qw (ho 103 (by omega)) (QI (UG (by omega) (by omega) (by omega) (by omega) (by omega) (by omega) (by omega) (by omega) (by omega)))))), UH, by have := Qbv (b := b) (a := 611) (va := 0) (c := 612) (vc := 0) (d := 613) (vd := 0) (kO := 120) (kP := 140); simpa only [bkV, Qc, Qb, Bool.and_true, dom] using this, ?_⟩
  simp only [Bool.true_or, Bool.true_and]
  exact QgX (Qmr (b := b) (a := 611) (va := 0) (c := 612) (vc := 0) (d := 613) (vd := 0) (kO := 120) (kP := 140) (by omega) (by omega) (by omega) (by omega) (by omega) (by omega) (by omega))
end
end Go.Ve

namespace Go.Ve
noncomputable section
open Go.Proofs
set_option maxRecDepth 100000
open Go.ChangeShapes Go.WideShapes
def KK : List AV → Option (Prop × AV)
  | [.sl _ 1 zx, .int .i64 k] => some (zx = (KO k zx.length).map JJ ∧ zx.length ≤ 1048577 ∧ (0 ≤ k ∧ k ≤ 1125899906842624), .int .i64 (k + (zx.length : Nat)))
  | _ => none
theorem Qf8 : ∀ args p v, KK args = some (p, v) → p → Contract P 97 args [] v [] ∧ noref v = true ∧ No99 v := by
  intro args p v h1 h2
  unfold KK at h1
  split at h1
  · rename_i t zx k
    cases h1
    obtain ⟨e1, h3, h4⟩ := h2
    have := Qf7 t k zx.length h3 h4
    rw [← e1] at this
    exact ⟨this, rfl, trivial⟩
  · cases h1
def J0 : List AV → Option (Prop × AV)
  | [.sl _ 6 zx, .int .i64 k] => some (zx = (XH k zx.length).map Box6.row ∧ zx.length ≤ 1048577 ∧ (0 ≤ k ∧ k ≤ 1125899906842624), .int .i64 (k + 6 * (zx.length : Nat)))
  | _ => none
theorem QcF : ∀ args p v, J0 args = some (p, v) → p → Contract P 56 args [] v [] ∧ noref v = true ∧ No99 v := by
  intro args p v h1 h2
  unfold J0 at h1
  split at h1
  · rename_i t zx k
    cases h1
    obtain ⟨e1, h3, h4⟩ := h2
    have := QlA t k zx.length h3 h4
    rw [← e1] at this
    exact ⟨this, rfl, trivial⟩
  · cases h1
/-- A word, and the version of its own tube. -/
structure VW where
  ve : Nat
  kd : Int
  fr : ByteArray
  dst : ByteArray
  fl : ByteArray
  nr : Int
  la : Int
  tn : Int
  tu : List Box6
  deriving Inhabited
def VW.rowO (w : VW) : List AV := [.int .i64 w.kd, .str w.fr, .str w.dst, .str w.fl, .int .i64 w.nr, .int .i64 w.la, .int .i64 w.tn, .sl w.ve 6 (w.tu.map Box6.row)]
def VW.w (w : VW) : Word := ⟨w.kd, w.fr, w.dst, w.fl, w.nr, w.la, w.tn, w.tu⟩
theorem Jb : RowOk 8 VW.rowO := ⟨fun x => rfl, fun x => by simp only [VW.rowO, List.all_cons, simpleV, Qhw, List.all_nil, Bool.and_self]⟩
def X8 (k : Int) (x : Part) : Part := ⟨(mtx (k)), (k + 1), (XH (k + 1 + 1) x.bx.length)⟩
def Qfm (x : Part) : Nat := 2 + 6 * x.bx.length
def J2 (l : List Part) (i : Nat) : Nat := ((l.take i).map Qfm).sum
theorem Qbw {l : List Part} {i : Nat} (h : i < l.length) : J2 l (i + 1) = J2 l i + Qfm (l.getD i default) := by
  unfold J2
  rw [List.take_succ_eq_append_getElem h, List.map_append, List.sum_append]; simp [h]
def Part.sm (x : Part) : Prop := x.bx.length ≤ 1048577
theorem Qfn {l : List Part} (hs : ∀ x ∈ l, x.sm) {i : Nat} (h : i ≤ l.length) : J2 l i ≤ i * 13631600 := by
  induction i with
  | zero => simp [J2]
  | succ i ih =>
    have h' := ih (by omega)
    have h2 := hs _ (Jg (show i < l.length from h))
    unfold Part.sm at h2
    have h3 : Qfm (l.getD i default) ≤ 13631600 := by unfold Qfm; omega
    rw [Qbw h]; omega
def X9 (k : Int) (l : List Part) : List Part := l.mapIdx fun i x => X8 (k + (J2 l i : Nat)) x
theorem Gt {k : Int} {l : List Part} : (X9 k l).length = l.length := by simp [X9]
theorem QhD {k : Int} {l : List Part} {i : Nat} (h : i < l.length) : (X9 k l).getD i default = X8 (k + (J2 l i : Nat)) (l.getD i default) := by simp [X9, h]
set_option maxHeartbeats 4000000 in
theorem QlE (v : Nat) (k : Int) (a : List Part) (ha : a.length ≤ 1048577) (hs : ∀ x ∈ a, x.sm) (hk : 0 ≤ k ∧ k ≤ 35184372088832) : Contract P 54 [.own 3 v 0 a.length, .int .i64 k] (OO 3 124 v 3 JF (Part.row 0) 7 0 a) (.int .i64 (k + (J2 a a.length : Nat))) (OO 3 124 v 3 JF (Part.row 0) 7 0 (X9 k a)) := by
  have hr0 : True := trivial
  have gsr : True := trivial
  have hg0 : True := trivial
  have hg1 : True := trivial
  have hg2 : True := trivial
  have cl : ∀ (l : List Part) (kk : Int) (i : Nat), closedB ⟨[(0, .own 3 v 0 a.length), (1, .int .i64 kk), (5, .int .i64 i)], OO 3 124 v 3 JF (Part.row 0) 7 0 l⟩ = true := fun l kk i => by
    simp only [closedB, List.all_cons, Bool.and_eq_true]
    exact ⟨⟨by simp [Qc, dom, OO], rfl, rfl, rfl⟩, Y0 QR Kn⟩
  have dsh : ∀ x y : Part, ((Part.row 0) x).map QaL = ((Part.row 0) y).map QaL := fun _ _ => rfl
  refine Qh ((Env.nil P).add 52 Qx J8) Go.Ve.hm Zq (nlb rfl) ?_ ?_
  · rw [List.all_eq_true]
    intro q hq
    obtain ⟨p, hp, rfl⟩ := List.mem_map.1 hq
    have := KZ QR (by omega) hp
    simp only [decide_eq_true_eq]; omega
  unfold Y2
  simp (maxSteps := 2000000) only [bitvec_to_nat, reduceIte, Nat.reduceEqDiff, Nat.reduceAdd, Nat.reduceLeDiff, reduceCtorEq, Nat.reduceBEq, Nat.reduceLT, Nat.reduceMod, fmc, Qf, Qm, Qe, QE, keepB, Qn, QJ, Qx, hg0, hg1, hg2, hr0, gsr, List.set_set, UN, Int.toNat_natCast, List.length_map, List.length_set, QN, Nat.sub_zero, Nat.zero_add, Q6, QO, QM, Q4, QF]
  refine QfG (fun b : Nat × List Part => ⟨[(0, .own 3 v 0 a.length), (1, .int .i64 (k + (J2 a b.1 : Nat))), (5, .int .i64 b.1)], OO 3 124 v 3 JF (Part.row 0) 7 0 b.2⟩)
    (fun b => b.1 ≤ a.length ∧ b.2.length = a.length ∧ (∀ j, j < b.1 → b.2.getD j default = X8 (k + (J2 a j : Nat)) (a.getD j default)) ∧ ∀ j, b.1 ≤ j → j < a.length → b.2.getD j default = a.getD j default)
    (fun b => a.length - b.1) (0, a) ?_ ⟨Nat.zero_le _, rfl, fun j hj => absurd hj (Nat.not_lt_zero _), fun j _ _ => rfl⟩ ?_
  · have e0 : k + ((J2 a 0 : Nat) : Int) = k := by simp [J2]
    simp only [e0]
    exact ⟨by repeat' (first | exact trivial | refine ⟨.inr rfl, ?_⟩), Jl (Vq QR (by omega) (by omega)), cl _ _ _, WZ⟩
  rintro ⟨i, l⟩ ⟨h1, h2, h3, h4⟩ NX hN
  simp only at h1 h2 h3 h4
  have hct := Qfn hs h1
  by_cases hi : i < a.length
  · have hli := h4 i (Nat.le_refl _) hi
    have hil : i < l.length := by omega
    have hx := hs _ (Jg hi)
    unfold Part.sm at hx
    have hr0 : (Ja (Part.row 0) 7 0 l).getD i [] = [.str (a.getD i default).fl, .int .i64 (a.getD i default).nr, .own (fam 9 i) 0 0 (a.getD i default).bx.length] := by rw [ZY hil, hli]; simp [Part.row, UL, QeG]
    have gsr : ∀ r : List AV, ((Ja (Part.row 0) 7 0 l).set i r).getD i [] = r := fun r => Wn (by rw [QN]; exact hil)
    have hM0 := (UE 0 (k + (J2 a i : Nat) + 1 + 1) (a.getD i default).bx (by omega) (by omega)).ren (swp 3 (fam 9 i)) (Q0 _ _)
    simp only [K4, ren, J5, renO, swp, reduceIte, Nat.reduceLT] at hM0
    have hg0 : getM (Q2 JF (Part.row 0) 7 0 l) (fam 9 i) = some (.arr 100 0 6 ((a.getD i default).bx.map Box6.row)) := by
      have := QaZ (es := JF) (k := 7) (i0 := 0) (a := l) (i := i) (j := 2) (v := 0) (sz := 6) (xs := (a.getD i default).bx.map Box6.row) QR (by omega) hil (by rw [hli]; rfl)
      rw [Nat.zero_add] at this
      exact this
    have e5 : k + ((J2 a (i + 1) : Nat) : Int) = k + (J2 a i : Nat) + 1 + 1 + 6 * ((a.getD i default).bx.length : Int) := by rw [Qbw hi]; unfold Qfm; omega
    simp only [OO]
    unfold KE; simp (maxSteps := 2000000) only [bitvec_to_nat, reduceIte, Nat.reduceEqDiff, Nat.reduceAdd, Nat.reduceLeDiff, reduceCtorEq, Nat.reduceBEq, Nat.reduceLT, Nat.reduceMod, fmc, Qf, Qm, Qe, QE, keepB, Qn, QJ, Qx, hg0, hg1, hg2, hr0, gsr, List.set_set, UN, Int.toNat_natCast, List.length_map, List.length_set, QN, Nat.sub_zero, Nat.zero_add, Q6, QO, QM, Q4, QF]
    refine ⟨fun _ => ?_, fun h => absurd (by omega) h⟩
    repeat (refine ⟨by first | omega | rfl, ?_⟩)
    refine ⟨_, _, .inl ⟨_, hM0, by simp [getM, QM, Q6, QO, Q4, hg0], by simp [dom], by simp [dom], by simp [Qb, Qc, dom], by simp [Qd], rfl, by simp [Qd]⟩, ?_⟩
    simp (maxSteps := 2000000) only [bitvec_to_nat, reduceIte, Nat.reduceEqDiff, Nat.reduceAdd, Nat.reduceLeDiff, reduceCtorEq, Nat.reduceBEq, Nat.reduceLT, Nat.reduceMod, fmc, Qf, Qm, Qe, QE, keepB, Qn, QJ, Qx, hg0, hg1, hg2, hr0, gsr, List.set_set, UN, Int.toNat_natCast, List.length_map, List.length_set, QN, Nat.sub_zero, Nat.zero_add, Q6, QO, QM, Q4, QF]
    repeat (refine ⟨by omega, ?_⟩)
    rw [← e5]
    have hd1 : (l.set i (X8 (k + (J2 a i : Nat)) (a.getD i default))).length = l.length := List.length_set
    refine hN (i + 1, l.set i (X8 (k + (J2 a i : Nat)) (a.getD i default))) _ ⟨by repeat' (first | exact trivial | refine ⟨.inr rfl, ?_⟩), Jl (QoE QR (by omega) ?_ ?_ ?_), cl _ _ _, QcX ?_⟩ ⟨hi, by rw [List.length_set]; exact h2, fun j hj => ?_, fun j h6 h7 => ?_⟩ (by simp only; omega)
    · simp only [getM, Nat.reduceEqDiff, reduceIte]
      rw [QgY hil (y := X8 (k + (J2 a i : Nat)) (a.getD i default)) (by simp [Part.row, UL, QeG, X8, QF])]
    · intro p hp hne
      have q1 := QI (KY QR (by omega)) p hp
      have q2 := (Kw QR (by omega) hp).1
      have q3 : ∀ c, c < 1000 → (p.1 = fam c i) = False := fun c hc => by have := hne c hc; rw [Nat.zero_add] at this; simp [this]
      have q4 : (p.1 = 3) = False := by simp; omega
      simp only [getM, QM, q4, if_false, q3 9 (by omega), q1]
    · intro j v' sz xs hj
      rw [Nat.zero_add]
      have hj2 := Qb5 hj
      rw [QR.len] at hj2
      have cases : j = 0 ∨ j = 1 ∨ j = 2 := by omega
      rcases cases with rfl | rfl | rfl
      all_goals first
        | (cases hj; done)
        | (cases hj; simp [getM, QM, Q6, QO, Q4, JF, X8, hg0]; done)
        | (simp [Part.row, X8] at hj; obtain ⟨rfl, rfl, rfl⟩ := hj; simp [getM, QM, Q6, QO, Q4, JF]; done)
        | (simp [Part.row, X8] at hj; done)
        | trace_state
    · have q0 : ∀ x, dom ((3, x) :: Q2 JF (Part.row 0) 7 0 l) = dom (OO 3 124 v 3 JF (Part.row 0) 7 0 l) := fun x => rfl
      have qm : ∀ j v' sz xs, ((Part.row 0) (l.getD i default))[j]? = some (.sl v' sz xs) → fam (7 + j) i ∈ dom (Q2 JF (Part.row 0) 7 0 l) := fun j v' sz xs hj => by
        have := JI (JB (es := JF) (k := 7) (i0 := 0) (p := (fam (7 + j) (0 + i), .arr (JF j) v' sz xs)).2 ⟨i, j, v', sz, xs, hil, hj, rfl⟩)
        rw [Nat.zero_add] at this
        exact this
      have qm0 : fam 9 i ∈ dom (Q2 JF (Part.row 0) 7 0 l) := qm 2 _ _ _ (by rw [hli]; rfl)
      have qd : dom (OO 3 124 v 3 JF (Part.row 0) 7 0 (l.set i (X8 (k + (J2 a i : Nat)) (a.getD i default)))) = dom (OO 3 124 v 3 JF (Part.row 0) 7 0 l) := Qah dsh hd1
      rw [qd, ← q0 .gone]
      simp only [dom, List.map_cons, List.cons.injEq, true_and]
      have qs := fun (M : List (Nat × AObj)) (o : Nat) (x : AObj) (h : o ∈ dom M) => Qi8 (M := M) (o := o) (x := x) h
      simp only [dom] at qs qm0 ⊢
      simp (config := { maxDischargeDepth := 8 }) only [qs, qm0]
    · simp only at hj ⊢
      by_cases e : j = i
      · subst e; exact Kh hil
      · rw [K2 (Ne.symm e)]; exact h3 j (by omega)
    · simp only at h6 ⊢
      rw [K2 (by omega)]; exact h4 j (by omega) h7
  · have hl : l = X9 k a := Vc (by rw [Gt]; exact h2) fun j hj => by rw [QhD (by omega)]; exact h3 j (by omega)
    have e : i = a.length := by omega
    subst hl
    subst e
    simp only [OO]
    unfold KE; simp (maxSteps := 2000000) only [bitvec_to_nat, reduceIte, Nat.reduceEqDiff, Nat.reduceAdd, Nat.reduceLeDiff, reduceCtorEq, Nat.reduceBEq, Nat.reduceLT, Nat.reduceMod, fmc, Qf, Qm, Qe, QE, keepB, Qn, QJ, Qx, hg0, hg1, hg2, hr0, gsr, List.set_set, UN, Int.toNat_natCast, List.length_map, List.length_set, QN, Nat.sub_zero, Nat.zero_add, Q6, QO, QM, Q4, QF]
    refine ⟨fun h => absurd h (by omega), fun _ => ⟨Jl fun p hp => Vq (o := 3) (e := 124) (v := v) (sz := 3) QR (by omega) (by omega) p (List.mem_cons_of_mem _ hp), Y0 (o := 3) (v := v) (sz := 3) (e := 124) QR Kn, WZ (M := OO 3 124 v 3 JF (Part.row 0) 7 0 (X9 k a))⟩⟩
set_option maxHeartbeats 4000000 in
theorem QhE (t t' : Nat) (k : Int) (a : List Part) (ha : a.length ≤ 1048577) (hs : ∀ x ∈ a, x.sm) (hk : 0 ≤ k ∧ k ≤ 35184372088832) : Contract P 63 [.sl t 3 ((X9 k a).map (Part.row t')), .int .i64 k] [] (.int .i64 (k + (J2 a a.length : Nat))) [] := by
  refine Qh (((Env.nil P).add 52 Qx J8).add 56 J0 QcF) hm QbX (nlb rfl) rfl ?_; unfold Zs; simp (maxSteps := 2000000) only [bitvec_to_nat, reduceIte, Nat.reduceEqDiff, Nat.reduceAdd, Nat.reduceLeDiff, reduceCtorEq, Nat.reduceBEq, Nat.reduceLT, Nat.reduceMod, fmc, Qx, J0, int_toBitVec_meta, method_specs_simp, Int.toNat_natCast, List.length_map, Nat.sub_zero, Nat.zero_add, Gt, QF]
  refine QH (fun i : Nat => [(1, .int .i64 (k + (J2 a i : Nat))), (5, .int .i64 i)]) (fun _ => []) (fun i => i ≤ a.length) (fun i => a.length - i) 0 ?_ (Nat.zero_le _) ?_
  · have e0 : k + ((J2 a 0 : Nat) : Int) = k := by simp [J2]
    simp only [e0]
    simp only [Ju, Jv, Jw, Jx, Qi, Qj, Qk, Ql, reduceIte, Nat.reduceEqDiff]; exact ⟨by repeat' (first | exact trivial | refine ⟨.inr rfl, ?_⟩), by repeat' (first | exact trivial | refine ⟨rfl, ?_⟩), by first | rfl | simp [closedB, Qc, Qb, Qd, dom, Qa, *], by first | rfl | simp [keepB, dom]⟩
  intro i hi NX hN
  have hct := Qfn hs hi
  by_cases h : i < a.length
  · have hg := QhD (k := k) h
    have hx := hs _ (Jg h)
    unfold Part.sm at hx
    have e5 : k + ((J2 a (i + 1) : Nat) : Int) = k + (J2 a i : Nat) + 1 + 1 + 6 * ((a.getD i default).bx.length : Int) := by rw [Qbw h]; unfold Qfm; omega
    unfold Yl; simp (maxSteps := 2000000) only [bitvec_to_nat, reduceIte, Nat.reduceEqDiff, Nat.reduceAdd, Nat.reduceLeDiff, reduceCtorEq, Nat.reduceBEq, Nat.reduceLT, Nat.reduceMod, fmc, Qx, J0, int_toBitVec_meta, method_specs_simp, Int.toNat_natCast, List.length_map, Nat.sub_zero, Nat.zero_add, Gt, QF, hg, X8, not_true_eq_false, ne_eq, bne_self_eq_false, eq_self, not_false_eq_true]
    repeat' (first | with_reducible apply And.intro | with_reducible intro _)
    all_goals first
      | omega
      | rfl
      | (rename_i h; exact absurd rfl h)
      | (refine hN (i + 1) _ (by simp only [e5]; simp only [Ju, Jv, Jw, Jx, Qi, Qj, Qk, Ql, reduceIte, Nat.reduceEqDiff]; exact ⟨by repeat' (first | exact trivial | refine ⟨.inr rfl, ?_⟩), by repeat' (first | exact trivial | refine ⟨rfl, ?_⟩), by first | rfl | simp [closedB, Qc, Qb, Qd, dom, Qa, *], by first | rfl | simp [keepB, dom]⟩) ?_ ?_ <;> omega)
      | trace_state
  · have e : i = a.length := by omega
    subst e
    unfold Yl; simp (maxSteps := 2000000) only [bitvec_to_nat, reduceIte, Nat.reduceEqDiff, Nat.reduceAdd, Nat.reduceLeDiff, reduceCtorEq, Nat.reduceBEq, Nat.reduceLT, Nat.reduceMod, fmc, Qx, J0, int_toBitVec_meta, method_specs_simp, Int.toNat_natCast, List.length_map, Nat.sub_zero, Nat.zero_add, Gt, QF]
    repeat' (first | with_reducible apply And.intro | with_reducible intro _)
    all_goals first
      | omega
      | rfl
      | (exfalso; omega)
      | trace_state
def Qf9 (k : Int) (x : VW) : VW := ⟨x.ve, (k), (mtx (k + 1)), (mtx (k + 1 + 1)), (mtx (k + 1 + 1 + 1)), (k + 1 + 1 + 1 + 1), (k + 1 + 1 + 1 + 1 + 1), (k + 1 + 1 + 1 + 1 + 1 + 1), (XH (k + 1 + 1 + 1 + 1 + 1 + 1 + 1) x.tu.length)⟩
def QnM (x : VW) : Nat := 7 + 6 * x.tu.length
def Gu (l : List VW) (i : Nat) : Nat := ((l.take i).map QnM).sum
theorem Qfo {l : List VW} {i : Nat} (h : i < l.length) : Gu l (i + 1) = Gu l i + QnM (l.getD i default) := by
  unfold Gu
  rw [List.take_succ_eq_append_getElem h, List.map_append, List.sum_append]; simp [h]
def VW.sm (x : VW) : Prop := x.tu.length ≤ 1048577
theorem Qjo {l : List VW} (hs : ∀ x ∈ l, x.sm) {i : Nat} (h : i ≤ l.length) : Gu l i ≤ i * 13631600 := by
  induction i with
  | zero => simp [Gu]
  | succ i ih =>
    have h' := ih (by omega)
    have h2 := hs _ (Jg (show i < l.length from h))
    unfold VW.sm at h2
    have h3 : QnM (l.getD i default) ≤ 13631600 := by unfold QnM; omega
    rw [Qfo h]; omega
def W0 (k : Int) (l : List VW) : List VW := l.mapIdx fun i x => Qf9 (k + (Gu l i : Nat)) x
theorem GQ {k : Int} {l : List VW} : (W0 k l).length = l.length := by simp [W0]
theorem QkD {k : Int} {l : List VW} {i : Nat} (h : i < l.length) : (W0 k l).getD i default = Qf9 (k + (Gu l i : Nat)) (l.getD i default) := by simp [W0, h]
set_option maxHeartbeats 4000000 in
theorem Qpt (v : Nat) (k : Int) (a : List VW) (ha : a.length ≤ 1048577) (hs : ∀ x ∈ a, x.sm) (hk : 0 ≤ k ∧ k ≤ 35184372088832) : Contract P 18 [.own 3 v 0 a.length, .int .i64 k] (OO 3 73 v 8 Ko (VW.rowO) 7 0 a) (.int .i64 (k + (Gu a a.length : Nat))) (OO 3 73 v 8 Ko (VW.rowO) 7 0 (W0 k a)) := by
  have hr0 : True := trivial
  have gsr : True := trivial
  have hg0 : True := trivial
  have hg1 : True := trivial
  have hg2 : True := trivial
  have cl : ∀ (l : List VW) (kk : Int) (i : Nat), closedB ⟨[(0, .own 3 v 0 a.length), (1, .int .i64 kk), (5, .int .i64 i)], OO 3 73 v 8 Ko (VW.rowO) 7 0 l⟩ = true := fun l kk i => by
    simp only [closedB, List.all_cons, Bool.and_eq_true]
    exact ⟨⟨by simp [Qc, dom, OO], rfl, rfl, rfl⟩, Y0 Jb JM⟩
  have dsh : ∀ x y : VW, ((VW.rowO) x).map QaL = ((VW.rowO) y).map QaL := fun _ _ => rfl
  refine Qh ((Env.nil P).add 52 Qx J8) Go.Ve.hm Zi (nlb rfl) ?_ ?_
  · rw [List.all_eq_true]
    intro q hq
    obtain ⟨p, hp, rfl⟩ := List.mem_map.1 hq
    have := KZ Jb (by omega) hp
    simp only [decide_eq_true_eq]; omega
  unfold Y1
  simp (maxSteps := 2000000) only [bitvec_to_nat, reduceIte, Nat.reduceEqDiff, Nat.reduceAdd, Nat.reduceLeDiff, reduceCtorEq, Nat.reduceBEq, Nat.reduceLT, Nat.reduceMod, fmc, Qf, Qm, Qe, QE, keepB, Qn, QJ, Qx, hg0, hg1, hg2, hr0, gsr, List.set_set, UN, Int.toNat_natCast, List.length_map, List.length_set, QN, Nat.sub_zero, Nat.zero_add, Q6, QO, QM, Q4, QF]
  refine QfG (fun b : Nat × List VW => ⟨[(0, .own 3 v 0 a.length), (1, .int .i64 (k + (Gu a b.1 : Nat))), (5, .int .i64 b.1)], OO 3 73 v 8 Ko (VW.rowO) 7 0 b.2⟩)
    (fun b => b.1 ≤ a.length ∧ b.2.length = a.length ∧ (∀ j, j < b.1 → b.2.getD j default = Qf9 (k + (Gu a j : Nat)) (a.getD j default)) ∧ ∀ j, b.1 ≤ j → j < a.length → b.2.getD j default = a.getD j default)
    (fun b => a.length - b.1) (0, a) ?_ ⟨Nat.zero_le _, rfl, fun j hj => absurd hj (Nat.not_lt_zero _), fun j _ _ => rfl⟩ ?_
  · have e0 : k + ((Gu a 0 : Nat) : Int) = k := by simp [Gu]
    simp only [e0]
    exact ⟨by repeat' (first | exact trivial | refine ⟨.inr rfl, ?_⟩), Jl (Vq Jb (by omega) (by omega)), cl _ _ _, WZ⟩
  rintro ⟨i, l⟩ ⟨h1, h2, h3, h4⟩ NX hN
  simp only at h1 h2 h3 h4
  have hct := Qjo hs h1
  by_cases hi : i < a.length
  · have hli := h4 i (Nat.le_refl _) hi
    have hil : i < l.length := by omega
    have hx := hs _ (Jg hi)
    unfold VW.sm at hx
    have hr0 : (Ja (VW.rowO) 7 0 l).getD i [] = [.int .i64 (a.getD i default).kd, .str (a.getD i default).fr, .str (a.getD i default).dst, .str (a.getD i default).fl, .int .i64 (a.getD i default).nr, .int .i64 (a.getD i default).la, .int .i64 (a.getD i default).tn, .own (fam 14 i) (a.getD i default).ve 0 (a.getD i default).tu.length] := by rw [ZY hil, hli]; simp [VW.rowO, UL, QeG]
    have gsr : ∀ r : List AV, ((Ja (VW.rowO) 7 0 l).set i r).getD i [] = r := fun r => Wn (by rw [QN]; exact hil)
    have hM0 := (UE (a.getD i default).ve (k + (Gu a i : Nat) + 1 + 1 + 1 + 1 + 1 + 1 + 1) (a.getD i default).tu (by omega) (by omega)).ren (swp 3 (fam 14 i)) (Q0 _ _)
    simp only [K4, ren, J5, renO, swp, reduceIte, Nat.reduceLT] at hM0
    have hg0 : getM (Q2 Ko (VW.rowO) 7 0 l) (fam 14 i) = some (.arr 100 (a.getD i default).ve 6 ((a.getD i default).tu.map Box6.row)) := by
      have := QaZ (es := Ko) (k := 7) (i0 := 0) (a := l) (i := i) (j := 7) (v := (a.getD i default).ve) (sz := 6) (xs := (a.getD i default).tu.map Box6.row) Jb (by omega) hil (by rw [hli]; rfl)
      rw [Nat.zero_add] at this
      exact this
    have e5 : k + ((Gu a (i + 1) : Nat) : Int) = k + (Gu a i : Nat) + 1 + 1 + 1 + 1 + 1 + 1 + 1 + 6 * ((a.getD i default).tu.length : Int) := by rw [Qfo hi]; unfold QnM; omega
    simp only [OO]
    unfold KD; simp (maxSteps := 2000000) only [bitvec_to_nat, reduceIte, Nat.reduceEqDiff, Nat.reduceAdd, Nat.reduceLeDiff, reduceCtorEq, Nat.reduceBEq, Nat.reduceLT, Nat.reduceMod, fmc, Qf, Qm, Qe, QE, keepB, Qn, QJ, Qx, hg0, hg1, hg2, hr0, gsr, List.set_set, UN, Int.toNat_natCast, List.length_map, List.length_set, QN, Nat.sub_zero, Nat.zero_add, Q6, QO, QM, Q4, QF]
    refine ⟨fun _ => ?_, fun h => absurd (by omega) h⟩
    repeat (refine ⟨by first | omega | rfl, ?_⟩)
    refine ⟨_, _, .inl ⟨_, hM0, by simp [getM, QM, Q6, QO, Q4, hg0], by simp [dom], by simp [dom], by simp [Qb, Qc, dom], by simp [Qd], rfl, by simp [Qd]⟩, ?_⟩
    simp (maxSteps := 2000000) only [bitvec_to_nat, reduceIte, Nat.reduceEqDiff, Nat.reduceAdd, Nat.reduceLeDiff, reduceCtorEq, Nat.reduceBEq, Nat.reduceLT, Nat.reduceMod, fmc, Qf, Qm, Qe, QE, keepB, Qn, QJ, Qx, hg0, hg1, hg2, hr0, gsr, List.set_set, UN, Int.toNat_natCast, List.length_map, List.length_set, QN, Nat.sub_zero, Nat.zero_add, Q6, QO, QM, Q4, QF]
    repeat (refine ⟨by omega, ?_⟩)
    rw [← e5]
    have hd1 : (l.set i (Qf9 (k + (Gu a i : Nat)) (a.getD i default))).length = l.length := List.length_set
    refine hN (i + 1, l.set i (Qf9 (k + (Gu a i : Nat)) (a.getD i default))) _ ⟨by repeat' (first | exact trivial | refine ⟨.inr rfl, ?_⟩), Jl (QoE Jb (by omega) ?_ ?_ ?_), cl _ _ _, QcX ?_⟩ ⟨hi, by rw [List.length_set]; exact h2, fun j hj => ?_, fun j h6 h7 => ?_⟩ (by simp only; omega)
    · simp only [getM, Nat.reduceEqDiff, reduceIte]
      rw [QgY hil (y := Qf9 (k + (Gu a i : Nat)) (a.getD i default)) (by simp [VW.rowO, UL, QeG, Qf9, QF])]
    · intro p hp hne
      have q1 := QI (KY Jb (by omega)) p hp
      have q2 := (Kw Jb (by omega) hp).1
      have q3 : ∀ c, c < 1000 → (p.1 = fam c i) = False := fun c hc => by have := hne c hc; rw [Nat.zero_add] at this; simp [this]
      have q4 : (p.1 = 3) = False := by simp; omega
      simp only [getM, QM, q4, if_false, q3 14 (by omega), q1]
    · intro j v' sz xs hj
      rw [Nat.zero_add]
      have hj2 := Qb5 hj
      rw [Jb.len] at hj2
      have cases : j = 0 ∨ j = 1 ∨ j = 2 ∨ j = 3 ∨ j = 4 ∨ j = 5 ∨ j = 6 ∨ j = 7 := by omega
      rcases cases with rfl | rfl | rfl | rfl | rfl | rfl | rfl | rfl
      all_goals first
        | (cases hj; done)
        | (cases hj; simp [getM, QM, Q6, QO, Q4, Ko, Qf9, hg0]; done)
        | (simp [VW.rowO, Qf9] at hj; obtain ⟨rfl, rfl, rfl⟩ := hj; simp [getM, QM, Q6, QO, Q4, Ko]; done)
        | (simp [VW.rowO, Qf9] at hj; done)
        | trace_state
    · have q0 : ∀ x, dom ((3, x) :: Q2 Ko (VW.rowO) 7 0 l) = dom (OO 3 73 v 8 Ko (VW.rowO) 7 0 l) := fun x => rfl
      have qm : ∀ j v' sz xs, ((VW.rowO) (l.getD i default))[j]? = some (.sl v' sz xs) → fam (7 + j) i ∈ dom (Q2 Ko (VW.rowO) 7 0 l) := fun j v' sz xs hj => by
        have := JI (JB (es := Ko) (k := 7) (i0 := 0) (p := (fam (7 + j) (0 + i), .arr (Ko j) v' sz xs)).2 ⟨i, j, v', sz, xs, hil, hj, rfl⟩)
        rw [Nat.zero_add] at this
        exact this
      have qm0 : fam 14 i ∈ dom (Q2 Ko (VW.rowO) 7 0 l) := qm 7 _ _ _ (by rw [hli]; rfl)
      have qd : dom (OO 3 73 v 8 Ko (VW.rowO) 7 0 (l.set i (Qf9 (k + (Gu a i : Nat)) (a.getD i default)))) = dom (OO 3 73 v 8 Ko (VW.rowO) 7 0 l) := Qah dsh hd1
      rw [qd, ← q0 .gone]
      simp only [dom, List.map_cons, List.cons.injEq, true_and]
      have qs := fun (M : List (Nat × AObj)) (o : Nat) (x : AObj) (h : o ∈ dom M) => Qi8 (M := M) (o := o) (x := x) h
      simp only [dom] at qs qm0 ⊢
      simp (config := { maxDischargeDepth := 8 }) only [qs, qm0]
    · simp only at hj ⊢
      by_cases e : j = i
      · subst e; exact Kh hil
      · rw [K2 (Ne.symm e)]; exact h3 j (by omega)
    · simp only at h6 ⊢
      rw [K2 (by omega)]; exact h4 j (by omega) h7
  · have hl : l = W0 k a := Vc (by rw [GQ]; exact h2) fun j hj => by rw [QkD (by omega)]; exact h3 j (by omega)
    have e : i = a.length := by omega
    subst hl
    subst e
    simp only [OO]
    unfold KD; simp (maxSteps := 2000000) only [bitvec_to_nat, reduceIte, Nat.reduceEqDiff, Nat.reduceAdd, Nat.reduceLeDiff, reduceCtorEq, Nat.reduceBEq, Nat.reduceLT, Nat.reduceMod, fmc, Qf, Qm, Qe, QE, keepB, Qn, QJ, Qx, hg0, hg1, hg2, hr0, gsr, List.set_set, UN, Int.toNat_natCast, List.length_map, List.length_set, QN, Nat.sub_zero, Nat.zero_add, Q6, QO, QM, Q4, QF]
    refine ⟨fun h => absurd h (by omega), fun _ => ⟨Jl fun p hp => Vq (o := 3) (e := 73) (v := v) (sz := 8) Jb (by omega) (by omega) p (List.mem_cons_of_mem _ hp), Y0 (o := 3) (v := v) (sz := 8) (e := 73) Jb JM, WZ (M := OO 3 73 v 8 Ko (VW.rowO) 7 0 (W0 k a))⟩⟩
set_option maxHeartbeats 4000000 in
theorem QhF (t t' : Nat) (k : Int) (a : List VW) (ha : a.length ≤ 1048577) (hs : ∀ x ∈ a, x.sm) (hk : 0 ≤ k ∧ k ≤ 35184372088832) : Contract P 19 [.sl t 8 ((W0 k a).map (fun x : VW => Word.row t' x.w)), .int .i64 k] [] (.int .i64 (k + (Gu a a.length : Nat))) [] := by
  refine Qh (((Env.nil P).add 52 Qx J8).add 56 J0 QcF) hm QbW (nlb rfl) rfl ?_; unfold Zj; simp (maxSteps := 2000000) only [bitvec_to_nat, reduceIte, Nat.reduceEqDiff, Nat.reduceAdd, Nat.reduceLeDiff, reduceCtorEq, Nat.reduceBEq, Nat.reduceLT, Nat.reduceMod, fmc, Qx, J0, int_toBitVec_meta, method_specs_simp, Int.toNat_natCast, List.length_map, Nat.sub_zero, Nat.zero_add, GQ, VW.w, QF]
  refine QH (fun i : Nat => [(1, .int .i64 (k + (Gu a i : Nat))), (5, .int .i64 i)]) (fun _ => []) (fun i => i ≤ a.length) (fun i => a.length - i) 0 ?_ (Nat.zero_le _) ?_
  · have e0 : k + ((Gu a 0 : Nat) : Int) = k := by simp [Gu]
    simp only [e0]
    simp only [Ju, Jv, Jw, Jx, Qi, Qj, Qk, Ql, reduceIte, Nat.reduceEqDiff]; exact ⟨by repeat' (first | exact trivial | refine ⟨.inr rfl, ?_⟩), by repeat' (first | exact trivial | refine ⟨rfl, ?_⟩), by first | rfl | simp [closedB, Qc, Qb, Qd, dom, Qa, *], by first | rfl | simp [keepB, dom]⟩
  intro i hi NX hN
  have hct := Qjo hs hi
  by_cases h : i < a.length
  · have hg := QkD (k := k) h
    have hx := hs _ (Jg h)
    unfold VW.sm at hx
    have e5 : k + ((Gu a (i + 1) : Nat) : Int) = k + (Gu a i : Nat) + 1 + 1 + 1 + 1 + 1 + 1 + 1 + 6 * ((a.getD i default).tu.length : Int) := by rw [Qfo h]; unfold QnM; omega
    unfold Yk; simp (maxSteps := 2000000) only [bitvec_to_nat, reduceIte, Nat.reduceEqDiff, Nat.reduceAdd, Nat.reduceLeDiff, reduceCtorEq, Nat.reduceBEq, Nat.reduceLT, Nat.reduceMod, fmc, Qx, J0, int_toBitVec_meta, method_specs_simp, Int.toNat_natCast, List.length_map, Nat.sub_zero, Nat.zero_add, GQ, VW.w, QF, hg, Qf9, not_true_eq_false, ne_eq, bne_self_eq_false, eq_self, not_false_eq_true]
    repeat' (first | with_reducible apply And.intro | with_reducible intro _)
    all_goals first
      | omega
      | rfl
      | (rename_i h; exact absurd rfl h)
      | (refine hN (i + 1) _ (by simp only [e5]; simp only [Ju, Jv, Jw, Jx, Qi, Qj, Qk, Ql, reduceIte, Nat.reduceEqDiff]; exact ⟨by repeat' (first | exact trivial | refine ⟨.inr rfl, ?_⟩), by repeat' (first | exact trivial | refine ⟨rfl, ?_⟩), by first | rfl | simp [closedB, Qc, Qb, Qd, dom, Qa, *], by first | rfl | simp [keepB, dom]⟩) ?_ ?_ <;> omega)
      | trace_state
  · have e : i = a.length := by omega
    subst e
    unfold Yk; simp (maxSteps := 2000000) only [bitvec_to_nat, reduceIte, Nat.reduceEqDiff, Nat.reduceAdd, Nat.reduceLeDiff, reduceCtorEq, Nat.reduceBEq, Nat.reduceLT, Nat.reduceMod, fmc, Qx, J0, int_toBitVec_meta, method_specs_simp, Int.toNat_natCast, List.length_map, Nat.sub_zero, Nat.zero_add, GQ, VW.w, QF]
    repeat' (first | with_reducible apply And.intro | with_reducible intro _)
    all_goals first
      | omega
      | rfl
      | (exfalso; omega)
      | trace_state
def QaF (k : Int) (x : Own) : Own := ⟨(mtx (k)), (k + 1), (k + 1 + 1), (mtx (k + 1 + 1 + 1)), (k + 1 + 1 + 1 + 1), (k + 1 + 1 + 1 + 1 + 1), (XH (k + 1 + 1 + 1 + 1 + 1 + 1) x.tu.length), (k + 1 + 1 + 1 + 1 + 1 + 1 + 6 * (x.tu.length : Int)), (XH (k + 1 + 1 + 1 + 1 + 1 + 1 + 6 * (x.tu.length : Int) + 1) x.nx.length), (KO (k + 1 + 1 + 1 + 1 + 1 + 1 + 6 * (x.tu.length : Int) + 1 + 6 * (x.nx.length : Int)) x.gr.length), (decide ((k + 1 + 1 + 1 + 1 + 1 + 1 + 6 * (x.tu.length : Int) + 1 + 6 * (x.nx.length : Int) + (x.gr.length : Int)) % 3 = 0))⟩
def QiM (x : Own) : Nat := 8 + 6 * x.tu.length + 6 * x.nx.length + x.gr.length
def KR (l : List Own) (i : Nat) : Nat := ((l.take i).map QiM).sum
theorem QcG {l : List Own} {i : Nat} (h : i < l.length) : KR l (i + 1) = KR l i + QiM (l.getD i default) := by
  unfold KR
  rw [List.take_succ_eq_append_getElem h, List.map_append, List.sum_append]; simp [h]
def Own.sm (x : Own) : Prop := x.tu.length ≤ 1048577 ∧ x.nx.length ≤ 1048577 ∧ x.gr.length ≤ 1048577
theorem QhG {l : List Own} (hs : ∀ x ∈ l, x.sm) {i : Nat} (h : i ≤ l.length) : KR l i ≤ i * 13631600 := by
  induction i with
  | zero => simp [KR]
  | succ i ih =>
    have h' := ih (by omega)
    have h2 := hs _ (Jg (show i < l.length from h))
    unfold Own.sm at h2
    have h3 : QiM (l.getD i default) ≤ 13631600 := by unfold QiM; omega
    rw [QcG h]; omega
def QaG (k : Int) (l : List Own) : List Own := l.mapIdx fun i x => QaF (k + (KR l i : Nat)) x
theorem K3 {k : Int} {l : List Own} : (QaG k l).length = l.length := by simp [QaG]
theorem QiN {k : Int} {l : List Own} {i : Nat} (h : i < l.length) : (QaG k l).getD i default = QaF (k + (KR l i : Nat)) (l.getD i default) := by simp [QaG, h]
set_option maxHeartbeats 4000000 in
theorem QnN (v : Nat) (k : Int) (a : List Own) (ha : a.length ≤ 1048577) (hs : ∀ x ∈ a, x.sm) (hk : 0 ≤ k ∧ k ≤ 35184372088832) : Contract P 53 [.own 3 v 0 a.length, .int .i64 k] (OO 3 71 v 11 JE (Own.row 0) 7 0 a) (.int .i64 (k + (KR a a.length : Nat))) (OO 3 71 v 11 JE (Own.row 0) 7 0 (QaG k a)) := by
  have hr0 : True := trivial
  have gsr : True := trivial
  have hg0 : True := trivial
  have hg1 : True := trivial
  have hg2 : True := trivial
  have cl : ∀ (l : List Own) (kk : Int) (i : Nat), closedB ⟨[(0, .own 3 v 0 a.length), (1, .int .i64 kk), (5, .int .i64 i)], OO 3 71 v 11 JE (Own.row 0) 7 0 l⟩ = true := fun l kk i => by
    simp only [closedB, List.all_cons, Bool.and_eq_true]
    exact ⟨⟨by simp [Qc, dom, OO], rfl, rfl, rfl⟩, Y0 QX YH⟩
  have dsh : ∀ x y : Own, ((Own.row 0) x).map QaL = ((Own.row 0) y).map QaL := fun _ _ => rfl
  refine Qh ((Env.nil P).add 52 Qx J8) Go.Ve.hm Z8 (nlb rfl) ?_ ?_
  · rw [List.all_eq_true]
    intro q hq
    obtain ⟨p, hp, rfl⟩ := List.mem_map.1 hq
    have := KZ QX (by omega) hp
    simp only [decide_eq_true_eq]; omega
  unfold Gn
  simp (maxSteps := 2000000) only [bitvec_to_nat, reduceIte, Nat.reduceEqDiff, Nat.reduceAdd, Nat.reduceLeDiff, reduceCtorEq, Nat.reduceBEq, Nat.reduceLT, Nat.reduceMod, fmc, Qf, Qm, Qe, QE, keepB, Qn, QJ, Qx, hg0, hg1, hg2, hr0, gsr, List.set_set, UN, Int.toNat_natCast, List.length_map, List.length_set, QN, Nat.sub_zero, Nat.zero_add, Q6, QO, QM, Q4, QF, QF, Jh]
  refine QfG (fun b : Nat × List Own => ⟨[(0, .own 3 v 0 a.length), (1, .int .i64 (k + (KR a b.1 : Nat))), (5, .int .i64 b.1)], OO 3 71 v 11 JE (Own.row 0) 7 0 b.2⟩)
    (fun b => b.1 ≤ a.length ∧ b.2.length = a.length ∧ (∀ j, j < b.1 → b.2.getD j default = QaF (k + (KR a j : Nat)) (a.getD j default)) ∧ ∀ j, b.1 ≤ j → j < a.length → b.2.getD j default = a.getD j default)
    (fun b => a.length - b.1) (0, a) ?_ ⟨Nat.zero_le _, rfl, fun j hj => absurd hj (Nat.not_lt_zero _), fun j _ _ => rfl⟩ ?_
  · have e0 : k + ((KR a 0 : Nat) : Int) = k := by simp [KR]
    simp only [e0]
    exact ⟨by repeat' (first | exact trivial | refine ⟨.inr rfl, ?_⟩), Jl (Vq QX (by omega) (by omega)), cl _ _ _, WZ⟩
  rintro ⟨i, l⟩ ⟨h1, h2, h3, h4⟩ NX hN
  simp only at h1 h2 h3 h4
  have hct := QhG hs h1
  by_cases hi : i < a.length
  · have hli := h4 i (Nat.le_refl _) hi
    have hil : i < l.length := by omega
    have hx := hs _ (Jg hi)
    unfold Own.sm at hx
    have hr0 : (Ja (Own.row 0) 7 0 l).getD i [] = [.str (a.getD i default).fl, .int .i64 (a.getD i default).st, .int .i64 (a.getD i default).tn, .str (a.getD i default).dst, .int .i64 (a.getD i default).la, .int .i64 (a.getD i default).nr, .own (fam 13 i) 0 0 (a.getD i default).tu.length, .int .i64 (a.getD i default).wi, .own (fam 15 i) 0 0 (a.getD i default).nx.length, .own (fam 16 i) 0 0 (a.getD i default).gr.length, .bool (a.getD i default).sent] := by rw [ZY hil, hli]; simp [Own.row, UL, QeG]
    have gsr : ∀ r : List AV, ((Ja (Own.row 0) 7 0 l).set i r).getD i [] = r := fun r => Wn (by rw [QN]; exact hil)
    have hM0 := (UE 0 (k + (KR a i : Nat) + 1 + 1 + 1 + 1 + 1 + 1) (a.getD i default).tu (by omega) (by omega)).ren (swp 3 (fam 13 i)) (Q0 _ _)
    simp only [K4, ren, J5, renO, swp, reduceIte, Nat.reduceLT] at hM0
    have hg0 : getM (Q2 JE (Own.row 0) 7 0 l) (fam 13 i) = some (.arr 100 0 6 ((a.getD i default).tu.map Box6.row)) := by
      have := QaZ (es := JE) (k := 7) (i0 := 0) (a := l) (i := i) (j := 6) (v := 0) (sz := 6) (xs := (a.getD i default).tu.map Box6.row) QX (by omega) hil (by rw [hli]; rfl)
      rw [Nat.zero_add] at this
      exact this
    have hM1 := (UE 0 (k + (KR a i : Nat) + 1 + 1 + 1 + 1 + 1 + 1 + 6 * ((a.getD i default).tu.length : Int) + 1) (a.getD i default).nx (by omega) (by omega)).ren (swp 3 (fam 15 i)) (Q0 _ _)
    simp only [K4, ren, J5, renO, swp, reduceIte, Nat.reduceLT] at hM1
    have hg1 : getM (Q2 JE (Own.row 0) 7 0 l) (fam 15 i) = some (.arr 100 0 6 ((a.getD i default).nx.map Box6.row)) := by
      have := QaZ (es := JE) (k := 7) (i0 := 0) (a := l) (i := i) (j := 8) (v := 0) (sz := 6) (xs := (a.getD i default).nx.map Box6.row) QX (by omega) hil (by rw [hli]; rfl)
      rw [Nat.zero_add] at this
      exact this
    have hM2 := (Qf6 0 (k + (KR a i : Nat) + 1 + 1 + 1 + 1 + 1 + 1 + 6 * ((a.getD i default).tu.length : Int) + 1 + 6 * ((a.getD i default).nx.length : Int)) (a.getD i default).gr (by omega) (by omega)).ren (swp 3 (fam 16 i)) (Q0 _ _)
    simp only [K4, ren, J5, renO, swp, reduceIte, Nat.reduceLT] at hM2
    have hg2 : getM (Q2 JE (Own.row 0) 7 0 l) (fam 16 i) = some (.arr 9 0 1 ((a.getD i default).gr.map JJ)) := by
      have := QaZ (es := JE) (k := 7) (i0 := 0) (a := l) (i := i) (j := 9) (v := 0) (sz := 1) (xs := (a.getD i default).gr.map JJ) QX (by omega) hil (by rw [hli]; rfl)
      rw [Nat.zero_add] at this
      exact this
    have e5 : k + ((KR a (i + 1) : Nat) : Int) = k + (KR a i : Nat) + 1 + 1 + 1 + 1 + 1 + 1 + 6 * ((a.getD i default).tu.length : Int) + 1 + 6 * ((a.getD i default).nx.length : Int) + ((a.getD i default).gr.length : Int) + 1 := by rw [QcG hi]; unfold QiM; omega
    simp only [OO]
    unfold KL; simp (maxSteps := 2000000) only [bitvec_to_nat, reduceIte, Nat.reduceEqDiff, Nat.reduceAdd, Nat.reduceLeDiff, reduceCtorEq, Nat.reduceBEq, Nat.reduceLT, Nat.reduceMod, fmc, Qf, Qm, Qe, QE, keepB, Qn, QJ, Qx, hg0, hg1, hg2, hr0, gsr, List.set_set, UN, Int.toNat_natCast, List.length_map, List.length_set, QN, Nat.sub_zero, Nat.zero_add, Q6, QO, QM, Q4, QF, QF, Jh]
    refine ⟨fun _ => ?_, fun h => absurd (by omega) h⟩
    repeat (refine ⟨by first | omega | rfl, ?_⟩)
    refine ⟨_, _, .inl ⟨_, hM0, by simp [getM, QM, Q6, QO, Q4, hg0, hg1, hg2], by simp [dom], by simp [dom], by simp [Qb, Qc, dom], by simp [Qd], rfl, by simp [Qd]⟩, ?_⟩
    simp (maxSteps := 2000000) only [bitvec_to_nat, reduceIte, Nat.reduceEqDiff, Nat.reduceAdd, Nat.reduceLeDiff, reduceCtorEq, Nat.reduceBEq, Nat.reduceLT, Nat.reduceMod, fmc, Qf, Qm, Qe, QE, keepB, Qn, QJ, Qx, hg0, hg1, hg2, hr0, gsr, List.set_set, UN, Int.toNat_natCast, List.length_map, List.length_set, QN, Nat.sub_zero, Nat.zero_add, Q6, QO, QM, Q4, QF, QF, Jh]
    repeat (refine ⟨by first | omega | rfl, ?_⟩)
    refine ⟨_, _, .inl ⟨_, hM1, by simp [getM, QM, Q6, QO, Q4, hg0, hg1, hg2], by simp [dom], by simp [dom], by simp [Qb, Qc, dom], by simp [Qd], rfl, by simp [Qd]⟩, ?_⟩
    simp (maxSteps := 2000000) only [bitvec_to_nat, reduceIte, Nat.reduceEqDiff, Nat.reduceAdd, Nat.reduceLeDiff, reduceCtorEq, Nat.reduceBEq, Nat.reduceLT, Nat.reduceMod, fmc, Qf, Qm, Qe, QE, keepB, Qn, QJ, Qx, hg0, hg1, hg2, hr0, gsr, List.set_set, UN, Int.toNat_natCast, List.length_map, List.length_set, QN, Nat.sub_zero, Nat.zero_add, Q6, QO, QM, Q4, QF, QF, Jh]
    repeat (refine ⟨by first | omega | rfl, ?_⟩)
    refine ⟨_, _, .inl ⟨_, hM2, by simp [getM, QM, Q6, QO, Q4, hg0, hg1, hg2], by simp [dom], by simp [dom], by simp [Qb, Qc, dom], by simp [Qd], rfl, by simp [Qd]⟩, ?_⟩
    simp (maxSteps := 2000000) only [bitvec_to_nat, reduceIte, Nat.reduceEqDiff, Nat.reduceAdd, Nat.reduceLeDiff, reduceCtorEq, Nat.reduceBEq, Nat.reduceLT, Nat.reduceMod, fmc, Qf, Qm, Qe, QE, keepB, Qn, QJ, Qx, hg0, hg1, hg2, hr0, gsr, List.set_set, UN, Int.toNat_natCast, List.length_map, List.length_set, QN, Nat.sub_zero, Nat.zero_add, Q6, QO, QM, Q4, QF, QF, Jh]
    repeat (refine ⟨by omega, ?_⟩)
    rw [← e5]
    have hd1 : (l.set i (QaF (k + (KR a i : Nat)) (a.getD i default))).length = l.length := List.length_set
    refine hN (i + 1, l.set i (QaF (k + (KR a i : Nat)) (a.getD i default))) _ ⟨by repeat' (first | exact trivial | refine ⟨.inr rfl, ?_⟩), Jl (QoE QX (by omega) ?_ ?_ ?_), cl _ _ _, QcX ?_⟩ ⟨hi, by rw [List.length_set]; exact h2, fun j hj => ?_, fun j h6 h7 => ?_⟩ (by simp only; omega)
    · simp only [getM, Nat.reduceEqDiff, reduceIte]
      rw [QgY hil (y := QaF (k + (KR a i : Nat)) (a.getD i default)) (by simp [Own.row, UL, QeG, QaF, QF, QF, Jh])]
    · intro p hp hne
      have q1 := QI (KY QX (by omega)) p hp
      have q2 := (Kw QX (by omega) hp).1
      have q3 : ∀ c, c < 1000 → (p.1 = fam c i) = False := fun c hc => by have := hne c hc; rw [Nat.zero_add] at this; simp [this]
      have q4 : (p.1 = 3) = False := by simp; omega
      simp only [getM, QM, q4, if_false, q3 13 (by omega), q3 15 (by omega), q3 16 (by omega), q1]
    · intro j v' sz xs hj
      rw [Nat.zero_add]
      have hj2 := Qb5 hj
      rw [QX.len] at hj2
      have cases : j = 0 ∨ j = 1 ∨ j = 2 ∨ j = 3 ∨ j = 4 ∨ j = 5 ∨ j = 6 ∨ j = 7 ∨ j = 8 ∨ j = 9 ∨ j = 10 := by omega
      rcases cases with rfl | rfl | rfl | rfl | rfl | rfl | rfl | rfl | rfl | rfl | rfl
      all_goals first
        | (cases hj; done)
        | (cases hj; simp [getM, QM, Q6, QO, Q4, JE, QaF, hg0]; done)
        | (simp [Own.row, QaF] at hj; obtain ⟨rfl, rfl, rfl⟩ := hj; simp [getM, QM, Q6, QO, Q4, JE]; done)
        | (simp [Own.row, QaF] at hj; done)
        | trace_state
    · have q0 : ∀ x, dom ((3, x) :: Q2 JE (Own.row 0) 7 0 l) = dom (OO 3 71 v 11 JE (Own.row 0) 7 0 l) := fun x => rfl
      have qm : ∀ j v' sz xs, ((Own.row 0) (l.getD i default))[j]? = some (.sl v' sz xs) → fam (7 + j) i ∈ dom (Q2 JE (Own.row 0) 7 0 l) := fun j v' sz xs hj => by
        have := JI (JB (es := JE) (k := 7) (i0 := 0) (p := (fam (7 + j) (0 + i), .arr (JE j) v' sz xs)).2 ⟨i, j, v', sz, xs, hil, hj, rfl⟩)
        rw [Nat.zero_add] at this
        exact this
      have qm0 : fam 13 i ∈ dom (Q2 JE (Own.row 0) 7 0 l) := qm 6 _ _ _ (by rw [hli]; rfl)
      have qm1 : fam 15 i ∈ dom (Q2 JE (Own.row 0) 7 0 l) := qm 8 _ _ _ (by rw [hli]; rfl)
      have qm2 : fam 16 i ∈ dom (Q2 JE (Own.row 0) 7 0 l) := qm 9 _ _ _ (by rw [hli]; rfl)
      have qd : dom (OO 3 71 v 11 JE (Own.row 0) 7 0 (l.set i (QaF (k + (KR a i : Nat)) (a.getD i default)))) = dom (OO 3 71 v 11 JE (Own.row 0) 7 0 l) := Qah dsh hd1
      rw [qd, ← q0 .gone]
      simp only [dom, List.map_cons, List.cons.injEq, true_and]
      have qs := fun (M : List (Nat × AObj)) (o : Nat) (x : AObj) (h : o ∈ dom M) => Qi8 (M := M) (o := o) (x := x) h
      simp only [dom] at qs qm0 qm1 qm2 ⊢
      simp (config := { maxDischargeDepth := 8 }) only [qs, qm0, qm1, qm2]
    · simp only at hj ⊢
      by_cases e : j = i
      · subst e; exact Kh hil
      · rw [K2 (Ne.symm e)]; exact h3 j (by omega)
    · simp only at h6 ⊢
      rw [K2 (by omega)]; exact h4 j (by omega) h7
  · have hl : l = QaG k a := Vc (by rw [K3]; exact h2) fun j hj => by rw [QiN (by omega)]; exact h3 j (by omega)
    have e : i = a.length := by omega
    subst hl
    subst e
    simp only [OO]
    unfold KL; simp (maxSteps := 2000000) only [bitvec_to_nat, reduceIte, Nat.reduceEqDiff, Nat.reduceAdd, Nat.reduceLeDiff, reduceCtorEq, Nat.reduceBEq, Nat.reduceLT, Nat.reduceMod, fmc, Qf, Qm, Qe, QE, keepB, Qn, QJ, Qx, hg0, hg1, hg2, hr0, gsr, List.set_set, UN, Int.toNat_natCast, List.length_map, List.length_set, QN, Nat.sub_zero, Nat.zero_add, Q6, QO, QM, Q4, QF, QF, Jh]
    refine ⟨fun h => absurd h (by omega), fun _ => ⟨Jl fun p hp => Vq (o := 3) (e := 71) (v := v) (sz := 11) QX (by omega) (by omega) p (List.mem_cons_of_mem _ hp), Y0 (o := 3) (v := v) (sz := 11) (e := 71) QX YH, WZ (M := OO 3 71 v 11 JE (Own.row 0) 7 0 (QaG k a))⟩⟩
set_option maxHeartbeats 4000000 in
theorem QiO (t t' : Nat) (k : Int) (a : List Own) (ha : a.length ≤ 1048577) (hs : ∀ x ∈ a, x.sm) (hk : 0 ≤ k ∧ k ≤ 35184372088832) : Contract P 62 [.sl t 11 ((QaG k a).map (Own.row t')), .int .i64 k] [] (.int .i64 (k + (KR a a.length : Nat))) [] := by
  refine Qh ((((Env.nil P).add 52 Qx J8).add 56 J0 QcF).add 97 KK Qf8) hm Qcv (nlb rfl) rfl ?_; unfold Ua; simp (maxSteps := 2000000) only [bitvec_to_nat, reduceIte, Nat.reduceEqDiff, Nat.reduceAdd, Nat.reduceLeDiff, reduceCtorEq, Nat.reduceBEq, Nat.reduceLT, Nat.reduceMod, fmc, Qx, J0, KK, int_toBitVec_meta, method_specs_simp, Int.toNat_natCast, List.length_map, Nat.sub_zero, Nat.zero_add, K3, QF, QF, Jh]
  refine QH (fun i : Nat => [(1, .int .i64 (k + (KR a i : Nat))), (5, .int .i64 i)]) (fun _ => []) (fun i => i ≤ a.length) (fun i => a.length - i) 0 ?_ (Nat.zero_le _) ?_
  · have e0 : k + ((KR a 0 : Nat) : Int) = k := by simp [KR]
    simp only [e0]
    simp only [Ju, Jv, Jw, Jx, Qi, Qj, Qk, Ql, reduceIte, Nat.reduceEqDiff]; exact ⟨by repeat' (first | exact trivial | refine ⟨.inr rfl, ?_⟩), by repeat' (first | exact trivial | refine ⟨rfl, ?_⟩), by first | rfl | simp [closedB, Qc, Qb, Qd, dom, Qa, *], by first | rfl | simp [keepB, dom]⟩
  intro i hi NX hN
  have hct := QhG hs hi
  by_cases h : i < a.length
  · have hg := QiN (k := k) h
    have hx := hs _ (Jg h)
    unfold Own.sm at hx
    have e5 : k + ((KR a (i + 1) : Nat) : Int) = k + (KR a i : Nat) + 1 + 1 + 1 + 1 + 1 + 1 + 6 * ((a.getD i default).tu.length : Int) + 1 + 6 * ((a.getD i default).nx.length : Int) + ((a.getD i default).gr.length : Int) + 1 := by rw [QcG h]; unfold QiM; omega
    unfold YB; simp (maxSteps := 2000000) only [bitvec_to_nat, reduceIte, Nat.reduceEqDiff, Nat.reduceAdd, Nat.reduceLeDiff, reduceCtorEq, Nat.reduceBEq, Nat.reduceLT, Nat.reduceMod, fmc, Qx, J0, KK, int_toBitVec_meta, method_specs_simp, Int.toNat_natCast, List.length_map, Nat.sub_zero, Nat.zero_add, K3, QF, QF, Jh, hg, QaF, not_true_eq_false, ne_eq, bne_self_eq_false, eq_self, not_false_eq_true]
    repeat' (first | with_reducible apply And.intro | with_reducible intro _)
    all_goals first
      | omega
      | rfl
      | (rename_i h; exact absurd rfl h)
      | (refine hN (i + 1) _ (by simp only [e5]; simp only [Ju, Jv, Jw, Jx, Qi, Qj, Qk, Ql, reduceIte, Nat.reduceEqDiff]; exact ⟨by repeat' (first | exact trivial | refine ⟨.inr rfl, ?_⟩), by repeat' (first | exact trivial | refine ⟨rfl, ?_⟩), by first | rfl | simp [closedB, Qc, Qb, Qd, dom, Qa, *], by first | rfl | simp [keepB, dom]⟩) ?_ ?_ <;> omega)
      | trace_state
  · have e : i = a.length := by omega
    subst e
    unfold YB; simp (maxSteps := 2000000) only [bitvec_to_nat, reduceIte, Nat.reduceEqDiff, Nat.reduceAdd, Nat.reduceLeDiff, reduceCtorEq, Nat.reduceBEq, Nat.reduceLT, Nat.reduceMod, fmc, Qx, J0, KK, int_toBitVec_meta, method_specs_simp, Int.toNat_natCast, List.length_map, Nat.sub_zero, Nat.zero_add, K3, QF, QF, Jh]
    repeat' (first | with_reducible apply And.intro | with_reducible intro _)
    all_goals first
      | omega
      | rfl
      | (exfalso; omega)
      | trace_state
end
end Go.Ve

namespace Go.Ve
noncomputable section
open Go.Proofs
set_option maxRecDepth 100000
open Go.ChangeShapes Go.WideShapes
theorem Qtx {zs : List Zone} (h : Q5 zs) {i : Nat} (hi : i < zs.length) : Q5 [zs.getD i default] := Qmi.2 (h.2 i hi).1
theorem Qaf (t : Nat) (l : List Box6) (hl : l.length ≤ 4294967296) : Contract P 95 [.sl t 6 (l.map Box6.row)] [] (.own 104 0 0 l.length) [(104, .arr 100 0 6 (l.map Box6.row))] := by
  have tkB : List.take l.length (l.map Box6.row) = l.map Box6.row := List.take_of_length_le (by simp)
  refine Qh (Env.nil P) hm Qf5 (nlb rfl) rfl ?_; unfold QaD; simp (maxSteps := 2000000) only [bitvec_to_nat, reduceIte, Nat.reduceEqDiff, Nat.reduceAdd, Nat.reduceLeDiff, reduceCtorEq, Nat.reduceBEq, Nat.reduceLT, Nat.reduceMod, fmc, Qf, Qm, Qe, QE, keepB, Qn, QJ, int_toBitVec_meta, method_specs_simp, Nat.sub_zero, List.append_nil, tkB]
  repeat' (first | with_reducible apply And.intro | with_reducible intro _)
  all_goals first | omega | rfl | (simp [Qc, Qb, dom]; done)
theorem Qpu (z : Zone) (t : Nat) (tu : List Box6) (hl : tu.length ≤ 4294967295) (h1 : Q5 [z]) : Contract P 115 [.agg z.row, .sl t 6 (tu.map Box6.row)] [] (.own 105 (Yf z tu).length 0 (Yf z tu).length) [(105, .arr 100 (Yf z tu).length 6 ((Yf z tu).map Box6.row))] := by
  simp only [Zone.row]
  refine Qh ((((Env.nil P).add 101 Y9 Qhc).add 121 Kx Qdi).add 120 QA KG) hm QdL (nlb rfl) rfl ?_; unfold Vk; simp (maxSteps := 2000000) only [bitvec_to_nat, reduceIte, Nat.reduceEqDiff, Nat.reduceAdd, Nat.reduceLeDiff, reduceCtorEq, Nat.reduceBEq, Nat.reduceLT, Nat.reduceMod, fmc, Qf, Qm, Qe, QE, keepB, Qn, QJ, Y9, Kx, QA, int_toBitVec_meta]
  refine ⟨fun _ => ?_, fun h => absurd h1 h⟩
  refine QH (fun i : Nat => [(5, .own 105 (kp z tu i).length 0 (kp z tu i).length), (14, .int .i64 i)]) (fun i => [(105, .arr 100 (kp z tu i).length 6 ((kp z tu i).map Box6.row))]) (fun i => i ≤ tu.length ∧ (0 < i → Q5 [z])) (fun i => tu.length - i) (0) (by simp only [Ju, Jv, Jw, Jx, Qi, Qj, Qk, Ql, reduceIte, Nat.reduceEqDiff]; exact ⟨by repeat' (first | exact trivial | refine ⟨.inr rfl, ?_⟩), by repeat' (first | exact trivial | refine ⟨rfl, ?_⟩), by first | rfl | simp [closedB, Qc, Qb, Qd, dom, Qa, *], by first | rfl | simp [keepB, dom]⟩) ?_ ?_
  · exact ⟨Nat.zero_le _, by omega⟩
  intro i hi NX hN
  unfold ZB; simp (maxSteps := 2000000) only [bitvec_to_nat, reduceIte, Nat.reduceEqDiff, Nat.reduceAdd, Nat.reduceLeDiff, reduceCtorEq, Nat.reduceBEq, Nat.reduceLT, Nat.reduceMod, fmc, Qf, Qm, Qe, QE, keepB, Qn, QJ, Y9, Kx, QA, int_toBitVec_meta]
  have hk := QoV z tu i
  have hz := h1
  rw [Qmi] at hz
  unfold Zone.ok at hz
  by_cases hlt : i < tu.length
  · refine ⟨fun _ => ?_, fun h => absurd (by omega) h⟩
    repeat' (first | with_reducible apply And.intro | with_reducible intro _)
    all_goals first
      | omega
      | (have e := Qsq (z := z) (show i < tu.length by omega) (by unfold Zone.sees; grind)
         refine hN (i + 1) _ (by simp only [e, List.length_append, List.length_cons, List.length_nil, Nat.zero_add, List.map_append, List.map_cons, List.map_nil, Ju, Jv, Jw, Jx, Qi, Qj, Qk, Ql, reduceIte, Nat.reduceEqDiff]; exact ⟨by repeat' (first | exact trivial | refine ⟨.inr rfl, ?_⟩), by repeat' (first | exact trivial | refine ⟨rfl, ?_⟩), by first | rfl | simp [closedB, Qc, Qb, Qd, dom, Qa, *], by first | rfl | simp [keepB, dom]⟩) ?_ ?_
         · exact ⟨by omega, fun _ => h1⟩
         · omega)
      | (have e := QoU (z := z) (show i < tu.length by omega) (by unfold Zone.sees; grind)
         refine hN (i + 1) _ (by simp only [e, List.length_append, List.length_cons, List.length_nil, Nat.zero_add, List.map_append, List.map_cons, List.map_nil, Ju, Jv, Jw, Jx, Qi, Qj, Qk, Ql, reduceIte, Nat.reduceEqDiff]; exact ⟨by repeat' (first | exact trivial | refine ⟨.inr rfl, ?_⟩), by repeat' (first | exact trivial | refine ⟨rfl, ?_⟩), by first | rfl | simp [closedB, Qc, Qb, Qd, dom, Qa, *], by first | rfl | simp [keepB, dom]⟩) ?_ ?_
         · exact ⟨by omega, fun _ => h1⟩
         · omega)
  · refine ⟨fun h => absurd h (by omega), fun _ => ?_⟩
    have e : i = tu.length := by omega
    subst e
    simp only [QoW h1]
    repeat' (first | with_reducible apply And.intro | with_reducible intro _)
    all_goals first | rfl | trivial | (simp [Qc]; done)
def Qs1 (me : ByteArray) (o : Own) (z : Zone) : VW := ⟨(Yf z o.nx).length, 1, me, z.nm, o.fl, o.wi, 0, 0, Yf z o.nx⟩
def QrE (o : Own) (z : Zone) : Prop := 0 < (Yf z o.nx).length ∧ z.nm ∉ o.gr
instance (o : Own) (z : Zone) : Decidable (QrE o z) := by unfold QrE; infer_instance
def Yp (zs : List Zone) (me : ByteArray) (o : Own) : Nat → List VW
  | 0 => []
  | i + 1 => if QrE o (zs.getD i default) then Yp zs me o i ++ [Qs1 me o (zs.getD i default)] else Yp zs me o i
theorem Qjp {zs : List Zone} {me : ByteArray} {o : Own} : ∀ i, (Yp zs me o i).length ≤ i
  | 0 => Nat.le_refl _
  | i + 1 => by
    have := Qjp (zs := zs) (me := me) (o := o) i
    simp only [Yp]; split
    · rw [List.length_append]; simp; omega
    · omega
abbrev Jk (o v k i0 : Nat) (l : List VW) : List (Nat × AObj) := OO o 73 v 8 Ko VW.rowO k i0 l
theorem Q8 {o e v k q sz i0 : Nat} {a : List VW} (h : q ≠ o) (hq : q < 1000) (hk : k + 8 ≤ 1000) : W4 (OO o e v sz Ko VW.rowO k i0 a) q := fun p hp e => by
  have := KZ Jb hk hp; omega
theorem Kt {o e v k sz i0 : Nat} {a : List VW} (ho : o < 1000) (hk : k + 8 ≤ 1000) : ZW (OO o e v sz Ko VW.rowO k i0 a) := Vp Jb hk ho
end
end Go.Ve

namespace Go.Ve
noncomputable section
open Go.Proofs
set_option maxRecDepth 100000
open Go.ChangeShapes Go.WideShapes
end
end Go.Ve

namespace Go.Ve
noncomputable section
open Go.Proofs
set_option maxRecDepth 100000
open Go.ChangeShapes Go.WideShapes
theorem Qpv (t : Nat) (l : List Box6) (hl : l.length ≤ 4294967296) : Contract P 66 [.sl t 6 (l.map Box6.row)] [] (.sl 0 6 (l.map Box6.row)) [] := by
  have tkB : List.take l.length (l.map Box6.row) = l.map Box6.row := List.take_of_length_le (by simp)
  refine Qh (Env.nil P) hm Qh8 (nlb rfl) rfl ?_; unfold Qca; simp (maxSteps := 2000000) only [bitvec_to_nat, reduceIte, Nat.reduceEqDiff, Nat.reduceAdd, Nat.reduceLeDiff, reduceCtorEq, Nat.reduceBEq, Nat.reduceLT, Nat.reduceMod, fmc, Qf, Qm, Qe, QE, keepB, Qn, QJ, int_toBitVec_meta, method_specs_simp, Nat.sub_zero, List.append_nil, tkB, QdO]
  repeat' (first | with_reducible apply And.intro | with_reducible intro _)
  all_goals first | omega | rfl | (simp; done)
def JL : List AV → Option (Prop × AV)
  | [.sl tut 6 tux] => some ((((tux.map QD).map Box6.row = tux)) ∧ ((tux.map QD).length ≤ 4294967296), .sl 0 6 ((tux.map QD).map Box6.row))
  | _ => none
theorem Qbx : ∀ args p v, JL args = some (p, v) → p → Contract P 66 args [] v [] ∧ noref v = true ∧ No99 v := by
  intro args p v h1 h2
  unfold JL at h1
  split at h1
  · rename_i tut tux
    cases h1
    obtain ⟨e0, HP⟩ := h2
    have := Qpv tut (tux.map QD) HP
    exact ⟨by simpa only [e0] using this, rfl, by simp [No99, Jj, -List.map_map]⟩
  · cases h1
theorem Qty {zs : List Zone} (h : Q5 zs) : ∀ i, i < zs.length → ∀ j, j < i → slt (zs.getD j default).nm (zs.getD i default).nm
  | 0, _, j, hj => by omega
  | i + 1, hi, j, hj => by
    have h1 := (h.2 (i + 1) hi).2.1 (by omega)
    rw [Nat.add_sub_cancel] at h1
    by_cases e : j = i
    · subst e; exact h1
    · exact QgR (Qty h i (by omega) j (by omega)) h1
theorem QqZ {zs : List Zone} (h : Q5 zs) {i : Nat} (hi : i < zs.length) : zAt zs (zs.getD i default).nm = i := by
  unfold zAt
  refine Qcr hi (by simp) fun j hj => ?_
  simp only [decide_eq_false_iff_not]
  intro e
  have := Qty h i hi j hj
  rw [e] at this
  exact ZL _ this
theorem Qpw {zs : List Zone} (h : Q5 zs) {z : Zone} (hz : z ∈ zs) : 0 ≤ zAt zs z.nm ∧ zAt zs z.nm < zs.length ∧ zs.getD (zAt zs z.nm).toNat default = z := by
  obtain ⟨i, hi, rfl⟩ := List.mem_iff_getElem.1 hz
  have e : zs[i] = zs.getD i default := by simp [hi]
  rw [e, QqZ h hi]
  exact ⟨by omega, by omega, by simp⟩
/-- The word that asks a zone of this name. -/
def QtS (zs : List Zone) (me : ByteArray) (o : Own) (nm : ByteArray) : Word := ⟨1, me, nm, o.fl, o.wi, 0, 0, Yf (zs.getD (zAt zs nm).toNat default) o.nx⟩
theorem Qq0 (zs : List Zone) (me : ByteArray) (o : Own) (nm : ByteArray) : (QtS zs me o nm).row 0 = [.int .i64 1, .str me, .str nm, .str o.fl, .int .i64 o.wi, .int .i64 0, .int .i64 0, .sl 0 6 ((Yf (zs.getD (zAt zs nm).toNat default) o.nx).map Box6.row)] := rfl
def Qjq (zs : List Zone) (me : ByteArray) (o : Own) (i : Nat) : List Word := (((Kd zs o.nx).take i).filter fun nm => decide (nm ∉ o.gr)).map (QtS zs me o)
theorem Qms {zs : List Zone} {me : ByteArray} {o : Own} : ∀ i, i ≤ zs.length → Yp zs me o i = ((zs.take i).filter fun z => decide (QrE o z)).map (Qs1 me o)
  | 0, _ => by simp [Yp]
  | i + 1, hi => by
    have ih := Qms (zs := zs) (me := me) (o := o) i (by omega)
    simp only [Yp]
    split
    · rw [Qmh (p := fun z => decide (QrE o z)) (show i < zs.length by omega) (by simpa using ‹_›), List.map_append, ih]; rfl
    · rw [Qjh (p := fun z => decide (QrE o z)) (show i < zs.length by omega) (by simpa using ‹_›), ih]
theorem QsH {zs : List Zone} {me : ByteArray} {o : Own} (h : Q5 zs) : Qjq zs me o (Kd zs o.nx).length = (Yp zs me o zs.length).map VW.w := by
  rw [Qms _ (Nat.le_refl _), List.take_length]
  unfold Qjq Kd
  rw [List.take_length, List.filter_map, List.map_map, List.map_map, List.filter_filter]
  have e1 : (fun z : Zone => decide (QrE o z)) = fun z => ((fun nm : ByteArray => decide (nm ∉ o.gr)) ∘ fun z : Zone => z.nm) z && decide (0 < (Yf z o.nx).length) := by
    funext z
    simp only [QrE, Function.comp]
    by_cases h1 : 0 < (Yf z o.nx).length <;> by_cases h2 : z.nm ∈ o.gr <;> simp [h1, h2]
  rw [e1]
  refine List.map_congr_left fun z hz => ?_
  have hz' := (List.mem_filter.1 hz).1
  simp only [Function.comp, QtS, Qs1, VW.w, (Qpw h hz').2.2]
theorem QsI {zs : List Zone} {tu : List Box6} (h : Q5 zs) {i : Nat} (hi : i < (Kd zs tu).length) : 0 ≤ zAt zs ((Kd zs tu).getD i default) ∧ zAt zs ((Kd zs tu).getD i default) < zs.length := by
  have hm : (Kd zs tu).getD i default ∈ Kd zs tu := Jg hi
  generalize (Kd zs tu).getD i default = nm at hm
  obtain ⟨z, hz, rfl⟩ := List.mem_map.1 hm
  have := Qpw h (List.mem_filter.1 hz).1
  exact ⟨this.1, this.2.1⟩
set_option maxHeartbeats 4000000 in
theorem QsJ (t : Nat) (zs : List Zone) (me : ByteArray) (o : Own) (hz : Q5 zs) (ho : o.small) : Contract P 39 [.sl t 5 (zs.map Zone.row), .str me, .agg (o.row 0)] [] (.sl 0 8 ((Qjq zs me o (Kd zs o.nx).length).map (Word.row 0))) [] := by
  have tkS : True := trivial
  unfold Own.small at ho
  have hz4 := hz.1
  have hwl : (Kd zs o.nx).length ≤ 4 := by rw [← Qmk]; have := Qmj zs o.nx zs.length; omega
  simp only [Own.row]
  refine Qh ((((Env.nil P).add 81 Gb Qkx).add 36 Jp Uv).add 82 Ga Qkw) hm Qh6 (nlb rfl) rfl ?_; unfold Qb7; simp (maxSteps := 2000000) only [bitvec_to_nat, reduceIte, Nat.reduceEqDiff, Nat.reduceAdd, Nat.reduceLeDiff, reduceCtorEq, Nat.reduceBEq, Nat.reduceLT, Nat.reduceMod, fmc, Gb, Jp, Ga, int_toBitVec_meta, method_specs_simp, Nat.sub_zero, tkS, QdO, List.append_nil]
  refine ⟨⟨by omega, by omega⟩, ?_⟩
  refine QH (fun i : Nat => [(7, .own 112 (Qjq zs me o i).length 0 (Qjq zs me o i).length), (9, .int .i64 i)]) (fun i => [(112, .arr 73 (Qjq zs me o i).length 8 ((Qjq zs me o i).map (Word.row 0)))]) (fun i => i ≤ (Kd zs o.nx).length) (fun i => (Kd zs o.nx).length - i) 0 (by simp only [Ju, Jv, Jw, Jx, Qi, Qj, Qk, Ql, reduceIte, Nat.reduceEqDiff]; exact ⟨by repeat' (first | exact trivial | refine ⟨.inr rfl, ?_⟩), by repeat' (first | exact trivial | refine ⟨rfl, ?_⟩), by first | rfl | simp [closedB, Qc, Qb, Qd, dom, Qa, *], by first | rfl | simp [keepB, dom]⟩) (Nat.zero_le _) ?_
  intro i hi NX hN
  have hal : (Qjq zs me o i).length ≤ i := by unfold Qjq; rw [List.length_map]; exact Nat.le_trans (List.length_filter_le _ _) (by simp; omega)
  have tkS : List.take (Qjq zs me o i).length ((Qjq zs me o i).map (Word.row 0)) = (Qjq zs me o i).map (Word.row 0) := List.take_of_length_le (by simp)
  unfold Qaj; simp (maxSteps := 2000000) only [bitvec_to_nat, reduceIte, Nat.reduceEqDiff, Nat.reduceAdd, Nat.reduceLeDiff, reduceCtorEq, Nat.reduceBEq, Nat.reduceLT, Nat.reduceMod, fmc, Gb, Jp, Ga, int_toBitVec_meta, method_specs_simp, Nat.sub_zero, tkS, QdO, List.append_nil]
  by_cases h : i < (Kd zs o.nx).length
  · have hw := QsI hz h
    refine ⟨fun _ => ?_, fun h' => absurd (by omega) h'⟩
    refine QH (fun a : Nat × Bool => [(10, .bool a.2), (11, .int .i64 a.1)]) (fun _ => []) (fun a => a.1 ≤ o.gr.length ∧ (a.2 = true ↔ ∃ k, k < a.1 ∧ o.gr.getD k default = (Kd zs o.nx).getD i default)) (fun a => o.gr.length - a.1) (0, false) (by simp only [Ju, Jv, Jw, Jx, Qi, Qj, Qk, Ql, reduceIte, Nat.reduceEqDiff]; exact ⟨by repeat' (first | exact trivial | refine ⟨.inr rfl, ?_⟩), by repeat' (first | exact trivial | refine ⟨rfl, ?_⟩), by first | rfl | simp [closedB, Qc, Qb, Qd, dom, Qa, *], by first | rfl | simp [keepB, dom]⟩) ⟨Nat.zero_le _, by simp⟩ ?_
    rintro ⟨k, bb⟩ hk NX2 hN2
    simp only at hk
    have sn : ∀ b' : Bool, (b' = true ↔ bb = true ∨ o.gr.getD k default = (Kd zs o.nx).getD i default) → (b' = true ↔ ∃ j, j < k + 1 ∧ o.gr.getD j default = (Kd zs o.nx).getD i default) := by
      intro b' hb'
      rw [hb', hk.2]
      constructor
      · rintro (⟨j, h1, h2⟩ | h)
        · exact ⟨j, by omega, h2⟩
        · exact ⟨k, by omega, h⟩
      · rintro ⟨j, h1, h2⟩
        by_cases e : j = k
        · subst e; exact .inr h2
        · exact .inl ⟨j, by omega, h2⟩
    have fin : k = o.gr.length → (bb = true ↔ (Kd zs o.nx).getD i default ∈ o.gr) := fun e => by
      subst e
      rw [hk.2, List.mem_iff_getElem]
      constructor
      · rintro ⟨j, h1, h2⟩
        exact ⟨j, h1, by rw [← h2]; simp [h1]⟩
      · rintro ⟨j, h1, h2⟩
        exact ⟨j, h1, by rw [← h2]; simp [h1]⟩
    have a1 : (Kd zs o.nx).getD i default ∉ o.gr → Qjq zs me o (i + 1) = Qjq zs me o i ++ [QtS zs me o ((Kd zs o.nx).getD i default)] := fun hh => by
      unfold Qjq; rw [Qmh h (by simpa using hh), List.map_append]; rfl
    have a2 : (Kd zs o.nx).getD i default ∈ o.gr → Qjq zs me o (i + 1) = Qjq zs me o i := fun hh => by
      unfold Qjq; rw [Qjh h (by simpa using hh)]
    cases bb
    · unfold X6; simp (maxSteps := 2000000) only [bitvec_to_nat, reduceIte, Nat.reduceEqDiff, Nat.reduceAdd, Nat.reduceLeDiff, reduceCtorEq, Nat.reduceBEq, Nat.reduceLT, Nat.reduceMod, fmc, Gb, Jp, Ga, int_toBitVec_meta, method_specs_simp, Nat.sub_zero, tkS, QdO, List.append_nil]
      refine ⟨fun h3 => ⟨by omega, by omega, by omega, by omega, ⟨by omega, by omega⟩, hN2 (k + 1, decide (o.gr.getD k default = (Kd zs o.nx).getD i default)) _ (by simp only [Ju, Jv, Jw, Jx, Qi, Qj, Qk, Ql, reduceIte, Nat.reduceEqDiff]; exact ⟨by repeat' (first | exact trivial | refine ⟨.inr rfl, ?_⟩), by repeat' (first | exact trivial | refine ⟨rfl, ?_⟩), by first | rfl | simp [closedB, Qc, Qb, Qd, dom, Qa, *], by first | rfl | simp [keepB, dom]⟩) ⟨by simp only; omega, sn _ (by simp)⟩ (by simp only; omega)⟩, fun h3 => ?_⟩
      have hf := fin (by omega)
      have hnm : (Kd zs o.nx).getD i default ∉ o.gr := fun hh => by simpa using hf.2 hh
      have e := a1 hnm
      repeat (refine ⟨by first | omega | exact hw.1 | exact hw.2, ?_⟩)
      refine hN (i + 1) _ (by simp only [e, List.map_append (l₂ := [_]), List.map_cons, List.map_nil, Qq0, List.length_append, List.length_cons, List.length_nil, Nat.zero_add]; simp only [Ju, Jv, Jw, Jx, Qi, Qj, Qk, Ql, reduceIte, Nat.reduceEqDiff]; exact ⟨by repeat' (first | exact trivial | refine ⟨.inr rfl, ?_⟩), by repeat' (first | exact trivial | refine ⟨rfl, ?_⟩), by first | rfl | simp [closedB, Qc, Qb, Qd, dom, Qa, *], by first | rfl | simp [keepB, dom]⟩) (by omega) (by omega)
    · unfold X6; simp (maxSteps := 2000000) only [bitvec_to_nat, reduceIte, Nat.reduceEqDiff, Nat.reduceAdd, Nat.reduceLeDiff, reduceCtorEq, Nat.reduceBEq, Nat.reduceLT, Nat.reduceMod, fmc, Gb, Jp, Ga, int_toBitVec_meta, method_specs_simp, Nat.sub_zero, tkS, QdO, List.append_nil]
      refine ⟨fun h3 => ⟨⟨by omega, by omega⟩, hN2 (k + 1, true) _ (by simp only [Ju, Jv, Jw, Jx, Qi, Qj, Qk, Ql, reduceIte, Nat.reduceEqDiff]; exact ⟨by repeat' (first | exact trivial | refine ⟨.inr rfl, ?_⟩), by repeat' (first | exact trivial | refine ⟨rfl, ?_⟩), by first | rfl | simp [closedB, Qc, Qb, Qd, dom, Qa, *], by first | rfl | simp [keepB, dom]⟩) ⟨by simp only; omega, sn _ (by simp)⟩ (by simp only; omega)⟩, fun h3 => ⟨⟨by omega, by omega⟩, ?_⟩⟩
      have hf := fin (by omega)
      have e := a2 (hf.1 rfl)
      exact hN (i + 1) _ (by simp only [e]; simp only [Ju, Jv, Jw, Jx, Qi, Qj, Qk, Ql, reduceIte, Nat.reduceEqDiff]; exact ⟨by repeat' (first | exact trivial | refine ⟨.inr rfl, ?_⟩), by repeat' (first | exact trivial | refine ⟨rfl, ?_⟩), by first | rfl | simp [closedB, Qc, Qb, Qd, dom, Qa, *], by first | rfl | simp [keepB, dom]⟩) (by omega) (by omega)
  · have e : i = (Kd zs o.nx).length := by omega
    subst e
    refine ⟨fun h' => absurd h' (by omega), fun _ => ?_⟩
    trivial
def Qby : List AV → Option (Prop × AV)
  | [.sl zst 5 zsx, .str me, .agg [.str o_fl, .int .i64 o_st, .int .i64 o_tn, .str o_dst, .int .i64 o_la, .int .i64 o_nr, .sl 0 6 o_tu, .int .i64 o_wi, .sl 0 6 o_nx, .sl 0 1 o_gr, .bool o_sent]] => some ((((zsx.map QB).map Zone.row = zsx) ∧ ((o_tu.map QD).map Box6.row = o_tu) ∧ ((o_nx.map QD).map Box6.row = o_nx) ∧ ((o_gr.map unS).map JJ = o_gr)) ∧ (Q5 (zsx.map QB) ∧ Own.small (Own.mk o_fl o_st o_tn o_dst o_la o_nr (o_tu.map QD) o_wi (o_nx.map QD) (o_gr.map unS) o_sent)), .sl 0 8 ((Qjq (zsx.map QB) me (Own.mk o_fl o_st o_tn o_dst o_la o_nr (o_tu.map QD) o_wi (o_nx.map QD) (o_gr.map unS) o_sent) (Kd (zsx.map QB) (Own.nx (Own.mk o_fl o_st o_tn o_dst o_la o_nr (o_tu.map QD) o_wi (o_nx.map QD) (o_gr.map unS) o_sent))).length).map (Word.row 0)))
  | _ => none
theorem Qpx : ∀ args p v, Qby args = some (p, v) → p → Contract P 39 args [] v [] ∧ noref v = true ∧ No99 v := by
  intro args p v h1 h2
  unfold Qby at h1
  split at h1
  · rename_i zst zsx me o_fl o_st o_tn o_dst o_la o_nr o_tu o_wi o_nx o_gr o_sent
    cases h1
    obtain ⟨⟨e0, e1, e2, e3⟩, HP⟩ := h2
    have := QsJ zst (zsx.map QB) me (Own.mk o_fl o_st o_tn o_dst o_la o_nr (o_tu.map QD) o_wi (o_nx.map QD) (o_gr.map unS) o_sent) HP.1 HP.2
    exact ⟨by simpa only [e0, e1, e2, e3, Own.row] using this, rfl, by simp only [No99]; exact ⟨by omega, Ye _⟩⟩
  · cases h1
def QjD (zs : List Zone) (me : ByteArray) (b : Book) : Prop := (Q5 zs ∧ bookOk zs b) ∧ 0 ≤ zAt zs me
instance (zs : List Zone) (me : ByteArray) (b : Book) : Decidable (QjD zs me b) := by unfold QjD; infer_instance
theorem Qpy (t : Nat) (zs : List Zone) (me : ByteArray) (b : Book) (hb : b.small) (hz : zs.length ≤ 4294967295) : Contract P 45 [.sl t 5 (zs.map Zone.row), .str me, .agg (b.row 0)] [] (.bool (decide (QjD zs me b))) [] := by
  simp only [Book.row]
  refine Qh (((Env.nil P).add 72 Qdv Qo7).add 86 QS Gg) hm Qh7 (nlb rfl) rfl ?_; unfold Qb8; simp (maxSteps := 2000000) only [bitvec_to_nat, reduceIte, Nat.reduceEqDiff, Nat.reduceAdd, Nat.reduceLeDiff, reduceCtorEq, Nat.reduceBEq, Nat.reduceLT, Nat.reduceMod, fmc, Qdv, QS, int_toBitVec_meta, method_specs_simp, Nat.sub_zero]
  repeat' (first | with_reducible apply And.intro | with_reducible intro _)
  all_goals first
    | omega
    | exact hb
    | (simp only [QjD]; grind)
    | grind [QjD]
def Yg : List AV → Option (Prop × AV)
  | [.sl zst 5 zsx, .str me, .agg [.sl 0 11 b_own, .sl 0 3 b_parts, .sl 0 2 b_seen]] => some ((((zsx.map QB).map Zone.row = zsx) ∧ ((b_own.map JC).map (Own.row 0) = b_own) ∧ ((b_parts.map Q9).map (Part.row 0) = b_parts) ∧ ((b_seen.map Jc).map Seen.row = b_seen)) ∧ (Book.small (Book.mk (b_own.map JC) (b_parts.map Q9) (b_seen.map Jc)) ∧ (zsx.map QB).length ≤ 4294967295), .bool (decide (QjD (zsx.map QB) me (Book.mk (b_own.map JC) (b_parts.map Q9) (b_seen.map Jc)))))
  | _ => none
theorem QhH : ∀ args p v, Yg args = some (p, v) → p → Contract P 45 args [] v [] ∧ noref v = true ∧ No99 v := by
  intro args p v h1 h2
  unfold Yg at h1
  split at h1
  · rename_i zst zsx me b_own b_parts b_seen
    cases h1
    obtain ⟨⟨e0, e1, e2, e3⟩, HP⟩ := h2
    have := Qpy zst (zsx.map QB) me (Book.mk (b_own.map JC) (b_parts.map Q9) (b_seen.map Jc)) HP.1 HP.2
    exact ⟨by simpa only [e0, e1, e2, e3, Book.row] using this, rfl, trivial⟩
  · cases h1
end
end Go.Ve

namespace Go.Ve
noncomputable section
open Go.Proofs
set_option maxRecDepth 100000
open Go.ChangeShapes Go.WideShapes
theorem QlF (x y : Own) : (Own.row 0 x).map QaL = (Own.row 0 y).map QaL := rfl
theorem Qjr (x y : Part) : (Part.row 0 x).map QaL = (Part.row 0 y).map QaL := rfl
theorem Qpz (x y : VW) : x.rowO.map QaL = y.rowO.map QaL := rfl
def QpA (b : Book) : Nat := KR b.own b.own.length
def QsK (b : Book) : Nat := J2 b.parts b.parts.length
def mb (k : Int) (b : Book) : Book := ⟨QaG k b.own, X9 (k + (QpA b : Nat)) b.parts, Qac (k + (QpA b : Nat) + (QsK b : Nat)) b.seen.length⟩
def cfB (b : Book) : Int := (QpA b : Nat) + (QsK b : Nat) + 2 * (b.seen.length : Int)
def Book.sm (b : Book) : Prop := (b.own.length ≤ 1048577 ∧ ∀ x ∈ b.own, x.sm) ∧ (b.parts.length ≤ 1048577 ∧ ∀ x ∈ b.parts, x.sm) ∧ b.seen.length ≤ 1048577
theorem Book.small.sm {b : Book} (h : b.small) : b.sm := by
  unfold Book.small at h
  refine ⟨⟨by omega, fun x hx => ?_⟩, ⟨by omega, fun x hx => ?_⟩, by omega⟩
  · have := h.1.2 x hx; unfold Own.small at this; unfold Own.sm; omega
  · have := h.2.1.2 x hx; unfold Part.sm; omega
theorem UI {b : Book} (h : b.sm) : QpA b ≤ 1048577 * 13631600 := Nat.le_trans (QhG h.1.2 (Nat.le_refl _)) (Nat.mul_le_mul_right _ h.1.1)
theorem UJ {b : Book} (h : b.sm) : QsK b ≤ 1048577 * 13631600 := Nat.le_trans (Qfn h.2.1.2 (Nat.le_refl _)) (Nat.mul_le_mul_right _ h.2.1.1)
theorem QiP {k : Int} {b : Book} : (mb k b).own.length = b.own.length := K3
theorem QbU {k : Int} {b : Book} : (mb k b).parts.length = b.parts.length := Gt
theorem QsL {k : Int} {b : Book} : (mb k b).seen.length = b.seen.length := UF
theorem Qtz {k : Int} {b : Book} {a va c vc d vd : Nat} : bkV (mb k b) a va c vc d vd = bkV b a va c vc d vd := by simp only [bkV, QiP, QbU, QsL]
theorem QhI {b b' : Book} {a va c vc d vd kO kP : Nat} (h1 : b.own.length = b'.own.length) (h2 : b.parts.length = b'.parts.length) : dom (bkM b a va c vc d vd kO kP) = dom (bkM b' a va c vc d vd kO kP) := by
  have e1 : dom (QiL a va kO b.own) = dom (QiL a va kO b'.own) := Qah QlF h1
  have e2 : dom (X2 c vc kP b.parts) = dom (X2 c vc kP b'.parts) := Qah Qjr h2
  simp only [bkM, Qlc, e1, e2]; rfl
theorem QpB {M M' : List (Nat × AObj)} (h : ∀ o ∈ dom M, 100 ≤ o % 1000 ∨ o ∈ dom M') : keepB M M' = true := by
  unfold keepB
  rw [List.all_eq_true]
  intro o ho
  have := h o ho
  simp only [Bool.or_eq_true, decide_eq_true_eq]
  exact this.imp id fun h => by simpa using h
set_option maxHeartbeats 4000000 in
theorem QhJ (b : Book) (va vc vd : Nat) (k : Int) (hb : b.sm) (hk : 0 ≤ k ∧ k ≤ 1099511627776) : Contract P 17 [bkV b 3 va 4 vc 5 vd, .int .i64 k] (bkM b 3 va 4 vc 5 vd 7 20) (.int .i64 (k + cfB b)) (bkM (mb k b) 3 va 4 vc 5 vd 7 20) := by
  have q1 := UI hb
  have q2 := UJ hb
  have hO := QnN va k b.own hb.1.1 hb.1.2 (by omega)
  have hP := ((QlE vc (k + (QpA b : Nat)) b.parts hb.2.1.1 hb.2.1.2 (by omega)).ren (swp 3 4) (Q0 _ _)).ren (JH 7 20 3) (JR (by omega) (by omega) (by omega))
  have e4 : JH 7 20 3 (swp 3 4 3) = 4 := by rw [show swp 3 4 3 = 4 from by simp [swp], Qoy (by omega)]
  rw [Yr (k' := 7) (i1 := 0) QR Kn (fun j i hj => JD (by omega) (by omega)), Yr (k' := 20) (i1 := 0) QR Kn (fun j i hj => Km (by omega) hj), Yr (k' := 7) (i1 := 0) QR Kn (fun j i hj => JD (by omega) (by omega)), Yr (k' := 20) (i1 := 0) QR Kn (fun j i hj => Km (by omega) hj)] at hP
  simp only [K4, ren, e4] at hP
  have hS := (QlB vd (k + (QpA b : Nat) + (QsK b : Nat)) b.seen hb.2.2 (by omega)).ren (swp 3 5) (Q0 _ _)
  simp only [K4, ren, J5, renO, swp, reduceIte, Nat.reduceEqDiff, Nat.reduceLT] at hS
  have d1 : ∀ (l : List Own) (m : List Part), dis (QiL 3 va 7 l) (X2 4 vc 20 m) := fun l m p hp q hq e => by
    have := KZ QX (by omega) hp; have := KZ QR (by omega) hq; omega
  have d2 : ∀ (l : List Own) (m : List Part), dis (X2 4 vc 20 m) (QiL 3 va 7 l) := fun l m => Yq (d1 l m)
  have oOv : ∀ (B : List (Nat × AObj)), Q1 (QiL 3 va 7 b.own ++ B) (QiL 3 va 7 (QaG k b.own)) = QiL 3 va 7 (QaG k b.own) ++ B := fun B => QeH (KP (by omega) (by omega)) (Qah QlF K3)
  have pOv : ∀ (B : List (Nat × AObj)), Q1 (X2 4 vc 20 b.parts ++ B) (X2 4 vc 20 (X9 (k + (QpA b : Nat)) b.parts)) = X2 4 vc 20 (X9 (k + (QpA b : Nat)) b.parts) ++ B := fun B => QeH (KJ (by omega) (by omega)) (Qah Qjr Gt)
  have oOv0 : True := trivial
  have pOv0 : True := trivial
  refine Qh (Env.nil P) Go.Ve.hm ZZ (nlb rfl) ?_ ?_
  · rw [List.all_eq_true]
    intro q hq
    obtain ⟨p, hp, rfl⟩ := List.mem_map.1 hq
    have := KQ (by omega) (by omega) hp
    simp only [decide_eq_true_eq]; omega
  unfold Gl bkM Qfl
  simp (maxSteps := 2000000) (maxDischargeDepth := 8) only [bitvec_to_nat, reduceIte, Nat.reduceEqDiff, Nat.reduceAdd, Nat.reduceLeDiff, reduceCtorEq, Nat.reduceBEq, Nat.reduceLT, Nat.reduceMod, fmc, Qf, Qm, Qe, QE, keepB, Qn, QJ, int_toBitVec_meta, method_specs_simp, Nat.sub_zero, List.append_nil, bkV, JP, QZ, JQ, J4, JX, X4, GJ, X5, Jm, JG, KP, KJ, List.cons_append, List.nil_append, List.append_assoc, d1, d2, oOv, oOv0, pOv, pOv0, Y8, K0]
  refine ⟨_, _, Kr hO (Qah QlF K3) (JN (KP (by omega) (by omega))) (by simp [Qb, Qc, OO, dom]) (Y0 QX YH) rfl (Y0 QX YH), ?_⟩
  simp (maxSteps := 2000000) (maxDischargeDepth := 8) only [bitvec_to_nat, reduceIte, Nat.reduceEqDiff, Nat.reduceAdd, Nat.reduceLeDiff, reduceCtorEq, Nat.reduceBEq, Nat.reduceLT, Nat.reduceMod, fmc, Qf, Qm, Qe, QE, keepB, Qn, QJ, int_toBitVec_meta, method_specs_simp, Nat.sub_zero, List.append_nil, bkV, JP, QZ, JQ, J4, JX, X4, GJ, X5, Jm, JG, KP, KJ, List.cons_append, List.nil_append, List.append_assoc, d1, d2, oOv, oOv0, pOv, pOv0, Y8, K0]
  refine ⟨_, _, Kr hP (Qah Qjr Gt) (KB (d1 _ _) (JN (KJ (by omega) (by omega)))) (by simp [Qb, Qc, OO, dom]) (Y0 QR Kn) rfl (Y0 QR Kn), ?_⟩
  simp (maxSteps := 2000000) (maxDischargeDepth := 8) only [bitvec_to_nat, reduceIte, Nat.reduceEqDiff, Nat.reduceAdd, Nat.reduceLeDiff, reduceCtorEq, Nat.reduceBEq, Nat.reduceLT, Nat.reduceMod, fmc, Qf, Qm, Qe, QE, keepB, Qn, QJ, int_toBitVec_meta, method_specs_simp, Nat.sub_zero, List.append_nil, bkV, JP, QZ, JQ, J4, JX, X4, GJ, X5, Jm, JG, KP, KJ, List.cons_append, List.nil_append, List.append_assoc, d1, d2, oOv, oOv0, pOv, pOv0, Y8, K0]
  refine ⟨_, _, Kr hS rfl (Qad (by simp (config := { maxDischargeDepth := 8 }) only [getM, JP, QZ, JQ, J4, JX, X4, GJ, X5, Jm, JG, KP, KJ, List.cons_append, List.nil_append, List.append_assoc, d1, d2, oOv, oOv0, pOv, pOv0, Y8, K0, Nat.reduceEqDiff, Nat.reduceLT, Nat.reduceAdd, Nat.reduceLeDiff, reduceIte, ne_eq, not_false_eq_true])) (by simp [Qb, Qc, dom]) rfl rfl rfl, ?_⟩
  simp (maxSteps := 2000000) (maxDischargeDepth := 8) only [bitvec_to_nat, reduceIte, Nat.reduceEqDiff, Nat.reduceAdd, Nat.reduceLeDiff, reduceCtorEq, Nat.reduceBEq, Nat.reduceLT, Nat.reduceMod, fmc, Qf, Qm, Qe, QE, keepB, Qn, QJ, int_toBitVec_meta, method_specs_simp, Nat.sub_zero, List.append_nil, bkV, JP, QZ, JQ, J4, JX, X4, GJ, X5, Jm, JG, KP, KJ, List.cons_append, List.nil_append, List.append_assoc, d1, d2, oOv, oOv0, pOv, pOv0, Y8, K0]
  refine ⟨by unfold cfB; unfold QpA QsK; omega, Jl ?_, UH (b := mb k b) (a := 3) (va := va) (c := 4) (vc := vc) (d := 5) (vd := vd) (kO := 7) (kP := 20), QpB ?_⟩
  · have := JN (B := [(102, AObj.box [AV.own 3 va 0 b.own.length, AV.own 4 vc 0 b.parts.length, AV.own 5 vd 0 b.seen.length])]) (UG (b := mb k b) (a := 3) (va := va) (c := 4) (vc := vc) (d := 5) (vd := vd) (kO := 7) (kP := 20) (by omega) (by omega) (by omega) (by omega) (by omega) (by omega) (by omega) (by omega) (by omega))
    simp only [bkM, Qfl, List.append_assoc, List.cons_append, List.nil_append] at this
    exact this
  · intro o ho
    obtain ⟨p, hp, rfl⟩ := List.mem_map.1 ho
    simp only [List.mem_append, List.mem_cons, List.not_mem_nil, or_false] at hp
    rcases hp with hp | hp | hp | hp
    · exact .inr (JI (List.mem_append.2 (.inl hp)))
    · exact .inr (JI (List.mem_append.2 (.inr (List.mem_append.2 (.inl hp)))))
    · subst hp
      exact .inr (by simp [dom])
    · subst hp; exact .inl (by omega)
theorem QhK (b : Book) (k : Int) (hb : b.sm) (hk : 0 ≤ k ∧ k ≤ 1099511627776) : Contract P 22 [.agg ((mb k b).row 0), .int .i64 k] [] (.int .i64 (k + cfB b)) [] := by
  have q1 := UI hb
  have q2 := UJ hb
  have hO := QiO 0 0 k b.own hb.1.1 hb.1.2 (by omega)
  have hP := QhE 0 0 (k + (QpA b : Nat)) b.parts hb.2.1.1 hb.2.1.2 (by omega)
  have hS := QhC 0 (k + (QpA b : Nat) + (QsK b : Nat)) b.seen.length hb.2.2 (by omega)
  simp only [Book.row, mb]
  refine Qh (Env.nil P) hm Z0 (nlb rfl) rfl ?_; unfold Gm; simp (maxSteps := 2000000) only [bitvec_to_nat, reduceIte, Nat.reduceEqDiff, Nat.reduceAdd, Nat.reduceLeDiff, reduceCtorEq, Nat.reduceBEq, Nat.reduceLT, Nat.reduceMod, fmc, int_toBitVec_meta, method_specs_simp, Nat.sub_zero, List.append_nil]
  refine ⟨_, _, .inr (.inl ⟨rfl, _, rfl, hO, rfl, trivial⟩), ?_⟩
  simp (maxSteps := 2000000) only [bitvec_to_nat, reduceIte, Nat.reduceEqDiff, Nat.reduceAdd, Nat.reduceLeDiff, reduceCtorEq, Nat.reduceBEq, Nat.reduceLT, Nat.reduceMod, fmc, int_toBitVec_meta, method_specs_simp, Nat.sub_zero, List.append_nil]
  refine ⟨fun h => by omega, fun _ => ⟨_, _, .inr (.inl ⟨rfl, _, rfl, hP, rfl, trivial⟩), ?_⟩⟩
  simp (maxSteps := 2000000) only [bitvec_to_nat, reduceIte, Nat.reduceEqDiff, Nat.reduceAdd, Nat.reduceLeDiff, reduceCtorEq, Nat.reduceBEq, Nat.reduceLT, Nat.reduceMod, fmc, int_toBitVec_meta, method_specs_simp, Nat.sub_zero, List.append_nil]
  have e1 : ((J2 b.parts b.parts.length : Nat) : Int) = (QsK b : Nat) := rfl
  refine ⟨fun h => by omega, fun _ => ⟨_, _, .inr (.inl ⟨rfl, _, rfl, hS, rfl, trivial⟩), ?_⟩⟩
  simp (maxSteps := 2000000) only [bitvec_to_nat, reduceIte, Nat.reduceEqDiff, Nat.reduceAdd, Nat.reduceLeDiff, reduceCtorEq, Nat.reduceBEq, Nat.reduceLT, Nat.reduceMod, fmc, int_toBitVec_meta, method_specs_simp, Nat.sub_zero, List.append_nil]
  unfold cfB
  exact ⟨fun h => by omega, fun _ => by omega⟩
end
end Go.Ve

namespace Go.Ve
noncomputable section
open Go.Proofs
set_option maxRecDepth 100000
open Go.ChangeShapes Go.WideShapes
abbrev KA (b : Book) : List (Nat × AObj) := bkM b 611 0 612 0 613 0 120 140
theorem Ki {b : Book} {q : Nat} (h1 : q ≠ 611) (h2 : q ≠ 612) (h3 : q ≠ 613) (h : q < 1000) : W4 (KA b) q := fun p hp e => by
  have := KQ (by omega) (by omega) hp; omega
theorem UK (b : Book) : ZW (KA b) := UG (by omega) (by omega) (by omega) (by omega) (by omega) (by omega) (by omega) (by omega) (by omega)
theorem Qmt {b : Book} : Y7 (KA b) := Qmr (by omega) (by omega) (by omega) (by omega) (by omega) (by omega) (by omega)
abbrev RA (v : Nat) (l : List VW) : List (Nat × AObj) := Jk 731 v 160 0 l
abbrev RB (v : Nat) (l : List VW) : List (Nat × AObj) := Jk 741 v 170 0 l
theorem QtA {b : Book} {v : Nat} {l : List VW} : dis (KA b) (RA v l) := fun p hp q hq e => by
  have := KQ (by omega) (by omega) hp; have := KZ Jb (by omega) hq; omega
theorem QtT {b : Book} {v : Nat} {l : List VW} : dis (KA b) (RB v l) := fun p hp q hq e => by
  have := KQ (by omega) (by omega) hp; have := KZ Jb (by omega) hq; omega
theorem QtU {v v' : Nat} {l l' : List VW} : dis (RA v l) (RB v' l') := fun p hp q hq e => by
  have := KZ Jb (by omega) hp; have := KZ Jb (by omega) hq; omega
theorem Quu {b : Book} {v : Nat} {l : List VW} : dis (RA v l) (KA b) := Yq QtA
theorem Quv {b : Book} {v : Nat} {l : List VW} : dis (RB v l) (KA b) := Yq QtT
theorem Quw {v v' : Nat} {l l' : List VW} : dis (RB v l) (RA v' l') := Yq QtU
theorem Qjs (b : Book) (hs : b.small) : Contract P 11 [.agg (b.row 1)] [] (bkV b 611 0 612 0 613 0) (KA b).reverse := (Qps b hs).post_eq (funext fun o => ZE (UK b) o)
theorem QhL (t : Nat) (zs : List Zone) (hz : zs.length ≤ 1048576) : Contract P 10 [.sl t 5 (zs.map Zone.row)] [] (.own 501 0 0 zs.length) [(501, .arr 76 0 5 (zs.map Zone.row))] := by
  have h := (QnJ t zs hz).ren (swp 107 501) (Q0 _ _)
  simp only [K4, ren, J5, renO, swp, reduceIte, Nat.reduceLT] at h
  exact h
theorem QcH (k : Int) (zs : List Zone) (hz : zs.length ≤ 1048577) (hk : 0 ≤ k ∧ k ≤ 1125899906842624) : Contract P 16 [.own 501 0 0 zs.length, .int .i64 k] [(501, .arr 76 0 5 (zs.map Zone.row))] (.int .i64 (k + 5 * zs.length)) [(501, .arr 76 0 5 ((XI k zs.length).map Zone.row))] := by
  have h := (QlD 0 k zs hz hk).ren (swp 3 501) (Q0 _ _)
  simp only [K4, ren, J5, renO, swp, reduceIte, Nat.reduceLT] at h
  exact h
theorem Qfp (b : Book) (k : Int) (hb : b.sm) (hk : 0 ≤ k ∧ k ≤ 1099511627776) : Contract P 17 [bkV b 611 0 612 0 613 0, .int .i64 k] (KA b) (.int .i64 (k + cfB b)) (gone (KA b)) := by
  have h := (((((QhJ b 0 0 0 k hb hk).ren (swp 3 611) (Q0 _ _)).ren (swp 4 612) (Q0 _ _)).ren (swp 5 613) (Q0 _ _)).ren (JH 7 120 11) (JR (by omega) (by omega) (by omega))).ren (JH 20 140 3) (JR (by omega) (by omega) (by omega))
  have hs : ∀ q q' : Nat, q < 1000 → q' < 1000 → ∀ b : Book, ∀ a c d, J5 (swp q q') (bkM b a 0 c 0 d 0 7 20) = bkM b (swp q q' a) 0 (swp q q' c) 0 (swp q q' d) 0 7 20 := fun q q' h1 h2 b a c d => JZ (fun j i hj => JD h1 h2) (fun j i hj => JD h1 h2)
  have hO : ∀ b : Book, ∀ a c d, J5 (JH 7 120 11) (bkM b a 0 c 0 d 0 7 20) = bkM b (JH 7 120 11 a) 0 (JH 7 120 11 c) 0 (JH 7 120 11 d) 0 120 20 := fun b a c d => JZ (fun j i hj => Km (by omega) hj) (fun j i hj => J1 (by omega) (by omega) (by omega))
  have hP : ∀ b : Book, ∀ a c d, J5 (JH 20 140 3) (bkM b a 0 c 0 d 0 120 20) = bkM b (JH 20 140 3 a) 0 (JH 20 140 3 c) 0 (JH 20 140 3 d) 0 120 140 := fun b a c d => JZ (fun j i hj => J1 (by omega) (by omega) (by omega)) (fun j i hj => Km (by omega) hj)
  simp only [K4, QcE, hs _ _ (show (3 : Nat) < 1000 by omega) (show (611 : Nat) < 1000 by omega), hs _ _ (show (4 : Nat) < 1000 by omega) (show (612 : Nat) < 1000 by omega), hs _ _ (show (5 : Nat) < 1000 by omega) (show (613 : Nat) < 1000 by omega), hO, hP, ren, swp, JH, reduceIte, Nat.reduceEqDiff, Nat.reduceLeDiff] at h
  have h2 := h.gone rfl
  have e : (bkM (mb k b) 611 0 612 0 613 0 120 140).map (fun p => (p.1, AObj.gone)) = gone (KA b) := by
    have hd := QhI (b := mb k b) (b' := b) (a := 611) (va := 0) (c := 612) (vc := 0) (d := 613) (vd := 0) (kO := 120) (kP := 140) QiP QbU
    have hg : ∀ l : List (Nat × AObj), l.map (fun p => (p.1, AObj.gone)) = (dom l).map fun o => (o, AObj.gone) := fun l => by simp [dom]
    unfold gone
    rw [hg, hg, hd]
  rw [e] at h2
  exact h2
theorem QsM (v : Nat) (l : List VW) (k : Int) (hl : l.length ≤ 1048577) (hs : ∀ x ∈ l, x.sm) (hk : 0 ≤ k ∧ k ≤ 35184372088832) : Contract P 18 [.own 731 v 0 l.length, .int .i64 k] (RA v l) (.int .i64 (k + (Gu l l.length : Nat))) (RA v (W0 k l)) := by
  have h := ((Qpt v k l hl hs hk).ren (swp 3 731) (Q0 _ _)).ren (JH 7 160 8) (JR (by omega) (by omega) (by omega))
  have e1 : JH 7 160 8 (swp 3 731 3) = 731 := by rw [show swp 3 731 3 = 731 from by simp [swp], Qoy (by omega)]
  rw [Yr (k' := 7) (i1 := 0) Jb JM (fun j i hj => JD (by omega) (by omega)), Yr (k' := 160) (i1 := 0) Jb JM (fun j i hj => Km (by omega) hj), Yr (k' := 7) (i1 := 0) Jb JM (fun j i hj => JD (by omega) (by omega)), Yr (k' := 160) (i1 := 0) Jb JM (fun j i hj => Km (by omega) hj)] at h
  simp only [K4, ren, e1] at h
  exact h
theorem Qt8 {v : Nat} {l : List VW} {k : Int} {B : List (Nat × AObj)} : Q1 (RA v l ++ B) (RA v (W0 k l)) = RA v (W0 k l) ++ B := QeH (Vp Jb (by omega) (by omega)) (Qah Qpz GQ)
theorem QtB {v : Nat} {l : List VW} {k : Int} : Q1 (RA v l) (RA v (W0 k l)) = RA v (W0 k l) := Qmc (Vp Jb (by omega) (by omega)) (Qah Qpz GQ)
theorem QpC {T M' B : List (Nat × AObj)} (h : Y7 T) : keepB (gone T ++ B) M' = keepB B M' := Wl (J3 (QgV h))
theorem Qt9 {b : Book} {M' B : List (Nat × AObj)} : keepB (gone (KA b) ++ B) M' = keepB B M' := QpC Qmt
theorem QtC {b : Book} {M' : List (Nat × AObj)} : keepB (gone (KA b)) M' = true := J3 (QgV Qmt)
theorem Qux {b : Book} {M' B : List (Nat × AObj)} : keepB (KA b ++ B) M' = keepB B M' := Wl (J3 Qmt)
theorem Qua {b : Book} {M' : List (Nat × AObj)} : keepB (KA b) M' = true := J3 Qmt
theorem QrF {v : Nat} {l : List VW} : Y7 (RA v l) := Ql7 Jb (by omega) (by omega) (by omega)
theorem QrG {v : Nat} {l : List VW} : Y7 (RB v l) := Ql7 Jb (by omega) (by omega) (by omega)
theorem Quy {v : Nat} {l : List VW} {M' B : List (Nat × AObj)} : keepB (RA v l ++ B) M' = keepB B M' := Wl (J3 QrF)
theorem Qub {v : Nat} {l : List VW} {M' : List (Nat × AObj)} : keepB (RA v l) M' = true := J3 QrF
theorem Quz {v : Nat} {l : List VW} {M' B : List (Nat × AObj)} : keepB (RB v l ++ B) M' = keepB B M' := Wl (J3 QrG)
theorem Quc {v : Nat} {l : List VW} {M' : List (Nat × AObj)} : keepB (RB v l) M' = true := J3 QrG
theorem QkE {M K : Nat → Option AObj} {o v k n : Nat} {l : List VW} (hn : n = l.length) (hM : ∀ p ∈ Jk o v k 0 l, M p.1 = some p.2) (hK : ∀ p ∈ Jk o v k 0 l, K p.1 = some p.2) : Vo M K (.own o v 0 n) = some (.sl 99 8 ((l.map VW.w).map (Word.row 99))) := by
  have := Qlg (M := M) (K := K) (o := o) (e := 73) (v := v) (sz := 8) (m := n) Jb JM hn hM hK
  rw [this, List.map_map]; rfl
theorem QpD {b : Book} : ∀ p ∈ (KA b).reverse, GF p.2 := fun p hp => Qpr p (List.mem_reverse.1 hp)
end
end Go.Ve

namespace Go.Ve
noncomputable section
open Go.Proofs
set_option maxRecDepth 100000
open Go.ChangeShapes Go.WideShapes
theorem Qq1 (c d : Word) (hl : c.tu.length ≤ 4611686018427387904) : Contract P 47 [.agg (c.row 0), .agg (d.row 0)] [] (.bool (decide (c = d))) [] := by
  obtain ⟨c_kd, c_fr, c_dst, c_fl, c_nr, c_la, c_tn, c_tu⟩ := c
  obtain ⟨d_kd, d_fr, d_dst, d_fl, d_nr, d_la, d_tn, d_tu⟩ := d
  simp only [Word.row]
  refine Qh ((Env.nil P).add 27 Qr QbN) hm QeR (nlb rfl) rfl ?_; unfold Wz; simp (maxSteps := 2000000) (maxDischargeDepth := 8) only [bitvec_to_nat, reduceIte, Nat.reduceEqDiff, Nat.reduceAdd, Nat.reduceLeDiff, reduceCtorEq, Nat.reduceBEq, Nat.reduceLT, Nat.reduceMod, fmc, Qr, int_toBitVec_meta, method_specs_simp]
  simp only [Word.mk.injEq]
  repeat' (first | with_reducible apply And.intro | with_reducible intro _)
  all_goals first | omega | (simp_all; done) | grind | grind [Word.small, Own.small, Part.small, Book.small, Sector.small, HCraft.small, World.small]
def QdN : List AV → Option (Prop × AV)
  | [.agg [.int .i64 c_kd, .str c_fr, .str c_dst, .str c_fl, .int .i64 c_nr, .int .i64 c_la, .int .i64 c_tn, .sl 0 6 c_tu], .agg [.int .i64 d_kd, .str d_fr, .str d_dst, .str d_fl, .int .i64 d_nr, .int .i64 d_la, .int .i64 d_tn, .sl 0 6 d_tu]] => some ((((c_tu.map QD).map Box6.row = c_tu) ∧ ((d_tu.map QD).map Box6.row = d_tu)) ∧ ((Word.mk c_kd c_fr c_dst c_fl c_nr c_la c_tn (c_tu.map QD)).tu.length ≤ 4611686018427387904), .bool (decide ((Word.mk c_kd c_fr c_dst c_fl c_nr c_la c_tn (c_tu.map QD)) = (Word.mk d_kd d_fr d_dst d_fl d_nr d_la d_tn (d_tu.map QD)))))
  | _ => none
theorem Qq2 : ∀ args p v, QdN args = some (p, v) → p → Contract P 47 args [] v [] ∧ noref v = true ∧ No99 v := by
  intro args p v h1 h2
  unfold QdN at h1
  split at h1
  · rename_i c_kd c_fr c_dst c_fl c_nr c_la c_tn c_tu d_kd d_fr d_dst d_fl d_nr d_la d_tn d_tu
    cases h1
    obtain ⟨⟨e0, e1⟩, HP⟩ := h2
    have := Qq1 (Word.mk c_kd c_fr c_dst c_fl c_nr c_la c_tn (c_tu.map QD)) (Word.mk d_kd d_fr d_dst d_fl d_nr d_la d_tn (d_tu.map QD)) HP
    exact ⟨by simpa only [e0, e1, Word.row, Word.row] using this, rfl, trivial⟩
  · cases h1
theorem QhM (t t' : Nat) (p q : List Word) (hp : p.length ≤ 4611686018427387904) (hx : ∀ x ∈ p, x.tu.length ≤ 4611686018427387904) : Contract P 13 [.sl t 8 (p.map (Word.row 0)), .sl t' 8 (q.map (Word.row 0))] [] (.bool (decide (p = q))) [] := by
  refine Qh ((Env.nil P).add 47 QdN Qq2) hm Qc0 (nlb rfl) rfl ?_; unfold UV; simp (maxSteps := 2000000) (maxDischargeDepth := 8) only [bitvec_to_nat, reduceIte, Nat.reduceEqDiff, Nat.reduceAdd, Nat.reduceLeDiff, reduceCtorEq, Nat.reduceBEq, Nat.reduceLT, Nat.reduceMod, fmc, QdN, int_toBitVec_meta, method_specs_simp]
  refine ⟨fun h1 h => h1 (by rw [h]), fun h1 => ?_⟩
  refine QH (fun i : Nat => [(5, .int .i64 i)]) (fun _ => []) (fun i => i ≤ p.length ∧ ∀ j, j < i → p.getD j default = q.getD j default) (fun i => p.length - i) (0) (by simp only [Ju, Jv, Jw, Jx, Qi, Qj, Qk, Ql, reduceIte, Nat.reduceEqDiff]; exact ⟨by repeat' (first | exact trivial | refine ⟨.inr rfl, ?_⟩), by repeat' (first | exact trivial | refine ⟨rfl, ?_⟩), by first | rfl | simp [closedB, Qc, Qb, Qd, dom, Qa, *], by first | rfl | simp [keepB, dom]⟩) ?_ ?_
  · exact ⟨Nat.zero_le _, by intro j hj; omega⟩
  intro i hi NX hN
  unfold Zf; simp (maxSteps := 2000000) (maxDischargeDepth := 8) only [bitvec_to_nat, reduceIte, Nat.reduceEqDiff, Nat.reduceAdd, Nat.reduceLeDiff, reduceCtorEq, Nat.reduceBEq, Nat.reduceLT, Nat.reduceMod, fmc, QdN, int_toBitVec_meta, method_specs_simp]
  have hx2 : i < p.length → _ := fun h => hx _ (Jg h)
  repeat' (first | with_reducible apply And.intro | with_reducible intro _)
  all_goals first
    | omega
    | (refine hN (i + 1) _ (by simp only [Ju, Jv, Jw, Jx, Qi, Qj, Qk, Ql, reduceIte, Nat.reduceEqDiff]; exact ⟨by repeat' (first | exact trivial | refine ⟨.inr rfl, ?_⟩), by repeat' (first | exact trivial | refine ⟨rfl, ?_⟩), by first | rfl | simp [closedB, Qc, Qb, Qd, dom, Qa, *], by first | rfl | simp [keepB, dom]⟩) ?_ ?_
       · exact ⟨by omega, Jf hi.2 (by with_reducible assumption)⟩
       · omega)
    | (intro h; subst h; exact absurd rfl (by with_reducible assumption))
    | (exact Vc (by omega) fun j hj => hi.2 j (by omega))
    | grind
theorem QpE {t s : Nat} {xs : List (List AV)} : Qi5 (.sl t s xs) = (t != 98 && Zc xs) := rfl
theorem QhN {s : ByteArray} : Qi5 (.str s) = true := rfl
theorem QhO {s : ByteArray} : tag0 (.str s) = .str s := rfl
theorem ZN {o : Nat} {x : AObj} {K : List (Nat × AObj)} {M : Nat → Option AObj} (h : M o = some x) (k : ∀ p ∈ K, M p.1 = some p.2) : ∀ p ∈ (o, x) :: K, M p.1 = some p.2 := fun p hp => by
  rcases List.mem_cons.1 hp with rfl | hp
  · exact h
  · exact k p hp
theorem QlG {zs : List Zone} {me : ByteArray} {o : Own} (ho : o.small) : ∀ i, ∀ x ∈ Yp zs me o i, x.sm
  | 0, x, hx => by cases hx
  | i + 1, x, hx => by
    simp only [Yp] at hx
    split at hx
    · rcases List.mem_append.1 hx with hx | hx
      · exact QlG ho i x hx
      · rw [List.mem_singleton.1 hx]
        have := Qdn (zs.getD i default) o.nx
        unfold Own.small at ho
        show (Yf (zs.getD i default) o.nx).length ≤ _; omega
    · exact QlG ho i x hx
theorem QfI (t : Nat) (k : Int) : Contract P 18 [.sl t 8 [], .int .i64 k] [] (.int .i64 k) [] := by
  refine Qh ((Env.nil P).add 52 Qx J8) hm Zi (nlb rfl) rfl ?_; unfold Y1; simp (maxSteps := 2000000) (maxDischargeDepth := 8) only [bitvec_to_nat, reduceIte, Nat.reduceEqDiff, Nat.reduceAdd, Nat.reduceLeDiff, reduceCtorEq, Nat.reduceBEq, Nat.reduceLT, Nat.reduceMod, fmc, Qx, List.map_nil, List.length_nil]
  refine QH (fun _ : Nat => [(5, .int .i64 0)]) (fun _ => []) (fun _ => True) (fun i => i) 0 (by simp only [Ju, Jv, Jw, Jx, Qi, Qj, Qk, Ql, reduceIte, Nat.reduceEqDiff]; exact ⟨by repeat' (first | exact trivial | refine ⟨.inr rfl, ?_⟩), by repeat' (first | exact trivial | refine ⟨rfl, ?_⟩), by first | rfl | simp [closedB, Qc, Qb, Qd, dom, Qa, *], by first | rfl | simp [keepB, dom]⟩) trivial ?_
  intro i _ NX hN
  unfold KD; simp (maxSteps := 2000000) (maxDischargeDepth := 8) only [bitvec_to_nat, reduceIte, Nat.reduceEqDiff, Nat.reduceAdd, Nat.reduceLeDiff, reduceCtorEq, Nat.reduceBEq, Nat.reduceLT, Nat.reduceMod, fmc, Qx, List.map_nil, List.length_nil]
  first
    | exact fun h => absurd h (by omega)
    | exact ⟨fun h => absurd h (by omega), fun _ => by first | trivial | rfl⟩
theorem Qgr {α : Type} {f : α → List AV} {rs : List LSh} (h : ∀ r, KT rs r → ∃ x : α, r = f x) : ∀ {rows : List (List AV)}, (∀ r ∈ rows, KT rs r) → ∃ l : List α, rows = l.map f
  | [], _ => ⟨[], rfl⟩
  | r :: rows, k => by
    obtain ⟨x, rfl⟩ := h r (k r (by simp))
    obtain ⟨l, rfl⟩ := Qgr h (rows := rows) fun r' h' => k r' (by simp [h'])
    exact ⟨x :: l, rfl⟩
def Qbz : List LSh := [.str]
def QcI : List LSh := [.int .i64, .int .i64, .int .i64, .int .i64, .int .i64, .int .i64]
theorem Qjt (r : List AV) (h : KT Qbz r) : ∃ x : ByteArray, r = JJ x ∧ x.toList.length ≤ 9223372036854775807 := by
  simp only [Qbz, KT, QjC] at h
  obtain ⟨_, _, rfl, ⟨n, rfl, h⟩, rfl⟩ := h
  exact ⟨n, rfl, by rw [← JU]; unfold maxLen at h; omega⟩
theorem Qgs (r : List AV) (h : KT QcI r) : ∃ x : Box6, r = x.row := by
  simp only [QcI, KT, QjC] at h
  obtain ⟨_, _, rfl, ⟨a, rfl, _⟩, _, _, rfl, ⟨b, rfl, _⟩, _, _, rfl, ⟨c, rfl, _⟩, _, _, rfl, ⟨d, rfl, _⟩, _, _, rfl, ⟨e, rfl, _⟩, _, _, rfl, ⟨g, rfl, _⟩, rfl⟩ := h
  exact ⟨⟨a, b, c, d, e, g⟩, rfl⟩
def Qju : List LSh := [.str, .int .i64, .int .i64, .int .i64, .int .i64]
theorem Qq3 (r : List AV) (h : KT Qju r) : ∃ x : Zone, r = Zone.row x ∧ x.fitp := by
  simp only [Qju, KT, QjC] at h
  obtain ⟨_, _, rfl, ⟨nm, rfl, h_nm⟩, _, _, rfl, ⟨x0, rfl, _⟩, _, _, rfl, ⟨y0, rfl, _⟩, _, _, rfl, ⟨x1, rfl, _⟩, _, _, rfl, ⟨y1, rfl, _⟩, rfl⟩ := h

  exact ⟨⟨nm, x0, y0, x1, y1⟩, rfl, (by have e := JU nm; unfold maxLen at h_nm; show nm.toList.length ≤ _; omega)⟩
def QlH : List LSh := [.str, .int .i64]
theorem Qq4 (r : List AV) (h : KT QlH r) : ∃ x : Seen, r = Seen.row x ∧ x.fitp := by
  simp only [QlH, KT, QjC] at h
  obtain ⟨_, _, rfl, ⟨fl, rfl, h_fl⟩, _, _, rfl, ⟨nr, rfl, _⟩, rfl⟩ := h

  exact ⟨⟨fl, nr⟩, rfl, (by have e := JU fl; unfold maxLen at h_fl; show fl.toList.length ≤ _; omega)⟩
def QlI : List LSh := [.str, .int .i64, .sl QcI]
theorem Qq5 (r : List AV) (h : KT QlI r) : ∃ x : Part, r = (Part.row 1) x ∧ x.fitp := by
  simp only [QlI, KT, QjC] at h
  obtain ⟨_, _, rfl, ⟨fl, rfl, h_fl⟩, _, _, rfl, ⟨nr, rfl, _⟩, _, _, rfl, ⟨bx, rfl, h_bx, r_bx⟩, rfl⟩ := h
  obtain ⟨bx, rfl⟩ := Qgr Qgs r_bx
  rw [List.length_map] at h_bx
  exact ⟨⟨fl, nr, bx⟩, rfl, ⟨(by have e := JU fl; unfold maxLen at h_fl; show fl.toList.length ≤ _; omega), (by unfold maxLen at h_bx; omega)⟩⟩
def QpF : List LSh := [.str, .int .i64, .int .i64, .str, .int .i64, .int .i64, .sl QcI, .int .i64, .sl QcI, .sl Qbz, .bool]
theorem QsN (r : List AV) (h : KT QpF r) : ∃ x : Own, r = (Own.row 1) x ∧ x.fitp := by
  simp only [QpF, KT, QjC] at h
  obtain ⟨_, _, rfl, ⟨fl, rfl, h_fl⟩, _, _, rfl, ⟨st, rfl, _⟩, _, _, rfl, ⟨tn, rfl, _⟩, _, _, rfl, ⟨dst, rfl, h_dst⟩, _, _, rfl, ⟨la, rfl, _⟩, _, _, rfl, ⟨nr, rfl, _⟩, _, _, rfl, ⟨tu, rfl, h_tu, r_tu⟩, _, _, rfl, ⟨wi, rfl, _⟩, _, _, rfl, ⟨nx, rfl, h_nx, r_nx⟩, _, _, rfl, ⟨gr, rfl, h_gr, r_gr⟩, _, _, rfl, ⟨sent, rfl⟩, rfl⟩ := h
  obtain ⟨tu, rfl⟩ := Qgr Qgs r_tu
  rw [List.length_map] at h_tu
  obtain ⟨nx, rfl⟩ := Qgr Qgs r_nx
  rw [List.length_map] at h_nx
  obtain ⟨gr, rfl, p_gr⟩ := Ux Qjt r_gr
  rw [List.length_map] at h_gr
  exact ⟨⟨fl, st, tn, dst, la, nr, tu, wi, nx, gr, sent⟩, rfl, ⟨(by have e := JU fl; unfold maxLen at h_fl; show fl.toList.length ≤ _; omega), (by have e := JU dst; unfold maxLen at h_dst; show dst.toList.length ≤ _; omega), (by unfold maxLen at h_tu; omega), (by unfold maxLen at h_nx; omega), ⟨(by unfold maxLen at h_gr; omega), p_gr⟩⟩⟩
def Qjv : List LSh := [.sl QpF, .sl QlI, .sl QlH]
theorem Qq6 (r : List AV) (h : KT Qjv r) : ∃ x : Book, r = (Book.row 1) x ∧ x.fitp := by
  simp only [Qjv, KT, QjC] at h
  obtain ⟨_, _, rfl, ⟨own, rfl, h_own, r_own⟩, _, _, rfl, ⟨parts, rfl, h_parts, r_parts⟩, _, _, rfl, ⟨seen, rfl, Vf, r_seen⟩, rfl⟩ := h
  obtain ⟨own, rfl, p_own⟩ := Ux QsN r_own
  rw [List.length_map] at h_own
  obtain ⟨parts, rfl, p_parts⟩ := Ux Qq5 r_parts
  rw [List.length_map] at h_parts
  obtain ⟨seen, rfl, p_seen⟩ := Ux Qq4 r_seen
  rw [List.length_map] at Vf
  exact ⟨⟨own, parts, seen⟩, rfl, ⟨⟨(by unfold maxLen at h_own; omega), p_own⟩, ⟨(by unfold maxLen at h_parts; omega), p_parts⟩, ⟨(by unfold maxLen at Vf; omega), p_seen⟩⟩⟩
end
end Go.Ve

namespace Go.Ve
noncomputable section
open Go.Proofs
set_option maxRecDepth 100000
open Go.ChangeShapes Go.WideShapes
theorem QtD (z : Own) (s : ByteArray) : Contract P 119 [.agg (z.row 0), .ptr 3 0] [(3, .box [.str s])] (.bool (decide (z.fl = s))) [(3, .box [.str s])] := by
  simp only [Own.row]
  refine Qh (Env.nil P) hm Qbb (nlb rfl) rfl ?_; unfold XR; simp (maxSteps := 2000000) only [bitvec_to_nat, reduceIte, Nat.reduceEqDiff, Nat.reduceAdd, Nat.reduceLeDiff, reduceCtorEq, Nat.reduceBEq, Nat.reduceLT, Nat.reduceMod, fmc, Qf, Qm, Qe, QE, keepB, Qn, QJ, Yt]
  all_goals simp [dom]
theorem QhP (g : FuncId) (hg : W3 P g = true) (ls : List AV) (hls : Jy ls = true) (p : Own → Bool) (t : Nat) (zs : List Own) (hl : zs.length ≤ 4611686018427387904)
    (hC : ∀ z, Contract P g (.agg (Own.row 0 z) :: [.ptr 3 0]) [(3, .box ls)] (.bool (p z)) [(3, .box ls)]) : Contract P 118 [.sl t 11 (zs.map (Own.row 0)), .fn g [] [.ptr 3 0]] [(3, .box ls)] (.int .i64 (Qiw p zs)) [(3, .box ls)] := by
  refine Qh (Env.nil P) hm UO (nlb rfl) rfl ?_; unfold YZ; simp (maxSteps := 2000000) only [bitvec_to_nat, reduceIte, Nat.reduceEqDiff, Nat.reduceAdd, Nat.reduceLeDiff, reduceCtorEq, Nat.reduceBEq, Nat.reduceLT, Nat.reduceMod, fmc, Qf, Qm, Qe, QE, keepB, Qn, QJ, Yc]
  refine QH (fun i : Nat => [(8, .int .i64 i)]) (fun _ => []) (fun i => i ≤ zs.length ∧ ∀ j, j < i → p (zs.getD j default) = false) (fun i => zs.length - i) (0) (by simp only [Ju, Jv, Jw, Jx, Qi, Qj, Qk, Ql, reduceIte, Nat.reduceEqDiff]; exact ⟨by repeat' (first | exact trivial | refine ⟨.inr rfl, ?_⟩), by repeat' (first | exact trivial | refine ⟨rfl, ?_⟩), by first | rfl | simp [closedB, Qc, Qb, Qd, dom, Qa, *], by first | rfl | simp [keepB, dom]⟩) ?_ ?_
  · exact ⟨Nat.zero_le _, by intro j hj; omega⟩
  intro i hi NX hN
  unfold Ys; simp (maxSteps := 2000000) only [bitvec_to_nat, reduceIte, Nat.reduceEqDiff, Nat.reduceAdd, Nat.reduceLeDiff, reduceCtorEq, Nat.reduceBEq, Nat.reduceLT, Nat.reduceMod, fmc, Qf, Qm, Qe, QE, keepB, Qn, QJ, Yc, Qsm, Qqk]
  refine ⟨fun h1 => ⟨by omega, by omega, hg, _, _, .inl ⟨[(3, .box ls)], hC (zs.getD i default), ?_, ?_, ?_, ?_, ?_, rfl, ?_⟩, ?_⟩, fun h1 => ?_⟩
  · simp [getM]
  · intro q hq; left; revert q; simp [dom]
  · simp [dom]
  · simp [Qb, Qc, dom, Qa, Qtn]
  · simp [Qd, Qa, *]
  · simp [Qd, Qa, *]
  · simp (maxSteps := 2000000) only [bitvec_to_nat, reduceIte, Nat.reduceEqDiff, Nat.reduceAdd, Nat.reduceLeDiff, reduceCtorEq, Nat.reduceBEq, Nat.reduceLT, Nat.reduceMod, fmc, Qf, Qm, Qe, QE, keepB, Qn, QJ, Yc]
    refine ⟨fun h2 => ?_, fun h2 => ?_⟩
    · simp (maxSteps := 2000000) only [bitvec_to_nat, reduceIte, Nat.reduceEqDiff, Nat.reduceAdd, Nat.reduceLeDiff, reduceCtorEq, Nat.reduceBEq, Nat.reduceLT, Nat.reduceMod, fmc, Qf, Qm, Qe, QE, keepB, Qn, QJ, Yc]
      rw [Qcr (by omega) h2 hi.2]
      simp [dom, Qa, *]
    · simp (maxSteps := 2000000) only [bitvec_to_nat, reduceIte, Nat.reduceEqDiff, Nat.reduceAdd, Nat.reduceLeDiff, reduceCtorEq, Nat.reduceBEq, Nat.reduceLT, Nat.reduceMod, fmc, Qf, Qm, Qe, QE, keepB, Qn, QJ, Yc]
      refine ⟨by omega, ?_⟩
      refine hN (i + 1) _ (by simp only [Ju, Jv, Jw, Jx, Qi, Qj, Qk, Ql, reduceIte, Nat.reduceEqDiff]; exact ⟨by repeat' (first | exact trivial | refine ⟨.inr rfl, ?_⟩), by repeat' (first | exact trivial | refine ⟨rfl, ?_⟩), by first | rfl | simp [closedB, Qc, Qb, Qd, dom, Qa, *], by first | rfl | simp [keepB, dom]⟩) ?_ ?_
      · exact ⟨by omega, Jf hi.2 h2⟩
      · omega
  · rw [Wh fun j hj => hi.2 j (by omega)]
    simp [dom, Qa, *]
def Qmu : RTab
  | [.sl zt 11 zx, .fn 119 [] [.ptr ob off]], M => match M ob with
    | some (.box [.str s]) => some ⟨off = 0 ∧ (zx.map JC).map (Own.row 0) = zx ∧ (zx.map JC).length ≤ 4611686018427387904, fun _ : Unit => True, fun _ => .int .i64 (Qiw (fun z => decide (z.fl = s)) (zx.map JC)), fun _ => [(ob, .box [.str s])]⟩
    | _ => none
  | _, _ => none
theorem QtE : okTab P 118 Qmu := by
  intro args M o h hp
  unfold Qmu at h
  split at h
  · rename_i zt zx ob off
    split at h
    · rename_i s hM
      cases h
      obtain ⟨rfl, e0, HP⟩ := hp
      have hC := QhP 119 (by kernel_rfl) _ rfl (fun z => decide (z.fl = s)) zt (zx.map JC) HP fun z => QtD z s
      simp only [e0, decide_eq_true_eq] at hC
      exact ⟨(), trivial, QcR _ hC (by simp [Jy, noref]) rfl (by assumption) (by simp [K4, ren, swp]) (by simp [Qb, Qc, noref])⟩
    · cases h
  · cases h
def oAt (l : List Own) (s : ByteArray) : Int := Qiw (fun z => decide (z.fl = s)) l
theorem QpG (b : Book) (s : ByteArray) (hl : b.own.length ≤ 4611686018427387904) : Contract P 96 [.agg (b.row 0), .str s] [] (.int .i64 (oAt b.own s)) [] := by
  simp only [Book.row]
  refine Qh ((Env.nil P).addR 118 Qmu QtE) hm Qcw (nlb rfl) rfl ?_; unfold Ug; simp (maxSteps := 2000000) only [bitvec_to_nat, reduceIte, Nat.reduceEqDiff, Nat.reduceAdd, Nat.reduceLeDiff, reduceCtorEq, Nat.reduceBEq, Nat.reduceLT, Nat.reduceMod, fmc, Qf, Qm, Qe, QE, keepB, Qn, QJ, Qmu, QfE, List.length_map]
  exact ⟨hl, fun _ => rfl⟩
theorem Qud (b : Book) (s : ByteArray) (hl : b.own.length ≤ 4611686018427387904) : Contract P 58 [.agg (b.row 0), .str s] [] (.int .i64 (oAt b.own s)) [] := by
  simp only [Book.row]
  refine Qh (Env.nil P) hm Qkp (nlb rfl) rfl ?_; unfold QfA; simp (maxSteps := 2000000) only [bitvec_to_nat, reduceIte, Nat.reduceEqDiff, Nat.reduceAdd, Nat.reduceLeDiff, reduceCtorEq, Nat.reduceBEq, Nat.reduceLT, Nat.reduceMod, fmc, int_toBitVec_meta, method_specs_simp]
  refine QH (fun i : Nat => [(5, .int .i64 i)]) (fun _ => []) (fun i => i ≤ b.own.length ∧ ∀ j, j < i → decide ((b.own.getD j default).fl = s) = false) (fun i => b.own.length - i) 0 (by simp only [Ju, Jv, Jw, Jx, Qi, Qj, Qk, Ql, reduceIte, Nat.reduceEqDiff]; exact ⟨by repeat' (first | exact trivial | refine ⟨.inr rfl, ?_⟩), by repeat' (first | exact trivial | refine ⟨rfl, ?_⟩), by first | rfl | simp [closedB, Qc, Qb, Qd, dom, Qa, *], by first | rfl | simp [keepB, dom]⟩) ⟨Nat.zero_le _, by intro j hj; omega⟩ ?_
  intro i hi NX hN
  unfold Qb9; simp (maxSteps := 2000000) only [bitvec_to_nat, reduceIte, Nat.reduceEqDiff, Nat.reduceAdd, Nat.reduceLeDiff, reduceCtorEq, Nat.reduceBEq, Nat.reduceLT, Nat.reduceMod, fmc, int_toBitVec_meta, method_specs_simp]
  repeat' (first | with_reducible apply And.intro | with_reducible intro _)
  all_goals first
    | omega
    | (rw [oAt, Qcr (by omega) (by simpa using ‹_›) hi.2]; done)
    | (refine hN (i + 1) _ (by simp only [Ju, Jv, Jw, Jx, Qi, Qj, Qk, Ql, reduceIte, Nat.reduceEqDiff]; exact ⟨by repeat' (first | exact trivial | refine ⟨.inr rfl, ?_⟩), by repeat' (first | exact trivial | refine ⟨rfl, ?_⟩), by first | rfl | simp [closedB, Qc, Qb, Qd, dom, Qa, *], by first | rfl | simp [keepB, dom]⟩) ?_ ?_
       · exact ⟨by omega, Jf hi.2 (by simpa using ‹_›)⟩
       · omega)
    | (rw [oAt, Wh fun j hj => hi.2 j (by omega)]; done)
    | trace_state
def QkF : List AV → Option (Prop × AV)
  | [.agg [.sl 0 11 b_own, .sl 0 3 b_parts, .sl 0 2 b_seen], .str s] => some ((((b_own.map JC).map (Own.row 0) = b_own) ∧ ((b_parts.map Q9).map (Part.row 0) = b_parts) ∧ ((b_seen.map Jc).map Seen.row = b_seen)) ∧ ((Book.own (Book.mk (b_own.map JC) (b_parts.map Q9) (b_seen.map Jc))).length ≤ 4611686018427387904), .int .i64 (oAt (Book.own (Book.mk (b_own.map JC) (b_parts.map Q9) (b_seen.map Jc))) s))
  | _ => none
theorem QtF : ∀ args p v, QkF args = some (p, v) → p → Contract P 58 args [] v [] ∧ noref v = true ∧ No99 v := by
  intro args p v h1 h2
  unfold QkF at h1
  split at h1
  · rename_i b_own b_parts b_seen s
    cases h1
    obtain ⟨⟨e0, e1, e2⟩, HP⟩ := h2
    have := Qud (Book.mk (b_own.map JC) (b_parts.map Q9) (b_seen.map Jc)) s HP
    exact ⟨by simpa only [e0, e1, e2, Book.row] using this, rfl, trivial⟩
  · cases h1
set_option maxHeartbeats 8000000 in
theorem QiQ (b : Book) (hb : b.small) : Contract P 60 [.agg (b.row 0)] [] (bkV b 131 b.own.length 149 b.parts.length 154 0) (bkM b 131 b.own.length 149 b.parts.length 154 0 110 121) := by
  have hs1 : True := trivial
  have hs2 : True := trivial
  have hs3 : True := trivial
  have tkO : True := trivial
  have tkB : True := trivial
  have bA : True := trivial
  have bP : True := trivial
  have hp1 : True := trivial
  have hp2 : True := trivial
  have hp3 : True := trivial
  have tkP : True := trivial
  have tkS : True := trivial
  have hb' := hb
  unfold Book.small at hb
  have cl0 : ∀ (i j : Nat), closedB ⟨[(1, .ptr 101 0), (2, .ptr 102 0), (3, .ptr 103 0), (9, .sl 0 11 (b.own.map (Own.row 0))), (10, .int .i64 (b.own.length : Nat)), (11, .int .i64 (i : Nat))], (101, .box [.sl 0 11 (b.own.map (Own.row 0)), .sl 0 3 (b.parts.map (Part.row 0)), .sl 0 2 (b.seen.map Seen.row)]) :: (102, .box [.sl 0 11 [], .sl 0 3 [], .sl 0 2 []]) :: (103, .box [.own 131 j 0 j, .sl 98 3 [], .sl 98 2 []]) :: QiL 131 j 110 (b.own.take j)⟩ = true := fun i j => by
    simp only [closedB, List.all_cons, Bool.and_eq_true]
    refine ⟨⟨rfl, rfl, rfl, rfl, rfl, rfl, rfl⟩, rfl, rfl, by simp [Qd, Qb, Qc, dom, OO], ?_⟩
    exact YW QX YH fun p hp => List.mem_cons_of_mem _ (List.mem_cons_of_mem _ (List.mem_cons_of_mem _ (JI (List.mem_cons_of_mem _ hp))))
  have cl1 : ∀ (i : Nat), closedB ⟨[(1, .ptr 101 0), (2, .ptr 102 0), (3, .ptr 103 0), (35, .sl 0 3 (b.parts.map (Part.row 0))), (36, .int .i64 (b.parts.length : Nat)), (37, .int .i64 (i : Nat))], (101, .box [.sl 0 11 (b.own.map (Own.row 0)), .sl 0 3 (b.parts.map (Part.row 0)), .sl 0 2 (b.seen.map Seen.row)]) :: (102, .box [.sl 0 11 [], .sl 0 3 [], .sl 0 2 []]) :: (103, .box [.own 131 b.own.length 0 b.own.length, .own 149 i 0 i, .sl 98 2 []]) :: (QiL 131 b.own.length 110 b.own ++ X2 149 i 121 (b.parts.take i))⟩ = true := fun i => by
    simp only [closedB, List.all_cons, Bool.and_eq_true]
    refine ⟨⟨rfl, rfl, rfl, rfl, rfl, rfl, rfl⟩, rfl, rfl, by simp [Qd, Qb, Qc, dom, OO], ?_⟩
    rw [List.all_append, Bool.and_eq_true]
    exact ⟨YW QX YH fun p hp => List.mem_cons_of_mem _ (List.mem_cons_of_mem _ (List.mem_cons_of_mem _ (JI (List.mem_append.2 (.inl (List.mem_cons_of_mem _ hp)))))), YW QR Kn fun p hp => List.mem_cons_of_mem _ (List.mem_cons_of_mem _ (List.mem_cons_of_mem _ (JI (List.mem_append.2 (.inr (List.mem_cons_of_mem _ hp))))))⟩
  simp only [Book.row]
  refine Qh (Env.nil P) hm Qhv (nlb rfl) rfl ?_; unfold Qbt; simp (maxSteps := 2000000) (maxDischargeDepth := 8) only [bitvec_to_nat, reduceIte, Nat.reduceEqDiff, Nat.reduceAdd, Nat.reduceLeDiff, reduceCtorEq, Nat.reduceBEq, Nat.reduceLT, Nat.reduceMod, fmc, Qf, Qm, Qe, QE, keepB, Qn, QJ, int_toBitVec_meta, method_specs_simp, Nat.sub_zero, List.append_nil, hs1, hs2, hs3, tkO, tkB, QN, QdO, gB, gB0, sB, sB0, bA, bP, hp1, hp2, hp3, tkP, tkS, Q6, QO, Q4, List.append_assoc, List.cons_append, List.nil_append, J4, JP, JQ, QZ, Jm, JG, Y8, K0]
  refine QfG (fun i : Nat => ⟨[(1, .ptr 101 0), (2, .ptr 102 0), (3, .ptr 103 0), (9, .sl 0 11 (b.own.map (Own.row 0))), (10, .int .i64 (b.own.length : Nat)), (11, .int .i64 (i : Nat))], (101, .box [.sl 0 11 (b.own.map (Own.row 0)), .sl 0 3 (b.parts.map (Part.row 0)), .sl 0 2 (b.seen.map Seen.row)]) :: (102, .box [.sl 0 11 [], .sl 0 3 [], .sl 0 2 []]) :: (103, .box [.own 131 i 0 i, .sl 98 3 [], .sl 98 2 []]) :: QiL 131 i 110 (b.own.take i)⟩) (fun i => i ≤ b.own.length) (fun i => b.own.length - i) 0 ?_ (Nat.zero_le _) ?_
  · exact ⟨by repeat' (first | exact trivial | refine ⟨.inr rfl, ?_⟩), ⟨rfl, rfl, rfl, rfl, trivial⟩, cl0 0 0, by simp [keepB, dom]⟩
  intro i hi NX hN
  by_cases h : i < b.own.length
  · have hx := hb.1.2 _ (Jg h)
    unfold Own.small at hx
    have bA : QpN (Q2 JE (Own.row 0) 110 0 (b.own.take i)) := Wm
    have hlt : (b.own.take i).length = i := by rw [List.length_take]; omega
    have tkO : (Ja (Own.row 0) 110 0 (b.own.take i)).take i = Ja (Own.row 0) 110 0 (b.own.take i) := List.take_of_length_le (by rw [QN, hlt]; omega)
    have tkB : List.take (b.own.getD i default).gr.length ((b.own.getD i default).gr.map JJ) = (b.own.getD i default).gr.map JJ := List.take_of_length_le (by simp)
    have hC1 := (Qaf 0 (b.own.getD i default).tu (by omega)).ren (swp 104 (fam 116 i)) (Q0 _ _)
    have hC2 := (Qaf 0 (b.own.getD i default).nx (by omega)).ren (swp 104 (fam 118 i)) (Q0 _ _)
    simp only [K4, ren, J5, renO, swp, reduceIte, Nat.reduceLT] at hC1 hC2
    have hnw : ∀ q, q < 1000 → getM (Q2 JE (Own.row 0) 110 0 (b.own.take i)) (fam q i) = none := fun q hq => QbL QX (by omega) hq
    have hs1 : ∀ (B : List (Nat × AObj)) (q : Nat) (x : AObj), q < 1000 → Kj (Q2 JE (Own.row 0) 110 0 (b.own.take i) ++ B) (fam q i) x = Q2 JE (Own.row 0) 110 0 (b.own.take i) ++ Kj B (fam q i) x := fun B q x hq => Gc (hnw q hq)
    have hs2 : ∀ (B : List (Nat × AObj)) (q : Nat), q < 1000 → getM (Q2 JE (Own.row 0) 110 0 (b.own.take i) ++ B) (fam q i) = getM B (fam q i) := fun B q hq => QL (hnw q hq)
    have hs3 : ∀ (q : Nat) (x : AObj), q < 1000 → Kj (Q2 JE (Own.row 0) 110 0 (b.own.take i)) (fam q i) x = Q2 JE (Own.row 0) 110 0 (b.own.take i) ++ [(fam q i, x)] := fun q x hq => ZD (hnw q hq)
    simp only [OO]
    unfold XF; simp (maxSteps := 2000000) (maxDischargeDepth := 8) only [bitvec_to_nat, reduceIte, Nat.reduceEqDiff, Nat.reduceAdd, Nat.reduceLeDiff, reduceCtorEq, Nat.reduceBEq, Nat.reduceLT, Nat.reduceMod, fmc, Qf, Qm, Qe, QE, keepB, Qn, QJ, int_toBitVec_meta, method_specs_simp, Nat.sub_zero, List.append_nil, hs1, hs2, hs3, tkO, tkB, QN, QdO, gB, gB0, sB, sB0, bA, bP, hp1, hp2, hp3, tkP, tkS, Q6, QO, Q4, List.append_assoc, List.cons_append, List.nil_append, J4, JP, JQ, QZ, Jm, JG, Y8, K0]
    refine ⟨fun _ => ?_, fun h' => absurd (by omega) h'⟩
    repeat (refine ⟨by first | omega | rfl, ?_⟩)
    refine ⟨_, _, .inr (.inr (.inl ⟨_, rfl, hC1, by simp [getM, Q6, QO, JW, hnw], by simp [Qc, Qb, dom], rfl, by simp [No99], by simp [GF, Jj]⟩)), ?_⟩
    simp (maxSteps := 2000000) (maxDischargeDepth := 8) only [bitvec_to_nat, reduceIte, Nat.reduceEqDiff, Nat.reduceAdd, Nat.reduceLeDiff, reduceCtorEq, Nat.reduceBEq, Nat.reduceLT, Nat.reduceMod, fmc, Qf, Qm, Qe, QE, keepB, Qn, QJ, int_toBitVec_meta, method_specs_simp, Nat.sub_zero, List.append_nil, hs1, hs2, hs3, tkO, tkB, QN, QdO, gB, gB0, sB, sB0, bA, bP, hp1, hp2, hp3, tkP, tkS, Q6, QO, Q4, List.append_assoc, List.cons_append, List.nil_append, J4, JP, JQ, QZ, Jm, JG, Y8, K0]
    repeat (refine ⟨by first | omega | rfl, ?_⟩)
    refine ⟨_, _, .inr (.inr (.inl ⟨_, rfl, hC2, by simp [getM, Q6, QO, Q4, JW, hnw], by simp [Qc, Qb, dom], rfl, by simp [No99], by simp [GF, Jj]⟩)), ?_⟩
    simp (maxSteps := 2000000) (maxDischargeDepth := 8) only [bitvec_to_nat, reduceIte, Nat.reduceEqDiff, Nat.reduceAdd, Nat.reduceLeDiff, reduceCtorEq, Nat.reduceBEq, Nat.reduceLT, Nat.reduceMod, fmc, Qf, Qm, Qe, QE, keepB, Qn, QJ, int_toBitVec_meta, method_specs_simp, Nat.sub_zero, List.append_nil, hs1, hs2, hs3, tkO, tkB, QN, QdO, gB, gB0, sB, sB0, bA, bP, hp1, hp2, hp3, tkP, tkS, Q6, QO, Q4, List.append_assoc, List.cons_append, List.nil_append, J4, JP, JQ, QZ, Jm, JG, Y8, K0]
    repeat (refine ⟨by first | omega | rfl, ?_⟩)
    have hoo : ∀ q, q < 1000 → W4 (QiL 131 (i + 1) 110 (b.own.take (i + 1))) q ∨ q = 131 := fun q hq => by
      by_cases e : q = 131
      · exact .inr e
      · exact .inl (Jm e hq (by omega))
    have hot : ∀ q, q < 131 → W4 (QiL 131 (i + 1) 110 (b.own.take (i + 1))) q := fun q hq => Jm (by omega) (by omega) (by omega)
    have s3 : ∀ q, q < 1000 → q ≠ 123 → swp 123 (fam 119 i) q = q := fun q hq hn => Vr hn (by unfold fam; omega)
    have s4 : ∀ j i', j < 11 → i' < i → swp 123 (fam 119 i) (fam (110 + j) i') = fam (110 + j) i' := fun j i' hj hi' => Vr (by unfold fam; omega) (by unfold fam; omega)
    have s5 : swp 123 (fam 119 i) (fam 116 i) = fam 116 i := Vr (by unfold fam; omega) (by unfold fam; omega)
    have s6 : swp 123 (fam 119 i) (fam 118 i) = fam 118 i := Vr (by unfold fam; omega) (by unfold fam; omega)
    have s7 : swp 123 (fam 119 i) (fam 119 i) = 123 := by unfold swp; rw [if_neg (by unfold fam; omega), if_pos rfl]
    have s8 : swp 123 (fam 119 i) 123 = fam 119 i := by unfold swp; rw [if_pos rfl]
    have ht : b.own.take (i + 1) = b.own.take i ++ [b.own.getD i default] := by rw [List.take_succ_eq_append_getElem h]; simp [h]
    refine ⟨swp 123 (fam 119 i), ⟨[(1, .ptr 101 0), (2, .ptr 102 0), (3, .ptr 103 0), (9, .sl 0 11 (b.own.map (Own.row 0))), (10, .int .i64 (b.own.length : Nat)), (11, .int .i64 (i : Nat))], (101, .box [.sl 0 11 (b.own.map (Own.row 0)), .sl 0 3 (b.parts.map (Part.row 0)), .sl 0 2 (b.seen.map Seen.row)]) :: (102, .box [.sl 0 11 [], .sl 0 3 [], .sl 0 2 []]) :: (103, .box [.own 131 (i + 1) 0 (i + 1), .sl 98 3 [], .sl 98 2 []]) :: QiL 131 (i + 1) 110 (b.own.take (i + 1))⟩, Q0 _ _, Qtj (by omega) (by rw [ZV (by omega)]; omega), ⟨?_, Jl ?_, cl0 i (i + 1), ?_⟩, ?_⟩
    · simp only [St.ren, QsZ, ren]
      repeat' (first | exact trivial | refine ⟨.inr rfl, ?_⟩)
    · simp only [St.ren]
      intro p hp
      rw [ZS (Q0 _ _)]
      rcases List.mem_cons.1 hp with rfl | hp
      · rw [s3 _ (by omega) (by omega)]; simp [getM, renO, K4, ren]
      rcases List.mem_cons.1 hp with rfl | hp
      · rw [s3 _ (by omega) (by omega)]; simp [getM, renO, K4, ren]
      rcases List.mem_cons.1 hp with rfl | hp
      · rw [s3 _ (by omega) (by omega)]; simp [getM, renO, K4, ren, s3]
      rcases Qki hp with rfl | hp
      · rw [s3 _ (by omega) (by omega)]
        simp only [getM, reduceIte, Nat.reduceEqDiff, Option.map_some, renO, Nat.reduceLT, Nat.reduceAdd]
        rw [List.map_append, Qnn (k' := 110) (i1 := 0) QX (fun j i' hj hi' => by rw [hlt] at hi'; rw [Nat.zero_add]; exact s4 j i' hj hi'), ht, QbH, hlt, Nat.zero_add]
        simp [K4, ren, s5, s6, s8, UL, QeG, Own.row]
      · rw [QbK h] at hp
        rcases List.mem_append.1 hp with hp | hp
        · have q1 := QgZ QX (by omega) p hp
          obtain ⟨i', j, v', sz', xs', h1', h2', rfl⟩ := JB.1 hp
          have hj := Qb5 h2'
          rw [QX.len] at hj
          rw [hlt] at h1'
          rw [Nat.zero_add] at q1 ⊢
          rw [s4 j i' hj h1']
          simp only [getM]
          rw [if_neg (by unfold fam; omega), if_neg (by unfold fam; omega), if_neg (by unfold fam; omega), if_neg (by unfold fam; omega), JA q1]
          simp [renO, YH]
        · simp only [Qke, Qqb, Own.row, List.append_nil, List.nil_append, List.cons_append, List.mem_cons, List.not_mem_nil, or_false, Nat.reduceAdd] at hp
          rcases hp with rfl | rfl | rfl
          · rw [s5]; simp [getM, Q6, QO, Q4, hs2, renO, JE]
          · rw [s6]; simp [getM, Q6, QO, Q4, hs2, renO, JE]
          · rw [s7]; simp [getM, Q6, QO, Q4, gB bA, renO, JE]
    · refine J3 (Qnm ?_ (Qsf (by omega) (by rw [ZV (by omega)]; omega)))
      exact Q3 (by omega) (Q3 (by omega) (Q3 (by omega) (Q3 (by omega) (Kq (Ji QX (by omega) (by omega)) (by repeat' (first | exact Yh | refine Q3 (by first | omega | (rw [ZV (by omega)]; omega)) ?_))))))
    · simp (maxSteps := 2000000) (maxDischargeDepth := 8) only [bitvec_to_nat, reduceIte, Nat.reduceEqDiff, Nat.reduceAdd, Nat.reduceLeDiff, reduceCtorEq, Nat.reduceBEq, Nat.reduceLT, Nat.reduceMod, fmc, Qf, Qm, Qe, QE, keepB, Qn, QJ, int_toBitVec_meta, method_specs_simp, Nat.sub_zero, List.append_nil, hs1, hs2, hs3, tkO, tkB, QN, QdO, gB, gB0, sB, sB0, bA, bP, hp1, hp2, hp3, tkP, tkS, Q6, QO, Q4, List.append_assoc, List.cons_append, List.nil_append, J4, JP, JQ, QZ, Jm, JG, Y8, K0]
      refine ⟨⟨by omega, by omega⟩, hN (i + 1) _ ⟨by repeat' (first | exact trivial | refine ⟨.inr rfl, ?_⟩), ⟨rfl, rfl, rfl, Jl ?_⟩, cl0 (i + 1) (i + 1), QcX rfl⟩ h (by omega)⟩
      exact Qw (hot 101 (by omega)) (Qw (hot 102 (by omega)) (Qw (hot 103 (by omega)) (Vq QX (by omega) (by omega))))
  · have e : i = b.own.length := by omega
    subst e
    have et : b.own.take b.own.length = b.own := List.take_length
    have bA : QpN (Q2 JE (Own.row 0) 110 0 b.own) := Wm
    simp only [et, OO]
    unfold XF; simp (maxSteps := 2000000) (maxDischargeDepth := 8) only [bitvec_to_nat, reduceIte, Nat.reduceEqDiff, Nat.reduceAdd, Nat.reduceLeDiff, reduceCtorEq, Nat.reduceBEq, Nat.reduceLT, Nat.reduceMod, fmc, Qf, Qm, Qe, QE, keepB, Qn, QJ, int_toBitVec_meta, method_specs_simp, Nat.sub_zero, List.append_nil, hs1, hs2, hs3, tkO, tkB, QN, QdO, gB, gB0, sB, sB0, bA, bP, hp1, hp2, hp3, tkP, tkS, Q6, QO, Q4, List.append_assoc, List.cons_append, List.nil_append, J4, JP, JQ, QZ, Jm, JG, Y8, K0]
    refine ⟨fun h' => absurd h' (by omega), fun _ => ?_⟩
    refine QfG (fun i : Nat => ⟨[(1, .ptr 101 0), (2, .ptr 102 0), (3, .ptr 103 0), (35, .sl 0 3 (b.parts.map (Part.row 0))), (36, .int .i64 (b.parts.length : Nat)), (37, .int .i64 (i : Nat))], (101, .box [.sl 0 11 (b.own.map (Own.row 0)), .sl 0 3 (b.parts.map (Part.row 0)), .sl 0 2 (b.seen.map Seen.row)]) :: (102, .box [.sl 0 11 [], .sl 0 3 [], .sl 0 2 []]) :: (103, .box [.own 131 b.own.length 0 b.own.length, .own 149 i 0 i, .sl 98 2 []]) :: (QiL 131 b.own.length 110 b.own ++ X2 149 i 121 (b.parts.take i))⟩) (fun i => i ≤ b.parts.length) (fun i => b.parts.length - i) 0 ?_ (Nat.zero_le _) ?_
    · refine ⟨by repeat' (first | exact trivial | refine ⟨.inr rfl, ?_⟩), ⟨rfl, rfl, rfl, Qi4.2 ⟨Jl ?_, ?_⟩⟩, cl1 0, J3 ?_⟩
      · exact Qw (Jm (by omega) (by omega) (by omega)) (Qw (Jm (by omega) (by omega) (by omega)) (Qw (Jm (by omega) (by omega) (by omega)) (JN (KP (by omega) (by omega)))))
      · exact ⟨by simp only [getM, Nat.reduceEqDiff, reduceIte]; rw [gB bA (by omega)]; rfl, trivial⟩
      · exact Q3 (by omega) (Q3 (by omega) (Q3 (by omega) (Q3 (by omega) (Kq (Ji QX (by omega) (by omega)) (Q3 (by omega) Yh)))))
    intro i hi NX hN
    by_cases h : i < b.parts.length
    · have hx := hb.2.1.2 _ (Jg h)
      have hlt : (b.parts.take i).length = i := by rw [List.length_take]; omega
      have bP : QpN (Q2 JF (Part.row 0) 121 0 (b.parts.take i)) := Wm
      have tkP : (Ja (Part.row 0) 121 0 (b.parts.take i)).take i = Ja (Part.row 0) 121 0 (b.parts.take i) := List.take_of_length_le (by rw [QN, hlt]; omega)
      have hC := (Qaf 0 (b.parts.getD i default).bx (by omega)).ren (swp 104 (fam 123 i)) (Q0 _ _)
      simp only [K4, ren, J5, renO, swp, reduceIte, Nat.reduceLT] at hC
      have hnw : getM (Q2 JF (Part.row 0) 121 0 (b.parts.take i)) (fam 123 i) = none := QbL QR (by omega) (by omega)
      have hno : getM (Q2 JE (Own.row 0) 110 0 b.own) (fam 123 i) = none := QZ fun p hp e => by
        have := (Kw QX (by omega) hp).2.2; rw [e, ZV (by omega)] at this; omega
      have hs1 : ∀ (B : List (Nat × AObj)) (x : AObj), Kj (Q2 JE (Own.row 0) 110 0 b.own ++ B) (fam 123 i) x = Q2 JE (Own.row 0) 110 0 b.own ++ Kj B (fam 123 i) x := fun B x => Gc hno
      have hs2 : ∀ (B : List (Nat × AObj)), getM (Q2 JE (Own.row 0) 110 0 b.own ++ B) (fam 123 i) = getM B (fam 123 i) := fun B => QL hno
      have hp1 : ∀ (B : List (Nat × AObj)) (x : AObj), Kj (Q2 JF (Part.row 0) 121 0 (b.parts.take i) ++ B) (fam 123 i) x = Q2 JF (Part.row 0) 121 0 (b.parts.take i) ++ Kj B (fam 123 i) x := fun B x => Gc hnw
      have hp2 : ∀ (B : List (Nat × AObj)), getM (Q2 JF (Part.row 0) 121 0 (b.parts.take i) ++ B) (fam 123 i) = getM B (fam 123 i) := fun B => QL hnw
      have hp3 : ∀ (x : AObj), Kj (Q2 JF (Part.row 0) 121 0 (b.parts.take i)) (fam 123 i) x = Q2 JF (Part.row 0) 121 0 (b.parts.take i) ++ [(fam 123 i, x)] := fun x => ZD hnw
      simp only [OO]
      unfold XG; simp (maxSteps := 2000000) (maxDischargeDepth := 8) only [bitvec_to_nat, reduceIte, Nat.reduceEqDiff, Nat.reduceAdd, Nat.reduceLeDiff, reduceCtorEq, Nat.reduceBEq, Nat.reduceLT, Nat.reduceMod, fmc, Qf, Qm, Qe, QE, keepB, Qn, QJ, int_toBitVec_meta, method_specs_simp, Nat.sub_zero, List.append_nil, hs1, hs2, hs3, tkO, tkB, QN, QdO, gB, gB0, sB, sB0, bA, bP, hp1, hp2, hp3, tkP, tkS, Q6, QO, Q4, List.append_assoc, List.cons_append, List.nil_append, J4, JP, JQ, QZ, Jm, JG, Y8, K0]
      refine ⟨fun _ => ?_, fun h' => absurd (by omega) h'⟩
      repeat (refine ⟨by first | omega | rfl, ?_⟩)
      refine ⟨_, _, .inr (.inr (.inl ⟨_, rfl, hC, by simp [getM, Q6, QO, JW, hnw, hno], by simp [Qc, Qb, dom], rfl, by simp [No99], by simp [GF, Jj]⟩)), ?_⟩
      simp (maxSteps := 2000000) (maxDischargeDepth := 8) only [bitvec_to_nat, reduceIte, Nat.reduceEqDiff, Nat.reduceAdd, Nat.reduceLeDiff, reduceCtorEq, Nat.reduceBEq, Nat.reduceLT, Nat.reduceMod, fmc, Qf, Qm, Qe, QE, keepB, Qn, QJ, int_toBitVec_meta, method_specs_simp, Nat.sub_zero, List.append_nil, hs1, hs2, hs3, tkO, tkB, QN, QdO, gB, gB0, sB, sB0, bA, bP, hp1, hp2, hp3, tkP, tkS, Q6, QO, Q4, List.append_assoc, List.cons_append, List.nil_append, J4, JP, JQ, QZ, Jm, JG, Y8, K0]
      repeat (refine ⟨by first | omega | rfl, ?_⟩)
      have ht : b.parts.take (i + 1) = b.parts.take i ++ [b.parts.getD i default] := by rw [List.take_succ_eq_append_getElem h]; simp [h]
      refine hN (i + 1) _ ⟨by repeat' (first | exact trivial | refine ⟨.inr rfl, ?_⟩), ⟨rfl, rfl, rfl, Qi4.2 ⟨Jl ?_, ⟨?_, ?_⟩⟩⟩, cl1 (i + 1), J3 ?_⟩ h (by omega)
      · exact Qw (Jm (by omega) (by omega) (by omega)) (Qw (Jm (by omega) (by omega) (by omega)) (Qw (Jm (by omega) (by omega) (by omega)) (JN (KP (by omega) (by omega)))))
      · simp only [getM, Nat.reduceEqDiff, reduceIte]
        rw [gB bA (by omega), ht, QbH, hlt, Nat.zero_add]
        simp [getM, UL, QeG, Part.row]
      · rw [QbK h]
        refine Qi4.2 ⟨Jl fun p hp => ?_, ?_⟩
        · have q1 := QgZ QR (by omega) p hp
          have q2 := Kw QR (by omega) hp
          have q3 : getM (Q2 JE (Own.row 0) 110 0 b.own) p.1 = none := QZ fun p' hp' e => by
            have := Kw QX (by omega) hp'; omega
          simp only [getM]
          rw [if_neg (by omega), if_neg (by omega), if_neg (by omega), if_neg (by omega), QL q3]
          simp only [getM]
          rw [if_neg (by omega), JA q1]
        · simp only [Qke, Qqb, Part.row, List.append_nil, List.nil_append, List.cons_append, Nat.reduceAdd]
          exact ⟨by simp [getM, Q6, QO, hs2, hp2, JF], trivial⟩
      · exact Q3 (by omega) (Q3 (by omega) (Q3 (by omega) (Q3 (by omega) (Kq (Ji QX (by omega) (by omega)) (Q3 (by omega) (Kq (Ji QR (by omega) (by omega)) (by repeat' (first | exact Yh | refine Q3 (by first | omega | (rw [ZV (by omega)]; omega)) ?_))))))))
    · have e : i = b.parts.length := by omega
      subst e
      have et : b.parts.take b.parts.length = b.parts := List.take_length
      have bP : QpN (Q2 JF (Part.row 0) 121 0 b.parts) := Wm
      have tkS : List.take b.seen.length (b.seen.map Seen.row) = b.seen.map Seen.row := List.take_of_length_le (by simp)
      simp only [et, OO]
      unfold XG; simp (maxSteps := 2000000) (maxDischargeDepth := 8) only [bitvec_to_nat, reduceIte, Nat.reduceEqDiff, Nat.reduceAdd, Nat.reduceLeDiff, reduceCtorEq, Nat.reduceBEq, Nat.reduceLT, Nat.reduceMod, fmc, Qf, Qm, Qe, QE, keepB, Qn, QJ, int_toBitVec_meta, method_specs_simp, Nat.sub_zero, List.append_nil, hs1, hs2, hs3, tkO, tkB, QN, QdO, gB, gB0, sB, sB0, bA, bP, hp1, hp2, hp3, tkP, tkS, Q6, QO, Q4, List.append_assoc, List.cons_append, List.nil_append, J4, JP, JQ, QZ, Jm, JG, Y8, K0]
      refine ⟨fun h' => absurd h' (by omega), fun _ => ?_⟩
      have hof : ∀ q, q < 131 → W4 (bkM b 131 b.own.length 149 b.parts.length 154 0 110 121) q := fun q hq p hp e => by
        have := KQ (by omega) (by omega) hp; omega
      refine ⟨by omega, rfl, Jl (Qw (hof 101 (by omega)) (Qw (hof 102 (by omega)) (Qw (hof 103 (by omega)) (QI (UG (by omega) (by omega) (by omega) (by omega) (by omega) (by omega) (by omega) (by omega) (by omega)))))), UH, Qbv, ?_⟩
      simp only [Bool.true_or, Bool.true_and]
      exact QgX (T := Q2 JE (Own.row 0) 110 0 b.own ++ (149, AObj.arr 1000124 b.parts.length 3 (Ja (Part.row 0) 121 0 b.parts)) :: (Q2 JF (Part.row 0) 121 0 b.parts ++ [(154, AObj.arr 118 0 2 (b.seen.map Seen.row))])) (Kq (Ji QX (by omega) (by omega)) (Q3 (by omega) (Kq (Ji QR (by omega) (by omega)) (Q3 (by omega) Yh))))
end
end Go.Ve

namespace Go.Ve
noncomputable section
open Go.Proofs
set_option maxRecDepth 100000
open Go.ChangeShapes Go.WideShapes
abbrev oI (b : Book) (fl : ByteArray) : Nat := (oAt b.own fl).toNat
abbrev oG (b : Book) (fl : ByteArray) : Own := b.own.getD (oI b fl) default
theorem QhQ {l : List Own} {s : ByteArray} (h : 0 ≤ oAt l s) : (oAt l s).toNat < l.length ∧ oAt l s = ((oAt l s).toNat : Nat) := by
  rcases Qj6 (fun z : Own => decide (z.fl = s)) l with ⟨e, _⟩ | ⟨i, e, hi, _⟩
  · unfold oAt at h; rw [e] at h; omega
  · unfold oAt; rw [e]; exact ⟨by simpa using hi, by simp⟩
theorem Qmv {M K : Nat → Option AObj} {b : Book} {a va c vc d vd kO kP : Nat} (hM : ∀ p ∈ bkM b a va c vc d vd kO kP, M p.1 = some p.2) (hK : ∀ p ∈ bkM b a va c vc d vd kO kP, K p.1 = some p.2) : Vo M K (.agg [.own a va 0 b.own.length, .own c vc 0 b.parts.length, .own d vd 0 b.seen.length]) = some (.agg (b.row 99)) := GP hM hK
theorem Que {e cv sz ver i off m : Nat} {xs : List (List AV)} {K : AV → List (Nat × AObj) → Prop} : YY (Qla (some (.arr e cv sz xs)) ver i off fun ls => ⟨m + 1 ≤ ls.length, .agg (ls.take (m + 1)), []⟩) K = (ver = cv ∧ YY ⟨m + 1 ≤ ((xs.getD i []).drop off).length, .agg (((xs.getD i []).drop off).take (m + 1)), []⟩ K) := by
  simp only [YY, Qla, and_assoc]
end
end Go.Ve

namespace Go.Ve
noncomputable section
open Go.Proofs
set_option maxRecDepth 100000
open Go.ChangeShapes Go.WideShapes
end
end Go.Ve

namespace Go.Ve
open Go.Proofs
set_option maxRecDepth 100000
def XJ : SCode := (.seq (jq [jm 11 4 [],jf 12 0 1 [],jl 13 12 [12],jn 14 (.lenL (.v 13)) [13],jb 15 .lss 11 14 [11,14]] [1,2,3,4,15] (.cond (.v 15) .skip (.exit 0))) (.seq (.block 1 (.rgd [jf 18 0 3 [],jl 19 18 [],jf 20 0 1 [],jl 21 20 [],jm 22 4 [],ja 23 11 21 22 [],jL 24 11 23 [],jn 25 (.call 59 [.v 24]) [],jn 26 (.lit 71 11 [.v 25]) [],jn 27 (.app 127 71 11 (.v 19) (.v 26)) [],jf 28 0 3 [],⟨none,.store 1 (.v 28) (.v 27),none,[]⟩] [1,2,3,4] [some [],some [],none,none,none,none,none,some [6,5],none,none,none,none])) (.rg [jm 16 4 [4],jn 17 (.binN .add (.v 16) (ci 1)) [16],jm 4 17 [17]] [1,2,3,4])))
def XK : SCode := (.seq (jq [jm 29 5 [],jf 30 1 1 [],jl 31 30 [30],jn 32 (.lenL (.v 31)) [31],jb 33 .lss 29 32 [29,32]] [1,2,3,5,33] (.cond (.v 33) .skip (.exit 2))) (.seq (.block 3 (.rgd [jf 36 1 3 [],jl 37 36 [],jf 38 1 1 [],jl 39 38 [],jm 40 5 [],ja 41 3 39 40 [],jf 42 0 41 [],jl 43 42 [],jf 44 1 1 [],jl 45 44 [],jm 46 5 [],ja 47 3 45 46 [],jf 48 1 47 [],jl 49 48 [],jf 50 1 1 [],jl 51 50 [],jm 52 5 [],ja 53 3 51 52 [],jf 54 2 53 [],jl 55 54 [],jn 56 (.call 66 [.v 55]) [],jn 57 (.build [.str ⟨#[]⟩,.int .i64 0,.sl 0 6 []] [(0,1,.v 43),(1,1,.v 49),(2,1,.v 56)]) [],jn 58 (.lit 124 3 [.v 57]) [],jn 59 (.app 159 124 3 (.v 37) (.v 58)) [],jf 60 1 3 [],⟨none,.store 1 (.v 60) (.v 59),none,[]⟩] [1,2,3,5] [some [],some [],some [],some [],none,some [],some [],some [],some [],some [],none,some [],some [],some [],none,none,none,none,none,none,some [19,18,17,16,14,13,12,11,10,8,7,6],none,none,none,none,none])) (.rg [jm 34 5 [5],jn 35 (.binN .add (.v 34) (ci 1)) [34],jm 5 35 [35]] [1,2,3,5])))
/-- spec.l33Copy: function 57 -/
def QbA : SFun := { n := 62,res := [.cN 2 3],body := (jq [jn 1 (.box 101 (.v 0)) [0],jn 2 (.alloc 102 [.sl 0 11 [],.sl 0 3 [],.sl 0 2 []]) []] [1,2] (jq [jn 6 (.litOwn 106 118 2 []) [],jf 7 2 1 [],jl 8 7 [7],jn 9 (.app 106 118 2 (.v 6) (.v 8)) [6,8],jn 10 (.build [.sl 98 11 [],.sl 98 3 [],.sl 98 2 []] [(2,1,.v 9)]) [9],jn 3 (.alloc 103 [.sl 0 11 [],.sl 0 3 [],.sl 0 2 []]) [],⟨none,.store 3 (.v 3) (.v 10),none,[10]⟩] [1,2,3] (.seq (jq [jI 4 0 []] [1,2,3,4] (.block 0 (.gh (.nilB 103 0 127 71) (.loop XJ)))) (.seq (jq [jI 5 0 []] [1,2,3,5] (.block 2 (.gh (.nilB 103 1 159 124) (.loop XK)))) (jq [jL 61 3 3 [3],⟨none,.store 3 (.v 2) (.v 61),none,[61]⟩] [2] .ret))))) }
theorem QhR : QY Go.Proofs.Tryz.prog 57 QbA = true := by kernel_rfl
/-- spec.l33Own: function 59 -/
def Qci : SFun := { n := 17,res := [.cN 2 11],body := (jq [jn 1 (.box 101 (.v 0)) [0],jn 2 (.alloc 102 [.str ⟨#[]⟩,.int .i64 0,.int .i64 0,.str ⟨#[]⟩,.int .i64 0,.int .i64 0,.sl 0 6 [],.int .i64 0,.sl 0 6 [],.sl 0 1 [],.bool false]) []] [1,2] (jq [jf 3 6 1 [],jl 4 3 [3],jn 5 (.call 66 [.v 4]) [4],jf 6 6 1 [],⟨none,.store 1 (.v 6) (.v 5),none,[5,6]⟩] [1,2] (jq [jf 7 8 1 [],jl 8 7 [7],jn 9 (.call 66 [.v 8]) [8],jf 10 8 1 [],⟨none,.store 1 (.v 10) (.v 9),none,[9,10]⟩] [1,2] (jq [jn 11 (.litOwn 111 9 1 []) [],jf 12 9 1 [],jl 13 12 [12],jn 14 (.app 111 9 1 (.v 11) (.v 13)) [11,13],jf 15 9 1 [],⟨none,.store 1 (.v 15) (.v 14),none,[14,15]⟩] [1,2] (jq [jL 16 11 1 [1],⟨none,.store 11 (.v 2) (.v 16),none,[16]⟩] [2] (.gh (.frzB 102 9) .ret)))))) }
theorem Qii : QY Go.Proofs.Tryz.prog 59 Qci = true := by kernel_rfl
end Go.Ve

namespace Go.Ve
open Go.Proofs
set_option maxRecDepth 100000
def XL : SCode := (.seq (jq [jm 11 4 [],jf 12 0 1 [],jl 13 12 [12],jn 14 (.lenL (.v 13)) [13],jb 15 .lss 11 14 [11,14]] [1,2,3,4,15] (.cond (.v 15) .skip (.exit 0))) (.seq (.block 1 (.rgd [jf 18 0 3 [],jl 19 18 [],jf 20 0 1 [],jl 21 20 [],jm 22 4 [],ja 23 11 21 22 [],jL 24 11 23 [],jn 25 (.call 59 [.v 24]) [],jn 26 (.lit 71 11 [.v 25]) [],jn 27 (.app 127 71 11 (.v 19) (.v 26)) [],jf 28 0 3 [],⟨none,.store 1 (.v 28) (.v 27),none,[]⟩] [1,2,3,4] [some [],some [],none,none,none,none,none,some [6,5],none,none,none,none])) (.rg [jm 16 4 [4],jn 17 (.binN .add (.v 16) (ci 1)) [16],jm 4 17 [17]] [1,2,3,4])))
def XM : SCode := (.seq (jq [jm 29 5 [],jf 30 1 1 [],jl 31 30 [30],jn 32 (.lenL (.v 31)) [31],jb 33 .lss 29 32 [29,32]] [1,2,3,5,33] (.cond (.v 33) .skip (.exit 2))) (.seq (.block 3 (.rgd [jf 36 1 3 [],jl 37 36 [],jf 38 1 1 [],jl 39 38 [],jm 40 5 [],ja 41 3 39 40 [],jf 42 0 41 [],jl 43 42 [],jf 44 1 1 [],jl 45 44 [],jm 46 5 [],ja 47 3 45 46 [],jf 48 1 47 [],jl 49 48 [],jf 50 1 1 [],jl 51 50 [],jm 52 5 [],ja 53 3 51 52 [],jf 54 2 53 [],jl 55 54 [],jn 56 (.call 66 [.v 55]) [],jn 57 (.build [.str ⟨#[]⟩,.int .i64 0,.sl 0 6 []] [(0,1,.v 43),(1,1,.v 49),(2,1,.v 56)]) [],jn 58 (.lit 124 3 [.v 57]) [],jn 59 (.app 159 124 3 (.v 37) (.v 58)) [],jf 60 1 3 [],⟨none,.store 1 (.v 60) (.v 59),none,[]⟩] [1,2,3,5] [some [],some [],some [],some [],none,some [],some [],some [],some [],some [],none,some [],some [],some [],none,none,none,none,none,none,some [19,18,17,16,14,13,12,11,10,8,7,6],none,none,none,none,none])) (.rg [jm 34 5 [5],jn 35 (.binN .add (.v 34) (ci 1)) [34],jm 5 35 [35]] [1,2,3,5])))
/-- spec.l33Copy: function 57 -/
def QbB : SFun := { n := 62,res := [.cN 2 3],body := (jq [jn 1 (.box 101 (.v 0)) [0],jn 2 (.alloc 102 [.sl 0 11 [],.sl 0 3 [],.sl 0 2 []]) []] [1,2] (jq [jn 6 (.litOwn 106 118 2 []) [],jf 7 2 1 [],jl 8 7 [7],jn 9 (.app 106 118 2 (.v 6) (.v 8)) [6,8],jn 10 (.build [.sl 98 11 [],.sl 98 3 [],.sl 98 2 []] [(2,1,.v 9)]) [9],jn 3 (.alloc 103 [.sl 0 11 [],.sl 0 3 [],.sl 0 2 []]) [],⟨none,.store 3 (.v 3) (.v 10),none,[10]⟩] [1,2,3] (.seq (jq [jI 4 0 []] [1,2,3,4] (.block 0 (.gh (.nilB 103 0 127 71) (.loop XL)))) (.seq (jq [jI 5 0 []] [1,2,3,5] (.block 2 (.gh (.nilB 103 1 159 124) (.loop XM)))) (jq [jL 61 3 3 [3],⟨none,.store 3 (.v 2) (.v 61),none,[61]⟩] [2] (.gh (.frzB 102 0) (.gh (.frzB 102 1) (.gh (.frzB 102 2) .ret)))))))) }
theorem QhS : QY Go.Proofs.Tryz.prog 57 QbB = true := by kernel_rfl
end Go.Ve

namespace Go.Ve
noncomputable section
open Go.Proofs
set_option maxRecDepth 100000
open Go.ChangeShapes Go.WideShapes
theorem QtG (o : Own) (ho : o.small) : Contract P 59 [.agg (o.row 0)] [] (.agg (o.row 0)) [] := by
  have tkS : List.take o.gr.length (o.gr.map JJ) = o.gr.map JJ := List.take_of_length_le (by simp)
  unfold Own.small at ho
  simp only [Own.row]
  refine Qh ((Env.nil P).add 66 JL Qbx) hm Qii (nlb rfl) rfl ?_; unfold Qci; simp (maxSteps := 2000000) only [bitvec_to_nat, reduceIte, Nat.reduceEqDiff, Nat.reduceAdd, Nat.reduceLeDiff, reduceCtorEq, Nat.reduceBEq, Nat.reduceLT, Nat.reduceMod, fmc, JL, int_toBitVec_meta, method_specs_simp, Nat.sub_zero, List.append_nil, tkS]
  exact ⟨by omega, by omega, by omega⟩
def GD : List AV → Option (Prop × AV)
  | [.agg [.str o_fl, .int .i64 o_st, .int .i64 o_tn, .str o_dst, .int .i64 o_la, .int .i64 o_nr, .sl 0 6 o_tu, .int .i64 o_wi, .sl 0 6 o_nx, .sl 0 1 o_gr, .bool o_sent]] => some ((((o_tu.map QD).map Box6.row = o_tu) ∧ ((o_nx.map QD).map Box6.row = o_nx) ∧ ((o_gr.map unS).map JJ = o_gr)) ∧ (Own.small (Own.mk o_fl o_st o_tn o_dst o_la o_nr (o_tu.map QD) o_wi (o_nx.map QD) (o_gr.map unS) o_sent)), .agg (Own.row 0 (Own.mk o_fl o_st o_tn o_dst o_la o_nr (o_tu.map QD) o_wi (o_nx.map QD) (o_gr.map unS) o_sent)))
  | _ => none
theorem Qmw : ∀ args p v, GD args = some (p, v) → p → Contract P 59 args [] v [] ∧ noref v = true ∧ No99 v := by
  intro args p v h1 h2
  unfold GD at h1
  split at h1
  · rename_i o_fl o_st o_tn o_dst o_la o_nr o_tu o_wi o_nx o_gr o_sent
    cases h1
    obtain ⟨⟨e0, e1, e2⟩, HP⟩ := h2
    have := QtG (Own.mk o_fl o_st o_tn o_dst o_la o_nr (o_tu.map QD) o_wi (o_nx.map QD) (o_gr.map unS) o_sent) HP
    exact ⟨by simpa only [e0, e1, e2, Own.row] using this, rfl, by simp [No99, JT, Own.row, Jj, Kz, -List.map_map]⟩
  · cases h1
set_option maxHeartbeats 4000000 in
theorem Qq7 (b : Book) (hb : b.small) : Contract P 57 [.agg (b.row 0)] [] (.agg [.own 127 b.own.length 0 b.own.length, .own 159 b.parts.length 0 b.parts.length, .own 106 1 0 b.seen.length]) [(106, .arr 118 1 2 (b.seen.map Seen.row)), (127, .arr 71 b.own.length 11 (b.own.map (Own.row 0))), (159, .arr 124 b.parts.length 3 (b.parts.map (Part.row 0)))] := by
  have tkS : List.take b.seen.length (b.seen.map Seen.row) = b.seen.map Seen.row := List.take_of_length_le (by simp)
  have hlt : True := trivial
  have tk2 : True := trivial
  have eT : True := trivial
  unfold Book.small at hb
  simp only [Book.row]
  refine Qh (((Env.nil P).add 66 JL Qbx).add 59 GD Qmw) hm QhR (nlb rfl) rfl ?_; unfold QbA; simp (maxSteps := 2000000) only [bitvec_to_nat, reduceIte, Nat.reduceEqDiff, Nat.reduceAdd, Nat.reduceLeDiff, reduceCtorEq, Nat.reduceBEq, Nat.reduceLT, Nat.reduceMod, fmc, Qf, Qm, Qe, QE, keepB, Qn, QJ, JL, GD, int_toBitVec_meta, method_specs_simp, Nat.sub_zero, List.append_nil, tkS, List.length_map, hlt, eT, tk2]
  refine ⟨by omega, ?_⟩
  refine QH (fun i : Nat => [(1, .ptr 101 0), (2, .ptr 102 0), (3, .ptr 103 0), (4, .int .i64 i)]) (fun i => [(101, .box [.sl 0 11 (b.own.map (Own.row 0)), .sl 0 3 (b.parts.map (Part.row 0)), .sl 0 2 (b.seen.map Seen.row)]), (102, .box [.sl 0 11 [], .sl 0 3 [], .sl 0 2 []]), (106, .arr 118 1 2 (b.seen.map Seen.row)), (103, .box [.own 127 i 0 i, .sl 98 3 [], .own 106 1 0 b.seen.length]), (127, .arr 71 i 11 ((b.own.take i).map (Own.row 0)))]) (fun i => i ≤ b.own.length) (fun i => b.own.length - i) 0 (by simp only [Ju, Jv, Jw, Jx, Qi, Qj, Qk, Ql, reduceIte, Nat.reduceEqDiff]; exact ⟨by repeat' (first | exact trivial | refine ⟨.inr rfl, ?_⟩), by repeat' (first | exact trivial | refine ⟨rfl, ?_⟩), by first | rfl | simp [closedB, Qc, Qb, Qd, dom, Qa, *], by first | rfl | simp [keepB, dom]⟩) (Nat.zero_le _) ?_
  intro i hi NX hN
  by_cases h : i < b.own.length
  · have hlt : (b.own.take i).length = i := by rw [List.length_take]; omega
    have hx := hb.1.2 _ (Jg h)
    have tk2 : List.take i ((b.own.take i).map (Own.row 0)) = (b.own.take i).map (Own.row 0) := List.take_of_length_le (by rw [List.length_map, hlt]; omega)
    have eN : (b.own.take (i + 1)).map (Own.row 0) = (b.own.take i).map (Own.row 0) ++ [Own.row 0 (b.own.getD i default)] := by rw [List.take_succ_eq_append_getElem h, List.map_append]; simp [h]
    unfold XJ; simp (maxSteps := 2000000) only [bitvec_to_nat, reduceIte, Nat.reduceEqDiff, Nat.reduceAdd, Nat.reduceLeDiff, reduceCtorEq, Nat.reduceBEq, Nat.reduceLT, Nat.reduceMod, fmc, Qf, Qm, Qe, QE, keepB, Qn, QJ, JL, GD, int_toBitVec_meta, method_specs_simp, Nat.sub_zero, List.append_nil, tkS, List.length_map, hlt, eT, tk2]
    exact ⟨fun _ => ⟨by omega, by omega, hx, by omega, ⟨by omega, by omega⟩, hN (i + 1) _ (by simp only [eN, Own.row]; simp only [Ju, Jv, Jw, Jx, Qi, Qj, Qk, Ql, reduceIte, Nat.reduceEqDiff]; exact ⟨by repeat' (first | exact trivial | refine ⟨.inr rfl, ?_⟩), by repeat' (first | exact trivial | refine ⟨rfl, ?_⟩), by first | rfl | simp [closedB, Qc, Qb, Qd, dom, Qa, *], by first | rfl | simp [keepB, dom]⟩) (by omega) (by omega)⟩, fun h' => absurd (by omega) h'⟩
  · have e : i = b.own.length := by omega
    subst e
    have et : b.own.take b.own.length = b.own := List.take_length
    simp only [et]
    unfold XJ; simp (maxSteps := 2000000) only [bitvec_to_nat, reduceIte, Nat.reduceEqDiff, Nat.reduceAdd, Nat.reduceLeDiff, reduceCtorEq, Nat.reduceBEq, Nat.reduceLT, Nat.reduceMod, fmc, Qf, Qm, Qe, QE, keepB, Qn, QJ, JL, GD, int_toBitVec_meta, method_specs_simp, Nat.sub_zero, List.append_nil, tkS, List.length_map, hlt, eT, tk2]
    refine ⟨fun h' => absurd h' (by omega), fun _ => ?_⟩
    refine QH (fun i : Nat => [(1, .ptr 101 0), (2, .ptr 102 0), (3, .ptr 103 0), (5, .int .i64 i)]) (fun i => [(101, .box [.sl 0 11 (b.own.map (Own.row 0)), .sl 0 3 (b.parts.map (Part.row 0)), .sl 0 2 (b.seen.map Seen.row)]), (102, .box [.sl 0 11 [], .sl 0 3 [], .sl 0 2 []]), (106, .arr 118 1 2 (b.seen.map Seen.row)), (103, .box [.own 127 b.own.length 0 b.own.length, .own 159 i 0 i, .own 106 1 0 b.seen.length]), (127, .arr 71 b.own.length 11 (b.own.map (Own.row 0))), (159, .arr 124 i 3 ((b.parts.take i).map (Part.row 0)))]) (fun i => i ≤ b.parts.length) (fun i => b.parts.length - i) 0 (by simp only [Ju, Jv, Jw, Jx, Qi, Qj, Qk, Ql, reduceIte, Nat.reduceEqDiff]; exact ⟨by repeat' (first | exact trivial | refine ⟨.inr rfl, ?_⟩), by repeat' (first | exact trivial | refine ⟨rfl, ?_⟩), by first | rfl | simp [closedB, Qc, Qb, Qd, dom, Qa, *], by first | rfl | simp [keepB, dom]⟩) (Nat.zero_le _) ?_
    intro i hi NX hN
    by_cases h : i < b.parts.length
    · have hlt : (b.parts.take i).length = i := by rw [List.length_take]; omega
      have hx := hb.2.1.2 _ (Jg h)
      have tk2 : List.take i ((b.parts.take i).map (Part.row 0)) = (b.parts.take i).map (Part.row 0) := List.take_of_length_le (by rw [List.length_map, hlt]; omega)
      have eN : (b.parts.take (i + 1)).map (Part.row 0) = (b.parts.take i).map (Part.row 0) ++ [Part.row 0 (b.parts.getD i default)] := by rw [List.take_succ_eq_append_getElem h, List.map_append]; simp [h]
      unfold XK; simp (maxSteps := 2000000) only [bitvec_to_nat, reduceIte, Nat.reduceEqDiff, Nat.reduceAdd, Nat.reduceLeDiff, reduceCtorEq, Nat.reduceBEq, Nat.reduceLT, Nat.reduceMod, fmc, Qf, Qm, Qe, QE, keepB, Qn, QJ, JL, GD, int_toBitVec_meta, method_specs_simp, Nat.sub_zero, List.append_nil, tkS, List.length_map, hlt, eT, tk2]
      refine ⟨fun _ => ?_, fun h' => absurd (by omega) h'⟩
      repeat' (first | with_reducible apply And.intro | with_reducible intro _)
      all_goals first
        | omega
        | exact hN (i + 1) _ (by simp only [eN, Part.row]; simp only [Ju, Jv, Jw, Jx, Qi, Qj, Qk, Ql, reduceIte, Nat.reduceEqDiff]; exact ⟨by repeat' (first | exact trivial | refine ⟨.inr rfl, ?_⟩), by repeat' (first | exact trivial | refine ⟨rfl, ?_⟩), by first | rfl | simp [closedB, Qc, Qb, Qd, dom, Qa, *], by first | rfl | simp [keepB, dom]⟩) (by omega) (by omega)
        | trace_state
    · have e : i = b.parts.length := by omega
      subst e
      have et : b.parts.take b.parts.length = b.parts := List.take_length
      simp only [et]
      unfold XK; simp (maxSteps := 2000000) only [bitvec_to_nat, reduceIte, Nat.reduceEqDiff, Nat.reduceAdd, Nat.reduceLeDiff, reduceCtorEq, Nat.reduceBEq, Nat.reduceLT, Nat.reduceMod, fmc, Qf, Qm, Qe, QE, keepB, Qn, QJ, JL, GD, int_toBitVec_meta, method_specs_simp, Nat.sub_zero, List.append_nil, tkS, List.length_map, hlt, eT, tk2]
      refine ⟨fun h' => absurd h' (by omega), fun _ => ?_⟩
      exact ⟨rfl, rfl⟩
set_option maxHeartbeats 4000000 in
theorem Qq8 (b : Book) (hb : b.small) : Contract P 57 [.agg (b.row 0)] [] (.agg (b.row 0)) [] := by
  have tkS : List.take b.seen.length (b.seen.map Seen.row) = b.seen.map Seen.row := List.take_of_length_le (by simp)
  have hlt : True := trivial
  have tk2 : True := trivial
  have eT : True := trivial
  unfold Book.small at hb
  simp only [Book.row]
  refine Qh (((Env.nil P).add 66 JL Qbx).add 59 GD Qmw) hm QhS (nlb rfl) rfl ?_; unfold QbB; simp (maxSteps := 2000000) only [bitvec_to_nat, reduceIte, Nat.reduceEqDiff, Nat.reduceAdd, Nat.reduceLeDiff, reduceCtorEq, Nat.reduceBEq, Nat.reduceLT, Nat.reduceMod, fmc, Qf, Qm, Qe, QE, keepB, Qn, QJ, JL, GD, int_toBitVec_meta, method_specs_simp, Nat.sub_zero, List.append_nil, tkS, List.length_map, hlt, eT, tk2]
  refine ⟨by omega, ?_⟩
  refine QH (fun i : Nat => [(1, .ptr 101 0), (2, .ptr 102 0), (3, .ptr 103 0), (4, .int .i64 i)]) (fun i => [(101, .box [.sl 0 11 (b.own.map (Own.row 0)), .sl 0 3 (b.parts.map (Part.row 0)), .sl 0 2 (b.seen.map Seen.row)]), (102, .box [.sl 0 11 [], .sl 0 3 [], .sl 0 2 []]), (106, .arr 118 1 2 (b.seen.map Seen.row)), (103, .box [.own 127 i 0 i, .sl 98 3 [], .own 106 1 0 b.seen.length]), (127, .arr 71 i 11 ((b.own.take i).map (Own.row 0)))]) (fun i => i ≤ b.own.length) (fun i => b.own.length - i) 0 (by simp only [Ju, Jv, Jw, Jx, Qi, Qj, Qk, Ql, reduceIte, Nat.reduceEqDiff]; exact ⟨by repeat' (first | exact trivial | refine ⟨.inr rfl, ?_⟩), by repeat' (first | exact trivial | refine ⟨rfl, ?_⟩), by first | rfl | simp [closedB, Qc, Qb, Qd, dom, Qa, *], by first | rfl | simp [keepB, dom]⟩) (Nat.zero_le _) ?_
  intro i hi NX hN
  by_cases h : i < b.own.length
  · have hlt : (b.own.take i).length = i := by rw [List.length_take]; omega
    have hx := hb.1.2 _ (Jg h)
    have tk2 : List.take i ((b.own.take i).map (Own.row 0)) = (b.own.take i).map (Own.row 0) := List.take_of_length_le (by rw [List.length_map, hlt]; omega)
    have eN : (b.own.take (i + 1)).map (Own.row 0) = (b.own.take i).map (Own.row 0) ++ [Own.row 0 (b.own.getD i default)] := by rw [List.take_succ_eq_append_getElem h, List.map_append]; simp [h]
    unfold XL; simp (maxSteps := 2000000) only [bitvec_to_nat, reduceIte, Nat.reduceEqDiff, Nat.reduceAdd, Nat.reduceLeDiff, reduceCtorEq, Nat.reduceBEq, Nat.reduceLT, Nat.reduceMod, fmc, Qf, Qm, Qe, QE, keepB, Qn, QJ, JL, GD, int_toBitVec_meta, method_specs_simp, Nat.sub_zero, List.append_nil, tkS, List.length_map, hlt, eT, tk2]
    exact ⟨fun _ => ⟨by omega, by omega, hx, by omega, ⟨by omega, by omega⟩, hN (i + 1) _ (by simp only [eN, Own.row]; simp only [Ju, Jv, Jw, Jx, Qi, Qj, Qk, Ql, reduceIte, Nat.reduceEqDiff]; exact ⟨by repeat' (first | exact trivial | refine ⟨.inr rfl, ?_⟩), by repeat' (first | exact trivial | refine ⟨rfl, ?_⟩), by first | rfl | simp [closedB, Qc, Qb, Qd, dom, Qa, *], by first | rfl | simp [keepB, dom]⟩) (by omega) (by omega)⟩, fun h' => absurd (by omega) h'⟩
  · have e : i = b.own.length := by omega
    subst e
    have et : b.own.take b.own.length = b.own := List.take_length
    simp only [et]
    unfold XL; simp (maxSteps := 2000000) only [bitvec_to_nat, reduceIte, Nat.reduceEqDiff, Nat.reduceAdd, Nat.reduceLeDiff, reduceCtorEq, Nat.reduceBEq, Nat.reduceLT, Nat.reduceMod, fmc, Qf, Qm, Qe, QE, keepB, Qn, QJ, JL, GD, int_toBitVec_meta, method_specs_simp, Nat.sub_zero, List.append_nil, tkS, List.length_map, hlt, eT, tk2]
    refine ⟨fun h' => absurd h' (by omega), fun _ => ?_⟩
    refine QH (fun i : Nat => [(1, .ptr 101 0), (2, .ptr 102 0), (3, .ptr 103 0), (5, .int .i64 i)]) (fun i => [(101, .box [.sl 0 11 (b.own.map (Own.row 0)), .sl 0 3 (b.parts.map (Part.row 0)), .sl 0 2 (b.seen.map Seen.row)]), (102, .box [.sl 0 11 [], .sl 0 3 [], .sl 0 2 []]), (106, .arr 118 1 2 (b.seen.map Seen.row)), (103, .box [.own 127 b.own.length 0 b.own.length, .own 159 i 0 i, .own 106 1 0 b.seen.length]), (127, .arr 71 b.own.length 11 (b.own.map (Own.row 0))), (159, .arr 124 i 3 ((b.parts.take i).map (Part.row 0)))]) (fun i => i ≤ b.parts.length) (fun i => b.parts.length - i) 0 (by simp only [Ju, Jv, Jw, Jx, Qi, Qj, Qk, Ql, reduceIte, Nat.reduceEqDiff]; exact ⟨by repeat' (first | exact trivial | refine ⟨.inr rfl, ?_⟩), by repeat' (first | exact trivial | refine ⟨rfl, ?_⟩), by first | rfl | simp [closedB, Qc, Qb, Qd, dom, Qa, *], by first | rfl | simp [keepB, dom]⟩) (Nat.zero_le _) ?_
    intro i hi NX hN
    by_cases h : i < b.parts.length
    · have hlt : (b.parts.take i).length = i := by rw [List.length_take]; omega
      have hx := hb.2.1.2 _ (Jg h)
      have tk2 : List.take i ((b.parts.take i).map (Part.row 0)) = (b.parts.take i).map (Part.row 0) := List.take_of_length_le (by rw [List.length_map, hlt]; omega)
      have eN : (b.parts.take (i + 1)).map (Part.row 0) = (b.parts.take i).map (Part.row 0) ++ [Part.row 0 (b.parts.getD i default)] := by rw [List.take_succ_eq_append_getElem h, List.map_append]; simp [h]
      unfold XM; simp (maxSteps := 2000000) only [bitvec_to_nat, reduceIte, Nat.reduceEqDiff, Nat.reduceAdd, Nat.reduceLeDiff, reduceCtorEq, Nat.reduceBEq, Nat.reduceLT, Nat.reduceMod, fmc, Qf, Qm, Qe, QE, keepB, Qn, QJ, JL, GD, int_toBitVec_meta, method_specs_simp, Nat.sub_zero, List.append_nil, tkS, List.length_map, hlt, eT, tk2]
      refine ⟨fun _ => ?_, fun h' => absurd (by omega) h'⟩
      repeat' (first | with_reducible apply And.intro | with_reducible intro _)
      all_goals first
        | omega
        | exact hN (i + 1) _ (by simp only [eN, Part.row]; simp only [Ju, Jv, Jw, Jx, Qi, Qj, Qk, Ql, reduceIte, Nat.reduceEqDiff]; exact ⟨by repeat' (first | exact trivial | refine ⟨.inr rfl, ?_⟩), by repeat' (first | exact trivial | refine ⟨rfl, ?_⟩), by first | rfl | simp [closedB, Qc, Qb, Qd, dom, Qa, *], by first | rfl | simp [keepB, dom]⟩) (by omega) (by omega)
        | trace_state
    · have e : i = b.parts.length := by omega
      subst e
      have et : b.parts.take b.parts.length = b.parts := List.take_length
      simp only [et]
      unfold XM; simp (maxSteps := 2000000) only [bitvec_to_nat, reduceIte, Nat.reduceEqDiff, Nat.reduceAdd, Nat.reduceLeDiff, reduceCtorEq, Nat.reduceBEq, Nat.reduceLT, Nat.reduceMod, fmc, Qf, Qm, Qe, QE, keepB, Qn, QJ, JL, GD, int_toBitVec_meta, method_specs_simp, Nat.sub_zero, List.append_nil, tkS, List.length_map, hlt, eT, tk2]
      exact fun h' => absurd h' (by omega)
end
end Go.Ve

namespace Go.Ve
noncomputable section
open Go.Proofs
set_option maxRecDepth 100000
open Go.ChangeShapes Go.WideShapes
abbrev GA (va vc : Nat) (b : Book) : List (Nat × AObj) := bkM b 631 va 632 vc 633 0 300 320
theorem JO {va vc : Nat} {b : Book} {q : Nat} (h1 : q ≠ 631) (h2 : q ≠ 632) (h3 : q ≠ 633) (h : q < 1000) : W4 (GA va vc b) q := fun p hp e => by
  have := KQ (by omega) (by omega) hp; omega
theorem YI (va vc : Nat) (b : Book) : ZW (GA va vc b) := UG (by omega) (by omega) (by omega) (by omega) (by omega) (by omega) (by omega) (by omega) (by omega)
theorem QsO {va vc : Nat} {b : Book} {X : List (Nat × AObj)} : getM (GA va vc b ++ X) 631 = some (.arr (1000000 + 71) va 11 (Ja (Own.row 0) 300 0 b.own)) := rfl
theorem QtH {va vc : Nat} {b : Book} : getM (GA va vc b) 631 = some (.arr (1000000 + 71) va 11 (Ja (Own.row 0) 300 0 b.own)) := rfl
theorem QrH {va vc : Nat} {b : Book} : Y7 (GA va vc b) := Qmr (by omega) (by omega) (by omega) (by omega) (by omega) (by omega) (by omega)
theorem QuA {va vc : Nat} {b : Book} {M' B : List (Nat × AObj)} : keepB (GA va vc b ++ B) M' = keepB B M' := Wl (J3 QrH)
theorem Quf {va vc : Nat} {b : Book} {M' : List (Nat × AObj)} : keepB (GA va vc b) M' = true := J3 QrH
abbrev GB (va vc : Nat) (b : Book) : List (Nat × AObj) := bkM b 641 va 642 vc 643 0 340 360
theorem Ka {va vc : Nat} {b : Book} {q : Nat} (h1 : q ≠ 641) (h2 : q ≠ 642) (h3 : q ≠ 643) (h : q < 1000) : W4 (GB va vc b) q := fun p hp e => by
  have := KQ (by omega) (by omega) hp; omega
theorem QcJ (va vc : Nat) (b : Book) : ZW (GB va vc b) := UG (by omega) (by omega) (by omega) (by omega) (by omega) (by omega) (by omega) (by omega) (by omega)
theorem QsP {va vc : Nat} {b : Book} {X : List (Nat × AObj)} : getM (GB va vc b ++ X) 641 = some (.arr (1000000 + 71) va 11 (Ja (Own.row 0) 340 0 b.own)) := rfl
theorem QtI {va vc : Nat} {b : Book} : getM (GB va vc b) 641 = some (.arr (1000000 + 71) va 11 (Ja (Own.row 0) 340 0 b.own)) := rfl
theorem QrI {va vc : Nat} {b : Book} : Y7 (GB va vc b) := Qmr (by omega) (by omega) (by omega) (by omega) (by omega) (by omega) (by omega)
theorem QuB {va vc : Nat} {b : Book} {M' B : List (Nat × AObj)} : keepB (GB va vc b ++ B) M' = keepB B M' := Wl (J3 QrI)
theorem Qug {va vc : Nat} {b : Book} {M' : List (Nat × AObj)} : keepB (GB va vc b) M' = true := J3 QrI
theorem QrJ {va' vc' : Nat} {b b' : Book} : dis (KA b) (GA va' vc' b') := fun p hp q hq e => by
  have := KQ (by omega) (by omega) hp; have := KQ (by omega) (by omega) hq; omega
theorem QuC {va' vc' : Nat} {b b' : Book} : dis (GA va' vc' b') (KA b) := Yq QrJ
theorem Qs2 {va' vc' : Nat} {b b' : Book} : dis (KA b) (GB va' vc' b') := fun p hp q hq e => by
  have := KQ (by omega) (by omega) hp; have := KQ (by omega) (by omega) hq; omega
theorem QuD {va' vc' : Nat} {b b' : Book} : dis (GB va' vc' b') (KA b) := Yq Qs2
theorem Qs3 {va vc va' vc' : Nat} {b b' : Book} : dis (GA va vc b) (GB va' vc' b') := fun p hp q hq e => by
  have := KQ (by omega) (by omega) hp; have := KQ (by omega) (by omega) hq; omega
theorem QuE {va vc va' vc' : Nat} {b b' : Book} : dis (GB va' vc' b') (GA va vc b) := Yq Qs3
theorem QtJ {va vc v : Nat} {b : Book} {l : List VW} : dis (GA va vc b) (RA v l) := fun p hp q hq e => by
  have := KQ (by omega) (by omega) hp; have := KZ Jb (by omega) hq; omega
theorem QuF {va vc v : Nat} {b : Book} {l : List VW} : dis (RA v l) (GA va vc b) := Yq QtJ
theorem QtV {va vc v : Nat} {b : Book} {l : List VW} : dis (GA va vc b) (RB v l) := fun p hp q hq e => by
  have := KQ (by omega) (by omega) hp; have := KZ Jb (by omega) hq; omega
theorem QuG {va vc v : Nat} {b : Book} {l : List VW} : dis (RB v l) (GA va vc b) := Yq QtV
theorem Qup {va vc v : Nat} {b : Book} {l : List VW} : dis (GB va vc b) (RA v l) := fun p hp q hq e => by
  have := KQ (by omega) (by omega) hp; have := KZ Jb (by omega) hq; omega
theorem Quh {va vc v : Nat} {b : Book} {l : List VW} : dis (RA v l) (GB va vc b) := Yq Qup
theorem QtW {va vc v : Nat} {b : Book} {l : List VW} : dis (GB va vc b) (RB v l) := fun p hp q hq e => by
  have := KQ (by omega) (by omega) hp; have := KZ Jb (by omega) hq; omega
theorem QuH {va vc v : Nat} {b : Book} {l : List VW} : dis (RB v l) (GB va vc b) := Yq QtW
theorem Qui {va vc : Nat} {b : Book} {k : Int} {B : List (Nat × AObj)} : Q1 (GA va vc b ++ B) (GA va vc (mb k b)) = GA va vc (mb k b) ++ B := QeH (YI va vc b) (QhI QiP QbU)
theorem QtK {va vc : Nat} {b : Book} {k : Int} : Q1 (GA va vc b) (GA va vc (mb k b)) = GA va vc (mb k b) := Qmc (YI va vc b) (QhI QiP QbU)
theorem QiR (va vc : Nat) (b : Book) (k : Int) (hb : b.sm) (hk : 0 ≤ k ∧ k ≤ 1099511627776) : Contract P 17 [bkV b 631 va 632 vc 633 0, .int .i64 k] (GA va vc b) (.int .i64 (k + cfB b)) (GA va vc (mb k b)) := by
  have h := (((((QhJ b va vc 0 k hb hk).ren (swp 3 631) (Q0 _ _)).ren (swp 4 632) (Q0 _ _)).ren (swp 5 633) (Q0 _ _)).ren (JH 7 300 11) (JR (by omega) (by omega) (by omega))).ren (JH 20 320 3) (JR (by omega) (by omega) (by omega))
  have hs : ∀ q q' : Nat, q < 1000 → q' < 1000 → ∀ b : Book, ∀ a va c vc d vd, J5 (swp q q') (bkM b a va c vc d vd 7 20) = bkM b (swp q q' a) va (swp q q' c) vc (swp q q' d) vd 7 20 := fun q q' h1 h2 b a va c vc d vd => JZ (fun j i hj => JD h1 h2) (fun j i hj => JD h1 h2)
  have hO : ∀ b : Book, ∀ a va c vc d vd, J5 (JH 7 300 11) (bkM b a va c vc d vd 7 20) = bkM b (JH 7 300 11 a) va (JH 7 300 11 c) vc (JH 7 300 11 d) vd 300 20 := fun b a va c vc d vd => JZ (fun j i hj => Km (by omega) hj) (fun j i hj => J1 (by omega) (by omega) (by omega))
  have hP : ∀ b : Book, ∀ a va c vc d vd, J5 (JH 20 320 3) (bkM b a va c vc d vd 300 20) = bkM b (JH 20 320 3 a) va (JH 20 320 3 c) vc (JH 20 320 3 d) vd 300 320 := fun b a va c vc d vd => JZ (fun j i hj => J1 (by omega) (by omega) (by omega)) (fun j i hj => Km (by omega) hj)
  simp only [J5, XO, QcE, hs _ _ (show (3 : Nat) < 1000 by omega) (show (631 : Nat) < 1000 by omega), hs _ _ (show (4 : Nat) < 1000 by omega) (show (632 : Nat) < 1000 by omega), hs _ _ (show (5 : Nat) < 1000 by omega) (show (633 : Nat) < 1000 by omega), hO, hP, K4, ren, renO, swp, JH, reduceIte, Nat.reduceEqDiff, Nat.reduceLeDiff] at h
  exact h
theorem QuI {fn : FuncId} {args : List AV} {va vc : Nat} {B : Book} {x y : AV} (hx : noref x = true) (hy : noref y = true) (ha : Jy args = true) (H : Contract P fn args [] (.tup [bkV B 131 va 149 vc 154 0, x, y]) (bkM B 131 va 149 vc 154 0 110 121)) : Contract P fn args [] (.tup [bkV B 631 va 632 vc 633 0, x, y]) (GA va vc B).reverse := by
  have h := ((((H.ren (swp 131 631) (Q0 _ _)).ren (swp 149 632) (Q0 _ _)).ren (swp 154 633) (Q0 _ _)).ren (JH 110 300 11) (JR (by omega) (by omega) (by omega))).ren (JH 121 320 3) (JR (by omega) (by omega) (by omega))
  have hs : ∀ q q' : Nat, q < 1000 → q' < 1000 → ∀ b : Book, ∀ a va c vc d vd, J5 (swp q q') (bkM b a va c vc d vd 110 121) = bkM b (swp q q' a) va (swp q q' c) vc (swp q q' d) vd 110 121 := fun q q' h1 h2 b a va c vc d vd => JZ (fun j i hj => JD h1 h2) (fun j i hj => JD h1 h2)
  have hO : ∀ b : Book, ∀ a va c vc d vd, J5 (JH 110 300 11) (bkM b a va c vc d vd 110 121) = bkM b (JH 110 300 11 a) va (JH 110 300 11 c) vc (JH 110 300 11 d) vd 300 121 := fun b a va c vc d vd => JZ (fun j i hj => Km (by omega) hj) (fun j i hj => J1 (by omega) (by omega) (by omega))
  have hP : ∀ b : Book, ∀ a va c vc d vd, J5 (JH 121 320 3) (bkM b a va c vc d vd 300 121) = bkM b (JH 121 320 3 a) va (JH 121 320 3 c) vc (JH 121 320 3 d) vd 300 320 := fun b a va c vc d vd => JZ (fun j i hj => J1 (by omega) (by omega) (by omega)) (fun j i hj => Km (by omega) hj)
  have r1 : ∀ (s : Nat → Nat), ren s x = x := fun s => Qfw s x hx
  have r2 : ∀ (s : Nat → Nat), ren s y = y := fun s => Qfw s y hy
  have r3 : ∀ (s : Nat → Nat), K4 s args = args := fun s => ZT s args ha
  simp only [r3, ren, K4, r1, r2, J5, XO, QcE, hs _ _ (show (131 : Nat) < 1000 by omega) (show (631 : Nat) < 1000 by omega), hs _ _ (show (149 : Nat) < 1000 by omega) (show (632 : Nat) < 1000 by omega), hs _ _ (show (154 : Nat) < 1000 by omega) (show (633 : Nat) < 1000 by omega), hO, hP, K4, ren, renO, swp, JH, reduceIte, Nat.reduceEqDiff, Nat.reduceLeDiff] at h
  exact h.post_eq (funext fun q => ZE (YI va vc B) q)
theorem QtL {fn : FuncId} {args : List AV} {va vc v : Nat} {B : Book} {l : List VW} {n : Nat} {y : AV} (hy : noref y = true) (ha : Jy args = true) (H : Contract P fn args [] (.tup [bkV B 131 va 149 vc 154 0, .own 120 v 0 n, y]) (bkM B 131 va 149 vc 154 0 110 121 ++ Jk 120 v 150 0 l)) : Contract P fn args [] (.tup [bkV B 631 va 632 vc 633 0, .own 731 v 0 n, y]) (GA va vc B ++ RA v l).reverse := by
  have h := ((((H.ren (swp 131 631) (Q0 _ _)).ren (swp 149 632) (Q0 _ _)).ren (swp 154 633) (Q0 _ _)).ren (JH 110 300 11) (JR (by omega) (by omega) (by omega))).ren (JH 121 320 3) (JR (by omega) (by omega) (by omega))
  have hs : ∀ q q' : Nat, q < 1000 → q' < 1000 → ∀ b : Book, ∀ a va c vc d vd, J5 (swp q q') (bkM b a va c vc d vd 110 121) = bkM b (swp q q' a) va (swp q q' c) vc (swp q q' d) vd 110 121 := fun q q' h1 h2 b a va c vc d vd => JZ (fun j i hj => JD h1 h2) (fun j i hj => JD h1 h2)
  have hO : ∀ b : Book, ∀ a va c vc d vd, J5 (JH 110 300 11) (bkM b a va c vc d vd 110 121) = bkM b (JH 110 300 11 a) va (JH 110 300 11 c) vc (JH 110 300 11 d) vd 300 121 := fun b a va c vc d vd => JZ (fun j i hj => Km (by omega) hj) (fun j i hj => J1 (by omega) (by omega) (by omega))
  have hP : ∀ b : Book, ∀ a va c vc d vd, J5 (JH 121 320 3) (bkM b a va c vc d vd 300 121) = bkM b (JH 121 320 3 a) va (JH 121 320 3 c) vc (JH 121 320 3 d) vd 300 320 := fun b a va c vc d vd => JZ (fun j i hj => J1 (by omega) (by omega) (by omega)) (fun j i hj => Km (by omega) hj)
  have h := (h.ren (swp 120 731) (Q0 _ _)).ren (JH 150 160 8) (JR (by omega) (by omega) (by omega))
  have r2 : ∀ (s : Nat → Nat), ren s y = y := fun s => Qfw s y hy
  have r3 : ∀ (s : Nat → Nat), K4 s args = args := fun s => ZT s args ha
  have w1 : ∀ q q' : Nat, q < 1000 → q' < 1000 → ∀ o, J5 (swp q q') (Jk o v 150 0 l) = Jk (swp q q' o) v 150 0 l := fun q q' h1 h2 o => Yr (i1 := 0) Jb JM (fun j i hj => JD h1 h2)
  have w2 : ∀ o, J5 (JH 110 300 11) (Jk o v 150 0 l) = Jk (JH 110 300 11 o) v 150 0 l := fun o => Yr (i1 := 0) Jb JM (fun j i hj => J1 (by omega) (by omega) (by omega))
  have w3 : ∀ o, J5 (JH 121 320 3) (Jk o v 150 0 l) = Jk (JH 121 320 3 o) v 150 0 l := fun o => Yr (i1 := 0) Jb JM (fun j i hj => J1 (by omega) (by omega) (by omega))
  have w4 : ∀ o, J5 (JH 150 160 8) (Jk o v 150 0 l) = Jk (JH 150 160 8 o) v 160 0 l := fun o => Yr (i1 := 0) Jb JM (fun j i hj => Km (by omega) hj)
  have w5 : ∀ b : Book, ∀ a va c vc d vd, J5 (swp 120 731) (bkM b a va c vc d vd 300 320) = bkM b (swp 120 731 a) va (swp 120 731 c) vc (swp 120 731 d) vd 300 320 := fun b a va c vc d vd => JZ (fun j i hj => JD (by omega) (by omega)) (fun j i hj => JD (by omega) (by omega))
  have w6 : ∀ b : Book, ∀ a va c vc d vd, J5 (JH 150 160 8) (bkM b a va c vc d vd 300 320) = bkM b (JH 150 160 8 a) va (JH 150 160 8 c) vc (JH 150 160 8 d) vd 300 320 := fun b a va c vc d vd => JZ (fun j i hj => J1 (by omega) (by omega) (by omega)) (fun j i hj => J1 (by omega) (by omega) (by omega))
  simp only [r3, r2, XO, w1 _ _ (show (131 : Nat) < 1000 by omega) (show (631 : Nat) < 1000 by omega), w1 _ _ (show (149 : Nat) < 1000 by omega) (show (632 : Nat) < 1000 by omega), w1 _ _ (show (154 : Nat) < 1000 by omega) (show (633 : Nat) < 1000 by omega), w1 _ _ (show (120 : Nat) < 1000 by omega) (show (731 : Nat) < 1000 by omega), w2, w3, w4, w5, w6, J5, XO, QcE, hs _ _ (show (131 : Nat) < 1000 by omega) (show (631 : Nat) < 1000 by omega), hs _ _ (show (149 : Nat) < 1000 by omega) (show (632 : Nat) < 1000 by omega), hs _ _ (show (154 : Nat) < 1000 by omega) (show (633 : Nat) < 1000 by omega), hO, hP, K4, ren, renO, swp, JH, reduceIte, Nat.reduceEqDiff, Nat.reduceLeDiff] at h
  exact h.post_eq (funext fun q => ZE (QdM (YI va vc B) (Kt (by omega) (by omega)) QtJ) q)
theorem QuJ {fn : FuncId} {args : List AV} {va vc : Nat} {B : Book} {x y : AV} (hx : noref x = true) (hy : noref y = true) (ha : Jy args = true) (H : Contract P fn args [] (.tup [bkV B 131 va 149 vc 154 0, x, y]) (bkM B 131 va 149 vc 154 0 110 121)) : Contract P fn args [] (.tup [bkV B 641 va 642 vc 643 0, x, y]) (GB va vc B).reverse := by
  have h := ((((H.ren (swp 131 641) (Q0 _ _)).ren (swp 149 642) (Q0 _ _)).ren (swp 154 643) (Q0 _ _)).ren (JH 110 340 11) (JR (by omega) (by omega) (by omega))).ren (JH 121 360 3) (JR (by omega) (by omega) (by omega))
  have hs : ∀ q q' : Nat, q < 1000 → q' < 1000 → ∀ b : Book, ∀ a va c vc d vd, J5 (swp q q') (bkM b a va c vc d vd 110 121) = bkM b (swp q q' a) va (swp q q' c) vc (swp q q' d) vd 110 121 := fun q q' h1 h2 b a va c vc d vd => JZ (fun j i hj => JD h1 h2) (fun j i hj => JD h1 h2)
  have hO : ∀ b : Book, ∀ a va c vc d vd, J5 (JH 110 340 11) (bkM b a va c vc d vd 110 121) = bkM b (JH 110 340 11 a) va (JH 110 340 11 c) vc (JH 110 340 11 d) vd 340 121 := fun b a va c vc d vd => JZ (fun j i hj => Km (by omega) hj) (fun j i hj => J1 (by omega) (by omega) (by omega))
  have hP : ∀ b : Book, ∀ a va c vc d vd, J5 (JH 121 360 3) (bkM b a va c vc d vd 340 121) = bkM b (JH 121 360 3 a) va (JH 121 360 3 c) vc (JH 121 360 3 d) vd 340 360 := fun b a va c vc d vd => JZ (fun j i hj => J1 (by omega) (by omega) (by omega)) (fun j i hj => Km (by omega) hj)
  have r1 : ∀ (s : Nat → Nat), ren s x = x := fun s => Qfw s x hx
  have r2 : ∀ (s : Nat → Nat), ren s y = y := fun s => Qfw s y hy
  have r3 : ∀ (s : Nat → Nat), K4 s args = args := fun s => ZT s args ha
  simp only [r3, ren, K4, r1, r2, J5, XO, QcE, hs _ _ (show (131 : Nat) < 1000 by omega) (show (641 : Nat) < 1000 by omega), hs _ _ (show (149 : Nat) < 1000 by omega) (show (642 : Nat) < 1000 by omega), hs _ _ (show (154 : Nat) < 1000 by omega) (show (643 : Nat) < 1000 by omega), hO, hP, K4, ren, renO, swp, JH, reduceIte, Nat.reduceEqDiff, Nat.reduceLeDiff] at h
  exact h.post_eq (funext fun q => ZE (QcJ va vc B) q)
theorem QtM {fn : FuncId} {args : List AV} {va vc v : Nat} {B : Book} {l : List VW} {n : Nat} {y : AV} (hy : noref y = true) (ha : Jy args = true) (H : Contract P fn args [] (.tup [bkV B 131 va 149 vc 154 0, .own 120 v 0 n, y]) (bkM B 131 va 149 vc 154 0 110 121 ++ Jk 120 v 150 0 l)) : Contract P fn args [] (.tup [bkV B 641 va 642 vc 643 0, .own 741 v 0 n, y]) (GB va vc B ++ RB v l).reverse := by
  have h := ((((H.ren (swp 131 641) (Q0 _ _)).ren (swp 149 642) (Q0 _ _)).ren (swp 154 643) (Q0 _ _)).ren (JH 110 340 11) (JR (by omega) (by omega) (by omega))).ren (JH 121 360 3) (JR (by omega) (by omega) (by omega))
  have hs : ∀ q q' : Nat, q < 1000 → q' < 1000 → ∀ b : Book, ∀ a va c vc d vd, J5 (swp q q') (bkM b a va c vc d vd 110 121) = bkM b (swp q q' a) va (swp q q' c) vc (swp q q' d) vd 110 121 := fun q q' h1 h2 b a va c vc d vd => JZ (fun j i hj => JD h1 h2) (fun j i hj => JD h1 h2)
  have hO : ∀ b : Book, ∀ a va c vc d vd, J5 (JH 110 340 11) (bkM b a va c vc d vd 110 121) = bkM b (JH 110 340 11 a) va (JH 110 340 11 c) vc (JH 110 340 11 d) vd 340 121 := fun b a va c vc d vd => JZ (fun j i hj => Km (by omega) hj) (fun j i hj => J1 (by omega) (by omega) (by omega))
  have hP : ∀ b : Book, ∀ a va c vc d vd, J5 (JH 121 360 3) (bkM b a va c vc d vd 340 121) = bkM b (JH 121 360 3 a) va (JH 121 360 3 c) vc (JH 121 360 3 d) vd 340 360 := fun b a va c vc d vd => JZ (fun j i hj => J1 (by omega) (by omega) (by omega)) (fun j i hj => Km (by omega) hj)
  have h := (h.ren (swp 120 741) (Q0 _ _)).ren (JH 150 170 8) (JR (by omega) (by omega) (by omega))
  have r2 : ∀ (s : Nat → Nat), ren s y = y := fun s => Qfw s y hy
  have r3 : ∀ (s : Nat → Nat), K4 s args = args := fun s => ZT s args ha
  have w1 : ∀ q q' : Nat, q < 1000 → q' < 1000 → ∀ o, J5 (swp q q') (Jk o v 150 0 l) = Jk (swp q q' o) v 150 0 l := fun q q' h1 h2 o => Yr (i1 := 0) Jb JM (fun j i hj => JD h1 h2)
  have w2 : ∀ o, J5 (JH 110 340 11) (Jk o v 150 0 l) = Jk (JH 110 340 11 o) v 150 0 l := fun o => Yr (i1 := 0) Jb JM (fun j i hj => J1 (by omega) (by omega) (by omega))
  have w3 : ∀ o, J5 (JH 121 360 3) (Jk o v 150 0 l) = Jk (JH 121 360 3 o) v 150 0 l := fun o => Yr (i1 := 0) Jb JM (fun j i hj => J1 (by omega) (by omega) (by omega))
  have w4 : ∀ o, J5 (JH 150 170 8) (Jk o v 150 0 l) = Jk (JH 150 170 8 o) v 170 0 l := fun o => Yr (i1 := 0) Jb JM (fun j i hj => Km (by omega) hj)
  have w5 : ∀ b : Book, ∀ a va c vc d vd, J5 (swp 120 741) (bkM b a va c vc d vd 340 360) = bkM b (swp 120 741 a) va (swp 120 741 c) vc (swp 120 741 d) vd 340 360 := fun b a va c vc d vd => JZ (fun j i hj => JD (by omega) (by omega)) (fun j i hj => JD (by omega) (by omega))
  have w6 : ∀ b : Book, ∀ a va c vc d vd, J5 (JH 150 170 8) (bkM b a va c vc d vd 340 360) = bkM b (JH 150 170 8 a) va (JH 150 170 8 c) vc (JH 150 170 8 d) vd 340 360 := fun b a va c vc d vd => JZ (fun j i hj => J1 (by omega) (by omega) (by omega)) (fun j i hj => J1 (by omega) (by omega) (by omega))
  simp only [r3, r2, XO, w1 _ _ (show (131 : Nat) < 1000 by omega) (show (641 : Nat) < 1000 by omega), w1 _ _ (show (149 : Nat) < 1000 by omega) (show (642 : Nat) < 1000 by omega), w1 _ _ (show (154 : Nat) < 1000 by omega) (show (643 : Nat) < 1000 by omega), w1 _ _ (show (120 : Nat) < 1000 by omega) (show (741 : Nat) < 1000 by omega), w2, w3, w4, w5, w6, J5, XO, QcE, hs _ _ (show (131 : Nat) < 1000 by omega) (show (641 : Nat) < 1000 by omega), hs _ _ (show (149 : Nat) < 1000 by omega) (show (642 : Nat) < 1000 by omega), hs _ _ (show (154 : Nat) < 1000 by omega) (show (643 : Nat) < 1000 by omega), hO, hP, K4, ren, renO, swp, JH, reduceIte, Nat.reduceEqDiff, Nat.reduceLeDiff] at h
  exact h.post_eq (funext fun q => ZE (QdM (QcJ va vc B) (Kt (by omega) (by omega)) QtW) q)
theorem Qjw {M K : Nat → Option AObj} {b : Book} {a va c vc d vd kO kP : Nat} {k : Int} (hM : ∀ p ∈ bkM (mb k b) a va c vc d vd kO kP, M p.1 = some p.2) (hK : ∀ p ∈ bkM (mb k b) a va c vc d vd kO kP, K p.1 = some p.2) : Vo M K (bkV b a va c vc d vd) = some (.agg ((mb k b).row 99)) := by rw [← Qtz (k := k)]; exact GP hM hK
theorem QpH {U : List (Nat × AObj)} {q : Nat} (h : W4 U q) : ((U.reverse.map fun x : Nat × AObj => x.1).all fun x => !x == q) = true := by
  rw [List.all_eq_true]
  intro o ho
  obtain ⟨p, hp, rfl⟩ := List.mem_map.1 ho
  have := h p (List.mem_reverse.1 hp)
  simpa using this
theorem QtN {U V : List (Nat × AObj)} {q : Nat} (h : W4 U q) (k : W4 V q) : (((V.reverse ++ U.reverse).map fun x : Nat × AObj => x.1).all fun x => !x == q) = true := by
  rw [List.map_append, List.all_append, QpH h, QpH k]; rfl
theorem QkG {A B : List (Nat × AObj)} {M : Nat → Option AObj} (h : ∀ p ∈ A, M p.1 = none) (k : ∀ p ∈ B, M p.1 = none) : ∀ p ∈ A ++ B, M p.1 = none := fun p hp => (List.mem_append.1 hp).elim (h p) (k p)
theorem QpI {B : Book} {a va c vc d vd kO kP o v kW n : Nat} {l : List VW} {y : AV} (hy : noref y = true) : Qc (dom (bkM B a va c vc d vd kO kP ++ Jk o v kW 0 l).reverse) (.tup [bkV B a va c vc d vd, .own o v 0 n, y]) = true := by
  have r1 : Qc (dom (bkM B a va c vc d vd kO kP ++ Jk o v kW 0 l).reverse) (bkV B a va c vc d vd) = true := Vm (kO := kO) (kP := kP) fun p h => JI (List.mem_reverse.2 (List.mem_append_left _ h))
  have r2 : (dom (bkM B a va c vc d vd kO kP ++ Jk o v kW 0 l).reverse).contains o = true := List.contains_iff_mem.2 (by
    have := JI (List.mem_reverse.2 (List.mem_append_right (bkM B a va c vc d vd kO kP) (List.mem_cons_self (a := (o, AObj.arr (1000000 + 73) v 8 (Ja VW.rowO kW 0 l))) (l := Q2 Ko VW.rowO kW 0 l))))
    exact this)
  simp only [Qc, Qb, r1, r2, ZU _ _ hy, Bool.and_self]
theorem QpJ {B : Book} {a va c vc d vd kO kP o v kW : Nat} {l : List VW} : ((bkM B a va c vc d vd kO kP ++ Jk o v kW 0 l).reverse.all fun p => Qd (dom (bkM B a va c vc d vd kO kP ++ Jk o v kW 0 l).reverse) p.2) = true := by
  rw [List.all_reverse, List.all_append, Bool.and_eq_true]
  exact ⟨Vl fun p h => JI (List.mem_reverse.2 (List.mem_append_left _ h)), YW Jb JM fun p h => JI (List.mem_reverse.2 (List.mem_append_right _ (List.mem_cons_of_mem _ h)))⟩
theorem Qq9 {B : Book} {a va c vc d vd kO kP o v kW : Nat} {l : List VW} : ((bkM B a va c vc d vd kO kP ++ Jk o v kW 0 l).reverse.all fun p => Qb4 p.2) = true := by
  rw [List.all_reverse, List.all_append, Bool.and_eq_true]; exact ⟨Qmq, Qi7 Jb⟩
theorem QtO {B : Book} {a va c vc d vd kO kP o v kW : Nat} {l : List VW} : ∀ p ∈ (bkM B a va c vc d vd kO kP ++ Jk o v kW 0 l).reverse, GF p.2 := fun p hp => (List.mem_append.1 (List.mem_reverse.1 hp)).elim (Qpr p) (Qnl Jb p)
theorem QpK {B : Book} {a va c vc d vd kO kP : Nat} {x y : AV} (hx : noref x = true) (hy : noref y = true) : Qc (dom (bkM B a va c vc d vd kO kP).reverse) (.tup [bkV B a va c vc d vd, x, y]) = true := by
  simp only [Qc, Qb, QbT (b := B) (kO := kO) (kP := kP), ZU _ _ hx, ZU _ _ hy, Bool.and_self]
theorem Qra {B : Book} {a va c vc d vd kO kP : Nat} : ((bkM B a va c vc d vd kO kP).reverse.all fun p => Qb4 p.2) = true := by rw [List.all_reverse]; exact Qmq
theorem QtP {B : Book} {a va c vc d vd kO kP : Nat} : ∀ p ∈ (bkM B a va c vc d vd kO kP).reverse, GF p.2 := fun p hp => Qpr p (List.mem_reverse.1 hp)
theorem QlJ (t : Nat) (k : Int) : Contract P 53 [.sl t 11 [], .int .i64 k] [] (.int .i64 k) [] := by
  refine Qh ((Env.nil P).add 52 Qx J8) hm Z8 (nlb rfl) rfl ?_; unfold Gn; simp (maxSteps := 2000000) only [bitvec_to_nat, reduceIte, Nat.reduceEqDiff, Nat.reduceAdd, Nat.reduceLeDiff, reduceCtorEq, Nat.reduceBEq, Nat.reduceLT, Nat.reduceMod, fmc, Qx, List.map_nil, List.length_nil]
  refine QH (fun _ : Nat => [(5, .int .i64 0)]) (fun _ => []) (fun _ => True) (fun i => i) 0 (by simp only [Ju, Jv, Jw, Jx, Qi, Qj, Qk, Ql, reduceIte, Nat.reduceEqDiff]; exact ⟨by repeat' (first | exact trivial | refine ⟨.inr rfl, ?_⟩), by repeat' (first | exact trivial | refine ⟨rfl, ?_⟩), by first | rfl | simp [closedB, Qc, Qb, Qd, dom, Qa, *], by first | rfl | simp [keepB, dom]⟩) trivial ?_
  intro i _ NX hN
  unfold KL; simp (maxSteps := 2000000) only [bitvec_to_nat, reduceIte, Nat.reduceEqDiff, Nat.reduceAdd, Nat.reduceLeDiff, reduceCtorEq, Nat.reduceBEq, Nat.reduceLT, Nat.reduceMod, fmc, Qx, List.map_nil, List.length_nil]
  first
    | exact fun h => absurd h (by omega)
    | exact ⟨fun h => absurd h (by omega), fun _ => by first | trivial | rfl⟩
theorem QkH (t : Nat) (k : Int) : Contract P 54 [.sl t 3 [], .int .i64 k] [] (.int .i64 k) [] := by
  refine Qh ((Env.nil P).add 52 Qx J8) hm Zq (nlb rfl) rfl ?_; unfold Y2; simp (maxSteps := 2000000) only [bitvec_to_nat, reduceIte, Nat.reduceEqDiff, Nat.reduceAdd, Nat.reduceLeDiff, reduceCtorEq, Nat.reduceBEq, Nat.reduceLT, Nat.reduceMod, fmc, Qx, List.map_nil, List.length_nil]
  refine QH (fun _ : Nat => [(5, .int .i64 0)]) (fun _ => []) (fun _ => True) (fun i => i) 0 (by simp only [Ju, Jv, Jw, Jx, Qi, Qj, Qk, Ql, reduceIte, Nat.reduceEqDiff]; exact ⟨by repeat' (first | exact trivial | refine ⟨.inr rfl, ?_⟩), by repeat' (first | exact trivial | refine ⟨rfl, ?_⟩), by first | rfl | simp [closedB, Qc, Qb, Qd, dom, Qa, *], by first | rfl | simp [keepB, dom]⟩) trivial ?_
  intro i _ NX hN
  unfold KE; simp (maxSteps := 2000000) only [bitvec_to_nat, reduceIte, Nat.reduceEqDiff, Nat.reduceAdd, Nat.reduceLeDiff, reduceCtorEq, Nat.reduceBEq, Nat.reduceLT, Nat.reduceMod, fmc, Qx, List.map_nil, List.length_nil]
  first
    | exact fun h => absurd h (by omega)
    | exact ⟨fun h => absurd h (by omega), fun _ => by first | trivial | rfl⟩
theorem QkI (t : Nat) (k : Int) : Contract P 55 [.sl t 2 [], .int .i64 k] [] (.int .i64 k) [] := by
  refine Qh ((Env.nil P).add 52 Qx J8) hm Zr (nlb rfl) rfl ?_; unfold Y3; simp (maxSteps := 2000000) only [bitvec_to_nat, reduceIte, Nat.reduceEqDiff, Nat.reduceAdd, Nat.reduceLeDiff, reduceCtorEq, Nat.reduceBEq, Nat.reduceLT, Nat.reduceMod, fmc, Qx, List.map_nil, List.length_nil]
  refine QH (fun _ : Nat => [(5, .int .i64 0)]) (fun _ => []) (fun _ => True) (fun i => i) 0 (by simp only [Ju, Jv, Jw, Jx, Qi, Qj, Qk, Ql, reduceIte, Nat.reduceEqDiff]; exact ⟨by repeat' (first | exact trivial | refine ⟨.inr rfl, ?_⟩), by repeat' (first | exact trivial | refine ⟨rfl, ?_⟩), by first | rfl | simp [closedB, Qc, Qb, Qd, dom, Qa, *], by first | rfl | simp [keepB, dom]⟩) trivial ?_
  intro i _ NX hN
  unfold KF; simp (maxSteps := 2000000) only [bitvec_to_nat, reduceIte, Nat.reduceEqDiff, Nat.reduceAdd, Nat.reduceLeDiff, reduceCtorEq, Nat.reduceBEq, Nat.reduceLT, Nat.reduceMod, fmc, Qx, List.map_nil, List.length_nil]
  first
    | exact fun h => absurd h (by omega)
    | exact ⟨fun h => absurd h (by omega), fun _ => by first | trivial | rfl⟩
theorem QlK (k : Int) : Contract P 17 [.agg [.sl 98 11 [], .sl 98 3 [], .sl 98 2 []], .int .i64 k] [] (.int .i64 k) [] := by
  have h1 := QlJ 98 k
  have h2 := QkH 98 k
  have h3 := QkI 98 k
  refine Qh (Env.nil P) hm ZZ (nlb rfl) rfl ?_; unfold Gl; simp (maxSteps := 2000000) only [bitvec_to_nat, reduceIte, Nat.reduceEqDiff, Nat.reduceAdd, Nat.reduceLeDiff, reduceCtorEq, Nat.reduceBEq, Nat.reduceLT, Nat.reduceMod, fmc, List.map_nil, List.length_nil]
  refine ⟨_, _, .inr (.inl ⟨rfl, _, rfl, h1, rfl, trivial⟩), ?_⟩
  simp (maxSteps := 2000000) only [bitvec_to_nat, reduceIte, Nat.reduceEqDiff, Nat.reduceAdd, Nat.reduceLeDiff, reduceCtorEq, Nat.reduceBEq, Nat.reduceLT, Nat.reduceMod, fmc, List.map_nil, List.length_nil]
  refine ⟨_, _, .inr (.inl ⟨rfl, _, rfl, h2, rfl, trivial⟩), ?_⟩
  simp (maxSteps := 2000000) only [bitvec_to_nat, reduceIte, Nat.reduceEqDiff, Nat.reduceAdd, Nat.reduceLeDiff, reduceCtorEq, Nat.reduceBEq, Nat.reduceLT, Nat.reduceMod, fmc, List.map_nil, List.length_nil]
  refine ⟨_, _, .inr (.inl ⟨rfl, _, rfl, h3, rfl, trivial⟩), ?_⟩
  simp (maxSteps := 2000000) only [bitvec_to_nat, reduceIte, Nat.reduceEqDiff, Nat.reduceAdd, Nat.reduceLeDiff, reduceCtorEq, Nat.reduceBEq, Nat.reduceLT, Nat.reduceMod, fmc, List.map_nil, List.length_nil]
theorem QpL : Contract P 15 [.agg [.sl 98 11 [], .sl 98 3 [], .sl 98 2 []], .agg [.sl 0 11 [], .sl 0 3 [], .sl 0 2 []]] [] (.bool true) [] := by
  refine Qh ((((Env.nil P).add 49 QbR Qmp).add 50 WX QkB).add 51 WW QkA) hm Wq (nlb rfl) rfl ?_; unfold Xy; simp (maxSteps := 2000000) only [bitvec_to_nat, reduceIte, Nat.reduceEqDiff, Nat.reduceAdd, Nat.reduceLeDiff, reduceCtorEq, Nat.reduceBEq, Nat.reduceLT, Nat.reduceMod, fmc, QbR, WX, WW, int_toBitVec_meta, method_specs_simp, List.map_nil, List.length_nil]
theorem QlL (k : Int) (hk : 0 ≤ k ∧ k ≤ 1099511627776) : Contract P 22 [.agg [.sl 98 11 [], .sl 98 3 [], .sl 98 2 []], .int .i64 k] [] (.int .i64 k) [] := by
  have h1 : Contract P 62 [.sl 98 11 [], .int .i64 k] [] (.int .i64 k) [] := by simpa [KR, QaG] using QiO 98 0 k [] (by simp) (by simp) (by omega)
  have h2 : Contract P 63 [.sl 98 3 [], .int .i64 k] [] (.int .i64 k) [] := by simpa [J2, X9] using QhE 98 0 k [] (by simp) (by simp) (by omega)
  have h3 : Contract P 64 [.sl 98 2 [], .int .i64 k] [] (.int .i64 k) [] := by simpa [Qac] using QhC 98 k 0 (by omega) (by omega)
  refine Qh (Env.nil P) hm Z0 (nlb rfl) rfl ?_; unfold Gm; simp (maxSteps := 2000000) only [bitvec_to_nat, reduceIte, Nat.reduceEqDiff, Nat.reduceAdd, Nat.reduceLeDiff, reduceCtorEq, Nat.reduceBEq, Nat.reduceLT, Nat.reduceMod, fmc, List.map_nil, List.length_nil, K3, Nat.zero_add, Int.add_zero]
  refine ⟨_, _, .inr (.inl ⟨rfl, _, rfl, h1, rfl, trivial⟩), ?_⟩
  simp (maxSteps := 2000000) only [bitvec_to_nat, reduceIte, Nat.reduceEqDiff, Nat.reduceAdd, Nat.reduceLeDiff, reduceCtorEq, Nat.reduceBEq, Nat.reduceLT, Nat.reduceMod, fmc, List.map_nil, List.length_nil, K3, Nat.zero_add, Int.add_zero]
  refine ⟨fun h => by omega, fun _ => ⟨_, _, .inr (.inl ⟨rfl, _, rfl, h2, rfl, trivial⟩), ?_⟩⟩
  simp (maxSteps := 2000000) only [bitvec_to_nat, reduceIte, Nat.reduceEqDiff, Nat.reduceAdd, Nat.reduceLeDiff, reduceCtorEq, Nat.reduceBEq, Nat.reduceLT, Nat.reduceMod, fmc, List.map_nil, List.length_nil, K3, Nat.zero_add, Int.add_zero]
  refine ⟨fun h => by omega, fun _ => ⟨_, _, .inr (.inl ⟨rfl, _, rfl, h3, rfl, trivial⟩), ?_⟩⟩
  simp (maxSteps := 2000000) only [bitvec_to_nat, reduceIte, Nat.reduceEqDiff, Nat.reduceAdd, Nat.reduceLeDiff, reduceCtorEq, Nat.reduceBEq, Nat.reduceLT, Nat.reduceMod, fmc, List.map_nil, List.length_nil, K3, Nat.zero_add, Int.add_zero]
  try omega
  all_goals trace_state
def bKG := And.intro @JP (And.intro @QZ (And.intro @JQ (And.intro @J4 (And.intro @JX (And.intro @X4 (And.intro @GJ (And.intro @Qcs (And.intro @QbG (And.intro @QaW (And.intro @ZF (And.intro @Wj (And.intro @X5 (And.intro @Ki (And.intro @JO (And.intro @Ka (And.intro @Q8 (And.intro @Kt (And.intro @UK (And.intro @YI (And.intro @QcJ (And.intro @Qt8 (And.intro @QtB (And.intro @Qui (And.intro @QtK (And.intro @Y8 (And.intro @K0 (And.intro @QtH (And.intro @QsO (And.intro @QtI (And.intro @QsP (And.intro @QrJ (And.intro @Qs2 (And.intro @QtA (And.intro @QtT (And.intro @QuC (And.intro @Qs3 (And.intro @QtJ (And.intro @QtV (And.intro @QuD (And.intro @QuE (And.intro @Qup (And.intro @QtW (And.intro @Quu (And.intro @QuF (And.intro @Quh (And.intro @QtU (And.intro @Quv (And.intro @QuG (And.intro @QuH (And.intro @Quw (And.intro @QcV (And.intro @QbE (And.intro @Yy (And.intro @Qov (And.intro @QbF (And.intro @List.reverse_append.{0} (And.intro @Qt9 (And.intro @QtC (And.intro @Qux (And.intro @Qua (And.intro @Quy (And.intro @Qub (And.intro @Quz (And.intro @Quc (And.intro @QuA (And.intro @Quf (And.intro @QuB (And.intro @Qug (And.intro @List.cons_append.{0} (And.intro @List.nil_append.{0} @List.append_assoc.{0}))))))))))))))))))))))))))))))))))))))))))))))))))))))))))))))))))))))
end
end Go.Ve

namespace Go.Ve
noncomputable section
open Go.Proofs
set_option maxRecDepth 100000
open Go.ChangeShapes Go.WideShapes
def Own.rowT (t1 t2 t3 : Nat) (o : Own) : List AV := [.str o.fl, .int .i64 o.st, .int .i64 o.tn, .str o.dst, .int .i64 o.la, .int .i64 o.nr, .sl t1 6 (o.tu.map Box6.row), .int .i64 o.wi, .sl t2 6 (o.nx.map Box6.row), .sl t3 1 (o.gr.map JJ), .bool o.sent]
set_option maxHeartbeats 4000000 in
theorem QsQ (t t1 t2 t3 : Nat) (zs : List Zone) (me : ByteArray) (o : Own) (ho : o.small) (hz : Q5 zs) (hzl : zs.length ≤ 1048576) : Contract P 89 [.sl t 5 (zs.map Zone.row), .str me, .agg (o.rowT t1 t2 t3)] [] (.own 107 (Yp zs me o zs.length).length 0 (Yp zs me o zs.length).length) (Jk 107 (Yp zs me o zs.length).length 150 0 (Yp zs me o zs.length)) := by
  have tkB : True := trivial
  have tkW : True := trivial
  have hs1 : True := trivial
  have hs2 : True := trivial
  have hs3 : True := trivial
  have bA : True := trivial
  unfold Own.small at ho
  have cl : ∀ (i : Nat) (l : List VW), closedB ⟨[(1, .str me), (5, .ptr 105 0), (7, .own 107 l.length 0 l.length), (11, .sl t 5 (zs.map Zone.row)), (12, .int .i64 (zs.length : Nat)), (13, .int .i64 (i : Nat))], (105, .box (o.rowT t1 t2 t3)) :: Jk 107 l.length 150 0 l⟩ = true := fun i l => by
    simp only [closedB, List.all_cons, Bool.and_eq_true]
    refine ⟨⟨rfl, by simp [Qc, dom], by simp [Qc, dom, OO], rfl, rfl, rfl, rfl⟩, by simp [Qd, Own.rowT, Qb, Qc], ?_⟩
    exact YW Jb JM fun p hp => List.mem_cons_of_mem _ (JI (List.mem_cons_of_mem _ hp))
  simp only [Own.rowT] at cl ⊢
  refine Qh ((Env.nil P).add 116 Qv J6) hm QkC (nlb rfl) rfl ?_; unfold QfF; simp (maxSteps := 2000000) only [bitvec_to_nat, reduceIte, Nat.reduceEqDiff, Nat.reduceAdd, Nat.reduceLeDiff, reduceCtorEq, Nat.reduceBEq, Nat.reduceLT, Nat.reduceMod, fmc, Qf, Qm, Qe, QE, keepB, Qn, QJ, Qv, int_toBitVec_meta, method_specs_simp, Nat.sub_zero, List.append_nil, Q6, QO, Q4, Yo, tkB, hs1, hs2, hs3, tkW, gB, gB0, sB, sB0, bA, QN, List.append_assoc, List.cons_append, List.nil_append]
  refine QfG (fun i : Nat => ⟨[(1, .str me), (5, .ptr 105 0), (7, .own 107 (Yp zs me o i).length 0 (Yp zs me o i).length), (11, .sl t 5 (zs.map Zone.row)), (12, .int .i64 (zs.length : Nat)), (13, .int .i64 i)], (105, .box (o.rowT t1 t2 t3)) :: Jk 107 (Yp zs me o i).length 150 0 (Yp zs me o i)⟩) (fun i => i ≤ zs.length) (fun i => zs.length - i) 0 ?_ (Nat.zero_le _) ?_
  · exact ⟨by repeat' (first | exact trivial | refine ⟨.inr rfl, ?_⟩), ⟨rfl, rfl, trivial⟩, cl 0 [], by simp [keepB, dom]⟩
  intro i hi NX hN
  have hle := Qjp (zs := zs) (me := me) (o := o) i
  have bA : QpN (Q2 Ko VW.rowO 150 0 (Yp zs me o i)) := Wm
  have tkW : (Ja VW.rowO 150 0 (Yp zs me o i)).take (Yp zs me o i).length = Ja VW.rowO 150 0 (Yp zs me o i) := QiA
  by_cases h : i < zs.length
  · have hpl := Qdn (zs.getD i default) o.nx
    have hP := (Qpu (zs.getD i default) t2 o.nx (by omega) (Qtx hz h)).ren (swp 105 (fam 157 (Yp zs me o i).length)) (Q0 _ _)
    simp only [K4, ren, J5, renO, swp, reduceIte, Nat.reduceLT, Zone.row] at hP
    have hnw : getM (Q2 Ko VW.rowO 150 0 (Yp zs me o i)) (fam 157 (Yp zs me o i).length) = none := Qkh Jb (by omega) (by omega) (by omega)
    have hs1 : ∀ (B : List (Nat × AObj)) (x : AObj), Kj (Q2 Ko VW.rowO 150 0 (Yp zs me o i) ++ B) (fam 157 (Yp zs me o i).length) x = Q2 Ko VW.rowO 150 0 (Yp zs me o i) ++ Kj B (fam 157 (Yp zs me o i).length) x := fun B x => Gc hnw
    have hs3 : ∀ (x : AObj), Kj (Q2 Ko VW.rowO 150 0 (Yp zs me o i)) (fam 157 (Yp zs me o i).length) x = Q2 Ko VW.rowO 150 0 (Yp zs me o i) ++ [(fam 157 (Yp zs me o i).length, x)] := fun x => ZD hnw
    have hs2 : ∀ (B : List (Nat × AObj)), getM (Q2 Ko VW.rowO 150 0 (Yp zs me o i) ++ B) (fam 157 (Yp zs me o i).length) = getM B (fam 157 (Yp zs me o i).length) := fun B => QL hnw
    simp only [OO, Own.rowT]
    unfold Vt; simp (maxSteps := 2000000) only [bitvec_to_nat, reduceIte, Nat.reduceEqDiff, Nat.reduceAdd, Nat.reduceLeDiff, reduceCtorEq, Nat.reduceBEq, Nat.reduceLT, Nat.reduceMod, fmc, Qf, Qm, Qe, QE, keepB, Qn, QJ, Qv, int_toBitVec_meta, method_specs_simp, Nat.sub_zero, List.append_nil, Q6, QO, Q4, Yo, tkB, hs1, hs2, hs3, tkW, gB, gB0, sB, sB0, bA, QN, List.append_assoc, List.cons_append, List.nil_append]
    refine ⟨fun _ => ?_, fun h' => absurd (by omega) h'⟩
    repeat (refine ⟨by first | omega | rfl, ?_⟩)
    refine ⟨_, _, .inr (.inr (.inl ⟨_, rfl, hP, by simp [getM, JW, Q6, QO, hnw], by simp [Qc, Qb, dom], rfl, by simp [No99], by simp [GF, Jj]⟩)), ?_⟩
    simp (maxSteps := 2000000) only [bitvec_to_nat, reduceIte, Nat.reduceEqDiff, Nat.reduceAdd, Nat.reduceLeDiff, reduceCtorEq, Nat.reduceBEq, Nat.reduceLT, Nat.reduceMod, fmc, Qf, Qm, Qe, QE, keepB, Qn, QJ, Qv, int_toBitVec_meta, method_specs_simp, Nat.sub_zero, List.append_nil, Q6, QO, Q4, Yo, tkB, hs1, hs2, hs3, tkW, gB, gB0, sB, sB0, bA, QN, List.append_assoc, List.cons_append, List.nil_append]
    have wmE : ∀ B : List (Nat × AObj), wkM ((105, .box (o.rowT t1 t2 t3)) :: (107, .arr 1000073 (Yp zs me o i).length 8 (Ja VW.rowO 150 0 (Yp zs me o i))) :: (Q2 Ko VW.rowO 150 0 (Yp zs me o i) ++ B)) ((105, .box (o.rowT t1 t2 t3)) :: Jk 107 (Yp zs me o i).length 150 0 (Yp zs me o i)) := fun B => ⟨rfl, rfl, Jl (Qw (QbM Jb (by omega) (by omega)) (Qw (QbM Jb (by omega) (by omega)) (QiE Jb (by omega))))⟩
    refine ⟨fun h1 => ⟨by omega, fun h2 => ⟨⟨by omega, by omega⟩, ?_⟩, fun h2 => ⟨by omega, ⟨by omega, by omega⟩, ?_⟩⟩, fun h1 => ⟨⟨by omega, by omega⟩, ?_⟩⟩
    · have hq : Yp zs me o (i + 1) = Yp zs me o i := if_neg (fun h3 => h3.2 h2)
      refine hN (i + 1) _ ⟨by simp only [hq]; repeat' (first | exact trivial | refine ⟨.inr rfl, ?_⟩), by simp only [hq]; exact wmE _, cl (i + 1) _, J3 (by repeat' (first | exact Yh | refine Kq (Ji Jb (by omega) (by omega)) ?_ | refine Q3 (by first | omega | (rw [ZV (by omega)]; omega)) ?_ | exact Ji Jb (by omega) (by omega)))⟩ h (by omega)
    · have hq : Yp zs me o (i + 1) = Yp zs me o i ++ [Qs1 me o (zs.getD i default)] := if_pos ⟨by omega, h2⟩
      have hl : (Yp zs me o (i + 1)).length = (Yp zs me o i).length + 1 := by rw [hq]; simp
      refine hN (i + 1) _ ⟨by simp only [hl]; repeat' (first | exact trivial | refine ⟨.inr rfl, ?_⟩), ⟨rfl, ?_, ?_⟩, cl (i + 1) _, J3 (by repeat' (first | exact Yh | refine Kq (Ji Jb (by omega) (by omega)) ?_ | refine Q3 (by first | omega | (rw [ZV (by omega)]; omega)) ?_ | exact Ji Jb (by omega) (by omega)))⟩ h (by omega)
      · simp only [getM, Nat.reduceEqDiff, reduceIte, hl]; rw [hq, QbH, Nat.zero_add]; simp [UL, QeG, VW.rowO, Qs1]
      · rw [hq, Qiz, Nat.zero_add]
        refine Qi4.2 ⟨Jl (Qw (QbM Jb (by omega) (by omega)) (Qw (QbM Jb (by omega) (by omega)) (QiE Jb (by omega)))), ?_⟩
        exact ⟨by simp only [getM, Q6, QO, Nat.reduceLT, if_false]; rw [hs2]; simp [getM, Q6, Qs1, Ko], trivial⟩
    · have hq : Yp zs me o (i + 1) = Yp zs me o i := if_neg (fun h3 => h1 (by have := h3.1; omega))
      refine hN (i + 1) _ ⟨by simp only [hq]; repeat' (first | exact trivial | refine ⟨.inr rfl, ?_⟩), by simp only [hq]; exact wmE _, cl (i + 1) _, J3 (by repeat' (first | exact Yh | refine Kq (Ji Jb (by omega) (by omega)) ?_ | refine Q3 (by first | omega | (rw [ZV (by omega)]; omega)) ?_ | exact Ji Jb (by omega) (by omega)))⟩ h (by omega)
  · have e : i = zs.length := by omega
    subst e
    simp only [OO, Own.rowT]
    unfold Vt; simp (maxSteps := 2000000) only [bitvec_to_nat, reduceIte, Nat.reduceEqDiff, Nat.reduceAdd, Nat.reduceLeDiff, reduceCtorEq, Nat.reduceBEq, Nat.reduceLT, Nat.reduceMod, fmc, Qf, Qm, Qe, QE, keepB, Qn, QJ, Qv, int_toBitVec_meta, method_specs_simp, Nat.sub_zero, List.append_nil, Q6, QO, Q4, Yo, tkB, hs1, hs2, hs3, tkW, gB, gB0, sB, sB0, bA, QN, List.append_assoc, List.cons_append, List.nil_append]
    refine ⟨fun h' => absurd h' (by omega), fun _ => ⟨Jl fun p hp => Qw (o := 105) (Q8 (by omega) (by omega) (by omega)) (Vq (o := 107) (e := 73) (v := (Yp zs me o zs.length).length) (sz := 8) Jb (by omega) (by omega)) p (List.mem_cons_of_mem _ hp), Y0 (o := 107) (v := (Yp zs me o zs.length).length) (sz := 8) (e := 73) Jb JM, by simp [Qc], ?_⟩⟩
    simp only [Bool.true_or, Bool.true_and]
    exact QgX (Ji Jb (by omega) (by omega))
end
end Go.Ve

namespace Go.Ve
open Go.Proofs
set_option maxRecDepth 100000
/-- impl.HandBook).wish: function 68 -/
def YJ : SFun := { n := 85,res := [.t 10,.t 11],body := (jq [jn 10 (.mv (.c (.sl 98 8 []))) [10],jI 11 0 [11]] [0,1,2,3,4] (.seq (jq [jm 14 1 [],jm 15 4 [],jn 16 (.call 100 [.v 14,.v 15]) [14,15],jn 17 (.not (.v 16)) [16]] [0,1,2,3,4,17] (.cond (.v 17) (jq [jn 10 (.mv (.c (.sl 98 8 []))) [],jI 11 2 []] [10,11] .ret) .skip)) (jq [jm 18 0 [],jn 19 (.nilck (.v 18)) [18],jL 20 3 19 [19],jm 21 3 [3],jn 22 (.call 96 [.v 20,.v 21]) [20,21],jm 12 22 [22]] [0,1,2,4,12] (.seq (jq [jm 23 12 [],jc 24 .lss 23 0 [23],jm 25 24 [24],jM 26 25 0 [],jh 27 25 (.nilck (.v 26)) [26],jh 28 25 (.faddr 0 (.v 27)) [27],jh 29 25 (.load1 (.v 28)) [28],jM 30 25 12 [],jh 31 25 (.iaddr 11 (.v 29) (.v 30)) [29,30],jh 32 25 (.faddr 1 (.v 31)) [31],jh 33 25 (.load1 (.v 32)) [32],jh 34 25 (.bin .neq (.v 33) (ci 1)) [33],jp 35 25 34 [25,34]] [0,1,2,4,12,35] (.cond (.v 35) (jq [jn 10 (.mv (.c (.sl 98 8 []))) [],jI 11 5 []] [10,11] .ret) .skip)) (jq [jm 36 0 [0],jn 37 (.nilck (.v 36)) [36],jf 38 0 37 [37],jl 39 38 [38],jm 40 12 [12],ja 41 11 39 40 [39,40],jm 13 41 [41]] [1,2,4,13] (.seq (.block 0 (jq [jm 43 13 [],jn 44 (.nilck (.v 43)) [43],jf 45 7 44 [44],jl 46 45 [45],jc 47 .gtr 46 0 [46],jm 42 47 [47]] [1,2,4,13,42] (.cond (.v 42) (jq [jn 10 (.mv (.c (.sl 98 8 []))) [],jI 11 6 []] [10,11] .ret) (jq [jm 49 13 [],jn 50 (.nilck (.v 49)) [49],jf 51 4 50 [50],jl 52 51 [51],jc 53 .geq 52 1000000 [52],jm 48 53 [53]] [1,2,4,13,48] (.cond (.v 48) (jq [jn 10 (.mv (.c (.sl 98 8 []))) [],jI 11 4 []] [10,11] .ret) .skip))))) (jq [jm 54 13 [],jn 55 (.nilck (.v 54)) [],jf 56 4 55 [55],jl 57 56 [56],jn 58 (.binN .add (.v 57) (ci 1)) [57],jn 59 (.nilck (.v 54)) [54],jf 60 4 59 [59],⟨none,.store 1 (.v 60) (.v 58),none,[58,60]⟩] [1,2,4,13] (.seq (.rgd [jm 61 13 [],jm 62 13 [],jm 63 13 [],jm 64 13 [],jm 65 13 [],jn 66 (.nilck (.v 65)) [],jf 67 4 66 [],jl 68 67 [],jm 69 4 [],jn 70 (.call 95 [.v 69]) [],jn 71 (.nilck (.v 61)) [],jf 72 7 71 [],⟨none,.store 1 (.v 72) (.v 68),none,[]⟩,jn 73 (.nilck (.v 62)) [],jf 74 8 73 [],⟨none,.store 1 (.v 74) (.v 70),none,[]⟩,jn 75 (.nilck (.v 63)) [],jf 76 9 75 [],⟨none,.store 1 (.v 76) (.c (.sl 98 1 [])),none,[]⟩,jn 77 (.nilck (.v 64)) [],jf 78 10 77 [],⟨none,.store 1 (.v 78) (.c (.bool false)),none,[]⟩] [1,2,13] [none,none,none,none,none,some [],some [],some [],none,some [3,2,1],none,none,none,none,none,none,none,none,none,none,none,none]) (jq [jm 79 1 [1],jm 80 2 [2],jm 81 13 [13],jn 82 (.nilck (.v 81)) [81],jL 83 11 82 [82],jn 84 (.call 89 [.v 79,.v 80,.v 83]) [79,80,83],jm 10 84 [84],jI 11 0 []] [10,11] .ret))))))))) }
theorem X3 : QY Go.Proofs.Tryz.prog 68 YJ = true := by kernel_rfl
/-- impl.HandWish: function 26 -/
def Gi : SFun := { n := 35,res := [.cN 10 3,.t 11,.t 12],body := (jq [jn 7 (.box 107 (.v 2)) [2],jn 10 (.alloc 110 [.sl 0 11 [],.sl 0 3 [],.sl 0 2 []]) [],jn 11 (.mv (.c (.sl 98 8 []))) [11],jI 12 0 [12]] [0,1,3,4,7,10] (.seq (jq [jm 16 0 [],jm 17 1 [],jL 18 3 7 [],jn 19 (.call 45 [.v 16,.v 17,.v 18]) [16,17,18],jn 20 (.not (.v 19)) [19]] [0,1,3,4,7,10,20] (.cond (.v 20) (jq [jn 21 (.build [.sl 98 11 [],.sl 98 3 [],.sl 98 2 []] []) [],⟨none,.store 3 (.v 10) (.v 21),none,[21]⟩,jn 11 (.mv (.c (.sl 98 8 []))) [],jI 12 1 []] [10,11,12] .ret) .skip)) (jq [jL 22 3 7 [7],jn 23 (.call 60 [.v 22]) [22],jn 13 (.alloc 113 [.sl 0 11 [],.sl 0 3 [],.sl 0 2 []]) [],⟨none,.store 3 (.v 13) (.v 23),none,[23]⟩] [0,1,3,4,10,13] (jq [jm 25 0 [0],jm 26 1 [1],jm 27 3 [3],jm 28 4 [4],jn 29 (.call 68 [.v 13,.v 25,.v 26,.v 27,.v 28]) [25,26,27,28],jm 24 29 [29],jn 30 (.ext 0 (.v 24)) [],jn 31 (.ext 1 (.v 24)) [24],jm 14 30 [30],jm 15 31 [31]] [10,13,14,15] (jq [jL 32 3 13 [13],jm 33 14 [14],jm 34 15 [15],⟨none,.store 3 (.v 10) (.v 32),none,[32]⟩,jm 11 33 [33],jm 12 34 [34]] [10,11,12] .ret))))) }
theorem Za : QY Go.Proofs.Tryz.prog 26 Gi = true := by kernel_rfl
end Go.Ve

namespace Go.Ve
noncomputable section
open Go.Proofs
set_option maxRecDepth 100000
open Go.ChangeShapes Go.WideShapes
def wiO (tu : List Box6) (o : Own) : Own := { o with la := o.la + 1, wi := o.la + 1, nx := tu, gr := [], sent := false }
def wiC (zs : List Zone) (b : Book) (fl : ByteArray) (tu : List Box6) : Int := if ¬ tubeOk zs tu then 2 else if oAt b.own fl < 0 then 5 else if (oG b fl).st ≠ 1 then 5 else if 0 < (oG b fl).wi then 6 else if 1000000 ≤ (oG b fl).la then 4 else 0
def wiB (b : Book) (fl : ByteArray) (tu : List Box6) : Book := { b with own := b.own.set (oI b fl) (wiO tu (oG b fl)) }
theorem QtX {zs : List Zone} {fl : ByteArray} {b : Book} {tu : List Box6} (h : wiC zs b fl tu = 0) : tubeOk zs tu ∧ ¬ oAt b.own fl < 0 ∧ (oG b fl).st = 1 ∧ ¬ 0 < (oG b fl).wi ∧ ¬ 1000000 ≤ (oG b fl).la := by
  unfold wiC at h
  split at h; · omega
  rename_i q1
  split at h; · omega
  rename_i q2
  split at h; · omega
  rename_i q3
  split at h; · omega
  rename_i q4
  split at h; · omega
  rename_i q5
  exact ⟨Classical.not_not.1 q1, q2, Classical.not_not.1 q3, q4, q5⟩
set_option maxHeartbeats 4000000 in
theorem QsR (t t' : Nat) (zs : List Zone) (me fl : ByteArray) (tu : List Box6) (b : Book) (va vc vd : Nat) (hb : b.small) (hz : zs.length ≤ 1048576) (htu : tu.length ≤ 1048576) (h0 : wiC zs b fl tu ≠ 0) :
    Contract P 68 [.ptr 3 0, .sl t 5 (zs.map Zone.row), .str me, .str fl, .sl t' 6 (tu.map Box6.row)] ((3, .box [.own 4 va 0 b.own.length, .own 5 vc 0 b.parts.length, .own 6 vd 0 b.seen.length]) :: bkM b 4 va 5 vc 6 vd 10 30) (.tup [.sl 98 8 [], .int .i64 (wiC zs b fl tu)]) ((3, .box [.own 4 va 0 b.own.length, .own 5 vc 0 b.parts.length, .own 6 vd 0 b.seen.length]) :: bkM b 4 va 5 vc 6 vd 10 30) := by
  have getK0 : True := trivial
  have applyK : True := trivial
  have hr0 : True := trivial
  have gsr : True := trivial
  have hgo : True := trivial
  have hI : True := trivial
  have hMo : True := trivial
  have hMp : True := trivial
  have hMs : True := trivial
  have t6 : True := trivial
  have t8 : True := trivial
  have t9 : True := trivial
  have g3 : True := trivial
  have g4 : True := trivial
  have g5 : True := trivial
  have g6 : True := trivial
  have sA : True := trivial
  have m6 : True := trivial
  have m104 : True := trivial
  have hb' := hb
  unfold Book.small at hb
  have hoff : W4 (bkM b 4 va 5 vc 6 vd 10 30) 3 := fun p hp e => by have := KQ (by omega) (by omega) hp; omega
  have huq : ZW (bkM b 4 va 5 vc 6 vd 10 30) := UG (by omega) (by omega) (by omega) (by omega) (by omega) (by omega) (by omega) (by omega) (by omega)
  have gK : ∀ x : AObj, ∀ p ∈ bkM b 4 va 5 vc 6 vd 10 30, getM ((3, x) :: bkM b 4 va 5 vc 6 vd 10 30) p.1 = some p.2 := fun x => Qw hoff (QI huq)
  have applyK : ∀ x : AObj, Q1 ((3, x) :: bkM b 4 va 5 vc 6 vd 10 30) (bkM b 4 va 5 vc 6 vd 10 30) = (3, x) :: bkM b 4 va 5 vc 6 vd 10 30 := fun x => by rw [JX hoff, ZF huq]
  have R1 : (Qc (3 :: List.map (fun x : Nat × AObj => x.1) (bkM b 4 va 5 vc 6 vd 10 30)) (.own 4 va 0 b.own.length) && (Qc (3 :: List.map (fun x : Nat × AObj => x.1) (bkM b 4 va 5 vc 6 vd 10 30)) (.own 5 vc 0 b.parts.length) && Qc (3 :: List.map (fun x : Nat × AObj => x.1) (bkM b 4 va 5 vc 6 vd 10 30)) (.own 6 vd 0 b.seen.length)) && ((bkM b 4 va 5 vc 6 vd 10 30).all fun p => Qd (3 :: List.map (fun x : Nat × AObj => x.1) (bkM b 4 va 5 vc 6 vd 10 30)) p.2)) = true := by
    have h1 : (Qc (3 :: List.map (fun x : Nat × AObj => x.1) (bkM b 4 va 5 vc 6 vd 10 30)) (.own 4 va 0 b.own.length) && (Qc (3 :: List.map (fun x : Nat × AObj => x.1) (bkM b 4 va 5 vc 6 vd 10 30)) (.own 5 vc 0 b.parts.length) && (Qc (3 :: List.map (fun x : Nat × AObj => x.1) (bkM b 4 va 5 vc 6 vd 10 30)) (.own 6 vd 0 b.seen.length) && true))) = true := Vm (D := 3 :: List.map (fun x : Nat × AObj => x.1) (bkM b 4 va 5 vc 6 vd 10 30)) (b := b) (a := 4) (va := va) (c := 5) (vc := vc) (d := 6) (vd := vd) (kO := 10) (kP := 30) fun p h => List.mem_cons_of_mem _ (JI h)
    rw [Bool.and_true] at h1
    rw [Bool.and_eq_true]
    exact ⟨h1, Vl fun p h => List.mem_cons_of_mem _ (JI h)⟩
  have R2 : ((true || (List.map (fun x : Nat × AObj => x.1) (bkM b 4 va 5 vc 6 vd 10 30)).contains 3) && (List.map (fun x : Nat × AObj => x.1) (bkM b 4 va 5 vc 6 vd 10 30)).all fun o => decide (100 ≤ o % 1000) || (o == 3 || (List.map (fun x : Nat × AObj => x.1) (bkM b 4 va 5 vc 6 vd 10 30)).contains o)) = true := by
    rw [Bool.true_or, Bool.true_and, List.all_eq_true]
    intro o ho
    simp only [Bool.or_eq_true]
    exact .inr (.inr (by simpa using ho))
  have hMo : getM (bkM b 4 va 5 vc 6 vd 10 30) 4 = some (.arr (1000000 + 71) va 11 (Ja (Own.row 0) 10 0 b.own)) := rfl
  have hMp : getM (bkM b 4 va 5 vc 6 vd 10 30) 5 = some (.arr (1000000 + 124) vc 3 (Ja (Part.row 0) 30 0 b.parts)) := QI huq (5, .arr (1000000 + 124) vc 3 (Ja (Part.row 0) 30 0 b.parts)) (by simp [bkM, OO])
  have hMs : getM (bkM b 4 va 5 vc 6 vd 10 30) 6 = some (.arr 118 vd 2 (b.seen.map Seen.row)) := QI huq (6, .arr 118 vd 2 (b.seen.map Seen.row)) (by simp [bkM])
  have hOw := QpG b fl (by omega)
  refine Qh ((Env.nil P).add 100 QG Yu) Go.Ve.hm X3 (nlb rfl) ?_ ?_
  · rw [List.all_eq_true]
    intro q hq
    obtain ⟨p, hp, rfl⟩ := List.mem_map.1 hq
    simp only [decide_eq_true_eq]
    rcases List.mem_cons.1 hp with rfl | hp
    · omega
    · have := KQ (by omega) (by omega) hp; omega
  unfold YJ
  simp (maxSteps := 2000000) only [bitvec_to_nat, reduceIte, Nat.reduceEqDiff, Nat.reduceAdd, Nat.reduceLeDiff, reduceCtorEq, Nat.reduceBEq, Nat.reduceLT, Nat.reduceMod, fmc, Qf, Qm, Qe, QE, keepB, Qn, QJ, QG, int_toBitVec_meta, method_specs_simp, Nat.sub_zero, List.append_nil, List.set_set, UN, Qkm, Qkn, UL, QeG, Int.toNat_natCast, List.length_set, QN, Q6, QO, getK0, applyK, hr0, gsr, hgo, hI, hMo, hMp, hMs, t6, t8, t9, g3, g4, g5, g6, sA, m6, m104]
  refine ⟨⟨by omega, by omega⟩, fun h1 => ?_, fun h1 => ⟨by unfold wiC; rw [if_pos h1], Jl (gK _), R1, R2⟩⟩
  refine ⟨_, _, Jn (r := .int .i64 (oAt b.own fl)) (news := []) (keep := bkM b 4 va 5 vc 6 vd 10 30) (args' := [.agg (b.row 99), .str fl]) (by simp only [KH, GT, QhO]; exact hOw) (gK _) (QW (Qmv (gK _) (QI huq)) rfl) (by simp only [K6, J9 99 (by omega), QhN]; rfl) rfl rfl (by simp) rfl rfl trivial (by simp), ?_⟩
  have n1 : ¬ ¬ tubeOk zs tu := fun h => h h1
  by_cases h3 : oAt b.own fl < 0
  · have hI := h3
    simp (maxSteps := 2000000) only [bitvec_to_nat, reduceIte, Nat.reduceEqDiff, Nat.reduceAdd, Nat.reduceLeDiff, reduceCtorEq, Nat.reduceBEq, Nat.reduceLT, Nat.reduceMod, fmc, Qf, Qm, Qe, QE, keepB, Qn, QJ, QG, int_toBitVec_meta, method_specs_simp, Nat.sub_zero, List.append_nil, List.set_set, UN, Qkm, Qkn, UL, QeG, Int.toNat_natCast, List.length_set, QN, Q6, QO, getK0, applyK, hr0, gsr, hgo, hI, hMo, hMp, hMs, t6, t8, t9, g3, g4, g5, g6, sA, m6, m104]
    refine ⟨?_, Jl (gK _), R1, R2⟩
    unfold wiC; rw [if_neg n1, if_pos h3]
  · obtain ⟨I, hI, hlt⟩ : ∃ I : Nat, oAt b.own fl = (I : Int) ∧ I < b.own.length := by
      obtain ⟨q1, q2⟩ := QhQ (l := b.own) (s := fl) (by omega)
      exact ⟨_, q2, q1⟩
    have hr0 : (Ja (Own.row 0) 10 0 b.own).getD I [] = [.str (b.own.getD I default).fl, .int .i64 (b.own.getD I default).st, .int .i64 (b.own.getD I default).tn, .str (b.own.getD I default).dst, .int .i64 (b.own.getD I default).la, .int .i64 (b.own.getD I default).nr, .own (fam 16 I) 0 0 (b.own.getD I default).tu.length, .int .i64 (b.own.getD I default).wi, .own (fam 18 I) 0 0 (b.own.getD I default).nx.length, .own (fam 19 I) 0 0 (b.own.getD I default).gr.length, .bool (b.own.getD I default).sent] := by rw [ZY hlt]; simp [Own.row, UL, QeG]
    have gsr : ∀ r : List AV, ((Ja (Own.row 0) 10 0 b.own).set I r).getD I [] = r := fun r => Wn (by rw [QN]; exact hlt)
    have eG : oG b fl = b.own.getD I default := by unfold oG oI; rw [hI]; rfl
    have n3 : ¬ ((I : Int) < 0) := by omega
    simp (maxSteps := 2000000) only [bitvec_to_nat, reduceIte, Nat.reduceEqDiff, Nat.reduceAdd, Nat.reduceLeDiff, reduceCtorEq, Nat.reduceBEq, Nat.reduceLT, Nat.reduceMod, fmc, Qf, Qm, Qe, QE, keepB, Qn, QJ, QG, int_toBitVec_meta, method_specs_simp, Nat.sub_zero, List.append_nil, List.set_set, UN, Qkm, Qkn, UL, QeG, Int.toNat_natCast, List.length_set, QN, Q6, QO, getK0, applyK, hr0, gsr, hgo, hI, hMo, hMp, hMs, t6, t8, t9, g3, g4, g5, g6, sA, m6, m104]
    refine ⟨fun h => absurd h n3, fun _ => ⟨⟨by omega, by omega⟩, fun s1 => ⟨?_, Jl (gK _), R1, R2⟩, fun s1 => ⟨⟨by omega, by omega⟩, fun s3 => ⟨?_, Jl (gK _), R1, R2⟩, fun s3 => ⟨fun s4 => ⟨?_, Jl (gK _), R1, R2⟩, fun s4 => ?_⟩⟩⟩⟩
    · simp only [wiC, n1, hI, n3, eG, s1, if_false, if_true, ne_eq, not_false_eq_true]
    · simp only [wiC, n1, hI, n3, eG, s1, s3, if_false, if_true, ne_eq, not_true_eq_false]
    · simp only [wiC, n1, hI, n3, eG, s1, s3, s4, if_false, if_true, ne_eq, not_true_eq_false]
    · exact absurd (by simp only [wiC, n1, hI, n3, eG, s1, s3, s4, if_false, ne_eq, not_true_eq_false]) h0
def Vv (tu : List Box6) (o : Own) (k i n : Nat) : List AV := [.str o.fl, .int .i64 o.st, .int .i64 o.tn, .str o.dst, .int .i64 (o.la + 1), .int .i64 o.nr, .own (fam (k + 6) i) 0 0 o.tu.length, .int .i64 (o.la + 1), .own n 0 0 tu.length, .sl 98 1 [], .bool false]
set_option maxHeartbeats 4000000 in
theorem QsS (t t' : Nat) (zs : List Zone) (me fl : ByteArray) (tu : List Box6) (b : Book) (va vc vd : Nat) (hb : b.small) (hz : zs.length ≤ 1048576) (htu : tu.length ≤ 1048576) (hzk : Q5 zs) (h0 : wiC zs b fl tu = 0) (hla : 0 ≤ (oG b fl).la) :
    Contract P 68 [.ptr 3 0, .sl t 5 (zs.map Zone.row), .str me, .str fl, .sl t' 6 (tu.map Box6.row)] ((3, .box [.own 4 va 0 b.own.length, .own 5 vc 0 b.parts.length, .own 6 vd 0 b.seen.length]) :: bkM b 4 va 5 vc 6 vd 10 30) (.tup [.own 107 (Yp zs me (wiO tu (oG b fl)) zs.length).length 0 (Yp zs me (wiO tu (oG b fl)) zs.length).length, .int .i64 0]) ((3, .box [.own 4 va 0 b.own.length, .own 5 vc 0 b.parts.length, .own 6 vd 0 b.seen.length]) :: (4, .arr (1000000 + 71) va 11 ((Ja (Own.row 0) 10 0 b.own).set (oI b fl) (Vv tu (oG b fl) 10 (oI b fl) 104))) :: (Q2 JE (Own.row 0) 10 0 b.own ++ (X2 5 vc 30 b.parts ++ Qfl 6 vd b.seen) ++ ((104, .arr 100 0 6 (tu.map Box6.row)) :: (Jk 107 (Yp zs me (wiO tu (oG b fl)) zs.length).length 150 0 (Yp zs me (wiO tu (oG b fl)) zs.length)).reverse))) := by
  have getK0 : True := trivial
  have applyK : True := trivial
  have hr0 : True := trivial
  have gsr : True := trivial
  have hgo : True := trivial
  have hI : True := trivial
  have hMo : True := trivial
  have hMp : True := trivial
  have hMs : True := trivial
  have t6 : True := trivial
  have t8 : True := trivial
  have t9 : True := trivial
  have g3 : True := trivial
  have g4 : True := trivial
  have g5 : True := trivial
  have g6 : True := trivial
  have sA : True := trivial
  have m6 : True := trivial
  have m104 : True := trivial
  have hb' := hb
  unfold Book.small at hb
  have hoff : W4 (bkM b 4 va 5 vc 6 vd 10 30) 3 := fun p hp e => by have := KQ (by omega) (by omega) hp; omega
  have huq : ZW (bkM b 4 va 5 vc 6 vd 10 30) := UG (by omega) (by omega) (by omega) (by omega) (by omega) (by omega) (by omega) (by omega) (by omega)
  have gK : ∀ x : AObj, ∀ p ∈ bkM b 4 va 5 vc 6 vd 10 30, getM ((3, x) :: bkM b 4 va 5 vc 6 vd 10 30) p.1 = some p.2 := fun x => Qw hoff (QI huq)
  have applyK : ∀ x : AObj, Q1 ((3, x) :: bkM b 4 va 5 vc 6 vd 10 30) (bkM b 4 va 5 vc 6 vd 10 30) = (3, x) :: bkM b 4 va 5 vc 6 vd 10 30 := fun x => by rw [JX hoff, ZF huq]
  have R1 : (Qc (3 :: List.map (fun x : Nat × AObj => x.1) (bkM b 4 va 5 vc 6 vd 10 30)) (.own 4 va 0 b.own.length) && (Qc (3 :: List.map (fun x : Nat × AObj => x.1) (bkM b 4 va 5 vc 6 vd 10 30)) (.own 5 vc 0 b.parts.length) && Qc (3 :: List.map (fun x : Nat × AObj => x.1) (bkM b 4 va 5 vc 6 vd 10 30)) (.own 6 vd 0 b.seen.length)) && ((bkM b 4 va 5 vc 6 vd 10 30).all fun p => Qd (3 :: List.map (fun x : Nat × AObj => x.1) (bkM b 4 va 5 vc 6 vd 10 30)) p.2)) = true := by
    have h1 : (Qc (3 :: List.map (fun x : Nat × AObj => x.1) (bkM b 4 va 5 vc 6 vd 10 30)) (.own 4 va 0 b.own.length) && (Qc (3 :: List.map (fun x : Nat × AObj => x.1) (bkM b 4 va 5 vc 6 vd 10 30)) (.own 5 vc 0 b.parts.length) && (Qc (3 :: List.map (fun x : Nat × AObj => x.1) (bkM b 4 va 5 vc 6 vd 10 30)) (.own 6 vd 0 b.seen.length) && true))) = true := Vm (D := 3 :: List.map (fun x : Nat × AObj => x.1) (bkM b 4 va 5 vc 6 vd 10 30)) (b := b) (a := 4) (va := va) (c := 5) (vc := vc) (d := 6) (vd := vd) (kO := 10) (kP := 30) fun p h => List.mem_cons_of_mem _ (JI h)
    rw [Bool.and_true] at h1
    rw [Bool.and_eq_true]
    exact ⟨h1, Vl fun p h => List.mem_cons_of_mem _ (JI h)⟩
  have R2 : ((true || (List.map (fun x : Nat × AObj => x.1) (bkM b 4 va 5 vc 6 vd 10 30)).contains 3) && (List.map (fun x : Nat × AObj => x.1) (bkM b 4 va 5 vc 6 vd 10 30)).all fun o => decide (100 ≤ o % 1000) || (o == 3 || (List.map (fun x : Nat × AObj => x.1) (bkM b 4 va 5 vc 6 vd 10 30)).contains o)) = true := by
    rw [Bool.true_or, Bool.true_and, List.all_eq_true]
    intro o ho
    simp only [Bool.or_eq_true]
    exact .inr (.inr (by simpa using ho))
  have hMo : getM (bkM b 4 va 5 vc 6 vd 10 30) 4 = some (.arr (1000000 + 71) va 11 (Ja (Own.row 0) 10 0 b.own)) := rfl
  have hMp : getM (bkM b 4 va 5 vc 6 vd 10 30) 5 = some (.arr (1000000 + 124) vc 3 (Ja (Part.row 0) 30 0 b.parts)) := QI huq (5, .arr (1000000 + 124) vc 3 (Ja (Part.row 0) 30 0 b.parts)) (by simp [bkM, OO])
  have hMs : getM (bkM b 4 va 5 vc 6 vd 10 30) 6 = some (.arr 118 vd 2 (b.seen.map Seen.row)) := QI huq (6, .arr 118 vd 2 (b.seen.map Seen.row)) (by simp [bkM])
  have hOw := QpG b fl (by omega)
  obtain ⟨h1, h3, s1, s3, s4⟩ := QtX h0
  obtain ⟨I, hI, hlt⟩ : ∃ I : Nat, oAt b.own fl = (I : Int) ∧ I < b.own.length := by
    obtain ⟨q1, q2⟩ := QhQ (l := b.own) (s := fl) (by omega)
    exact ⟨_, q2, q1⟩
  have hr0 : (Ja (Own.row 0) 10 0 b.own).getD I [] = [.str (b.own.getD I default).fl, .int .i64 (b.own.getD I default).st, .int .i64 (b.own.getD I default).tn, .str (b.own.getD I default).dst, .int .i64 (b.own.getD I default).la, .int .i64 (b.own.getD I default).nr, .own (fam 16 I) 0 0 (b.own.getD I default).tu.length, .int .i64 (b.own.getD I default).wi, .own (fam 18 I) 0 0 (b.own.getD I default).nx.length, .own (fam 19 I) 0 0 (b.own.getD I default).gr.length, .bool (b.own.getD I default).sent] := by rw [ZY hlt]; simp [Own.row, UL, QeG]
  have gsr : ∀ r : List AV, ((Ja (Own.row 0) 10 0 b.own).set I r).getD I [] = r := fun r => Wn (by rw [QN]; exact hlt)
  have eI : oI b fl = I := by unfold oI; rw [hI]; rfl
  have eG : oG b fl = b.own.getD I default := by unfold oG oI; rw [hI]; rfl
  rw [eG] at s1 s3 s4 hla
  have hx := hb.1.2 _ (Jg hlt)
  have hx' := hx
  unfold Own.small at hx'
  obtain ⟨R, hR⟩ : ∃ R, R = Q2 JE (Own.row 0) 10 0 b.own ++ (X2 5 vc 30 b.parts ++ Qfl 6 vd b.seen) := ⟨_, rfl⟩
  have hR0 : bkM b 4 va 5 vc 6 vd 10 30 = (4, .arr (1000000 + 71) va 11 (Ja (Own.row 0) 10 0 b.own)) :: R := by rw [hR]; rfl
  rw [eG, eI, ← hR]
  have hRu : ZW ((4, .arr (1000000 + 71) va 11 (Ja (Own.row 0) 10 0 b.own)) :: R) := hR0 ▸ huq
  have hRn : ∀ p ∈ R, p.1 ≠ 3 ∧ p.1 ≠ 4 ∧ p.1 ≠ 107 ∧ p.1 ≠ 104 := fun p hp => by
    have q1 := KQ (by omega) (by omega) (hR0 ▸ List.mem_cons_of_mem _ hp : p ∈ bkM b 4 va 5 vc 6 vd 10 30)
    have q2 := (List.pairwise_cons.1 hRu).1 p hp
    simp only at q2
    omega
  have g3 : getM R 3 = none := QZ fun p hp => (hRn p hp).1
  have g4 : getM R 4 = none := QZ fun p hp => (hRn p hp).2.1
  have g5 : getM R 104 = none := QZ fun p hp => (hRn p hp).2.2.2
  have g6 : getM R 107 = none := QZ fun p hp => (hRn p hp).2.2.1
  have gR : ∀ p ∈ R, getM R p.1 = some p.2 := QI (List.pairwise_cons.1 hRu).2
  have gO : ∀ j v sz xs, (Own.row 0 (b.own.getD I default))[j]? = some (.sl v sz xs) → getM R (fam (10 + j) I) = some (.arr (JE j) v sz xs) := fun j v sz xs hj => gR (fam (10 + j) I, .arr (JE j) v sz xs) (by
    rw [hR]
    exact List.mem_append_left _ (JB.2 ⟨I, j, v, sz, xs, hlt, hj, by rw [Nat.zero_add]⟩))
  have hgo : ∀ x y : AObj, Q1 ((3, x) :: (4, y) :: R) R = (3, x) :: (4, y) :: R := fun x y => by rw [JX fun p hp => (hRn p hp).1, JX fun p hp => (hRn p hp).2.1, ZF (List.pairwise_cons.1 hRu).2]
  have t6 : getM R (fam 16 I) = some (.arr 100 0 6 ((b.own.getD I default).tu.map Box6.row)) := gO 6 _ _ _ rfl
  have t8 : getM R (fam 18 I) = some (.arr 100 0 6 ((b.own.getD I default).nx.map Box6.row)) := gO 8 _ _ _ rfl
  have t9 : getM R (fam 19 I) = some (.arr 9 0 1 ((b.own.getD I default).gr.map JJ)) := gO 9 _ _ _ rfl
  have n3 : ¬ ((I : Int) < 0) := by omega
  have hlt' : oAt b.own fl < b.own.length := by omega
  have hBx := Qaf t' tu (by omega)
  refine Qh ((Env.nil P).add 100 QG Yu) Go.Ve.hm X3 (nlb rfl) ?_ ?_
  · rw [List.all_eq_true]
    intro q hq
    obtain ⟨p, hp, rfl⟩ := List.mem_map.1 hq
    simp only [decide_eq_true_eq]
    rcases List.mem_cons.1 hp with rfl | hp
    · omega
    · have := KQ (by omega) (by omega) hp; omega
  unfold YJ
  simp (maxSteps := 2000000) (maxDischargeDepth := 8) only [bitvec_to_nat, reduceIte, Nat.reduceEqDiff, Nat.reduceAdd, Nat.reduceLeDiff, reduceCtorEq, Nat.reduceBEq, Nat.reduceLT, Nat.reduceMod, fmc, Qf, Qm, Qe, QE, keepB, Qn, QJ, QG, int_toBitVec_meta, method_specs_simp, Nat.sub_zero, List.append_nil, List.set_set, UN, Qkm, Qkn, UL, QeG, Int.toNat_natCast, List.length_set, QN, Q6, QO, getK0, applyK, hr0, gsr, hgo, hI, hMo, hMp, hMs, t6, t8, t9, g3, g4, g5, g6, sA, m6, m104]
  refine ⟨⟨by omega, by omega⟩, fun _ => ?_, fun h => absurd h1 h⟩
  refine ⟨_, _, Jn (r := .int .i64 (oAt b.own fl)) (news := []) (keep := bkM b 4 va 5 vc 6 vd 10 30) (args' := [.agg (b.row 99), .str fl]) (by simp only [KH, GT, QhO]; exact hOw) (gK _) (QW (Qmv (gK _) (QI huq)) rfl) (by simp only [K6, J9 99 (by omega), QhN]; rfl) rfl rfl (by simp) rfl rfl trivial (by simp), ?_⟩
  simp only [hR0]
  simp (maxSteps := 2000000) (maxDischargeDepth := 8) only [bitvec_to_nat, reduceIte, Nat.reduceEqDiff, Nat.reduceAdd, Nat.reduceLeDiff, reduceCtorEq, Nat.reduceBEq, Nat.reduceLT, Nat.reduceMod, fmc, Qf, Qm, Qe, QE, keepB, Qn, QJ, QG, int_toBitVec_meta, method_specs_simp, Nat.sub_zero, List.append_nil, List.set_set, UN, Qkm, Qkn, UL, QeG, Int.toNat_natCast, List.length_set, QN, Q6, QO, getK0, applyK, hr0, gsr, hgo, hI, hMo, hMp, hMs, t6, t8, t9, g3, g4, g5, g6, sA, m6, m104]
  refine ⟨fun h => absurd h n3, fun _ => ⟨⟨by omega, by omega⟩, fun h => absurd s1 h, fun _ => ⟨⟨by omega, by omega⟩, fun h => absurd h s3, fun _ => ⟨fun h => absurd h s4, ?_⟩⟩⟩⟩
  have sA : ∀ z : AObj, Kj R 104 z = R ++ [(104, z)] := fun z => ZD g5
  refine fun _ => ⟨⟨by omega, by omega⟩, _, _, .inr (.inr (.inl ⟨_, rfl, hBx, QaX (by simp only [getM, Nat.reduceEqDiff, if_false, g5]), by simp [Qc, dom], rfl, by simp [No99], by simp [GF, Jj]⟩)), ?_⟩
  simp (maxSteps := 2000000) (maxDischargeDepth := 8) only [bitvec_to_nat, reduceIte, Nat.reduceEqDiff, Nat.reduceAdd, Nat.reduceLeDiff, reduceCtorEq, Nat.reduceBEq, Nat.reduceLT, Nat.reduceMod, fmc, Qf, Qm, Qe, QE, keepB, Qn, QJ, QG, int_toBitVec_meta, method_specs_simp, Nat.sub_zero, List.append_nil, List.set_set, UN, Qkm, Qkn, UL, QeG, Int.toNat_natCast, List.length_set, QN, Q6, QO, getK0, applyK, hr0, gsr, hgo, hI, hMo, hMp, hMs, t6, t8, t9, g3, g4, g5, g6, sA, m6, m104]
  have m6 : ∀ x y z : AObj, getM ((3, x) :: (4, y) :: (R ++ [(104, z)])) (fam 16 I) = some (.arr 100 0 6 ((b.own.getD I default).tu.map Box6.row)) := fun x y z => by
    simp only [getM]; rw [if_neg (by unfold fam; omega), if_neg (by unfold fam; omega)]; exact JA t6
  have m104 : ∀ x y z : AObj, getM ((3, x) :: (4, y) :: (R ++ [(104, z)])) 104 = some z := fun x y z => by
    simp only [getM, Nat.reduceEqDiff, if_false]; rw [QL g5]; rfl
  simp only [Que, gsr]
  simp (maxSteps := 2000000) (maxDischargeDepth := 8) only [bitvec_to_nat, reduceIte, Nat.reduceEqDiff, Nat.reduceAdd, Nat.reduceLeDiff, reduceCtorEq, Nat.reduceBEq, Nat.reduceLT, Nat.reduceMod, fmc, Qf, Qm, Qe, QE, keepB, Qn, QJ, QG, int_toBitVec_meta, method_specs_simp, Nat.sub_zero, List.append_nil, List.set_set, UN, Qkm, Qkn, UL, QeG, Int.toNat_natCast, List.length_set, QN, Q6, QO, getK0, applyK, hr0, gsr, hgo, hI, hMo, hMp, hMs, t6, t8, t9, g3, g4, g5, g6, sA, m6, m104]
  have ho' : (wiO tu (b.own.getD I default)).small := by unfold Own.small wiO; exact ⟨hx'.1, htu, Nat.zero_le _⟩
  have hA := QsQ t 99 99 98 zs me (wiO tu (b.own.getD I default)) ho' hzk hz
  generalize hLg : Yp zs me (wiO tu (b.own.getD I default)) zs.length = l at hA ⊢
  have hWn : ∀ p ∈ Jk 107 l.length 150 0 l, p.1 = 107 ∨ (1000 ≤ p.1 ∧ 150 ≤ p.1 % 1000) := fun p hp => by have := KZ Jb (by omega) hp; omega
  have hWu : ZW (Jk 107 l.length 150 0 l) := Kt (by omega) (by omega)
  have hRW : ∀ p ∈ R, ∀ q ∈ Jk 107 l.length 150 0 l, p.1 ≠ q.1 := fun p hp q hq e => by
    have q1 := KQ (by omega) (by omega) (hR0 ▸ List.mem_cons_of_mem _ hp : p ∈ bkM b 4 va 5 vc 6 vd 10 30)
    have q2 := hWn q hq
    have q3 := hRn p hp
    omega
  have fr : ∀ (x y z : AObj), ∀ p ∈ Jk 107 l.length 150 0 l, getM ((3, x) :: (4, y) :: (R ++ [(104, z)])) p.1 = none := fun x y z p hp => by
    have q2 := hWn p hp
    simp only [getM]
    rw [if_neg (by omega), if_neg (by omega), QL (QZ fun q hq => hRW q hq p hp)]
    simp only [getM]
    rw [if_neg (by omega)]
  have getK0 : ∀ x y z : AObj, Q1 ((3, x) :: (4, y) :: (R ++ [(104, z)])) (Jk 107 l.length 150 0 l) = (3, x) :: (4, y) :: (R ++ (104, z) :: (Jk 107 l.length 150 0 l).reverse) := fun x y z => by rw [aU (fr x y z) hWu]; simp
  refine ⟨_, _, .inr (.inr (.inl ⟨[.sl t 5 (zs.map Zone.row), .str me, .agg ((wiO tu (b.own.getD I default)).rowT 99 99 98)], by simp [QaJ, pur, m6, m104, Own.rowT, wiO, List.take_of_length_le], hA, fr _ _ _, by simp [Qc, dom, OO], Y0 Jb JM, trivial, Qnl Jb⟩)), ?_⟩
  simp (maxSteps := 2000000) (maxDischargeDepth := 8) only [bitvec_to_nat, reduceIte, Nat.reduceEqDiff, Nat.reduceAdd, Nat.reduceLeDiff, reduceCtorEq, Nat.reduceBEq, Nat.reduceLT, Nat.reduceMod, fmc, Qf, Qm, Qe, QE, keepB, Qn, QJ, QG, int_toBitVec_meta, method_specs_simp, Nat.sub_zero, List.append_nil, List.set_set, UN, Qkm, Qkn, UL, QeG, Int.toNat_natCast, List.length_set, QN, Q6, QO, getK0, applyK, hr0, gsr, hgo, hI, hMo, hMp, hMs, t6, t8, t9, g3, g4, g5, g6, sA, m6, m104]
  have m16 : (fam 16 I, AObj.arr 100 0 6 ((b.own.getD I default).tu.map Box6.row)) ∈ R := by
    rw [hR]; exact List.mem_append_left _ (JB.2 ⟨I, 6, 0, 6, _, hlt, rfl, by rw [Nat.zero_add]; rfl⟩)
  have hWm : ∀ p ∈ Jk 107 l.length 150 0 l, p.1 ∈ 3 :: 4 :: List.map (fun x : Nat × AObj => x.1) (R ++ (104, .arr 100 0 6 (tu.map Box6.row)) :: (Jk 107 l.length 150 0 l).reverse) := fun p hp => List.mem_cons_of_mem _ (List.mem_cons_of_mem _ (List.mem_map.2 ⟨p, List.mem_append_right _ (List.mem_cons_of_mem _ (List.mem_reverse.2 hp)), rfl⟩))
  have hRm : ∀ p ∈ R, p.1 ∈ 3 :: 4 :: List.map (fun x : Nat × AObj => x.1) (R ++ (104, .arr 100 0 6 (tu.map Box6.row)) :: (Jk 107 l.length 150 0 l).reverse) := fun p hp => List.mem_cons_of_mem _ (List.mem_cons_of_mem _ (List.mem_map.2 ⟨p, List.mem_append_left _ hp, rfl⟩))
  have hD : ∀ p ∈ bkM b 4 va 5 vc 6 vd 10 30, p.1 ∈ 3 :: 4 :: List.map (fun x : Nat × AObj => x.1) (R ++ (104, .arr 100 0 6 (tu.map Box6.row)) :: (Jk 107 l.length 150 0 l).reverse) := fun p hp => by
    rw [hR0] at hp
    rcases List.mem_cons.1 hp with rfl | hp
    · exact List.mem_cons_of_mem _ (List.mem_cons_self ..)
    · exact hRm p hp
  have h104 : 104 ∈ 3 :: 4 :: List.map (fun x : Nat × AObj => x.1) (R ++ (104, .arr 100 0 6 (tu.map Box6.row)) :: (Jk 107 l.length 150 0 l).reverse) := List.mem_cons_of_mem _ (List.mem_cons_of_mem _ (List.mem_map.2 ⟨(104, _), List.mem_append_right _ (List.mem_cons_self ..), rfl⟩))
  have h107 := hWm (107, .arr (1000000 + 73) l.length 8 (Ja VW.rowO 150 0 l)) (List.mem_cons_self ..)
  have hW3 : (Jk 107 l.length 150 0 l).all (fun p => Qd (3 :: 4 :: List.map (fun x : Nat × AObj => x.1) (R ++ (104, .arr 100 0 6 (tu.map Box6.row)) :: (Jk 107 l.length 150 0 l).reverse)) p.2) = true := YW Jb JM fun p hp => hWm p (List.mem_cons_of_mem _ hp)
  have hR2 : ∀ p, p ∈ R ++ (104, AObj.arr 100 0 6 (tu.map Box6.row)) :: (Jk 107 l.length 150 0 l).reverse → p.1 ≠ 3 ∧ p.1 ≠ 4 := fun p hp => by
    rcases List.mem_append.1 hp with hp | hp
    · exact ⟨(hRn p hp).1, (hRn p hp).2.1⟩
    · rcases List.mem_cons.1 hp with rfl | hp
      · exact ⟨by omega, by omega⟩
      · have := hWn p (List.mem_reverse.1 hp); omega
  have uW : ZW ((104, AObj.arr 100 0 6 (tu.map Box6.row)) :: (Jk 107 l.length 150 0 l).reverse) := List.pairwise_cons.2 ⟨fun p hp e => by have := hWn p (List.mem_reverse.1 hp); simp only at e; omega, QcW hWu⟩
  have uA : ZW (R ++ (104, AObj.arr 100 0 6 (tu.map Box6.row)) :: (Jk 107 l.length 150 0 l).reverse) := QdM (List.pairwise_cons.1 hRu).2 uW fun p hp q hq => by
    rcases List.mem_cons.1 hq with rfl | hq
    · exact (hRn p hp).2.2.2
    · exact hRW p hp q (List.mem_reverse.1 hq)
  refine ⟨⟨rfl, Jl (Qw (fun p hp => (hR2 p hp).1) (Qw (fun p hp => (hR2 p hp).2) (QI uA)))⟩, ?_, List.contains_iff_mem.2 h107, ?_⟩
  · have r1 := Vm hD
    have r2 := Vl hD
    rw [hR0, List.all_cons, Bool.and_eq_true] at r2
    generalize (3 :: 4 :: List.map (fun x : Nat × AObj => x.1) (R ++ (104, AObj.arr 100 0 6 (tu.map Box6.row)) :: (Jk 107 l.length 150 0 l).reverse)) = D at *
    have r4 : (Qc D (.own 4 va 0 b.own.length) && (Qc D (.own 5 vc 0 b.parts.length) && (Qc D (.own 6 vd 0 b.seen.length) && true))) = true := r1
    rw [Bool.and_true] at r4
    have r5 : (Ja (Own.row 0) 10 0 b.own).all (Qb D) = true := by simpa [Qd] using r2.1
    rw [Bool.and_eq_true, Bool.and_eq_true]
    refine ⟨by rw [← Bool.and_eq_true]; rw [Bool.and_eq_true] at r4 ⊢; exact r4, ?_⟩
    rw [Bool.and_eq_true]
    refine ⟨?_, ?_⟩
    · rw [List.all_eq_true]
      intro r hr
      rcases List.mem_or_eq_of_mem_set hr with hr | rfl
      · exact List.all_eq_true.1 r5 r hr
      · simp only [Vv, Qb, Qc, Bool.and_true, Bool.true_and, Bool.and_eq_true]
        exact ⟨List.contains_iff_mem.2 (hRm _ m16), List.contains_iff_mem.2 h104⟩
    · show (List.all _ fun p : Nat × AObj => Qd D p.2) = true
      rw [List.all_append, List.all_cons, Bool.and_eq_true, Bool.and_eq_true, List.all_reverse]
      exact ⟨r2.2, rfl, hW3⟩
  · rw [Bool.true_or, Bool.true_or, Bool.true_and, Bool.true_and, List.all_eq_true]
    intro o ho
    simp only [Bool.or_eq_true]
    refine .inr (.inr (.inr ?_))
    exact List.contains_iff_mem.2 ho
end
end Go.Ve

namespace Go.Ve
noncomputable section
open Go.Proofs
set_option maxRecDepth 100000
open Go.ChangeShapes Go.WideShapes
def wiT (b : Book) (c vc d vd kO kP n : Nat) (tu : List Box6) (w : Nat) (l : List VW) : List (Nat × AObj) := Q2 JE (Own.row 0) kO 0 b.own ++ (X2 c vc kP b.parts ++ Qfl d vd b.seen) ++ ((n, .arr 100 0 6 (tu.map Box6.row)) :: (Jk w l.length 150 0 l).reverse)
def wiM (b : Book) (a va c vc d vd kO kP i n : Nat) (tu : List Box6) (o : Own) (w : Nat) (l : List VW) : List (Nat × AObj) := (a, .arr (1000000 + 71) va 11 ((Ja (Own.row 0) kO 0 b.own).set i (Vv tu o kO i n))) :: wiT b c vc d vd kO kP n tu w l
theorem Qjx {s : Nat → Nat} {b : Book} {a va c vc d vd kO kP kO' kP' i n w : Nat} {tu : List Box6} {o : Own} {l : List VW} (hO : ∀ j i, j < 11 → s (fam (kO + j) (0 + i)) = fam (kO' + j) (0 + i)) (hP : ∀ j i, j < 3 → s (fam (kP + j) (0 + i)) = fam (kP' + j) (0 + i)) (hW : ∀ j i, j < 8 → s (fam (150 + j) (0 + i)) = fam (150 + j) (0 + i)) :
    J5 s (wiM b a va c vc d vd kO kP i n tu o w l) = wiM b (s a) va (s c) vc (s d) vd kO' kP' i (s n) tu o (s w) l := by
  have e1 : J5 s (Jk w l.length 150 0 l).reverse = (Jk (s w) l.length 150 0 l).reverse := by
    rw [ZG, List.map_reverse, ← ZG, Yr Jb JM hW]
  have e2 : K4 s (Vv tu o kO i n) = Vv tu o kO' i (s n) := by
    have := hO 6 i (by omega)
    rw [Nat.zero_add] at this
    simp only [Vv, K4, ren, this]
  have e3 : ∀ (x y : List (Nat × AObj)), J5 s (x ++ y) = J5 s x ++ J5 s y := fun x y => XO
  have e4 : J5 s (X2 c vc kP b.parts) = X2 (s c) vc kP' b.parts := Yr QR Kn hP
  simp only [wiM, wiT, J5, e3, e1, e4, Qkj QX YH hO, renO, Qfl, List.map_set, Qkk QX hO, e2]
  rfl
theorem Qrb (zs : List Zone) (me fl : ByteArray) (tu : List Box6) (b : Book) (hb : b.small) (hz : zs.length ≤ 1048576) (htu : tu.length ≤ 1048576) (h0 : wiC zs b fl tu ≠ 0) : Contract P 68 [.ptr 113 0, .sl 0 5 (zs.map Zone.row), .str me, .str fl, .sl 0 6 (tu.map Box6.row)] ((113, .box [.own 131 b.own.length 0 b.own.length, .own 149 b.parts.length 0 b.parts.length, .own 154 0 0 b.seen.length]) :: bkM b 131 b.own.length 149 b.parts.length 154 0 110 121) (.tup [.sl 98 8 [], .int .i64 (wiC zs b fl tu)]) ((113, .box [.own 131 b.own.length 0 b.own.length, .own 149 b.parts.length 0 b.parts.length, .own 154 0 0 b.seen.length]) :: bkM b 131 b.own.length 149 b.parts.length 154 0 110 121) := by
  have H := QsR 0 0 zs me fl tu b b.own.length b.parts.length 0 hb hz htu h0
  have h := ((((((H.ren (swp 3 113) (Q0 _ _)).ren (swp 4 131) (Q0 _ _)).ren (swp 5 149) (Q0 _ _)).ren (swp 6 154) (Q0 _ _)).ren (JH 10 110 11) (JR (by omega) (by omega) (by omega))).ren (JH 30 121 3) (JR (by omega) (by omega) (by omega)))
  have hs : ∀ q q' : Nat, q < 1000 → q' < 1000 → ∀ b : Book, ∀ a va c vc d vd, J5 (swp q q') (bkM b a va c vc d vd 10 30) = bkM b (swp q q' a) va (swp q q' c) vc (swp q q' d) vd 10 30 := fun q q' h1 h2 b a va c vc d vd => JZ (fun j i hj => JD h1 h2) (fun j i hj => JD h1 h2)
  have hO : ∀ b : Book, ∀ a va c vc d vd, J5 (JH 10 110 11) (bkM b a va c vc d vd 10 30) = bkM b (JH 10 110 11 a) va (JH 10 110 11 c) vc (JH 10 110 11 d) vd 110 30 := fun b a va c vc d vd => JZ (fun j i hj => Km (by omega) hj) (fun j i hj => J1 (by omega) (by omega) (by omega))
  have hP : ∀ b : Book, ∀ a va c vc d vd, J5 (JH 30 121 3) (bkM b a va c vc d vd 110 30) = bkM b (JH 30 121 3 a) va (JH 30 121 3 c) vc (JH 30 121 3 d) vd 110 121 := fun b a va c vc d vd => JZ (fun j i hj => J1 (by omega) (by omega) (by omega)) (fun j i hj => Km (by omega) hj)
  simp only [J5, hs _ _ (show (3 : Nat) < 1000 by omega) (show (113 : Nat) < 1000 by omega), hs _ _ (show (4 : Nat) < 1000 by omega) (show (131 : Nat) < 1000 by omega), hs _ _ (show (5 : Nat) < 1000 by omega) (show (149 : Nat) < 1000 by omega), hs _ _ (show (6 : Nat) < 1000 by omega) (show (154 : Nat) < 1000 by omega), hO, hP, K4, ren, renO, swp, JH, reduceIte, Nat.reduceEqDiff, Nat.reduceLeDiff] at h
  exact h
theorem Qrc (zs : List Zone) (me fl : ByteArray) (tu : List Box6) (b : Book) (hb : b.small) (hz : zs.length ≤ 1048576) (htu : tu.length ≤ 1048576) (hzk : Q5 zs) (h0 : wiC zs b fl tu = 0) (hla : 0 ≤ (oG b fl).la) : Contract P 68 [.ptr 113 0, .sl 0 5 (zs.map Zone.row), .str me, .str fl, .sl 0 6 (tu.map Box6.row)] ((113, .box [.own 131 b.own.length 0 b.own.length, .own 149 b.parts.length 0 b.parts.length, .own 154 0 0 b.seen.length]) :: bkM b 131 b.own.length 149 b.parts.length 154 0 110 121) (.tup [.own 120 (Yp zs me (wiO tu (oG b fl)) zs.length).length 0 (Yp zs me (wiO tu (oG b fl)) zs.length).length, .int .i64 0]) ((113, .box [.own 131 b.own.length 0 b.own.length, .own 149 b.parts.length 0 b.parts.length, .own 154 0 0 b.seen.length]) :: wiM b 131 b.own.length 149 b.parts.length 154 0 110 121 (oI b fl) 104 tu (oG b fl) 120 (Yp zs me (wiO tu (oG b fl)) zs.length)) := by
  have H := QsS 0 0 zs me fl tu b b.own.length b.parts.length 0 hb hz htu hzk h0 hla
  have e : ∀ x : Nat × AObj, x :: (4, .arr (1000000 + 71) b.own.length 11 ((Ja (Own.row 0) 10 0 b.own).set (oI b fl) (Vv tu (oG b fl) 10 (oI b fl) 104))) :: (Q2 JE (Own.row 0) 10 0 b.own ++ (X2 5 b.parts.length 30 b.parts ++ Qfl 6 0 b.seen) ++ ((104, .arr 100 0 6 (tu.map Box6.row)) :: (Jk 107 (Yp zs me (wiO tu (oG b fl)) zs.length).length 150 0 (Yp zs me (wiO tu (oG b fl)) zs.length)).reverse)) = x :: wiM b 4 b.own.length 5 b.parts.length 6 0 10 30 (oI b fl) 104 tu (oG b fl) 107 (Yp zs me (wiO tu (oG b fl)) zs.length) := fun x => rfl
  rw [e] at H
  have H := H.ren (swp 107 120) (Q0 _ _)
  have w0 : ∀ b : Book, ∀ a va c vc d vd i n tu o w l, J5 (swp 107 120) (wiM b a va c vc d vd 10 30 i n tu o w l) = wiM b (swp 107 120 a) va (swp 107 120 c) vc (swp 107 120 d) vd 10 30 i (swp 107 120 n) tu o (swp 107 120 w) l := fun b a va c vc d vd i n tu o w l => Qjx (fun j i hj => JD (by omega) (by omega)) (fun j i hj => JD (by omega) (by omega)) (fun j i hj => JD (by omega) (by omega))
  have k0 : ∀ b : Book, ∀ a va c vc d vd, J5 (swp 107 120) (bkM b a va c vc d vd 10 30) = bkM b (swp 107 120 a) va (swp 107 120 c) vc (swp 107 120 d) vd 10 30 := fun b a va c vc d vd => JZ (fun j i hj => JD (by omega) (by omega)) (fun j i hj => JD (by omega) (by omega))
  have h := ((((((H.ren (swp 3 113) (Q0 _ _)).ren (swp 4 131) (Q0 _ _)).ren (swp 5 149) (Q0 _ _)).ren (swp 6 154) (Q0 _ _)).ren (JH 10 110 11) (JR (by omega) (by omega) (by omega))).ren (JH 30 121 3) (JR (by omega) (by omega) (by omega)))
  have hs : ∀ q q' : Nat, q < 1000 → q' < 1000 → ∀ b : Book, ∀ a va c vc d vd, J5 (swp q q') (bkM b a va c vc d vd 10 30) = bkM b (swp q q' a) va (swp q q' c) vc (swp q q' d) vd 10 30 := fun q q' h1 h2 b a va c vc d vd => JZ (fun j i hj => JD h1 h2) (fun j i hj => JD h1 h2)
  have hO : ∀ b : Book, ∀ a va c vc d vd, J5 (JH 10 110 11) (bkM b a va c vc d vd 10 30) = bkM b (JH 10 110 11 a) va (JH 10 110 11 c) vc (JH 10 110 11 d) vd 110 30 := fun b a va c vc d vd => JZ (fun j i hj => Km (by omega) hj) (fun j i hj => J1 (by omega) (by omega) (by omega))
  have hP : ∀ b : Book, ∀ a va c vc d vd, J5 (JH 30 121 3) (bkM b a va c vc d vd 110 30) = bkM b (JH 30 121 3 a) va (JH 30 121 3 c) vc (JH 30 121 3 d) vd 110 121 := fun b a va c vc d vd => JZ (fun j i hj => J1 (by omega) (by omega) (by omega)) (fun j i hj => Km (by omega) hj)
  have ws : ∀ q q' : Nat, q < 1000 → q' < 1000 → ∀ b : Book, ∀ a va c vc d vd i n tu o w l, J5 (swp q q') (wiM b a va c vc d vd 10 30 i n tu o w l) = wiM b (swp q q' a) va (swp q q' c) vc (swp q q' d) vd 10 30 i (swp q q' n) tu o (swp q q' w) l := fun q q' h1 h2 b a va c vc d vd i n tu o w l => Qjx (fun j i hj => JD h1 h2) (fun j i hj => JD h1 h2) (fun j i hj => JD h1 h2)
  have wO : ∀ b : Book, ∀ a va c vc d vd i n tu o w l, J5 (JH 10 110 11) (wiM b a va c vc d vd 10 30 i n tu o w l) = wiM b (JH 10 110 11 a) va (JH 10 110 11 c) vc (JH 10 110 11 d) vd 110 30 i (JH 10 110 11 n) tu o (JH 10 110 11 w) l := fun b a va c vc d vd i n tu o w l => Qjx (fun j i hj => Km (by omega) hj) (fun j i hj => J1 (by omega) (by omega) (by omega)) (fun j i hj => J1 (by omega) (by omega) (by omega))
  have wP : ∀ b : Book, ∀ a va c vc d vd i n tu o w l, J5 (JH 30 121 3) (wiM b a va c vc d vd 110 30 i n tu o w l) = wiM b (JH 30 121 3 a) va (JH 30 121 3 c) vc (JH 30 121 3 d) vd 110 121 i (JH 30 121 3 n) tu o (JH 30 121 3 w) l := fun b a va c vc d vd i n tu o w l => Qjx (fun j i hj => J1 (by omega) (by omega) (by omega)) (fun j i hj => Km (by omega) hj) (fun j i hj => J1 (by omega) (by omega) (by omega))
  simp only [w0, k0, J5, hs _ _ (show (3 : Nat) < 1000 by omega) (show (113 : Nat) < 1000 by omega), hs _ _ (show (4 : Nat) < 1000 by omega) (show (131 : Nat) < 1000 by omega), hs _ _ (show (5 : Nat) < 1000 by omega) (show (149 : Nat) < 1000 by omega), hs _ _ (show (6 : Nat) < 1000 by omega) (show (154 : Nat) < 1000 by omega), ws _ _ (show (3 : Nat) < 1000 by omega) (show (113 : Nat) < 1000 by omega), ws _ _ (show (4 : Nat) < 1000 by omega) (show (131 : Nat) < 1000 by omega), ws _ _ (show (5 : Nat) < 1000 by omega) (show (149 : Nat) < 1000 by omega), ws _ _ (show (6 : Nat) < 1000 by omega) (show (154 : Nat) < 1000 by omega), hO, hP, wO, wP, K4, ren, renO, swp, JH, reduceIte, Nat.reduceEqDiff, Nat.reduceLeDiff] at h
  exact h
end
end Go.Ve

