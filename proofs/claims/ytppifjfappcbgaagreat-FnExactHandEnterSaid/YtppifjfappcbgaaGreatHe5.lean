/- Part 5 of the proof: laws and contracts of functions, each proved; they are joined in the last part. No conditions beyond those that the theorems state. -/
import Derived.Ground.NamesProg
import Derived.Shelf.Small.Bits
import Derived.Shelf.Small.Strs
import Derived.WalkKit
import Derived.Test.YtppifjfappcbgaaGreatProg
import Derived.Test.YtppifjfappcbgaaGreatHe4
set_option linter.all false
namespace Go.Ve
noncomputable section
open Go.Proofs
set_option maxRecDepth 100000
open Go.ChangeShapes Go.WideShapes
set_option maxHeartbeats 2000000 in
theorem QqC (s : Own) (hs : s.small) : Contract P 83 [.agg (s.row 1)] [] (.agg [.str s.fl, .int .i64 s.st, .int .i64 s.tn, .str s.dst, .int .i64 s.la, .int .i64 s.nr, .own 601 0 0 s.tu.length, .int .i64 s.wi, .own 602 0 0 s.nx.length, .own 603 0 0 s.gr.length, .bool s.sent]) [(603, .arr 9 0 1 (s.gr.map Jw)), (602, .arr 100 0 6 (s.nx.map Box6.row)), (601, .arr 100 0 6 (s.tu.map Box6.row))] := by
  have hs1 : True := trivial
  have hs2 : True := trivial
  have hs3 : True := trivial
  have hs4 : True := trivial
  unfold Own.small at hs
  simp only [Own.row]
  refine Qg (Env.nil P) hm WH (nlb rfl) rfl ?_; unfold XH; simp (maxSteps := 2000000) only [bitvec_to_nat, reduceIte, Nat.reduceEqDiff, Nat.reduceAdd, Nat.reduceLeDiff, reduceCtorEq, Nat.reduceBEq, Nat.reduceLT, Nat.reduceMod, fmc, Qf, Qh, Qe, Qu, keepB, Qi, Qw, int_toBitVec_meta, method_specs_simp, Nat.sub_zero, List.append_nil, Jf, Q1, QT, Q8, Gm, hs1, hs2, hs3, hs4]
  have hT0 := (Qex 1 s.tu (by omega)).ren (swp 107 601) (Ja _ _)
  simp only [K8, ren, Ks, renO, swp, reduceIte, Nat.reduceEqDiff, Nat.reduceLT] at hT0
  refine ⟨_, _, .inr (.inr (.inl ⟨_, rfl, hT0, by simp [getM], by simp [Qd, Qb, dom], rfl, by simp [No99], by simp [Z8, Jv, J4]⟩)), ?_⟩
  simp (maxSteps := 2000000) only [bitvec_to_nat, reduceIte, Nat.reduceEqDiff, Nat.reduceAdd, Nat.reduceLeDiff, reduceCtorEq, Nat.reduceBEq, Nat.reduceLT, Nat.reduceMod, fmc, Qf, Qh, Qe, Qu, keepB, Qi, Qw, int_toBitVec_meta, method_specs_simp, Nat.sub_zero, List.append_nil, Jf, Q1, QT, Q8, Gm, hs1, hs2, hs3, hs4]
  have hT1 := (Qex 1 s.nx (by omega)).ren (swp 107 602) (Ja _ _)
  simp only [K8, ren, Ks, renO, swp, reduceIte, Nat.reduceEqDiff, Nat.reduceLT] at hT1
  refine ⟨_, _, .inr (.inr (.inl ⟨_, rfl, hT1, by simp [getM], by simp [Qd, Qb, dom], rfl, by simp [No99], by simp [Z8, Jv, J4]⟩)), ?_⟩
  simp (maxSteps := 2000000) only [bitvec_to_nat, reduceIte, Nat.reduceEqDiff, Nat.reduceAdd, Nat.reduceLeDiff, reduceCtorEq, Nat.reduceBEq, Nat.reduceLT, Nat.reduceMod, fmc, Qf, Qh, Qe, Qu, keepB, Qi, Qw, int_toBitVec_meta, method_specs_simp, Nat.sub_zero, List.append_nil, Jf, Q1, QT, Q8, Gm, hs1, hs2, hs3, hs4]
  have hT2 := (QgP 1 s.gr (by omega)).ren (swp 107 603) (Ja _ _)
  simp only [K8, ren, Ks, renO, swp, reduceIte, Nat.reduceEqDiff, Nat.reduceLT] at hT2
  refine ⟨_, _, .inr (.inr (.inl ⟨_, rfl, hT2, by simp [getM], by simp [Qd, Qb, dom], rfl, by simp [No99], by simp [Z8, Jv, J4]⟩)), ?_⟩
  simp (maxSteps := 2000000) only [bitvec_to_nat, reduceIte, Nat.reduceEqDiff, Nat.reduceAdd, Nat.reduceLeDiff, reduceCtorEq, Nat.reduceBEq, Nat.reduceLT, Nat.reduceMod, fmc, Qf, Qh, Qe, Qu, keepB, Qi, Qw, int_toBitVec_meta, method_specs_simp, Nat.sub_zero, List.append_nil, Jf, Q1, QT, Q8, Gm, hs1, hs2, hs3, hs4]
  repeat' (first | with_reducible apply And.intro | with_reducible intro _)
  all_goals first | omega | rfl | (simp [Qd, Qb, dom]; done)
set_option maxHeartbeats 4000000 in
theorem QoW (t : Nat) (a : List Own) (ha : a.length ≤ 1048576) (hs : ∀ x ∈ a, x.small) : Contract P 42 [.sl t 11 (a.map (Own.row 1))] [] (.own 107 0 0 a.length) (OO 107 71 0 11 QW (Own.row 0) 120 0 a) := by
  have hs1 : True := trivial
  have hs2 : True := trivial
  have hs3 : True := trivial
  have hs4 : True := trivial
  have cl : ∀ (i : Nat), closedB ⟨[(0, .sl t 11 (a.map (Own.row 1))), (3, .own 107 0 0 a.length), (4, .int .i64 ((i : Nat) : Int))], (107, .arr (1000000 + 71) 0 11 (zR (Own.row 0) 120 a i [.str ⟨#[]⟩, .int .i64 0, .int .i64 0, .str ⟨#[]⟩, .int .i64 0, .int .i64 0, .sl 0 6 [], .int .i64 0, .sl 0 6 [], .sl 0 1 [], .bool false])) :: QA QW (Own.row 0) 120 0 (a.take i)⟩ = true := fun i => by
    simp only [closedB, List.all_cons, Bool.and_eq_true]
    refine ⟨⟨rfl, by simp [Qd, dom], rfl, rfl⟩, ?_, Qa5 KZ⟩
    simp only [Qc]
    rw [if_neg (by omega)]
    exact Qn7 QJ rfl fun p hp => List.mem_cons_of_mem _ (Jx hp)
  have kp : ∀ (x : AObj) (i : Nat) (M' : List (Nat × AObj)), keepB ((107, x) :: QA QW (Own.row 0) 120 0 (a.take i)) M' = true := fun x i M' => JX (QY (by omega) (JB QJ (by omega) (by omega)))
  have wm : ∀ (x : AObj) (i : Nat), wkM ((107, x) :: QA QW (Own.row 0) 120 0 (a.take i)) (QA QW (Own.row 0) 120 0 (a.take i)) := fun x i => Q4 fun p hp => by
    have h1 := QF (KR QJ (by omega)) p hp
    have h2 := (Kh QJ (by omega) hp).1
    simp only [getM]
    rw [if_neg (by omega)]; exact h1
  have m0 : List.replicate a.length [.str ⟨#[]⟩, .int .i64 0, .int .i64 0, .str ⟨#[]⟩, .int .i64 0, .int .i64 0, .sl 0 6 [], .int .i64 0, .sl 0 6 [], .sl 0 1 [], .bool false] = zR (Own.row 0) 120 a 0 [.str ⟨#[]⟩, .int .i64 0, .int .i64 0, .str ⟨#[]⟩, .int .i64 0, .int .i64 0, .sl 0 6 [], .int .i64 0, .sl 0 6 [], .sl 0 1 [], .bool false] := Qn6
  refine Qg (Env.nil P) hm Qc8 (nlb rfl) rfl ?_; unfold UC; simp (maxSteps := 2000000) only [bitvec_to_nat, reduceIte, Nat.reduceEqDiff, Nat.reduceAdd, Nat.reduceLeDiff, reduceCtorEq, Nat.reduceBEq, Nat.reduceLT, Nat.reduceMod, fmc, Qf, Qh, Qe, Qu, keepB, Qi, Qw, int_toBitVec_meta, method_specs_simp, Nat.sub_zero, List.append_nil, Jf, Q1, QT, Q8, Gm, hs1, hs2, hs3, hs4]
  refine ⟨by omega, ?_⟩
  refine QbF (fun i : Nat => ⟨[(0, .sl t 11 (a.map (Own.row 1))), (3, .own 107 0 0 a.length), (4, .int .i64 i)], (107, .arr (1000000 + 71) 0 11 (zR (Own.row 0) 120 a i [.str ⟨#[]⟩, .int .i64 0, .int .i64 0, .str ⟨#[]⟩, .int .i64 0, .int .i64 0, .sl 0 6 [], .int .i64 0, .sl 0 6 [], .sl 0 1 [], .bool false])) :: QA QW (Own.row 0) 120 0 (a.take i)⟩) (fun i => i ≤ a.length) (fun i => a.length - i) 0 ?_ (Nat.zero_le _) ?_
  · exact ⟨by repeat' (first | exact trivial | refine ⟨.inr rfl, ?_⟩), ⟨congrArg (fun g => some (AObj.arr (1000000 + 71) 0 11 g)) m0, trivial⟩, cl 0, by simp [keepB, dom]⟩
  intro i hi NX hN
  by_cases h : i < a.length
  · have hx := hs _ (Jy h)
    have hC := (((QqC (a.getD i default) hx).ren (swp 601 (fam 126 i)) (Ja _ _)).ren (swp 602 (fam 128 i)) (Ja _ _)).ren (swp 603 (fam 129 i)) (Ja _ _)
    simp only [K8, ren, Ks, renO, swp, reduceIte, Nat.reduceEqDiff, Nat.reduceLT, Jf, Q1, Q8, Own.row] at hC
    have hn : ∀ q, q < 1000 → getM (QA QW (Own.row 0) 120 0 (a.take i)) (fam q i) = none := fun q hq => Qa7 QJ (by omega) hq
    have hs1 : ∀ (B : List (Nat × AObj)) (q : Nat) (x : AObj), q < 1000 → JP (QA QW (Own.row 0) 120 0 (a.take i) ++ B) (fam q i) x = QA QW (Own.row 0) 120 0 (a.take i) ++ JP B (fam q i) x := fun B q x hq => Yw (hn q hq)
    have hs3 : ∀ (q : Nat) (x : AObj), q < 1000 → JP (QA QW (Own.row 0) 120 0 (a.take i)) (fam q i) x = QA QW (Own.row 0) 120 0 (a.take i) ++ [(fam q i, x)] := fun q x hq => Xr (hn q hq)
    have hs2 := Qra (f := (Own.row 0)) (k := 120) (z := [.str ⟨#[]⟩, .int .i64 0, .int .i64 0, .str ⟨#[]⟩, .int .i64 0, .int .i64 0, .sl 0 6 [], .int .i64 0, .sl 0 6 [], .sl 0 1 [], .bool false]) (row := [.str (a.getD i default).fl, .int .i64 (a.getD i default).st, .int .i64 (a.getD i default).tn, .str (a.getD i default).dst, .int .i64 (a.getD i default).la, .int .i64 (a.getD i default).nr, .own (fam 126 i) 0 0 (a.getD i default).tu.length, .int .i64 (a.getD i default).wi, .own (fam 128 i) 0 0 (a.getD i default).nx.length, .own (fam 129 i) 0 0 (a.getD i default).gr.length, .bool (a.getD i default).sent]) h (by simp [Qck, QmE, Own.row]) rfl
    unfold YG; simp (maxSteps := 2000000) only [bitvec_to_nat, reduceIte, Nat.reduceEqDiff, Nat.reduceAdd, Nat.reduceLeDiff, reduceCtorEq, Nat.reduceBEq, Nat.reduceLT, Nat.reduceMod, fmc, Qf, Qh, Qe, Qu, keepB, Qi, Qw, int_toBitVec_meta, method_specs_simp, Nat.sub_zero, List.append_nil, Jf, Q1, QT, Q8, Gm, hs1, hs2, hs3, hs4]
    refine ⟨fun _ => ⟨by omega, by omega, _, _, .inr (.inr (.inl ⟨_, by simp only [W5, pur, Option.map_some], hC, by simp [getM, Jf, hn], by simp [Qd, Qb, dom], by simp [Qc], by simp [No99, JI, Jh], by simp [Z8, Jv, J4]⟩)), ?_⟩, fun h' => absurd (by omega) h'⟩
    simp (maxSteps := 2000000) only [bitvec_to_nat, reduceIte, Nat.reduceEqDiff, Nat.reduceAdd, Nat.reduceLeDiff, reduceCtorEq, Nat.reduceBEq, Nat.reduceLT, Nat.reduceMod, fmc, Qf, Qh, Qe, Qu, keepB, Qi, Qw, int_toBitVec_meta, method_specs_simp, Nat.sub_zero, List.append_nil, Jf, Q1, QT, Q8, Gm, hs1, hs2, hs3, hs4]
    have em : QA QW (Own.row 0) 120 0 (a.take (i + 1)) = QA QW (Own.row 0) 120 0 (a.take i) ++ [((fam 126 i), .arr 100 0 6 ((a.getD i default).tu.map Box6.row)), ((fam 128 i), .arr 100 0 6 ((a.getD i default).nx.map Box6.row)), ((fam 129 i), .arr 9 0 1 ((a.getD i default).gr.map Jw))] := Qa6 h
    refine ⟨by omega, by omega, hN (i + 1) _ ⟨by repeat' (first | exact trivial | refine ⟨.inr rfl, ?_⟩), ⟨rfl, ?_⟩, cl (i + 1), ?_⟩ h (by omega)⟩
    · rw [em]
      refine Q4 fun p hp => ?_
      have h1 := QF (U := QA QW (Own.row 0) 120 0 (a.take (i + 1))) (KR QJ (by omega)) p (by rw [em]; exact hp)
      have h2 := (Kh (es := QW) (k := 120) (i0 := 0) (a := a.take (i + 1)) QJ (by omega) (p := p) (by rw [em]; exact hp)).1
      rw [em] at h1
      simp only [getM]
      rw [if_neg (by omega)]
      simp only [JK, List.cons_append, List.nil_append, getM] at h1 ⊢
      exact h1
    · exact JX (QY (by omega) (KQ (JB QJ (by omega) (by omega)) (by repeat' (first | exact G8 | refine QY (by rw [Qaf (by omega)]; omega) ?_))))
  · have e : i = a.length := by omega
    subst e
    have et : a.take a.length = a := List.take_length
    have ez : zR (Own.row 0) 120 a a.length [.str ⟨#[]⟩, .int .i64 0, .int .i64 0, .str ⟨#[]⟩, .int .i64 0, .int .i64 0, .sl 0 6 [], .int .i64 0, .sl 0 6 [], .sl 0 1 [], .bool false] = QQ (Own.row 0) 120 0 a := Qq9
    have cl' := cl a.length
    have wm' := wm .gone a.length
    have kp' := kp .gone a.length
    rw [et] at cl' wm' kp'
    rw [ez] at cl'
    have hs1 := ez
    have hs2 := et
    unfold YG; simp (maxSteps := 2000000) only [bitvec_to_nat, reduceIte, Nat.reduceEqDiff, Nat.reduceAdd, Nat.reduceLeDiff, reduceCtorEq, Nat.reduceBEq, Nat.reduceLT, Nat.reduceMod, fmc, Qf, Qh, Qe, Qu, keepB, Qi, Qw, int_toBitVec_meta, method_specs_simp, Nat.sub_zero, List.append_nil, Jf, Q1, QT, Q8, Gm, hs1, hs2, hs3, hs4]
    refine ⟨fun h' => absurd h' (by omega), fun _ => ?_⟩
    refine ⟨Q4 fun p hp => QbR QJ (by omega) (by omega) p hp, UH QJ KZ, by simp [Qd, OO, dom], ?_⟩
    simp only [Bool.true_or, Bool.true_and]
    exact Qik (JB QJ (by omega) (by omega))
set_option maxHeartbeats 2000000 in
theorem QoX (s : Part) (hs : s.small) : Contract P 84 [.agg (s.row 1)] [] (.agg [.str s.fl, .int .i64 s.nr, .own 601 0 0 s.bx.length]) [(601, .arr 100 0 6 (s.bx.map Box6.row))] := by
  have hs1 : True := trivial
  have hs2 : True := trivial
  have hs3 : True := trivial
  have hs4 : True := trivial
  unfold Part.small at hs
  simp only [Part.row]
  refine Qg (Env.nil P) hm V0 (nlb rfl) rfl ?_; unfold Xb; simp (maxSteps := 2000000) only [bitvec_to_nat, reduceIte, Nat.reduceEqDiff, Nat.reduceAdd, Nat.reduceLeDiff, reduceCtorEq, Nat.reduceBEq, Nat.reduceLT, Nat.reduceMod, fmc, Qf, Qh, Qe, Qu, keepB, Qi, Qw, int_toBitVec_meta, method_specs_simp, Nat.sub_zero, List.append_nil, Jf, Q1, QT, Q8, Gm, hs1, hs2, hs3, hs4]
  have hT0 := (Qex 1 s.bx (by omega)).ren (swp 107 601) (Ja _ _)
  simp only [K8, ren, Ks, renO, swp, reduceIte, Nat.reduceEqDiff, Nat.reduceLT] at hT0
  refine ⟨_, _, .inr (.inr (.inl ⟨_, rfl, hT0, by simp [getM], by simp [Qd, Qb, dom], rfl, by simp [No99], by simp [Z8, Jv, J4]⟩)), ?_⟩
  simp (maxSteps := 2000000) only [bitvec_to_nat, reduceIte, Nat.reduceEqDiff, Nat.reduceAdd, Nat.reduceLeDiff, reduceCtorEq, Nat.reduceBEq, Nat.reduceLT, Nat.reduceMod, fmc, Qf, Qh, Qe, Qu, keepB, Qi, Qw, int_toBitVec_meta, method_specs_simp, Nat.sub_zero, List.append_nil, Jf, Q1, QT, Q8, Gm, hs1, hs2, hs3, hs4]
  repeat' (first | with_reducible apply And.intro | with_reducible intro _)
  all_goals first | omega | rfl | (simp [Qd, Qb, dom]; done)
set_option maxHeartbeats 4000000 in
theorem Qm7 (t : Nat) (a : List Part) (ha : a.length ≤ 1048576) (hs : ∀ x ∈ a, x.small) : Contract P 43 [.sl t 3 (a.map (Part.row 1))] [] (.own 107 0 0 a.length) (OO 107 124 0 3 Jo (Part.row 0) 140 0 a) := by
  have hs1 : True := trivial
  have hs2 : True := trivial
  have hs3 : True := trivial
  have hs4 : True := trivial
  have cl : ∀ (i : Nat), closedB ⟨[(0, .sl t 3 (a.map (Part.row 1))), (3, .own 107 0 0 a.length), (4, .int .i64 ((i : Nat) : Int))], (107, .arr (1000000 + 124) 0 3 (zR (Part.row 0) 140 a i [.str ⟨#[]⟩, .int .i64 0, .sl 0 6 []])) :: QA Jo (Part.row 0) 140 0 (a.take i)⟩ = true := fun i => by
    simp only [closedB, List.all_cons, Bool.and_eq_true]
    refine ⟨⟨rfl, by simp [Qd, dom], rfl, rfl⟩, ?_, Qa5 J8⟩
    simp only [Qc]
    rw [if_neg (by omega)]
    exact Qn7 QH rfl fun p hp => List.mem_cons_of_mem _ (Jx hp)
  have kp : ∀ (x : AObj) (i : Nat) (M' : List (Nat × AObj)), keepB ((107, x) :: QA Jo (Part.row 0) 140 0 (a.take i)) M' = true := fun x i M' => JX (QY (by omega) (JB QH (by omega) (by omega)))
  have wm : ∀ (x : AObj) (i : Nat), wkM ((107, x) :: QA Jo (Part.row 0) 140 0 (a.take i)) (QA Jo (Part.row 0) 140 0 (a.take i)) := fun x i => Q4 fun p hp => by
    have h1 := QF (KR QH (by omega)) p hp
    have h2 := (Kh QH (by omega) hp).1
    simp only [getM]
    rw [if_neg (by omega)]; exact h1
  have m0 : List.replicate a.length [.str ⟨#[]⟩, .int .i64 0, .sl 0 6 []] = zR (Part.row 0) 140 a 0 [.str ⟨#[]⟩, .int .i64 0, .sl 0 6 []] := Qn6
  refine Qg (Env.nil P) hm Qb2 (nlb rfl) rfl ?_; unfold Z2; simp (maxSteps := 2000000) only [bitvec_to_nat, reduceIte, Nat.reduceEqDiff, Nat.reduceAdd, Nat.reduceLeDiff, reduceCtorEq, Nat.reduceBEq, Nat.reduceLT, Nat.reduceMod, fmc, Qf, Qh, Qe, Qu, keepB, Qi, Qw, int_toBitVec_meta, method_specs_simp, Nat.sub_zero, List.append_nil, Jf, Q1, QT, Q8, Gm, hs1, hs2, hs3, hs4]
  refine ⟨by omega, ?_⟩
  refine QbF (fun i : Nat => ⟨[(0, .sl t 3 (a.map (Part.row 1))), (3, .own 107 0 0 a.length), (4, .int .i64 i)], (107, .arr (1000000 + 124) 0 3 (zR (Part.row 0) 140 a i [.str ⟨#[]⟩, .int .i64 0, .sl 0 6 []])) :: QA Jo (Part.row 0) 140 0 (a.take i)⟩) (fun i => i ≤ a.length) (fun i => a.length - i) 0 ?_ (Nat.zero_le _) ?_
  · exact ⟨by repeat' (first | exact trivial | refine ⟨.inr rfl, ?_⟩), ⟨congrArg (fun g => some (AObj.arr (1000000 + 124) 0 3 g)) m0, trivial⟩, cl 0, by simp [keepB, dom]⟩
  intro i hi NX hN
  by_cases h : i < a.length
  · have hx := hs _ (Jy h)
    have hC := (QoX (a.getD i default) hx).ren (swp 601 (fam 142 i)) (Ja _ _)
    simp only [K8, ren, Ks, renO, swp, reduceIte, Nat.reduceEqDiff, Nat.reduceLT, Jf, Q1, Q8, Part.row] at hC
    have hn : ∀ q, q < 1000 → getM (QA Jo (Part.row 0) 140 0 (a.take i)) (fam q i) = none := fun q hq => Qa7 QH (by omega) hq
    have hs1 : ∀ (B : List (Nat × AObj)) (q : Nat) (x : AObj), q < 1000 → JP (QA Jo (Part.row 0) 140 0 (a.take i) ++ B) (fam q i) x = QA Jo (Part.row 0) 140 0 (a.take i) ++ JP B (fam q i) x := fun B q x hq => Yw (hn q hq)
    have hs3 : ∀ (q : Nat) (x : AObj), q < 1000 → JP (QA Jo (Part.row 0) 140 0 (a.take i)) (fam q i) x = QA Jo (Part.row 0) 140 0 (a.take i) ++ [(fam q i, x)] := fun q x hq => Xr (hn q hq)
    have hs2 := Qra (f := (Part.row 0)) (k := 140) (z := [.str ⟨#[]⟩, .int .i64 0, .sl 0 6 []]) (row := [.str (a.getD i default).fl, .int .i64 (a.getD i default).nr, .own (fam 142 i) 0 0 (a.getD i default).bx.length]) h (by simp [Qck, QmE, Part.row]) rfl
    unfold Yk; simp (maxSteps := 2000000) only [bitvec_to_nat, reduceIte, Nat.reduceEqDiff, Nat.reduceAdd, Nat.reduceLeDiff, reduceCtorEq, Nat.reduceBEq, Nat.reduceLT, Nat.reduceMod, fmc, Qf, Qh, Qe, Qu, keepB, Qi, Qw, int_toBitVec_meta, method_specs_simp, Nat.sub_zero, List.append_nil, Jf, Q1, QT, Q8, Gm, hs1, hs2, hs3, hs4]
    refine ⟨fun _ => ⟨by omega, by omega, _, _, .inr (.inr (.inl ⟨_, by simp only [W5, pur, Option.map_some], hC, by simp [getM, Jf, hn], by simp [Qd, Qb, dom], by simp [Qc], by simp [No99, JI, Jh], by simp [Z8, Jv, J4]⟩)), ?_⟩, fun h' => absurd (by omega) h'⟩
    simp (maxSteps := 2000000) only [bitvec_to_nat, reduceIte, Nat.reduceEqDiff, Nat.reduceAdd, Nat.reduceLeDiff, reduceCtorEq, Nat.reduceBEq, Nat.reduceLT, Nat.reduceMod, fmc, Qf, Qh, Qe, Qu, keepB, Qi, Qw, int_toBitVec_meta, method_specs_simp, Nat.sub_zero, List.append_nil, Jf, Q1, QT, Q8, Gm, hs1, hs2, hs3, hs4]
    have em : QA Jo (Part.row 0) 140 0 (a.take (i + 1)) = QA Jo (Part.row 0) 140 0 (a.take i) ++ [((fam 142 i), .arr 100 0 6 ((a.getD i default).bx.map Box6.row))] := Qa6 h
    refine ⟨by omega, by omega, hN (i + 1) _ ⟨by repeat' (first | exact trivial | refine ⟨.inr rfl, ?_⟩), ⟨rfl, ?_⟩, cl (i + 1), ?_⟩ h (by omega)⟩
    · rw [em]
      refine Q4 fun p hp => ?_
      have h1 := QF (U := QA Jo (Part.row 0) 140 0 (a.take (i + 1))) (KR QH (by omega)) p (by rw [em]; exact hp)
      have h2 := (Kh (es := Jo) (k := 140) (i0 := 0) (a := a.take (i + 1)) QH (by omega) (p := p) (by rw [em]; exact hp)).1
      rw [em] at h1
      simp only [getM]
      rw [if_neg (by omega)]
      simp only [JK, List.cons_append, List.nil_append, getM] at h1 ⊢
      exact h1
    · exact JX (QY (by omega) (KQ (JB QH (by omega) (by omega)) (by repeat' (first | exact G8 | refine QY (by rw [Qaf (by omega)]; omega) ?_))))
  · have e : i = a.length := by omega
    subst e
    have et : a.take a.length = a := List.take_length
    have ez : zR (Part.row 0) 140 a a.length [.str ⟨#[]⟩, .int .i64 0, .sl 0 6 []] = QQ (Part.row 0) 140 0 a := Qq9
    have cl' := cl a.length
    have wm' := wm .gone a.length
    have kp' := kp .gone a.length
    rw [et] at cl' wm' kp'
    rw [ez] at cl'
    have hs1 := ez
    have hs2 := et
    unfold Yk; simp (maxSteps := 2000000) only [bitvec_to_nat, reduceIte, Nat.reduceEqDiff, Nat.reduceAdd, Nat.reduceLeDiff, reduceCtorEq, Nat.reduceBEq, Nat.reduceLT, Nat.reduceMod, fmc, Qf, Qh, Qe, Qu, keepB, Qi, Qw, int_toBitVec_meta, method_specs_simp, Nat.sub_zero, List.append_nil, Jf, Q1, QT, Q8, Gm, hs1, hs2, hs3, hs4]
    refine ⟨fun h' => absurd h' (by omega), fun _ => ?_⟩
    refine ⟨Q4 fun p hp => QbR QH (by omega) (by omega) p hp, UH QH J8, by simp [Qd, OO, dom], ?_⟩
    simp only [Bool.true_or, Bool.true_and]
    exact Qik (JB QH (by omega) (by omega))
end
end Go.Ve

namespace Go.Ve
noncomputable section
open Go.Proofs
set_option maxRecDepth 100000
open Go.ChangeShapes Go.WideShapes
theorem Jc {o e v k q sz : Nat} {a : List Own} (h : q ≠ o) (hq : q < 1000) (hk : k + 11 ≤ 1000) : Qbj (OO o e v sz QW (Own.row 0) k 0 a) q := fun p hp e => by
  have := Yb QJ hk hp; omega
theorem Kn {o e v k sz : Nat} {a : List Own} (ho : o < 1000) (hk : k + 11 ≤ 1000) : Zb (OO o e v sz QW (Own.row 0) k 0 a) := UG QJ hk ho
theorem Jp {o e v k q sz : Nat} {a : List Part} (h : q ≠ o) (hq : q < 1000) (hk : k + 3 ≤ 1000) : Qbj (OO o e v sz Jo (Part.row 0) k 0 a) q := fun p hp e => by
  have := Yb QH hk hp; omega
theorem Kc {o e v k sz : Nat} {a : List Part} (ho : o < 1000) (hk : k + 3 ≤ 1000) : Zb (OO o e v sz Jo (Part.row 0) k 0 a) := UG QH hk ho
theorem Qiw {M : Nat → Option AObj} {o : Nat} {x : AObj} (h : M o = some x) : ∀ p ∈ [(o, x)], M p.1 = some p.2 := fun p hp => by
  rw [List.mem_singleton.1 hp]; exact h
abbrev Qha (o v k : Nat) (l : List Own) : List (Nat × AObj) := OO o 71 v 11 QW (Own.row 0) k 0 l
abbrev YH (o v k : Nat) (l : List Part) : List (Nat × AObj) := OO o 124 v 3 Jo (Part.row 0) k 0 l
abbrev UL (o v : Nat) (l : List Seen) : List (Nat × AObj) := [(o, .arr 118 v 2 (l.map Seen.row))]
def bkV (b : Book) (a va c vc d vd : Nat) : AV := .agg [.own a va 0 b.own.length, .own c vc 0 b.parts.length, .own d vd 0 b.seen.length]
def bkM (b : Book) (a va c vc d vd kO kP : Nat) : List (Nat × AObj) := Qha a va kO b.own ++ (YH c vc kP b.parts ++ UL d vd b.seen)
theorem KH {b : Book} {a va c vc d vd kO kP : Nat} (hO : kO + 11 ≤ 1000) (hP : kP + 3 ≤ 1000) {p : Nat × AObj} (h : p ∈ bkM b a va c vc d vd kO kP) :
    p.1 = a ∨ p.1 = c ∨ p.1 = d ∨ (1000 ≤ p.1 ∧ ((kO ≤ p.1 % 1000 ∧ p.1 % 1000 < kO + 11) ∨ (kP ≤ p.1 % 1000 ∧ p.1 % 1000 < kP + 3))) := by
  simp only [bkM, List.mem_append] at h
  rcases h with h | h | h
  · have := Yb QJ hO h; omega
  · have := Yb QH hP h; omega
  · rw [List.mem_singleton.1 h]; exact .inr (.inr (.inl rfl))
theorem QlG {A B : List (Nat × AObj)} (h : Zb A) (k : Zb B) (d : dis A B) : Zb (A ++ B) := by
  unfold Zb; rw [List.pairwise_append]; exact ⟨h, k, fun p hp q hq => d p hp q hq⟩
theorem QqD {o : Nat} {x : AObj} : Zb [(o, x)] := List.pairwise_singleton _ _
theorem Xk {b : Book} {a va c vc d vd kO kP : Nat} (h1 : a ≠ c) (h2 : a ≠ d) (h3 : c ≠ d) (ha : a < 1000) (hc : c < 1000) (hd : d < 1000) (hO : kO + 11 ≤ 1000) (hP : kP + 3 ≤ 1000) (hk : kO + 11 ≤ kP ∨ kP + 3 ≤ kO) : Zb (bkM b a va c vc d vd kO kP) := by
  unfold bkM
  refine QlG (UG QJ hO ha) (QlG (UG QH hP hc) QqD fun p hp q hq e => ?_) fun p hp q hq e => ?_
  · have := Yb QH hP hp; rw [List.mem_singleton.1 hq] at e; simp only at e; omega
  · have := Yb QJ hO hp
    rcases List.mem_append.1 hq with hq | hq
    · have := Yb QH hP hq; omega
    · rw [List.mem_singleton.1 hq] at e; simp only at e; omega
theorem UD {b : Book} {a va c vc d vd kO kP : Nat} {D : List Nat} (h : ∀ p ∈ bkM b a va c vc d vd kO kP, p.1 ∈ D) : ((bkM b a va c vc d vd kO kP).all fun p => Qc D p.2) = true := by
  simp only [bkM, List.mem_append] at h
  simp only [bkM, List.all_append, Bool.and_eq_true]
  exact ⟨Wn QJ KZ fun p hp => h p (.inl (List.mem_cons_of_mem _ hp)), Wn QH J8 fun p hp => h p (.inr (.inl (List.mem_cons_of_mem _ hp))), rfl⟩
theorem QaP {b : Book} {a va c vc d vd kO kP : Nat} : ((bkM b a va c vc d vd kO kP).all fun p => Qc (dom (bkM b a va c vc d vd kO kP)) p.2) = true := UD fun p h => Jx h
theorem Qbf {b : Book} {a va c vc d vd kO kP : Nat} : ((bkM b a va c vc d vd kO kP).reverse.all fun p => Qc (dom (bkM b a va c vc d vd kO kP).reverse) p.2) = true := by
  rw [List.all_reverse]
  exact UD fun p h => Jx (List.mem_reverse.2 h)
theorem Qbg {b : Book} {a va c vc d vd kO kP : Nat} {D : List Nat} (h : ∀ p ∈ bkM b a va c vc d vd kO kP, p.1 ∈ D) : Qd D (bkV b a va c vc d vd) = true := by
  have h1 : a ∈ D := h (a, _) (by simp only [bkM, OO, List.cons_append, List.mem_cons]; exact .inl rfl)
  have h2 : c ∈ D := h (c, _) (by simp only [bkM, OO, List.cons_append, List.mem_cons, List.mem_append]; exact .inr (.inr (.inl rfl)))
  have h3 : d ∈ D := h (d, _) (by simp only [bkM, List.mem_append]; exact .inr (.inr (List.mem_singleton.2 rfl)))
  simp [bkV, Qd, Qb, h1, h2, h3]
theorem QeL {b : Book} {a va c vc d vd kO kP : Nat} : Qd (dom (bkM b a va c vc d vd kO kP)) (bkV b a va c vc d vd) = true := Qbg (kO := kO) (kP := kP) fun p h => Jx h
theorem Qda {b : Book} {a va c vc d vd kO kP : Nat} : Qd (dom (bkM b a va c vc d vd kO kP).reverse) (bkV b a va c vc d vd) = true := Qbg (kO := kO) (kP := kP) fun p h => Jx (List.mem_reverse.2 h)
theorem QqE {b : Book} {a va c vc d vd kO kP : Nat} : ∀ p ∈ bkM b a va c vc d vd kO kP, Z8 p.2 := fun p hp => by
  simp only [bkM, List.mem_append] at hp
  rcases hp with h | h | h
  · exact QpR QJ p h
  · exact QpR QH p h
  · rw [List.mem_singleton.1 h]; exact JJ _
theorem QqF {b : Book} {a va c vc d vd kO kP : Nat} : ((bkM b a va c vc d vd kO kP).all fun p => Qch p.2) = true := by
  have h1 := Qln (o := a) (e := 71) (v := va) (sz := 11) (es := QW) (k := kO) (i0 := 0) (a := b.own) QJ
  have h2 := Qln (o := c) (e := 124) (v := vc) (sz := 3) (es := Jo) (k := kP) (i0 := 0) (a := b.parts) QH
  unfold bkM
  rw [List.all_append, List.all_append, h1, h2, Bool.true_and, Bool.true_and]
  simp only [List.all_cons, List.all_nil, Bool.and_true, Qch]
  rw [List.all_eq_true]
  intro r hr
  obtain ⟨x, _, rfl⟩ := List.mem_map.1 hr
  rfl
theorem QlH {b : Book} {a va c vc d vd kO kP : Nat} (ha : 100 ≤ a % 1000) (hc : 100 ≤ c % 1000) (hd : 100 ≤ d % 1000) (hO : kO + 11 ≤ 1000) (hP : kP + 3 ≤ 1000) (h1 : 100 ≤ kO) (h2 : 100 ≤ kP) : YJ (bkM b a va c vc d vd kO kP) :=
  KQ (Qlk QJ hO h1 ha) (KQ (Qlk QH hP h2 hc) (QY hd G8))
theorem K0 {b : Book} {a va c vc d vd kO kP kO' kP' : Nat} {σ : Nat → Nat} (hO : ∀ j i, j < 11 → σ (fam (kO + j) (0 + i)) = fam (kO' + j) (0 + i)) (hP : ∀ j i, j < 3 → σ (fam (kP + j) (0 + i)) = fam (kP' + j) (0 + i)) : Ks σ (bkM b a va c vc d vd kO kP) = bkM b (σ a) va (σ c) vc (σ d) vd kO' kP' := by
  simp only [bkM, QaZ, Qha, YH, UL, Qbt QJ KZ hO, Qbt QH J8 hP, Ks, renO]
  rfl
theorem Qix {b : Book} {a va c vc d vd : Nat} {σ : Nat → Nat} : ren σ (bkV b a va c vc d vd) = bkV b (σ a) va (σ c) vc (σ d) vd := by simp only [bkV, ren, K8]
theorem Wx {M K : Nat → Option AObj} {b : Book} {a va c vc d vd kO kP : Nat} (hM : ∀ p ∈ bkM b a va c vc d vd kO kP, M p.1 = some p.2) (hK : ∀ p ∈ bkM b a va c vc d vd kO kP, K p.1 = some p.2) : UO M K (bkV b a va c vc d vd) = some (.agg (b.row 99)) := by
  have m1 : ∀ p ∈ Qha a va kO b.own, p ∈ bkM b a va c vc d vd kO kP := fun p hp => by simp only [bkM, List.mem_append]; exact .inl hp
  have m2 : ∀ p ∈ YH c vc kP b.parts, p ∈ bkM b a va c vc d vd kO kP := fun p hp => by simp only [bkM, List.mem_append]; exact .inr (.inl hp)
  have m3 : ∀ p ∈ UL d vd b.seen, p ∈ bkM b a va c vc d vd kO kP := fun p hp => by simp only [bkM, List.mem_append]; exact .inr (.inr hp)
  have e1 := Qn3 (M := M) (K := K) (o := a) (e := 71) (v := va) (sz := 11) (m := b.own.length) QJ KZ rfl (fun p hp => hM p (m1 p hp)) (fun p hp => hK p (m1 p hp))
  have e2 := Qn3 (M := M) (K := K) (o := c) (e := 124) (v := vc) (sz := 3) (m := b.parts.length) QH J8 rfl (fun p hp => hM p (m2 p hp)) (fun p hp => hK p (m2 p hp))
  have e3 := Qgi (M := M) (K := K) (hM _ (m3 (d, .arr 118 vd 2 (b.seen.map Seen.row)) (List.mem_singleton.2 rfl))) (fun r hr => by obtain ⟨x, _, rfl⟩ := List.mem_map.1 hr; rfl) (List.length_map ..).symm
  simp only [bkV, UO, UP] at e1 e2 e3 ⊢
  simp only [e1, e2, e3, Option.map_some, Book.row]
  rfl
theorem QaQ (t : Nat) (b : Book) : tag0 (.agg (b.row t)) = .agg (b.row 0) := by
  simp only [Book.row, tag0, Yz, QqB, QoU]
  rw [Wm (f := Seen.row) (fun _ => rfl)]
theorem YI (t : Nat) (ht : t ≠ 98) (b : Book) : QmD (.agg (b.row t)) = true := by
  simp only [Book.row, QmD, Xv, QoV ht, Qm2 ht]
  rw [Gc (f := Seen.row) (fun _ => rfl)]
  simp [ht]
set_option maxHeartbeats 2000000 in
theorem QoY (b : Book) (hs : b.small) : Contract P 11 [.agg (b.row 1)] [] (bkV b 611 0 612 0 613 0) (bkM b 611 0 612 0 613 0 120 140) := by
  have d3 : True := trivial
  unfold Book.small at hs
  have hT1 := ((QoW 1 b.own hs.1.1 hs.1.2).ren (swp 107 611) (Ja _ _)).post_eq (post' := (Qha 611 0 120 b.own).reverse) (by
    rw [Qbt (k' := 120) (i1 := 0) QJ KZ (fun j i hj => KU (by omega) (by omega))]
    exact funext fun o => Wl (UG QJ (by omega) (by omega)) o)
  have hT2 := ((Qm7 1 b.parts hs.2.1.1 hs.2.1.2).ren (swp 107 612) (Ja _ _)).post_eq (post' := (YH 612 0 140 b.parts).reverse) (by
    rw [Qbt (k' := 140) (i1 := 0) QH J8 (fun j i hj => KU (by omega) (by omega))]
    exact funext fun o => Wl (UG QH (by omega) (by omega)) o)
  have hT3 := (Qm4 1 b.seen (by omega)).ren (swp 107 613) (Ja _ _)
  simp only [K8, ren, Ks, renO, swp, reduceIte, Nat.reduceEqDiff, Nat.reduceLT] at hT1 hT2 hT3
  have d1 : dis (Qha 611 0 120 b.own) (YH 612 0 140 b.parts) := fun p hp q hq e => by
    have := Yb QJ (by omega) hp; have := Yb QH (by omega) hq; omega
  have d2 : dis (YH 612 0 140 b.parts) (Qha 611 0 120 b.own) := K2 d1
  simp only [Book.row]
  refine Qg (Env.nil P) hm VG (nlb rfl) rfl ?_; unfold G9; simp (maxSteps := 2000000) (maxDischargeDepth := 8) only [bitvec_to_nat, reduceIte, Nat.reduceEqDiff, Nat.reduceAdd, Nat.reduceLeDiff, reduceCtorEq, Nat.reduceBEq, Nat.reduceLT, Nat.reduceMod, fmc, Qf, Qh, Qe, Qu, keepB, Qi, Qw, int_toBitVec_meta, method_specs_simp, Nat.sub_zero, bkV, List.append_nil, Jz, Q9, JA, JH, JF, XG, Gb, QbP, Qa2, QbQ, Zc, VC, Zn, Qa0, Jc, Jp, Kn, Kc, List.cons_append, List.nil_append, List.append_assoc, Qa1, d1, d2, d3, YK, Kz]
  refine ⟨_, _, .inr (.inr (.inl ⟨_, rfl, hT1, Xt (by repeat' (first | exact Xs | refine Jl (Jc (by omega) (by omega) (by omega)) ?_)), by simp [Qd, OO, dom], Qn2 QJ KZ, trivial, fun p hp => QpR QJ p (List.mem_reverse.1 hp)⟩)), ?_⟩
  simp (maxSteps := 2000000) (maxDischargeDepth := 8) only [bitvec_to_nat, reduceIte, Nat.reduceEqDiff, Nat.reduceAdd, Nat.reduceLeDiff, reduceCtorEq, Nat.reduceBEq, Nat.reduceLT, Nat.reduceMod, fmc, Qf, Qh, Qe, Qu, keepB, Qi, Qw, int_toBitVec_meta, method_specs_simp, Nat.sub_zero, bkV, List.append_nil, Jz, Q9, JA, JH, JF, XG, Gb, QbP, Qa2, QbQ, Zc, VC, Zn, Qa0, Jc, Jp, Kn, Kc, List.cons_append, List.nil_append, List.append_assoc, Qa1, d1, d2, d3, YK, Kz]
  refine ⟨_, _, .inr (.inr (.inl ⟨_, rfl, hT2, Xt (by repeat' (first | exact Xs | exact Qn0 d1 | refine QfC d1 ?_ | refine Jl (Jp (by omega) (by omega) (by omega)) ?_)), by simp [Qd, OO, dom], Qn2 QH J8, trivial, fun p hp => QpR QH p (List.mem_reverse.1 hp)⟩)), ?_⟩
  simp (maxSteps := 2000000) (maxDischargeDepth := 8) only [bitvec_to_nat, reduceIte, Nat.reduceEqDiff, Nat.reduceAdd, Nat.reduceLeDiff, reduceCtorEq, Nat.reduceBEq, Nat.reduceLT, Nat.reduceMod, fmc, Qf, Qh, Qe, Qu, keepB, Qi, Qw, int_toBitVec_meta, method_specs_simp, Nat.sub_zero, bkV, List.append_nil, Jz, Q9, JA, JH, JF, XG, Gb, QbP, Qa2, QbQ, Zc, VC, Zn, Qa0, Jc, Jp, Kn, Kc, List.cons_append, List.nil_append, List.append_assoc, Qa1, d1, d2, d3, YK, Kz]
  refine ⟨_, _, .inr (.inr (.inl ⟨_, rfl, hT3, Qkn (by simp (config := { maxDischargeDepth := 8 }) only [getM, Jz, Q9, JA, JH, JF, XG, Gb, QbP, Qa2, QbQ, Zc, VC, Zn, Qa0, Jc, Jp, Kn, Kc, List.cons_append, List.nil_append, List.append_assoc, Qa1, d1, d2, d3, YK, Kz, Nat.reduceEqDiff, Nat.reduceLT, Nat.reduceAdd, Nat.reduceLeDiff, reduceIte, ne_eq, not_false_eq_true]), by simp [Qd, dom], rfl, trivial, by simp [Z8, JJ]⟩)), ?_⟩
  simp (maxSteps := 2000000) (maxDischargeDepth := 8) only [bitvec_to_nat, reduceIte, Nat.reduceEqDiff, Nat.reduceAdd, Nat.reduceLeDiff, reduceCtorEq, Nat.reduceBEq, Nat.reduceLT, Nat.reduceMod, fmc, Qf, Qh, Qe, Qu, keepB, Qi, Qw, int_toBitVec_meta, method_specs_simp, Nat.sub_zero, bkV, List.append_nil, Jz, Q9, JA, JH, JF, XG, Gb, QbP, Qa2, QbQ, Zc, VC, Zn, Qa0, Jc, Jp, Kn, Kc, List.cons_append, List.nil_append, List.append_assoc, Qa1, d1, d2, d3, YK, Kz]
  have ho : ∀ q, q < 600 → Qbj (bkM b 611 0 612 0 613 0 120 140) q := fun q hq p hp e => by
    have := KH (by omega) (by omega) hp; omega
  refine ⟨Q4 (QD (ho 101 (by omega)) (QD (ho 102 (by omega)) (QD (ho 103 (by omega)) (QF (Xk (by omega) (by omega) (by omega) (by omega) (by omega) (by omega) (by omega) (by omega) (by omega)))))), QaP, by have := QeL (b := b) (a := 611) (va := 0) (c := 612) (vc := 0) (d := 613) (vd := 0) (kO := 120) (kP := 140); simpa only [bkV, Qd, Qb, Bool.and_true, dom] using this, ?_⟩
  simp only [Bool.true_or, Bool.true_and]
  exact Qik (QlH (b := b) (a := 611) (va := 0) (c := 612) (vc := 0) (d := 613) (vd := 0) (kO := 120) (kP := 140) (by omega) (by omega) (by omega) (by omega) (by omega) (by omega) (by omega))
end
end Go.Ve

namespace Go.Ve
noncomputable section
open Go.Proofs
set_option maxRecDepth 100000
open Go.ChangeShapes Go.WideShapes
def Kd : List AV → Option (Prop × AV)
  | [.sl _ 1 zx, .int .i64 k] => some (zx = (Km k zx.length).map Jw ∧ zx.length ≤ 1048577 ∧ (0 ≤ k ∧ k ≤ 1125899906842624), .int .i64 (k + (zx.length : Nat)))
  | _ => none
theorem Qfw : ∀ args p v, Kd args = some (p, v) → p → Contract P 97 args [] v [] ∧ noref v = true ∧ No99 v := by
  intro args p v h1 h2
  unfold Kd at h1
  split at h1
  · rename_i t zx k
    cases h1
    obtain ⟨e1, h3, h4⟩ := h2
    have := Qfv t k zx.length h3 h4
    rw [← e1] at this
    exact ⟨this, rfl, trivial⟩
  · cases h1
def Kq : List AV → Option (Prop × AV)
  | [.sl _ 6 zx, .int .i64 k] => some (zx = (XJ k zx.length).map Box6.row ∧ zx.length ≤ 1048577 ∧ (0 ≤ k ∧ k ≤ 1125899906842624), .int .i64 (k + 6 * (zx.length : Nat)))
  | _ => none
theorem QgV : ∀ args p v, Kq args = some (p, v) → p → Contract P 56 args [] v [] ∧ noref v = true ∧ No99 v := by
  intro args p v h1 h2
  unfold Kq at h1
  split at h1
  · rename_i t zx k
    cases h1
    obtain ⟨e1, h3, h4⟩ := h2
    have := QkH t k zx.length h3 h4
    rw [← e1] at this
    exact ⟨this, rfl, trivial⟩
  · cases h1
/-- A word, and the version of its own tube. -/
structure VW where
  ve : Nat
  kd : Int
  fr : ByteArray
  dst : ByteArray
  fl : ByteArray
  nr : Int
  la : Int
  tn : Int
  tu : List Box6
  deriving Inhabited
def VW.rowO (w : VW) : List AV := [.int .i64 w.kd, .str w.fr, .str w.dst, .str w.fl, .int .i64 w.nr, .int .i64 w.la, .int .i64 w.tn, .sl w.ve 6 (w.tu.map Box6.row)]
def VW.w (w : VW) : Word := ⟨w.kd, w.fr, w.dst, w.fl, w.nr, w.la, w.tn, w.tu⟩
theorem UE : RowOk 8 VW.rowO := ⟨fun x => rfl, fun x => by simp only [VW.rowO, List.all_cons, simpleV, QgO, List.all_nil, Bool.and_self]⟩
def XK (k : Int) (x : Part) : Part := ⟨(mtx (k)), (k + 1), (XJ (k + 1 + 1) x.bx.length)⟩
def QeM (x : Part) : Nat := 2 + 6 * x.bx.length
def JG (l : List Part) (i : Nat) : Nat := ((l.take i).map QeM).sum
theorem QaR {l : List Part} {i : Nat} (h : i < l.length) : JG l (i + 1) = JG l i + QeM (l.getD i default) := by
  unfold JG
  rw [List.take_succ_eq_append_getElem h, List.map_append, List.sum_append]; simp [h]
def Part.sm (x : Part) : Prop := x.bx.length ≤ 1048577
theorem QeN {l : List Part} (hs : ∀ x ∈ l, x.sm) {i : Nat} (h : i ≤ l.length) : JG l i ≤ i * 13631600 := by
  induction i with
  | zero => simp [JG]
  | succ i ih =>
    have h' := ih (by omega)
    have h2 := hs _ (Jy (show i < l.length from h))
    unfold Part.sm at h2
    have h3 : QeM (l.getD i default) ≤ 13631600 := by unfold QeM; omega
    rw [QaR h]; omega
def XL (k : Int) (l : List Part) : List Part := l.mapIdx fun i x => XK (k + (JG l i : Nat)) x
theorem YY {k : Int} {l : List Part} : (XL k l).length = l.length := by simp [XL]
theorem QgW {k : Int} {l : List Part} {i : Nat} (h : i < l.length) : (XL k l).getD i default = XK (k + (JG l i : Nat)) (l.getD i default) := by simp [XL, h]
set_option maxHeartbeats 4000000 in
theorem QkL (v : Nat) (k : Int) (a : List Part) (ha : a.length ≤ 1048577) (hs : ∀ x ∈ a, x.sm) (hk : 0 ≤ k ∧ k ≤ 35184372088832) : Contract P 54 [.own 3 v 0 a.length, .int .i64 k] (OO 3 124 v 3 Jo (Part.row 0) 7 0 a) (.int .i64 (k + (JG a a.length : Nat))) (OO 3 124 v 3 Jo (Part.row 0) 7 0 (XL k a)) := by
  have hr0 : True := trivial
  have gsr : True := trivial
  have hg0 : True := trivial
  have hg1 : True := trivial
  have hg2 : True := trivial
  have cl : ∀ (l : List Part) (kk : Int) (i : Nat), closedB ⟨[(0, .own 3 v 0 a.length), (1, .int .i64 kk), (5, .int .i64 i)], OO 3 124 v 3 Jo (Part.row 0) 7 0 l⟩ = true := fun l kk i => by
    simp only [closedB, List.all_cons, Bool.and_eq_true]
    exact ⟨⟨by simp [Qd, dom, OO], rfl, rfl, rfl⟩, UH QH J8⟩
  have dsh : ∀ x y : Part, ((Part.row 0) x).map Qbk = ((Part.row 0) y).map Qbk := fun _ _ => rfl
  refine Qg ((Env.nil P).add 52 Qr Kb) Go.Ve.hm XY (nlb rfl) ?_ ?_
  · rw [List.all_eq_true]
    intro q hq
    obtain ⟨p, hp, rfl⟩ := List.mem_map.1 hq
    have := Yb QH (by omega) hp
    simp only [decide_eq_true_eq]; omega
  unfold YB
  simp (maxSteps := 2000000) only [bitvec_to_nat, reduceIte, Nat.reduceEqDiff, Nat.reduceAdd, Nat.reduceLeDiff, reduceCtorEq, Nat.reduceBEq, Nat.reduceLT, Nat.reduceMod, fmc, Qf, Qh, Qe, Qu, keepB, Qi, Qw, Qr, hg0, hg1, hg2, hr0, gsr, List.set_set, Qhl, Int.toNat_natCast, List.length_map, List.length_set, Q7, Nat.sub_zero, Nat.zero_add, Jf, Q1, QT, Q8, QP]
  refine QbF (fun b : Nat × List Part => ⟨[(0, .own 3 v 0 a.length), (1, .int .i64 (k + (JG a b.1 : Nat))), (5, .int .i64 b.1)], OO 3 124 v 3 Jo (Part.row 0) 7 0 b.2⟩)
    (fun b => b.1 ≤ a.length ∧ b.2.length = a.length ∧ (∀ j, j < b.1 → b.2.getD j default = XK (k + (JG a j : Nat)) (a.getD j default)) ∧ ∀ j, b.1 ≤ j → j < a.length → b.2.getD j default = a.getD j default)
    (fun b => a.length - b.1) (0, a) ?_ ⟨Nat.zero_le _, rfl, fun j hj => absurd hj (Nat.not_lt_zero _), fun j _ _ => rfl⟩ ?_
  · have e0 : k + ((JG a 0 : Nat) : Int) = k := by simp [JG]
    simp only [e0]
    exact ⟨by repeat' (first | exact trivial | refine ⟨.inr rfl, ?_⟩), Q4 (QbR QH (by omega) (by omega)), cl _ _ _, Qc9⟩
  rintro ⟨i, l⟩ ⟨h1, h2, h3, h4⟩ NX hN
  simp only at h1 h2 h3 h4
  have hct := QeN hs h1
  by_cases hi : i < a.length
  · have hli := h4 i (Nat.le_refl _) hi
    have hil : i < l.length := by omega
    have hx := hs _ (Jy hi)
    unfold Part.sm at hx
    have hr0 : (QQ (Part.row 0) 7 0 l).getD i [] = [.str (a.getD i default).fl, .int .i64 (a.getD i default).nr, .own (fam 9 i) 0 0 (a.getD i default).bx.length] := by rw [Qgj hil, hli]; simp [Part.row, Qck, QmE]
    have gsr : ∀ r : List AV, ((QQ (Part.row 0) 7 0 l).set i r).getD i [] = r := fun r => Qcn (by rw [Q7]; exact hil)
    have hM0 := (Qb3 0 (k + (JG a i : Nat) + 1 + 1) (a.getD i default).bx (by omega) (by omega)).ren (swp 3 (fam 9 i)) (Ja _ _)
    simp only [K8, ren, Ks, renO, swp, reduceIte, Nat.reduceLT] at hM0
    have hg0 : getM (QA Jo (Part.row 0) 7 0 l) (fam 9 i) = some (.arr 100 0 6 ((a.getD i default).bx.map Box6.row)) := by
      have := Qcl (es := Jo) (k := 7) (i0 := 0) (a := l) (i := i) (j := 2) (v := 0) (sz := 6) (xs := (a.getD i default).bx.map Box6.row) QH (by omega) hil (by rw [hli]; rfl)
      rw [Nat.zero_add] at this
      exact this
    have e5 : k + ((JG a (i + 1) : Nat) : Int) = k + (JG a i : Nat) + 1 + 1 + 6 * ((a.getD i default).bx.length : Int) := by rw [QaR hi]; unfold QeM; omega
    simp only [OO]
    unfold J6; simp (maxSteps := 2000000) only [bitvec_to_nat, reduceIte, Nat.reduceEqDiff, Nat.reduceAdd, Nat.reduceLeDiff, reduceCtorEq, Nat.reduceBEq, Nat.reduceLT, Nat.reduceMod, fmc, Qf, Qh, Qe, Qu, keepB, Qi, Qw, Qr, hg0, hg1, hg2, hr0, gsr, List.set_set, Qhl, Int.toNat_natCast, List.length_map, List.length_set, Q7, Nat.sub_zero, Nat.zero_add, Jf, Q1, QT, Q8, QP]
    refine ⟨fun _ => ?_, fun h => absurd (by omega) h⟩
    repeat (refine ⟨by first | omega | rfl, ?_⟩)
    refine ⟨_, _, .inl ⟨_, hM0, by simp [getM, QT, Jf, Q1, Q8, hg0], by simp [dom], by simp [dom], by simp [Qb, Qd, dom], by simp [Qc], rfl, by simp [Qc]⟩, ?_⟩
    simp (maxSteps := 2000000) only [bitvec_to_nat, reduceIte, Nat.reduceEqDiff, Nat.reduceAdd, Nat.reduceLeDiff, reduceCtorEq, Nat.reduceBEq, Nat.reduceLT, Nat.reduceMod, fmc, Qf, Qh, Qe, Qu, keepB, Qi, Qw, Qr, hg0, hg1, hg2, hr0, gsr, List.set_set, Qhl, Int.toNat_natCast, List.length_map, List.length_set, Q7, Nat.sub_zero, Nat.zero_add, Jf, Q1, QT, Q8, QP]
    repeat (refine ⟨by omega, ?_⟩)
    rw [← e5]
    have hd1 : (l.set i (XK (k + (JG a i : Nat)) (a.getD i default))).length = l.length := List.length_set
    refine hN (i + 1, l.set i (XK (k + (JG a i : Nat)) (a.getD i default))) _ ⟨by repeat' (first | exact trivial | refine ⟨.inr rfl, ?_⟩), Q4 (Qrb QH (by omega) ?_ ?_ ?_), cl _ _ _, Yc ?_⟩ ⟨hi, by rw [List.length_set]; exact h2, fun j hj => ?_, fun j h6 h7 => ?_⟩ (by simp only; omega)
    · simp only [getM, Nat.reduceEqDiff, reduceIte]
      rw [Qjs hil (y := XK (k + (JG a i : Nat)) (a.getD i default)) (by simp [Part.row, Qck, QmE, XK, QP])]
    · intro p hp hne
      have q1 := QF (KR QH (by omega)) p hp
      have q2 := (Kh QH (by omega) hp).1
      have q3 : ∀ c, c < 1000 → (p.1 = fam c i) = False := fun c hc => by have := hne c hc; rw [Nat.zero_add] at this; simp [this]
      have q4 : (p.1 = 3) = False := by simp; omega
      simp only [getM, QT, q4, if_false, q3 9 (by omega), q1]
    · intro j v' sz xs hj
      rw [Nat.zero_add]
      have hj2 := QeX hj
      rw [QH.len] at hj2
      have cases : j = 0 ∨ j = 1 ∨ j = 2 := by omega
      rcases cases with rfl | rfl | rfl
      all_goals first
        | (cases hj; done)
        | (cases hj; simp [getM, QT, Jf, Q1, Q8, Jo, XK, hg0]; done)
        | (simp [Part.row, XK] at hj; obtain ⟨rfl, rfl, rfl⟩ := hj; simp [getM, QT, Jf, Q1, Q8, Jo]; done)
        | (simp [Part.row, XK] at hj; done)
        | trace_state
    · have q0 : ∀ x, dom ((3, x) :: QA Jo (Part.row 0) 7 0 l) = dom (OO 3 124 v 3 Jo (Part.row 0) 7 0 l) := fun x => rfl
      have qm : ∀ j v' sz xs, ((Part.row 0) (l.getD i default))[j]? = some (.sl v' sz xs) → fam (7 + j) i ∈ dom (QA Jo (Part.row 0) 7 0 l) := fun j v' sz xs hj => by
        have := Jx (Kg (es := Jo) (k := 7) (i0 := 0) (p := (fam (7 + j) (0 + i), .arr (Jo j) v' sz xs)).2 ⟨i, j, v', sz, xs, hil, hj, rfl⟩)
        rw [Nat.zero_add] at this
        exact this
      have qm0 : fam 9 i ∈ dom (QA Jo (Part.row 0) 7 0 l) := qm 2 _ _ _ (by rw [hli]; rfl)
      have qd : dom (OO 3 124 v 3 Jo (Part.row 0) 7 0 (l.set i (XK (k + (JG a i : Nat)) (a.getD i default)))) = dom (OO 3 124 v 3 Jo (Part.row 0) 7 0 l) := Qbu dsh hd1
      rw [qd, ← q0 .gone]
      simp only [dom, List.map_cons, List.cons.injEq, true_and]
      have qs := fun (M : List (Nat × AObj)) (o : Nat) (x : AObj) (h : o ∈ dom M) => Qlp (M := M) (o := o) (x := x) h
      simp only [dom] at qs qm0 ⊢
      simp (config := { maxDischargeDepth := 8 }) only [qs, qm0]
    · simp only at hj ⊢
      by_cases e : j = i
      · subst e; exact KS hil
      · rw [Y4 (Ne.symm e)]; exact h3 j (by omega)
    · simp only at h6 ⊢
      rw [Y4 (by omega)]; exact h4 j (by omega) h7
  · have hl : l = XL k a := WR (by rw [YY]; exact h2) fun j hj => by rw [QgW (by omega)]; exact h3 j (by omega)
    have e : i = a.length := by omega
    subst hl
    subst e
    simp only [OO]
    unfold J6; simp (maxSteps := 2000000) only [bitvec_to_nat, reduceIte, Nat.reduceEqDiff, Nat.reduceAdd, Nat.reduceLeDiff, reduceCtorEq, Nat.reduceBEq, Nat.reduceLT, Nat.reduceMod, fmc, Qf, Qh, Qe, Qu, keepB, Qi, Qw, Qr, hg0, hg1, hg2, hr0, gsr, List.set_set, Qhl, Int.toNat_natCast, List.length_map, List.length_set, Q7, Nat.sub_zero, Nat.zero_add, Jf, Q1, QT, Q8, QP]
    refine ⟨fun h => absurd h (by omega), fun _ => ⟨Q4 fun p hp => QbR (o := 3) (e := 124) (v := v) (sz := 3) QH (by omega) (by omega) p (List.mem_cons_of_mem _ hp), UH (o := 3) (v := v) (sz := 3) (e := 124) QH J8, Qc9 (M := OO 3 124 v 3 Jo (Part.row 0) 7 0 (XL k a))⟩⟩
set_option maxHeartbeats 4000000 in
theorem QgX (t t' : Nat) (k : Int) (a : List Part) (ha : a.length ≤ 1048577) (hs : ∀ x ∈ a, x.sm) (hk : 0 ≤ k ∧ k ≤ 35184372088832) : Contract P 63 [.sl t 3 ((XL k a).map (Part.row t')), .int .i64 k] [] (.int .i64 (k + (JG a a.length : Nat))) [] := by
  refine Qg (((Env.nil P).add 52 Qr Kb).add 56 Kq QgV) hm Qbm (nlb rfl) rfl ?_; unfold X0; simp (maxSteps := 2000000) only [bitvec_to_nat, reduceIte, Nat.reduceEqDiff, Nat.reduceAdd, Nat.reduceLeDiff, reduceCtorEq, Nat.reduceBEq, Nat.reduceLT, Nat.reduceMod, fmc, Qr, Kq, int_toBitVec_meta, method_specs_simp, Int.toNat_natCast, List.length_map, Nat.sub_zero, Nat.zero_add, YY, QP]
  refine QE (fun i : Nat => [(1, .int .i64 (k + (JG a i : Nat))), (5, .int .i64 i)]) (fun _ => []) (fun i => i ≤ a.length) (fun i => a.length - i) 0 ?_ (Nat.zero_le _) ?_
  · have e0 : k + ((JG a 0 : Nat) : Int) = k := by simp [JG]
    simp only [e0]
    simp only [Jr, Js, Jt, Ju, Qj, Qk, Ql, Qm, reduceIte, Nat.reduceEqDiff]; exact ⟨by repeat' (first | exact trivial | refine ⟨.inr rfl, ?_⟩), by repeat' (first | exact trivial | refine ⟨rfl, ?_⟩), by first | rfl | simp [closedB, Qd, Qb, Qc, dom, Qa, *], by first | rfl | simp [keepB, dom]⟩
  intro i hi NX hN
  have hct := QeN hs hi
  by_cases h : i < a.length
  · have hg := QgW (k := k) h
    have hx := hs _ (Jy h)
    unfold Part.sm at hx
    have e5 : k + ((JG a (i + 1) : Nat) : Int) = k + (JG a i : Nat) + 1 + 1 + 6 * ((a.getD i default).bx.length : Int) := by rw [QaR h]; unfold QeM; omega
    unfold KW; simp (maxSteps := 2000000) only [bitvec_to_nat, reduceIte, Nat.reduceEqDiff, Nat.reduceAdd, Nat.reduceLeDiff, reduceCtorEq, Nat.reduceBEq, Nat.reduceLT, Nat.reduceMod, fmc, Qr, Kq, int_toBitVec_meta, method_specs_simp, Int.toNat_natCast, List.length_map, Nat.sub_zero, Nat.zero_add, YY, QP, hg, XK, not_true_eq_false, ne_eq, bne_self_eq_false, eq_self, not_false_eq_true]
    repeat' (first | with_reducible apply And.intro | with_reducible intro _)
    all_goals first
      | omega
      | rfl
      | (rename_i h; exact absurd rfl h)
      | (refine hN (i + 1) _ (by simp only [e5]; simp only [Jr, Js, Jt, Ju, Qj, Qk, Ql, Qm, reduceIte, Nat.reduceEqDiff]; exact ⟨by repeat' (first | exact trivial | refine ⟨.inr rfl, ?_⟩), by repeat' (first | exact trivial | refine ⟨rfl, ?_⟩), by first | rfl | simp [closedB, Qd, Qb, Qc, dom, Qa, *], by first | rfl | simp [keepB, dom]⟩) ?_ ?_ <;> omega)
      | trace_state
  · have e : i = a.length := by omega
    subst e
    unfold KW; simp (maxSteps := 2000000) only [bitvec_to_nat, reduceIte, Nat.reduceEqDiff, Nat.reduceAdd, Nat.reduceLeDiff, reduceCtorEq, Nat.reduceBEq, Nat.reduceLT, Nat.reduceMod, fmc, Qr, Kq, int_toBitVec_meta, method_specs_simp, Int.toNat_natCast, List.length_map, Nat.sub_zero, Nat.zero_add, YY, QP]
    repeat' (first | with_reducible apply And.intro | with_reducible intro _)
    all_goals first
      | omega
      | rfl
      | (exfalso; omega)
      | trace_state
def QtS (k : Int) (x : VW) : VW := ⟨x.ve, (k), (mtx (k + 1)), (mtx (k + 1 + 1)), (mtx (k + 1 + 1 + 1)), (k + 1 + 1 + 1 + 1), (k + 1 + 1 + 1 + 1 + 1), (k + 1 + 1 + 1 + 1 + 1 + 1), (XJ (k + 1 + 1 + 1 + 1 + 1 + 1 + 1) x.tu.length)⟩
def QtT (x : VW) : Nat := 7 + 6 * x.tu.length
def QtU (l : List VW) (i : Nat) : Nat := ((l.take i).map QtT).sum
def VW.sm (x : VW) : Prop := x.tu.length ≤ 1048577
def Qm8 (k : Int) (l : List VW) : List VW := l.mapIdx fun i x => QtS (k + (QtU l i : Nat)) x
theorem QjJ {k : Int} {l : List VW} : (Qm8 k l).length = l.length := by simp [Qm8]
def WX (k : Int) (x : Own) : Own := ⟨(mtx (k)), (k + 1), (k + 1 + 1), (mtx (k + 1 + 1 + 1)), (k + 1 + 1 + 1 + 1), (k + 1 + 1 + 1 + 1 + 1), (XJ (k + 1 + 1 + 1 + 1 + 1 + 1) x.tu.length), (k + 1 + 1 + 1 + 1 + 1 + 1 + 6 * (x.tu.length : Int)), (XJ (k + 1 + 1 + 1 + 1 + 1 + 1 + 6 * (x.tu.length : Int) + 1) x.nx.length), (Km (k + 1 + 1 + 1 + 1 + 1 + 1 + 6 * (x.tu.length : Int) + 1 + 6 * (x.nx.length : Int)) x.gr.length), (decide ((k + 1 + 1 + 1 + 1 + 1 + 1 + 6 * (x.tu.length : Int) + 1 + 6 * (x.nx.length : Int) + (x.gr.length : Int)) % 3 = 0))⟩
def QhX (x : Own) : Nat := 8 + 6 * x.tu.length + 6 * x.nx.length + x.gr.length
def Ko (l : List Own) (i : Nat) : Nat := ((l.take i).map QhX).sum
theorem Qb4 {l : List Own} {i : Nat} (h : i < l.length) : Ko l (i + 1) = Ko l i + QhX (l.getD i default) := by
  unfold Ko
  rw [List.take_succ_eq_append_getElem h, List.map_append, List.sum_append]; simp [h]
def Own.sm (x : Own) : Prop := x.tu.length ≤ 1048577 ∧ x.nx.length ≤ 1048577 ∧ x.gr.length ≤ 1048577
theorem QgY {l : List Own} (hs : ∀ x ∈ l, x.sm) {i : Nat} (h : i ≤ l.length) : Ko l i ≤ i * 13631600 := by
  induction i with
  | zero => simp [Ko]
  | succ i ih =>
    have h' := ih (by omega)
    have h2 := hs _ (Jy (show i < l.length from h))
    unfold Own.sm at h2
    have h3 : QhX (l.getD i default) ≤ 13631600 := by unfold QhX; omega
    rw [Qb4 h]; omega
def WY (k : Int) (l : List Own) : List Own := l.mapIdx fun i x => WX (k + (Ko l i : Nat)) x
theorem KF {k : Int} {l : List Own} : (WY k l).length = l.length := by simp [WY]
theorem QhY {k : Int} {l : List Own} {i : Nat} (h : i < l.length) : (WY k l).getD i default = WX (k + (Ko l i : Nat)) (l.getD i default) := by simp [WY, h]
set_option maxHeartbeats 4000000 in
theorem Qm9 (v : Nat) (k : Int) (a : List Own) (ha : a.length ≤ 1048577) (hs : ∀ x ∈ a, x.sm) (hk : 0 ≤ k ∧ k ≤ 35184372088832) : Contract P 53 [.own 3 v 0 a.length, .int .i64 k] (OO 3 71 v 11 QW (Own.row 0) 7 0 a) (.int .i64 (k + (Ko a a.length : Nat))) (OO 3 71 v 11 QW (Own.row 0) 7 0 (WY k a)) := by
  have hr0 : True := trivial
  have gsr : True := trivial
  have hg0 : True := trivial
  have hg1 : True := trivial
  have hg2 : True := trivial
  have cl : ∀ (l : List Own) (kk : Int) (i : Nat), closedB ⟨[(0, .own 3 v 0 a.length), (1, .int .i64 kk), (5, .int .i64 i)], OO 3 71 v 11 QW (Own.row 0) 7 0 l⟩ = true := fun l kk i => by
    simp only [closedB, List.all_cons, Bool.and_eq_true]
    exact ⟨⟨by simp [Qd, dom, OO], rfl, rfl, rfl⟩, UH QJ KZ⟩
  have dsh : ∀ x y : Own, ((Own.row 0) x).map Qbk = ((Own.row 0) y).map Qbk := fun _ _ => rfl
  refine Qg ((Env.nil P).add 52 Qr Kb) Go.Ve.hm Zx (nlb rfl) ?_ ?_
  · rw [List.all_eq_true]
    intro q hq
    obtain ⟨p, hp, rfl⟩ := List.mem_map.1 hq
    have := Yb QJ (by omega) hp
    simp only [decide_eq_true_eq]; omega
  unfold YT
  simp (maxSteps := 2000000) only [bitvec_to_nat, reduceIte, Nat.reduceEqDiff, Nat.reduceAdd, Nat.reduceLeDiff, reduceCtorEq, Nat.reduceBEq, Nat.reduceLT, Nat.reduceMod, fmc, Qf, Qh, Qe, Qu, keepB, Qi, Qw, Qr, hg0, hg1, hg2, hr0, gsr, List.set_set, Qhl, Int.toNat_natCast, List.length_map, List.length_set, Q7, Nat.sub_zero, Nat.zero_add, Jf, Q1, QT, Q8, QP, QP, Q6]
  refine QbF (fun b : Nat × List Own => ⟨[(0, .own 3 v 0 a.length), (1, .int .i64 (k + (Ko a b.1 : Nat))), (5, .int .i64 b.1)], OO 3 71 v 11 QW (Own.row 0) 7 0 b.2⟩)
    (fun b => b.1 ≤ a.length ∧ b.2.length = a.length ∧ (∀ j, j < b.1 → b.2.getD j default = WX (k + (Ko a j : Nat)) (a.getD j default)) ∧ ∀ j, b.1 ≤ j → j < a.length → b.2.getD j default = a.getD j default)
    (fun b => a.length - b.1) (0, a) ?_ ⟨Nat.zero_le _, rfl, fun j hj => absurd hj (Nat.not_lt_zero _), fun j _ _ => rfl⟩ ?_
  · have e0 : k + ((Ko a 0 : Nat) : Int) = k := by simp [Ko]
    simp only [e0]
    exact ⟨by repeat' (first | exact trivial | refine ⟨.inr rfl, ?_⟩), Q4 (QbR QJ (by omega) (by omega)), cl _ _ _, Qc9⟩
  rintro ⟨i, l⟩ ⟨h1, h2, h3, h4⟩ NX hN
  simp only at h1 h2 h3 h4
  have hct := QgY hs h1
  by_cases hi : i < a.length
  · have hli := h4 i (Nat.le_refl _) hi
    have hil : i < l.length := by omega
    have hx := hs _ (Jy hi)
    unfold Own.sm at hx
    have hr0 : (QQ (Own.row 0) 7 0 l).getD i [] = [.str (a.getD i default).fl, .int .i64 (a.getD i default).st, .int .i64 (a.getD i default).tn, .str (a.getD i default).dst, .int .i64 (a.getD i default).la, .int .i64 (a.getD i default).nr, .own (fam 13 i) 0 0 (a.getD i default).tu.length, .int .i64 (a.getD i default).wi, .own (fam 15 i) 0 0 (a.getD i default).nx.length, .own (fam 16 i) 0 0 (a.getD i default).gr.length, .bool (a.getD i default).sent] := by rw [Qgj hil, hli]; simp [Own.row, Qck, QmE]
    have gsr : ∀ r : List AV, ((QQ (Own.row 0) 7 0 l).set i r).getD i [] = r := fun r => Qcn (by rw [Q7]; exact hil)
    have hM0 := (Qb3 0 (k + (Ko a i : Nat) + 1 + 1 + 1 + 1 + 1 + 1) (a.getD i default).tu (by omega) (by omega)).ren (swp 3 (fam 13 i)) (Ja _ _)
    simp only [K8, ren, Ks, renO, swp, reduceIte, Nat.reduceLT] at hM0
    have hg0 : getM (QA QW (Own.row 0) 7 0 l) (fam 13 i) = some (.arr 100 0 6 ((a.getD i default).tu.map Box6.row)) := by
      have := Qcl (es := QW) (k := 7) (i0 := 0) (a := l) (i := i) (j := 6) (v := 0) (sz := 6) (xs := (a.getD i default).tu.map Box6.row) QJ (by omega) hil (by rw [hli]; rfl)
      rw [Nat.zero_add] at this
      exact this
    have hM1 := (Qb3 0 (k + (Ko a i : Nat) + 1 + 1 + 1 + 1 + 1 + 1 + 6 * ((a.getD i default).tu.length : Int) + 1) (a.getD i default).nx (by omega) (by omega)).ren (swp 3 (fam 15 i)) (Ja _ _)
    simp only [K8, ren, Ks, renO, swp, reduceIte, Nat.reduceLT] at hM1
    have hg1 : getM (QA QW (Own.row 0) 7 0 l) (fam 15 i) = some (.arr 100 0 6 ((a.getD i default).nx.map Box6.row)) := by
      have := Qcl (es := QW) (k := 7) (i0 := 0) (a := l) (i := i) (j := 8) (v := 0) (sz := 6) (xs := (a.getD i default).nx.map Box6.row) QJ (by omega) hil (by rw [hli]; rfl)
      rw [Nat.zero_add] at this
      exact this
    have hM2 := (Qfu 0 (k + (Ko a i : Nat) + 1 + 1 + 1 + 1 + 1 + 1 + 6 * ((a.getD i default).tu.length : Int) + 1 + 6 * ((a.getD i default).nx.length : Int)) (a.getD i default).gr (by omega) (by omega)).ren (swp 3 (fam 16 i)) (Ja _ _)
    simp only [K8, ren, Ks, renO, swp, reduceIte, Nat.reduceLT] at hM2
    have hg2 : getM (QA QW (Own.row 0) 7 0 l) (fam 16 i) = some (.arr 9 0 1 ((a.getD i default).gr.map Jw)) := by
      have := Qcl (es := QW) (k := 7) (i0 := 0) (a := l) (i := i) (j := 9) (v := 0) (sz := 1) (xs := (a.getD i default).gr.map Jw) QJ (by omega) hil (by rw [hli]; rfl)
      rw [Nat.zero_add] at this
      exact this
    have e5 : k + ((Ko a (i + 1) : Nat) : Int) = k + (Ko a i : Nat) + 1 + 1 + 1 + 1 + 1 + 1 + 6 * ((a.getD i default).tu.length : Int) + 1 + 6 * ((a.getD i default).nx.length : Int) + ((a.getD i default).gr.length : Int) + 1 := by rw [Qb4 hi]; unfold QhX; omega
    simp only [OO]
    unfold Ki; simp (maxSteps := 2000000) only [bitvec_to_nat, reduceIte, Nat.reduceEqDiff, Nat.reduceAdd, Nat.reduceLeDiff, reduceCtorEq, Nat.reduceBEq, Nat.reduceLT, Nat.reduceMod, fmc, Qf, Qh, Qe, Qu, keepB, Qi, Qw, Qr, hg0, hg1, hg2, hr0, gsr, List.set_set, Qhl, Int.toNat_natCast, List.length_map, List.length_set, Q7, Nat.sub_zero, Nat.zero_add, Jf, Q1, QT, Q8, QP, QP, Q6]
    refine ⟨fun _ => ?_, fun h => absurd (by omega) h⟩
    repeat (refine ⟨by first | omega | rfl, ?_⟩)
    refine ⟨_, _, .inl ⟨_, hM0, by simp [getM, QT, Jf, Q1, Q8, hg0, hg1, hg2], by simp [dom], by simp [dom], by simp [Qb, Qd, dom], by simp [Qc], rfl, by simp [Qc]⟩, ?_⟩
    simp (maxSteps := 2000000) only [bitvec_to_nat, reduceIte, Nat.reduceEqDiff, Nat.reduceAdd, Nat.reduceLeDiff, reduceCtorEq, Nat.reduceBEq, Nat.reduceLT, Nat.reduceMod, fmc, Qf, Qh, Qe, Qu, keepB, Qi, Qw, Qr, hg0, hg1, hg2, hr0, gsr, List.set_set, Qhl, Int.toNat_natCast, List.length_map, List.length_set, Q7, Nat.sub_zero, Nat.zero_add, Jf, Q1, QT, Q8, QP, QP, Q6]
    repeat (refine ⟨by first | omega | rfl, ?_⟩)
    refine ⟨_, _, .inl ⟨_, hM1, by simp [getM, QT, Jf, Q1, Q8, hg0, hg1, hg2], by simp [dom], by simp [dom], by simp [Qb, Qd, dom], by simp [Qc], rfl, by simp [Qc]⟩, ?_⟩
    simp (maxSteps := 2000000) only [bitvec_to_nat, reduceIte, Nat.reduceEqDiff, Nat.reduceAdd, Nat.reduceLeDiff, reduceCtorEq, Nat.reduceBEq, Nat.reduceLT, Nat.reduceMod, fmc, Qf, Qh, Qe, Qu, keepB, Qi, Qw, Qr, hg0, hg1, hg2, hr0, gsr, List.set_set, Qhl, Int.toNat_natCast, List.length_map, List.length_set, Q7, Nat.sub_zero, Nat.zero_add, Jf, Q1, QT, Q8, QP, QP, Q6]
    repeat (refine ⟨by first | omega | rfl, ?_⟩)
    refine ⟨_, _, .inl ⟨_, hM2, by simp [getM, QT, Jf, Q1, Q8, hg0, hg1, hg2], by simp [dom], by simp [dom], by simp [Qb, Qd, dom], by simp [Qc], rfl, by simp [Qc]⟩, ?_⟩
    simp (maxSteps := 2000000) only [bitvec_to_nat, reduceIte, Nat.reduceEqDiff, Nat.reduceAdd, Nat.reduceLeDiff, reduceCtorEq, Nat.reduceBEq, Nat.reduceLT, Nat.reduceMod, fmc, Qf, Qh, Qe, Qu, keepB, Qi, Qw, Qr, hg0, hg1, hg2, hr0, gsr, List.set_set, Qhl, Int.toNat_natCast, List.length_map, List.length_set, Q7, Nat.sub_zero, Nat.zero_add, Jf, Q1, QT, Q8, QP, QP, Q6]
    repeat (refine ⟨by omega, ?_⟩)
    rw [← e5]
    have hd1 : (l.set i (WX (k + (Ko a i : Nat)) (a.getD i default))).length = l.length := List.length_set
    refine hN (i + 1, l.set i (WX (k + (Ko a i : Nat)) (a.getD i default))) _ ⟨by repeat' (first | exact trivial | refine ⟨.inr rfl, ?_⟩), Q4 (Qrb QJ (by omega) ?_ ?_ ?_), cl _ _ _, Yc ?_⟩ ⟨hi, by rw [List.length_set]; exact h2, fun j hj => ?_, fun j h6 h7 => ?_⟩ (by simp only; omega)
    · simp only [getM, Nat.reduceEqDiff, reduceIte]
      rw [Qjs hil (y := WX (k + (Ko a i : Nat)) (a.getD i default)) (by simp [Own.row, Qck, QmE, WX, QP, QP, Q6])]
    · intro p hp hne
      have q1 := QF (KR QJ (by omega)) p hp
      have q2 := (Kh QJ (by omega) hp).1
      have q3 : ∀ c, c < 1000 → (p.1 = fam c i) = False := fun c hc => by have := hne c hc; rw [Nat.zero_add] at this; simp [this]
      have q4 : (p.1 = 3) = False := by simp; omega
      simp only [getM, QT, q4, if_false, q3 13 (by omega), q3 15 (by omega), q3 16 (by omega), q1]
    · intro j v' sz xs hj
      rw [Nat.zero_add]
      have hj2 := QeX hj
      rw [QJ.len] at hj2
      have cases : j = 0 ∨ j = 1 ∨ j = 2 ∨ j = 3 ∨ j = 4 ∨ j = 5 ∨ j = 6 ∨ j = 7 ∨ j = 8 ∨ j = 9 ∨ j = 10 := by omega
      rcases cases with rfl | rfl | rfl | rfl | rfl | rfl | rfl | rfl | rfl | rfl | rfl
      all_goals first
        | (cases hj; done)
        | (cases hj; simp [getM, QT, Jf, Q1, Q8, QW, WX, hg0]; done)
        | (simp [Own.row, WX] at hj; obtain ⟨rfl, rfl, rfl⟩ := hj; simp [getM, QT, Jf, Q1, Q8, QW]; done)
        | (simp [Own.row, WX] at hj; done)
        | trace_state
    · have q0 : ∀ x, dom ((3, x) :: QA QW (Own.row 0) 7 0 l) = dom (OO 3 71 v 11 QW (Own.row 0) 7 0 l) := fun x => rfl
      have qm : ∀ j v' sz xs, ((Own.row 0) (l.getD i default))[j]? = some (.sl v' sz xs) → fam (7 + j) i ∈ dom (QA QW (Own.row 0) 7 0 l) := fun j v' sz xs hj => by
        have := Jx (Kg (es := QW) (k := 7) (i0 := 0) (p := (fam (7 + j) (0 + i), .arr (QW j) v' sz xs)).2 ⟨i, j, v', sz, xs, hil, hj, rfl⟩)
        rw [Nat.zero_add] at this
        exact this
      have qm0 : fam 13 i ∈ dom (QA QW (Own.row 0) 7 0 l) := qm 6 _ _ _ (by rw [hli]; rfl)
      have qm1 : fam 15 i ∈ dom (QA QW (Own.row 0) 7 0 l) := qm 8 _ _ _ (by rw [hli]; rfl)
      have qm2 : fam 16 i ∈ dom (QA QW (Own.row 0) 7 0 l) := qm 9 _ _ _ (by rw [hli]; rfl)
      have qd : dom (OO 3 71 v 11 QW (Own.row 0) 7 0 (l.set i (WX (k + (Ko a i : Nat)) (a.getD i default)))) = dom (OO 3 71 v 11 QW (Own.row 0) 7 0 l) := Qbu dsh hd1
      rw [qd, ← q0 .gone]
      simp only [dom, List.map_cons, List.cons.injEq, true_and]
      have qs := fun (M : List (Nat × AObj)) (o : Nat) (x : AObj) (h : o ∈ dom M) => Qlp (M := M) (o := o) (x := x) h
      simp only [dom] at qs qm0 qm1 qm2 ⊢
      simp (config := { maxDischargeDepth := 8 }) only [qs, qm0, qm1, qm2]
    · simp only at hj ⊢
      by_cases e : j = i
      · subst e; exact KS hil
      · rw [Y4 (Ne.symm e)]; exact h3 j (by omega)
    · simp only at h6 ⊢
      rw [Y4 (by omega)]; exact h4 j (by omega) h7
  · have hl : l = WY k a := WR (by rw [KF]; exact h2) fun j hj => by rw [QhY (by omega)]; exact h3 j (by omega)
    have e : i = a.length := by omega
    subst hl
    subst e
    simp only [OO]
    unfold Ki; simp (maxSteps := 2000000) only [bitvec_to_nat, reduceIte, Nat.reduceEqDiff, Nat.reduceAdd, Nat.reduceLeDiff, reduceCtorEq, Nat.reduceBEq, Nat.reduceLT, Nat.reduceMod, fmc, Qf, Qh, Qe, Qu, keepB, Qi, Qw, Qr, hg0, hg1, hg2, hr0, gsr, List.set_set, Qhl, Int.toNat_natCast, List.length_map, List.length_set, Q7, Nat.sub_zero, Nat.zero_add, Jf, Q1, QT, Q8, QP, QP, Q6]
    refine ⟨fun h => absurd h (by omega), fun _ => ⟨Q4 fun p hp => QbR (o := 3) (e := 71) (v := v) (sz := 11) QJ (by omega) (by omega) p (List.mem_cons_of_mem _ hp), UH (o := 3) (v := v) (sz := 11) (e := 71) QJ KZ, Qc9 (M := OO 3 71 v 11 QW (Own.row 0) 7 0 (WY k a))⟩⟩
set_option maxHeartbeats 4000000 in
theorem QhZ (t t' : Nat) (k : Int) (a : List Own) (ha : a.length ≤ 1048577) (hs : ∀ x ∈ a, x.sm) (hk : 0 ≤ k ∧ k ≤ 35184372088832) : Contract P 62 [.sl t 11 ((WY k a).map (Own.row t')), .int .i64 k] [] (.int .i64 (k + (Ko a a.length : Nat))) [] := by
  refine Qg ((((Env.nil P).add 52 Qr Kb).add 56 Kq QgV).add 97 Kd Qfw) hm QbU (nlb rfl) rfl ?_; unfold Zz; simp (maxSteps := 2000000) only [bitvec_to_nat, reduceIte, Nat.reduceEqDiff, Nat.reduceAdd, Nat.reduceLeDiff, reduceCtorEq, Nat.reduceBEq, Nat.reduceLT, Nat.reduceMod, fmc, Qr, Kq, Kd, int_toBitVec_meta, method_specs_simp, Int.toNat_natCast, List.length_map, Nat.sub_zero, Nat.zero_add, KF, QP, QP, Q6]
  refine QE (fun i : Nat => [(1, .int .i64 (k + (Ko a i : Nat))), (5, .int .i64 i)]) (fun _ => []) (fun i => i ≤ a.length) (fun i => a.length - i) 0 ?_ (Nat.zero_le _) ?_
  · have e0 : k + ((Ko a 0 : Nat) : Int) = k := by simp [Ko]
    simp only [e0]
    simp only [Jr, Js, Jt, Ju, Qj, Qk, Ql, Qm, reduceIte, Nat.reduceEqDiff]; exact ⟨by repeat' (first | exact trivial | refine ⟨.inr rfl, ?_⟩), by repeat' (first | exact trivial | refine ⟨rfl, ?_⟩), by first | rfl | simp [closedB, Qd, Qb, Qc, dom, Qa, *], by first | rfl | simp [keepB, dom]⟩
  intro i hi NX hN
  have hct := QgY hs hi
  by_cases h : i < a.length
  · have hg := QhY (k := k) h
    have hx := hs _ (Jy h)
    unfold Own.sm at hx
    have e5 : k + ((Ko a (i + 1) : Nat) : Int) = k + (Ko a i : Nat) + 1 + 1 + 1 + 1 + 1 + 1 + 6 * ((a.getD i default).tu.length : Int) + 1 + 6 * ((a.getD i default).nx.length : Int) + ((a.getD i default).gr.length : Int) + 1 := by rw [Qb4 h]; unfold QhX; omega
    unfold Yf; simp (maxSteps := 2000000) only [bitvec_to_nat, reduceIte, Nat.reduceEqDiff, Nat.reduceAdd, Nat.reduceLeDiff, reduceCtorEq, Nat.reduceBEq, Nat.reduceLT, Nat.reduceMod, fmc, Qr, Kq, Kd, int_toBitVec_meta, method_specs_simp, Int.toNat_natCast, List.length_map, Nat.sub_zero, Nat.zero_add, KF, QP, QP, Q6, hg, WX, not_true_eq_false, ne_eq, bne_self_eq_false, eq_self, not_false_eq_true]
    repeat' (first | with_reducible apply And.intro | with_reducible intro _)
    all_goals first
      | omega
      | rfl
      | (rename_i h; exact absurd rfl h)
      | (refine hN (i + 1) _ (by simp only [e5]; simp only [Jr, Js, Jt, Ju, Qj, Qk, Ql, Qm, reduceIte, Nat.reduceEqDiff]; exact ⟨by repeat' (first | exact trivial | refine ⟨.inr rfl, ?_⟩), by repeat' (first | exact trivial | refine ⟨rfl, ?_⟩), by first | rfl | simp [closedB, Qd, Qb, Qc, dom, Qa, *], by first | rfl | simp [keepB, dom]⟩) ?_ ?_ <;> omega)
      | trace_state
  · have e : i = a.length := by omega
    subst e
    unfold Yf; simp (maxSteps := 2000000) only [bitvec_to_nat, reduceIte, Nat.reduceEqDiff, Nat.reduceAdd, Nat.reduceLeDiff, reduceCtorEq, Nat.reduceBEq, Nat.reduceLT, Nat.reduceMod, fmc, Qr, Kq, Kd, int_toBitVec_meta, method_specs_simp, Int.toNat_natCast, List.length_map, Nat.sub_zero, Nat.zero_add, KF, QP, QP, Q6]
    repeat' (first | with_reducible apply And.intro | with_reducible intro _)
    all_goals first
      | omega
      | rfl
      | (exfalso; omega)
      | trace_state
end
end Go.Ve

namespace Go.Ve
noncomputable section
open Go.Proofs
set_option maxRecDepth 100000
open Go.ChangeShapes Go.WideShapes
theorem Qb5 (t : Nat) (l : List Box6) (hl : l.length ≤ 4294967296) : Contract P 95 [.sl t 6 (l.map Box6.row)] [] (.own 104 0 0 l.length) [(104, .arr 100 0 6 (l.map Box6.row))] := by
  have tkB : List.take l.length (l.map Box6.row) = l.map Box6.row := List.take_of_length_le (by simp)
  refine Qg (Env.nil P) hm Qft (nlb rfl) rfl ?_; unfold WV; simp (maxSteps := 2000000) only [bitvec_to_nat, reduceIte, Nat.reduceEqDiff, Nat.reduceAdd, Nat.reduceLeDiff, reduceCtorEq, Nat.reduceBEq, Nat.reduceLT, Nat.reduceMod, fmc, Qf, Qh, Qe, Qu, keepB, Qi, Qw, int_toBitVec_meta, method_specs_simp, Nat.sub_zero, List.append_nil, tkB]
  repeat' (first | with_reducible apply And.intro | with_reducible intro _)
  all_goals first | omega | rfl | (simp [Qd, Qb, dom]; done)
def Qug (o : Own) (z : Zone) : Prop := 0 < (Ux z o.nx).length ∧ z.nm ∉ o.gr
instance (o : Own) (z : Zone) : Decidable (Qug o z) := by unfold Qug; infer_instance
abbrev Qtj (o v k i0 : Nat) (l : List VW) : List (Nat × AObj) := OO o 73 v 8 QoS VW.rowO k i0 l
theorem Qna {o e v k q sz i0 : Nat} {a : List VW} (h : q ≠ o) (hq : q < 1000) (hk : k + 8 ≤ 1000) : Qbj (OO o e v sz QoS VW.rowO k i0 a) q := fun p hp e => by
  have := Yb UE hk hp; omega
theorem Qnb {o e v k sz i0 : Nat} {a : List VW} (ho : o < 1000) (hk : k + 8 ≤ 1000) : Zb (OO o e v sz QoS VW.rowO k i0 a) := UG UE hk ho
end
end Go.Ve

namespace Go.Ve
noncomputable section
open Go.Proofs
set_option maxRecDepth 100000
open Go.ChangeShapes Go.WideShapes
end
end Go.Ve

namespace Go.Ve
noncomputable section
open Go.Proofs
set_option maxRecDepth 100000
open Go.ChangeShapes Go.WideShapes
theorem QoZ (t : Nat) (l : List Box6) (hl : l.length ≤ 4294967296) : Contract P 66 [.sl t 6 (l.map Box6.row)] [] (.sl 0 6 (l.map Box6.row)) [] := by
  have tkB : List.take l.length (l.map Box6.row) = l.map Box6.row := List.take_of_length_le (by simp)
  refine Qg (Env.nil P) hm Qhn (nlb rfl) rfl ?_; unfold Qbx; simp (maxSteps := 2000000) only [bitvec_to_nat, reduceIte, Nat.reduceEqDiff, Nat.reduceAdd, Nat.reduceLeDiff, reduceCtorEq, Nat.reduceBEq, Nat.reduceLT, Nat.reduceMod, fmc, Qf, Qh, Qe, Qu, keepB, Qi, Qw, int_toBitVec_meta, method_specs_simp, Nat.sub_zero, List.append_nil, tkB, QfU]
  repeat' (first | with_reducible apply And.intro | with_reducible intro _)
  all_goals first | omega | rfl | (simp; done)
def YN : List AV → Option (Prop × AV)
  | [.sl tut 6 tux] => some ((((tux.map Qz).map Box6.row = tux)) ∧ ((tux.map Qz).length ≤ 4294967296), .sl 0 6 ((tux.map Qz).map Box6.row))
  | _ => none
theorem QjK : ∀ args p v, YN args = some (p, v) → p → Contract P 66 args [] v [] ∧ noref v = true ∧ No99 v := by
  intro args p v h1 h2
  unfold YN at h1
  split at h1
  · rename_i tut tux
    cases h1
    obtain ⟨e0, HP⟩ := h2
    have := QoZ tut (tux.map Qz) HP
    exact ⟨by simpa only [e0] using this, rfl, by simp [No99, Jv, -List.map_map]⟩
  · cases h1
def Quh (zs : List Zone) (me : ByteArray) (b : Book) : Prop := (Q3 zs ∧ bookOk zs b) ∧ 0 ≤ zAt zs me
instance (zs : List Zone) (me : ByteArray) (b : Book) : Decidable (Quh zs me b) := by unfold Quh; infer_instance
end
end Go.Ve

namespace Go.Ve
noncomputable section
open Go.Proofs
set_option maxRecDepth 100000
open Go.ChangeShapes Go.WideShapes
theorem QkM (x y : Own) : (Own.row 0 x).map Qbk = (Own.row 0 y).map Qbk := rfl
theorem Qiy (x y : Part) : (Part.row 0 x).map Qbk = (Part.row 0 y).map Qbk := rfl
theorem Qro (x y : VW) : x.rowO.map Qbk = y.rowO.map Qbk := rfl
def Qo0 (b : Book) : Nat := Ko b.own b.own.length
def Qst (b : Book) : Nat := JG b.parts b.parts.length
def mb (k : Int) (b : Book) : Book := ⟨WY k b.own, XL (k + (Qo0 b : Nat)) b.parts, Ww (k + (Qo0 b : Nat) + (Qst b : Nat)) b.seen.length⟩
def cfB (b : Book) : Int := (Qo0 b : Nat) + (Qst b : Nat) + 2 * (b.seen.length : Int)
def Book.sm (b : Book) : Prop := (b.own.length ≤ 1048577 ∧ ∀ x ∈ b.own, x.sm) ∧ (b.parts.length ≤ 1048577 ∧ ∀ x ∈ b.parts, x.sm) ∧ b.seen.length ≤ 1048577
theorem Book.small.sm {b : Book} (h : b.small) : b.sm := by
  unfold Book.small at h
  refine ⟨⟨by omega, fun x hx => ?_⟩, ⟨by omega, fun x hx => ?_⟩, by omega⟩
  · have := h.1.2 x hx; unfold Own.small at this; unfold Own.sm; omega
  · have := h.2.1.2 x hx; unfold Part.sm; omega
theorem QeO {b : Book} (h : b.sm) : Qo0 b ≤ 1048577 * 13631600 := Nat.le_trans (QgY h.1.2 (Nat.le_refl _)) (Nat.mul_le_mul_right _ h.1.1)
theorem QeP {b : Book} (h : b.sm) : Qst b ≤ 1048577 * 13631600 := Nat.le_trans (QeN h.2.1.2 (Nat.le_refl _)) (Nat.mul_le_mul_right _ h.2.1.1)
theorem QjL {k : Int} {b : Book} : (mb k b).own.length = b.own.length := KF
theorem Qdb {k : Int} {b : Book} : (mb k b).parts.length = b.parts.length := YY
theorem Qsu {k : Int} {b : Book} : (mb k b).seen.length = b.seen.length := Z3
theorem Qtk {k : Int} {b : Book} {a va c vc d vd : Nat} : bkV (mb k b) a va c vc d vd = bkV b a va c vc d vd := by simp only [bkV, QjL, Qdb, Qsu]
theorem Qiz {b b' : Book} {a va c vc d vd kO kP : Nat} (h1 : b.own.length = b'.own.length) (h2 : b.parts.length = b'.parts.length) : dom (bkM b a va c vc d vd kO kP) = dom (bkM b' a va c vc d vd kO kP) := by
  have e1 : dom (Qha a va kO b.own) = dom (Qha a va kO b'.own) := Qbu QkM h1
  have e2 : dom (YH c vc kP b.parts) = dom (YH c vc kP b'.parts) := Qbu Qiy h2
  simp only [bkM, Qkl, e1, e2]; rfl
theorem Qo1 {M M' : List (Nat × AObj)} (h : ∀ o ∈ dom M, 100 ≤ o % 1000 ∨ o ∈ dom M') : keepB M M' = true := by
  unfold keepB
  rw [List.all_eq_true]
  intro o ho
  have := h o ho
  simp only [Bool.or_eq_true, decide_eq_true_eq]
  exact this.imp id fun h => by simpa using h
set_option maxHeartbeats 4000000 in
theorem QgZ (b : Book) (va vc vd : Nat) (k : Int) (hb : b.sm) (hk : 0 ≤ k ∧ k ≤ 1099511627776) : Contract P 17 [bkV b 3 va 4 vc 5 vd, .int .i64 k] (bkM b 3 va 4 vc 5 vd 7 20) (.int .i64 (k + cfB b)) (bkM (mb k b) 3 va 4 vc 5 vd 7 20) := by
  have q1 := QeO hb
  have q2 := QeP hb
  have hO := Qm9 va k b.own hb.1.1 hb.1.2 (by omega)
  have hP := ((QkL vc (k + (Qo0 b : Nat)) b.parts hb.2.1.1 hb.2.1.2 (by omega)).ren (swp 3 4) (Ja _ _)).ren (J5 7 20 3) (KB (by omega) (by omega) (by omega))
  have e4 : J5 7 20 3 (swp 3 4 3) = 4 := by rw [show swp 3 4 3 = 4 from by simp [swp], Qr0 (by omega)]
  rw [Qbt (k' := 7) (i1 := 0) QH J8 (fun j i hj => KU (by omega) (by omega)), Qbt (k' := 20) (i1 := 0) QH J8 (fun j i hj => YA (by omega) hj), Qbt (k' := 7) (i1 := 0) QH J8 (fun j i hj => KU (by omega) (by omega)), Qbt (k' := 20) (i1 := 0) QH J8 (fun j i hj => YA (by omega) hj)] at hP
  simp only [K8, ren, e4] at hP
  have hS := (QkI vd (k + (Qo0 b : Nat) + (Qst b : Nat)) b.seen hb.2.2 (by omega)).ren (swp 3 5) (Ja _ _)
  simp only [K8, ren, Ks, renO, swp, reduceIte, Nat.reduceEqDiff, Nat.reduceLT] at hS
  have d1 : ∀ (l : List Own) (m : List Part), dis (Qha 3 va 7 l) (YH 4 vc 20 m) := fun l m p hp q hq e => by
    have := Yb QJ (by omega) hp; have := Yb QH (by omega) hq; omega
  have d2 : ∀ (l : List Own) (m : List Part), dis (YH 4 vc 20 m) (Qha 3 va 7 l) := fun l m => K2 (d1 l m)
  have oOv : ∀ (B : List (Nat × AObj)), QR (Qha 3 va 7 b.own ++ B) (Qha 3 va 7 (WY k b.own)) = Qha 3 va 7 (WY k b.own) ++ B := fun B => Qaj (Kn (by omega) (by omega)) (Qbu QkM KF)
  have pOv : ∀ (B : List (Nat × AObj)), QR (YH 4 vc 20 b.parts ++ B) (YH 4 vc 20 (XL (k + (Qo0 b : Nat)) b.parts)) = YH 4 vc 20 (XL (k + (Qo0 b : Nat)) b.parts) ++ B := fun B => Qaj (Kc (by omega) (by omega)) (Qbu Qiy YY)
  have oOv0 : True := trivial
  have pOv0 : True := trivial
  refine Qg (Env.nil P) Go.Ve.hm Zo (nlb rfl) ?_ ?_
  · rw [List.all_eq_true]
    intro q hq
    obtain ⟨p, hp, rfl⟩ := List.mem_map.1 hq
    have := KH (by omega) (by omega) hp
    simp only [decide_eq_true_eq]; omega
  unfold YR bkM UL
  simp (maxSteps := 2000000) (maxDischargeDepth := 8) only [bitvec_to_nat, reduceIte, Nat.reduceEqDiff, Nat.reduceAdd, Nat.reduceLeDiff, reduceCtorEq, Nat.reduceBEq, Nat.reduceLT, Nat.reduceMod, fmc, Qf, Qh, Qe, Qu, keepB, Qi, Qw, int_toBitVec_meta, method_specs_simp, Nat.sub_zero, List.append_nil, bkV, Jz, Q9, JA, JH, JF, XG, Gb, Zn, Jc, Jp, Kn, Kc, List.cons_append, List.nil_append, List.append_assoc, d1, d2, oOv, oOv0, pOv, pOv0, YK, Kz]
  refine ⟨_, _, J9 hO (Qbu QkM KF) (Kf (Kn (by omega) (by omega))) (by simp [Qb, Qd, OO, dom]) (UH QJ KZ) rfl (UH QJ KZ), ?_⟩
  simp (maxSteps := 2000000) (maxDischargeDepth := 8) only [bitvec_to_nat, reduceIte, Nat.reduceEqDiff, Nat.reduceAdd, Nat.reduceLeDiff, reduceCtorEq, Nat.reduceBEq, Nat.reduceLT, Nat.reduceMod, fmc, Qf, Qh, Qe, Qu, keepB, Qi, Qw, int_toBitVec_meta, method_specs_simp, Nat.sub_zero, List.append_nil, bkV, Jz, Q9, JA, JH, JF, XG, Gb, Zn, Jc, Jp, Kn, Kc, List.cons_append, List.nil_append, List.append_assoc, d1, d2, oOv, oOv0, pOv, pOv0, YK, Kz]
  refine ⟨_, _, J9 hP (Qbu Qiy YY) (Qcj (d1 _ _) (Kf (Kc (by omega) (by omega)))) (by simp [Qb, Qd, OO, dom]) (UH QH J8) rfl (UH QH J8), ?_⟩
  simp (maxSteps := 2000000) (maxDischargeDepth := 8) only [bitvec_to_nat, reduceIte, Nat.reduceEqDiff, Nat.reduceAdd, Nat.reduceLeDiff, reduceCtorEq, Nat.reduceBEq, Nat.reduceLT, Nat.reduceMod, fmc, Qf, Qh, Qe, Qu, keepB, Qi, Qw, int_toBitVec_meta, method_specs_simp, Nat.sub_zero, List.append_nil, bkV, Jz, Q9, JA, JH, JF, XG, Gb, Zn, Jc, Jp, Kn, Kc, List.cons_append, List.nil_append, List.append_assoc, d1, d2, oOv, oOv0, pOv, pOv0, YK, Kz]
  refine ⟨_, _, J9 hS rfl (Qiw (by simp (config := { maxDischargeDepth := 8 }) only [getM, Jz, Q9, JA, JH, JF, XG, Gb, Zn, Jc, Jp, Kn, Kc, List.cons_append, List.nil_append, List.append_assoc, d1, d2, oOv, oOv0, pOv, pOv0, YK, Kz, Nat.reduceEqDiff, Nat.reduceLT, Nat.reduceAdd, Nat.reduceLeDiff, reduceIte, ne_eq, not_false_eq_true])) (by simp [Qb, Qd, dom]) rfl rfl rfl, ?_⟩
  simp (maxSteps := 2000000) (maxDischargeDepth := 8) only [bitvec_to_nat, reduceIte, Nat.reduceEqDiff, Nat.reduceAdd, Nat.reduceLeDiff, reduceCtorEq, Nat.reduceBEq, Nat.reduceLT, Nat.reduceMod, fmc, Qf, Qh, Qe, Qu, keepB, Qi, Qw, int_toBitVec_meta, method_specs_simp, Nat.sub_zero, List.append_nil, bkV, Jz, Q9, JA, JH, JF, XG, Gb, Zn, Jc, Jp, Kn, Kc, List.cons_append, List.nil_append, List.append_assoc, d1, d2, oOv, oOv0, pOv, pOv0, YK, Kz]
  refine ⟨by unfold cfB; unfold Qo0 Qst; omega, Q4 ?_, QaP (b := mb k b) (a := 3) (va := va) (c := 4) (vc := vc) (d := 5) (vd := vd) (kO := 7) (kP := 20), Qo1 ?_⟩
  · have := Kf (B := [(102, AObj.box [AV.own 3 va 0 b.own.length, AV.own 4 vc 0 b.parts.length, AV.own 5 vd 0 b.seen.length])]) (Xk (b := mb k b) (a := 3) (va := va) (c := 4) (vc := vc) (d := 5) (vd := vd) (kO := 7) (kP := 20) (by omega) (by omega) (by omega) (by omega) (by omega) (by omega) (by omega) (by omega) (by omega))
    simp only [bkM, UL, List.append_assoc, List.cons_append, List.nil_append] at this
    exact this
  · intro o ho
    obtain ⟨p, hp, rfl⟩ := List.mem_map.1 ho
    simp only [List.mem_append, List.mem_cons, List.not_mem_nil, or_false] at hp
    rcases hp with hp | hp | hp | hp
    · exact .inr (Jx (List.mem_append.2 (.inl hp)))
    · exact .inr (Jx (List.mem_append.2 (.inr (List.mem_append.2 (.inl hp)))))
    · subst hp
      exact .inr (by simp [dom])
    · subst hp; exact .inl (by omega)
theorem QkN (b : Book) (k : Int) (hb : b.sm) (hk : 0 ≤ k ∧ k ≤ 1099511627776) : Contract P 22 [.agg ((mb k b).row 0), .int .i64 k] [] (.int .i64 (k + cfB b)) [] := by
  have q1 := QeO hb
  have q2 := QeP hb
  have hO := QhZ 0 0 k b.own hb.1.1 hb.1.2 (by omega)
  have hP := QgX 0 0 (k + (Qo0 b : Nat)) b.parts hb.2.1.1 hb.2.1.2 (by omega)
  have hS := QgU 0 (k + (Qo0 b : Nat) + (Qst b : Nat)) b.seen.length hb.2.2 (by omega)
  simp only [Book.row, mb]
  refine Qg (Env.nil P) hm Zp (nlb rfl) rfl ?_; unfold YS; simp (maxSteps := 2000000) only [bitvec_to_nat, reduceIte, Nat.reduceEqDiff, Nat.reduceAdd, Nat.reduceLeDiff, reduceCtorEq, Nat.reduceBEq, Nat.reduceLT, Nat.reduceMod, fmc, int_toBitVec_meta, method_specs_simp, Nat.sub_zero, List.append_nil]
  refine ⟨_, _, .inr (.inl ⟨rfl, _, rfl, hO, rfl, trivial⟩), ?_⟩
  simp (maxSteps := 2000000) only [bitvec_to_nat, reduceIte, Nat.reduceEqDiff, Nat.reduceAdd, Nat.reduceLeDiff, reduceCtorEq, Nat.reduceBEq, Nat.reduceLT, Nat.reduceMod, fmc, int_toBitVec_meta, method_specs_simp, Nat.sub_zero, List.append_nil]
  refine ⟨fun h => by omega, fun _ => ⟨_, _, .inr (.inl ⟨rfl, _, rfl, hP, rfl, trivial⟩), ?_⟩⟩
  simp (maxSteps := 2000000) only [bitvec_to_nat, reduceIte, Nat.reduceEqDiff, Nat.reduceAdd, Nat.reduceLeDiff, reduceCtorEq, Nat.reduceBEq, Nat.reduceLT, Nat.reduceMod, fmc, int_toBitVec_meta, method_specs_simp, Nat.sub_zero, List.append_nil]
  have e1 : ((JG b.parts b.parts.length : Nat) : Int) = (Qst b : Nat) := rfl
  refine ⟨fun h => by omega, fun _ => ⟨_, _, .inr (.inl ⟨rfl, _, rfl, hS, rfl, trivial⟩), ?_⟩⟩
  simp (maxSteps := 2000000) only [bitvec_to_nat, reduceIte, Nat.reduceEqDiff, Nat.reduceAdd, Nat.reduceLeDiff, reduceCtorEq, Nat.reduceBEq, Nat.reduceLT, Nat.reduceMod, fmc, int_toBitVec_meta, method_specs_simp, Nat.sub_zero, List.append_nil]
  unfold cfB
  exact ⟨fun h => by omega, fun _ => by omega⟩
end
end Go.Ve

namespace Go.Ve
noncomputable section
open Go.Proofs
set_option maxRecDepth 100000
open Go.ChangeShapes Go.WideShapes
abbrev KA (b : Book) : List (Nat × AObj) := bkM b 611 0 612 0 613 0 120 140
theorem YZ {b : Book} {q : Nat} (h1 : q ≠ 611) (h2 : q ≠ 612) (h3 : q ≠ 613) (h : q < 1000) : Qbj (KA b) q := fun p hp e => by
  have := KH (by omega) (by omega) hp; omega
theorem QaS (b : Book) : Zb (KA b) := Xk (by omega) (by omega) (by omega) (by omega) (by omega) (by omega) (by omega) (by omega) (by omega)
theorem QlI {b : Book} : YJ (KA b) := QlH (by omega) (by omega) (by omega) (by omega) (by omega) (by omega) (by omega)
abbrev RA (v : Nat) (l : List VW) : List (Nat × AObj) := Qtj 731 v 160 0 l
abbrev RB (v : Nat) (l : List VW) : List (Nat × AObj) := Qtj 741 v 170 0 l
theorem Qui {b : Book} {v : Nat} {l : List VW} : dis (KA b) (RA v l) := fun p hp q hq e => by
  have := KH (by omega) (by omega) hp; have := Yb UE (by omega) hq; omega
theorem Quj {b : Book} {v : Nat} {l : List VW} : dis (KA b) (RB v l) := fun p hp q hq e => by
  have := KH (by omega) (by omega) hp; have := Yb UE (by omega) hq; omega
theorem Quk {v v' : Nat} {l l' : List VW} : dis (RA v l) (RB v' l') := fun p hp q hq e => by
  have := Yb UE (by omega) hp; have := Yb UE (by omega) hq; omega
theorem Qut {b : Book} {v : Nat} {l : List VW} : dis (RA v l) (KA b) := K2 Qui
theorem Quu {b : Book} {v : Nat} {l : List VW} : dis (RB v l) (KA b) := K2 Quj
theorem Quv {v v' : Nat} {l l' : List VW} : dis (RB v l) (RA v' l') := K2 Quk
theorem QlJ (b : Book) (hs : b.small) : Contract P 11 [.agg (b.row 1)] [] (bkV b 611 0 612 0 613 0) (KA b).reverse := (QoY b hs).post_eq (funext fun o => Wl (QaS b) o)
theorem QjM (t : Nat) (zs : List Zone) (hz : zs.length ≤ 1048576) : Contract P 10 [.sl t 5 (zs.map Zone.row)] [] (.own 501 0 0 zs.length) [(501, .arr 76 0 5 (zs.map Zone.row))] := by
  have h := (Qm5 t zs hz).ren (swp 107 501) (Ja _ _)
  simp only [K8, ren, Ks, renO, swp, reduceIte, Nat.reduceLT] at h
  exact h
theorem Qg0 (k : Int) (zs : List Zone) (hz : zs.length ≤ 1048577) (hk : 0 ≤ k ∧ k ≤ 1125899906842624) : Contract P 16 [.own 501 0 0 zs.length, .int .i64 k] [(501, .arr 76 0 5 (zs.map Zone.row))] (.int .i64 (k + 5 * zs.length)) [(501, .arr 76 0 5 ((Z4 k zs.length).map Zone.row))] := by
  have h := (QkK 0 k zs hz hk).ren (swp 3 501) (Ja _ _)
  simp only [K8, ren, Ks, renO, swp, reduceIte, Nat.reduceLT] at h
  exact h
theorem Qh0 (b : Book) (k : Int) (hb : b.sm) (hk : 0 ≤ k ∧ k ≤ 1099511627776) : Contract P 17 [bkV b 611 0 612 0 613 0, .int .i64 k] (KA b) (.int .i64 (k + cfB b)) (gone (KA b)) := by
  have h := (((((QgZ b 0 0 0 k hb hk).ren (swp 3 611) (Ja _ _)).ren (swp 4 612) (Ja _ _)).ren (swp 5 613) (Ja _ _)).ren (J5 7 120 11) (KB (by omega) (by omega) (by omega))).ren (J5 20 140 3) (KB (by omega) (by omega) (by omega))
  have hs : ∀ q q' : Nat, q < 1000 → q' < 1000 → ∀ b : Book, ∀ a c d, Ks (swp q q') (bkM b a 0 c 0 d 0 7 20) = bkM b (swp q q' a) 0 (swp q q' c) 0 (swp q q' d) 0 7 20 := fun q q' h1 h2 b a c d => K0 (fun j i hj => KU h1 h2) (fun j i hj => KU h1 h2)
  have hO : ∀ b : Book, ∀ a c d, Ks (J5 7 120 11) (bkM b a 0 c 0 d 0 7 20) = bkM b (J5 7 120 11 a) 0 (J5 7 120 11 c) 0 (J5 7 120 11 d) 0 120 20 := fun b a c d => K0 (fun j i hj => YA (by omega) hj) (fun j i hj => Gd (by omega) (by omega) (by omega))
  have hP : ∀ b : Book, ∀ a c d, Ks (J5 20 140 3) (bkM b a 0 c 0 d 0 120 20) = bkM b (J5 20 140 3 a) 0 (J5 20 140 3 c) 0 (J5 20 140 3 d) 0 120 140 := fun b a c d => K0 (fun j i hj => Gd (by omega) (by omega) (by omega)) (fun j i hj => YA (by omega) hj)
  simp only [K8, Qix, hs _ _ (show (3 : Nat) < 1000 by omega) (show (611 : Nat) < 1000 by omega), hs _ _ (show (4 : Nat) < 1000 by omega) (show (612 : Nat) < 1000 by omega), hs _ _ (show (5 : Nat) < 1000 by omega) (show (613 : Nat) < 1000 by omega), hO, hP, ren, swp, J5, reduceIte, Nat.reduceEqDiff, Nat.reduceLeDiff] at h
  have h2 := h.gone rfl
  have e : (bkM (mb k b) 611 0 612 0 613 0 120 140).map (fun p => (p.1, AObj.gone)) = gone (KA b) := by
    have hd := Qiz (b := mb k b) (b' := b) (a := 611) (va := 0) (c := 612) (vc := 0) (d := 613) (vd := 0) (kO := 120) (kP := 140) QjL Qdb
    have hg : ∀ l : List (Nat × AObj), l.map (fun p => (p.1, AObj.gone)) = (dom l).map fun o => (o, AObj.gone) := fun l => by simp [dom]
    unfold gone
    rw [hg, hg, hd]
  rw [e] at h2
  exact h2
theorem QtV {v : Nat} {l : List VW} {k : Int} {B : List (Nat × AObj)} : QR (RA v l ++ B) (RA v (Qm8 k l)) = RA v (Qm8 k l) ++ B := Qaj (UG UE (by omega) (by omega)) (Qbu Qro QjJ)
theorem Qtl {v : Nat} {l : List VW} {k : Int} : QR (RA v l) (RA v (Qm8 k l)) = RA v (Qm8 k l) := Qa8 (UG UE (by omega) (by omega)) (Qbu Qro QjJ)
theorem Qo2 {T M' B : List (Nat × AObj)} (h : YJ T) : keepB (gone T ++ B) M' = keepB B M' := VD (JX (Qgh h))
theorem QtW {b : Book} {M' B : List (Nat × AObj)} : keepB (gone (KA b) ++ B) M' = keepB B M' := Qo2 QlI
theorem Qtm {b : Book} {M' : List (Nat × AObj)} : keepB (gone (KA b)) M' = true := JX (Qgh QlI)
theorem Quw {b : Book} {M' B : List (Nat × AObj)} : keepB (KA b ++ B) M' = keepB B M' := VD (JX QlI)
theorem QtX {b : Book} {M' : List (Nat × AObj)} : keepB (KA b) M' = true := JX QlI
theorem Qrp {v : Nat} {l : List VW} : YJ (RA v l) := Qlk UE (by omega) (by omega) (by omega)
theorem Qrq {v : Nat} {l : List VW} : YJ (RB v l) := Qlk UE (by omega) (by omega) (by omega)
theorem Qux {v : Nat} {l : List VW} {M' B : List (Nat × AObj)} : keepB (RA v l ++ B) M' = keepB B M' := VD (JX Qrp)
theorem QtY {v : Nat} {l : List VW} {M' : List (Nat × AObj)} : keepB (RA v l) M' = true := JX Qrp
theorem Quy {v : Nat} {l : List VW} {M' B : List (Nat × AObj)} : keepB (RB v l ++ B) M' = keepB B M' := VD (JX Qrq)
theorem QtZ {v : Nat} {l : List VW} {M' : List (Nat × AObj)} : keepB (RB v l) M' = true := JX Qrq
theorem Qrr {b : Book} : ∀ p ∈ (KA b).reverse, Z8 p.2 := fun p hp => QqE p (List.mem_reverse.1 hp)
end
end Go.Ve

namespace Go.Ve
noncomputable section
open Go.Proofs
set_option maxRecDepth 100000
open Go.ChangeShapes Go.WideShapes
theorem Qrs {t s : Nat} {xs : List (List AV)} : QmD (.sl t s xs) = (t != 98 && Qag xs) := rfl
theorem QiA {s : ByteArray} : QmD (.str s) = true := rfl
theorem QiB {s : ByteArray} : tag0 (.str s) = .str s := rfl
theorem Qh1 {o : Nat} {x : AObj} {K : List (Nat × AObj)} {M : Nat → Option AObj} (h : M o = some x) (k : ∀ p ∈ K, M p.1 = some p.2) : ∀ p ∈ (o, x) :: K, M p.1 = some p.2 := fun p hp => by
  rcases List.mem_cons.1 hp with rfl | hp
  · exact h
  · exact k p hp
theorem QfN {α : Type} {f : α → List AV} {rs : List LSh} (h : ∀ r, Kt rs r → ∃ x : α, r = f x) : ∀ {rows : List (List AV)}, (∀ r ∈ rows, Kt rs r) → ∃ l : List α, rows = l.map f
  | [], _ => ⟨[], rfl⟩
  | r :: rows, k => by
    obtain ⟨x, rfl⟩ := h r (k r (by simp))
    obtain ⟨l, rfl⟩ := QfN h (rows := rows) fun r' h' => k r' (by simp [h'])
    exact ⟨x :: l, rfl⟩
def QaT : List LSh := [.str]
def Qg1 : List LSh := [.int .i64, .int .i64, .int .i64, .int .i64, .int .i64, .int .i64]
theorem QiC (r : List AV) (h : Kt QaT r) : ∃ x : ByteArray, r = Jw x ∧ x.toList.length ≤ 9223372036854775807 := by
  simp only [QaT, Kt, QiJ] at h
  obtain ⟨_, _, rfl, ⟨n, rfl, h⟩, rfl⟩ := h
  exact ⟨n, rfl, by rw [← JD]; unfold maxLen at h; omega⟩
theorem QiD (r : List AV) (h : Kt Qg1 r) : ∃ x : Box6, r = x.row := by
  simp only [Qg1, Kt, QiJ] at h
  obtain ⟨_, _, rfl, ⟨a, rfl, _⟩, _, _, rfl, ⟨b, rfl, _⟩, _, _, rfl, ⟨c, rfl, _⟩, _, _, rfl, ⟨d, rfl, _⟩, _, _, rfl, ⟨e, rfl, _⟩, _, _, rfl, ⟨g, rfl, _⟩, rfl⟩ := h
  exact ⟨⟨a, b, c, d, e, g⟩, rfl⟩
def QiE : List LSh := [.str, .int .i64, .int .i64, .int .i64, .int .i64]
theorem QqG (r : List AV) (h : Kt QiE r) : ∃ x : Zone, r = Zone.row x ∧ x.fitp := by
  simp only [QiE, Kt, QiJ] at h
  obtain ⟨_, _, rfl, ⟨nm, rfl, h_nm⟩, _, _, rfl, ⟨x0, rfl, _⟩, _, _, rfl, ⟨y0, rfl, _⟩, _, _, rfl, ⟨x1, rfl, _⟩, _, _, rfl, ⟨y1, rfl, _⟩, rfl⟩ := h

  exact ⟨⟨nm, x0, y0, x1, y1⟩, rfl, (by have e := JD nm; unfold maxLen at h_nm; show nm.toList.length ≤ _; omega)⟩
def QkO : List LSh := [.str, .int .i64]
theorem QqH (r : List AV) (h : Kt QkO r) : ∃ x : Seen, r = Seen.row x ∧ x.fitp := by
  simp only [QkO, Kt, QiJ] at h
  obtain ⟨_, _, rfl, ⟨fl, rfl, h_fl⟩, _, _, rfl, ⟨nr, rfl, _⟩, rfl⟩ := h

  exact ⟨⟨fl, nr⟩, rfl, (by have e := JD fl; unfold maxLen at h_fl; show fl.toList.length ≤ _; omega)⟩
def QkP : List LSh := [.str, .int .i64, .sl Qg1]
theorem QqI (r : List AV) (h : Kt QkP r) : ∃ x : Part, r = (Part.row 1) x ∧ x.fitp := by
  simp only [QkP, Kt, QiJ] at h
  obtain ⟨_, _, rfl, ⟨fl, rfl, h_fl⟩, _, _, rfl, ⟨nr, rfl, _⟩, _, _, rfl, ⟨bx, rfl, h_bx, r_bx⟩, rfl⟩ := h
  obtain ⟨bx, rfl⟩ := QfN QiD r_bx
  rw [List.length_map] at h_bx
  exact ⟨⟨fl, nr, bx⟩, rfl, ⟨(by have e := JD fl; unfold maxLen at h_fl; show fl.toList.length ≤ _; omega), (by unfold maxLen at h_bx; omega)⟩⟩
def Qo3 : List LSh := [.str, .int .i64, .int .i64, .str, .int .i64, .int .i64, .sl Qg1, .int .i64, .sl Qg1, .sl QaT, .bool]
theorem Qsv (r : List AV) (h : Kt Qo3 r) : ∃ x : Own, r = (Own.row 1) x ∧ x.fitp := by
  simp only [Qo3, Kt, QiJ] at h
  obtain ⟨_, _, rfl, ⟨fl, rfl, h_fl⟩, _, _, rfl, ⟨st, rfl, _⟩, _, _, rfl, ⟨tn, rfl, _⟩, _, _, rfl, ⟨dst, rfl, h_dst⟩, _, _, rfl, ⟨la, rfl, _⟩, _, _, rfl, ⟨nr, rfl, _⟩, _, _, rfl, ⟨tu, rfl, h_tu, r_tu⟩, _, _, rfl, ⟨wi, rfl, _⟩, _, _, rfl, ⟨nx, rfl, h_nx, r_nx⟩, _, _, rfl, ⟨gr, rfl, h_gr, r_gr⟩, _, _, rfl, ⟨sent, rfl⟩, rfl⟩ := h
  obtain ⟨tu, rfl⟩ := QfN QiD r_tu
  rw [List.length_map] at h_tu
  obtain ⟨nx, rfl⟩ := QfN QiD r_nx
  rw [List.length_map] at h_nx
  obtain ⟨gr, rfl, p_gr⟩ := Wc QiC r_gr
  rw [List.length_map] at h_gr
  exact ⟨⟨fl, st, tn, dst, la, nr, tu, wi, nx, gr, sent⟩, rfl, ⟨(by have e := JD fl; unfold maxLen at h_fl; show fl.toList.length ≤ _; omega), (by have e := JD dst; unfold maxLen at h_dst; show dst.toList.length ≤ _; omega), (by unfold maxLen at h_tu; omega), (by unfold maxLen at h_nx; omega), ⟨(by unfold maxLen at h_gr; omega), p_gr⟩⟩⟩
def QiF : List LSh := [.sl Qo3, .sl QkP, .sl QkO]
theorem QqJ (r : List AV) (h : Kt QiF r) : ∃ x : Book, r = (Book.row 1) x ∧ x.fitp := by
  simp only [QiF, Kt, QiJ] at h
  obtain ⟨_, _, rfl, ⟨own, rfl, h_own, r_own⟩, _, _, rfl, ⟨parts, rfl, h_parts, r_parts⟩, _, _, rfl, ⟨seen, rfl, Uy, r_seen⟩, rfl⟩ := h
  obtain ⟨own, rfl, p_own⟩ := Wc Qsv r_own
  rw [List.length_map] at h_own
  obtain ⟨parts, rfl, p_parts⟩ := Wc QqI r_parts
  rw [List.length_map] at h_parts
  obtain ⟨seen, rfl, p_seen⟩ := Wc QqH r_seen
  rw [List.length_map] at Uy
  exact ⟨⟨own, parts, seen⟩, rfl, ⟨⟨(by unfold maxLen at h_own; omega), p_own⟩, ⟨(by unfold maxLen at h_parts; omega), p_parts⟩, ⟨(by unfold maxLen at Uy; omega), p_seen⟩⟩⟩
end
end Go.Ve

namespace Go.Ve
noncomputable section
open Go.Proofs
set_option maxRecDepth 100000
open Go.ChangeShapes Go.WideShapes
theorem Qtn (z : Own) (s : ByteArray) : Contract P 119 [.agg (z.row 0), .ptr 3 0] [(3, .box [.str s])] (.bool (decide (z.fl = s))) [(3, .box [.str s])] := by
  simp only [Own.row]
  refine Qg (Env.nil P) hm Qav (nlb rfl) rfl ?_; unfold Xw; simp (maxSteps := 2000000) only [bitvec_to_nat, reduceIte, Nat.reduceEqDiff, Nat.reduceAdd, Nat.reduceLeDiff, reduceCtorEq, Nat.reduceBEq, Nat.reduceLT, Nat.reduceMod, fmc, Qf, Qh, Qe, Qu, keepB, Qi, Qw, K4]
  all_goals simp [dom]
theorem Qg2 (g : FuncId) (hg : Wj P g = true) (ls : List AV) (hls : Je ls = true) (p : Own → Bool) (t : Nat) (zs : List Own) (hl : zs.length ≤ 4611686018427387904)
    (hC : ∀ z, Contract P g (.agg (Own.row 0 z) :: [.ptr 3 0]) [(3, .box ls)] (.bool (p z)) [(3, .box ls)]) : Contract P 118 [.sl t 11 (zs.map (Own.row 0)), .fn g [] [.ptr 3 0]] [(3, .box ls)] (.int .i64 (QhI p zs)) [(3, .box ls)] := by
  refine Qg (Env.nil P) hm Z9 (nlb rfl) rfl ?_; unfold Yy; simp (maxSteps := 2000000) only [bitvec_to_nat, reduceIte, Nat.reduceEqDiff, Nat.reduceAdd, Nat.reduceLeDiff, reduceCtorEq, Nat.reduceBEq, Nat.reduceLT, Nat.reduceMod, fmc, Qf, Qh, Qe, Qu, keepB, Qi, Qw, KM]
  refine QE (fun i : Nat => [(8, .int .i64 i)]) (fun _ => []) (fun i => i ≤ zs.length ∧ ∀ j, j < i → p (zs.getD j default) = false) (fun i => zs.length - i) (0) (by simp only [Jr, Js, Jt, Ju, Qj, Qk, Ql, Qm, reduceIte, Nat.reduceEqDiff]; exact ⟨by repeat' (first | exact trivial | refine ⟨.inr rfl, ?_⟩), by repeat' (first | exact trivial | refine ⟨rfl, ?_⟩), by first | rfl | simp [closedB, Qd, Qb, Qc, dom, Qa, *], by first | rfl | simp [keepB, dom]⟩) ?_ ?_
  · exact ⟨Nat.zero_le _, by intro j hj; omega⟩
  intro i hi NX hN
  unfold K3; simp (maxSteps := 2000000) only [bitvec_to_nat, reduceIte, Nat.reduceEqDiff, Nat.reduceAdd, Nat.reduceLeDiff, reduceCtorEq, Nat.reduceBEq, Nat.reduceLT, Nat.reduceMod, fmc, Qf, Qh, Qe, Qu, keepB, Qi, Qw, KM, Qr9, QpZ]
  refine ⟨fun h1 => ⟨by omega, by omega, hg, _, _, .inl ⟨[(3, .box ls)], hC (zs.getD i default), ?_, ?_, ?_, ?_, ?_, rfl, ?_⟩, ?_⟩, fun h1 => ?_⟩
  · simp [getM]
  · intro q hq; left; revert q; simp [dom]
  · simp [dom]
  · simp [Qb, Qd, dom, Qa, Qs8]
  · simp [Qc, Qa, *]
  · simp [Qc, Qa, *]
  · simp (maxSteps := 2000000) only [bitvec_to_nat, reduceIte, Nat.reduceEqDiff, Nat.reduceAdd, Nat.reduceLeDiff, reduceCtorEq, Nat.reduceBEq, Nat.reduceLT, Nat.reduceMod, fmc, Qf, Qh, Qe, Qu, keepB, Qi, Qw, KM]
    refine ⟨fun h2 => ?_, fun h2 => ?_⟩
    · simp (maxSteps := 2000000) only [bitvec_to_nat, reduceIte, Nat.reduceEqDiff, Nat.reduceAdd, Nat.reduceLeDiff, reduceCtorEq, Nat.reduceBEq, Nat.reduceLT, Nat.reduceMod, fmc, Qf, Qh, Qe, Qu, keepB, Qi, Qw, KM]
      rw [Qd5 (by omega) h2 hi.2]
      simp [dom, Qa, *]
    · simp (maxSteps := 2000000) only [bitvec_to_nat, reduceIte, Nat.reduceEqDiff, Nat.reduceAdd, Nat.reduceLeDiff, reduceCtorEq, Nat.reduceBEq, Nat.reduceLT, Nat.reduceMod, fmc, Qf, Qh, Qe, Qu, keepB, Qi, Qw, KM]
      refine ⟨by omega, ?_⟩
      refine hN (i + 1) _ (by simp only [Jr, Js, Jt, Ju, Qj, Qk, Ql, Qm, reduceIte, Nat.reduceEqDiff]; exact ⟨by repeat' (first | exact trivial | refine ⟨.inr rfl, ?_⟩), by repeat' (first | exact trivial | refine ⟨rfl, ?_⟩), by first | rfl | simp [closedB, Qd, Qb, Qc, dom, Qa, *], by first | rfl | simp [keepB, dom]⟩) ?_ ?_
      · exact ⟨by omega, Q5 hi.2 h2⟩
      · omega
  · rw [VA fun j hj => hi.2 j (by omega)]
    simp [dom, Qa, *]
def QlK : RTab
  | [.sl zt 11 zx, .fn 119 [] [.ptr ob off]], M => match M ob with
    | some (.box [.str s]) => some ⟨off = 0 ∧ (zx.map Jm).map (Own.row 0) = zx ∧ (zx.map Jm).length ≤ 4611686018427387904, fun _ : Unit => True, fun _ => .int .i64 (QhI (fun z => decide (z.fl = s)) (zx.map Jm)), fun _ => [(ob, .box [.str s])]⟩
    | _ => none
  | _, _ => none
theorem Qto : okTab P 118 QlK := by
  intro args M o h hp
  unfold QlK at h
  split at h
  · rename_i zt zx ob off
    split at h
    · rename_i s hM
      cases h
      obtain ⟨rfl, e0, HP⟩ := hp
      have hC := Qg2 119 (by kernel_rfl) _ rfl (fun z => decide (z.fl = s)) zt (zx.map Jm) HP fun z => Qtn z s
      simp only [e0, decide_eq_true_eq] at hC
      exact ⟨(), trivial, Qce _ hC (by simp [Je, noref]) rfl (by assumption) (by simp [K8, ren, swp]) (by simp [Qb, Qd, noref])⟩
    · cases h
  · cases h
def oAt (l : List Own) (s : ByteArray) : Int := QhI (fun z => decide (z.fl = s)) l
theorem Qo4 (b : Book) (s : ByteArray) (hl : b.own.length ≤ 4611686018427387904) : Contract P 96 [.agg (b.row 0), .str s] [] (.int .i64 (oAt b.own s)) [] := by
  simp only [Book.row]
  refine Qg ((Env.nil P).addR 118 QlK Qto) hm QbV (nlb rfl) rfl ?_; unfold ZF; simp (maxSteps := 2000000) only [bitvec_to_nat, reduceIte, Nat.reduceEqDiff, Nat.reduceAdd, Nat.reduceLeDiff, reduceCtorEq, Nat.reduceBEq, Nat.reduceLT, Nat.reduceMod, fmc, Qf, Qh, Qe, Qu, keepB, Qi, Qw, QlK, Qe3, List.length_map]
  exact ⟨hl, fun _ => rfl⟩
theorem Qt0 (b : Book) (s : ByteArray) (hl : b.own.length ≤ 4611686018427387904) : Contract P 58 [.agg (b.row 0), .str s] [] (.int .i64 (oAt b.own s)) [] := by
  simp only [Book.row]
  refine Qg (Env.nil P) hm Qju (nlb rfl) rfl ?_; unfold QeZ; simp (maxSteps := 2000000) only [bitvec_to_nat, reduceIte, Nat.reduceEqDiff, Nat.reduceAdd, Nat.reduceLeDiff, reduceCtorEq, Nat.reduceBEq, Nat.reduceLT, Nat.reduceMod, fmc, int_toBitVec_meta, method_specs_simp]
  refine QE (fun i : Nat => [(5, .int .i64 i)]) (fun _ => []) (fun i => i ≤ b.own.length ∧ ∀ j, j < i → decide ((b.own.getD j default).fl = s) = false) (fun i => b.own.length - i) 0 (by simp only [Jr, Js, Jt, Ju, Qj, Qk, Ql, Qm, reduceIte, Nat.reduceEqDiff]; exact ⟨by repeat' (first | exact trivial | refine ⟨.inr rfl, ?_⟩), by repeat' (first | exact trivial | refine ⟨rfl, ?_⟩), by first | rfl | simp [closedB, Qd, Qb, Qc, dom, Qa, *], by first | rfl | simp [keepB, dom]⟩) ⟨Nat.zero_le _, by intro j hj; omega⟩ ?_
  intro i hi NX hN
  unfold Qbw; simp (maxSteps := 2000000) only [bitvec_to_nat, reduceIte, Nat.reduceEqDiff, Nat.reduceAdd, Nat.reduceLeDiff, reduceCtorEq, Nat.reduceBEq, Nat.reduceLT, Nat.reduceMod, fmc, int_toBitVec_meta, method_specs_simp]
  repeat' (first | with_reducible apply And.intro | with_reducible intro _)
  all_goals first
    | omega
    | (rw [oAt, Qd5 (by omega) (by simpa using ‹_›) hi.2]; done)
    | (refine hN (i + 1) _ (by simp only [Jr, Js, Jt, Ju, Qj, Qk, Ql, Qm, reduceIte, Nat.reduceEqDiff]; exact ⟨by repeat' (first | exact trivial | refine ⟨.inr rfl, ?_⟩), by repeat' (first | exact trivial | refine ⟨rfl, ?_⟩), by first | rfl | simp [closedB, Qd, Qb, Qc, dom, Qa, *], by first | rfl | simp [keepB, dom]⟩) ?_ ?_
       · exact ⟨by omega, Q5 hi.2 (by simpa using ‹_›)⟩
       · omega)
    | (rw [oAt, VA fun j hj => hi.2 j (by omega)]; done)
    | trace_state
def QqK : List AV → Option (Prop × AV)
  | [.agg [.sl 0 11 b_own, .sl 0 3 b_parts, .sl 0 2 b_seen], .str s] => some ((((b_own.map Jm).map (Own.row 0) = b_own) ∧ ((b_parts.map QX).map (Part.row 0) = b_parts) ∧ ((b_seen.map QZ).map Seen.row = b_seen)) ∧ ((Book.own (Book.mk (b_own.map Jm) (b_parts.map QX) (b_seen.map QZ))).length ≤ 4611686018427387904), .int .i64 (oAt (Book.own (Book.mk (b_own.map Jm) (b_parts.map QX) (b_seen.map QZ))) s))
  | _ => none
theorem Qt1 : ∀ args p v, QqK args = some (p, v) → p → Contract P 58 args [] v [] ∧ noref v = true ∧ No99 v := by
  intro args p v h1 h2
  unfold QqK at h1
  split at h1
  · rename_i b_own b_parts b_seen s
    cases h1
    obtain ⟨⟨e0, e1, e2⟩, HP⟩ := h2
    have := Qt0 (Book.mk (b_own.map Jm) (b_parts.map QX) (b_seen.map QZ)) s HP
    exact ⟨by simpa only [e0, e1, e2, Book.row] using this, rfl, trivial⟩
  · cases h1
set_option maxHeartbeats 8000000 in
theorem Qh2 (b : Book) (hb : b.small) : Contract P 60 [.agg (b.row 0)] [] (bkV b 131 b.own.length 149 b.parts.length 154 0) (bkM b 131 b.own.length 149 b.parts.length 154 0 110 121) := by
  have hs1 : True := trivial
  have hs2 : True := trivial
  have hs3 : True := trivial
  have tkO : True := trivial
  have tkB : True := trivial
  have bA : True := trivial
  have bP : True := trivial
  have hp1 : True := trivial
  have hp2 : True := trivial
  have hp3 : True := trivial
  have tkP : True := trivial
  have tkS : True := trivial
  have hb' := hb
  unfold Book.small at hb
  have cl0 : ∀ (i j : Nat), closedB ⟨[(1, .ptr 101 0), (2, .ptr 102 0), (3, .ptr 103 0), (9, .sl 0 11 (b.own.map (Own.row 0))), (10, .int .i64 (b.own.length : Nat)), (11, .int .i64 (i : Nat))], (101, .box [.sl 0 11 (b.own.map (Own.row 0)), .sl 0 3 (b.parts.map (Part.row 0)), .sl 0 2 (b.seen.map Seen.row)]) :: (102, .box [.sl 0 11 [], .sl 0 3 [], .sl 0 2 []]) :: (103, .box [.own 131 j 0 j, .sl 98 3 [], .sl 98 2 []]) :: Qha 131 j 110 (b.own.take j)⟩ = true := fun i j => by
    simp only [closedB, List.all_cons, Bool.and_eq_true]
    refine ⟨⟨rfl, rfl, rfl, rfl, rfl, rfl, rfl⟩, rfl, rfl, by simp [Qc, Qb, Qd, dom, OO], ?_⟩
    exact Wn QJ KZ fun p hp => List.mem_cons_of_mem _ (List.mem_cons_of_mem _ (List.mem_cons_of_mem _ (Jx (List.mem_cons_of_mem _ hp))))
  have cl1 : ∀ (i : Nat), closedB ⟨[(1, .ptr 101 0), (2, .ptr 102 0), (3, .ptr 103 0), (35, .sl 0 3 (b.parts.map (Part.row 0))), (36, .int .i64 (b.parts.length : Nat)), (37, .int .i64 (i : Nat))], (101, .box [.sl 0 11 (b.own.map (Own.row 0)), .sl 0 3 (b.parts.map (Part.row 0)), .sl 0 2 (b.seen.map Seen.row)]) :: (102, .box [.sl 0 11 [], .sl 0 3 [], .sl 0 2 []]) :: (103, .box [.own 131 b.own.length 0 b.own.length, .own 149 i 0 i, .sl 98 2 []]) :: (Qha 131 b.own.length 110 b.own ++ YH 149 i 121 (b.parts.take i))⟩ = true := fun i => by
    simp only [closedB, List.all_cons, Bool.and_eq_true]
    refine ⟨⟨rfl, rfl, rfl, rfl, rfl, rfl, rfl⟩, rfl, rfl, by simp [Qc, Qb, Qd, dom, OO], ?_⟩
    rw [List.all_append, Bool.and_eq_true]
    exact ⟨Wn QJ KZ fun p hp => List.mem_cons_of_mem _ (List.mem_cons_of_mem _ (List.mem_cons_of_mem _ (Jx (List.mem_append.2 (.inl (List.mem_cons_of_mem _ hp)))))), Wn QH J8 fun p hp => List.mem_cons_of_mem _ (List.mem_cons_of_mem _ (List.mem_cons_of_mem _ (Jx (List.mem_append.2 (.inr (List.mem_cons_of_mem _ hp))))))⟩
  simp only [Book.row]
  refine Qg (Env.nil P) hm QgN (nlb rfl) rfl ?_; unfold QaO; simp (maxSteps := 2000000) (maxDischargeDepth := 8) only [bitvec_to_nat, reduceIte, Nat.reduceEqDiff, Nat.reduceAdd, Nat.reduceLeDiff, reduceCtorEq, Nat.reduceBEq, Nat.reduceLT, Nat.reduceMod, fmc, Qf, Qh, Qe, Qu, keepB, Qi, Qw, int_toBitVec_meta, method_specs_simp, Nat.sub_zero, List.append_nil, hs1, hs2, hs3, tkO, tkB, Q7, QfU, gB, gB0, sB, sB0, bA, bP, hp1, hp2, hp3, tkP, tkS, Jf, Q1, Q8, List.append_assoc, List.cons_append, List.nil_append, JH, Jz, JA, Q9, Jc, Jp, YK, Kz]
  refine QbF (fun i : Nat => ⟨[(1, .ptr 101 0), (2, .ptr 102 0), (3, .ptr 103 0), (9, .sl 0 11 (b.own.map (Own.row 0))), (10, .int .i64 (b.own.length : Nat)), (11, .int .i64 (i : Nat))], (101, .box [.sl 0 11 (b.own.map (Own.row 0)), .sl 0 3 (b.parts.map (Part.row 0)), .sl 0 2 (b.seen.map Seen.row)]) :: (102, .box [.sl 0 11 [], .sl 0 3 [], .sl 0 2 []]) :: (103, .box [.own 131 i 0 i, .sl 98 3 [], .sl 98 2 []]) :: Qha 131 i 110 (b.own.take i)⟩) (fun i => i ≤ b.own.length) (fun i => b.own.length - i) 0 ?_ (Nat.zero_le _) ?_
  · exact ⟨by repeat' (first | exact trivial | refine ⟨.inr rfl, ?_⟩), ⟨rfl, rfl, rfl, rfl, trivial⟩, cl0 0 0, by simp [keepB, dom]⟩
  intro i hi NX hN
  by_cases h : i < b.own.length
  · have hx := hb.1.2 _ (Jy h)
    unfold Own.small at hx
    have bA : QpM (QA QW (Own.row 0) 110 0 (b.own.take i)) := Qa4
    have hlt : (b.own.take i).length = i := by rw [List.length_take]; omega
    have tkO : (QQ (Own.row 0) 110 0 (b.own.take i)).take i = QQ (Own.row 0) 110 0 (b.own.take i) := List.take_of_length_le (by rw [Q7, hlt]; omega)
    have tkB : List.take (b.own.getD i default).gr.length ((b.own.getD i default).gr.map Jw) = (b.own.getD i default).gr.map Jw := List.take_of_length_le (by simp)
    have hC1 := (Qb5 0 (b.own.getD i default).tu (by omega)).ren (swp 104 (fam 116 i)) (Ja _ _)
    have hC2 := (Qb5 0 (b.own.getD i default).nx (by omega)).ren (swp 104 (fam 118 i)) (Ja _ _)
    simp only [K8, ren, Ks, renO, swp, reduceIte, Nat.reduceLT] at hC1 hC2
    have hnw : ∀ q, q < 1000 → getM (QA QW (Own.row 0) 110 0 (b.own.take i)) (fam q i) = none := fun q hq => Qa7 QJ (by omega) hq
    have hs1 : ∀ (B : List (Nat × AObj)) (q : Nat) (x : AObj), q < 1000 → JP (QA QW (Own.row 0) 110 0 (b.own.take i) ++ B) (fam q i) x = QA QW (Own.row 0) 110 0 (b.own.take i) ++ JP B (fam q i) x := fun B q x hq => Yw (hnw q hq)
    have hs2 : ∀ (B : List (Nat × AObj)) (q : Nat), q < 1000 → getM (QA QW (Own.row 0) 110 0 (b.own.take i) ++ B) (fam q i) = getM B (fam q i) := fun B q hq => Jd (hnw q hq)
    have hs3 : ∀ (q : Nat) (x : AObj), q < 1000 → JP (QA QW (Own.row 0) 110 0 (b.own.take i)) (fam q i) x = QA QW (Own.row 0) 110 0 (b.own.take i) ++ [(fam q i, x)] := fun q x hq => Xr (hnw q hq)
    simp only [OO]
    unfold Xi; simp (maxSteps := 2000000) (maxDischargeDepth := 8) only [bitvec_to_nat, reduceIte, Nat.reduceEqDiff, Nat.reduceAdd, Nat.reduceLeDiff, reduceCtorEq, Nat.reduceBEq, Nat.reduceLT, Nat.reduceMod, fmc, Qf, Qh, Qe, Qu, keepB, Qi, Qw, int_toBitVec_meta, method_specs_simp, Nat.sub_zero, List.append_nil, hs1, hs2, hs3, tkO, tkB, Q7, QfU, gB, gB0, sB, sB0, bA, bP, hp1, hp2, hp3, tkP, tkS, Jf, Q1, Q8, List.append_assoc, List.cons_append, List.nil_append, JH, Jz, JA, Q9, Jc, Jp, YK, Kz]
    refine ⟨fun _ => ?_, fun h' => absurd (by omega) h'⟩
    repeat (refine ⟨by first | omega | rfl, ?_⟩)
    refine ⟨_, _, .inr (.inr (.inl ⟨_, rfl, hC1, by simp [getM, Jf, Q1, JK, hnw], by simp [Qd, Qb, dom], rfl, by simp [No99], by simp [Z8, Jv]⟩)), ?_⟩
    simp (maxSteps := 2000000) (maxDischargeDepth := 8) only [bitvec_to_nat, reduceIte, Nat.reduceEqDiff, Nat.reduceAdd, Nat.reduceLeDiff, reduceCtorEq, Nat.reduceBEq, Nat.reduceLT, Nat.reduceMod, fmc, Qf, Qh, Qe, Qu, keepB, Qi, Qw, int_toBitVec_meta, method_specs_simp, Nat.sub_zero, List.append_nil, hs1, hs2, hs3, tkO, tkB, Q7, QfU, gB, gB0, sB, sB0, bA, bP, hp1, hp2, hp3, tkP, tkS, Jf, Q1, Q8, List.append_assoc, List.cons_append, List.nil_append, JH, Jz, JA, Q9, Jc, Jp, YK, Kz]
    repeat (refine ⟨by first | omega | rfl, ?_⟩)
    refine ⟨_, _, .inr (.inr (.inl ⟨_, rfl, hC2, by simp [getM, Jf, Q1, Q8, JK, hnw], by simp [Qd, Qb, dom], rfl, by simp [No99], by simp [Z8, Jv]⟩)), ?_⟩
    simp (maxSteps := 2000000) (maxDischargeDepth := 8) only [bitvec_to_nat, reduceIte, Nat.reduceEqDiff, Nat.reduceAdd, Nat.reduceLeDiff, reduceCtorEq, Nat.reduceBEq, Nat.reduceLT, Nat.reduceMod, fmc, Qf, Qh, Qe, Qu, keepB, Qi, Qw, int_toBitVec_meta, method_specs_simp, Nat.sub_zero, List.append_nil, hs1, hs2, hs3, tkO, tkB, Q7, QfU, gB, gB0, sB, sB0, bA, bP, hp1, hp2, hp3, tkP, tkS, Jf, Q1, Q8, List.append_assoc, List.cons_append, List.nil_append, JH, Jz, JA, Q9, Jc, Jp, YK, Kz]
    repeat (refine ⟨by first | omega | rfl, ?_⟩)
    have hoo : ∀ q, q < 1000 → Qbj (Qha 131 (i + 1) 110 (b.own.take (i + 1))) q ∨ q = 131 := fun q hq => by
      by_cases e : q = 131
      · exact .inr e
      · exact .inl (Jc e hq (by omega))
    have hot : ∀ q, q < 131 → Qbj (Qha 131 (i + 1) 110 (b.own.take (i + 1))) q := fun q hq => Jc (by omega) (by omega) (by omega)
    have s3 : ∀ q, q < 1000 → q ≠ 123 → swp 123 (fam 119 i) q = q := fun q hq hn => Qgl hn (by unfold fam; omega)
    have s4 : ∀ j i', j < 11 → i' < i → swp 123 (fam 119 i) (fam (110 + j) i') = fam (110 + j) i' := fun j i' hj hi' => Qgl (by unfold fam; omega) (by unfold fam; omega)
    have s5 : swp 123 (fam 119 i) (fam 116 i) = fam 116 i := Qgl (by unfold fam; omega) (by unfold fam; omega)
    have s6 : swp 123 (fam 119 i) (fam 118 i) = fam 118 i := Qgl (by unfold fam; omega) (by unfold fam; omega)
    have s7 : swp 123 (fam 119 i) (fam 119 i) = 123 := by unfold swp; rw [if_neg (by unfold fam; omega), if_pos rfl]
    have s8 : swp 123 (fam 119 i) 123 = fam 119 i := by unfold swp; rw [if_pos rfl]
    have ht : b.own.take (i + 1) = b.own.take i ++ [b.own.getD i default] := by rw [List.take_succ_eq_append_getElem h]; simp [h]
    refine ⟨swp 123 (fam 119 i), ⟨[(1, .ptr 101 0), (2, .ptr 102 0), (3, .ptr 103 0), (9, .sl 0 11 (b.own.map (Own.row 0))), (10, .int .i64 (b.own.length : Nat)), (11, .int .i64 (i : Nat))], (101, .box [.sl 0 11 (b.own.map (Own.row 0)), .sl 0 3 (b.parts.map (Part.row 0)), .sl 0 2 (b.seen.map Seen.row)]) :: (102, .box [.sl 0 11 [], .sl 0 3 [], .sl 0 2 []]) :: (103, .box [.own 131 (i + 1) 0 (i + 1), .sl 98 3 [], .sl 98 2 []]) :: Qha 131 (i + 1) 110 (b.own.take (i + 1))⟩, Ja _ _, Qs4 (by omega) (by rw [Qaf (by omega)]; omega), ⟨?_, Q4 ?_, cl0 i (i + 1), ?_⟩, ?_⟩
    · simp only [St.ren, QsL, ren]
      repeat' (first | exact trivial | refine ⟨.inr rfl, ?_⟩)
    · simp only [St.ren]
      intro p hp
      rw [Zl (Ja _ _)]
      rcases List.mem_cons.1 hp with rfl | hp
      · rw [s3 _ (by omega) (by omega)]; simp [getM, renO, K8, ren]
      rcases List.mem_cons.1 hp with rfl | hp
      · rw [s3 _ (by omega) (by omega)]; simp [getM, renO, K8, ren]
      rcases List.mem_cons.1 hp with rfl | hp
      · rw [s3 _ (by omega) (by omega)]; simp [getM, renO, K8, ren, s3]
      rcases Qjl hp with rfl | hp
      · rw [s3 _ (by omega) (by omega)]
        simp only [getM, reduceIte, Nat.reduceEqDiff, Option.map_some, renO, Nat.reduceLT, Nat.reduceAdd]
        rw [List.map_append, Qd8 (k' := 110) (i1 := 0) QJ (fun j i' hj hi' => by rw [hlt] at hi'; rw [Nat.zero_add]; exact s4 j i' hj hi'), ht, Qd7, hlt, Nat.zero_add]
        simp [K8, ren, s5, s6, s8, Qck, QmE, Own.row]
      · rw [Qa6 h] at hp
        rcases List.mem_append.1 hp with hp | hp
        · have q1 := Qgk QJ (by omega) p hp
          obtain ⟨i', j, v', sz', xs', h1', h2', rfl⟩ := Kg.1 hp
          have hj := QeX h2'
          rw [QJ.len] at hj
          rw [hlt] at h1'
          rw [Nat.zero_add] at q1 ⊢
          rw [s4 j i' hj h1']
          simp only [getM]
          rw [if_neg (by unfold fam; omega), if_neg (by unfold fam; omega), if_neg (by unfold fam; omega), if_neg (by unfold fam; omega), Ke q1]
          simp [renO, KZ]
        · simp only [QhM, QpO, Own.row, List.append_nil, List.nil_append, List.cons_append, List.mem_cons, List.not_mem_nil, or_false, Nat.reduceAdd] at hp
          rcases hp with rfl | rfl | rfl
          · rw [s5]; simp [getM, Jf, Q1, Q8, hs2, renO, QW]
          · rw [s6]; simp [getM, Jf, Q1, Q8, hs2, renO, QW]
          · rw [s7]; simp [getM, Jf, Q1, Q8, gB bA, renO, QW]
    · refine JX (QmI ?_ (Qr2 (by omega) (by rw [Qaf (by omega)]; omega)))
      exact QY (by omega) (QY (by omega) (QY (by omega) (QY (by omega) (KQ (JB QJ (by omega) (by omega)) (by repeat' (first | exact G8 | refine QY (by first | omega | (rw [Qaf (by omega)]; omega)) ?_))))))
    · simp (maxSteps := 2000000) (maxDischargeDepth := 8) only [bitvec_to_nat, reduceIte, Nat.reduceEqDiff, Nat.reduceAdd, Nat.reduceLeDiff, reduceCtorEq, Nat.reduceBEq, Nat.reduceLT, Nat.reduceMod, fmc, Qf, Qh, Qe, Qu, keepB, Qi, Qw, int_toBitVec_meta, method_specs_simp, Nat.sub_zero, List.append_nil, hs1, hs2, hs3, tkO, tkB, Q7, QfU, gB, gB0, sB, sB0, bA, bP, hp1, hp2, hp3, tkP, tkS, Jf, Q1, Q8, List.append_assoc, List.cons_append, List.nil_append, JH, Jz, JA, Q9, Jc, Jp, YK, Kz]
      refine ⟨⟨by omega, by omega⟩, hN (i + 1) _ ⟨by repeat' (first | exact trivial | refine ⟨.inr rfl, ?_⟩), ⟨rfl, rfl, rfl, Q4 ?_⟩, cl0 (i + 1) (i + 1), Yc rfl⟩ h (by omega)⟩
      exact QD (hot 101 (by omega)) (QD (hot 102 (by omega)) (QD (hot 103 (by omega)) (QbR QJ (by omega) (by omega))))
  · have e : i = b.own.length := by omega
    subst e
    have et : b.own.take b.own.length = b.own := List.take_length
    have bA : QpM (QA QW (Own.row 0) 110 0 b.own) := Qa4
    simp only [et, OO]
    unfold Xi; simp (maxSteps := 2000000) (maxDischargeDepth := 8) only [bitvec_to_nat, reduceIte, Nat.reduceEqDiff, Nat.reduceAdd, Nat.reduceLeDiff, reduceCtorEq, Nat.reduceBEq, Nat.reduceLT, Nat.reduceMod, fmc, Qf, Qh, Qe, Qu, keepB, Qi, Qw, int_toBitVec_meta, method_specs_simp, Nat.sub_zero, List.append_nil, hs1, hs2, hs3, tkO, tkB, Q7, QfU, gB, gB0, sB, sB0, bA, bP, hp1, hp2, hp3, tkP, tkS, Jf, Q1, Q8, List.append_assoc, List.cons_append, List.nil_append, JH, Jz, JA, Q9, Jc, Jp, YK, Kz]
    refine ⟨fun h' => absurd h' (by omega), fun _ => ?_⟩
    refine QbF (fun i : Nat => ⟨[(1, .ptr 101 0), (2, .ptr 102 0), (3, .ptr 103 0), (35, .sl 0 3 (b.parts.map (Part.row 0))), (36, .int .i64 (b.parts.length : Nat)), (37, .int .i64 (i : Nat))], (101, .box [.sl 0 11 (b.own.map (Own.row 0)), .sl 0 3 (b.parts.map (Part.row 0)), .sl 0 2 (b.seen.map Seen.row)]) :: (102, .box [.sl 0 11 [], .sl 0 3 [], .sl 0 2 []]) :: (103, .box [.own 131 b.own.length 0 b.own.length, .own 149 i 0 i, .sl 98 2 []]) :: (Qha 131 b.own.length 110 b.own ++ YH 149 i 121 (b.parts.take i))⟩) (fun i => i ≤ b.parts.length) (fun i => b.parts.length - i) 0 ?_ (Nat.zero_le _) ?_
    · refine ⟨by repeat' (first | exact trivial | refine ⟨.inr rfl, ?_⟩), ⟨rfl, rfl, rfl, Qkk.2 ⟨Q4 ?_, ?_⟩⟩, cl1 0, JX ?_⟩
      · exact QD (Jc (by omega) (by omega) (by omega)) (QD (Jc (by omega) (by omega) (by omega)) (QD (Jc (by omega) (by omega) (by omega)) (Kf (Kn (by omega) (by omega)))))
      · exact ⟨by simp only [getM, Nat.reduceEqDiff, reduceIte]; rw [gB bA (by omega)]; rfl, trivial⟩
      · exact QY (by omega) (QY (by omega) (QY (by omega) (QY (by omega) (KQ (JB QJ (by omega) (by omega)) (QY (by omega) G8)))))
    intro i hi NX hN
    by_cases h : i < b.parts.length
    · have hx := hb.2.1.2 _ (Jy h)
      have hlt : (b.parts.take i).length = i := by rw [List.length_take]; omega
      have bP : QpM (QA Jo (Part.row 0) 121 0 (b.parts.take i)) := Qa4
      have tkP : (QQ (Part.row 0) 121 0 (b.parts.take i)).take i = QQ (Part.row 0) 121 0 (b.parts.take i) := List.take_of_length_le (by rw [Q7, hlt]; omega)
      have hC := (Qb5 0 (b.parts.getD i default).bx (by omega)).ren (swp 104 (fam 123 i)) (Ja _ _)
      simp only [K8, ren, Ks, renO, swp, reduceIte, Nat.reduceLT] at hC
      have hnw : getM (QA Jo (Part.row 0) 121 0 (b.parts.take i)) (fam 123 i) = none := Qa7 QH (by omega) (by omega)
      have hno : getM (QA QW (Own.row 0) 110 0 b.own) (fam 123 i) = none := Q9 fun p hp e => by
        have := (Kh QJ (by omega) hp).2.2; rw [e, Qaf (by omega)] at this; omega
      have hs1 : ∀ (B : List (Nat × AObj)) (x : AObj), JP (QA QW (Own.row 0) 110 0 b.own ++ B) (fam 123 i) x = QA QW (Own.row 0) 110 0 b.own ++ JP B (fam 123 i) x := fun B x => Yw hno
      have hs2 : ∀ (B : List (Nat × AObj)), getM (QA QW (Own.row 0) 110 0 b.own ++ B) (fam 123 i) = getM B (fam 123 i) := fun B => Jd hno
      have hp1 : ∀ (B : List (Nat × AObj)) (x : AObj), JP (QA Jo (Part.row 0) 121 0 (b.parts.take i) ++ B) (fam 123 i) x = QA Jo (Part.row 0) 121 0 (b.parts.take i) ++ JP B (fam 123 i) x := fun B x => Yw hnw
      have hp2 : ∀ (B : List (Nat × AObj)), getM (QA Jo (Part.row 0) 121 0 (b.parts.take i) ++ B) (fam 123 i) = getM B (fam 123 i) := fun B => Jd hnw
      have hp3 : ∀ (x : AObj), JP (QA Jo (Part.row 0) 121 0 (b.parts.take i)) (fam 123 i) x = QA Jo (Part.row 0) 121 0 (b.parts.take i) ++ [(fam 123 i, x)] := fun x => Xr hnw
      simp only [OO]
      unfold Xj; simp (maxSteps := 2000000) (maxDischargeDepth := 8) only [bitvec_to_nat, reduceIte, Nat.reduceEqDiff, Nat.reduceAdd, Nat.reduceLeDiff, reduceCtorEq, Nat.reduceBEq, Nat.reduceLT, Nat.reduceMod, fmc, Qf, Qh, Qe, Qu, keepB, Qi, Qw, int_toBitVec_meta, method_specs_simp, Nat.sub_zero, List.append_nil, hs1, hs2, hs3, tkO, tkB, Q7, QfU, gB, gB0, sB, sB0, bA, bP, hp1, hp2, hp3, tkP, tkS, Jf, Q1, Q8, List.append_assoc, List.cons_append, List.nil_append, JH, Jz, JA, Q9, Jc, Jp, YK, Kz]
      refine ⟨fun _ => ?_, fun h' => absurd (by omega) h'⟩
      repeat (refine ⟨by first | omega | rfl, ?_⟩)
      refine ⟨_, _, .inr (.inr (.inl ⟨_, rfl, hC, by simp [getM, Jf, Q1, JK, hnw, hno], by simp [Qd, Qb, dom], rfl, by simp [No99], by simp [Z8, Jv]⟩)), ?_⟩
      simp (maxSteps := 2000000) (maxDischargeDepth := 8) only [bitvec_to_nat, reduceIte, Nat.reduceEqDiff, Nat.reduceAdd, Nat.reduceLeDiff, reduceCtorEq, Nat.reduceBEq, Nat.reduceLT, Nat.reduceMod, fmc, Qf, Qh, Qe, Qu, keepB, Qi, Qw, int_toBitVec_meta, method_specs_simp, Nat.sub_zero, List.append_nil, hs1, hs2, hs3, tkO, tkB, Q7, QfU, gB, gB0, sB, sB0, bA, bP, hp1, hp2, hp3, tkP, tkS, Jf, Q1, Q8, List.append_assoc, List.cons_append, List.nil_append, JH, Jz, JA, Q9, Jc, Jp, YK, Kz]
      repeat (refine ⟨by first | omega | rfl, ?_⟩)
      have ht : b.parts.take (i + 1) = b.parts.take i ++ [b.parts.getD i default] := by rw [List.take_succ_eq_append_getElem h]; simp [h]
      refine hN (i + 1) _ ⟨by repeat' (first | exact trivial | refine ⟨.inr rfl, ?_⟩), ⟨rfl, rfl, rfl, Qkk.2 ⟨Q4 ?_, ⟨?_, ?_⟩⟩⟩, cl1 (i + 1), JX ?_⟩ h (by omega)
      · exact QD (Jc (by omega) (by omega) (by omega)) (QD (Jc (by omega) (by omega) (by omega)) (QD (Jc (by omega) (by omega) (by omega)) (Kf (Kn (by omega) (by omega)))))
      · simp only [getM, Nat.reduceEqDiff, reduceIte]
        rw [gB bA (by omega), ht, Qd7, hlt, Nat.zero_add]
        simp [getM, Qck, QmE, Part.row]
      · rw [Qa6 h]
        refine Qkk.2 ⟨Q4 fun p hp => ?_, ?_⟩
        · have q1 := Qgk QH (by omega) p hp
          have q2 := Kh QH (by omega) hp
          have q3 : getM (QA QW (Own.row 0) 110 0 b.own) p.1 = none := Q9 fun p' hp' e => by
            have := Kh QJ (by omega) hp'; omega
          simp only [getM]
          rw [if_neg (by omega), if_neg (by omega), if_neg (by omega), if_neg (by omega), Jd q3]
          simp only [getM]
          rw [if_neg (by omega), Ke q1]
        · simp only [QhM, QpO, Part.row, List.append_nil, List.nil_append, List.cons_append, Nat.reduceAdd]
          exact ⟨by simp [getM, Jf, Q1, hs2, hp2, Jo], trivial⟩
      · exact QY (by omega) (QY (by omega) (QY (by omega) (QY (by omega) (KQ (JB QJ (by omega) (by omega)) (QY (by omega) (KQ (JB QH (by omega) (by omega)) (by repeat' (first | exact G8 | refine QY (by first | omega | (rw [Qaf (by omega)]; omega)) ?_))))))))
    · have e : i = b.parts.length := by omega
      subst e
      have et : b.parts.take b.parts.length = b.parts := List.take_length
      have bP : QpM (QA Jo (Part.row 0) 121 0 b.parts) := Qa4
      have tkS : List.take b.seen.length (b.seen.map Seen.row) = b.seen.map Seen.row := List.take_of_length_le (by simp)
      simp only [et, OO]
      unfold Xj; simp (maxSteps := 2000000) (maxDischargeDepth := 8) only [bitvec_to_nat, reduceIte, Nat.reduceEqDiff, Nat.reduceAdd, Nat.reduceLeDiff, reduceCtorEq, Nat.reduceBEq, Nat.reduceLT, Nat.reduceMod, fmc, Qf, Qh, Qe, Qu, keepB, Qi, Qw, int_toBitVec_meta, method_specs_simp, Nat.sub_zero, List.append_nil, hs1, hs2, hs3, tkO, tkB, Q7, QfU, gB, gB0, sB, sB0, bA, bP, hp1, hp2, hp3, tkP, tkS, Jf, Q1, Q8, List.append_assoc, List.cons_append, List.nil_append, JH, Jz, JA, Q9, Jc, Jp, YK, Kz]
      refine ⟨fun h' => absurd h' (by omega), fun _ => ?_⟩
      have hof : ∀ q, q < 131 → Qbj (bkM b 131 b.own.length 149 b.parts.length 154 0 110 121) q := fun q hq p hp e => by
        have := KH (by omega) (by omega) hp; omega
      refine ⟨by omega, rfl, Q4 (QD (hof 101 (by omega)) (QD (hof 102 (by omega)) (QD (hof 103 (by omega)) (QF (Xk (by omega) (by omega) (by omega) (by omega) (by omega) (by omega) (by omega) (by omega) (by omega)))))), QaP, QeL, ?_⟩
      simp only [Bool.true_or, Bool.true_and]
      exact Qik (T := QA QW (Own.row 0) 110 0 b.own ++ (149, AObj.arr 1000124 b.parts.length 3 (QQ (Part.row 0) 121 0 b.parts)) :: (QA Jo (Part.row 0) 121 0 b.parts ++ [(154, AObj.arr 118 0 2 (b.seen.map Seen.row))])) (KQ (JB QJ (by omega) (by omega)) (QY (by omega) (KQ (JB QH (by omega) (by omega)) (QY (by omega) G8))))
end
end Go.Ve

namespace Go.Ve
noncomputable section
open Go.Proofs
set_option maxRecDepth 100000
open Go.ChangeShapes Go.WideShapes
theorem QlL {M K : Nat → Option AObj} {b : Book} {a va c vc d vd kO kP : Nat} (hM : ∀ p ∈ bkM b a va c vc d vd kO kP, M p.1 = some p.2) (hK : ∀ p ∈ bkM b a va c vc d vd kO kP, K p.1 = some p.2) : UO M K (.agg [.own a va 0 b.own.length, .own c vc 0 b.parts.length, .own d vd 0 b.seen.length]) = some (.agg (b.row 99)) := Wx hM hK
theorem QkQ {e cv sz ver i off m : Nat} {xs : List (List AV)} {K : AV → List (Nat × AObj) → Prop} : Y6 (QpH (some (.arr e cv sz xs)) ver i off fun ls => ⟨m + 1 ≤ ls.length, .agg (ls.take (m + 1)), []⟩) K = (ver = cv ∧ Y6 ⟨m + 1 ≤ ((xs.getD i []).drop off).length, .agg (((xs.getD i []).drop off).take (m + 1)), []⟩ K) := by
  simp only [Y6, QpH, and_assoc]
end
end Go.Ve

namespace Go.Ve
noncomputable section
open Go.Proofs
set_option maxRecDepth 100000
open Go.ChangeShapes Go.WideShapes
end
end Go.Ve

namespace Go.Ve
open Go.Proofs
set_option maxRecDepth 100000
/-- spec.l33Own: function 59 -/
def QbG : SFun := { n := 17,res := [.cN 2 11],body := (jq [jn 1 (.box 101 (.v 0)) [0],jn 2 (.alloc 102 [.str ⟨#[]⟩,.int .i64 0,.int .i64 0,.str ⟨#[]⟩,.int .i64 0,.int .i64 0,.sl 0 6 [],.int .i64 0,.sl 0 6 [],.sl 0 1 [],.bool false]) []] [1,2] (jq [jf 3 6 1 [],jl 4 3 [3],jn 5 (.call 66 [.v 4]) [4],jf 6 6 1 [],⟨none,.store 1 (.v 6) (.v 5),none,[5,6]⟩] [1,2] (jq [jf 7 8 1 [],jl 8 7 [7],jn 9 (.call 66 [.v 8]) [8],jf 10 8 1 [],⟨none,.store 1 (.v 10) (.v 9),none,[9,10]⟩] [1,2] (jq [jn 11 (.litOwn 111 9 1 []) [],jf 12 9 1 [],jl 13 12 [12],jn 14 (.app 111 9 1 (.v 11) (.v 13)) [11,13],jf 15 9 1 [],⟨none,.store 1 (.v 15) (.v 14),none,[14,15]⟩] [1,2] (jq [jL 16 11 1 [1],⟨none,.store 11 (.v 2) (.v 16),none,[16]⟩] [2] (.gh (.frzB 102 9) .ret)))))) }
theorem Qhx : QS Go.Proofs.Tryz.prog 59 QbG = true := by kernel_rfl
end Go.Ve

namespace Go.Ve
open Go.Proofs
set_option maxRecDepth 100000
def Xl : SCode := (.seq (jq [jm 11 4 [],jf 12 0 1 [],jl 13 12 [12],jn 14 (.lenL (.v 13)) [13],jb 15 .lss 11 14 [11,14]] [1,2,3,4,15] (.cond (.v 15) .skip (.exit 0))) (.seq (.block 1 (.rgd [jf 18 0 3 [],jl 19 18 [],jf 20 0 1 [],jl 21 20 [],jm 22 4 [],ja 23 11 21 22 [],jL 24 11 23 [],jn 25 (.call 59 [.v 24]) [],jn 26 (.lit 71 11 [.v 25]) [],jn 27 (.app 127 71 11 (.v 19) (.v 26)) [],jf 28 0 3 [],⟨none,.store 1 (.v 28) (.v 27),none,[]⟩] [1,2,3,4] [some [],some [],none,none,none,none,none,some [6,5],none,none,none,none])) (.rg [jm 16 4 [4],jn 17 (.binN .add (.v 16) (ci 1)) [16],jm 4 17 [17]] [1,2,3,4])))
def Xm : SCode := (.seq (jq [jm 29 5 [],jf 30 1 1 [],jl 31 30 [30],jn 32 (.lenL (.v 31)) [31],jb 33 .lss 29 32 [29,32]] [1,2,3,5,33] (.cond (.v 33) .skip (.exit 2))) (.seq (.block 3 (.rgd [jf 36 1 3 [],jl 37 36 [],jf 38 1 1 [],jl 39 38 [],jm 40 5 [],ja 41 3 39 40 [],jf 42 0 41 [],jl 43 42 [],jf 44 1 1 [],jl 45 44 [],jm 46 5 [],ja 47 3 45 46 [],jf 48 1 47 [],jl 49 48 [],jf 50 1 1 [],jl 51 50 [],jm 52 5 [],ja 53 3 51 52 [],jf 54 2 53 [],jl 55 54 [],jn 56 (.call 66 [.v 55]) [],jn 57 (.build [.str ⟨#[]⟩,.int .i64 0,.sl 0 6 []] [(0,1,.v 43),(1,1,.v 49),(2,1,.v 56)]) [],jn 58 (.lit 124 3 [.v 57]) [],jn 59 (.app 159 124 3 (.v 37) (.v 58)) [],jf 60 1 3 [],⟨none,.store 1 (.v 60) (.v 59),none,[]⟩] [1,2,3,5] [some [],some [],some [],some [],none,some [],some [],some [],some [],some [],none,some [],some [],some [],none,none,none,none,none,none,some [19,18,17,16,14,13,12,11,10,8,7,6],none,none,none,none,none])) (.rg [jm 34 5 [5],jn 35 (.binN .add (.v 34) (ci 1)) [34],jm 5 35 [35]] [1,2,3,5])))
/-- spec.l33Copy: function 57 -/
def QaU : SFun := { n := 62,res := [.cN 2 3],body := (jq [jn 1 (.box 101 (.v 0)) [0],jn 2 (.alloc 102 [.sl 0 11 [],.sl 0 3 [],.sl 0 2 []]) []] [1,2] (jq [jn 6 (.litOwn 106 118 2 []) [],jf 7 2 1 [],jl 8 7 [7],jn 9 (.app 106 118 2 (.v 6) (.v 8)) [6,8],jn 10 (.build [.sl 98 11 [],.sl 98 3 [],.sl 98 2 []] [(2,1,.v 9)]) [9],jn 3 (.alloc 103 [.sl 0 11 [],.sl 0 3 [],.sl 0 2 []]) [],⟨none,.store 3 (.v 3) (.v 10),none,[10]⟩] [1,2,3] (.seq (jq [jI 4 0 []] [1,2,3,4] (.block 0 (.gh (.nilB 103 0 127 71) (.loop Xl)))) (.seq (jq [jI 5 0 []] [1,2,3,5] (.block 2 (.gh (.nilB 103 1 159 124) (.loop Xm)))) (jq [jL 61 3 3 [3],⟨none,.store 3 (.v 2) (.v 61),none,[61]⟩] [2] (.gh (.frzB 102 0) (.gh (.frzB 102 1) (.gh (.frzB 102 2) .ret)))))))) }
theorem Qg3 : QS Go.Proofs.Tryz.prog 57 QaU = true := by kernel_rfl
end Go.Ve

namespace Go.Ve
noncomputable section
open Go.Proofs
set_option maxRecDepth 100000
open Go.ChangeShapes Go.WideShapes
theorem Qtp (o : Own) (ho : o.small) : Contract P 59 [.agg (o.row 0)] [] (.agg (o.row 0)) [] := by
  have tkS : List.take o.gr.length (o.gr.map Jw) = o.gr.map Jw := List.take_of_length_le (by simp)
  unfold Own.small at ho
  simp only [Own.row]
  refine Qg ((Env.nil P).add 66 YN QjK) hm Qhx (nlb rfl) rfl ?_; unfold QbG; simp (maxSteps := 2000000) only [bitvec_to_nat, reduceIte, Nat.reduceEqDiff, Nat.reduceAdd, Nat.reduceLeDiff, reduceCtorEq, Nat.reduceBEq, Nat.reduceLT, Nat.reduceMod, fmc, YN, int_toBitVec_meta, method_specs_simp, Nat.sub_zero, List.append_nil, tkS]
  exact ⟨by omega, by omega, by omega⟩
def Qe4 : List AV → Option (Prop × AV)
  | [.agg [.str o_fl, .int .i64 o_st, .int .i64 o_tn, .str o_dst, .int .i64 o_la, .int .i64 o_nr, .sl 0 6 o_tu, .int .i64 o_wi, .sl 0 6 o_nx, .sl 0 1 o_gr, .bool o_sent]] => some ((((o_tu.map Qz).map Box6.row = o_tu) ∧ ((o_nx.map Qz).map Box6.row = o_nx) ∧ ((o_gr.map unS).map Jw = o_gr)) ∧ (Own.small (Own.mk o_fl o_st o_tn o_dst o_la o_nr (o_tu.map Qz) o_wi (o_nx.map Qz) (o_gr.map unS) o_sent)), .agg (Own.row 0 (Own.mk o_fl o_st o_tn o_dst o_la o_nr (o_tu.map Qz) o_wi (o_nx.map Qz) (o_gr.map unS) o_sent)))
  | _ => none
theorem Qtq : ∀ args p v, Qe4 args = some (p, v) → p → Contract P 59 args [] v [] ∧ noref v = true ∧ No99 v := by
  intro args p v h1 h2
  unfold Qe4 at h1
  split at h1
  · rename_i o_fl o_st o_tn o_dst o_la o_nr o_tu o_wi o_nx o_gr o_sent
    cases h1
    obtain ⟨⟨e0, e1, e2⟩, HP⟩ := h2
    have := Qtp (Own.mk o_fl o_st o_tn o_dst o_la o_nr (o_tu.map Qz) o_wi (o_nx.map Qz) (o_gr.map unS) o_sent) HP
    exact ⟨by simpa only [e0, e1, e2, Own.row] using this, rfl, by simp [No99, JI, Own.row, Jv, J4, -List.map_map]⟩
  · cases h1
set_option maxHeartbeats 4000000 in
theorem QqL (b : Book) (hb : b.small) : Contract P 57 [.agg (b.row 0)] [] (.agg (b.row 0)) [] := by
  have tkS : List.take b.seen.length (b.seen.map Seen.row) = b.seen.map Seen.row := List.take_of_length_le (by simp)
  have hlt : True := trivial
  have tk2 : True := trivial
  have eT : True := trivial
  unfold Book.small at hb
  simp only [Book.row]
  refine Qg (((Env.nil P).add 66 YN QjK).add 59 Qe4 Qtq) hm Qg3 (nlb rfl) rfl ?_; unfold QaU; simp (maxSteps := 2000000) only [bitvec_to_nat, reduceIte, Nat.reduceEqDiff, Nat.reduceAdd, Nat.reduceLeDiff, reduceCtorEq, Nat.reduceBEq, Nat.reduceLT, Nat.reduceMod, fmc, Qf, Qh, Qe, Qu, keepB, Qi, Qw, YN, Qe4, int_toBitVec_meta, method_specs_simp, Nat.sub_zero, List.append_nil, tkS, List.length_map, hlt, eT, tk2]
  refine ⟨by omega, ?_⟩
  refine QE (fun i : Nat => [(1, .ptr 101 0), (2, .ptr 102 0), (3, .ptr 103 0), (4, .int .i64 i)]) (fun i => [(101, .box [.sl 0 11 (b.own.map (Own.row 0)), .sl 0 3 (b.parts.map (Part.row 0)), .sl 0 2 (b.seen.map Seen.row)]), (102, .box [.sl 0 11 [], .sl 0 3 [], .sl 0 2 []]), (106, .arr 118 1 2 (b.seen.map Seen.row)), (103, .box [.own 127 i 0 i, .sl 98 3 [], .own 106 1 0 b.seen.length]), (127, .arr 71 i 11 ((b.own.take i).map (Own.row 0)))]) (fun i => i ≤ b.own.length) (fun i => b.own.length - i) 0 (by simp only [Jr, Js, Jt, Ju, Qj, Qk, Ql, Qm, reduceIte, Nat.reduceEqDiff]; exact ⟨by repeat' (first | exact trivial | refine ⟨.inr rfl, ?_⟩), by repeat' (first | exact trivial | refine ⟨rfl, ?_⟩), by first | rfl | simp [closedB, Qd, Qb, Qc, dom, Qa, *], by first | rfl | simp [keepB, dom]⟩) (Nat.zero_le _) ?_
  intro i hi NX hN
  by_cases h : i < b.own.length
  · have hlt : (b.own.take i).length = i := by rw [List.length_take]; omega
    have hx := hb.1.2 _ (Jy h)
    have tk2 : List.take i ((b.own.take i).map (Own.row 0)) = (b.own.take i).map (Own.row 0) := List.take_of_length_le (by rw [List.length_map, hlt]; omega)
    have eN : (b.own.take (i + 1)).map (Own.row 0) = (b.own.take i).map (Own.row 0) ++ [Own.row 0 (b.own.getD i default)] := by rw [List.take_succ_eq_append_getElem h, List.map_append]; simp [h]
    unfold Xl; simp (maxSteps := 2000000) only [bitvec_to_nat, reduceIte, Nat.reduceEqDiff, Nat.reduceAdd, Nat.reduceLeDiff, reduceCtorEq, Nat.reduceBEq, Nat.reduceLT, Nat.reduceMod, fmc, Qf, Qh, Qe, Qu, keepB, Qi, Qw, YN, Qe4, int_toBitVec_meta, method_specs_simp, Nat.sub_zero, List.append_nil, tkS, List.length_map, hlt, eT, tk2]
    exact ⟨fun _ => ⟨by omega, by omega, hx, by omega, ⟨by omega, by omega⟩, hN (i + 1) _ (by simp only [eN, Own.row]; simp only [Jr, Js, Jt, Ju, Qj, Qk, Ql, Qm, reduceIte, Nat.reduceEqDiff]; exact ⟨by repeat' (first | exact trivial | refine ⟨.inr rfl, ?_⟩), by repeat' (first | exact trivial | refine ⟨rfl, ?_⟩), by first | rfl | simp [closedB, Qd, Qb, Qc, dom, Qa, *], by first | rfl | simp [keepB, dom]⟩) (by omega) (by omega)⟩, fun h' => absurd (by omega) h'⟩
  · have e : i = b.own.length := by omega
    subst e
    have et : b.own.take b.own.length = b.own := List.take_length
    simp only [et]
    unfold Xl; simp (maxSteps := 2000000) only [bitvec_to_nat, reduceIte, Nat.reduceEqDiff, Nat.reduceAdd, Nat.reduceLeDiff, reduceCtorEq, Nat.reduceBEq, Nat.reduceLT, Nat.reduceMod, fmc, Qf, Qh, Qe, Qu, keepB, Qi, Qw, YN, Qe4, int_toBitVec_meta, method_specs_simp, Nat.sub_zero, List.append_nil, tkS, List.length_map, hlt, eT, tk2]
    refine ⟨fun h' => absurd h' (by omega), fun _ => ?_⟩
    refine QE (fun i : Nat => [(1, .ptr 101 0), (2, .ptr 102 0), (3, .ptr 103 0), (5, .int .i64 i)]) (fun i => [(101, .box [.sl 0 11 (b.own.map (Own.row 0)), .sl 0 3 (b.parts.map (Part.row 0)), .sl 0 2 (b.seen.map Seen.row)]), (102, .box [.sl 0 11 [], .sl 0 3 [], .sl 0 2 []]), (106, .arr 118 1 2 (b.seen.map Seen.row)), (103, .box [.own 127 b.own.length 0 b.own.length, .own 159 i 0 i, .own 106 1 0 b.seen.length]), (127, .arr 71 b.own.length 11 (b.own.map (Own.row 0))), (159, .arr 124 i 3 ((b.parts.take i).map (Part.row 0)))]) (fun i => i ≤ b.parts.length) (fun i => b.parts.length - i) 0 (by simp only [Jr, Js, Jt, Ju, Qj, Qk, Ql, Qm, reduceIte, Nat.reduceEqDiff]; exact ⟨by repeat' (first | exact trivial | refine ⟨.inr rfl, ?_⟩), by repeat' (first | exact trivial | refine ⟨rfl, ?_⟩), by first | rfl | simp [closedB, Qd, Qb, Qc, dom, Qa, *], by first | rfl | simp [keepB, dom]⟩) (Nat.zero_le _) ?_
    intro i hi NX hN
    by_cases h : i < b.parts.length
    · have hlt : (b.parts.take i).length = i := by rw [List.length_take]; omega
      have hx := hb.2.1.2 _ (Jy h)
      have tk2 : List.take i ((b.parts.take i).map (Part.row 0)) = (b.parts.take i).map (Part.row 0) := List.take_of_length_le (by rw [List.length_map, hlt]; omega)
      have eN : (b.parts.take (i + 1)).map (Part.row 0) = (b.parts.take i).map (Part.row 0) ++ [Part.row 0 (b.parts.getD i default)] := by rw [List.take_succ_eq_append_getElem h, List.map_append]; simp [h]
      unfold Xm; simp (maxSteps := 2000000) only [bitvec_to_nat, reduceIte, Nat.reduceEqDiff, Nat.reduceAdd, Nat.reduceLeDiff, reduceCtorEq, Nat.reduceBEq, Nat.reduceLT, Nat.reduceMod, fmc, Qf, Qh, Qe, Qu, keepB, Qi, Qw, YN, Qe4, int_toBitVec_meta, method_specs_simp, Nat.sub_zero, List.append_nil, tkS, List.length_map, hlt, eT, tk2]
      refine ⟨fun _ => ?_, fun h' => absurd (by omega) h'⟩
      repeat' (first | with_reducible apply And.intro | with_reducible intro _)
      all_goals first
        | omega
        | exact hN (i + 1) _ (by simp only [eN, Part.row]; simp only [Jr, Js, Jt, Ju, Qj, Qk, Ql, Qm, reduceIte, Nat.reduceEqDiff]; exact ⟨by repeat' (first | exact trivial | refine ⟨.inr rfl, ?_⟩), by repeat' (first | exact trivial | refine ⟨rfl, ?_⟩), by first | rfl | simp [closedB, Qd, Qb, Qc, dom, Qa, *], by first | rfl | simp [keepB, dom]⟩) (by omega) (by omega)
        | trace_state
    · have e : i = b.parts.length := by omega
      subst e
      have et : b.parts.take b.parts.length = b.parts := List.take_length
      simp only [et]
      unfold Xm; simp (maxSteps := 2000000) only [bitvec_to_nat, reduceIte, Nat.reduceEqDiff, Nat.reduceAdd, Nat.reduceLeDiff, reduceCtorEq, Nat.reduceBEq, Nat.reduceLT, Nat.reduceMod, fmc, Qf, Qh, Qe, Qu, keepB, Qi, Qw, YN, Qe4, int_toBitVec_meta, method_specs_simp, Nat.sub_zero, List.append_nil, tkS, List.length_map, hlt, eT, tk2]
      exact fun h' => absurd h' (by omega)
end
end Go.Ve

namespace Go.Ve
noncomputable section
open Go.Proofs
set_option maxRecDepth 100000
open Go.ChangeShapes Go.WideShapes
abbrev GA (va vc : Nat) (b : Book) : List (Nat × AObj) := bkM b 631 va 632 vc 633 0 300 320
theorem Xn {va vc : Nat} {b : Book} {q : Nat} (h1 : q ≠ 631) (h2 : q ≠ 632) (h3 : q ≠ 633) (h : q < 1000) : Qbj (GA va vc b) q := fun p hp e => by
  have := KH (by omega) (by omega) hp; omega
theorem UM (va vc : Nat) (b : Book) : Zb (GA va vc b) := Xk (by omega) (by omega) (by omega) (by omega) (by omega) (by omega) (by omega) (by omega) (by omega)
theorem Qsw {va vc : Nat} {b : Book} {X : List (Nat × AObj)} : getM (GA va vc b ++ X) 631 = some (.arr (1000000 + 71) va 11 (QQ (Own.row 0) 300 0 b.own)) := rfl
theorem Qtr {va vc : Nat} {b : Book} : getM (GA va vc b) 631 = some (.arr (1000000 + 71) va 11 (QQ (Own.row 0) 300 0 b.own)) := rfl
theorem Qrt {va vc : Nat} {b : Book} : YJ (GA va vc b) := QlH (by omega) (by omega) (by omega) (by omega) (by omega) (by omega) (by omega)
theorem Quz {va vc : Nat} {b : Book} {M' B : List (Nat × AObj)} : keepB (GA va vc b ++ B) M' = keepB B M' := VD (JX Qrt)
theorem Qt2 {va vc : Nat} {b : Book} {M' : List (Nat × AObj)} : keepB (GA va vc b) M' = true := JX Qrt
abbrev GB (va vc : Nat) (b : Book) : List (Nat × AObj) := bkM b 641 va 642 vc 643 0 340 360
theorem XM {va vc : Nat} {b : Book} {q : Nat} (h1 : q ≠ 641) (h2 : q ≠ 642) (h3 : q ≠ 643) (h : q < 1000) : Qbj (GB va vc b) q := fun p hp e => by
  have := KH (by omega) (by omega) hp; omega
theorem QiG (va vc : Nat) (b : Book) : Zb (GB va vc b) := Xk (by omega) (by omega) (by omega) (by omega) (by omega) (by omega) (by omega) (by omega) (by omega)
theorem Qsx {va vc : Nat} {b : Book} {X : List (Nat × AObj)} : getM (GB va vc b ++ X) 641 = some (.arr (1000000 + 71) va 11 (QQ (Own.row 0) 340 0 b.own)) := rfl
theorem Qts {va vc : Nat} {b : Book} : getM (GB va vc b) 641 = some (.arr (1000000 + 71) va 11 (QQ (Own.row 0) 340 0 b.own)) := rfl
theorem Qru {va vc : Nat} {b : Book} : YJ (GB va vc b) := QlH (by omega) (by omega) (by omega) (by omega) (by omega) (by omega) (by omega)
theorem QuA {va vc : Nat} {b : Book} {M' B : List (Nat × AObj)} : keepB (GB va vc b ++ B) M' = keepB B M' := VD (JX Qru)
theorem Qt3 {va vc : Nat} {b : Book} {M' : List (Nat × AObj)} : keepB (GB va vc b) M' = true := JX Qru
theorem Qtt {va' vc' : Nat} {b b' : Book} : dis (KA b) (GA va' vc' b') := fun p hp q hq e => by
  have := KH (by omega) (by omega) hp; have := KH (by omega) (by omega) hq; omega
theorem QuB {va' vc' : Nat} {b b' : Book} : dis (GA va' vc' b') (KA b) := K2 Qtt
theorem QtG {va' vc' : Nat} {b b' : Book} : dis (KA b) (GB va' vc' b') := fun p hp q hq e => by
  have := KH (by omega) (by omega) hp; have := KH (by omega) (by omega) hq; omega
theorem QuC {va' vc' : Nat} {b b' : Book} : dis (GB va' vc' b') (KA b) := K2 QtG
theorem QtH {va vc va' vc' : Nat} {b b' : Book} : dis (GA va vc b) (GB va' vc' b') := fun p hp q hq e => by
  have := KH (by omega) (by omega) hp; have := KH (by omega) (by omega) hq; omega
theorem QuD {va vc va' vc' : Nat} {b b' : Book} : dis (GB va' vc' b') (GA va vc b) := K2 QtH
theorem Qul {va vc v : Nat} {b : Book} {l : List VW} : dis (GA va vc b) (RA v l) := fun p hp q hq e => by
  have := KH (by omega) (by omega) hp; have := Yb UE (by omega) hq; omega
theorem QuE {va vc v : Nat} {b : Book} {l : List VW} : dis (RA v l) (GA va vc b) := K2 Qul
theorem Qum {va vc v : Nat} {b : Book} {l : List VW} : dis (GA va vc b) (RB v l) := fun p hp q hq e => by
  have := KH (by omega) (by omega) hp; have := Yb UE (by omega) hq; omega
theorem QuF {va vc v : Nat} {b : Book} {l : List VW} : dis (RB v l) (GA va vc b) := K2 Qum
theorem Qun {va vc v : Nat} {b : Book} {l : List VW} : dis (GB va vc b) (RA v l) := fun p hp q hq e => by
  have := KH (by omega) (by omega) hp; have := Yb UE (by omega) hq; omega
theorem QuG {va vc v : Nat} {b : Book} {l : List VW} : dis (RA v l) (GB va vc b) := K2 Qun
theorem Quo {va vc v : Nat} {b : Book} {l : List VW} : dis (GB va vc b) (RB v l) := fun p hp q hq e => by
  have := KH (by omega) (by omega) hp; have := Yb UE (by omega) hq; omega
theorem QuH {va vc v : Nat} {b : Book} {l : List VW} : dis (RB v l) (GB va vc b) := K2 Quo
theorem Qt4 {va vc : Nat} {b : Book} {k : Int} {B : List (Nat × AObj)} : QR (GA va vc b ++ B) (GA va vc (mb k b)) = GA va vc (mb k b) ++ B := Qaj (UM va vc b) (Qiz QjL Qdb)
theorem Qtu {va vc : Nat} {b : Book} {k : Int} : QR (GA va vc b) (GA va vc (mb k b)) = GA va vc (mb k b) := Qa8 (UM va vc b) (Qiz QjL Qdb)
theorem Qnc (va vc : Nat) (b : Book) (k : Int) (hb : b.sm) (hk : 0 ≤ k ∧ k ≤ 1099511627776) : Contract P 17 [bkV b 631 va 632 vc 633 0, .int .i64 k] (GA va vc b) (.int .i64 (k + cfB b)) (GA va vc (mb k b)) := by
  have h := (((((QgZ b va vc 0 k hb hk).ren (swp 3 631) (Ja _ _)).ren (swp 4 632) (Ja _ _)).ren (swp 5 633) (Ja _ _)).ren (J5 7 300 11) (KB (by omega) (by omega) (by omega))).ren (J5 20 320 3) (KB (by omega) (by omega) (by omega))
  have hs : ∀ q q' : Nat, q < 1000 → q' < 1000 → ∀ b : Book, ∀ a va c vc d vd, Ks (swp q q') (bkM b a va c vc d vd 7 20) = bkM b (swp q q' a) va (swp q q' c) vc (swp q q' d) vd 7 20 := fun q q' h1 h2 b a va c vc d vd => K0 (fun j i hj => KU h1 h2) (fun j i hj => KU h1 h2)
  have hO : ∀ b : Book, ∀ a va c vc d vd, Ks (J5 7 300 11) (bkM b a va c vc d vd 7 20) = bkM b (J5 7 300 11 a) va (J5 7 300 11 c) vc (J5 7 300 11 d) vd 300 20 := fun b a va c vc d vd => K0 (fun j i hj => YA (by omega) hj) (fun j i hj => Gd (by omega) (by omega) (by omega))
  have hP : ∀ b : Book, ∀ a va c vc d vd, Ks (J5 20 320 3) (bkM b a va c vc d vd 300 20) = bkM b (J5 20 320 3 a) va (J5 20 320 3 c) vc (J5 20 320 3 d) vd 300 320 := fun b a va c vc d vd => K0 (fun j i hj => Gd (by omega) (by omega) (by omega)) (fun j i hj => YA (by omega) hj)
  simp only [Ks, QaZ, Qix, hs _ _ (show (3 : Nat) < 1000 by omega) (show (631 : Nat) < 1000 by omega), hs _ _ (show (4 : Nat) < 1000 by omega) (show (632 : Nat) < 1000 by omega), hs _ _ (show (5 : Nat) < 1000 by omega) (show (633 : Nat) < 1000 by omega), hO, hP, K8, ren, renO, swp, J5, reduceIte, Nat.reduceEqDiff, Nat.reduceLeDiff] at h
  exact h
theorem Qo5 {M K : Nat → Option AObj} {b : Book} {a va c vc d vd kO kP : Nat} {k : Int} (hM : ∀ p ∈ bkM (mb k b) a va c vc d vd kO kP, M p.1 = some p.2) (hK : ∀ p ∈ bkM (mb k b) a va c vc d vd kO kP, K p.1 = some p.2) : UO M K (bkV b a va c vc d vd) = some (.agg ((mb k b).row 99)) := by rw [← Qtk (k := k)]; exact Wx hM hK
theorem Qtv {U : List (Nat × AObj)} {q : Nat} (h : Qbj U q) : ((U.reverse.map fun x : Nat × AObj => x.1).all fun x => !x == q) = true := by
  rw [List.all_eq_true]
  intro o ho
  obtain ⟨p, hp, rfl⟩ := List.mem_map.1 ho
  have := h p (List.mem_reverse.1 hp)
  simpa using this
theorem QqM {B : Book} {a va c vc d vd kO kP : Nat} : ((bkM B a va c vc d vd kO kP).reverse.all fun p => Qch p.2) = true := by rw [List.all_reverse]; exact QqF
theorem Qtw {B : Book} {a va c vc d vd kO kP : Nat} : ∀ p ∈ (bkM B a va c vc d vd kO kP).reverse, Z8 p.2 := fun p hp => QqE p (List.mem_reverse.1 hp)
theorem QkR (t : Nat) (k : Int) : Contract P 53 [.sl t 11 [], .int .i64 k] [] (.int .i64 k) [] := by
  refine Qg ((Env.nil P).add 52 Qr Kb) hm Zx (nlb rfl) rfl ?_; unfold YT; simp (maxSteps := 2000000) only [bitvec_to_nat, reduceIte, Nat.reduceEqDiff, Nat.reduceAdd, Nat.reduceLeDiff, reduceCtorEq, Nat.reduceBEq, Nat.reduceLT, Nat.reduceMod, fmc, Qr, List.map_nil, List.length_nil]
  refine QE (fun _ : Nat => [(5, .int .i64 0)]) (fun _ => []) (fun _ => True) (fun i => i) 0 (by simp only [Jr, Js, Jt, Ju, Qj, Qk, Ql, Qm, reduceIte, Nat.reduceEqDiff]; exact ⟨by repeat' (first | exact trivial | refine ⟨.inr rfl, ?_⟩), by repeat' (first | exact trivial | refine ⟨rfl, ?_⟩), by first | rfl | simp [closedB, Qd, Qb, Qc, dom, Qa, *], by first | rfl | simp [keepB, dom]⟩) trivial ?_
  intro i _ NX hN
  unfold Ki; simp (maxSteps := 2000000) only [bitvec_to_nat, reduceIte, Nat.reduceEqDiff, Nat.reduceAdd, Nat.reduceLeDiff, reduceCtorEq, Nat.reduceBEq, Nat.reduceLT, Nat.reduceMod, fmc, Qr, List.map_nil, List.length_nil]
  first
    | exact fun h => absurd h (by omega)
    | exact ⟨fun h => absurd h (by omega), fun _ => by first | trivial | rfl⟩
theorem QjN (t : Nat) (k : Int) : Contract P 54 [.sl t 3 [], .int .i64 k] [] (.int .i64 k) [] := by
  refine Qg ((Env.nil P).add 52 Qr Kb) hm XY (nlb rfl) rfl ?_; unfold YB; simp (maxSteps := 2000000) only [bitvec_to_nat, reduceIte, Nat.reduceEqDiff, Nat.reduceAdd, Nat.reduceLeDiff, reduceCtorEq, Nat.reduceBEq, Nat.reduceLT, Nat.reduceMod, fmc, Qr, List.map_nil, List.length_nil]
  refine QE (fun _ : Nat => [(5, .int .i64 0)]) (fun _ => []) (fun _ => True) (fun i => i) 0 (by simp only [Jr, Js, Jt, Ju, Qj, Qk, Ql, Qm, reduceIte, Nat.reduceEqDiff]; exact ⟨by repeat' (first | exact trivial | refine ⟨.inr rfl, ?_⟩), by repeat' (first | exact trivial | refine ⟨rfl, ?_⟩), by first | rfl | simp [closedB, Qd, Qb, Qc, dom, Qa, *], by first | rfl | simp [keepB, dom]⟩) trivial ?_
  intro i _ NX hN
  unfold J6; simp (maxSteps := 2000000) only [bitvec_to_nat, reduceIte, Nat.reduceEqDiff, Nat.reduceAdd, Nat.reduceLeDiff, reduceCtorEq, Nat.reduceBEq, Nat.reduceLT, Nat.reduceMod, fmc, Qr, List.map_nil, List.length_nil]
  first
    | exact fun h => absurd h (by omega)
    | exact ⟨fun h => absurd h (by omega), fun _ => by first | trivial | rfl⟩
theorem QjO (t : Nat) (k : Int) : Contract P 55 [.sl t 2 [], .int .i64 k] [] (.int .i64 k) [] := by
  refine Qg ((Env.nil P).add 52 Qr Kb) hm XZ (nlb rfl) rfl ?_; unfold YC; simp (maxSteps := 2000000) only [bitvec_to_nat, reduceIte, Nat.reduceEqDiff, Nat.reduceAdd, Nat.reduceLeDiff, reduceCtorEq, Nat.reduceBEq, Nat.reduceLT, Nat.reduceMod, fmc, Qr, List.map_nil, List.length_nil]
  refine QE (fun _ : Nat => [(5, .int .i64 0)]) (fun _ => []) (fun _ => True) (fun i => i) 0 (by simp only [Jr, Js, Jt, Ju, Qj, Qk, Ql, Qm, reduceIte, Nat.reduceEqDiff]; exact ⟨by repeat' (first | exact trivial | refine ⟨.inr rfl, ?_⟩), by repeat' (first | exact trivial | refine ⟨rfl, ?_⟩), by first | rfl | simp [closedB, Qd, Qb, Qc, dom, Qa, *], by first | rfl | simp [keepB, dom]⟩) trivial ?_
  intro i _ NX hN
  unfold J7; simp (maxSteps := 2000000) only [bitvec_to_nat, reduceIte, Nat.reduceEqDiff, Nat.reduceAdd, Nat.reduceLeDiff, reduceCtorEq, Nat.reduceBEq, Nat.reduceLT, Nat.reduceMod, fmc, Qr, List.map_nil, List.length_nil]
  first
    | exact fun h => absurd h (by omega)
    | exact ⟨fun h => absurd h (by omega), fun _ => by first | trivial | rfl⟩
theorem QkS (k : Int) : Contract P 17 [.agg [.sl 98 11 [], .sl 98 3 [], .sl 98 2 []], .int .i64 k] [] (.int .i64 k) [] := by
  have h1 := QkR 98 k
  have h2 := QjN 98 k
  have h3 := QjO 98 k
  refine Qg (Env.nil P) hm Zo (nlb rfl) rfl ?_; unfold YR; simp (maxSteps := 2000000) only [bitvec_to_nat, reduceIte, Nat.reduceEqDiff, Nat.reduceAdd, Nat.reduceLeDiff, reduceCtorEq, Nat.reduceBEq, Nat.reduceLT, Nat.reduceMod, fmc, List.map_nil, List.length_nil]
  refine ⟨_, _, .inr (.inl ⟨rfl, _, rfl, h1, rfl, trivial⟩), ?_⟩
  simp (maxSteps := 2000000) only [bitvec_to_nat, reduceIte, Nat.reduceEqDiff, Nat.reduceAdd, Nat.reduceLeDiff, reduceCtorEq, Nat.reduceBEq, Nat.reduceLT, Nat.reduceMod, fmc, List.map_nil, List.length_nil]
  refine ⟨_, _, .inr (.inl ⟨rfl, _, rfl, h2, rfl, trivial⟩), ?_⟩
  simp (maxSteps := 2000000) only [bitvec_to_nat, reduceIte, Nat.reduceEqDiff, Nat.reduceAdd, Nat.reduceLeDiff, reduceCtorEq, Nat.reduceBEq, Nat.reduceLT, Nat.reduceMod, fmc, List.map_nil, List.length_nil]
  refine ⟨_, _, .inr (.inl ⟨rfl, _, rfl, h3, rfl, trivial⟩), ?_⟩
  simp (maxSteps := 2000000) only [bitvec_to_nat, reduceIte, Nat.reduceEqDiff, Nat.reduceAdd, Nat.reduceLeDiff, reduceCtorEq, Nat.reduceBEq, Nat.reduceLT, Nat.reduceMod, fmc, List.map_nil, List.length_nil]
theorem Qo6 : Contract P 15 [.agg [.sl 98 11 [], .sl 98 3 [], .sl 98 2 []], .agg [.sl 0 11 [], .sl 0 3 [], .sl 0 2 []]] [] (.bool true) [] := by
  refine Qg ((((Env.nil P).add 49 Qbe QlD).add 50 We QjI).add 51 Wd QjH) hm VH (nlb rfl) rfl ?_; unfold Xa; simp (maxSteps := 2000000) only [bitvec_to_nat, reduceIte, Nat.reduceEqDiff, Nat.reduceAdd, Nat.reduceLeDiff, reduceCtorEq, Nat.reduceBEq, Nat.reduceLT, Nat.reduceMod, fmc, Qbe, We, Wd, int_toBitVec_meta, method_specs_simp, List.map_nil, List.length_nil]
theorem QkT (k : Int) (hk : 0 ≤ k ∧ k ≤ 1099511627776) : Contract P 22 [.agg [.sl 98 11 [], .sl 98 3 [], .sl 98 2 []], .int .i64 k] [] (.int .i64 k) [] := by
  have h1 : Contract P 62 [.sl 98 11 [], .int .i64 k] [] (.int .i64 k) [] := by simpa [Ko, WY] using QhZ 98 0 k [] (by simp) (by simp) (by omega)
  have h2 : Contract P 63 [.sl 98 3 [], .int .i64 k] [] (.int .i64 k) [] := by simpa [JG, XL] using QgX 98 0 k [] (by simp) (by simp) (by omega)
  have h3 : Contract P 64 [.sl 98 2 [], .int .i64 k] [] (.int .i64 k) [] := by simpa [Ww] using QgU 98 k 0 (by omega) (by omega)
  refine Qg (Env.nil P) hm Zp (nlb rfl) rfl ?_; unfold YS; simp (maxSteps := 2000000) only [bitvec_to_nat, reduceIte, Nat.reduceEqDiff, Nat.reduceAdd, Nat.reduceLeDiff, reduceCtorEq, Nat.reduceBEq, Nat.reduceLT, Nat.reduceMod, fmc, List.map_nil, List.length_nil, KF, Nat.zero_add, Int.add_zero]
  refine ⟨_, _, .inr (.inl ⟨rfl, _, rfl, h1, rfl, trivial⟩), ?_⟩
  simp (maxSteps := 2000000) only [bitvec_to_nat, reduceIte, Nat.reduceEqDiff, Nat.reduceAdd, Nat.reduceLeDiff, reduceCtorEq, Nat.reduceBEq, Nat.reduceLT, Nat.reduceMod, fmc, List.map_nil, List.length_nil, KF, Nat.zero_add, Int.add_zero]
  refine ⟨fun h => by omega, fun _ => ⟨_, _, .inr (.inl ⟨rfl, _, rfl, h2, rfl, trivial⟩), ?_⟩⟩
  simp (maxSteps := 2000000) only [bitvec_to_nat, reduceIte, Nat.reduceEqDiff, Nat.reduceAdd, Nat.reduceLeDiff, reduceCtorEq, Nat.reduceBEq, Nat.reduceLT, Nat.reduceMod, fmc, List.map_nil, List.length_nil, KF, Nat.zero_add, Int.add_zero]
  refine ⟨fun h => by omega, fun _ => ⟨_, _, .inr (.inl ⟨rfl, _, rfl, h3, rfl, trivial⟩), ?_⟩⟩
  simp (maxSteps := 2000000) only [bitvec_to_nat, reduceIte, Nat.reduceEqDiff, Nat.reduceAdd, Nat.reduceLeDiff, reduceCtorEq, Nat.reduceBEq, Nat.reduceLT, Nat.reduceMod, fmc, List.map_nil, List.length_nil, KF, Nat.zero_add, Int.add_zero]
  try omega
  all_goals trace_state
def bKG := And.intro @Jz (And.intro @Q9 (And.intro @JA (And.intro @JH (And.intro @JF (And.intro @XG (And.intro @Gb (And.intro @QbP (And.intro @Qa2 (And.intro @QbQ (And.intro @Zc (And.intro @VC (And.intro @Zn (And.intro @YZ (And.intro @Xn (And.intro @XM (And.intro @Qna (And.intro @Qnb (And.intro @QaS (And.intro @UM (And.intro @QiG (And.intro @QtV (And.intro @Qtl (And.intro @Qt4 (And.intro @Qtu (And.intro @YK (And.intro @Kz (And.intro @Qtr (And.intro @Qsw (And.intro @Qts (And.intro @Qsx (And.intro @Qtt (And.intro @QtG (And.intro @Qui (And.intro @Quj (And.intro @QuB (And.intro @QtH (And.intro @Qul (And.intro @Qum (And.intro @QuC (And.intro @QuD (And.intro @Qun (And.intro @Quo (And.intro @Qut (And.intro @QuE (And.intro @QuG (And.intro @Quk (And.intro @Quu (And.intro @QuF (And.intro @QuH (And.intro @Quv (And.intro @QnX (And.intro @Qa0 (And.intro @Qah (And.intro @QnY (And.intro @Qa1 (And.intro @List.reverse_append.{0} (And.intro @QtW (And.intro @Qtm (And.intro @Quw (And.intro @QtX (And.intro @Qux (And.intro @QtY (And.intro @Quy (And.intro @QtZ (And.intro @Quz (And.intro @Qt2 (And.intro @QuA (And.intro @Qt3 (And.intro @List.cons_append.{0} (And.intro @List.nil_append.{0} @List.append_assoc.{0}))))))))))))))))))))))))))))))))))))))))))))))))))))))))))))))))))))))
end
end Go.Ve

namespace Go.Proofs
open Go.Shelf
def Tryz.lays106_ren : Go.Shelf.Ren := ⟨fun | 106 => 133 | 213 => 141 | 265 => 152 | n => n, fun | 9 => 9 | 3 => 3 | n => n, fun | n => n⟩
theorem Tryz.lays106 : Go.Proofs.Lays.n106 Tryz.prog Tryz.lays106_ren where
  mixed := by kernel_rfl
  f106 := Tryz.func133.trans (congrArg some (by kernel_rfl))
  f213 := Tryz.func141.trans (congrArg some (by kernel_rfl))
  f265 := Tryz.func152.trans (congrArg some (by kernel_rfl))
  t3 := Tryz.underlying3
  a3 := Tryz.isAgg3
  z3 := Tryz.sizeOf3
  v3 := Tryz.zeroValue3
  t9 := Tryz.underlying9
  a9 := Tryz.isAgg9
  z9 := Tryz.sizeOf9
  v9 := Tryz.zeroValue9
def Tryz.lays125_ren : Go.Shelf.Ren := ⟨fun | 125 => 140 | 128 => 150 | 129 => 151 | n => n, fun | 46 => 158 | 3 => 3 | 51 => 168 | 53 => 170 | 4 => 4 | 5 => 5 | 9 => 9 | n => n, fun | n => n⟩
theorem Tryz.lays125 : Go.Proofs.Lays.n125 Tryz.prog Tryz.lays125_ren where
  mixed := by kernel_rfl
  f125 := Tryz.func140.trans (congrArg some (by kernel_rfl))
  f128 := Tryz.func150.trans (congrArg some (by kernel_rfl))
  f129 := Tryz.func151.trans (congrArg some (by kernel_rfl))
  t3 := Tryz.underlying3
  a3 := Tryz.isAgg3
  z3 := Tryz.sizeOf3
  v3 := Tryz.zeroValue3
  t4 := Tryz.underlying4
  a4 := Tryz.isAgg4
  z4 := Tryz.sizeOf4
  v4 := Tryz.zeroValue4
  t5 := Tryz.underlying5
  a5 := Tryz.isAgg5
  z5 := Tryz.sizeOf5
  v5 := Tryz.zeroValue5
  t9 := Tryz.underlying9
  a9 := Tryz.isAgg9
  z9 := Tryz.sizeOf9
  v9 := Tryz.zeroValue9
  t46 := Tryz.underlying158
  a46 := Tryz.isAgg158
  z46 := Tryz.sizeOf158
  v46 := Tryz.zeroValue158
  t51 := Tryz.underlying168
  a51 := Tryz.isAgg168
  z51 := Tryz.sizeOf168
  v51 := Tryz.zeroValue168
  t53 := Tryz.underlying170
  a53 := Tryz.isAgg170
  z53 := Tryz.sizeOf170
  v53 := Tryz.zeroValue170
end Go.Proofs

namespace Go.Ve
open Go.Proofs
set_option maxRecDepth 100000
/-- impl.HandBook).comes: function 104 -/
def Gr : SFun := { n := 19,res := [],body := (jq [jn 3 (.box 103 (.v 1)) [1]] [0,3] (.seq (.rgd [jm 4 0 [],jm 5 0 [],jn 6 (.nilck (.v 5)) [],jf 7 0 6 [],jl 8 7 [],jL 9 11 3 [],jn 10 (.litOwn 110 1000071 11 [.v 9]) [],jn 11 (.appN 4 1000071 11 (.v 8) (.v 10)) [],jn 12 (.nilck (.v 4)) [],jf 13 0 12 [],⟨none,.store 1 (.v 13) (.v 11),none,[]⟩] [0] [none,none,some [],some [],some [],none,some [3,2,1],none,none,none,none]) (.rg [jm 14 0 [0],jn 15 (.nilck (.v 14)) [14],jf 16 0 15 [15],jl 17 16 [16],jn 18 (.call 131 [.v 17,.c (.fn 132 [] [])]) [17,18]] []))) }
theorem W4 : QS Go.Proofs.Tryz.prog 104 Gr = true := by kernel_rfl
/-- impl.HandBook).enter: function 73 -/
def K1 : SFun := { n := 27,res := [.t 4],body := (jq [jI 4 0 [4]] [0,1] (.seq (.block 0 (jq [jm 6 1 [],jn 7 (.call 103 [.v 6]) [6],jn 8 (.not (.v 7)) [7],jm 5 8 [8]] [0,1,5] (.cond (.v 5) (jq [jI 4 2 []] [4] .ret) (jq [jm 10 0 [],jn 11 (.nilck (.v 10)) [10],jL 12 3 11 [11],jm 13 1 [],jn 14 (.call 96 [.v 12,.v 13]) [12,13],jc 15 .geq 14 0 [14],jm 9 15 [15]] [0,1,9] (.cond (.v 9) (jq [jI 4 3 []] [4] .ret) (jq [jm 17 0 [],jn 18 (.nilck (.v 17)) [17],jf 19 0 18 [18],jl 20 19 [19],jn 21 (.lenL (.v 20)) [20],jc 22 .geq 21 6 [21],jm 16 22 [22]] [0,1,16] (.cond (.v 16) (jq [jI 4 4 []] [4] .ret) .skip))))))) (jq [jm 23 0 [0],jm 24 1 [1],jn 25 (.build [.str ⟨#[]⟩,.int .i64 0,.int .i64 0,.str ⟨#[]⟩,.int .i64 0,.int .i64 0,.sl 98 6 [],.int .i64 0,.sl 98 6 [],.sl 98 1 [],.bool false] [(0,1,.v 24),(1,1,.c (.int .i64 1)),(2,1,.c (.int .i64 1))]) [24],jn 26 (.call 104 [.v 23,.v 25]) [23,25,26]] [] (jq [jI 4 0 []] [4] .ret)))) }
theorem Gs : QS Go.Proofs.Tryz.prog 73 K1 = true := by kernel_rfl
/-- impl.HandEnter: function 30 -/
def Yx : SFun := { n := 21,res := [.cN 6 3,.t 7],body := (jq [jn 4 (.box 104 (.v 1)) [1],jn 6 (.alloc 106 [.sl 0 11 [],.sl 0 3 [],.sl 0 2 []]) [],jI 7 0 [7]] [0,2,4,6] (.seq (jq [jm 10 0 [0],jL 11 3 4 [],jn 12 (.call 72 [.v 10,.v 11]) [10,11],jn 13 (.not (.v 12)) [12]] [2,4,6,13] (.cond (.v 13) (jq [jn 14 (.build [.sl 98 11 [],.sl 98 3 [],.sl 98 2 []] []) [],⟨none,.store 3 (.v 6) (.v 14),none,[14]⟩,jI 7 1 []] [6,7] .ret) .skip)) (jq [jL 15 3 4 [4],jn 16 (.call 60 [.v 15]) [15],jn 8 (.alloc 108 [.sl 0 11 [],.sl 0 3 [],.sl 0 2 []]) [],⟨none,.store 3 (.v 8) (.v 16),none,[16]⟩] [2,6,8] (jq [jm 17 2 [2],jn 18 (.call 73 [.v 8,.v 17]) [17],jm 9 18 [18]] [6,8,9] (jq [jL 19 3 8 [8],jm 20 9 [9],⟨none,.store 3 (.v 6) (.v 19),none,[19]⟩,jm 7 20 [20]] [6,7] .ret))))) }
theorem Xo : QS Go.Proofs.Tryz.prog 30 Yx = true := by kernel_rfl
end Go.Ve

namespace Go.Ve
noncomputable section
open Go.Proofs
set_option maxRecDepth 100000
open Go.ChangeShapes Go.WideShapes Go.Shelf Go.RowKit
def Qrv (a b : ByteArray) : Int := Lib.compareBytes a.data.toList b.data.toList
theorem Qo7 : ∀ l m : List UInt8, Lib.compareBytes l m < 0 ↔ Op.bytesLess l m = true
  | [], [] => by simp [Lib.compareBytes, Op.bytesLess]
  | [], _ :: _ => by simp [Lib.compareBytes, Op.bytesLess]
  | _ :: _, [] => by simp [Lib.compareBytes, Op.bytesLess]
  | x :: xs, y :: ys => by
    have ih := Qo7 xs ys
    simp only [Lib.compareBytes, Op.bytesLess, Bool.or_eq_true, Bool.and_eq_true, decide_eq_true_eq, beq_iff_eq]
    by_cases h : x < y
    · simp [h]
    · by_cases h2 : y < x
      · simp only [h, h2, if_true, if_false, false_or]
        exact ⟨fun q => by omega, fun q => absurd (q.1 ▸ h2) (UInt8.lt_irrefl _)⟩
      · have e : x = y := UInt8.toNat_inj.1 (by have q1 : ¬ x.toNat < y.toNat := h; have q2 : ¬ y.toNat < x.toNat := h2; omega)
        subst e
        simp only [h, if_false, false_or, true_and]
        exact ih
theorem QkU {a b : ByteArray} : (Qrv a b < 0) ↔ slt a b := by
  unfold Qrv slt; rw [Qo7, ByteArray.toList_eq, ByteArray.toList_eq]
theorem Qo8 (a b : ByteArray) : Contract P 133 [.str a, .str b] [] (.int .i64 (Qrv a b)) [] :=
  Contract.of_calls (QrZ a b) (fun C => rfl) fun w => (Any.strings_Compare Go.Proofs.Tryz.lays106 a b w).mono fun e w' ⟨h1, h2⟩ => ⟨h1, by rw [h2]; exact Below.refl _ w⟩
theorem Qt5 (n : Int) (h0 : 0 ≤ n) (h1 : n ≤ 18446744073709551615) : Contract P 140 [.int .u64 n] [] (.int .i64 (Lib.bitLen n.toNat)) [] :=
  Contract.of_calls (Qs3 _ _) (fun C => rfl) fun w => (Any.bits_Len Go.Proofs.Tryz.lays125 n w h0 h1).mono fun e w' ⟨h1, h2⟩ => ⟨h1, by rw [h2]; exact Below.refl _ w⟩
def Jn : List AV → Option (Prop × AV)
  | [.str a, .str b] => some ((True) ∧ (True), .int .i64 (Qrv a b))
  | _ => none
theorem QaV : ∀ args p v, Jn args = some (p, v) → p → Contract P 133 args [] v [] ∧ noref v = true ∧ No99 v := by
  intro args p v h1 h2
  unfold Jn at h1
  split at h1
  · rename_i a b
    cases h1
    obtain ⟨_, HP⟩ := h2
    have := Qo8 a b
    exact ⟨this, rfl, trivial⟩
  · cases h1
structure GR (a : ByteArray) (r : List AV) : Prop where
  ex : ∃ x1 x2 x3 x4 x5 x6 x7 x8 x9 x10 : AV, r = [.str a, x1, x2, x3, x4, x5, x6, x7, x8, x9, x10] ∧ r.all isLeaf = true
set_option maxHeartbeats 1000000 in
theorem Qtx {r1 r2 : List AV} {a b : ByteArray} {O : List (Nat × AObj)} (h1 : GR a r1) (h2 : GR b r2) (hO : (dom O).all (decide <| · % 1000 < 100) = true) (u : Zb O) (c : (O.all fun p => Qc (dom O) p.2) = true) : Contract P 132 [.agg r1, .agg r2] O (.int .i64 (Qrv a b)) O := by
  obtain ⟨x1, x2, x3, x4, x5, x6, x7, x8, x9, x10, rfl, e1⟩ := h1
  obtain ⟨y1, y2, y3, y4, y5, y6, y7, y8, y9, y10, rfl, e2⟩ := h2
  simp only [List.all_cons, List.all_nil, Bool.and_eq_true] at e1 e2
  have n1 : getM O 102 = none := Q9 fun p hp e => by
    rw [List.all_eq_true] at hO
    have := hO p.1 (Jx hp)
    simp [e] at this
  refine Qg ((Env.nil P).add 133 Jn QaV) Go.Ve.hm Wo (nlb rfl) hO ?_
  unfold Gf
  have s1 : ∀ x, JP O 102 x = O ++ [(102, x)] := fun x => Xr n1
  have n2 : getM O 103 = none := Q9 fun p hp e => by
    rw [List.all_eq_true] at hO
    have := hO p.1 (Jx hp)
    simp [e] at this
  have g1 : ∀ B q, q = 102 ∨ q = 103 → getM (O ++ B) q = getM B q := fun B q h => Jd (by rcases h with rfl | rfl <;> assumption)
  have s2 : ∀ B q x, q = 102 ∨ q = 103 → JP (O ++ B) q x = O ++ JP B q x := fun B q x h => Yw (by rcases h with rfl | rfl <;> assumption)
  simp (maxSteps := 2000000) only [bitvec_to_nat, reduceIte, Nat.reduceEqDiff, Nat.reduceAdd, Nat.reduceLeDiff, reduceCtorEq, Nat.reduceBEq, Nat.reduceLT, Nat.reduceMod, fmc, Qf, Qh, Qe, Qu, keepB, Qi, Qw, Jn, s1, n1, n2, g1, s2, or_true, true_or, or_false, false_or, e1, e2, and_self, Bool.and_self]
  refine ⟨Q4 fun p hp => ?_, c, ?_⟩
  · rw [Ke (QF u p hp)]
  · rw [List.all_eq_true]
    intro o ho
    simp only [List.map_append, List.map_cons, List.map_nil, List.mem_append, List.mem_cons, List.not_mem_nil, or_false] at ho
    simp only [Bool.or_eq_true, decide_eq_true_eq]
    rcases ho with ho | rfl | rfl
    · right; simpa using ho
    · left; omega
    · left; omega
end
end Go.Ve

namespace Go.Ve
noncomputable section
open Go.Proofs
set_option maxRecDepth 100000
open Go.ChangeShapes Go.WideShapes Go.RowKit
def KT (R : List (List AV)) (x : List AV) (j : Nat) : List (List AV) := R.take j ++ x :: R.drop j
section
variable {R : List (List AV)} {x : List AV} {j : Nat}
theorem QlM (h : j ≤ R.length) : (KT R x j).length = R.length + 1 := by simp [KT]; omega
theorem Qo9 (h : j ≤ R.length) : (KT R x j).getD j [] = x := by
  unfold KT; rw [List.getD_eq_getElem?_getD, List.getElem?_append_right (by rw [List.length_take]; omega), List.length_take, Nat.min_eq_left h, Nat.sub_self]; rfl
theorem Qg4 {i : Nat} (h : i < j) (hj : j ≤ R.length) : (KT R x j).getD i [] = R.getD i [] := by
  unfold KT; rw [List.getD_eq_getElem?_getD, List.getElem?_append_left (by rw [List.length_take]; omega), List.getElem?_take_of_lt h, List.getD_eq_getElem?_getD]
theorem QkV {i : Nat} (h : j ≤ i) (hj : j ≤ R.length) : (KT R x j).getD (i + 1) [] = R.getD i [] := by
  unfold KT; rw [List.getD_eq_getElem?_getD, List.getElem?_append_right (by rw [List.length_take]; omega), List.length_take, Nat.min_eq_left hj, show i + 1 - j = (i - j) + 1 from by omega, List.getElem?_cons_succ, List.getElem?_drop, List.getD_eq_getElem?_getD, show j + (i - j) = i from by omega]
theorem Qpa (h0 : 0 < j) (h : j ≤ R.length) : ((KT R x j).set j (R.getD (j - 1) [])).set (j - 1) x = KT R x (j - 1) := by
  refine List.ext_getElem? fun i => ?_
  have l1 := QlM (x := x) h
  have l2 := QlM (R := R) (x := x) (j := j - 1) (by omega)
  by_cases hi : i < R.length + 1
  · have e : ∀ l : List (List AV), l.length = R.length + 1 → l[i]? = some (l.getD i []) := fun l hl => by simp [List.getElem?_eq_getElem (show i < l.length by omega)]
    rw [e _ (by simp [l1]), e _ l2]
    congr 1
    by_cases q1 : i = j - 1
    · subst q1; rw [Qcn (by rw [List.length_set, l1]; omega), Qo9 (by omega)]
    · rw [List.getD_eq_getElem?_getD, List.getElem?_set_ne (by omega), ← List.getD_eq_getElem?_getD]
      by_cases q2 : i = j
      · subst q2; rw [Qcn (by rw [l1]; omega)]
        obtain ⟨k, rfl⟩ : ∃ k, i = k + 1 := ⟨i - 1, by omega⟩
        rw [QkV (by omega) (by omega)]; simp
      · rw [List.getD_eq_getElem?_getD, List.getElem?_set_ne (by omega), ← List.getD_eq_getElem?_getD]
        rcases Nat.lt_or_ge i j with q | q
        · rw [Qg4 q h, Qg4 (by omega) (by omega)]
        · obtain ⟨k, rfl⟩ : ∃ k, i = k + 1 := ⟨i - 1, by omega⟩
          rw [QkV (by omega) h, QkV (by omega) (by omega)]
  · rw [List.getElem?_eq_none (by simp [l1]; omega), List.getElem?_eq_none (by omega)]
theorem Qbh {r : List AV} (h : r ∈ KT R x j) : r ∈ R ∨ r = x := by
  unfold KT at h
  rcases List.mem_append.1 h with h | h
  · exact .inl (List.mem_of_mem_take h)
  · rcases List.mem_cons.1 h with h | h
    · exact .inr h
    · exact .inl (List.mem_of_mem_drop h)
end
theorem GR.len {a : ByteArray} {r : List AV} (h : GR a r) : r.length = 11 := by
  obtain ⟨_, _, _, _, _, _, _, _, _, _, rfl, _⟩ := h; rfl
theorem GR.leaf {a : ByteArray} {r : List AV} (h : GR a r) : r.all isLeaf = true := by
  obtain ⟨_, _, _, _, _, _, _, _, _, _, _, e⟩ := h; exact e
theorem Qh3 {a b : ByteArray} {r s : List AV} (h : GR a r) (k : GR b s) : QU r 0 s = s := by
  unfold QU
  rw [List.take_zero, List.nil_append, List.drop_of_length_le (by rw [h.len, k.len]; omega), List.append_nil]
theorem Qg5 {R : List (List AV)} {d : List Nat} (h : R.all (Qb d) = true) (i : Nat) : Qb d (R.getD i []) = true := by
  rw [List.all_eq_true] at h
  by_cases hi : i < R.length
  · exact h _ (by simp [hi])
  · simp only [List.getD_eq_getElem?_getD, List.getElem?_eq_none (by omega : R.length ≤ i)]; rfl
mutual
theorem Qnd {d d' : List Nat} (h : ∀ q ∈ d, q ∈ d') : ∀ x : AV, Qd d x = true → Qd d' x = true
  | .agg ls, k => by simp only [Qd] at k ⊢; exact J3 h ls k
  | .tup ls, k => by simp only [Qd] at k ⊢; exact J3 h ls k
  | .fn _ a b, k => by simp only [Qd, Bool.and_eq_true] at k ⊢; exact ⟨J3 h a k.1, J3 h b k.2⟩
  | .own .., k => by simp only [Qd, List.contains_iff_mem] at k ⊢; exact h _ k
  | .ptr .., k => by simp only [Qd, List.contains_iff_mem] at k ⊢; exact h _ k
  | .elt .., k => by simp only [Qd, List.contains_iff_mem] at k ⊢; exact h _ k
  | .junk, _ => rfl
  | .int .., _ => rfl
  | .bool .., _ => rfl
  | .str .., _ => rfl
  | .sl .., _ => rfl
  | .pp .., _ => rfl
theorem J3 {d d' : List Nat} (h : ∀ q ∈ d, q ∈ d') : ∀ x : List AV, Qb d x = true → Qb d' x = true
  | [], _ => rfl
  | x :: xs, k => by simp only [Qb, Bool.and_eq_true] at k ⊢; exact ⟨Qnd h x k.1, J3 h xs k.2⟩
end
theorem QkW {d d' : List Nat} (h : ∀ q ∈ d, q ∈ d') {x : AObj} (k : Qc d x = true) : Qc d' x = true := by
  cases x <;> simp only [Qc] at k ⊢
  · exact J3 h _ k
  · split
    · rfl
    · rename_i n
      rw [if_neg n, List.all_eq_true] at k
      rw [List.all_eq_true]
      exact fun r hr => J3 h r (k r hr)
theorem Xp {d : List Nat} {o : Nat} : ∀ {l : List AV}, Qb d l = true → Qb (o :: d) l = true := fun h => J3 (fun q hq => List.mem_cons_of_mem _ hq) _ h
theorem Qbi {d : List Nat} {o : Nat} {M : List (Nat × AObj)} (h : (M.all fun p => Qc d p.2) = true) : (M.all fun p => Qc (o :: d) p.2) = true := by
  rw [List.all_eq_true] at h ⊢
  exact fun p hp => QkW (fun q hq => List.mem_cons_of_mem _ hq) (h p hp)
theorem Qg6 {X : Env P} {f : FuncId} {args : List AV} {M : Nat → Option AObj} {K : AV → List (Nat × AObj) → Prop} (o : Option (List AV)) (h : ∀ l, X.T f l = none) (k : Qnx (P := P) f args M K) : Qi1 P X f args M K o := by
  cases o with
  | none => exact k
  | some l => rw [Y9, h l]; exact k
theorem QjP {r1 r2 : List AV} {a b : ByteArray} {O : List (Nat × AObj)} {y : AObj} {K : AV → List (Nat × AObj) → Prop} (h1 : GR a r1) (h2 : GR b r2) (hO : (dom O).all (decide <| · % 1000 < 100) = true) (h4 : Qbj O 4) (u : Zb O) (c : (O.all fun p => Qc (dom O) p.2) = true)
    (c1 : Qb (dom O) r1 = true) (c2 : Qb (dom O) r2 = true) (k : K (.int .i64 (Qrv a b)) O) : Qnx (P := P) 132 [.agg r1, .agg r2] (getM ((4, y) :: O)) K :=
  ⟨_, O, .inl ⟨O, Qtx h1 h2 hO u c, QD h4 (QF u), fun p hp => .inl (List.contains_iff_mem.2 (Jx hp)), by rw [List.all_eq_true]; exact fun o ho => List.contains_iff_mem.2 ho, by simp only [Qb, Qd, c1, c2, Bool.and_self], c, rfl, c⟩, k⟩
/-- The Qe5 where a row goes into sorted ones. -/
structure Pos (K : Nat → ByteArray) (x : ByteArray) (n p : Nat) : Prop where
  le : p ≤ n
  hi : ∀ q, p ≤ q → q < n → slt x (K q)
  lo : 0 < p → ¬ slt x (K (p - 1))
set_option maxHeartbeats 4000000 in
theorem Qsy {R : List (List AV)} {x : List AV} {K : Nat → ByteArray} {kx : ByteArray} {O : List (Nat × AObj)} {v p : Nat} (hR : ∀ i, i < R.length → GR (K i) (R.getD i [])) (hx : GR kx x) (hs : ∀ i, 0 < i → i < R.length → slt (K (i - 1)) (K i)) (hp : Pos K kx R.length p) (hn : R.length ≤ 1000)
    (hO : (dom O).all (decide <| · % 1000 < 100) = true) (h4 : getM O 4 = none) (u : Zb O) (c : (O.all fun p => Qc (dom O) p.2) = true) (cR : R.all (Qb (dom O)) = true) (cx : Qb (dom O) x = true) :
    Contract P 142 [.own 4 v 0 (R.length + 1), .int .i64 0, .int .i64 (R.length + 1 : Nat), .fn 132 [] []] ((4, .arr (1000000 + 71) v 11 (KT R x R.length)) :: O) (.tup []) ((4, .arr (1000000 + 71) v 11 (KT R x p)) :: O) := by
  have apO : ∀ y, QR ((4, y) :: O) O = (4, y) :: O := fun y => by rw [JF (fun p hp e => by have := QF u p hp; rw [e, h4] at this; cases this), Zc u]
  have h4' : Qbj O 4 := fun p hp e => by have := QF u p hp; rw [e, h4] at this; cases this
  have gk : ∀ y, ∀ p ∈ (4, y) :: O, getM ((4, y) :: O) p.1 = some p.2 := fun y => QF (List.pairwise_cons.2 ⟨fun p hp e => h4' p hp e.symm, u⟩)
  have h100 : (dom ((4, .arr (1000000 + 71) v 11 (KT R x R.length)) :: O)).all (decide <| · % 1000 < 100) = true := by
    rw [List.all_eq_true] at hO ⊢
    intro o ho
    rcases List.mem_cons.1 ho with rfl | ho
    · rfl
    · exact hO o ho
  refine Qg ((Env.nil P).add 133 Jn QaV) Go.Ve.hm YF (nlb rfl) h100 ?_
  unfold JS
  simp (maxSteps := 2000000) only [bitvec_to_nat, reduceIte, Nat.reduceEqDiff, Nat.reduceAdd, Nat.reduceLeDiff, reduceCtorEq, Nat.reduceBEq, Nat.reduceLT, Nat.reduceMod, fmc, Qf, Qh, Qe, Qu, keepB, Qi, Qw, Jn, QkQ, apO, Int.toNat_natCast, Nat.sub_zero, List.drop_zero, Nat.zero_add]
  refine ⟨by omega, ?_⟩
  have cl : ∀ (t : Nat) (E : List (Nat × AV)), (E.all fun q => Qd (4 :: dom O) q.2) = true → closedB ⟨E, (4, .arr (1000000 + 71) v 11 (KT R x t)) :: O⟩ = true := fun t E hE => by
    simp only [closedB, Bool.and_eq_true]
    refine ⟨hE, ?_⟩
    simp only [List.all_cons, Bool.and_eq_true]
    refine ⟨?_, Qbi c⟩
    simp only [Qc]
    rw [if_neg (by omega), List.all_eq_true]
    intro r hr
    rcases Qbh hr with hr | rfl
    · exact Xp (by rw [List.all_eq_true] at cR; exact cR r hr)
    · exact Xp cx
  refine QbF (fun i : Nat => ⟨[(0, .own 4 v 0 (R.length + 1)), (1, .int .i64 0), (2, .int .i64 (R.length + 1 : Nat)), (3, .fn 132 [] []), (8, .int .i64 (i : Nat))], (4, .arr (1000000 + 71) v 11 (KT R x (if i ≤ R.length then R.length else p))) :: O⟩) (fun i => 1 ≤ i ∧ i ≤ R.length + 1) (fun i => R.length + 1 - i) 1 ?_ ⟨by omega, by omega⟩ ?_
  · have e : (if 1 ≤ R.length then R.length else p) = R.length := by
      split
      · rfl
      · have := hp.le; omega
    refine ⟨by repeat' (first | exact trivial | refine ⟨.inr rfl, ?_⟩), ?_, cl _ _ (by simp [Qd, Qb]), Yc rfl⟩
    simp only [e]
    exact Q4 (gk _)
  intro i hi NX hN
  by_cases h : i < R.length + 1
  · rw [if_pos (show i ≤ R.length by omega)]
    unfold Jq; simp (maxSteps := 2000000) only [bitvec_to_nat, reduceIte, Nat.reduceEqDiff, Nat.reduceAdd, Nat.reduceLeDiff, reduceCtorEq, Nat.reduceBEq, Nat.reduceLT, Nat.reduceMod, fmc, Qf, Qh, Qe, Qu, keepB, Qi, Qw, Jn, QkQ, apO, Int.toNat_natCast, Nat.sub_zero, List.drop_zero, Nat.zero_add]
    refine ⟨fun _ => ?_, fun h' => absurd (by omega) h'⟩
    by_cases hin : i < R.length
    · refine QbF (fun j : Nat => ⟨[(0, .own 4 v 0 (R.length + 1)), (1, .int .i64 0), (2, .int .i64 (R.length + 1 : Nat)), (3, .fn 132 [] []), (8, .int .i64 (i : Nat)), (9, .int .i64 (j : Nat))], (4, .arr (1000000 + 71) v 11 (KT R x R.length)) :: O⟩) (fun j => j = i) (fun j => 0) i ?_ rfl ?_
      · exact ⟨by repeat' (first | exact trivial | refine ⟨.inr rfl, ?_⟩), Q4 (gk _), cl _ _ (by simp [Qd, Qb]), Yc rfl⟩
      rintro j rfl NX2 hN2
      have g1 : (KT R x R.length).getD j [] = R.getD j [] := Qg4 hin (Nat.le_refl _)
      have g2 : (KT R x R.length).getD (j - 1) [] = R.getD (j - 1) [] := Qg4 (by omega) (Nat.le_refl _)
      have t1 : ((j : Int) - 1).toNat = j - 1 := by omega
      have k1 := hR j hin
      have k2 := hR (j - 1) (by omega)
      have l1 : List.take 11 (R.getD j []) = R.getD j [] := List.take_of_length_le (by rw [k1.len]; omega)
      have l2 : List.take 11 (R.getD (j - 1) []) = R.getD (j - 1) [] := List.take_of_length_le (by rw [k2.len]; omega)
      unfold Jb; simp (maxSteps := 2000000) only [bitvec_to_nat, reduceIte, Nat.reduceEqDiff, Nat.reduceAdd, Nat.reduceLeDiff, reduceCtorEq, Nat.reduceBEq, Nat.reduceLT, Nat.reduceMod, fmc, Qf, Qh, Qe, Qu, keepB, Qi, Qw, Jn, QkQ, apO, Int.toNat_natCast, Nat.sub_zero, List.drop_zero, Nat.zero_add, g1, g2, t1, l1, l2]
      refine ⟨fun _ => ⟨⟨by omega, by omega⟩, by rw [k1.len]; omega, ⟨by omega, by omega⟩, ⟨by omega, by omega⟩, by rw [k2.len]; omega, by kernel_rfl, Qg6 _ (fun l => rfl) (QjP k1 k2 hO h4' u c (Qg5 cR _) (Qg5 cR _) ?_)⟩, fun h' => absurd (by omega) h'⟩
      have nc : ¬ Qrv (K j) (K (j - 1)) < 0 := by rw [QkU]; exact Qac (hs j (by omega) hin)
      simp (maxSteps := 2000000) only [bitvec_to_nat, reduceIte, Nat.reduceEqDiff, Nat.reduceAdd, Nat.reduceLeDiff, reduceCtorEq, Nat.reduceBEq, Nat.reduceLT, Nat.reduceMod, fmc, Qf, Qh, Qe, Qu, keepB, Qi, Qw, Jn, apO, nc]
      refine ⟨⟨by omega, by omega⟩, hN (j + 1) _ ⟨by repeat' (first | exact trivial | refine ⟨.inr rfl, ?_⟩), ?_, cl _ _ (by simp [Qd, Qb]), Yc rfl⟩ ⟨by omega, by omega⟩ (by omega)⟩
      rw [if_pos (show j + 1 ≤ R.length by omega)]
      exact Q4 (gk _)
    · have ei : i = R.length := by omega
      subst ei
      refine QbF (fun j : Nat => ⟨[(0, .own 4 v 0 (R.length + 1)), (1, .int .i64 0), (2, .int .i64 (R.length + 1 : Nat)), (3, .fn 132 [] []), (8, .int .i64 (R.length : Nat)), (9, .int .i64 (j : Nat))], (4, .arr (1000000 + 71) v 11 (KT R x j)) :: O⟩) (fun j => p ≤ j ∧ j ≤ R.length) (fun j => j) R.length ?_ ⟨hp.le, Nat.le_refl _⟩ ?_
      · exact ⟨by repeat' (first | exact trivial | refine ⟨.inr rfl, ?_⟩), Q4 (gk _), cl _ _ (by simp [Qd, Qb]), Yc rfl⟩
      intro j hj NX2 hN2
      have g1 : (KT R x j).getD j [] = x := Qo9 hj.2
      have t1 : ((j : Int) - 1).toNat = j - 1 := by omega
      have l1 : List.take 11 x = x := List.take_of_length_le (by rw [hx.len]; omega)
      by_cases h0 : 0 < j
      · have g2 : (KT R x j).getD (j - 1) [] = R.getD (j - 1) [] := Qg4 (by omega) hj.2
        have k2 := hR (j - 1) (by omega)
        have l2 : List.take 11 (R.getD (j - 1) []) = R.getD (j - 1) [] := List.take_of_length_le (by rw [k2.len]; omega)
        unfold Jb; simp (maxSteps := 2000000) only [bitvec_to_nat, reduceIte, Nat.reduceEqDiff, Nat.reduceAdd, Nat.reduceLeDiff, reduceCtorEq, Nat.reduceBEq, Nat.reduceLT, Nat.reduceMod, fmc, Qf, Qh, Qe, Qu, keepB, Qi, Qw, Jn, QkQ, apO, Int.toNat_natCast, Nat.sub_zero, List.drop_zero, Nat.zero_add, g1, g2, t1, l1, l2]
        refine ⟨fun _ => ⟨⟨by omega, by omega⟩, by rw [hx.len]; omega, ⟨by omega, by omega⟩, ⟨by omega, by omega⟩, by rw [k2.len]; omega, by kernel_rfl, Qg6 _ (fun l => rfl) (QjP hx k2 hO h4' u c cx (Qg5 cR _) ?_)⟩, fun h' => absurd (by omega) h'⟩
        by_cases hc : Qrv kx (K (j - 1)) < 0
        · simp (maxSteps := 2000000) only [bitvec_to_nat, reduceIte, Nat.reduceEqDiff, Nat.reduceAdd, Nat.reduceLeDiff, reduceCtorEq, Nat.reduceBEq, Nat.reduceLT, Nat.reduceMod, fmc, Qf, Qh, Qe, Qu, keepB, Qi, Qw, Jn, apO, hc, QkQ, Int.toNat_natCast, Nat.sub_zero, List.drop_zero, Nat.zero_add, g1, g2, t1, l1, l2]
          have hpj : p ≤ j - 1 := by
            rcases Nat.lt_or_ge p j with q | q
            · omega
            · have e : p = j := by omega
              subst e
              exact absurd (QkU.1 hc) (hp.lo h0)
          have g3 : ((KT R x j).set j (R.getD (j - 1) [])).getD (j - 1) [] = R.getD (j - 1) [] := by
            rw [List.getD_eq_getElem?_getD, List.getElem?_set_ne (by omega), ← List.getD_eq_getElem?_getD]; exact g2
          rw [Qh3 hx k2, g3, Qh3 k2 hx, Qpa h0 hj.2]
          refine ⟨⟨by omega, by omega⟩, ⟨by omega, by omega⟩, ⟨by omega, by omega⟩, by rw [k2.len]; omega, ⟨by omega, by omega⟩, by rw [hx.len]; omega, ⟨by omega, by omega⟩, ⟨k2.leaf, k2.len⟩, ⟨by omega, by omega⟩, ⟨hx.leaf, hx.len⟩, ⟨by omega, by omega⟩, hN2 (j - 1) _ ⟨?_, Q4 (gk _), cl _ _ (by simp [Qd, Qb]), Yc rfl⟩ ⟨hpj, by omega⟩ (by omega)⟩
          rw [show ((j : Int) - 1) = ((j - 1 : Nat) : Int) from by omega]
          repeat' (first | exact trivial | refine ⟨.inr rfl, ?_⟩)
        · simp (maxSteps := 2000000) only [bitvec_to_nat, reduceIte, Nat.reduceEqDiff, Nat.reduceAdd, Nat.reduceLeDiff, reduceCtorEq, Nat.reduceBEq, Nat.reduceLT, Nat.reduceMod, fmc, Qf, Qh, Qe, Qu, keepB, Qi, Qw, Jn, apO, hc]
          have e : j = p := by
            rcases Nat.lt_or_ge p j with q | q
            · exact absurd (QkU.2 (hp.hi (j - 1) (by omega) (by omega))) hc
            · omega
          subst e
          refine ⟨⟨by omega, by omega⟩, hN (R.length + 1) _ ⟨by repeat' (first | exact trivial | refine ⟨.inr rfl, ?_⟩), ?_, cl _ _ (by simp [Qd, Qb]), Yc rfl⟩ ⟨by omega, by omega⟩ (by omega)⟩
          rw [if_neg (by omega)]
          exact Q4 (gk _)
      · have e : j = 0 := by omega
        subst e
        have e : p = 0 := by omega
        subst e
        unfold Jb; simp (maxSteps := 2000000) only [bitvec_to_nat, reduceIte, Nat.reduceEqDiff, Nat.reduceAdd, Nat.reduceLeDiff, reduceCtorEq, Nat.reduceBEq, Nat.reduceLT, Nat.reduceMod, fmc, Qf, Qh, Qe, Qu, keepB, Qi, Qw, Jn, QkQ, apO, Int.toNat_natCast, Nat.sub_zero, List.drop_zero, Nat.zero_add]
        refine ⟨fun h' => absurd h' (by omega), fun _ => ⟨⟨by omega, by omega⟩, hN (R.length + 1) _ ⟨by repeat' (first | exact trivial | refine ⟨.inr rfl, ?_⟩), ?_, cl _ _ (by simp [Qd, Qb]), Yc rfl⟩ ⟨by omega, by omega⟩ (by omega)⟩⟩
        rw [if_neg (by omega)]
        exact Q4 (gk _)
  · have e : i = R.length + 1 := by omega
    subst e
    rw [if_neg (by omega)]
    unfold Jq; simp (maxSteps := 2000000) only [bitvec_to_nat, reduceIte, Nat.reduceEqDiff, Nat.reduceAdd, Nat.reduceLeDiff, reduceCtorEq, Nat.reduceBEq, Nat.reduceLT, Nat.reduceMod, fmc, Qf, Qh, Qe, Qu, keepB, Qi, Qw, Jn, QkQ, apO, Int.toNat_natCast, Nat.sub_zero, List.drop_zero, Nat.zero_add]
    refine ⟨fun h' => absurd h' (by omega), fun _ => ⟨⟨_, rfl, rfl⟩, Q4 (fun q hq => gk _ q (List.mem_cons_of_mem _ hq)), ?_, ?_⟩⟩
    · have := cl p [] rfl
      simpa [closedB, Qc, dom] using this
    · rw [Bool.true_or, Bool.true_and, List.all_eq_true]; intro o ho; simp only [Bool.or_eq_true]; exact .inr (.inr (by simpa using ho))
end
end Go.Ve

namespace Go.Ve
noncomputable section
open Go.Proofs
set_option maxRecDepth 100000
open Go.ChangeShapes Go.WideShapes Go.RowKit
set_option maxHeartbeats 4000000 in
theorem Qt6 {R : List (List AV)} {x : List AV} {K : Nat → ByteArray} {kx : ByteArray} {O : List (Nat × AObj)} {v p : Nat} (hR : ∀ i, i < R.length → GR (K i) (R.getD i [])) (hx : GR kx x) (hs : ∀ i, 0 < i → i < R.length → slt (K (i - 1)) (K i)) (hp : Pos K kx R.length p) (hn : R.length ≤ 11)
    (hO : (dom O).all (decide <| · % 1000 < 100) = true) (h4 : getM O 4 = none) (u : Zb O) (c : (O.all fun p => Qc (dom O) p.2) = true) (cR : R.all (Qb (dom O)) = true) (cx : Qb (dom O) x = true) (lim : Int) :
    Contract P 139 [.own 4 v 0 (R.length + 1), .int .i64 0, .int .i64 (R.length + 1 : Nat), .int .i64 lim, .fn 132 [] []] ((4, .arr (1000000 + 71) v 11 (KT R x R.length)) :: O) (.tup []) ((4, .arr (1000000 + 71) v 11 (KT R x p)) :: O) := by
  have h4' : Qbj O 4 := fun p hp e => by have := QF u p hp; rw [e, h4] at this; cases this
  have gk : ∀ y, ∀ p ∈ (4, y) :: O, getM ((4, y) :: O) p.1 = some p.2 := fun y => QF (List.pairwise_cons.2 ⟨fun p hp e => h4' p hp e.symm, u⟩)
  have apA : ∀ y z, QR ((4, y) :: O) ((4, z) :: O) = (4, z) :: O := fun y z => Qa8 (List.pairwise_cons.2 ⟨fun p hp e => h4' p hp e.symm, u⟩) rfl
  have cl : ∀ t, (((4, .arr (1000000 + 71) v 11 (KT R x t)) :: O).all fun q => Qc (dom ((4, .arr (1000000 + 71) v 11 (KT R x t)) :: O)) q.2) = true := fun t => by
    simp only [List.all_cons, Bool.and_eq_true]
    refine ⟨?_, Qbi c⟩
    simp only [Qc]
    rw [if_neg (by omega), List.all_eq_true]
    intro r hr
    rcases Qbh hr with hr | rfl
    · exact Xp (by rw [List.all_eq_true] at cR; exact cR r hr)
    · exact Xp cx
  have kp : ((dom ((4, .arr (1000000 + 71) v 11 (KT R x R.length)) :: O)).all fun o => decide (100 ≤ o % 1000) || (dom ((4, .arr (1000000 + 71) v 11 (KT R x p)) :: O)).contains o) = true := by
    rw [List.all_eq_true]; intro o ho; rw [Bool.or_eq_true]; exact .inr (by simpa [dom] using ho)
  have h100 : (dom ((4, .arr (1000000 + 71) v 11 (KT R x R.length)) :: O)).all (decide <| · % 1000 < 100) = true := by
    rw [List.all_eq_true] at hO ⊢
    intro o ho
    rcases List.mem_cons.1 ho with rfl | ho
    · rfl
    · exact hO o ho
  have h12 : (((R.length + 1 : Nat) : Int) - 0 ≤ 12) = True := eq_true (by omega)
  refine Qg ((Env.nil P).add 133 Jn QaV) Go.Ve.hm Xf (nlb rfl) h100 ?_
  unfold KC
  simp (maxSteps := 2000000) only [bitvec_to_nat, reduceIte, Nat.reduceEqDiff, Nat.reduceAdd, Nat.reduceLeDiff, reduceCtorEq, Nat.reduceBEq, Nat.reduceLT, Nat.reduceMod, fmc, Qf, Qh, Qe, Qu, keepB, Qi, Qw, Jn, h12, apA, Int.toNat_natCast, Nat.sub_zero, List.drop_zero, Nat.zero_add]
  refine QbF (fun _ : Nat => ⟨[(0, .own 4 v 0 (R.length + 1)), (1, .int .i64 0), (2, .int .i64 (R.length + 1 : Nat)), (3, .int .i64 lim), (4, .fn 132 [] []), (10, .bool true), (11, .bool true)], (4, .arr (1000000 + 71) v 11 (KT R x R.length)) :: O⟩) (fun _ => True) (fun _ => 0) 0 ?_ trivial ?_
  · refine ⟨by repeat' (first | exact trivial | refine ⟨.inr rfl, ?_⟩), Q4 (gk _), ?_, Yc rfl⟩
    simp only [closedB, Bool.and_eq_true]
    exact ⟨by simp [Qd, Qb, dom], cl _⟩
  intro _ _ NX hN
  unfold Kj; simp (maxSteps := 2000000) only [bitvec_to_nat, reduceIte, Nat.reduceEqDiff, Nat.reduceAdd, Nat.reduceLeDiff, reduceCtorEq, Nat.reduceBEq, Nat.reduceLT, Nat.reduceMod, fmc, Qf, Qh, Qe, Qu, keepB, Qi, Qw, Jn, h12, apA, Int.toNat_natCast, Nat.sub_zero, List.drop_zero, Nat.zero_add]
  refine ⟨⟨by omega, by omega⟩, Qg6 _ (fun l => rfl) ⟨_, _, J9 (Qsy hR hx hs hp (by omega) hO h4 u c cR cx) rfl (gk _) (by simp [Qd, Qb, dom]) (cl _) rfl (cl _), ?_⟩⟩
  simp (maxSteps := 2000000) only [bitvec_to_nat, reduceIte, Nat.reduceEqDiff, Nat.reduceAdd, Nat.reduceLeDiff, reduceCtorEq, Nat.reduceBEq, Nat.reduceLT, Nat.reduceMod, fmc, Qf, Qh, Qe, Qu, keepB, Qi, Qw, Jn, h12, apA, Int.toNat_natCast, Nat.sub_zero, List.drop_zero, Nat.zero_add]
  refine ⟨⟨_, rfl, rfl⟩, Q4 (fun q hq => gk _ q (List.mem_cons_of_mem _ hq)), ?_, ?_⟩
  · have := cl p
    simpa [Qc, dom] using this
  · rw [Bool.true_or, Bool.true_and, List.all_eq_true]; intro o ho; simp only [Bool.or_eq_true]; exact .inr (.inr (by simpa using ho))
set_option maxHeartbeats 4000000 in
theorem Qpb {R : List (List AV)} {x : List AV} {K : Nat → ByteArray} {kx : ByteArray} {O : List (Nat × AObj)} {v p : Nat} (hR : ∀ i, i < R.length → GR (K i) (R.getD i [])) (hx : GR kx x) (hs : ∀ i, 0 < i → i < R.length → slt (K (i - 1)) (K i)) (hp : Pos K kx R.length p) (hn : R.length ≤ 11)
    (hO : (dom O).all (decide <| · % 1000 < 100) = true) (h4 : getM O 4 = none) (u : Zb O) (c : (O.all fun p => Qc (dom O) p.2) = true) (cR : R.all (Qb (dom O)) = true) (cx : Qb (dom O) x = true) :
    Contract P 131 [.own 4 v 0 (R.length + 1), .fn 132 [] []] ((4, .arr (1000000 + 71) v 11 (KT R x R.length)) :: O) (.tup []) ((4, .arr (1000000 + 71) v 11 (KT R x p)) :: O) := by
  have h4' : Qbj O 4 := fun p hp e => by have := QF u p hp; rw [e, h4] at this; cases this
  have gk : ∀ y, ∀ p ∈ (4, y) :: O, getM ((4, y) :: O) p.1 = some p.2 := fun y => QF (List.pairwise_cons.2 ⟨fun p hp e => h4' p hp e.symm, u⟩)
  have apA : ∀ y z, QR ((4, y) :: O) ((4, z) :: O) = (4, z) :: O := fun y z => Qa8 (List.pairwise_cons.2 ⟨fun p hp e => h4' p hp e.symm, u⟩) rfl
  have cl : ∀ t, (((4, .arr (1000000 + 71) v 11 (KT R x t)) :: O).all fun q => Qc (dom ((4, .arr (1000000 + 71) v 11 (KT R x t)) :: O)) q.2) = true := fun t => by
    simp only [List.all_cons, Bool.and_eq_true]
    refine ⟨?_, Qbi c⟩
    simp only [Qc]
    rw [if_neg (by omega), List.all_eq_true]
    intro r hr
    rcases Qbh hr with hr | rfl
    · exact Xp (by rw [List.all_eq_true] at cR; exact cR r hr)
    · exact Xp cx
  have kp : ((dom ((4, .arr (1000000 + 71) v 11 (KT R x R.length)) :: O)).all fun o => decide (100 ≤ o % 1000) || (dom ((4, .arr (1000000 + 71) v 11 (KT R x p)) :: O)).contains o) = true := by
    rw [List.all_eq_true]; intro o ho; rw [Bool.or_eq_true]; exact .inr (by simpa [dom] using ho)
  have h100 : (dom ((4, .arr (1000000 + 71) v 11 (KT R x R.length)) :: O)).all (decide <| · % 1000 < 100) = true := by
    rw [List.all_eq_true] at hO ⊢
    intro o ho
    rcases List.mem_cons.1 ho with rfl | ho
    · rfl
    · exact hO o ho
  have wr : IntKind.u64.wrap ((R.length + 1 : Nat) : Int) = ((R.length + 1 : Nat) : Int) := by
    simp only [IntKind.wrap, IntKind.bits, IntKind.signed]; simp; omega
  refine Qg ((Env.nil P).add 133 Jn QaV) Go.Ve.hm UI (nlb rfl) h100 ?_
  unfold YL
  simp (maxSteps := 2000000) only [bitvec_to_nat, reduceIte, Nat.reduceEqDiff, Nat.reduceAdd, Nat.reduceLeDiff, reduceCtorEq, Nat.reduceBEq, Nat.reduceLT, Nat.reduceMod, fmc, Qf, Qh, Qe, Qu, keepB, Qi, Qw, Jn, wr, apA, Int.toNat_natCast, Nat.sub_zero, List.drop_zero, Nat.zero_add]
  refine ⟨_, _, .inr (.inl ⟨rfl, _, rfl, Qt5 _ (by omega) (by omega), rfl, trivial⟩), ?_⟩
  simp (maxSteps := 2000000) only [bitvec_to_nat, reduceIte, Nat.reduceEqDiff, Nat.reduceAdd, Nat.reduceLeDiff, reduceCtorEq, Nat.reduceBEq, Nat.reduceLT, Nat.reduceMod, fmc, Qf, Qh, Qe, Qu, keepB, Qi, Qw, Jn, wr, apA, Int.toNat_natCast, Nat.sub_zero, List.drop_zero, Nat.zero_add]
  refine ⟨_, _, J9 (Qt6 hR hx hs hp hn hO h4 u c cR cx _) rfl (gk _) (by simp [Qd, Qb, dom]) (cl _) rfl (cl _), ?_⟩
  simp (maxSteps := 2000000) only [bitvec_to_nat, reduceIte, Nat.reduceEqDiff, Nat.reduceAdd, Nat.reduceLeDiff, reduceCtorEq, Nat.reduceBEq, Nat.reduceLT, Nat.reduceMod, fmc, Qf, Qh, Qe, Qu, keepB, Qi, Qw, Jn, wr, apA, Int.toNat_natCast, Nat.sub_zero, List.drop_zero, Nat.zero_add]
  refine ⟨⟨_, rfl, rfl⟩, Q4 (fun q hq => gk _ q (List.mem_cons_of_mem _ hq)), ?_, ?_⟩
  · have := cl p
    simpa [Qc, dom] using this
  · rw [Bool.true_or, Bool.true_and, List.all_eq_true]; intro o ho; simp only [Bool.or_eq_true]; exact .inr (.inr (by simpa using ho))
end
end Go.Ve

namespace Go.Ve
noncomputable section
open Go.Proofs
set_option maxRecDepth 100000
open Go.ChangeShapes Go.WideShapes Go.RowKit
theorem Qty {b : Book} {k i : Nat} (h : i < b.own.length) : GR (b.own.getD i default).fl ((QQ (Own.row 0) k 0 b.own).getD i []) := by
  rw [Qgj h]
  exact ⟨_, _, _, _, _, _, _, _, _, _, rfl, rfl⟩
theorem Qdc {b : Book} {vc vd : Nat} {q : Nat × AObj} (h : q ∈ (QA QW (Own.row 0) 10 0 b.own ++ (YH 5 vc 30 b.parts ++ UL 6 vd b.seen))) : q.1 = 5 ∨ q.1 = 6 ∨ (1000 ≤ q.1 ∧ ((10 ≤ q.1 % 1000 ∧ q.1 % 1000 < 21) ∨ (30 ≤ q.1 % 1000 ∧ q.1 % 1000 < 33))) := by
  rcases List.mem_append.1 h with h | h
  · have := Kh QJ (by omega) h; omega
  rcases List.mem_append.1 h with h | h
  · have := Yb QH (by omega) h; omega
  · rw [List.mem_singleton.1 h]; simp
set_option maxHeartbeats 4000000 in
theorem Qsz {b : Book} {x : List AV} {kx : ByteArray} {va vc vd p : Nat} (hx : GR kx x) (hnr : Je x = true) (hrf : K7 x = []) (hs : ∀ i, 0 < i → i < b.own.length → slt (b.own.getD (i - 1) default).fl (b.own.getD i default).fl) (hp : Pos (fun i => (b.own.getD i default).fl) kx b.own.length p) (hn : b.own.length ≤ 11) :
    Contract P 104 [.ptr 3 0, .agg x] ((3, .box [.own 4 va 0 b.own.length, .own 5 vc 0 b.parts.length, .own 6 vd 0 b.seen.length]) :: (4, .arr (1000000 + 71) va 11 (QQ (Own.row 0) 10 0 b.own)) :: (QA QW (Own.row 0) 10 0 b.own ++ (YH 5 vc 30 b.parts ++ UL 6 vd b.seen))) (.tup []) ((3, .box [.own 4 (va + 1) 0 (b.own.length + 1), .own 5 vc 0 b.parts.length, .own 6 vd 0 b.seen.length]) :: (4, .arr (1000000 + 71) (va + 1) 11 (KT (QQ (Own.row 0) 10 0 b.own) x p)) :: (QA QW (Own.row 0) 10 0 b.own ++ (YH 5 vc 30 b.parts ++ UL 6 vd b.seen))) := by
  have lR : (QQ (Own.row 0) 10 0 b.own).length = b.own.length := Q7
  have uT : Zb ((3, .box [.own 4 va 0 b.own.length, .own 5 vc 0 b.parts.length, .own 6 vd 0 b.seen.length]) :: (4, .arr (1000000 + 71) va 11 (QQ (Own.row 0) 10 0 b.own)) :: (QA QW (Own.row 0) 10 0 b.own ++ (YH 5 vc 30 b.parts ++ UL 6 vd b.seen))) := List.pairwise_cons.2 ⟨fun q hq => by
    rcases List.mem_cons.1 hq with rfl | hq
    · simp
    · have := Qdc hq; simp only; omega, Xk (b := b) (a := 4) (va := va) (c := 5) (vc := vc) (d := 6) (vd := vd) (kO := 10) (kP := 30) (by omega) (by omega) (by omega) (by omega) (by omega) (by omega) (by omega) (by omega) (by omega)⟩
  have uO : Zb (QA QW (Own.row 0) 10 0 b.own) := KR QJ (by omega)
  have hOn : ∀ q ∈ QA QW (Own.row 0) 10 0 b.own, 1000 ≤ q.1 ∧ 10 ≤ q.1 % 1000 ∧ q.1 % 1000 < 21 := fun q hq => Kh QJ (by omega) hq
  have h4 : getM (QA QW (Own.row 0) 10 0 b.own) 4 = none := Q9 fun q hq e => by have := hOn q hq; omega
  have hO : (dom (QA QW (Own.row 0) 10 0 b.own)).all (decide <| · % 1000 < 100) = true := by
    rw [List.all_eq_true]; intro o ho
    obtain ⟨q, hq, rfl⟩ := List.mem_map.1 ho
    have := hOn q hq
    simp only [decide_eq_true_eq]; omega
  have c : ((QA QW (Own.row 0) 10 0 b.own).all fun q => Qc (dom (QA QW (Own.row 0) 10 0 b.own)) q.2) = true := Qa5 KZ
  have cR : (QQ (Own.row 0) 10 0 b.own).all (Qb (dom (QA QW (Own.row 0) 10 0 b.own))) = true := VE QJ fun q hq => Jx hq
  have cx : Qb (dom (QA QW (Own.row 0) 10 0 b.own)) x = true := Qa _ _ hnr
  have S := Qpb (R := QQ (Own.row 0) 10 0 b.own) (x := x) (K := fun i => (b.own.getD i default).fl) (kx := kx) (O := QA QW (Own.row 0) 10 0 b.own) (v := va + 1) (p := p) (fun i hi => Qty (by omega)) hx (fun i h0 hi => hs i h0 (by omega)) (by rw [lR]; exact hp) (by omega) hO h4 uO c cR cx
  have eI : KT (QQ (Own.row 0) 10 0 b.own) x (QQ (Own.row 0) 10 0 b.own).length = QQ (Own.row 0) 10 0 b.own ++ [x] := by simp [KT]
  rw [eI, lR] at S
  have nQ : ∀ q, q = 3 ∨ q = 4 ∨ q = 103 ∨ q = 110 → getM ((QA QW (Own.row 0) 10 0 b.own ++ (YH 5 vc 30 b.parts ++ UL 6 vd b.seen))) q = none := fun q hq => Q9 fun r hr e => by have := Qdc hr; omega
  have gk : ∀ (y z : AObj) (C : List (Nat × AObj)), ∀ q ∈ (4, z) :: QA QW (Own.row 0) 10 0 b.own, getM ((3, y) :: (4, z) :: ((QA QW (Own.row 0) 10 0 b.own ++ (YH 5 vc 30 b.parts ++ UL 6 vd b.seen)) ++ C)) q.1 = some q.2 := fun y z C q hq => by
    rcases List.mem_cons.1 hq with rfl | hq
    · simp [getM]
    · have h1 := hOn q hq
      simp only [getM]
      rw [if_neg (by omega), if_neg (by omega), List.append_assoc]
      exact Ke (QF uO q hq)
  have uA : ∀ y, Zb ((4, y) :: QA QW (Own.row 0) 10 0 b.own) := fun y => List.pairwise_cons.2 ⟨fun q hq e => by have := hOn q hq; simp only at e; omega, uO⟩
  have clO : ∀ {v : Nat} {r : List (List AV)}, r.all (Qb (dom (QA QW (Own.row 0) 10 0 b.own))) = true → (((4, AObj.arr (1000000 + 71) v 11 r) :: QA QW (Own.row 0) 10 0 b.own).all fun q => Qc (dom ((4, AObj.arr (1000000 + 71) v 11 r) :: QA QW (Own.row 0) 10 0 b.own)) q.2) = true := fun {v r} hr => by
    simp only [List.all_cons, Bool.and_eq_true]
    refine ⟨?_, Qbi c⟩
    simp only [Qc]
    rw [if_neg (by omega), List.all_eq_true]
    rw [List.all_eq_true] at hr
    exact fun y hy => Xp (hr y hy)
  have lx : List.take 11 x = x := List.take_of_length_le (by rw [hx.len]; omega)
  have tkR : List.take b.own.length (QQ (Own.row 0) 10 0 b.own) = QQ (Own.row 0) 10 0 b.own := List.take_of_length_le (by rw [lR]; exact Nat.le_refl _)
  have h100 : (dom ((3, .box [.own 4 va 0 b.own.length, .own 5 vc 0 b.parts.length, .own 6 vd 0 b.seen.length]) :: (4, .arr (1000000 + 71) va 11 (QQ (Own.row 0) 10 0 b.own)) :: (QA QW (Own.row 0) 10 0 b.own ++ (YH 5 vc 30 b.parts ++ UL 6 vd b.seen)))).all (decide <| · % 1000 < 100) = true := by
    rw [List.all_eq_true]; intro o ho
    simp only [decide_eq_true_eq]
    rcases List.mem_cons.1 ho with rfl | ho
    · simp
    rcases List.mem_cons.1 ho with rfl | ho
    · simp
    obtain ⟨q, hq, rfl⟩ := List.mem_map.1 ho
    have := Qdc hq; omega
  have hx1 := hx.leaf
  have hx2 := hx.len
  obtain ⟨T, hT⟩ : ∃ T, T = (QA QW (Own.row 0) 10 0 b.own ++ (YH 5 vc 30 b.parts ++ UL 6 vd b.seen)) := ⟨_, rfl⟩
  rw [← hT] at nQ h100 uT gk ⊢
  have apS : ∀ (y z w : AObj) (C : List (Nat × AObj)), QR ((3, y) :: (4, z) :: (T ++ C)) ((4, w) :: QA QW (Own.row 0) 10 0 b.own) = (3, y) :: (4, w) :: (T ++ C) := fun y z w C => by
    have h3 : ∀ q ∈ (4, w) :: QA QW (Own.row 0) 10 0 b.own, q.1 ≠ 3 := fun q hq => by
      rcases List.mem_cons.1 hq with rfl | hq
      · simp
      · have := hOn q hq; omega
    rw [JF h3, hT, List.append_assoc]
    show _ :: QR (((4, z) :: QA QW (Own.row 0) 10 0 b.own) ++ _) _ = _
    rw [Qaj (V := (4, w) :: QA QW (Own.row 0) 10 0 b.own) (uA z) rfl]; rfl
  have sT : ∀ q y C, q = 3 ∨ q = 4 ∨ q = 103 ∨ q = 110 → JP (T ++ C) q y = T ++ JP C q y := fun q y C h => Yw (nQ q h)
  have gT : ∀ q C, q = 3 ∨ q = 4 ∨ q = 103 ∨ q = 110 → getM (T ++ C) q = getM C q := fun q C h => Jd (nQ q h)
  have sQ : ∀ q y, q = 3 ∨ q = 4 ∨ q = 103 ∨ q = 110 → JP T q y = T ++ [(q, y)] := fun q y h => Xr (nQ q h)
  have ex1 : True := trivial
  refine Qg ((Env.nil P).add 133 Jn QaV) Go.Ve.hm W4 (nlb rfl) h100 ?_
  unfold Gr
  simp (maxSteps := 2000000) only [bitvec_to_nat, reduceIte, Nat.reduceEqDiff, Nat.reduceAdd, Nat.reduceLeDiff, reduceCtorEq, Nat.reduceBEq, Nat.reduceLT, Nat.reduceMod, fmc, Qf, Qh, Qe, Qu, keepB, Qi, Qw, Jn, int_toBitVec_meta, method_specs_simp, nQ, sQ, gT, sT, apS, or_true, true_or, or_false, false_or, lx, ex1, hx1, hx2, Q7, Nat.sub_zero, List.append_nil, tkR, List.length_singleton, List.take_left', List.length_cons, List.length_nil, Nat.zero_add]
  refine ⟨by rw [hrf]; rfl, by omega, Qg6 _ (fun l => rfl) ⟨_, _, J9 S rfl (gk _ _ _) (by simp [Qd, Qb, dom]) (clO ?_) rfl (clO ?_), ?_⟩⟩
  · rw [List.all_append, Bool.and_eq_true]; exact ⟨cR, by simp only [List.all_cons, cx, List.all_nil, Bool.and_self]⟩
  · rw [List.all_eq_true] at cR ⊢
    intro y hy
    rcases Qbh hy with hy | rfl
    · exact cR y hy
    · exact cx
  simp (maxSteps := 2000000) only [bitvec_to_nat, reduceIte, Nat.reduceEqDiff, Nat.reduceAdd, Nat.reduceLeDiff, reduceCtorEq, Nat.reduceBEq, Nat.reduceLT, Nat.reduceMod, fmc, Qf, Qh, Qe, Qu, keepB, Qi, Qw, Jn, int_toBitVec_meta, method_specs_simp, nQ, sQ, gT, sT, apS, or_true, true_or, or_false, false_or, lx, ex1, hx1, hx2, Q7, Nat.sub_zero, List.append_nil, tkR, List.length_singleton, List.take_left', List.length_cons, List.length_nil, Nat.zero_add]
  have uT2 : Zb T := (List.pairwise_cons.1 (List.pairwise_cons.1 uT).2).2
  have nT : ∀ q ∈ T, q.1 ≠ 3 ∧ q.1 ≠ 4 := fun q hq => by rw [hT] at hq; have := Qdc hq; omega
  have rT : (T.all fun q => Qc (3 :: 4 :: List.map (fun x : Nat × AObj => x.1) T) q.2) = true := by
    have r := UD (D := 3 :: 4 :: List.map (fun x : Nat × AObj => x.1) T) (b := b) (a := 4) (va := va) (c := 5) (vc := vc) (d := 6) (vd := vd) (kO := 10) (kP := 30) fun q hq => by
      rcases List.mem_cons.1 (show q ∈ (4, AObj.arr (1000000 + 71) va 11 (QQ (Own.row 0) 10 0 b.own)) :: (QA QW (Own.row 0) 10 0 b.own ++ (YH 5 vc 30 b.parts ++ UL 6 vd b.seen)) from hq) with rfl | hq
      · simp
      · rw [← hT] at hq; exact List.mem_cons_of_mem _ (List.mem_cons_of_mem _ (Jx hq))
    have r := (show ((((4, AObj.arr (1000000 + 71) va 11 (QQ (Own.row 0) 10 0 b.own)) :: (QA QW (Own.row 0) 10 0 b.own ++ (YH 5 vc 30 b.parts ++ UL 6 vd b.seen))).all fun q => Qc (3 :: 4 :: List.map (fun x : Nat × AObj => x.1) T) q.2) = true) from r)
    rw [← hT, List.all_cons, Bool.and_eq_true] at r
    exact r.2
  refine ⟨⟨_, rfl, rfl⟩, Q4 fun q hq => ?_, ?_, ?_⟩
  · have := nT q hq
    simp only [getM]
    rw [if_neg this.1, if_neg this.2]
    exact Ke (QF uT2 q hq)
  · have m5 : 5 ∈ List.map (fun x : Nat × AObj => x.1) T := by rw [hT]; simp [OO]
    have m6 : 6 ∈ List.map (fun x : Nat × AObj => x.1) T := by rw [hT]; simp [OO]
    simp only [Bool.and_eq_true]
    refine ⟨⟨by simp [Qd], by simp only [Qd, List.contains_iff_mem]; exact List.mem_cons_of_mem _ (List.mem_cons_of_mem _ m5), by simp only [Qd, List.contains_iff_mem]; exact List.mem_cons_of_mem _ (List.mem_cons_of_mem _ m6)⟩, ?_, rT⟩
    rw [List.all_eq_true]
    intro y hy
    have hd : ∀ q ∈ dom (QA QW (Own.row 0) 10 0 b.own), q ∈ 3 :: 4 :: List.map (fun x : Nat × AObj => x.1) T := fun q hq => by
      obtain ⟨r, hr, rfl⟩ := List.mem_map.1 hq
      refine List.mem_cons_of_mem _ (List.mem_cons_of_mem _ (List.mem_map.2 ⟨r, ?_, rfl⟩))
      rw [hT]; exact List.mem_append_left _ hr
    rw [List.all_eq_true] at cR
    rcases Qbh hy with hy | rfl
    · exact J3 hd _ (cR y hy)
    · exact J3 hd _ cx
  · rw [Bool.true_or, Bool.true_and, Bool.true_or, Bool.true_and, List.all_eq_true]
    intro o ho
    simp only [List.map_append, List.map_cons, List.map_nil, List.mem_append, List.mem_cons, List.not_mem_nil, or_false] at ho
    simp only [Bool.or_eq_true, decide_eq_true_eq]
    rcases ho with ho | rfl | rfl
    · exact .inr (.inr (.inr (by simpa using ho)))
    · left; omega
    · left; omega
end
end Go.Ve

namespace Go.Ve
noncomputable section
open Go.Proofs
set_option maxRecDepth 100000
open Go.ChangeShapes Go.WideShapes Go.RowKit
def enM (b : Book) (a va c vc d vd kO kP : Nat) (r : List (List AV)) : List (Nat × AObj) := (a, .arr (1000000 + 71) va 11 r) :: (QA QW (Own.row 0) kO 0 b.own ++ (YH c vc kP b.parts ++ UL d vd b.seen))
theorem QlN {b : Book} {a va c vc d vd kO kP : Nat} : bkM b a va c vc d vd kO kP = enM b a va c vc d vd kO kP (QQ (Own.row 0) kO 0 b.own) := rfl
theorem Qg7 {b : Book} {a va c vc d vd kO kP : Nat} {r : List (List AV)} {D : List Nat} (h : ∀ q ∈ enM b a va c vc d vd kO kP r, q.1 ∈ D) (hr : r.all (Qb (dom (QA QW (Own.row 0) kO 0 b.own))) = true) : ((enM b a va c vc d vd kO kP r).all fun q => Qc D q.2) = true := by
  have hb := UD (D := D) (b := b) (a := a) (va := va) (c := c) (vc := vc) (d := d) (vd := vd) (kO := kO) (kP := kP) fun q hq => by
    rw [QlN] at hq
    rcases List.mem_cons.1 hq with rfl | hq
    · exact h (a, .arr (1000000 + 71) va 11 r) (List.mem_cons_self ..)
    · exact h q (List.mem_cons_of_mem _ hq)
  rw [QlN] at hb
  unfold enM at hb ⊢
  rw [List.all_cons, Bool.and_eq_true] at hb ⊢
  refine ⟨?_, hb.2⟩
  simp only [Qc]
  rw [if_neg (by omega), List.all_eq_true]
  rw [List.all_eq_true] at hr
  intro y hy
  refine J3 (fun q hq => ?_) _ (hr y hy)
  obtain ⟨z, hz, rfl⟩ := List.mem_map.1 hq
  exact h z (List.mem_cons_of_mem _ (List.mem_append_left _ hz))
theorem QkX {b : Book} {a va c vc d vd kO kP : Nat} {r : List (List AV)} (hO : kO + 11 ≤ 1000) (hP : kP + 3 ≤ 1000) {q : Nat × AObj} (h : q ∈ enM b a va c vc d vd kO kP r) :
    q.1 = a ∨ q.1 = c ∨ q.1 = d ∨ (1000 ≤ q.1 ∧ ((kO ≤ q.1 % 1000 ∧ q.1 % 1000 < kO + 11) ∨ (kP ≤ q.1 % 1000 ∧ q.1 % 1000 < kP + 3))) := by
  rcases List.mem_cons.1 h with rfl | h
  · exact .inl rfl
  · exact KH hO hP (a := a) (va := va) (show q ∈ bkM b a va c vc d vd kO kP from List.mem_cons_of_mem _ h)
theorem QlO {b : Book} {a va c vc d vd kO kP : Nat} {r : List (List AV)} (h1 : a ≠ c) (h2 : a ≠ d) (h3 : c ≠ d) (ha : a < 1000) (hc : c < 1000) (hd : d < 1000) (hO : kO + 11 ≤ 1000) (hP : kP + 3 ≤ 1000) (hk : kO + 11 ≤ kP ∨ kP + 3 ≤ kO) : Zb (enM b a va c vc d vd kO kP r) := by
  have := Xk (b := b) (va := va) (vc := vc) (vd := vd) h1 h2 h3 ha hc hd hO hP hk
  rw [QlN] at this
  exact List.pairwise_cons.2 ⟨fun q hq => (List.pairwise_cons.1 this).1 q hq, (List.pairwise_cons.1 this).2⟩
theorem QfO {b : Book} {kO p : Nat} {x : List AV} (hx : Je x = true) : (KT (QQ (Own.row 0) kO 0 b.own) x p).all (Qb (dom (QA QW (Own.row 0) kO 0 b.own))) = true := by
  have cR : (QQ (Own.row 0) kO 0 b.own).all (Qb (dom (QA QW (Own.row 0) kO 0 b.own))) = true := VE QJ fun q hq => Jx hq
  rw [List.all_eq_true] at cR ⊢
  intro y hy
  rcases Qbh hy with hy | rfl
  · exact cR y hy
  · exact Qa _ _ hx
theorem QqN {b : Book} {kO : Nat} : (QQ (Own.row 0) kO 0 b.own).all (Qb (dom (QA QW (Own.row 0) kO 0 b.own))) = true := VE QJ fun q hq => Jx hq
def QsA (fl : ByteArray) : Own := { fl := fl, st := 1, tn := 1, dst := ⟨#[]⟩, la := 0, nr := 0, tu := [], wi := 0, nx := [], gr := [], sent := false }
abbrev Qdf (fl : ByteArray) : List AV := [.str fl, .int .i64 1, .int .i64 1, .str ⟨#[]⟩, .int .i64 0, .int .i64 0, .sl 98 6 [], .int .i64 0, .sl 98 6 [], .sl 98 1 [], .bool false]
def enC (b : Book) (fl : ByteArray) : Int := if ¬ Ga fl then 2 else if 0 ≤ oAt b.own fl then 3 else if 6 ≤ b.own.length then 4 else 0
theorem Qt7 {b : Book} {fl : ByteArray} (h : enC b fl = 0) : Ga fl ∧ oAt b.own fl < 0 ∧ b.own.length < 6 := by
  unfold enC at h
  split at h; · omega
  rename_i q1
  split at h; · omega
  rename_i q2
  split at h; · omega
  rename_i q3
  exact ⟨Classical.not_not.1 q1, by omega, by omega⟩
set_option maxHeartbeats 4000000 in
theorem QqO (fl : ByteArray) (b : Book) (va vc vd : Nat) (hb : b.small) (h0 : enC b fl ≠ 0) :
    Contract P 73 [.ptr 3 0, .str fl] ((3, .box [.own 4 va 0 b.own.length, .own 5 vc 0 b.parts.length, .own 6 vd 0 b.seen.length]) :: bkM b 4 va 5 vc 6 vd 10 30) (.int .i64 (enC b fl)) ((3, .box [.own 4 va 0 b.own.length, .own 5 vc 0 b.parts.length, .own 6 vd 0 b.seen.length]) :: bkM b 4 va 5 vc 6 vd 10 30) := by
  have apC : True := trivial
  have hb' := hb
  unfold Book.small at hb
  have hoff : Qbj (bkM b 4 va 5 vc 6 vd 10 30) 3 := fun p hp e => by have := KH (by omega) (by omega) hp; omega
  have huq : Zb (bkM b 4 va 5 vc 6 vd 10 30) := Xk (by omega) (by omega) (by omega) (by omega) (by omega) (by omega) (by omega) (by omega) (by omega)
  have gK : ∀ x : AObj, ∀ p ∈ bkM b 4 va 5 vc 6 vd 10 30, getM ((3, x) :: bkM b 4 va 5 vc 6 vd 10 30) p.1 = some p.2 := fun x => QD hoff (QF huq)
  have applyK : ∀ x : AObj, QR ((3, x) :: bkM b 4 va 5 vc 6 vd 10 30) (bkM b 4 va 5 vc 6 vd 10 30) = (3, x) :: bkM b 4 va 5 vc 6 vd 10 30 := fun x => by rw [JF hoff, Zc huq]
  have R1 : (Qd (3 :: List.map (fun x : Nat × AObj => x.1) (bkM b 4 va 5 vc 6 vd 10 30)) (.own 4 va 0 b.own.length) && (Qd (3 :: List.map (fun x : Nat × AObj => x.1) (bkM b 4 va 5 vc 6 vd 10 30)) (.own 5 vc 0 b.parts.length) && Qd (3 :: List.map (fun x : Nat × AObj => x.1) (bkM b 4 va 5 vc 6 vd 10 30)) (.own 6 vd 0 b.seen.length)) && ((bkM b 4 va 5 vc 6 vd 10 30).all fun p => Qc (3 :: List.map (fun x : Nat × AObj => x.1) (bkM b 4 va 5 vc 6 vd 10 30)) p.2)) = true := by
    have h1 : (Qd (3 :: List.map (fun x : Nat × AObj => x.1) (bkM b 4 va 5 vc 6 vd 10 30)) (.own 4 va 0 b.own.length) && (Qd (3 :: List.map (fun x : Nat × AObj => x.1) (bkM b 4 va 5 vc 6 vd 10 30)) (.own 5 vc 0 b.parts.length) && (Qd (3 :: List.map (fun x : Nat × AObj => x.1) (bkM b 4 va 5 vc 6 vd 10 30)) (.own 6 vd 0 b.seen.length) && true))) = true := Qbg (D := 3 :: List.map (fun x : Nat × AObj => x.1) (bkM b 4 va 5 vc 6 vd 10 30)) (b := b) (a := 4) (va := va) (c := 5) (vc := vc) (d := 6) (vd := vd) (kO := 10) (kP := 30) fun p h => List.mem_cons_of_mem _ (Jx h)
    rw [Bool.and_true] at h1
    rw [Bool.and_eq_true]
    exact ⟨h1, UD fun p h => List.mem_cons_of_mem _ (Jx h)⟩
  have R2 : ((true || (List.map (fun x : Nat × AObj => x.1) (bkM b 4 va 5 vc 6 vd 10 30)).contains 3) && (List.map (fun x : Nat × AObj => x.1) (bkM b 4 va 5 vc 6 vd 10 30)).all fun o => decide (100 ≤ o % 1000) || (o == 3 || (List.map (fun x : Nat × AObj => x.1) (bkM b 4 va 5 vc 6 vd 10 30)).contains o)) = true := by
    rw [Bool.true_or, Bool.true_and, List.all_eq_true]
    intro o ho
    simp only [Bool.or_eq_true]
    exact .inr (.inr (by simpa using ho))
  have hMo : getM (bkM b 4 va 5 vc 6 vd 10 30) 4 = some (.arr (1000000 + 71) va 11 (QQ (Own.row 0) 10 0 b.own)) := rfl
  have hMp : getM (bkM b 4 va 5 vc 6 vd 10 30) 5 = some (.arr (1000000 + 124) vc 3 (QQ (Part.row 0) 30 0 b.parts)) := QF huq (5, .arr (1000000 + 124) vc 3 (QQ (Part.row 0) 30 0 b.parts)) (by simp [bkM, OO])
  have hMs : getM (bkM b 4 va 5 vc 6 vd 10 30) 6 = some (.arr 118 vd 2 (b.seen.map Seen.row)) := QF huq (6, .arr 118 vd 2 (b.seen.map Seen.row)) (by simp [bkM])
  have hOw := Qo4 b fl (by omega)
  refine Qg ((Env.nil P).add 103 Qv K5) Go.Ve.hm Gs (nlb rfl) ?_ ?_
  · rw [List.all_eq_true]
    intro q hq
    obtain ⟨p, hp, rfl⟩ := List.mem_map.1 hq
    simp only [decide_eq_true_eq]
    rcases List.mem_cons.1 hp with rfl | hp
    · omega
    · have := KH (by omega) (by omega) hp; omega
  unfold K1
  simp (maxSteps := 2000000) only [bitvec_to_nat, reduceIte, Nat.reduceEqDiff, Nat.reduceAdd, Nat.reduceLeDiff, reduceCtorEq, Nat.reduceBEq, Nat.reduceLT, Nat.reduceMod, fmc, Qf, Qh, Qe, Qu, keepB, Qi, Qw, Qv, int_toBitVec_meta, method_specs_simp, Nat.sub_zero, List.append_nil, applyK, apC, hMo, hMp, hMs]
  refine ⟨fun h1 => ⟨_, _, Ky (r := .int .i64 (oAt b.own fl)) (news := []) (keep := bkM b 4 va 5 vc 6 vd 10 30) (args' := [.agg (b.row 99), .str fl]) (by simp only [Yz, QaQ, QiB]; exact hOw) (gK _) (JZ (QlL (gK _) (QF huq)) rfl) (by simp only [Xv, YI 99 (by omega), QiA]; rfl) rfl rfl (by simp) rfl rfl trivial (by simp), ?_⟩, fun h1 => ⟨?_, Q4 (gK _), R1, R2⟩⟩
  · by_cases h2 : oAt b.own fl < 0
    · have h2' : ¬ 0 ≤ oAt b.own fl := by omega
      by_cases h3 : 6 ≤ b.own.length
      · have h3' : (6 ≤ (b.own.length : Int)) = True := eq_true (by omega)
        simp (maxSteps := 2000000) only [bitvec_to_nat, reduceIte, Nat.reduceEqDiff, Nat.reduceAdd, Nat.reduceLeDiff, reduceCtorEq, Nat.reduceBEq, Nat.reduceLT, Nat.reduceMod, fmc, Qf, Qh, Qe, Qu, keepB, Qi, Qw, Qv, h2', h3', applyK, hMo, Int.toNat_natCast, Nat.sub_zero]
        refine ⟨?_, Q4 (gK _), R1, R2⟩
        simp only [enC, h1, h2', h3, if_true, if_false, not_true_eq_false]
      · exact absurd (by simp only [enC, h1, h2', h3, if_true, if_false, not_true_eq_false]) h0
    · have h2' : 0 ≤ oAt b.own fl := by omega
      simp (maxSteps := 2000000) only [bitvec_to_nat, reduceIte, Nat.reduceEqDiff, Nat.reduceAdd, Nat.reduceLeDiff, reduceCtorEq, Nat.reduceBEq, Nat.reduceLT, Nat.reduceMod, fmc, Qf, Qh, Qe, Qu, keepB, Qi, Qw, Qv, h2', applyK, hMo]
      refine ⟨?_, Q4 (gK _), R1, R2⟩
      simp only [enC, h1, h2', if_true, if_false, not_true_eq_false]
  · simp only [enC, h1, if_true, not_false_eq_true]
set_option maxHeartbeats 4000000 in
theorem QqP (fl : ByteArray) (b : Book) (va vc vd p : Nat) (hb : b.small) (h0 : enC b fl = 0) (hs : ∀ i, 0 < i → i < b.own.length → slt (b.own.getD (i - 1) default).fl (b.own.getD i default).fl) (hp : Pos (fun i => (b.own.getD i default).fl) fl b.own.length p) :
    Contract P 73 [.ptr 3 0, .str fl] ((3, .box [.own 4 va 0 b.own.length, .own 5 vc 0 b.parts.length, .own 6 vd 0 b.seen.length]) :: bkM b 4 va 5 vc 6 vd 10 30) (.int .i64 0) ((3, .box [.own 4 (va + 1) 0 (b.own.length + 1), .own 5 vc 0 b.parts.length, .own 6 vd 0 b.seen.length]) :: enM b 4 (va + 1) 5 vc 6 vd 10 30 (KT (QQ (Own.row 0) 10 0 b.own) (Qdf fl) p)) := by
  have apC : True := trivial
  have hb' := hb
  unfold Book.small at hb
  have hoff : Qbj (bkM b 4 va 5 vc 6 vd 10 30) 3 := fun p hp e => by have := KH (by omega) (by omega) hp; omega
  have huq : Zb (bkM b 4 va 5 vc 6 vd 10 30) := Xk (by omega) (by omega) (by omega) (by omega) (by omega) (by omega) (by omega) (by omega) (by omega)
  have gK : ∀ x : AObj, ∀ p ∈ bkM b 4 va 5 vc 6 vd 10 30, getM ((3, x) :: bkM b 4 va 5 vc 6 vd 10 30) p.1 = some p.2 := fun x => QD hoff (QF huq)
  have applyK : ∀ x : AObj, QR ((3, x) :: bkM b 4 va 5 vc 6 vd 10 30) (bkM b 4 va 5 vc 6 vd 10 30) = (3, x) :: bkM b 4 va 5 vc 6 vd 10 30 := fun x => by rw [JF hoff, Zc huq]
  have R1 : (Qd (3 :: List.map (fun x : Nat × AObj => x.1) (bkM b 4 va 5 vc 6 vd 10 30)) (.own 4 va 0 b.own.length) && (Qd (3 :: List.map (fun x : Nat × AObj => x.1) (bkM b 4 va 5 vc 6 vd 10 30)) (.own 5 vc 0 b.parts.length) && Qd (3 :: List.map (fun x : Nat × AObj => x.1) (bkM b 4 va 5 vc 6 vd 10 30)) (.own 6 vd 0 b.seen.length)) && ((bkM b 4 va 5 vc 6 vd 10 30).all fun p => Qc (3 :: List.map (fun x : Nat × AObj => x.1) (bkM b 4 va 5 vc 6 vd 10 30)) p.2)) = true := by
    have h1 : (Qd (3 :: List.map (fun x : Nat × AObj => x.1) (bkM b 4 va 5 vc 6 vd 10 30)) (.own 4 va 0 b.own.length) && (Qd (3 :: List.map (fun x : Nat × AObj => x.1) (bkM b 4 va 5 vc 6 vd 10 30)) (.own 5 vc 0 b.parts.length) && (Qd (3 :: List.map (fun x : Nat × AObj => x.1) (bkM b 4 va 5 vc 6 vd 10 30)) (.own 6 vd 0 b.seen.length) && true))) = true := Qbg (D := 3 :: List.map (fun x : Nat × AObj => x.1) (bkM b 4 va 5 vc 6 vd 10 30)) (b := b) (a := 4) (va := va) (c := 5) (vc := vc) (d := 6) (vd := vd) (kO := 10) (kP := 30) fun p h => List.mem_cons_of_mem _ (Jx h)
    rw [Bool.and_true] at h1
    rw [Bool.and_eq_true]
    exact ⟨h1, UD fun p h => List.mem_cons_of_mem _ (Jx h)⟩
  have R2 : ((true || (List.map (fun x : Nat × AObj => x.1) (bkM b 4 va 5 vc 6 vd 10 30)).contains 3) && (List.map (fun x : Nat × AObj => x.1) (bkM b 4 va 5 vc 6 vd 10 30)).all fun o => decide (100 ≤ o % 1000) || (o == 3 || (List.map (fun x : Nat × AObj => x.1) (bkM b 4 va 5 vc 6 vd 10 30)).contains o)) = true := by
    rw [Bool.true_or, Bool.true_and, List.all_eq_true]
    intro o ho
    simp only [Bool.or_eq_true]
    exact .inr (.inr (by simpa using ho))
  have hMo : getM (bkM b 4 va 5 vc 6 vd 10 30) 4 = some (.arr (1000000 + 71) va 11 (QQ (Own.row 0) 10 0 b.own)) := rfl
  have hMp : getM (bkM b 4 va 5 vc 6 vd 10 30) 5 = some (.arr (1000000 + 124) vc 3 (QQ (Part.row 0) 30 0 b.parts)) := QF huq (5, .arr (1000000 + 124) vc 3 (QQ (Part.row 0) 30 0 b.parts)) (by simp [bkM, OO])
  have hMs : getM (bkM b 4 va 5 vc 6 vd 10 30) 6 = some (.arr 118 vd 2 (b.seen.map Seen.row)) := QF huq (6, .arr 118 vd 2 (b.seen.map Seen.row)) (by simp [bkM])
  have hOw := Qo4 b fl (by omega)
  obtain ⟨h1, h2, h3⟩ := Qt7 h0
  have C := Qsz (b := b) (x := Qdf fl) (kx := fl) (va := va) (vc := vc) (vd := vd) (p := p) ⟨_, _, _, _, _, _, _, _, _, _, rfl, rfl⟩ rfl rfl hs hp (by omega)
  have h2' : ¬ 0 ≤ oAt b.own fl := by omega
  have h3' : ¬ 6 ≤ (b.own.length : Int) := by omega
  have apC : ∀ x, QR ((3, x) :: bkM b 4 va 5 vc 6 vd 10 30) ((3, .box [.own 4 (va + 1) 0 (b.own.length + 1), .own 5 vc 0 b.parts.length, .own 6 vd 0 b.seen.length]) :: enM b 4 (va + 1) 5 vc 6 vd 10 30 (KT (QQ (Own.row 0) 10 0 b.own) (Qdf fl) p)) = (3, .box [.own 4 (va + 1) 0 (b.own.length + 1), .own 5 vc 0 b.parts.length, .own 6 vd 0 b.seen.length]) :: enM b 4 (va + 1) 5 vc 6 vd 10 30 (KT (QQ (Own.row 0) 10 0 b.own) (Qdf fl) p) := fun x => Qa8 (List.pairwise_cons.2 ⟨fun q hq e => hoff q hq e.symm, huq⟩) rfl
  refine Qg ((Env.nil P).add 103 Qv K5) Go.Ve.hm Gs (nlb rfl) ?_ ?_
  · rw [List.all_eq_true]
    intro q hq
    obtain ⟨p, hp, rfl⟩ := List.mem_map.1 hq
    simp only [decide_eq_true_eq]
    rcases List.mem_cons.1 hp with rfl | hp
    · omega
    · have := KH (by omega) (by omega) hp; omega
  unfold K1
  simp (maxSteps := 2000000) only [bitvec_to_nat, reduceIte, Nat.reduceEqDiff, Nat.reduceAdd, Nat.reduceLeDiff, reduceCtorEq, Nat.reduceBEq, Nat.reduceLT, Nat.reduceMod, fmc, Qf, Qh, Qe, Qu, keepB, Qi, Qw, Qv, int_toBitVec_meta, method_specs_simp, Nat.sub_zero, List.append_nil, applyK, apC, hMo, hMp, hMs]
  refine ⟨fun _ => ⟨_, _, Ky (r := .int .i64 (oAt b.own fl)) (news := []) (keep := bkM b 4 va 5 vc 6 vd 10 30) (args' := [.agg (b.row 99), .str fl]) (by simp only [Yz, QaQ, QiB]; exact hOw) (gK _) (JZ (QlL (gK _) (QF huq)) rfl) (by simp only [Xv, YI 99 (by omega), QiA]; rfl) rfl rfl (by simp) rfl rfl trivial (by simp), ?_⟩, fun h => absurd h1 h⟩
  simp (maxSteps := 2000000) only [bitvec_to_nat, reduceIte, Nat.reduceEqDiff, Nat.reduceAdd, Nat.reduceLeDiff, reduceCtorEq, Nat.reduceBEq, Nat.reduceLT, Nat.reduceMod, fmc, Qf, Qh, Qe, Qu, keepB, Qi, Qw, Qv, h2', h3', applyK, hMo, Int.toNat_natCast, Nat.sub_zero]
  have cB : ∀ (v n w : Nat) (r : List (List AV)), r.all (Qb (dom (QA QW (Own.row 0) 10 0 b.own))) = true → (((3, AObj.box [.own 4 v 0 n, .own 5 vc 0 b.parts.length, .own 6 vd 0 b.seen.length]) :: enM b 4 w 5 vc 6 vd 10 30 r).all fun q => Qc (3 :: dom (enM b 4 w 5 vc 6 vd 10 30 r)) q.2) = true := fun v n w r hr => by
    rw [List.all_cons, Bool.and_eq_true]
    refine ⟨?_, Qg7 (fun q hq => List.mem_cons_of_mem _ (Jx hq)) hr⟩
    simp only [Qc, Qb, Qd, Bool.and_eq_true, List.contains_iff_mem]
    exact ⟨by simp [enM, dom], by simp [enM, dom, OO], by simp [enM, dom, OO], trivial⟩
  refine Qg6 _ (fun l => rfl) ⟨_, _, J9 C rfl (QF (List.pairwise_cons.2 ⟨fun q hq e => hoff q hq e.symm, huq⟩)) ?_ (cB _ _ _ _ QqN) rfl (cB _ _ _ _ (QfO rfl)), ?_⟩
  · simp [Qd, Qb, dom]
  rw [QlN]
  have apD : ∀ x y, QR ((3, x) :: enM b 4 va 5 vc 6 vd 10 30 (QQ (Own.row 0) 10 0 b.own)) ((3, y) :: enM b 4 (va + 1) 5 vc 6 vd 10 30 (KT (QQ (Own.row 0) 10 0 b.own) (Qdf fl) p)) = (3, y) :: enM b 4 (va + 1) 5 vc 6 vd 10 30 (KT (QQ (Own.row 0) 10 0 b.own) (Qdf fl) p) := fun x y => Qa8 (List.pairwise_cons.2 ⟨fun q hq e => hoff q hq e.symm, huq⟩) rfl
  show Qq5 _ _ _ _ _ ((3, _) :: enM b 4 (va + 1) 5 vc 6 vd 10 30 (KT (QQ (Own.row 0) 10 0 b.own) (Qdf fl) p))
  simp (maxSteps := 2000000) only [bitvec_to_nat, reduceIte, Nat.reduceEqDiff, Nat.reduceAdd, Nat.reduceLeDiff, reduceCtorEq, Nat.reduceBEq, Nat.reduceLT, Nat.reduceMod, fmc, Qf, Qh, Qe, Qu, keepB, Qi, Qw, Qv, apD]
  have cc := cB (va + 1) (b.own.length + 1) (va + 1) _ (QfO (b := b) (kO := 10) (p := p) (x := Qdf fl) rfl)
  rw [List.all_cons, Bool.and_eq_true] at cc
  have hn : ∀ q ∈ enM b 4 (va + 1) 5 vc 6 vd 10 30 (KT (QQ (Own.row 0) 10 0 b.own) (Qdf fl) p), q.1 ≠ 3 := fun q hq => by have := QkX (by omega) (by omega) hq; omega
  refine ⟨Q4 (QD hn (QF (QlO (by omega) (by omega) (by omega) (by omega) (by omega) (by omega) (by omega) (by omega) (by omega)))), ?_, ?_⟩
  · rw [Bool.and_eq_true]
    refine ⟨?_, cc.2⟩
    have := cc.1
    simpa only [Qc, Qb, dom, Bool.and_true] using this
  · rw [Bool.true_or, Bool.true_and, List.all_eq_true]
    intro o ho
    simp only [Bool.or_eq_true]
    exact .inr (.inr (by simpa using ho))
end
end Go.Ve

namespace Go.Ve
noncomputable section
open Go.Proofs
set_option maxRecDepth 100000
open Go.ChangeShapes Go.WideShapes Go.RowKit
theorem QqQ {s : Nat → Nat} {R : List (List AV)} {x : List AV} {j : Nat} : (KT R x j).map (K8 s) = KT (R.map (K8 s)) (K8 s x) j := by simp [KT, List.map_take, List.map_drop]
theorem QkY {s : Nat → Nat} {b : Book} {a va c vc d vd kO kP kO' kP' p : Nat} {x : List AV} (hx : Je x = true) (hO : ∀ j i, j < 11 → s (fam (kO + j) (0 + i)) = fam (kO' + j) (0 + i)) (hP : ∀ j i, j < 3 → s (fam (kP + j) (0 + i)) = fam (kP' + j) (0 + i)) :
    Ks s (enM b a va c vc d vd kO kP (KT (QQ (Own.row 0) kO 0 b.own) x p)) = enM b (s a) va (s c) vc (s d) vd kO' kP' (KT (QQ (Own.row 0) kO' 0 b.own) x p) := by
  have e3 : ∀ (x y : List (Nat × AObj)), Ks s (x ++ y) = Ks s x ++ Ks s y := fun x y => QaZ
  have e4 : Ks s (YH c vc kP b.parts) = YH (s c) vc kP' b.parts := Qbt QH J8 hP
  have e5 : K8 s x = x := XF s x hx
  simp only [enM, Ks, e3, e4, Qjn QJ KZ hO, renO, UL, QqQ, Qjo QJ hO, e5]
  rfl
theorem Qpc (fl : ByteArray) (b : Book) (hb : b.small) (h0 : enC b fl ≠ 0) : Contract P 73 [.ptr 108 0, .str fl] ((108, .box [.own 131 b.own.length 0 b.own.length, .own 149 b.parts.length 0 b.parts.length, .own 154 0 0 b.seen.length]) :: bkM b 131 b.own.length 149 b.parts.length 154 0 110 121) (.int .i64 (enC b fl)) ((108, .box [.own 131 b.own.length 0 b.own.length, .own 149 b.parts.length 0 b.parts.length, .own 154 0 0 b.seen.length]) :: bkM b 131 b.own.length 149 b.parts.length 154 0 110 121) := by
  have H := QqO fl b b.own.length b.parts.length 0 hb h0
  have h := ((((((H.ren (swp 3 108) (Ja _ _)).ren (swp 4 131) (Ja _ _)).ren (swp 5 149) (Ja _ _)).ren (swp 6 154) (Ja _ _)).ren (J5 10 110 11) (KB (by omega) (by omega) (by omega))).ren (J5 30 121 3) (KB (by omega) (by omega) (by omega)))
  have hs : ∀ q q' : Nat, q < 1000 → q' < 1000 → ∀ b : Book, ∀ a va c vc d vd, Ks (swp q q') (bkM b a va c vc d vd 10 30) = bkM b (swp q q' a) va (swp q q' c) vc (swp q q' d) vd 10 30 := fun q q' h1 h2 b a va c vc d vd => K0 (fun j i hj => KU h1 h2) (fun j i hj => KU h1 h2)
  have hO : ∀ b : Book, ∀ a va c vc d vd, Ks (J5 10 110 11) (bkM b a va c vc d vd 10 30) = bkM b (J5 10 110 11 a) va (J5 10 110 11 c) vc (J5 10 110 11 d) vd 110 30 := fun b a va c vc d vd => K0 (fun j i hj => YA (by omega) hj) (fun j i hj => Gd (by omega) (by omega) (by omega))
  have hP : ∀ b : Book, ∀ a va c vc d vd, Ks (J5 30 121 3) (bkM b a va c vc d vd 110 30) = bkM b (J5 30 121 3 a) va (J5 30 121 3 c) vc (J5 30 121 3 d) vd 110 121 := fun b a va c vc d vd => K0 (fun j i hj => Gd (by omega) (by omega) (by omega)) (fun j i hj => YA (by omega) hj)
  simp only [Ks, hs _ _ (show (3 : Nat) < 1000 by omega) (show (108 : Nat) < 1000 by omega), hs _ _ (show (4 : Nat) < 1000 by omega) (show (131 : Nat) < 1000 by omega), hs _ _ (show (5 : Nat) < 1000 by omega) (show (149 : Nat) < 1000 by omega), hs _ _ (show (6 : Nat) < 1000 by omega) (show (154 : Nat) < 1000 by omega), hO, hP, K8, ren, renO, swp, J5, reduceIte, Nat.reduceEqDiff, Nat.reduceLeDiff] at h
  exact h
theorem Qpd (fl : ByteArray) (b : Book) (p : Nat) (hb : b.small) (h0 : enC b fl = 0) (hs : ∀ i, 0 < i → i < b.own.length → slt (b.own.getD (i - 1) default).fl (b.own.getD i default).fl) (hp : Pos (fun i => (b.own.getD i default).fl) fl b.own.length p) :
    Contract P 73 [.ptr 108 0, .str fl] ((108, .box [.own 131 b.own.length 0 b.own.length, .own 149 b.parts.length 0 b.parts.length, .own 154 0 0 b.seen.length]) :: bkM b 131 b.own.length 149 b.parts.length 154 0 110 121) (.int .i64 0) ((108, .box [.own 131 (b.own.length + 1) 0 (b.own.length + 1), .own 149 b.parts.length 0 b.parts.length, .own 154 0 0 b.seen.length]) :: enM b 131 (b.own.length + 1) 149 b.parts.length 154 0 110 121 (KT (QQ (Own.row 0) 110 0 b.own) (Qdf fl) p)) := by
  have H := QqP fl b b.own.length b.parts.length 0 p hb h0 hs hp
  have h := ((((((H.ren (swp 3 108) (Ja _ _)).ren (swp 4 131) (Ja _ _)).ren (swp 5 149) (Ja _ _)).ren (swp 6 154) (Ja _ _)).ren (J5 10 110 11) (KB (by omega) (by omega) (by omega))).ren (J5 30 121 3) (KB (by omega) (by omega) (by omega)))
  have hs : ∀ q q' : Nat, q < 1000 → q' < 1000 → ∀ b : Book, ∀ a va c vc d vd, Ks (swp q q') (bkM b a va c vc d vd 10 30) = bkM b (swp q q' a) va (swp q q' c) vc (swp q q' d) vd 10 30 := fun q q' h1 h2 b a va c vc d vd => K0 (fun j i hj => KU h1 h2) (fun j i hj => KU h1 h2)
  have hO : ∀ b : Book, ∀ a va c vc d vd, Ks (J5 10 110 11) (bkM b a va c vc d vd 10 30) = bkM b (J5 10 110 11 a) va (J5 10 110 11 c) vc (J5 10 110 11 d) vd 110 30 := fun b a va c vc d vd => K0 (fun j i hj => YA (by omega) hj) (fun j i hj => Gd (by omega) (by omega) (by omega))
  have hP : ∀ b : Book, ∀ a va c vc d vd, Ks (J5 30 121 3) (bkM b a va c vc d vd 110 30) = bkM b (J5 30 121 3 a) va (J5 30 121 3 c) vc (J5 30 121 3 d) vd 110 121 := fun b a va c vc d vd => K0 (fun j i hj => Gd (by omega) (by omega) (by omega)) (fun j i hj => YA (by omega) hj)
  have ws : ∀ q q' : Nat, q < 1000 → q' < 1000 → ∀ a va c vc d vd, Ks (swp q q') (enM b a va c vc d vd 10 30 (KT (QQ (Own.row 0) 10 0 b.own) (Qdf fl) p)) = enM b (swp q q' a) va (swp q q' c) vc (swp q q' d) vd 10 30 (KT (QQ (Own.row 0) 10 0 b.own) (Qdf fl) p) := fun q q' h1 h2 a va c vc d vd => QkY rfl (fun j i hj => KU h1 h2) (fun j i hj => KU h1 h2)
  have wO : ∀ a va c vc d vd, Ks (J5 10 110 11) (enM b a va c vc d vd 10 30 (KT (QQ (Own.row 0) 10 0 b.own) (Qdf fl) p)) = enM b (J5 10 110 11 a) va (J5 10 110 11 c) vc (J5 10 110 11 d) vd 110 30 (KT (QQ (Own.row 0) 110 0 b.own) (Qdf fl) p) := fun a va c vc d vd => QkY rfl (fun j i hj => YA (by omega) hj) (fun j i hj => Gd (by omega) (by omega) (by omega))
  have wP : ∀ a va c vc d vd, Ks (J5 30 121 3) (enM b a va c vc d vd 110 30 (KT (QQ (Own.row 0) 110 0 b.own) (Qdf fl) p)) = enM b (J5 30 121 3 a) va (J5 30 121 3 c) vc (J5 30 121 3 d) vd 110 121 (KT (QQ (Own.row 0) 110 0 b.own) (Qdf fl) p) := fun a va c vc d vd => QkY rfl (fun j i hj => Gd (by omega) (by omega) (by omega)) (fun j i hj => YA (by omega) hj)
  simp only [Ks, hs _ _ (show (3 : Nat) < 1000 by omega) (show (108 : Nat) < 1000 by omega), hs _ _ (show (4 : Nat) < 1000 by omega) (show (131 : Nat) < 1000 by omega), hs _ _ (show (5 : Nat) < 1000 by omega) (show (149 : Nat) < 1000 by omega), hs _ _ (show (6 : Nat) < 1000 by omega) (show (154 : Nat) < 1000 by omega), ws _ _ (show (3 : Nat) < 1000 by omega) (show (108 : Nat) < 1000 by omega), ws _ _ (show (4 : Nat) < 1000 by omega) (show (131 : Nat) < 1000 by omega), ws _ _ (show (5 : Nat) < 1000 by omega) (show (149 : Nat) < 1000 by omega), ws _ _ (show (6 : Nat) < 1000 by omega) (show (154 : Nat) < 1000 by omega), hO, hP, wO, wP, K8, ren, renO, swp, J5, reduceIte, Nat.reduceEqDiff, Nat.reduceLeDiff] at h
  exact h
end
end Go.Ve

namespace Go.Ve
noncomputable section
open Go.Proofs
set_option maxRecDepth 100000
open Go.ChangeShapes Go.WideShapes
theorem QsB (zs : List Zone) (fl : ByteArray) (b : Book) (hb : b.small) (hz : zs.length ≤ 1048576) (h0 : ¬ (Q3 zs ∧ bookOk zs b)) : Contract P 30 [.sl 0 5 (zs.map Zone.row), .agg (b.row 0), .str fl] [] (.tup [.agg [.sl 98 11 [], .sl 98 3 [], .sl 98 2 []], .int .i64 1]) [] := by
  have apK : True := trivial
  have apK2 : True := trivial
  have sB1 : True := trivial
  have sB2 : True := trivial
  have sA1 : True := trivial
  have sA2 : True := trivial
  have sA3 : True := trivial
  have sA4 : True := trivial
  simp only [Book.row]
  refine Qg ((Env.nil P).add 72 KP QgI) hm Xo (nlb rfl) rfl ?_; unfold Yx; simp (maxSteps := 2000000) only [bitvec_to_nat, reduceIte, Nat.reduceEqDiff, Nat.reduceAdd, Nat.reduceLeDiff, reduceCtorEq, Nat.reduceBEq, Nat.reduceLT, Nat.reduceMod, fmc, Qf, Qh, Qe, Qu, keepB, Qi, Qw, KP, int_toBitVec_meta, method_specs_simp, bkV, Nat.sub_zero, List.append_nil, h0, decide_true, decide_false, JF, VC, apK, apK2, sA1, sA2, sA3, sA4, sB1, sB2, List.cons_append, List.nil_append]
  exact ⟨hb, by omega⟩
set_option maxHeartbeats 4000000 in
theorem QsC (zs : List Zone) (fl : ByteArray) (b : Book) (hb : b.small) (hz : zs.length ≤ 1048576) (h0 : Q3 zs ∧ bookOk zs b) (hc : enC b fl ≠ 0) : Contract P 30 [.sl 0 5 (zs.map Zone.row), .agg (b.row 0), .str fl] [] (.tup [bkV b 131 b.own.length 149 b.parts.length 154 0, .int .i64 (enC b fl)]) (bkM b 131 b.own.length 149 b.parts.length 154 0 110 121) := by
  have bkO : ∀ q, q < 1000 → q ≠ 131 → q ≠ 149 → q ≠ 154 → Qbj (bkM b 131 b.own.length 149 b.parts.length 154 0 110 121) q := fun q h1 h2 h3 h4 p hp e => by have := KH (by omega) (by omega) hp; omega
  have bkU : Zb (bkM b 131 b.own.length 149 b.parts.length 154 0 110 121) := Xk (by omega) (by omega) (by omega) (by omega) (by omega) (by omega) (by omega) (by omega) (by omega)
  have sB1 : True := trivial
  have sB2 : True := trivial
  have apK : ∀ x y : AObj, QR [(104, x), (106, y)] (bkM b 131 b.own.length 149 b.parts.length 154 0 110 121).reverse = (104, x) :: (106, y) :: bkM b 131 b.own.length 149 b.parts.length 154 0 110 121 := fun x y => by
    rw [aU (Xt (Jl (bkO _ (by omega) (by omega) (by omega) (by omega)) (Jl (bkO _ (by omega) (by omega) (by omega) (by omega)) Xs))) (Qih bkU), List.reverse_reverse]; rfl
  have sA1 : getM (bkM b 131 b.own.length 149 b.parts.length 154 0 110 121) 108 = none := Q9 (bkO _ (by omega) (by omega) (by omega) (by omega))
  have sA2 : ∀ x : AObj, JP (bkM b 131 b.own.length 149 b.parts.length 154 0 110 121) 108 x = bkM b 131 b.own.length 149 b.parts.length 154 0 110 121 ++ [(108, x)] := fun x => JH (bkO _ (by omega) (by omega) (by omega) (by omega))
  have sA3 : ∀ x : AObj, getM (bkM b 131 b.own.length 149 b.parts.length 154 0 110 121 ++ [(108, x)]) 108 = some x := fun x => by rw [Jd sA1]; rfl
  have sA4 : ∀ x y : AObj, JP (bkM b 131 b.own.length 149 b.parts.length 154 0 110 121 ++ [(108, x)]) 108 y = bkM b 131 b.own.length 149 b.parts.length 154 0 110 121 ++ [(108, y)] := fun x y => by rw [Yw sA1]; rfl
  have apK2 : ∀ x y z : AObj, QR ((104, x) :: (106, y) :: (bkM b 131 b.own.length 149 b.parts.length 154 0 110 121 ++ [(108, z)])) (bkM b 131 b.own.length 149 b.parts.length 154 0 110 121) = (104, x) :: (106, y) :: (bkM b 131 b.own.length 149 b.parts.length 154 0 110 121 ++ [(108, z)]) := fun x y z => by
    rw [JF (bkO _ (by omega) (by omega) (by omega) (by omega)), JF (bkO _ (by omega) (by omega) (by omega) (by omega)), QbQ bkU]
  have rf : (((108, .box [.own 131 b.own.length 0 b.own.length, .own 149 b.parts.length 0 b.parts.length, .own 154 0 0 b.seen.length]) :: bkM b 131 b.own.length 149 b.parts.length 154 0 110 121).all fun p => Qc (dom ((108, .box [.own 131 b.own.length 0 b.own.length, .own 149 b.parts.length 0 b.parts.length, .own 154 0 0 b.seen.length]) :: bkM b 131 b.own.length 149 b.parts.length 154 0 110 121)) p.2) = true := by
    rw [List.all_cons, Bool.and_eq_true]
    exact ⟨Qbg (b := b) fun p h => List.mem_cons_of_mem _ (Jx h), UD fun p h => List.mem_cons_of_mem _ (Jx h)⟩
  have hB := (Qh2 b hb).post_eq (post' := (bkM b 131 b.own.length 149 b.parts.length 154 0 110 121).reverse) (funext fun o => Wl bkU o)
  simp only [Book.row] at hB ⊢
  refine Qg ((Env.nil P).add 72 KP QgI) hm Xo (nlb rfl) rfl ?_; unfold Yx; simp (maxSteps := 2000000) only [bitvec_to_nat, reduceIte, Nat.reduceEqDiff, Nat.reduceAdd, Nat.reduceLeDiff, reduceCtorEq, Nat.reduceBEq, Nat.reduceLT, Nat.reduceMod, fmc, Qf, Qh, Qe, Qu, keepB, Qi, Qw, KP, int_toBitVec_meta, method_specs_simp, bkV, Nat.sub_zero, List.append_nil, h0, decide_true, decide_false, JF, VC, apK, apK2, sA1, sA2, sA3, sA4, sB1, sB2, List.cons_append, List.nil_append]
  refine ⟨⟨hb, by omega⟩, _, _, .inr (.inr (.inl ⟨_, rfl, hB, Xt (Jl (bkO _ (by omega) (by omega) (by omega) (by omega)) (Jl (bkO _ (by omega) (by omega) (by omega) (by omega)) Xs)), Qda, Qbf, by simp [bkV, No99, JI], fun p hp => QqE p (List.mem_reverse.1 hp)⟩)), ?_⟩
  simp (maxSteps := 2000000) only [bitvec_to_nat, reduceIte, Nat.reduceEqDiff, Nat.reduceAdd, Nat.reduceLeDiff, reduceCtorEq, Nat.reduceBEq, Nat.reduceLT, Nat.reduceMod, fmc, Qf, Qh, Qe, Qu, keepB, Qi, Qw, KP, int_toBitVec_meta, method_specs_simp, bkV, Nat.sub_zero, List.append_nil, h0, decide_true, decide_false, JF, VC, apK, apK2, sA1, sA2, sA3, sA4, sB1, sB2, List.cons_append, List.nil_append]
  have gk : ∀ x y : AObj, ∀ p ∈ (108, .box [.own 131 b.own.length 0 b.own.length, .own 149 b.parts.length 0 b.parts.length, .own 154 0 0 b.seen.length]) :: bkM b 131 b.own.length 149 b.parts.length 154 0 110 121, getM ((104, x) :: (106, y) :: (bkM b 131 b.own.length 149 b.parts.length 154 0 110 121 ++ [(108, .box [.own 131 b.own.length 0 b.own.length, .own 149 b.parts.length 0 b.parts.length, .own 154 0 0 b.seen.length])])) p.1 = some p.2 := fun x y p hp => by
    rcases List.mem_cons.1 hp with rfl | hp
    · simp only [getM, Nat.reduceEqDiff, if_false]; exact sA3 _
    · exact QD (bkO _ (by omega) (by omega) (by omega) (by omega)) (QD (bkO _ (by omega) (by omega) (by omega) (by omega)) (Kf bkU)) p hp
  refine ⟨_, _, J9 (Qpc fl b hb hc) rfl (gk _ _) ?_ ?_ rfl ?_, ?_⟩
  · simp [Qb, Qd, dom]
  · exact rf
  · exact rf
  simp (maxSteps := 2000000) only [bitvec_to_nat, reduceIte, Nat.reduceEqDiff, Nat.reduceAdd, Nat.reduceLeDiff, reduceCtorEq, Nat.reduceBEq, Nat.reduceLT, Nat.reduceMod, fmc, Qf, Qh, Qe, Qu, keepB, Qi, Qw, KP, int_toBitVec_meta, method_specs_simp, bkV, Nat.sub_zero, List.append_nil, h0, decide_true, decide_false, JF, VC, apK, apK2, sA1, sA2, sA3, sA4, sB1, sB2, List.cons_append, List.nil_append]
  refine ⟨Q4 (QD (bkO _ (by omega) (by omega) (by omega) (by omega)) (QD (bkO _ (by omega) (by omega) (by omega) (by omega)) (Kf bkU))), QaP, ?_, ?_⟩
  · have r := QeL (b := b) (a := 131) (va := b.own.length) (c := 149) (vc := b.parts.length) (d := 154) (vd := 0) (kO := 110) (kP := 121)
    simpa only [bkV, dom, Qd, Qb, Bool.and_true] using r
  · rw [Bool.true_or, Bool.true_or, Bool.true_and, Bool.true_and, List.all_eq_true]
    intro o ho
    obtain ⟨p, hp, rfl⟩ := List.mem_map.1 ho
    rw [Bool.or_eq_true]
    refine .inl ?_
    rw [decide_eq_true_eq]
    rcases List.mem_append.1 hp with hp | hp
    · have := KH (by omega) (by omega) hp; omega
    · rw [List.mem_singleton.1 hp]; omega
end
end Go.Ve

namespace Go.Ve
noncomputable section
open Go.Proofs
set_option maxRecDepth 100000
open Go.ChangeShapes Go.WideShapes
set_option maxHeartbeats 4000000 in
theorem Qtz (zs : List Zone) (fl : ByteArray) (b : Book) (p : Nat) (hb : b.small) (hz : zs.length ≤ 1048576) (h0 : Q3 zs ∧ bookOk zs b) (hc : enC b fl = 0) (hs : ∀ i, 0 < i → i < b.own.length → slt (b.own.getD (i - 1) default).fl (b.own.getD i default).fl) (hp : Pos (fun i => (b.own.getD i default).fl) fl b.own.length p) :
    Contract P 30 [.sl 0 5 (zs.map Zone.row), .agg (b.row 0), .str fl] [] (.tup [.agg [.own 131 (b.own.length + 1) 0 (b.own.length + 1), .own 149 b.parts.length 0 b.parts.length, .own 154 0 0 b.seen.length], .int .i64 0]) (enM b 131 (b.own.length + 1) 149 b.parts.length 154 0 110 121 (KT (QQ (Own.row 0) 110 0 b.own) (Qdf fl) p)) := by
  have bkO : ∀ q, q < 1000 → q ≠ 131 → q ≠ 149 → q ≠ 154 → Qbj (bkM b 131 b.own.length 149 b.parts.length 154 0 110 121) q := fun q h1 h2 h3 h4 p hp e => by have := KH (by omega) (by omega) hp; omega
  have bkU : Zb (bkM b 131 b.own.length 149 b.parts.length 154 0 110 121) := Xk (by omega) (by omega) (by omega) (by omega) (by omega) (by omega) (by omega) (by omega) (by omega)
  have apK : ∀ x y : AObj, QR [(104, x), (106, y)] (bkM b 131 b.own.length 149 b.parts.length 154 0 110 121).reverse = (104, x) :: (106, y) :: bkM b 131 b.own.length 149 b.parts.length 154 0 110 121 := fun x y => by
    rw [aU (Xt (Jl (bkO _ (by omega) (by omega) (by omega) (by omega)) (Jl (bkO _ (by omega) (by omega) (by omega) (by omega)) Xs))) (Qih bkU), List.reverse_reverse]; rfl
  have sA1 : getM (bkM b 131 b.own.length 149 b.parts.length 154 0 110 121) 108 = none := Q9 (bkO _ (by omega) (by omega) (by omega) (by omega))
  have sA2 : ∀ x : AObj, JP (bkM b 131 b.own.length 149 b.parts.length 154 0 110 121) 108 x = bkM b 131 b.own.length 149 b.parts.length 154 0 110 121 ++ [(108, x)] := fun x => JH (bkO _ (by omega) (by omega) (by omega) (by omega))
  have sA3 : ∀ x : AObj, getM (bkM b 131 b.own.length 149 b.parts.length 154 0 110 121 ++ [(108, x)]) 108 = some x := fun x => by rw [Jd sA1]; rfl
  have sA4 : ∀ x y : AObj, JP (bkM b 131 b.own.length 149 b.parts.length 154 0 110 121 ++ [(108, x)]) 108 y = bkM b 131 b.own.length 149 b.parts.length 154 0 110 121 ++ [(108, y)] := fun x y => by rw [Yw sA1]; rfl
  have eU : Zb (enM b 131 (b.own.length + 1) 149 b.parts.length 154 0 110 121 (KT (QQ (Own.row 0) 110 0 b.own) (Qdf fl) p)) := QlO (by omega) (by omega) (by omega) (by omega) (by omega) (by omega) (by omega) (by omega) (by omega)
  have eO : ∀ q, q < 1000 → q ≠ 131 → q ≠ 149 → q ≠ 154 → Qbj (enM b 131 (b.own.length + 1) 149 b.parts.length 154 0 110 121 (KT (QQ (Own.row 0) 110 0 b.own) (Qdf fl) p)) q := fun q h1 h2 h3 h4 r hr e => by have := QkX (by omega) (by omega) hr; omega
  have apK2 : ∀ x y z : AObj, QR ((104, x) :: (106, y) :: (bkM b 131 b.own.length 149 b.parts.length 154 0 110 121 ++ [(108, z)])) (enM b 131 (b.own.length + 1) 149 b.parts.length 154 0 110 121 (KT (QQ (Own.row 0) 110 0 b.own) (Qdf fl) p)) = (104, x) :: (106, y) :: (enM b 131 (b.own.length + 1) 149 b.parts.length 154 0 110 121 (KT (QQ (Own.row 0) 110 0 b.own) (Qdf fl) p) ++ [(108, z)]) := fun x y z => by
    rw [JF (eO _ (by omega) (by omega) (by omega) (by omega)), JF (eO _ (by omega) (by omega) (by omega) (by omega)), Qaj (V := enM b 131 (b.own.length + 1) 149 b.parts.length 154 0 110 121 (KT (QQ (Own.row 0) 110 0 b.own) (Qdf fl) p)) bkU rfl]
  have sB1 : ∀ x : AObj, getM (enM b 131 (b.own.length + 1) 149 b.parts.length 154 0 110 121 (KT (QQ (Own.row 0) 110 0 b.own) (Qdf fl) p) ++ [(108, x)]) 108 = some x := fun x => by rw [Jd (Q9 (eO _ (by omega) (by omega) (by omega) (by omega)))]; rfl
  have sB2 : ∀ x y : AObj, JP (enM b 131 (b.own.length + 1) 149 b.parts.length 154 0 110 121 (KT (QQ (Own.row 0) 110 0 b.own) (Qdf fl) p) ++ [(108, x)]) 108 y = enM b 131 (b.own.length + 1) 149 b.parts.length 154 0 110 121 (KT (QQ (Own.row 0) 110 0 b.own) (Qdf fl) p) ++ [(108, y)] := fun x y => by rw [Yw (Q9 (eO _ (by omega) (by omega) (by omega) (by omega)))]; rfl
  have rf : (((108, .box [.own 131 b.own.length 0 b.own.length, .own 149 b.parts.length 0 b.parts.length, .own 154 0 0 b.seen.length]) :: bkM b 131 b.own.length 149 b.parts.length 154 0 110 121).all fun p => Qc (dom ((108, .box [.own 131 b.own.length 0 b.own.length, .own 149 b.parts.length 0 b.parts.length, .own 154 0 0 b.seen.length]) :: bkM b 131 b.own.length 149 b.parts.length 154 0 110 121)) p.2) = true := by
    rw [List.all_cons, Bool.and_eq_true]
    exact ⟨Qbg (b := b) fun p h => List.mem_cons_of_mem _ (Jx h), UD fun p h => List.mem_cons_of_mem _ (Jx h)⟩
  have re : (((108, .box [.own 131 (b.own.length + 1) 0 (b.own.length + 1), .own 149 b.parts.length 0 b.parts.length, .own 154 0 0 b.seen.length]) :: enM b 131 (b.own.length + 1) 149 b.parts.length 154 0 110 121 (KT (QQ (Own.row 0) 110 0 b.own) (Qdf fl) p)).all fun q => Qc (dom ((108, .box [.own 131 (b.own.length + 1) 0 (b.own.length + 1), .own 149 b.parts.length 0 b.parts.length, .own 154 0 0 b.seen.length]) :: enM b 131 (b.own.length + 1) 149 b.parts.length 154 0 110 121 (KT (QQ (Own.row 0) 110 0 b.own) (Qdf fl) p))) q.2) = true := by
    rw [List.all_cons, Bool.and_eq_true]
    refine ⟨?_, Qg7 (fun q hq => List.mem_cons_of_mem _ (Jx hq)) (QfO rfl)⟩
    simp only [Qc, Qb, Qd, Bool.and_eq_true, List.contains_iff_mem]
    exact ⟨by simp [enM, dom], by simp [enM, dom, OO], by simp [enM, dom, OO], trivial⟩
  have hB := (Qh2 b hb).post_eq (post' := (bkM b 131 b.own.length 149 b.parts.length 154 0 110 121).reverse) (funext fun o => Wl bkU o)
  simp only [Book.row] at hB ⊢
  refine Qg ((Env.nil P).add 72 KP QgI) hm Xo (nlb rfl) rfl ?_; unfold Yx; simp (maxSteps := 2000000) only [bitvec_to_nat, reduceIte, Nat.reduceEqDiff, Nat.reduceAdd, Nat.reduceLeDiff, reduceCtorEq, Nat.reduceBEq, Nat.reduceLT, Nat.reduceMod, fmc, Qf, Qh, Qe, Qu, keepB, Qi, Qw, KP, int_toBitVec_meta, method_specs_simp, bkV, Nat.sub_zero, List.append_nil, h0, decide_true, decide_false, JF, VC, apK, apK2, sA1, sA2, sA3, sA4, sB1, sB2, List.cons_append, List.nil_append]
  refine ⟨⟨hb, by omega⟩, _, _, .inr (.inr (.inl ⟨_, rfl, hB, Xt (Jl (bkO _ (by omega) (by omega) (by omega) (by omega)) (Jl (bkO _ (by omega) (by omega) (by omega) (by omega)) Xs)), Qda, Qbf, by simp [bkV, No99, JI], fun p hp => QqE p (List.mem_reverse.1 hp)⟩)), ?_⟩
  simp (maxSteps := 2000000) only [bitvec_to_nat, reduceIte, Nat.reduceEqDiff, Nat.reduceAdd, Nat.reduceLeDiff, reduceCtorEq, Nat.reduceBEq, Nat.reduceLT, Nat.reduceMod, fmc, Qf, Qh, Qe, Qu, keepB, Qi, Qw, KP, int_toBitVec_meta, method_specs_simp, bkV, Nat.sub_zero, List.append_nil, h0, decide_true, decide_false, JF, VC, apK, apK2, sA1, sA2, sA3, sA4, sB1, sB2, List.cons_append, List.nil_append]
  have gk : ∀ x y : AObj, ∀ p ∈ (108, .box [.own 131 b.own.length 0 b.own.length, .own 149 b.parts.length 0 b.parts.length, .own 154 0 0 b.seen.length]) :: bkM b 131 b.own.length 149 b.parts.length 154 0 110 121, getM ((104, x) :: (106, y) :: (bkM b 131 b.own.length 149 b.parts.length 154 0 110 121 ++ [(108, .box [.own 131 b.own.length 0 b.own.length, .own 149 b.parts.length 0 b.parts.length, .own 154 0 0 b.seen.length])])) p.1 = some p.2 := fun x y p hp => by
    rcases List.mem_cons.1 hp with rfl | hp
    · simp only [getM, Nat.reduceEqDiff, if_false]; exact sA3 _
    · exact QD (bkO _ (by omega) (by omega) (by omega) (by omega)) (QD (bkO _ (by omega) (by omega) (by omega) (by omega)) (Kf bkU)) p hp
  refine ⟨_, _, J9 (Qpd fl b p hb hc hs hp) rfl (gk _ _) ?_ rf rfl re, ?_⟩
  · simp [Qb, Qd, dom]
  simp (maxSteps := 2000000) only [bitvec_to_nat, reduceIte, Nat.reduceEqDiff, Nat.reduceAdd, Nat.reduceLeDiff, reduceCtorEq, Nat.reduceBEq, Nat.reduceLT, Nat.reduceMod, fmc, Qf, Qh, Qe, Qu, keepB, Qi, Qw, KP, int_toBitVec_meta, method_specs_simp, bkV, Nat.sub_zero, List.append_nil, h0, decide_true, decide_false, JF, VC, apK, apK2, sA1, sA2, sA3, sA4, sB1, sB2, List.cons_append, List.nil_append]
  refine ⟨Q4 (QD (eO _ (by omega) (by omega) (by omega) (by omega)) (QD (eO _ (by omega) (by omega) (by omega) (by omega)) (Kf eU))), Qg7 (fun q hq => Jx hq) (QfO rfl), ?_, ?_⟩
  · simp only [Qd, Bool.and_eq_true, List.contains_iff_mem]
    exact ⟨by simp [enM], by simp [enM, OO], by simp [enM, OO]⟩
  · rw [Bool.true_or, Bool.true_or, Bool.true_and, Bool.true_and, List.all_eq_true]
    intro o ho
    obtain ⟨q, hq, rfl⟩ := List.mem_map.1 ho
    rw [Bool.or_eq_true]
    refine .inl ?_
    rw [decide_eq_true_eq]
    rcases List.mem_append.1 hq with hq | hq
    · have := QkX (by omega) (by omega) hq; omega
    · rw [List.mem_singleton.1 hq]; omega
end
end Go.Ve

namespace Go.Ve
noncomputable section
open Go.Proofs
set_option maxRecDepth 100000
open Go.ChangeShapes Go.WideShapes Go.RowKit
mutual
theorem QqR {s t : Nat → Nat} : ∀ x : AV, ren s (ren t x) = ren (fun o => s (t o)) x
  | .agg ls => by simp only [ren, Z5 ls]
  | .tup ls => by simp only [ren, Z5 ls]
  | .fn _ a b => by simp only [ren, Z5 a, Z5 b]
  | .own .. => rfl
  | .ptr .. => rfl
  | .elt .. => rfl
  | .junk => rfl
  | .int .. => rfl
  | .bool .. => rfl
  | .str .. => rfl
  | .sl .. => rfl
  | .pp .. => rfl
theorem Z5 {s t : Nat → Nat} : ∀ x : List AV, K8 s (K8 t x) = K8 (fun o => s (t o)) x
  | [] => rfl
  | x :: xs => by simp only [K8, QqR x, Z5 xs]
end
theorem Qpe {s t : Nat → Nat} (x : AObj) : renO s (renO t x) = renO (fun o => s (t o)) x := by
  cases x <;> simp only [renO, Z5]
  split <;> simp [Z5]
theorem Qpf {s t : Nat → Nat} (l : List (Nat × AObj)) : Ks s (Ks t l) = Ks (fun o => s (t o)) l := by
  simp only [Qcm, List.map_map]
  exact List.map_congr_left fun p hp => by simp only [Function.comp_apply, Qpe]
/-- Some rows of a span of families the other way round. -/
def rvF (a w p q o : Nat) : Nat := if 1000 ≤ o ∧ a ≤ o % 1000 ∧ o % 1000 < a + w ∧ p ≤ o / 1000 - 1 ∧ o / 1000 - 1 < q then o % 1000 + 1000 * (p + q - 1 - (o / 1000 - 1) + 1) else o
theorem Qpg {a w p q : Nat} (o : Nat) : rvF a w p q (rvF a w p q o) = o := by
  by_cases h : 1000 ≤ o ∧ a ≤ o % 1000 ∧ o % 1000 < a + w ∧ p ≤ o / 1000 - 1 ∧ o / 1000 - 1 < q
  · have e : rvF a w p q o = o % 1000 + 1000 * (p + q - 1 - (o / 1000 - 1) + 1) := by unfold rvF; rw [if_pos h]
    rw [e]; unfold rvF
    rw [if_pos (by omega)]; omega
  · have e : rvF a w p q o = o := by unfold rvF; rw [if_neg h]
    rw [e, e]
theorem QjQ {a w p q o : Nat} (h : o < 1000) : rvF a w p q o = o := by unfold rvF; rw [if_neg (by omega)]
theorem Qph {a w p q k i : Nat} (hk : k < 1000) (h : k < a ∨ a + w ≤ k) : rvF a w p q (fam k i) = fam k i := by unfold rvF fam; rw [if_neg (by omega)]
theorem Qrw {a w p q k i : Nat} (hk : k < 1000) (h : i < p) : rvF a w p q (fam k i) = fam k i := by unfold rvF fam; rw [if_neg (by omega)]
theorem Qrx {a w p q j i : Nat} (ha : a + w ≤ 1000) (hj : j < w) (h : p ≤ i) (hq : i < q) : rvF a w p q (fam (a + j) i) = fam (a + j) (p + q - 1 - i) := by
  unfold rvF fam; rw [if_pos (by omega)]; omega
/-- The rows from p on go one Qe5 up. -/
def upF (a w p n o : Nat) : Nat := rvF a w p (n + 1) (rvF a w p n o)
theorem Qpi {a w p n o : Nat} (h : o < 1000) : upF a w p n o = o := by unfold upF; rw [QjQ h, QjQ h]
theorem QsD {a w p n k i : Nat} (hk : k < 1000) (h : k < a ∨ a + w ≤ k) : upF a w p n (fam k i) = fam k i := by unfold upF; rw [Qph hk h, Qph hk h]
theorem QtA {a w p n k i : Nat} (hk : k < 1000) (h : i < p) : upF a w p n (fam k i) = fam k i := by unfold upF; rw [Qrw hk h, Qrw hk h]
theorem QtB {a w p n j i : Nat} (ha : a + w ≤ 1000) (hj : j < w) (h : p + i < n) : upF a w p n (fam (a + j) (p + i)) = fam (a + j) (p + 1 + i) := by
  unfold upF; rw [Qrx ha hj (by omega) h, Qrx ha hj (by omega) (by omega)]; congr 1; omega
def QqS (l : List Own) (x : Own) (p : Nat) : List Own := l.take p ++ x :: l.drop p
theorem Qpj {A B : List (Nat × AObj)} (h : A.Perm B) (u : Zb B) (q : Nat) : getM A q = getM B q := by
  have hA : Zb A := (h.pairwise_iff (fun {x y} hxy => Ne.symm hxy)).2 u
  cases e : getM A q with
  | some x => exact (QF u (q, x) (h.mem_iff.1 (Ku e))).symm
  | none =>
    cases e2 : getM B q with
    | none => rfl
    | some x =>
      have := QF hA (q, x) (h.mem_iff.2 (Ku e2))
      simp only at this
      rw [e] at this; cases this
theorem QqT {l : List Own} {x : List AV} {k p : Nat} (hp : p ≤ l.length) : KT (QQ (Own.row 0) k 0 l) x p = QQ (Own.row 0) k 0 (l.take p) ++ x :: QQ (Own.row 0) k p (l.drop p) := by
  have e : QQ (Own.row 0) k 0 l = QQ (Own.row 0) k 0 (l.take p) ++ QQ (Own.row 0) k p (l.drop p) := by
    have := Qjp (f := Own.row 0) (k := k) (i0 := 0) (a := l.take p) (b := l.drop p)
    rw [List.take_append_drop, List.length_take, Nat.min_eq_left hp, Nat.zero_add] at this
    exact this
  have hl : (QQ (Own.row 0) k 0 (l.take p)).length = p := by rw [Q7, List.length_take]; omega
  unfold KT
  rw [e, List.take_left' hl, List.drop_left' hl]
theorem QqU {l : List Own} {k p : Nat} (hp : p ≤ l.length) : QA QW (Own.row 0) k 0 l = QA QW (Own.row 0) k 0 (l.take p) ++ QA QW (Own.row 0) k p (l.drop p) := by
  have := Qjq (es := QW) (f := Own.row 0) (k := k) (i0 := 0) (a := l.take p) (b := l.drop p)
  rw [List.take_append_drop, List.length_take, Nat.min_eq_left hp, Nat.zero_add] at this
  exact this
theorem QtC {b : Book} {x : List AV} {va vc vd p : Nat} (hx : Je x = true) (hp : p ≤ b.own.length) :
    Ks (upF 110 11 p b.own.length) (enM b 131 va 149 vc 154 vd 110 121 (KT (QQ (Own.row 0) 110 0 b.own) x p)) =
      (131, .arr (1000000 + 71) va 11 (QQ (Own.row 0) 110 0 (b.own.take p) ++ x :: QQ (Own.row 0) 110 (p + 1) (b.own.drop p))) :: ((QA QW (Own.row 0) 110 0 (b.own.take p) ++ QA QW (Own.row 0) 110 (p + 1) (b.own.drop p)) ++ (YH 149 vc 121 b.parts ++ UL 154 vd b.seen)) := by
  have h1 : ∀ j i, j < 11 → i < (b.own.take p).length → upF 110 11 p b.own.length (fam (110 + j) (0 + i)) = fam (110 + j) (0 + i) := fun j i hj hi => QtA (by omega) (by rw [List.length_take] at hi; omega)
  have h2 : ∀ j i, j < 11 → i < (b.own.drop p).length → upF 110 11 p b.own.length (fam (110 + j) (p + i)) = fam (110 + j) (p + 1 + i) := fun j i hj hi => QtB (by omega) hj (by rw [List.length_drop] at hi; omega)
  have e3 : ∀ (x y : List (Nat × AObj)), Ks (upF 110 11 p b.own.length) (x ++ y) = Ks (upF 110 11 p b.own.length) x ++ Ks (upF 110 11 p b.own.length) y := fun x y => QaZ
  have e4 : Ks (upF 110 11 p b.own.length) (YH 149 vc 121 b.parts) = YH 149 vc 121 b.parts := by
    have := Qbt (s := upF 110 11 p b.own.length) (o := 149) (e := 124) (v := vc) (sz := 3) (k := 121) (k' := 121) (i0 := 0) (i1 := 0) (a := b.parts) QH J8 fun j i hj => QsD (by omega) (by omega)
    rw [Qpi (by omega)] at this
    exact this
  rw [QqT hp, enM, QqU hp]
  simp only [Ks, e3, e4, QhP QJ KZ h1, QhP QJ KZ h2, renO, UL, Qpi (show 131 < 1000 by omega), Qpi (show 154 < 1000 by omega), List.map_append, List.map_cons, XF _ x hx, Qd8 QJ h1, Qd8 QJ h2]
  rfl
end
end Go.Ve

namespace Go.Ve
noncomputable section
open Go.Proofs
set_option maxRecDepth 100000
open Go.ChangeShapes Go.WideShapes Go.RowKit
def enP (b : Book) (fl : ByteArray) : Nat := b.own.findIdx fun o => !decide (slt o.fl fl)
def enB (b : Book) (fl : ByteArray) : Book := { b with own := QqS b.own (QsA fl) (enP b fl) }
theorem QjR {b : Book} {fl : ByteArray} : enP b fl ≤ b.own.length := List.findIdx_le_length
theorem Qpk {b : Book} {fl : ByteArray} : (enB b fl).own.length = b.own.length + 1 := by
  have := QjR (b := b) (fl := fl)
  simp [enB, QqS]; omega
theorem Qh4 {zs : List Zone} {b : Book} (h : bookOk zs b) : ∀ i, 0 < i → i < b.own.length → slt (b.own.getD (i - 1) default).fl (b.own.getD i default).fl := fun i h0 hi => (h.1.2 i hi).2 h0
theorem QqV {l : List Own} (h : ∀ i, 0 < i → i < l.length → slt (l.getD (i - 1) default).fl (l.getD i default).fl) : ∀ j i, j < i → i < l.length → slt (l.getD j default).fl (l.getD i default).fl := by
  intro j i
  induction i with
  | zero => intro h1; omega
  | succ i ih =>
    intro h1 h2
    have q := h (i + 1) (by omega) h2
    rw [Nat.add_sub_cancel] at q
    rcases Nat.lt_or_ge j i with q1 | q1
    · exact Qcd (ih q1 (by omega)) q
    · rw [show j = i from by omega]; exact q
theorem QsE {zs : List Zone} {b : Book} {fl : ByteArray} (h : bookOk zs b) (hf : oAt b.own fl < 0) : Pos (fun i => (b.own.getD i default).fl) fl b.own.length (enP b fl) := by
  have hne : ∀ i, i < b.own.length → (b.own.getD i default).fl ≠ fl := fun i hi e => by
    rcases Qjc (fun z : Own => decide (z.fl = fl)) b.own with ⟨_, q⟩ | ⟨j, e1, _⟩
    · have := q i hi; simp only [decide_eq_false_iff_not] at this; exact this e
    · unfold oAt at hf; rw [e1] at hf; omega
  have hm := QqV (Qh4 h)
  refine ⟨QjR, fun q h1 h2 => ?_, fun h0 => ?_⟩
  · have hp : enP b fl < b.own.length := by omega
    have e := List.findIdx_getElem (p := fun o : Own => !decide (slt o.fl fl)) (xs := b.own) (w := hp)
    simp only [Bool.not_eq_true', decide_eq_false_iff_not] at e
    have e' : ¬ slt (b.own.getD (enP b fl) default).fl fl := by rw [List.getD_eq_getElem?_getD, List.getElem?_eq_getElem hp]; exact e
    have k : slt fl (b.own.getD (enP b fl) default).fl := by
      rcases Qgd (b.own.getD (enP b fl) default).fl fl with q | q | q
      · exact absurd q e'
      · exact absurd q (hne _ hp)
      · exact q
    rcases Nat.lt_or_ge (enP b fl) q with q1 | q1
    · exact Qcd k (hm _ _ q1 h2)
    · rw [show q = enP b fl from by omega]; exact k
  · have hp : enP b fl - 1 < b.own.length := by have := QjR (b := b) (fl := fl); omega
    have e := List.not_of_lt_findIdx (p := fun o : Own => !decide (slt o.fl fl)) (xs := b.own) (i := enP b fl - 1) (show enP b fl - 1 < enP b fl by omega)
    simp only [Bool.not_eq_false', decide_eq_true_eq] at e
    have e' : slt (b.own.getD (enP b fl - 1) default).fl fl := by rw [List.getD_eq_getElem?_getD, List.getElem?_eq_getElem hp]; exact e
    exact Qac e'
theorem QsF {fl : ByteArray} {k p : Nat} : QhM QW k p 0 (Own.row 0 (QsA fl)) = [(fam (k + 6) p, .arr 100 0 6 []), (fam (k + 8) p, .arr 100 0 6 []), (fam (k + 9) p, .arr 9 0 1 [])] := rfl
theorem QsG {fl : ByteArray} {k p : Nat} : Qck k p 0 (Own.row 0 (QsA fl)) = [.str fl, .int .i64 1, .int .i64 1, .str ⟨#[]⟩, .int .i64 0, .int .i64 0, .own (fam (k + 6) p) 0 0 0, .int .i64 0, .own (fam (k + 8) p) 0 0 0, .own (fam (k + 9) p) 0 0 0, .bool false] := rfl
theorem QkZ {k i : Nat} {x : Own} {l : List Own} : QQ (Own.row 0) k i (x :: l) = Qck k i 0 (Own.row 0 x) :: QQ (Own.row 0) k (i + 1) l := by
  simp only [QQ, List.mapIdx_cons, Nat.add_zero]
  congr 1
  exact List.ext_getElem (by simp) fun j h1 h2 => by simp [show i + (j + 1) = i + 1 + j from by omega]
theorem Qk0 {k i : Nat} {x : Own} {l : List Own} : QA QW (Own.row 0) k i (x :: l) = QhM QW k i 0 (Own.row 0 x) ++ QA QW (Own.row 0) k (i + 1) l := by
  simp only [QA, List.mapIdx_cons, Nat.add_zero, List.flatten_cons]
  congr 2
  exact List.ext_getElem (by simp) fun j h1 h2 => by simp [show i + (j + 1) = i + 1 + j from by omega]
theorem QiH {f : FuncId} {args : List AV} {r : AV} {e e' v s c o' : Nat} {A B : List (List AV)} {x : List AV} {T : List (Nat × AObj)} (H : Contract P f args [] r ((131, .arr (1000000 + e) v 11 (A ++ x :: B)) :: T)) (hx : x[c]? = some (.sl 98 s [])) (hn : o' ≠ 131) (hT : getM T o' = none) :
    Contract P f args [] r ((131, .arr (1000000 + e) v 11 (A ++ x.set c (.own o' 0 0 0) :: B)) :: (T ++ [(o', .arr e' 0 s [])])) := by
  have g : (A ++ x :: B).getD A.length [] = x := by rw [List.getD_eq_getElem?_getD, List.getElem?_append_right (Nat.le_refl _), Nat.sub_self]; rfl
  have K := H.own_nil (o := 131) (o' := o') (e := 1000000 + e) (v := v) (sz := 11) (rows := A ++ x :: B) (e' := e') (i := A.length) (c := c) (s := s) rfl (by simp only [getM, if_true]) (by omega) (by simp) (by rw [g]; exact hx) (by simp only [getM]; rw [if_neg hn]; exact hT)
  rw [g] at K
  have e1 : JP (JP ((131, AObj.arr (1000000 + e) v 11 (A ++ x :: B)) :: T) o' (.arr e' 0 s [])) 131 (.arr (1000000 + e) v 11 ((A ++ x :: B).set A.length (x.set c (.own o' 0 0 0)))) = (131, .arr (1000000 + e) v 11 (A ++ x.set c (.own o' 0 0 0) :: B)) :: (T ++ [(o', .arr e' 0 s [])]) := by
    have h1 : (A ++ x :: B).set A.length (x.set c (.own o' 0 0 0)) = A ++ x.set c (.own o' 0 0 0) :: B := by rw [List.set_append_right _ _ (Nat.le_refl _), Nat.sub_self]; rfl
    rw [h1]
    simp only [JP, if_neg hn, Xr hT]
    simp [JP]
  rw [e1] at K
  exact K
set_option maxHeartbeats 1000000 in
theorem QsH (zs : List Zone) (fl : ByteArray) (b : Book) (hb : b.small) (hz : zs.length ≤ 1048576) (h0 : Q3 zs ∧ bookOk zs b) (hc : enC b fl = 0) :
    Contract P 30 [.sl 0 5 (zs.map Zone.row), .agg (b.row 0), .str fl] [] (.tup [bkV (enB b fl) 131 (b.own.length + 1) 149 b.parts.length 154 0, .int .i64 0]) (bkM (enB b fl) 131 (b.own.length + 1) 149 b.parts.length 154 0 110 121) := by
  have hp := QjR (b := b) (fl := fl)
  have H := ((Qtz zs fl b (enP b fl) hb hz h0 hc (Qh4 h0.2) (QsE h0.2 (Qt7 hc).2.1)).ren (rvF 110 11 (enP b fl) b.own.length) Qpg).ren (rvF 110 11 (enP b fl) (b.own.length + 1)) Qpg
  simp only [Qpf] at H
  have eu := QtC (b := b) (x := Qdf fl) (va := b.own.length + 1) (vc := b.parts.length) (vd := 0) rfl hp
  unfold upF at eu
  rw [eu, XF _ _ (show Je [.sl 0 5 (zs.map Zone.row), .agg (b.row 0), .str fl] = true from rfl), XF _ _ (show Je [.sl 0 5 (zs.map Zone.row), .agg (b.row 0), .str fl] = true from rfl)] at H
  simp only [ren, K8, QjQ (show 131 < 1000 by omega), QjQ (show 149 < 1000 by omega), QjQ (show 154 < 1000 by omega), Ks] at H
  clear eu
  have eV : bkV (enB b fl) 131 (b.own.length + 1) 149 b.parts.length 154 0 = .agg [.own 131 (b.own.length + 1) 0 (b.own.length + 1), .own 149 b.parts.length 0 b.parts.length, .own 154 0 0 b.seen.length] := by
    simp only [bkV, Qpk]; rfl
  rw [eV]
  have eB : bkM (enB b fl) 131 (b.own.length + 1) 149 b.parts.length 154 0 110 121 = (131, .arr (1000000 + 71) (b.own.length + 1) 11 (QQ (Own.row 0) 110 0 (b.own.take (enP b fl)) ++ Qck 110 (enP b fl) 0 (Own.row 0 (QsA fl)) :: QQ (Own.row 0) 110 (enP b fl + 1) (b.own.drop (enP b fl)))) ::
      ((QA QW (Own.row 0) 110 0 (b.own.take (enP b fl)) ++ (QhM QW 110 (enP b fl) 0 (Own.row 0 (QsA fl)) ++ QA QW (Own.row 0) 110 (enP b fl + 1) (b.own.drop (enP b fl)))) ++ (YH 149 b.parts.length 121 b.parts ++ UL 154 0 b.seen)) := by
    have hl : (b.own.take (enP b fl)).length = enP b fl := by rw [List.length_take]; omega
    show Qha 131 (b.own.length + 1) 110 (QqS b.own (QsA fl) (enP b fl)) ++ _ = _
    simp only [Qha, OO, QqS, Qjp, Qjq, QkZ, Qk0, hl, Nat.zero_add, List.cons_append]
    rfl
  have uB : Zb (bkM (enB b fl) 131 (b.own.length + 1) 149 b.parts.length 154 0 110 121) := Xk (by omega) (by omega) (by omega) (by omega) (by omega) (by omega) (by omega) (by omega) (by omega)
  rw [eB] at uB ⊢
  rw [QsF, QsG] at uB ⊢
  have lA : (QQ (Own.row 0) 110 0 (b.own.take (enP b fl))).length = enP b fl := by rw [Q7, List.length_take]; omega
  generalize QQ (Own.row 0) 110 0 (b.own.take (enP b fl)) = A at H uB lA ⊢
  generalize QQ (Own.row 0) 110 (enP b fl + 1) (b.own.drop (enP b fl)) = B at H uB ⊢
  generalize QA QW (Own.row 0) 110 0 (b.own.take (enP b fl)) = OA at H uB ⊢
  generalize QA QW (Own.row 0) 110 (enP b fl + 1) (b.own.drop (enP b fl)) = OB at H uB ⊢
  generalize (YH 149 b.parts.length 121 b.parts ++ UL 154 0 b.seen) = Rs at H uB ⊢
  generalize enP b fl = p at H uB lA hp ⊢
  have ux := (List.pairwise_cons.1 uB).2
  have u1 := List.pairwise_append.1 ux
  have u2 := List.pairwise_append.1 u1.1
  have u3 := List.pairwise_append.1 u2.2.1
  have nn : ∀ j y, (j = 6 ∨ j = 8 ∨ j = 9) → (fam (110 + j) p, y) ∈ [(fam (110 + 6) p, AObj.arr 100 0 6 []), (fam (110 + 8) p, AObj.arr 100 0 6 []), (fam (110 + 9) p, AObj.arr 9 0 1 [])] → getM (OA ++ OB ++ Rs) (fam (110 + j) p) = none := fun j y hj hy => Q9 fun q hq e => by
    rcases List.mem_append.1 hq with hq | hq
    · rcases List.mem_append.1 hq with hq | hq
      · exact u2.2.2 q hq _ (List.mem_append_left _ hy) e
      · exact u3.2.2 _ hy q hq e.symm
    · exact u1.2.2 _ (List.mem_append_right _ (List.mem_append_left _ hy)) q hq e.symm
  have n6 := nn 6 (.arr 100 0 6 []) (.inl rfl) (by simp)
  have n8 := nn 8 (.arr 100 0 6 []) (.inr (.inl rfl)) (by simp)
  have n9 := nn 9 (.arr 9 0 1 []) (.inr (.inr rfl)) (by simp)
  have H1 := QiH (c := 6) (s := 6) (o' := fam (110 + 6) p) (e' := 100) H rfl (by unfold fam; omega) n6
  have H2 := QiH (c := 8) (s := 6) (o' := fam (110 + 8) p) (e' := 100) H1 rfl (by unfold fam; omega) (by rw [Jd n8]; simp only [getM]; rw [if_neg (by unfold fam; omega)])
  have H3 := QiH (c := 9) (s := 1) (o' := fam (110 + 9) p) (e' := 9) H2 rfl (by unfold fam; omega) (by rw [List.append_assoc _ [_] [_], Jd n9]; simp only [getM, List.cons_append, List.nil_append]; rw [if_neg (by unfold fam; omega), if_neg (by unfold fam; omega)])
  refine H3.post_eq (funext fun q => ?_)
  refine (Qpj ?_ uB q).symm
  refine List.Perm.cons _ ?_
  simp only [List.append_assoc, List.cons_append, List.nil_append]
  refine List.Perm.append_left OA ?_
  rw [← List.append_assoc OB]
  exact (List.perm_append_comm (l₁ := OB ++ Rs) (l₂ := [(fam (110 + 6) p, AObj.arr 100 0 6 []), (fam (110 + 8) p, AObj.arr 100 0 6 []), (fam (110 + 9) p, AObj.arr 9 0 1 [])]))
end
end Go.Ve

namespace Go.Ve
open Go.Proofs
set_option maxRecDepth 100000
def Z6 : SCode := (.seq (.seq (.rgd [jm 6 5 [],jf 7 0 2 [],jl 8 7 [],jn 9 (.lenL (.v 8)) [],jb 10 .lss 6 9 [],jm 11 10 [],jt 12 11 (.faddr 0 (.v 2)) [],jt 13 11 (.load1 (.v 12)) [],jt 14 11 (.mv (.v 5)) [],jt 15 11 (.iaddr 11 (.v 13) (.v 14)) [],jt 16 11 (.faddr 0 (.v 15)) [],jt 17 11 (.load1 (.v 16)) [],jt 18 11 (.faddr 0 (.v 3)) [],jt 19 11 (.load1 (.v 18)) [],jt 20 11 (.bin .lss (.v 17) (.v 19)) [],jn 21 (.pick (.v 11) (.v 20) (.c (.bool false))) []] [2,3,4,5,21] [none,none,none,none,none,none,none,none,none,none,none,none,none,none,none,none]) (.cond (.v 21) .skip (.exit 0))) (.block 1 (.rg [jm 22 5 [5],jn 23 (.binN .add (.v 22) (ci 1)) [22],jm 5 23 [23]] [2,3,4,5])))
/-- spec.l33PutOwn: function 71 -/
def Wg : SFun := { n := 40,res := [.cN 4 3],body := (jq [jn 2 (.box 102 (.v 0)) [0],jn 3 (.box 103 (.v 1)) [1],jn 4 (.alloc 104 [.sl 0 11 [],.sl 0 3 [],.sl 0 2 []]) []] [2,3,4] (jq [jI 5 0 []] [2,3,4,5] (.seq (.block 0 (.loop Z6)) (.seq (.rgd [jn 24 (.litOwn 124 71 11 []) [],jf 25 0 2 [],jl 26 25 [],jm 27 5 [],jn 28 (.slSl 11 (.v 26) none (some (.v 27))) [],jn 29 (.app 124 71 11 (.v 24) (.v 28)) [],jL 30 11 3 [],jn 31 (.lit 71 11 [.v 30]) [],jn 32 (.app 124 71 11 (.v 29) (.v 31)) [],jf 33 0 2 [],jl 34 33 [],jm 35 5 [],jn 36 (.slSl 11 (.v 34) (some (.v 35)) none) [],jn 37 (.app 124 71 11 (.v 32) (.v 36)) [],jf 38 0 2 [],⟨none,.store 1 (.v 38) (.v 37),none,[]⟩] [2,4] [some [],some [0],some [1],none,some [3],some [],some [5,0],none,some [],some [8,3,0],some [9,4,1],none,some [11,6,3],none,none,none]) (jq [jL 39 3 2 [2],⟨none,.store 3 (.v 4) (.v 39),none,[39]⟩] [4] (.gh (.frzB 104 0) .ret)))))) }
theorem QeQ : QS Go.Proofs.Tryz.prog 71 Wg = true := by kernel_rfl
end Go.Ve

namespace Go.Ve
noncomputable section
open Go.Proofs
set_option maxRecDepth 100000
open Go.ChangeShapes Go.WideShapes
def QfP : List AV → Option (Prop × AV)
  | [.agg [.sl 0 11 b_own, .sl 0 3 b_parts, .sl 0 2 b_seen]] => some ((((b_own.map Jm).map (Own.row 0) = b_own) ∧ ((b_parts.map QX).map (Part.row 0) = b_parts) ∧ ((b_seen.map QZ).map Seen.row = b_seen)) ∧ (Book.small (Book.mk (b_own.map Jm) (b_parts.map QX) (b_seen.map QZ))), .agg (Book.row 0 (Book.mk (b_own.map Jm) (b_parts.map QX) (b_seen.map QZ))))
  | _ => none
theorem QqW : ∀ args p v, QfP args = some (p, v) → p → Contract P 57 args [] v [] ∧ noref v = true ∧ No99 v := by
  intro args p v h1 h2
  unfold QfP at h1
  split at h1
  · rename_i b_own b_parts b_seen
    cases h1
    obtain ⟨⟨e0, e1, e2⟩, HP⟩ := h2
    have := QqL (Book.mk (b_own.map Jm) (b_parts.map QX) (b_seen.map QZ)) HP
    exact ⟨by simpa only [e0, e1, e2, Book.row] using this, rfl, by simp [No99, JI, Book.row, Kv, JT, JJ, -List.map_map]⟩
  · cases h1
def Qt8 (b : Book) (o : Own) : Book := { b with own := QqS b.own o (enP b o.fl) }
theorem QtD {b : Book} {fl : ByteArray} {i : Nat} (hi : i ≤ b.own.length) (h1 : ∀ j, j < i → slt (b.own.getD j default).fl fl) (h2 : i < b.own.length → ¬ slt (b.own.getD i default).fl fl) : enP b fl = i := by
  have hp := QjR (b := b) (fl := fl)
  rcases Nat.lt_trichotomy (enP b fl) i with h | h | h
  · have hw : enP b fl < b.own.length := by omega
    have e := List.findIdx_getElem (p := fun o : Own => !decide (slt o.fl fl)) (xs := b.own) (w := hw)
    simp only [Bool.not_eq_true', decide_eq_false_iff_not] at e
    have := h1 _ h
    rw [List.getD_eq_getElem?_getD, List.getElem?_eq_getElem hw] at this
    exact absurd this e
  · exact h
  · have hw : i < b.own.length := by omega
    have e := List.not_of_lt_findIdx (p := fun o : Own => !decide (slt o.fl fl)) (xs := b.own) (i := i) h
    simp only [Bool.not_eq_false', decide_eq_true_eq] at e
    have := h2 hw
    rw [List.getD_eq_getElem?_getD, List.getElem?_eq_getElem hw] at this
    exact absurd e this
theorem Qpl {l : List Own} {o : Own} {i : Nat} (hi : i ≤ l.length) : List.take (min i l.length + 1 + (l.drop i).length) (List.take (min i l.length + 1) ((List.take (min i l.length) (l.take i)).map (Own.row 0) ++ [Own.row 0 o]) ++ (l.drop i).map (Own.row 0)) = (QqS l o i).map (Own.row 0) := by
  have h1 : List.take i (l.take i) = l.take i := List.take_of_length_le (by rw [List.length_take]; omega)
  rw [Nat.min_eq_left hi, h1, List.take_of_length_le (l := (l.take i).map (Own.row 0) ++ [Own.row 0 o]) (by simp; omega), List.take_of_length_le (by simp; omega)]
  simp [QqS]
set_option maxHeartbeats 2000000 in
theorem Qpm (b : Book) (o : Own) (hb : b.small) : Contract P 71 [.agg (b.row 0), .agg (o.row 0)] [] (.agg ((Qt8 b o).row 0)) [] := by
  unfold Book.small at hb
  have tk0 : True := trivial
  have tk1 : True := trivial
  have tkx : True := trivial
  have drx : True := trivial
  have tkl : True := trivial
  simp only [Book.row, Own.row]
  refine Qg (Env.nil P) hm QeQ (nlb rfl) rfl ?_; unfold Wg; simp (maxSteps := 2000000) only [bitvec_to_nat, reduceIte, Nat.reduceEqDiff, Nat.reduceAdd, Nat.reduceLeDiff, reduceCtorEq, Nat.reduceBEq, Nat.reduceLT, Nat.reduceMod, fmc, Qf, Qh, Qe, Qu, keepB, Qi, Qw, int_toBitVec_meta, method_specs_simp, Nat.sub_zero, List.append_nil, List.length_map, tk0, tk1, tkx, drx, tkl, List.length_append, List.length_cons, List.length_nil]
  refine QE (fun i : Nat => [(5, .int .i64 i)]) (fun _ => []) (fun i => i ≤ b.own.length ∧ ∀ j, j < i → slt (b.own.getD j default).fl o.fl) (fun i => b.own.length - i) 0 (by simp only [Jr, Js, Jt, Ju, Qj, Qk, Ql, Qm, reduceIte, Nat.reduceEqDiff]; exact ⟨by repeat' (first | exact trivial | refine ⟨.inr rfl, ?_⟩), by repeat' (first | exact trivial | refine ⟨rfl, ?_⟩), by first | rfl | simp [closedB, Qd, Qb, Qc, dom, Qa, *], by first | rfl | simp [keepB, dom]⟩) ⟨Nat.zero_le _, by intro j hj; omega⟩ ?_
  intro i hi NX hN
  unfold Z6; simp (maxSteps := 2000000) only [bitvec_to_nat, reduceIte, Nat.reduceEqDiff, Nat.reduceAdd, Nat.reduceLeDiff, reduceCtorEq, Nat.reduceBEq, Nat.reduceLT, Nat.reduceMod, fmc, Qf, Qh, Qe, Qu, keepB, Qi, Qw, int_toBitVec_meta, method_specs_simp, Nat.sub_zero, List.append_nil, List.length_map, tk0, tk1, tkx, drx, tkl, List.length_append, List.length_cons, List.length_nil]
  have hi0 := hi.1
  have fin : ∀ (h2 : i < b.own.length → ¬ slt (b.own.getD i default).fl o.fl), List.map (Own.row 0) (Qt8 b o).own = List.map (Own.row 0) (QqS b.own o i) := fun h2 => by
    show List.map (Own.row 0) (QqS b.own o (enP b o.fl)) = _
    rw [QtD hi.1 hi.2 h2]
  refine ⟨fun h => ⟨by omega, h, fun h2 => ⟨⟨by omega, by omega⟩, ?_⟩, fun h2 => ⟨⟨by omega, by omega, by omega⟩, by omega, by omega, ⟨by omega, by omega, by omega⟩, by rw [List.length_drop]; omega, ?_⟩⟩, fun h => ⟨⟨by omega, by omega, by omega⟩, by omega, by omega, ⟨by omega, by omega, by omega⟩, by rw [List.length_drop]; omega, ?_⟩⟩
  · refine hN (i + 1) _ (by simp only [Jr, Js, Jt, Ju, Qj, Qk, Ql, Qm, reduceIte, Nat.reduceEqDiff]; exact ⟨by repeat' (first | exact trivial | refine ⟨.inr rfl, ?_⟩), by repeat' (first | exact trivial | refine ⟨rfl, ?_⟩), by first | rfl | simp [closedB, Qd, Qb, Qc, dom, Qa, *], by first | rfl | simp [keepB, dom]⟩) ?_ ?_
    · exact ⟨by omega, fun j hj => by
        rcases Nat.lt_or_ge j i with q | q
        · exact hi.2 j q
        · rw [show j = i from by omega]; exact h2⟩
    · omega
  · rw [fin fun _ => h2, ← Qpl hi.1]; rfl
  · rw [fin fun h' => absurd h' (by omega), ← Qpl hi.1]; rfl
def Qdd : List AV → Option (Prop × AV)
  | [.agg [.sl 0 11 b_own, .sl 0 3 b_parts, .sl 0 2 b_seen], .agg [.str o_fl, .int .i64 o_st, .int .i64 o_tn, .str o_dst, .int .i64 o_la, .int .i64 o_nr, .sl 0 6 o_tu, .int .i64 o_wi, .sl 0 6 o_nx, .sl 0 1 o_gr, .bool o_sent]] => some ((((b_own.map Jm).map (Own.row 0) = b_own) ∧ ((b_parts.map QX).map (Part.row 0) = b_parts) ∧ ((b_seen.map QZ).map Seen.row = b_seen) ∧ ((o_tu.map Qz).map Box6.row = o_tu) ∧ ((o_nx.map Qz).map Box6.row = o_nx) ∧ ((o_gr.map unS).map Jw = o_gr)) ∧ (Book.small (Book.mk (b_own.map Jm) (b_parts.map QX) (b_seen.map QZ))), .agg (Book.row 0 (Qt8 (Book.mk (b_own.map Jm) (b_parts.map QX) (b_seen.map QZ)) (Own.mk o_fl o_st o_tn o_dst o_la o_nr (o_tu.map Qz) o_wi (o_nx.map Qz) (o_gr.map unS) o_sent))))
  | _ => none
theorem Qpn : ∀ args p v, Qdd args = some (p, v) → p → Contract P 71 args [] v [] ∧ noref v = true ∧ No99 v := by
  intro args p v h1 h2
  unfold Qdd at h1
  split at h1
  · rename_i b_own b_parts b_seen o_fl o_st o_tn o_dst o_la o_nr o_tu o_wi o_nx o_gr o_sent
    cases h1
    obtain ⟨⟨e0, e1, e2, e3, e4, e5⟩, HP⟩ := h2
    have := Qpm (Book.mk (b_own.map Jm) (b_parts.map QX) (b_seen.map QZ)) (Own.mk o_fl o_st o_tn o_dst o_la o_nr (o_tu.map Qz) o_wi (o_nx.map Qz) (o_gr.map unS) o_sent) HP
    exact ⟨by simpa only [e0, e1, e2, e3, e4, e5, Book.row, Own.row] using this, rfl, by simp [No99, JI, Book.row, Kv, JT, JJ, -List.map_map]⟩
  · cases h1
def Qne (zs : List Zone) (b : Book) (fl : ByteArray) : Book := if Q3 zs ∧ bookOk zs b then (if enC b fl = 0 then enB b fl else b) else ⟨[], [], []⟩
def Qnf (zs : List Zone) (b : Book) (fl : ByteArray) : Int := if Q3 zs ∧ bookOk zs b then enC b fl else 1
theorem QjS {b : Book} {fl : ByteArray} (hb : b.small) (hn : b.own.length < 1048576) : (enB b fl).small := by
  refine ⟨⟨by rw [Qpk]; omega, fun o ho => ?_⟩, hb.2⟩
  rcases List.mem_append.1 (show o ∈ b.own.take (enP b fl) ++ QsA fl :: b.own.drop (enP b fl) from ho) with h | h
  · exact hb.1.2 o (List.mem_of_mem_take h)
  · rcases List.mem_cons.1 h with rfl | h
    · exact ⟨Nat.zero_le _, Nat.zero_le _, Nat.zero_le _⟩
    · exact hb.1.2 o (List.mem_of_mem_drop h)
set_option maxHeartbeats 2000000 in
theorem Qpo (t : Nat) (zs : List Zone) (fl : ByteArray) (b : Book) (hb : b.small) (hz : zs.length ≤ 1048576) : Contract P 29 [.sl t 5 (zs.map Zone.row), .agg (b.row 0), .str fl] [] (.tup [.agg ((Qne zs b fl).row 0), .int .i64 (Qnf zs b fl)]) [] := by
  have hb2 := hb
  unfold Book.small at hb2
  simp only [Book.row]
  refine Qg ((((((Env.nil P).add 35 QcT QoB).add 57 QfP QqW).add 70 QB Kp).add 58 QqK Qt1).add 71 Qdd Qpn) hm Qe7 (nlb rfl) rfl ?_; unfold Wz; simp (maxSteps := 2000000) only [bitvec_to_nat, reduceIte, Nat.reduceEqDiff, Nat.reduceAdd, Nat.reduceLeDiff, reduceCtorEq, Nat.reduceBEq, Nat.reduceLT, Nat.reduceMod, fmc, Qf, Qh, Qe, Qu, keepB, Qi, Qw, QcT, QfP, QB, QqK, Qdd, int_toBitVec_meta, method_specs_simp, Nat.sub_zero, List.append_nil, List.length_map]
  refine ⟨⟨hb, by omega⟩, fun h0 => ⟨hb, fun h1 => ⟨by omega, fun h2 => ?_, fun h2 => ⟨fun h3 => ?_, fun h3 => ?_⟩⟩, fun h1 => ?_⟩, fun h0 => ?_⟩
  · have e : enC b fl = 3 := by simp only [enC, h1, h2, not_true_eq_false, if_false, if_true]
    simp [Qne, Qnf, h0, e]
  · have h3' : 6 ≤ b.own.length := by omega
    have e : enC b fl = 4 := by simp only [enC, h1, h2, h3', not_true_eq_false, if_false, if_true]
    simp [Qne, Qnf, h0, e]
  · have h3' : ¬ 6 ≤ b.own.length := by omega
    have e : enC b fl = 0 := by simp only [enC, h1, h2, h3', not_true_eq_false, if_false]
    have e2 : Qne zs b fl = enB b fl := by unfold Qne; rw [if_pos h0, if_pos e]
    have e3 : Qnf zs b fl = 0 := by unfold Qnf; rw [if_pos h0, e]
    rw [e2, e3]
    exact ⟨hb, QjS hb (by omega), rfl, rfl⟩
  · have e : enC b fl = 2 := by simp only [enC, h1, not_false_eq_true, if_true]
    simp [Qne, Qnf, h0, e]
  · simp [Qne, Qnf, h0]
def QM : List AV → Option (Prop × AV)
  | [.sl zst 5 zsx, .agg [.sl 0 11 b_own, .sl 0 3 b_parts, .sl 0 2 b_seen], .str fl] => some ((((zsx.map Qx).map Zone.row = zsx) ∧ ((b_own.map Jm).map (Own.row 0) = b_own) ∧ ((b_parts.map QX).map (Part.row 0) = b_parts) ∧ ((b_seen.map QZ).map Seen.row = b_seen)) ∧ (Book.small (Book.mk (b_own.map Jm) (b_parts.map QX) (b_seen.map QZ)) ∧ (zsx.map Qx).length ≤ 1048576), .tup [.agg ((Qne (zsx.map Qx) (Book.mk (b_own.map Jm) (b_parts.map QX) (b_seen.map QZ)) fl).row 0), .int .i64 (Qnf (zsx.map Qx) (Book.mk (b_own.map Jm) (b_parts.map QX) (b_seen.map QZ)) fl)])
  | _ => none
theorem QjT : ∀ args p v, QM args = some (p, v) → p → Contract P 29 args [] v [] ∧ noref v = true ∧ No99 v := by
  intro args p v h1 h2
  unfold QM at h1
  split at h1
  · rename_i zst zsx b_own b_parts b_seen fl
    cases h1
    obtain ⟨⟨e0, e1, e2, e3⟩, HP⟩ := h2
    have := Qpo zst (zsx.map Qx) fl (Book.mk (b_own.map Jm) (b_parts.map QX) (b_seen.map QZ)) HP.1 HP.2
    exact ⟨by simpa only [e0, e1, e2, e3, Book.row] using this, rfl, by simp only [No99, JI, Book.row]; exact ⟨⟨⟨by omega, Kv _⟩, ⟨by omega, JT _⟩, ⟨by omega, JJ _⟩, trivial⟩, trivial, trivial⟩⟩
  · cases h1
end
end Go.Ve

