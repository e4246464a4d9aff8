/- Part 5 of the proof: laws and contracts of functions, each proved; they are joined in the last part. No conditions beyond those that the theorems state. -/
import Derived.Test.YtppifjfappcbgaaGreatProg
import Derived.Test.YtppifjfappcbgaaGreatHo4
set_option linter.all false
namespace Go.Ve
noncomputable section
open Go.Proofs
set_option maxRecDepth 100000
open Go.ChangeShapes Go.WideShapes
set_option maxHeartbeats 2000000 in
theorem c_toOwnO (s : Own) (hs : s.small) : Contract P 83 [.agg (s.row 1)] [] (.agg [.str s.fl, .int .i64 s.st, .int .i64 s.tn, .str s.dst, .int .i64 s.la, .int .i64 s.nr, .own 601 0 0 s.tu.length, .int .i64 s.wi, .own 602 0 0 s.nx.length, .own 603 0 0 s.gr.length, .bool s.sent]) [(603, .arr 9 0 1 (s.gr.map srow)), (602, .arr 100 0 6 (s.nx.map Box6.row)), (601, .arr 100 0 6 (s.tu.map Box6.row))] := by
  have hs1 : True := trivial
  have hs2 : True := trivial
  have hs3 : True := trivial
  have hs4 : True := trivial
  unfold Own.small at hs
  simp only [Own.row]
  refine fn_sound (Env.nil P) hm k_laws_toHandOwn (nlb rfl) rfl ?_; unfold s_laws_toHandOwn; simp (maxSteps := 2000000) only [bitvec_to_nat, reduceIte, Nat.reduceEqDiff, Nat.reduceAdd, Nat.reduceLeDiff, reduceCtorEq, Nat.reduceBEq, Nat.reduceLT, Nat.reduceMod, fmc, retG_ret, retQ_eq, retQ_eqN, retOk, keepB, re_tupl, orr_t, int_toBitVec_meta, method_specs_simp, Nat.sub_zero, List.append_nil, fam_ne, fam_ne', getM_setM, fam_eqF, fam_eqI, hs1, hs2, hs3, hs4]
  have hT0 := (c_toBox6SO 1 s.tu (by omega)).ren (swp 107 601) (swp_swp _ _)
  simp only [renL, ren, renM, renO, swp, reduceIte, Nat.reduceEqDiff, Nat.reduceLT] at hT0
  refine ⟨_, _, .inr (.inr (.inl ⟨_, rfl, hT0, by simp [getM], by simp [refsIn, refsInL, dom], rfl, by simp [No99], by simp [No99O, no99_box, no99_str]⟩)), ?_⟩
  simp (maxSteps := 2000000) only [bitvec_to_nat, reduceIte, Nat.reduceEqDiff, Nat.reduceAdd, Nat.reduceLeDiff, reduceCtorEq, Nat.reduceBEq, Nat.reduceLT, Nat.reduceMod, fmc, retG_ret, retQ_eq, retQ_eqN, retOk, keepB, re_tupl, orr_t, int_toBitVec_meta, method_specs_simp, Nat.sub_zero, List.append_nil, fam_ne, fam_ne', getM_setM, fam_eqF, fam_eqI, hs1, hs2, hs3, hs4]
  have hT1 := (c_toBox6SO 1 s.nx (by omega)).ren (swp 107 602) (swp_swp _ _)
  simp only [renL, ren, renM, renO, swp, reduceIte, Nat.reduceEqDiff, Nat.reduceLT] at hT1
  refine ⟨_, _, .inr (.inr (.inl ⟨_, rfl, hT1, by simp [getM], by simp [refsIn, refsInL, dom], rfl, by simp [No99], by simp [No99O, no99_box, no99_str]⟩)), ?_⟩
  simp (maxSteps := 2000000) only [bitvec_to_nat, reduceIte, Nat.reduceEqDiff, Nat.reduceAdd, Nat.reduceLeDiff, reduceCtorEq, Nat.reduceBEq, Nat.reduceLT, Nat.reduceMod, fmc, retG_ret, retQ_eq, retQ_eqN, retOk, keepB, re_tupl, orr_t, int_toBitVec_meta, method_specs_simp, Nat.sub_zero, List.append_nil, fam_ne, fam_ne', getM_setM, fam_eqF, fam_eqI, hs1, hs2, hs3, hs4]
  have hT2 := (c_toByteArraySO 1 s.gr (by omega)).ren (swp 107 603) (swp_swp _ _)
  simp only [renL, ren, renM, renO, swp, reduceIte, Nat.reduceEqDiff, Nat.reduceLT] at hT2
  refine ⟨_, _, .inr (.inr (.inl ⟨_, rfl, hT2, by simp [getM], by simp [refsIn, refsInL, dom], rfl, by simp [No99], by simp [No99O, no99_box, no99_str]⟩)), ?_⟩
  simp (maxSteps := 2000000) only [bitvec_to_nat, reduceIte, Nat.reduceEqDiff, Nat.reduceAdd, Nat.reduceLeDiff, reduceCtorEq, Nat.reduceBEq, Nat.reduceLT, Nat.reduceMod, fmc, retG_ret, retQ_eq, retQ_eqN, retOk, keepB, re_tupl, orr_t, int_toBitVec_meta, method_specs_simp, Nat.sub_zero, List.append_nil, fam_ne, fam_ne', getM_setM, fam_eqF, fam_eqI, hs1, hs2, hs3, hs4]
  repeat' (first | with_reducible apply And.intro | with_reducible intro _)
  all_goals first | omega | rfl | (simp [refsIn, refsInL, dom]; done)
set_option maxHeartbeats 4000000 in
theorem c_toOwnSO (t : Nat) (a : List Own) (ha : a.length ≤ 1048576) (hs : ∀ x ∈ a, x.small) : Contract P 42 [.sl t 11 (a.map (Own.row 1))] [] (.own 107 0 0 a.length) (OO 107 71 0 11 esOwn (Own.row 0) 120 0 a) := by
  have hs1 : True := trivial
  have hs2 : True := trivial
  have hs3 : True := trivial
  have hs4 : True := trivial
  have cl : ∀ (i : Nat), closedB ⟨[(0, .sl t 11 (a.map (Own.row 1))), (3, .own 107 0 0 a.length), (4, .int .i64 ((i : Nat) : Int))], (107, .arr (1000000 + 71) 0 11 (zR (Own.row 0) 120 a i [.str ⟨#[]⟩, .int .i64 0, .int .i64 0, .str ⟨#[]⟩, .int .i64 0, .int .i64 0, .sl 0 6 [], .int .i64 0, .sl 0 6 [], .sl 0 1 [], .bool false])) :: oObjs esOwn (Own.row 0) 120 0 (a.take i)⟩ = true := fun i => by
    simp only [closedB, List.all_cons, Bool.and_eq_true]
    refine ⟨⟨rfl, by simp [refsIn, dom], rfl, rfl⟩, ?_, oObjs_refs hes_Own⟩
    simp only [refsInO]
    rw [if_neg (by omega)]
    exact zR_refs rok_Own rfl fun p hp => List.mem_cons_of_mem _ (mem_dom hp)
  have kp : ∀ (x : AObj) (i : Nat) (M' : List (Nat × AObj)), keepB ((107, x) :: oObjs esOwn (Own.row 0) 120 0 (a.take i)) M' = true := fun x i M' => keep_big (big100_cons (by omega) (big100_oObjs rok_Own (by omega) (by omega)))
  have wm : ∀ (x : AObj) (i : Nat), wkM ((107, x) :: oObjs esOwn (Own.row 0) 120 0 (a.take i)) (oObjs esOwn (Own.row 0) 120 0 (a.take i)) := fun x i => wkM_self fun p hp => by
    have h1 := uniq_self (oObjs_uniq rok_Own (by omega)) p hp
    have h2 := (oObjs_num rok_Own (by omega) hp).1
    simp only [getM]
    rw [if_neg (by omega)]; exact h1
  have m0 : List.replicate a.length [.str ⟨#[]⟩, .int .i64 0, .int .i64 0, .str ⟨#[]⟩, .int .i64 0, .int .i64 0, .sl 0 6 [], .int .i64 0, .sl 0 6 [], .sl 0 1 [], .bool false] = zR (Own.row 0) 120 a 0 [.str ⟨#[]⟩, .int .i64 0, .int .i64 0, .str ⟨#[]⟩, .int .i64 0, .int .i64 0, .sl 0 6 [], .int .i64 0, .sl 0 6 [], .sl 0 1 [], .bool false] := zR_zero
  refine fn_sound (Env.nil P) hm kO_laws_toHandOwnS (nlb rfl) rfl ?_; unfold sO_laws_toHandOwnS; simp (maxSteps := 2000000) only [bitvec_to_nat, reduceIte, Nat.reduceEqDiff, Nat.reduceAdd, Nat.reduceLeDiff, reduceCtorEq, Nat.reduceBEq, Nat.reduceLT, Nat.reduceMod, fmc, retG_ret, retQ_eq, retQ_eqN, retOk, keepB, re_tupl, orr_t, int_toBitVec_meta, method_specs_simp, Nat.sub_zero, List.append_nil, fam_ne, fam_ne', getM_setM, fam_eqF, fam_eqI, hs1, hs2, hs3, hs4]
  refine ⟨by omega, ?_⟩
  refine loop_F (fun i : Nat => ⟨[(0, .sl t 11 (a.map (Own.row 1))), (3, .own 107 0 0 a.length), (4, .int .i64 i)], (107, .arr (1000000 + 71) 0 11 (zR (Own.row 0) 120 a i [.str ⟨#[]⟩, .int .i64 0, .int .i64 0, .str ⟨#[]⟩, .int .i64 0, .int .i64 0, .sl 0 6 [], .int .i64 0, .sl 0 6 [], .sl 0 1 [], .bool false])) :: oObjs esOwn (Own.row 0) 120 0 (a.take i)⟩) (fun i => i ≤ a.length) (fun i => a.length - i) 0 ?_ (Nat.zero_le _) ?_
  · exact ⟨by repeat' (first | exact trivial | refine ⟨.inr rfl, ?_⟩), ⟨congrArg (fun g => some (AObj.arr (1000000 + 71) 0 11 g)) m0, trivial⟩, cl 0, by simp [keepB, dom]⟩
  intro i hi NX hN
  by_cases h : i < a.length
  · have hx := hs _ (getD_mem' h)
    have hC := (((c_toOwnO (a.getD i default) hx).ren (swp 601 (fam 126 i)) (swp_swp _ _)).ren (swp 602 (fam 128 i)) (swp_swp _ _)).ren (swp 603 (fam 129 i)) (swp_swp _ _)
    simp only [renL, ren, renM, renO, swp, reduceIte, Nat.reduceEqDiff, Nat.reduceLT, fam_ne, fam_ne', fam_eqF, Own.row] at hC
    have hn : ∀ q, q < 1000 → getM (oObjs esOwn (Own.row 0) 120 0 (a.take i)) (fam q i) = none := fun q hq => oObjs_newT rok_Own (by omega) hq
    have hs1 : ∀ (B : List (Nat × AObj)) (q : Nat) (x : AObj), q < 1000 → setM (oObjs esOwn (Own.row 0) 120 0 (a.take i) ++ B) (fam q i) x = oObjs esOwn (Own.row 0) 120 0 (a.take i) ++ setM B (fam q i) x := fun B q x hq => setM_app (hn q hq)
    have hs3 : ∀ (q : Nat) (x : AObj), q < 1000 → setM (oObjs esOwn (Own.row 0) 120 0 (a.take i)) (fam q i) x = oObjs esOwn (Own.row 0) 120 0 (a.take i) ++ [(fam q i, x)] := fun q x hq => setM_new (hn q hq)
    have hs2 := zR_set (f := (Own.row 0)) (k := 120) (z := [.str ⟨#[]⟩, .int .i64 0, .int .i64 0, .str ⟨#[]⟩, .int .i64 0, .int .i64 0, .sl 0 6 [], .int .i64 0, .sl 0 6 [], .sl 0 1 [], .bool false]) (row := [.str (a.getD i default).fl, .int .i64 (a.getD i default).st, .int .i64 (a.getD i default).tn, .str (a.getD i default).dst, .int .i64 (a.getD i default).la, .int .i64 (a.getD i default).nr, .own (fam 126 i) 0 0 (a.getD i default).tu.length, .int .i64 (a.getD i default).wi, .own (fam 128 i) 0 0 (a.getD i default).nx.length, .own (fam 129 i) 0 0 (a.getD i default).gr.length, .bool (a.getD i default).sent]) h (by simp [ownR, ownC, Own.row]) rfl
    unfold lO_laws_toHandOwnS_0; simp (maxSteps := 2000000) only [bitvec_to_nat, reduceIte, Nat.reduceEqDiff, Nat.reduceAdd, Nat.reduceLeDiff, reduceCtorEq, Nat.reduceBEq, Nat.reduceLT, Nat.reduceMod, fmc, retG_ret, retQ_eq, retQ_eqN, retOk, keepB, re_tupl, orr_t, int_toBitVec_meta, method_specs_simp, Nat.sub_zero, List.append_nil, fam_ne, fam_ne', getM_setM, fam_eqF, fam_eqI, hs1, hs2, hs3, hs4]
    refine ⟨fun _ => ⟨by omega, by omega, _, _, .inr (.inr (.inl ⟨_, by simp only [purL, pur, Option.map_some], hC, by simp [getM, fam_ne, hn], by simp [refsIn, refsInL, dom], by simp [refsInO], by simp [No99, No99L, No99LL], by simp [No99O, no99_box, no99_str]⟩)), ?_⟩, fun h' => absurd (by omega) h'⟩
    simp (maxSteps := 2000000) only [bitvec_to_nat, reduceIte, Nat.reduceEqDiff, Nat.reduceAdd, Nat.reduceLeDiff, reduceCtorEq, Nat.reduceBEq, Nat.reduceLT, Nat.reduceMod, fmc, retG_ret, retQ_eq, retQ_eqN, retOk, keepB, re_tupl, orr_t, int_toBitVec_meta, method_specs_simp, Nat.sub_zero, List.append_nil, fam_ne, fam_ne', getM_setM, fam_eqF, fam_eqI, hs1, hs2, hs3, hs4]
    have em : oObjs esOwn (Own.row 0) 120 0 (a.take (i + 1)) = oObjs esOwn (Own.row 0) 120 0 (a.take i) ++ [((fam 126 i), .arr 100 0 6 ((a.getD i default).tu.map Box6.row)), ((fam 128 i), .arr 100 0 6 ((a.getD i default).nx.map Box6.row)), ((fam 129 i), .arr 9 0 1 ((a.getD i default).gr.map srow))] := oObjs_take h
    refine ⟨by omega, by omega, hN (i + 1) _ ⟨by repeat' (first | exact trivial | refine ⟨.inr rfl, ?_⟩), ⟨rfl, ?_⟩, cl (i + 1), ?_⟩ h (by omega)⟩
    · rw [em]
      refine wkM_self fun p hp => ?_
      have h1 := uniq_self (U := oObjs esOwn (Own.row 0) 120 0 (a.take (i + 1))) (oObjs_uniq rok_Own (by omega)) p (by rw [em]; exact hp)
      have h2 := (oObjs_num (es := esOwn) (k := 120) (i0 := 0) (a := a.take (i + 1)) rok_Own (by omega) (p := p) (by rw [em]; exact hp)).1
      rw [em] at h1
      simp only [getM]
      rw [if_neg (by omega)]
      simp only [getM_append, List.cons_append, List.nil_append, getM] at h1 ⊢
      exact h1
    · exact keep_big (big100_cons (by omega) (big100_app (big100_oObjs rok_Own (by omega) (by omega)) (by repeat' (first | exact big100_nil | refine big100_cons (by rw [fam_mod (by omega)]; omega) ?_))))
  · have e : i = a.length := by omega
    subst e
    have et : a.take a.length = a := List.take_length
    have ez : zR (Own.row 0) 120 a a.length [.str ⟨#[]⟩, .int .i64 0, .int .i64 0, .str ⟨#[]⟩, .int .i64 0, .int .i64 0, .sl 0 6 [], .int .i64 0, .sl 0 6 [], .sl 0 1 [], .bool false] = oRows (Own.row 0) 120 0 a := zR_end
    have cl' := cl a.length
    have wm' := wm .gone a.length
    have kp' := kp .gone a.length
    rw [et] at cl' wm' kp'
    rw [ez] at cl'
    have hs1 := ez
    have hs2 := et
    unfold lO_laws_toHandOwnS_0; simp (maxSteps := 2000000) only [bitvec_to_nat, reduceIte, Nat.reduceEqDiff, Nat.reduceAdd, Nat.reduceLeDiff, reduceCtorEq, Nat.reduceBEq, Nat.reduceLT, Nat.reduceMod, fmc, retG_ret, retQ_eq, retQ_eqN, retOk, keepB, re_tupl, orr_t, int_toBitVec_meta, method_specs_simp, Nat.sub_zero, List.append_nil, fam_ne, fam_ne', getM_setM, fam_eqF, fam_eqI, hs1, hs2, hs3, hs4]
    refine ⟨fun h' => absurd h' (by omega), fun _ => ?_⟩
    refine ⟨wkM_self fun p hp => OO_self rok_Own (by omega) (by omega) p hp, OO_refs rok_Own hes_Own, by simp [refsIn, OO, dom], ?_⟩
    simp only [Bool.true_or, Bool.true_and]
    exact big_all (big100_oObjs rok_Own (by omega) (by omega))
set_option maxHeartbeats 2000000 in
theorem c_toPartO (s : Part) (hs : s.small) : Contract P 84 [.agg (s.row 1)] [] (.agg [.str s.fl, .int .i64 s.nr, .own 601 0 0 s.bx.length]) [(601, .arr 100 0 6 (s.bx.map Box6.row))] := by
  have hs1 : True := trivial
  have hs2 : True := trivial
  have hs3 : True := trivial
  have hs4 : True := trivial
  unfold Part.small at hs
  simp only [Part.row]
  refine fn_sound (Env.nil P) hm k_laws_toHandPart (nlb rfl) rfl ?_; unfold s_laws_toHandPart; simp (maxSteps := 2000000) only [bitvec_to_nat, reduceIte, Nat.reduceEqDiff, Nat.reduceAdd, Nat.reduceLeDiff, reduceCtorEq, Nat.reduceBEq, Nat.reduceLT, Nat.reduceMod, fmc, retG_ret, retQ_eq, retQ_eqN, retOk, keepB, re_tupl, orr_t, int_toBitVec_meta, method_specs_simp, Nat.sub_zero, List.append_nil, fam_ne, fam_ne', getM_setM, fam_eqF, fam_eqI, hs1, hs2, hs3, hs4]
  have hT0 := (c_toBox6SO 1 s.bx (by omega)).ren (swp 107 601) (swp_swp _ _)
  simp only [renL, ren, renM, renO, swp, reduceIte, Nat.reduceEqDiff, Nat.reduceLT] at hT0
  refine ⟨_, _, .inr (.inr (.inl ⟨_, rfl, hT0, by simp [getM], by simp [refsIn, refsInL, dom], rfl, by simp [No99], by simp [No99O, no99_box, no99_str]⟩)), ?_⟩
  simp (maxSteps := 2000000) only [bitvec_to_nat, reduceIte, Nat.reduceEqDiff, Nat.reduceAdd, Nat.reduceLeDiff, reduceCtorEq, Nat.reduceBEq, Nat.reduceLT, Nat.reduceMod, fmc, retG_ret, retQ_eq, retQ_eqN, retOk, keepB, re_tupl, orr_t, int_toBitVec_meta, method_specs_simp, Nat.sub_zero, List.append_nil, fam_ne, fam_ne', getM_setM, fam_eqF, fam_eqI, hs1, hs2, hs3, hs4]
  repeat' (first | with_reducible apply And.intro | with_reducible intro _)
  all_goals first | omega | rfl | (simp [refsIn, refsInL, dom]; done)
set_option maxHeartbeats 4000000 in
theorem c_toPartSO (t : Nat) (a : List Part) (ha : a.length ≤ 1048576) (hs : ∀ x ∈ a, x.small) : Contract P 43 [.sl t 3 (a.map (Part.row 1))] [] (.own 107 0 0 a.length) (OO 107 124 0 3 esPart (Part.row 0) 140 0 a) := by
  have hs1 : True := trivial
  have hs2 : True := trivial
  have hs3 : True := trivial
  have hs4 : True := trivial
  have cl : ∀ (i : Nat), closedB ⟨[(0, .sl t 3 (a.map (Part.row 1))), (3, .own 107 0 0 a.length), (4, .int .i64 ((i : Nat) : Int))], (107, .arr (1000000 + 124) 0 3 (zR (Part.row 0) 140 a i [.str ⟨#[]⟩, .int .i64 0, .sl 0 6 []])) :: oObjs esPart (Part.row 0) 140 0 (a.take i)⟩ = true := fun i => by
    simp only [closedB, List.all_cons, Bool.and_eq_true]
    refine ⟨⟨rfl, by simp [refsIn, dom], rfl, rfl⟩, ?_, oObjs_refs hes_Part⟩
    simp only [refsInO]
    rw [if_neg (by omega)]
    exact zR_refs rok_Part rfl fun p hp => List.mem_cons_of_mem _ (mem_dom hp)
  have kp : ∀ (x : AObj) (i : Nat) (M' : List (Nat × AObj)), keepB ((107, x) :: oObjs esPart (Part.row 0) 140 0 (a.take i)) M' = true := fun x i M' => keep_big (big100_cons (by omega) (big100_oObjs rok_Part (by omega) (by omega)))
  have wm : ∀ (x : AObj) (i : Nat), wkM ((107, x) :: oObjs esPart (Part.row 0) 140 0 (a.take i)) (oObjs esPart (Part.row 0) 140 0 (a.take i)) := fun x i => wkM_self fun p hp => by
    have h1 := uniq_self (oObjs_uniq rok_Part (by omega)) p hp
    have h2 := (oObjs_num rok_Part (by omega) hp).1
    simp only [getM]
    rw [if_neg (by omega)]; exact h1
  have m0 : List.replicate a.length [.str ⟨#[]⟩, .int .i64 0, .sl 0 6 []] = zR (Part.row 0) 140 a 0 [.str ⟨#[]⟩, .int .i64 0, .sl 0 6 []] := zR_zero
  refine fn_sound (Env.nil P) hm kO_laws_toHandPartS (nlb rfl) rfl ?_; unfold sO_laws_toHandPartS; simp (maxSteps := 2000000) only [bitvec_to_nat, reduceIte, Nat.reduceEqDiff, Nat.reduceAdd, Nat.reduceLeDiff, reduceCtorEq, Nat.reduceBEq, Nat.reduceLT, Nat.reduceMod, fmc, retG_ret, retQ_eq, retQ_eqN, retOk, keepB, re_tupl, orr_t, int_toBitVec_meta, method_specs_simp, Nat.sub_zero, List.append_nil, fam_ne, fam_ne', getM_setM, fam_eqF, fam_eqI, hs1, hs2, hs3, hs4]
  refine ⟨by omega, ?_⟩
  refine loop_F (fun i : Nat => ⟨[(0, .sl t 3 (a.map (Part.row 1))), (3, .own 107 0 0 a.length), (4, .int .i64 i)], (107, .arr (1000000 + 124) 0 3 (zR (Part.row 0) 140 a i [.str ⟨#[]⟩, .int .i64 0, .sl 0 6 []])) :: oObjs esPart (Part.row 0) 140 0 (a.take i)⟩) (fun i => i ≤ a.length) (fun i => a.length - i) 0 ?_ (Nat.zero_le _) ?_
  · exact ⟨by repeat' (first | exact trivial | refine ⟨.inr rfl, ?_⟩), ⟨congrArg (fun g => some (AObj.arr (1000000 + 124) 0 3 g)) m0, trivial⟩, cl 0, by simp [keepB, dom]⟩
  intro i hi NX hN
  by_cases h : i < a.length
  · have hx := hs _ (getD_mem' h)
    have hC := (c_toPartO (a.getD i default) hx).ren (swp 601 (fam 142 i)) (swp_swp _ _)
    simp only [renL, ren, renM, renO, swp, reduceIte, Nat.reduceEqDiff, Nat.reduceLT, fam_ne, fam_ne', fam_eqF, Part.row] at hC
    have hn : ∀ q, q < 1000 → getM (oObjs esPart (Part.row 0) 140 0 (a.take i)) (fam q i) = none := fun q hq => oObjs_newT rok_Part (by omega) hq
    have hs1 : ∀ (B : List (Nat × AObj)) (q : Nat) (x : AObj), q < 1000 → setM (oObjs esPart (Part.row 0) 140 0 (a.take i) ++ B) (fam q i) x = oObjs esPart (Part.row 0) 140 0 (a.take i) ++ setM B (fam q i) x := fun B q x hq => setM_app (hn q hq)
    have hs3 : ∀ (q : Nat) (x : AObj), q < 1000 → setM (oObjs esPart (Part.row 0) 140 0 (a.take i)) (fam q i) x = oObjs esPart (Part.row 0) 140 0 (a.take i) ++ [(fam q i, x)] := fun q x hq => setM_new (hn q hq)
    have hs2 := zR_set (f := (Part.row 0)) (k := 140) (z := [.str ⟨#[]⟩, .int .i64 0, .sl 0 6 []]) (row := [.str (a.getD i default).fl, .int .i64 (a.getD i default).nr, .own (fam 142 i) 0 0 (a.getD i default).bx.length]) h (by simp [ownR, ownC, Part.row]) rfl
    unfold lO_laws_toHandPartS_0; simp (maxSteps := 2000000) only [bitvec_to_nat, reduceIte, Nat.reduceEqDiff, Nat.reduceAdd, Nat.reduceLeDiff, reduceCtorEq, Nat.reduceBEq, Nat.reduceLT, Nat.reduceMod, fmc, retG_ret, retQ_eq, retQ_eqN, retOk, keepB, re_tupl, orr_t, int_toBitVec_meta, method_specs_simp, Nat.sub_zero, List.append_nil, fam_ne, fam_ne', getM_setM, fam_eqF, fam_eqI, hs1, hs2, hs3, hs4]
    refine ⟨fun _ => ⟨by omega, by omega, _, _, .inr (.inr (.inl ⟨_, by simp only [purL, pur, Option.map_some], hC, by simp [getM, fam_ne, hn], by simp [refsIn, refsInL, dom], by simp [refsInO], by simp [No99, No99L, No99LL], by simp [No99O, no99_box, no99_str]⟩)), ?_⟩, fun h' => absurd (by omega) h'⟩
    simp (maxSteps := 2000000) only [bitvec_to_nat, reduceIte, Nat.reduceEqDiff, Nat.reduceAdd, Nat.reduceLeDiff, reduceCtorEq, Nat.reduceBEq, Nat.reduceLT, Nat.reduceMod, fmc, retG_ret, retQ_eq, retQ_eqN, retOk, keepB, re_tupl, orr_t, int_toBitVec_meta, method_specs_simp, Nat.sub_zero, List.append_nil, fam_ne, fam_ne', getM_setM, fam_eqF, fam_eqI, hs1, hs2, hs3, hs4]
    have em : oObjs esPart (Part.row 0) 140 0 (a.take (i + 1)) = oObjs esPart (Part.row 0) 140 0 (a.take i) ++ [((fam 142 i), .arr 100 0 6 ((a.getD i default).bx.map Box6.row))] := oObjs_take h
    refine ⟨by omega, by omega, hN (i + 1) _ ⟨by repeat' (first | exact trivial | refine ⟨.inr rfl, ?_⟩), ⟨rfl, ?_⟩, cl (i + 1), ?_⟩ h (by omega)⟩
    · rw [em]
      refine wkM_self fun p hp => ?_
      have h1 := uniq_self (U := oObjs esPart (Part.row 0) 140 0 (a.take (i + 1))) (oObjs_uniq rok_Part (by omega)) p (by rw [em]; exact hp)
      have h2 := (oObjs_num (es := esPart) (k := 140) (i0 := 0) (a := a.take (i + 1)) rok_Part (by omega) (p := p) (by rw [em]; exact hp)).1
      rw [em] at h1
      simp only [getM]
      rw [if_neg (by omega)]
      simp only [getM_append, List.cons_append, List.nil_append, getM] at h1 ⊢
      exact h1
    · exact keep_big (big100_cons (by omega) (big100_app (big100_oObjs rok_Part (by omega) (by omega)) (by repeat' (first | exact big100_nil | refine big100_cons (by rw [fam_mod (by omega)]; omega) ?_))))
  · have e : i = a.length := by omega
    subst e
    have et : a.take a.length = a := List.take_length
    have ez : zR (Part.row 0) 140 a a.length [.str ⟨#[]⟩, .int .i64 0, .sl 0 6 []] = oRows (Part.row 0) 140 0 a := zR_end
    have cl' := cl a.length
    have wm' := wm .gone a.length
    have kp' := kp .gone a.length
    rw [et] at cl' wm' kp'
    rw [ez] at cl'
    have hs1 := ez
    have hs2 := et
    unfold lO_laws_toHandPartS_0; simp (maxSteps := 2000000) only [bitvec_to_nat, reduceIte, Nat.reduceEqDiff, Nat.reduceAdd, Nat.reduceLeDiff, reduceCtorEq, Nat.reduceBEq, Nat.reduceLT, Nat.reduceMod, fmc, retG_ret, retQ_eq, retQ_eqN, retOk, keepB, re_tupl, orr_t, int_toBitVec_meta, method_specs_simp, Nat.sub_zero, List.append_nil, fam_ne, fam_ne', getM_setM, fam_eqF, fam_eqI, hs1, hs2, hs3, hs4]
    refine ⟨fun h' => absurd h' (by omega), fun _ => ?_⟩
    refine ⟨wkM_self fun p hp => OO_self rok_Part (by omega) (by omega) p hp, OO_refs rok_Part hes_Part, by simp [refsIn, OO, dom], ?_⟩
    simp only [Bool.true_or, Bool.true_and]
    exact big_all (big100_oObjs rok_Part (by omega) (by omega))
end
end Go.Ve

namespace Go.Ve
noncomputable section
open Go.Proofs
set_option maxRecDepth 100000
open Go.ChangeShapes Go.WideShapes
theorem OwnO_offs {o e v k q sz : Nat} {a : List Own} (h : q ≠ o) (hq : q < 1000) (hk : k + 11 ≤ 1000) : offs (OO o e v sz esOwn (Own.row 0) k 0 a) q := fun p hp e => by
  have := OO_num rok_Own hk hp; omega
theorem OwnO_uniq {o e v k sz : Nat} {a : List Own} (ho : o < 1000) (hk : k + 11 ≤ 1000) : uniq (OO o e v sz esOwn (Own.row 0) k 0 a) := OO_uniq rok_Own hk ho
theorem PartO_offs {o e v k q sz : Nat} {a : List Part} (h : q ≠ o) (hq : q < 1000) (hk : k + 3 ≤ 1000) : offs (OO o e v sz esPart (Part.row 0) k 0 a) q := fun p hp e => by
  have := OO_num rok_Part hk hp; omega
theorem PartO_uniq {o e v k sz : Nat} {a : List Part} (ho : o < 1000) (hk : k + 3 ≤ 1000) : uniq (OO o e v sz esPart (Part.row 0) k 0 a) := OO_uniq rok_Part hk ho
theorem getK_one {M : Nat → Option AObj} {o : Nat} {x : AObj} (h : M o = some x) : ∀ p ∈ [(o, x)], M p.1 = some p.2 := fun p hp => by
  rw [List.mem_singleton.1 hp]; exact h
abbrev OwnS (o v k : Nat) (l : List Own) : List (Nat × AObj) := OO o 71 v 11 esOwn (Own.row 0) k 0 l
abbrev PartS (o v k : Nat) (l : List Part) : List (Nat × AObj) := OO o 124 v 3 esPart (Part.row 0) k 0 l
abbrev SeenS (o v : Nat) (l : List Seen) : List (Nat × AObj) := [(o, .arr 118 v 2 (l.map Seen.row))]
def bkV (b : Book) (a va c vc d vd : Nat) : AV := .agg [.own a va 0 b.own.length, .own c vc 0 b.parts.length, .own d vd 0 b.seen.length]
def bkM (b : Book) (a va c vc d vd kO kP : Nat) : List (Nat × AObj) := OwnS a va kO b.own ++ (PartS c vc kP b.parts ++ SeenS d vd b.seen)
theorem bk_num {b : Book} {a va c vc d vd kO kP : Nat} (hO : kO + 11 ≤ 1000) (hP : kP + 3 ≤ 1000) {p : Nat × AObj} (h : p ∈ bkM b a va c vc d vd kO kP) :
    p.1 = a ∨ p.1 = c ∨ p.1 = d ∨ (1000 ≤ p.1 ∧ ((kO ≤ p.1 % 1000 ∧ p.1 % 1000 < kO + 11) ∨ (kP ≤ p.1 % 1000 ∧ p.1 % 1000 < kP + 3))) := by
  simp only [bkM, List.mem_append] at h
  rcases h with h | h | h
  · have := OO_num rok_Own hO h; omega
  · have := OO_num rok_Part hP h; omega
  · rw [List.mem_singleton.1 h]; exact .inr (.inr (.inl rfl))
theorem uniq_app {A B : List (Nat × AObj)} (h : uniq A) (k : uniq B) (d : dis A B) : uniq (A ++ B) := by
  unfold uniq; rw [List.pairwise_append]; exact ⟨h, k, fun p hp q hq => d p hp q hq⟩
theorem uniq_one {o : Nat} {x : AObj} : uniq [(o, x)] := List.pairwise_singleton _ _
theorem bk_uniq {b : Book} {a va c vc d vd kO kP : Nat} (h1 : a ≠ c) (h2 : a ≠ d) (h3 : c ≠ d) (ha : a < 1000) (hc : c < 1000) (hd : d < 1000) (hO : kO + 11 ≤ 1000) (hP : kP + 3 ≤ 1000) (hk : kO + 11 ≤ kP ∨ kP + 3 ≤ kO) : uniq (bkM b a va c vc d vd kO kP) := by
  unfold bkM
  refine uniq_app (OO_uniq rok_Own hO ha) (uniq_app (OO_uniq rok_Part hP hc) uniq_one fun p hp q hq e => ?_) fun p hp q hq e => ?_
  · have := OO_num rok_Part hP hp; rw [List.mem_singleton.1 hq] at e; simp only at e; omega
  · have := OO_num rok_Own hO hp
    rcases List.mem_append.1 hq with hq | hq
    · have := OO_num rok_Part hP hq; omega
    · rw [List.mem_singleton.1 hq] at e; simp only at e; omega
theorem bk_refsD {b : Book} {a va c vc d vd kO kP : Nat} {D : List Nat} (h : ∀ p ∈ bkM b a va c vc d vd kO kP, p.1 ∈ D) : ((bkM b a va c vc d vd kO kP).all fun p => refsInO D p.2) = true := by
  simp only [bkM, List.mem_append] at h
  simp only [bkM, List.all_append, Bool.and_eq_true]
  exact ⟨OO_refsD rok_Own hes_Own fun p hp => h p (.inl (List.mem_cons_of_mem _ hp)), OO_refsD rok_Part hes_Part fun p hp => h p (.inr (.inl (List.mem_cons_of_mem _ hp))), rfl⟩
theorem bk_refs {b : Book} {a va c vc d vd kO kP : Nat} : ((bkM b a va c vc d vd kO kP).all fun p => refsInO (dom (bkM b a va c vc d vd kO kP)) p.2) = true := bk_refsD fun p h => mem_dom h
theorem bkr_refs {b : Book} {a va c vc d vd kO kP : Nat} : ((bkM b a va c vc d vd kO kP).reverse.all fun p => refsInO (dom (bkM b a va c vc d vd kO kP).reverse) p.2) = true := by
  rw [List.all_reverse]
  exact bk_refsD fun p h => mem_dom (List.mem_reverse.2 h)
theorem bk_refV' {b : Book} {a va c vc d vd kO kP : Nat} {D : List Nat} (h : ∀ p ∈ bkM b a va c vc d vd kO kP, p.1 ∈ D) : refsIn D (bkV b a va c vc d vd) = true := by
  have h1 : a ∈ D := h (a, _) (by simp only [bkM, OO, List.cons_append, List.mem_cons]; exact .inl rfl)
  have h2 : c ∈ D := h (c, _) (by simp only [bkM, OO, List.cons_append, List.mem_cons, List.mem_append]; exact .inr (.inr (.inl rfl)))
  have h3 : d ∈ D := h (d, _) (by simp only [bkM, List.mem_append]; exact .inr (.inr (List.mem_singleton.2 rfl)))
  simp [bkV, refsIn, refsInL, h1, h2, h3]
theorem bk_refV {b : Book} {a va c vc d vd kO kP : Nat} : refsIn (dom (bkM b a va c vc d vd kO kP)) (bkV b a va c vc d vd) = true := bk_refV' (kO := kO) (kP := kP) fun p h => mem_dom h
theorem bkr_refV {b : Book} {a va c vc d vd kO kP : Nat} : refsIn (dom (bkM b a va c vc d vd kO kP).reverse) (bkV b a va c vc d vd) = true := bk_refV' (kO := kO) (kP := kP) fun p h => mem_dom (List.mem_reverse.2 h)
theorem bk_99 {b : Book} {a va c vc d vd kO kP : Nat} : ∀ p ∈ bkM b a va c vc d vd kO kP, No99O p.2 := fun p hp => by
  simp only [bkM, List.mem_append] at hp
  rcases hp with h | h | h
  · exact OO_99 rok_Own p h
  · exact OO_99 rok_Part p h
  · rw [List.mem_singleton.1 h]; exact no99_Seen _
theorem bk_plain {b : Book} {a va c vc d vd kO kP : Nat} : ((bkM b a va c vc d vd kO kP).all fun p => plainO p.2) = true := by
  have h1 := OO_plain (o := a) (e := 71) (v := va) (sz := 11) (es := esOwn) (k := kO) (i0 := 0) (a := b.own) rok_Own
  have h2 := OO_plain (o := c) (e := 124) (v := vc) (sz := 3) (es := esPart) (k := kP) (i0 := 0) (a := b.parts) rok_Part
  unfold bkM
  rw [List.all_append, List.all_append, h1, h2, Bool.true_and, Bool.true_and]
  simp only [List.all_cons, List.all_nil, Bool.and_true, plainO]
  rw [List.all_eq_true]
  intro r hr
  obtain ⟨x, _, rfl⟩ := List.mem_map.1 hr
  rfl
theorem bk_100 {b : Book} {a va c vc d vd kO kP : Nat} (ha : 100 ≤ a % 1000) (hc : 100 ≤ c % 1000) (hd : 100 ≤ d % 1000) (hO : kO + 11 ≤ 1000) (hP : kP + 3 ≤ 1000) (h1 : 100 ≤ kO) (h2 : 100 ≤ kP) : big100 (bkM b a va c vc d vd kO kP) :=
  big100_app (OO_100 rok_Own hO h1 ha) (big100_app (OO_100 rok_Part hP h2 hc) (big100_cons hd big100_nil))
theorem bkM_ren {b : Book} {a va c vc d vd kO kP kO' kP' : Nat} {σ : Nat → Nat} (hO : ∀ j i, j < 11 → σ (fam (kO + j) (0 + i)) = fam (kO' + j) (0 + i)) (hP : ∀ j i, j < 3 → σ (fam (kP + j) (0 + i)) = fam (kP' + j) (0 + i)) : renM σ (bkM b a va c vc d vd kO kP) = bkM b (σ a) va (σ c) vc (σ d) vd kO' kP' := by
  simp only [bkM, renM_app, OwnS, PartS, SeenS, OO_ren rok_Own hes_Own hO, OO_ren rok_Part hes_Part hP, renM, renO]
  rfl
theorem bkV_ren {b : Book} {a va c vc d vd : Nat} {σ : Nat → Nat} : ren σ (bkV b a va c vc d vd) = bkV b (σ a) va (σ c) vc (σ d) vd := by simp only [bkV, ren, renL]
theorem purN_bk {M K : Nat → Option AObj} {b : Book} {a va c vc d vd kO kP : Nat} (hM : ∀ p ∈ bkM b a va c vc d vd kO kP, M p.1 = some p.2) (hK : ∀ p ∈ bkM b a va c vc d vd kO kP, K p.1 = some p.2) : purN M K (bkV b a va c vc d vd) = some (.agg (b.row 99)) := by
  have m1 : ∀ p ∈ OwnS a va kO b.own, p ∈ bkM b a va c vc d vd kO kP := fun p hp => by simp only [bkM, List.mem_append]; exact .inl hp
  have m2 : ∀ p ∈ PartS c vc kP b.parts, p ∈ bkM b a va c vc d vd kO kP := fun p hp => by simp only [bkM, List.mem_append]; exact .inr (.inl hp)
  have m3 : ∀ p ∈ SeenS d vd b.seen, p ∈ bkM b a va c vc d vd kO kP := fun p hp => by simp only [bkM, List.mem_append]; exact .inr (.inr hp)
  have e1 := purN_OO (M := M) (K := K) (o := a) (e := 71) (v := va) (sz := 11) (m := b.own.length) rok_Own hes_Own rfl (fun p hp => hM p (m1 p hp)) (fun p hp => hK p (m1 p hp))
  have e2 := purN_OO (M := M) (K := K) (o := c) (e := 124) (v := vc) (sz := 3) (m := b.parts.length) rok_Part hes_Part rfl (fun p hp => hM p (m2 p hp)) (fun p hp => hK p (m2 p hp))
  have e3 := purN_flat (M := M) (K := K) (hM _ (m3 (d, .arr 118 vd 2 (b.seen.map Seen.row)) (List.mem_singleton.2 rfl))) (fun r hr => by obtain ⟨x, _, rfl⟩ := List.mem_map.1 hr; rfl) (List.length_map ..).symm
  simp only [bkV, purN, purNL] at e1 e2 e3 ⊢
  simp only [e1, e2, e3, Option.map_some, Book.row]
  rfl
theorem tag_bk (t : Nat) (b : Book) : tag0 (.agg (b.row t)) = .agg (b.row 0) := by
  simp only [Book.row, tag0, tag0L, tag_Owns, tag_Parts]
  rw [tag_flat (f := Seen.row) (fun _ => rfl)]
theorem no98_bk (t : Nat) (ht : t ≠ 98) (b : Book) : no98 (.agg (b.row t)) = true := by
  simp only [Book.row, no98, no98L, no98_Owns ht, no98_Parts ht]
  rw [no98_rows (f := Seen.row) (fun _ => rfl)]
  simp [ht]
set_option maxHeartbeats 2000000 in
theorem c_toBookO (b : Book) (hs : b.small) : Contract P 11 [.agg (b.row 1)] [] (bkV b 611 0 612 0 613 0) (bkM b 611 0 612 0 613 0 120 140) := by
  have d3 : True := trivial
  unfold Book.small at hs
  have hT1 := ((c_toOwnSO 1 b.own hs.1.1 hs.1.2).ren (swp 107 611) (swp_swp _ _)).post_eq (post' := (OwnS 611 0 120 b.own).reverse) (by
    rw [OO_ren (k' := 120) (i1 := 0) rok_Own hes_Own (fun j i hj => swp_fam (by omega) (by omega))]
    exact funext fun o => getM_rev (OO_uniq rok_Own (by omega) (by omega)) o)
  have hT2 := ((c_toPartSO 1 b.parts hs.2.1.1 hs.2.1.2).ren (swp 107 612) (swp_swp _ _)).post_eq (post' := (PartS 612 0 140 b.parts).reverse) (by
    rw [OO_ren (k' := 140) (i1 := 0) rok_Part hes_Part (fun j i hj => swp_fam (by omega) (by omega))]
    exact funext fun o => getM_rev (OO_uniq rok_Part (by omega) (by omega)) o)
  have hT3 := (c_toSeenSO 1 b.seen (by omega)).ren (swp 107 613) (swp_swp _ _)
  simp only [renL, ren, renM, renO, swp, reduceIte, Nat.reduceEqDiff, Nat.reduceLT] at hT1 hT2 hT3
  have d1 : dis (OwnS 611 0 120 b.own) (PartS 612 0 140 b.parts) := fun p hp q hq e => by
    have := OO_num rok_Own (by omega) hp; have := OO_num rok_Part (by omega) hq; omega
  have d2 : dis (PartS 612 0 140 b.parts) (OwnS 611 0 120 b.own) := dis_symm d1
  simp only [Book.row]
  refine fn_sound (Env.nil P) hm k_laws_toHandBook (nlb rfl) rfl ?_; unfold s_laws_toHandBook; simp (maxSteps := 2000000) (maxDischargeDepth := 8) only [bitvec_to_nat, reduceIte, Nat.reduceEqDiff, Nat.reduceAdd, Nat.reduceLeDiff, reduceCtorEq, Nat.reduceBEq, Nat.reduceLT, Nat.reduceMod, fmc, retG_ret, retQ_eq, retQ_eqN, retOk, keepB, re_tupl, orr_t, int_toBitVec_meta, method_specs_simp, Nat.sub_zero, bkV, List.append_nil, offs_getA, offs_get, offs_setA, offs_set, ap_cons, ap_skip, ap_skip0, ap_over, ap_over0, ap_self, ap_self0, ap_new, ap_appU, offs_rev, OwnO_offs, PartO_offs, OwnO_uniq, PartO_uniq, List.cons_append, List.nil_append, List.append_assoc, dis_revR, d1, d2, d3, OO_get, OO_getA]
  refine ⟨_, _, .inr (.inr (.inl ⟨_, rfl, hT1, newK_rev (by repeat' (first | exact newK_nil | refine newK_cons (OwnO_offs (by omega) (by omega) (by omega)) ?_)), by simp [refsIn, OO, dom], OO_refr rok_Own hes_Own, trivial, fun p hp => OO_99 rok_Own p (List.mem_reverse.1 hp)⟩)), ?_⟩
  simp (maxSteps := 2000000) (maxDischargeDepth := 8) only [bitvec_to_nat, reduceIte, Nat.reduceEqDiff, Nat.reduceAdd, Nat.reduceLeDiff, reduceCtorEq, Nat.reduceBEq, Nat.reduceLT, Nat.reduceMod, fmc, retG_ret, retQ_eq, retQ_eqN, retOk, keepB, re_tupl, orr_t, int_toBitVec_meta, method_specs_simp, Nat.sub_zero, bkV, List.append_nil, offs_getA, offs_get, offs_setA, offs_set, ap_cons, ap_skip, ap_skip0, ap_over, ap_over0, ap_self, ap_self0, ap_new, ap_appU, offs_rev, OwnO_offs, PartO_offs, OwnO_uniq, PartO_uniq, List.cons_append, List.nil_append, List.append_assoc, dis_revR, d1, d2, d3, OO_get, OO_getA]
  refine ⟨_, _, .inr (.inr (.inl ⟨_, rfl, hT2, newK_rev (by repeat' (first | exact newK_nil | exact newK_app0 d1 | refine newK_app d1 ?_ | refine newK_cons (PartO_offs (by omega) (by omega) (by omega)) ?_)), by simp [refsIn, OO, dom], OO_refr rok_Part hes_Part, trivial, fun p hp => OO_99 rok_Part p (List.mem_reverse.1 hp)⟩)), ?_⟩
  simp (maxSteps := 2000000) (maxDischargeDepth := 8) only [bitvec_to_nat, reduceIte, Nat.reduceEqDiff, Nat.reduceAdd, Nat.reduceLeDiff, reduceCtorEq, Nat.reduceBEq, Nat.reduceLT, Nat.reduceMod, fmc, retG_ret, retQ_eq, retQ_eqN, retOk, keepB, re_tupl, orr_t, int_toBitVec_meta, method_specs_simp, Nat.sub_zero, bkV, List.append_nil, offs_getA, offs_get, offs_setA, offs_set, ap_cons, ap_skip, ap_skip0, ap_over, ap_over0, ap_self, ap_self0, ap_new, ap_appU, offs_rev, OwnO_offs, PartO_offs, OwnO_uniq, PartO_uniq, List.cons_append, List.nil_append, List.append_assoc, dis_revR, d1, d2, d3, OO_get, OO_getA]
  refine ⟨_, _, .inr (.inr (.inl ⟨_, rfl, hT3, new_one (by simp (config := { maxDischargeDepth := 8 }) only [getM, offs_getA, offs_get, offs_setA, offs_set, ap_cons, ap_skip, ap_skip0, ap_over, ap_over0, ap_self, ap_self0, ap_new, ap_appU, offs_rev, OwnO_offs, PartO_offs, OwnO_uniq, PartO_uniq, List.cons_append, List.nil_append, List.append_assoc, dis_revR, d1, d2, d3, OO_get, OO_getA, Nat.reduceEqDiff, Nat.reduceLT, Nat.reduceAdd, Nat.reduceLeDiff, reduceIte, ne_eq, not_false_eq_true]), by simp [refsIn, dom], rfl, trivial, by simp [No99O, no99_Seen]⟩)), ?_⟩
  simp (maxSteps := 2000000) (maxDischargeDepth := 8) only [bitvec_to_nat, reduceIte, Nat.reduceEqDiff, Nat.reduceAdd, Nat.reduceLeDiff, reduceCtorEq, Nat.reduceBEq, Nat.reduceLT, Nat.reduceMod, fmc, retG_ret, retQ_eq, retQ_eqN, retOk, keepB, re_tupl, orr_t, int_toBitVec_meta, method_specs_simp, Nat.sub_zero, bkV, List.append_nil, offs_getA, offs_get, offs_setA, offs_set, ap_cons, ap_skip, ap_skip0, ap_over, ap_over0, ap_self, ap_self0, ap_new, ap_appU, offs_rev, OwnO_offs, PartO_offs, OwnO_uniq, PartO_uniq, List.cons_append, List.nil_append, List.append_assoc, dis_revR, d1, d2, d3, OO_get, OO_getA]
  have ho : ∀ q, q < 600 → offs (bkM b 611 0 612 0 613 0 120 140) q := fun q hq p hp e => by
    have := bk_num (by omega) (by omega) hp; omega
  refine ⟨wkM_self (getK_cons (ho 101 (by omega)) (getK_cons (ho 102 (by omega)) (getK_cons (ho 103 (by omega)) (uniq_self (bk_uniq (by omega) (by omega) (by omega) (by omega) (by omega) (by omega) (by omega) (by omega) (by omega)))))), bk_refs, by have := bk_refV (b := b) (a := 611) (va := 0) (c := 612) (vc := 0) (d := 613) (vd := 0) (kO := 120) (kP := 140); simpa only [bkV, refsIn, refsInL, Bool.and_true, dom] using this, ?_⟩
  simp only [Bool.true_or, Bool.true_and]
  exact big_all (bk_100 (b := b) (a := 611) (va := 0) (c := 612) (vc := 0) (d := 613) (vd := 0) (kO := 120) (kP := 140) (by omega) (by omega) (by omega) (by omega) (by omega) (by omega) (by omega))
end
end Go.Ve

namespace Go.Ve
noncomputable section
open Go.Proofs
set_option maxRecDepth 100000
open Go.ChangeShapes Go.WideShapes
def t_heldByteArrayS : List AV → Option (Prop × AV)
  | [.sl _ 1 zx, .int .i64 k] => some (zx = (ms_ByteArray k zx.length).map srow ∧ zx.length ≤ 1048577 ∧ (0 ≤ k ∧ k ≤ 1125899906842624), .int .i64 (k + (zx.length : Nat)))
  | _ => none
theorem h_heldByteArrayS : ∀ args p v, t_heldByteArrayS args = some (p, v) → p → Contract P 97 args [] v [] ∧ noref v = true ∧ No99 v := by
  intro args p v h1 h2
  unfold t_heldByteArrayS at h1
  split at h1
  · rename_i t zx k
    cases h1
    obtain ⟨e1, h3, h4⟩ := h2
    have := c_heldByteArrayS t k zx.length h3 h4
    rw [← e1] at this
    exact ⟨this, rfl, trivial⟩
  · cases h1
def t_heldBox6S : List AV → Option (Prop × AV)
  | [.sl _ 6 zx, .int .i64 k] => some (zx = (ms_Box6 k zx.length).map Box6.row ∧ zx.length ≤ 1048577 ∧ (0 ≤ k ∧ k ≤ 1125899906842624), .int .i64 (k + 6 * (zx.length : Nat)))
  | _ => none
theorem h_heldBox6S : ∀ args p v, t_heldBox6S args = some (p, v) → p → Contract P 56 args [] v [] ∧ noref v = true ∧ No99 v := by
  intro args p v h1 h2
  unfold t_heldBox6S at h1
  split at h1
  · rename_i t zx k
    cases h1
    obtain ⟨e1, h3, h4⟩ := h2
    have := c_heldBox6S t k zx.length h3 h4
    rw [← e1] at this
    exact ⟨this, rfl, trivial⟩
  · cases h1
/-- A word, and the version of its own tube. -/
structure VW where
  ve : Nat
  kd : Int
  fr : ByteArray
  dst : ByteArray
  fl : ByteArray
  nr : Int
  la : Int
  tn : Int
  tu : List Box6
  deriving Inhabited
def VW.rowO (w : VW) : List AV := [.int .i64 w.kd, .str w.fr, .str w.dst, .str w.fl, .int .i64 w.nr, .int .i64 w.la, .int .i64 w.tn, .sl w.ve 6 (w.tu.map Box6.row)]
def VW.w (w : VW) : Word := ⟨w.kd, w.fr, w.dst, w.fl, w.nr, w.la, w.tn, w.tu⟩
theorem rok_VW : RowOk 8 VW.rowO := ⟨fun x => rfl, fun x => by simp only [VW.rowO, List.all_cons, simpleV, plain_box, List.all_nil, Bool.and_self]⟩
def mk_Part (k : Int) (x : Part) : Part := ⟨(mtx (k)), (k + 1), (ms_Box6 (k + 1 + 1) x.bx.length)⟩
def ml_Part (x : Part) : Nat := 2 + 6 * x.bx.length
def cf_Part (l : List Part) (i : Nat) : Nat := ((l.take i).map ml_Part).sum
theorem cf_Part_succ {l : List Part} {i : Nat} (h : i < l.length) : cf_Part l (i + 1) = cf_Part l i + ml_Part (l.getD i default) := by
  unfold cf_Part
  rw [List.take_succ_eq_append_getElem h, List.map_append, List.sum_append]; simp [h]
def Part.sm (x : Part) : Prop := x.bx.length ≤ 1048577
theorem cf_Part_le {l : List Part} (hs : ∀ x ∈ l, x.sm) {i : Nat} (h : i ≤ l.length) : cf_Part l i ≤ i * 13631600 := by
  induction i with
  | zero => simp [cf_Part]
  | succ i ih =>
    have h' := ih (by omega)
    have h2 := hs _ (getD_mem' (show i < l.length from h))
    unfold Part.sm at h2
    have h3 : ml_Part (l.getD i default) ≤ 13631600 := by unfold ml_Part; omega
    rw [cf_Part_succ h]; omega
def mo_Part (k : Int) (l : List Part) : List Part := l.mapIdx fun i x => mk_Part (k + (cf_Part l i : Nat)) x
theorem mo_Part_len {k : Int} {l : List Part} : (mo_Part k l).length = l.length := by simp [mo_Part]
theorem mo_Part_get {k : Int} {l : List Part} {i : Nat} (h : i < l.length) : (mo_Part k l).getD i default = mk_Part (k + (cf_Part l i : Nat)) (l.getD i default) := by simp [mo_Part, h]
set_option maxHeartbeats 4000000 in
theorem c_markPartO (v : Nat) (k : Int) (a : List Part) (ha : a.length ≤ 1048577) (hs : ∀ x ∈ a, x.sm) (hk : 0 ≤ k ∧ k ≤ 35184372088832) : Contract P 54 [.own 3 v 0 a.length, .int .i64 k] (OO 3 124 v 3 esPart (Part.row 0) 7 0 a) (.int .i64 (k + (cf_Part a a.length : Nat))) (OO 3 124 v 3 esPart (Part.row 0) 7 0 (mo_Part k a)) := by
  have hr0 : True := trivial
  have gsr : True := trivial
  have hg0 : True := trivial
  have hg1 : True := trivial
  have hg2 : True := trivial
  have cl : ∀ (l : List Part) (kk : Int) (i : Nat), closedB ⟨[(0, .own 3 v 0 a.length), (1, .int .i64 kk), (5, .int .i64 i)], OO 3 124 v 3 esPart (Part.row 0) 7 0 l⟩ = true := fun l kk i => by
    simp only [closedB, List.all_cons, Bool.and_eq_true]
    exact ⟨⟨by simp [refsIn, dom, OO], rfl, rfl, rfl⟩, OO_refs rok_Part hes_Part⟩
  have dsh : ∀ x y : Part, ((Part.row 0) x).map colSl = ((Part.row 0) y).map colSl := fun _ _ => rfl
  refine fn_sound ((Env.nil P).add 52 t_markText h_markText) Go.Ve.hm k_laws_markHandPartS (nlb rfl) ?_ ?_
  · rw [List.all_eq_true]
    intro q hq
    obtain ⟨p, hp, rfl⟩ := List.mem_map.1 hq
    have := OO_num rok_Part (by omega) hp
    simp only [decide_eq_true_eq]; omega
  unfold s_laws_markHandPartS
  simp (maxSteps := 2000000) only [bitvec_to_nat, reduceIte, Nat.reduceEqDiff, Nat.reduceAdd, Nat.reduceLeDiff, reduceCtorEq, Nat.reduceBEq, Nat.reduceLT, Nat.reduceMod, fmc, retG_ret, retQ_eq, retQ_eqN, retOk, keepB, re_tupl, orr_t, t_markText, hg0, hg1, hg2, hr0, gsr, List.set_set, el_g1, Int.toNat_natCast, List.length_map, List.length_set, oRows_len, Nat.sub_zero, Nat.zero_add, fam_ne, fam_ne', getM_setM, fam_eqF, ms_Box6_len]
  refine loop_F (fun b : Nat × List Part => ⟨[(0, .own 3 v 0 a.length), (1, .int .i64 (k + (cf_Part a b.1 : Nat))), (5, .int .i64 b.1)], OO 3 124 v 3 esPart (Part.row 0) 7 0 b.2⟩)
    (fun b => b.1 ≤ a.length ∧ b.2.length = a.length ∧ (∀ j, j < b.1 → b.2.getD j default = mk_Part (k + (cf_Part a j : Nat)) (a.getD j default)) ∧ ∀ j, b.1 ≤ j → j < a.length → b.2.getD j default = a.getD j default)
    (fun b => a.length - b.1) (0, a) ?_ ⟨Nat.zero_le _, rfl, fun j hj => absurd hj (Nat.not_lt_zero _), fun j _ _ => rfl⟩ ?_
  · have e0 : k + ((cf_Part a 0 : Nat) : Int) = k := by simp [cf_Part]
    simp only [e0]
    exact ⟨by repeat' (first | exact trivial | refine ⟨.inr rfl, ?_⟩), wkM_self (OO_self rok_Part (by omega) (by omega)), cl _ _ _, keep_self⟩
  rintro ⟨i, l⟩ ⟨h1, h2, h3, h4⟩ NX hN
  simp only at h1 h2 h3 h4
  have hct := cf_Part_le hs h1
  by_cases hi : i < a.length
  · have hli := h4 i (Nat.le_refl _) hi
    have hil : i < l.length := by omega
    have hx := hs _ (getD_mem' hi)
    unfold Part.sm at hx
    have hr0 : (oRows (Part.row 0) 7 0 l).getD i [] = [.str (a.getD i default).fl, .int .i64 (a.getD i default).nr, .own (fam 9 i) 0 0 (a.getD i default).bx.length] := by rw [oRows_get hil, hli]; simp [Part.row, ownR, ownC]
    have gsr : ∀ r : List AV, ((oRows (Part.row 0) 7 0 l).set i r).getD i [] = r := fun r => getD_setR (by rw [oRows_len]; exact hil)
    have hM0 := (c_markBox6S 0 (k + (cf_Part a i : Nat) + 1 + 1) (a.getD i default).bx (by omega) (by omega)).ren (swp 3 (fam 9 i)) (swp_swp _ _)
    simp only [renL, ren, renM, renO, swp, reduceIte, Nat.reduceLT] at hM0
    have hg0 : getM (oObjs esPart (Part.row 0) 7 0 l) (fam 9 i) = some (.arr 100 0 6 ((a.getD i default).bx.map Box6.row)) := by
      have := oObjs_get (es := esPart) (k := 7) (i0 := 0) (a := l) (i := i) (j := 2) (v := 0) (sz := 6) (xs := (a.getD i default).bx.map Box6.row) rok_Part (by omega) hil (by rw [hli]; rfl)
      rw [Nat.zero_add] at this
      exact this
    have e5 : k + ((cf_Part a (i + 1) : Nat) : Int) = k + (cf_Part a i : Nat) + 1 + 1 + 6 * ((a.getD i default).bx.length : Int) := by rw [cf_Part_succ hi]; unfold ml_Part; omega
    simp only [OO]
    unfold l_laws_markHandPartS_0; simp (maxSteps := 2000000) only [bitvec_to_nat, reduceIte, Nat.reduceEqDiff, Nat.reduceAdd, Nat.reduceLeDiff, reduceCtorEq, Nat.reduceBEq, Nat.reduceLT, Nat.reduceMod, fmc, retG_ret, retQ_eq, retQ_eqN, retOk, keepB, re_tupl, orr_t, t_markText, hg0, hg1, hg2, hr0, gsr, List.set_set, el_g1, Int.toNat_natCast, List.length_map, List.length_set, oRows_len, Nat.sub_zero, Nat.zero_add, fam_ne, fam_ne', getM_setM, fam_eqF, ms_Box6_len]
    refine ⟨fun _ => ?_, fun h => absurd (by omega) h⟩
    repeat (refine ⟨by first | omega | rfl, ?_⟩)
    refine ⟨_, _, .inl ⟨_, hM0, by simp [getM, getM_setM, fam_ne, fam_ne', fam_eqF, hg0], by simp [dom], by simp [dom], by simp [refsInL, refsIn, dom], by simp [refsInO], rfl, by simp [refsInO]⟩, ?_⟩
    simp (maxSteps := 2000000) only [bitvec_to_nat, reduceIte, Nat.reduceEqDiff, Nat.reduceAdd, Nat.reduceLeDiff, reduceCtorEq, Nat.reduceBEq, Nat.reduceLT, Nat.reduceMod, fmc, retG_ret, retQ_eq, retQ_eqN, retOk, keepB, re_tupl, orr_t, t_markText, hg0, hg1, hg2, hr0, gsr, List.set_set, el_g1, Int.toNat_natCast, List.length_map, List.length_set, oRows_len, Nat.sub_zero, Nat.zero_add, fam_ne, fam_ne', getM_setM, fam_eqF, ms_Box6_len]
    repeat (refine ⟨by omega, ?_⟩)
    rw [← e5]
    have hd1 : (l.set i (mk_Part (k + (cf_Part a i : Nat)) (a.getD i default))).length = l.length := List.length_set
    refine hN (i + 1, l.set i (mk_Part (k + (cf_Part a i : Nat)) (a.getD i default))) _ ⟨by repeat' (first | exact trivial | refine ⟨.inr rfl, ?_⟩), wkM_self (OO_upd rok_Part (by omega) ?_ ?_ ?_), cl _ _ _, keepB_dom ?_⟩ ⟨hi, by rw [List.length_set]; exact h2, fun j hj => ?_, fun j h6 h7 => ?_⟩ (by simp only; omega)
    · simp only [getM, Nat.reduceEqDiff, reduceIte]
      rw [oRows_put hil (y := mk_Part (k + (cf_Part a i : Nat)) (a.getD i default)) (by simp [Part.row, ownR, ownC, mk_Part, ms_Box6_len])]
    · intro p hp hne
      have q1 := uniq_self (oObjs_uniq rok_Part (by omega)) p hp
      have q2 := (oObjs_num rok_Part (by omega) hp).1
      have q3 : ∀ c, c < 1000 → (p.1 = fam c i) = False := fun c hc => by have := hne c hc; rw [Nat.zero_add] at this; simp [this]
      have q4 : (p.1 = 3) = False := by simp; omega
      simp only [getM, getM_setM, q4, if_false, q3 9 (by omega), q1]
    · intro j v' sz xs hj
      rw [Nat.zero_add]
      have hj2 := col_lt hj
      rw [rok_Part.len] at hj2
      have cases : j = 0 ∨ j = 1 ∨ j = 2 := by omega
      rcases cases with rfl | rfl | rfl
      all_goals first
        | (cases hj; done)
        | (cases hj; simp [getM, getM_setM, fam_ne, fam_ne', fam_eqF, esPart, mk_Part, hg0]; done)
        | (simp [Part.row, mk_Part] at hj; obtain ⟨rfl, rfl, rfl⟩ := hj; simp [getM, getM_setM, fam_ne, fam_ne', fam_eqF, esPart]; done)
        | (simp [Part.row, mk_Part] at hj; done)
        | trace_state
    · have q0 : ∀ x, dom ((3, x) :: oObjs esPart (Part.row 0) 7 0 l) = dom (OO 3 124 v 3 esPart (Part.row 0) 7 0 l) := fun x => rfl
      have qm : ∀ j v' sz xs, ((Part.row 0) (l.getD i default))[j]? = some (.sl v' sz xs) → fam (7 + j) i ∈ dom (oObjs esPart (Part.row 0) 7 0 l) := fun j v' sz xs hj => by
        have := mem_dom (oObjs_mem (es := esPart) (k := 7) (i0 := 0) (p := (fam (7 + j) (0 + i), .arr (esPart j) v' sz xs)).2 ⟨i, j, v', sz, xs, hil, hj, rfl⟩)
        rw [Nat.zero_add] at this
        exact this
      have qm0 : fam 9 i ∈ dom (oObjs esPart (Part.row 0) 7 0 l) := qm 2 _ _ _ (by rw [hli]; rfl)
      have qd : dom (OO 3 124 v 3 esPart (Part.row 0) 7 0 (l.set i (mk_Part (k + (cf_Part a i : Nat)) (a.getD i default)))) = dom (OO 3 124 v 3 esPart (Part.row 0) 7 0 l) := OO_dom dsh hd1
      rw [qd, ← q0 .gone]
      simp only [dom, List.map_cons, List.cons.injEq, true_and]
      have qs := fun (M : List (Nat × AObj)) (o : Nat) (x : AObj) (h : o ∈ dom M) => dom_setM (M := M) (o := o) (x := x) h
      simp only [dom] at qs qm0 ⊢
      simp (config := { maxDischargeDepth := 8 }) only [qs, qm0]
    · simp only at hj ⊢
      by_cases e : j = i
      · subst e; exact getD_seti' hil
      · rw [getD_setn' (Ne.symm e)]; exact h3 j (by omega)
    · simp only at h6 ⊢
      rw [getD_setn' (by omega)]; exact h4 j (by omega) h7
  · have hl : l = mo_Part k a := ext_of (by rw [mo_Part_len]; exact h2) fun j hj => by rw [mo_Part_get (by omega)]; exact h3 j (by omega)
    have e : i = a.length := by omega
    subst hl
    subst e
    simp only [OO]
    unfold l_laws_markHandPartS_0; simp (maxSteps := 2000000) only [bitvec_to_nat, reduceIte, Nat.reduceEqDiff, Nat.reduceAdd, Nat.reduceLeDiff, reduceCtorEq, Nat.reduceBEq, Nat.reduceLT, Nat.reduceMod, fmc, retG_ret, retQ_eq, retQ_eqN, retOk, keepB, re_tupl, orr_t, t_markText, hg0, hg1, hg2, hr0, gsr, List.set_set, el_g1, Int.toNat_natCast, List.length_map, List.length_set, oRows_len, Nat.sub_zero, Nat.zero_add, fam_ne, fam_ne', getM_setM, fam_eqF, ms_Box6_len]
    refine ⟨fun h => absurd h (by omega), fun _ => ⟨wkM_self fun p hp => OO_self (o := 3) (e := 124) (v := v) (sz := 3) rok_Part (by omega) (by omega) p (List.mem_cons_of_mem _ hp), OO_refs (o := 3) (v := v) (sz := 3) (e := 124) rok_Part hes_Part, keep_self (M := OO 3 124 v 3 esPart (Part.row 0) 7 0 (mo_Part k a))⟩⟩
set_option maxHeartbeats 4000000 in
theorem c_heldPartO (t t' : Nat) (k : Int) (a : List Part) (ha : a.length ≤ 1048577) (hs : ∀ x ∈ a, x.sm) (hk : 0 ≤ k ∧ k ≤ 35184372088832) : Contract P 63 [.sl t 3 ((mo_Part k a).map (Part.row t')), .int .i64 k] [] (.int .i64 (k + (cf_Part a a.length : Nat))) [] := by
  refine fn_sound (((Env.nil P).add 52 t_markText h_markText).add 56 t_heldBox6S h_heldBox6S) hm k_laws_heldHandPartS (nlb rfl) rfl ?_; unfold s_laws_heldHandPartS; simp (maxSteps := 2000000) only [bitvec_to_nat, reduceIte, Nat.reduceEqDiff, Nat.reduceAdd, Nat.reduceLeDiff, reduceCtorEq, Nat.reduceBEq, Nat.reduceLT, Nat.reduceMod, fmc, t_markText, t_heldBox6S, int_toBitVec_meta, method_specs_simp, Int.toNat_natCast, List.length_map, Nat.sub_zero, Nat.zero_add, mo_Part_len, ms_Box6_len]
  refine loop_st (fun i : Nat => [(1, .int .i64 (k + (cf_Part a i : Nat))), (5, .int .i64 i)]) (fun _ => []) (fun i => i ≤ a.length) (fun i => a.length - i) 0 ?_ (Nat.zero_le _) ?_
  · have e0 : k + ((cf_Part a 0 : Nat) : Int) = k := by simp [cf_Part]
    simp only [e0]
    simp only [u_E0, u_E1, u_M0, u_M1, w_setE0, w_setE1, w_setM0, w_setM1, reduceIte, Nat.reduceEqDiff]; exact ⟨by repeat' (first | exact trivial | refine ⟨.inr rfl, ?_⟩), by repeat' (first | exact trivial | refine ⟨rfl, ?_⟩), by first | rfl | simp [closedB, refsIn, refsInL, refsInO, dom, refsInL_nr, *], by first | rfl | simp [keepB, dom]⟩
  intro i hi NX hN
  have hct := cf_Part_le hs hi
  by_cases h : i < a.length
  · have hg := mo_Part_get (k := k) h
    have hx := hs _ (getD_mem' h)
    unfold Part.sm at hx
    have e5 : k + ((cf_Part a (i + 1) : Nat) : Int) = k + (cf_Part a i : Nat) + 1 + 1 + 6 * ((a.getD i default).bx.length : Int) := by rw [cf_Part_succ h]; unfold ml_Part; omega
    unfold l_laws_heldHandPartS_0; simp (maxSteps := 2000000) only [bitvec_to_nat, reduceIte, Nat.reduceEqDiff, Nat.reduceAdd, Nat.reduceLeDiff, reduceCtorEq, Nat.reduceBEq, Nat.reduceLT, Nat.reduceMod, fmc, t_markText, t_heldBox6S, int_toBitVec_meta, method_specs_simp, Int.toNat_natCast, List.length_map, Nat.sub_zero, Nat.zero_add, mo_Part_len, ms_Box6_len, hg, mk_Part, not_true_eq_false, ne_eq, bne_self_eq_false, eq_self, not_false_eq_true]
    repeat' (first | with_reducible apply And.intro | with_reducible intro _)
    all_goals first
      | omega
      | rfl
      | (rename_i h; exact absurd rfl h)
      | (refine hN (i + 1) _ (by simp only [e5]; simp only [u_E0, u_E1, u_M0, u_M1, w_setE0, w_setE1, w_setM0, w_setM1, reduceIte, Nat.reduceEqDiff]; exact ⟨by repeat' (first | exact trivial | refine ⟨.inr rfl, ?_⟩), by repeat' (first | exact trivial | refine ⟨rfl, ?_⟩), by first | rfl | simp [closedB, refsIn, refsInL, refsInO, dom, refsInL_nr, *], by first | rfl | simp [keepB, dom]⟩) ?_ ?_ <;> omega)
      | trace_state
  · have e : i = a.length := by omega
    subst e
    unfold l_laws_heldHandPartS_0; simp (maxSteps := 2000000) only [bitvec_to_nat, reduceIte, Nat.reduceEqDiff, Nat.reduceAdd, Nat.reduceLeDiff, reduceCtorEq, Nat.reduceBEq, Nat.reduceLT, Nat.reduceMod, fmc, t_markText, t_heldBox6S, int_toBitVec_meta, method_specs_simp, Int.toNat_natCast, List.length_map, Nat.sub_zero, Nat.zero_add, mo_Part_len, ms_Box6_len]
    repeat' (first | with_reducible apply And.intro | with_reducible intro _)
    all_goals first
      | omega
      | rfl
      | (exfalso; omega)
      | trace_state
def mk_VW (k : Int) (x : VW) : VW := ⟨x.ve, (k), (mtx (k + 1)), (mtx (k + 1 + 1)), (mtx (k + 1 + 1 + 1)), (k + 1 + 1 + 1 + 1), (k + 1 + 1 + 1 + 1 + 1), (k + 1 + 1 + 1 + 1 + 1 + 1), (ms_Box6 (k + 1 + 1 + 1 + 1 + 1 + 1 + 1) x.tu.length)⟩
def ml_VW (x : VW) : Nat := 7 + 6 * x.tu.length
def cf_VW (l : List VW) (i : Nat) : Nat := ((l.take i).map ml_VW).sum
theorem cf_VW_succ {l : List VW} {i : Nat} (h : i < l.length) : cf_VW l (i + 1) = cf_VW l i + ml_VW (l.getD i default) := by
  unfold cf_VW
  rw [List.take_succ_eq_append_getElem h, List.map_append, List.sum_append]; simp [h]
def VW.sm (x : VW) : Prop := x.tu.length ≤ 1048577
theorem cf_VW_le {l : List VW} (hs : ∀ x ∈ l, x.sm) {i : Nat} (h : i ≤ l.length) : cf_VW l i ≤ i * 13631600 := by
  induction i with
  | zero => simp [cf_VW]
  | succ i ih =>
    have h' := ih (by omega)
    have h2 := hs _ (getD_mem' (show i < l.length from h))
    unfold VW.sm at h2
    have h3 : ml_VW (l.getD i default) ≤ 13631600 := by unfold ml_VW; omega
    rw [cf_VW_succ h]; omega
def mo_VW (k : Int) (l : List VW) : List VW := l.mapIdx fun i x => mk_VW (k + (cf_VW l i : Nat)) x
theorem mo_VW_len {k : Int} {l : List VW} : (mo_VW k l).length = l.length := by simp [mo_VW]
theorem mo_VW_get {k : Int} {l : List VW} {i : Nat} (h : i < l.length) : (mo_VW k l).getD i default = mk_VW (k + (cf_VW l i : Nat)) (l.getD i default) := by simp [mo_VW, h]
set_option maxHeartbeats 4000000 in
theorem c_markVWO (v : Nat) (k : Int) (a : List VW) (ha : a.length ≤ 1048577) (hs : ∀ x ∈ a, x.sm) (hk : 0 ≤ k ∧ k ≤ 35184372088832) : Contract P 18 [.own 3 v 0 a.length, .int .i64 k] (OO 3 73 v 8 esWord (VW.rowO) 7 0 a) (.int .i64 (k + (cf_VW a a.length : Nat))) (OO 3 73 v 8 esWord (VW.rowO) 7 0 (mo_VW k a)) := by
  have hr0 : True := trivial
  have gsr : True := trivial
  have hg0 : True := trivial
  have hg1 : True := trivial
  have hg2 : True := trivial
  have cl : ∀ (l : List VW) (kk : Int) (i : Nat), closedB ⟨[(0, .own 3 v 0 a.length), (1, .int .i64 kk), (5, .int .i64 i)], OO 3 73 v 8 esWord (VW.rowO) 7 0 l⟩ = true := fun l kk i => by
    simp only [closedB, List.all_cons, Bool.and_eq_true]
    exact ⟨⟨by simp [refsIn, dom, OO], rfl, rfl, rfl⟩, OO_refs rok_VW hes_Word⟩
  have dsh : ∀ x y : VW, ((VW.rowO) x).map colSl = ((VW.rowO) y).map colSl := fun _ _ => rfl
  refine fn_sound ((Env.nil P).add 52 t_markText h_markText) Go.Ve.hm k_laws_markHandWordS (nlb rfl) ?_ ?_
  · rw [List.all_eq_true]
    intro q hq
    obtain ⟨p, hp, rfl⟩ := List.mem_map.1 hq
    have := OO_num rok_VW (by omega) hp
    simp only [decide_eq_true_eq]; omega
  unfold s_laws_markHandWordS
  simp (maxSteps := 2000000) only [bitvec_to_nat, reduceIte, Nat.reduceEqDiff, Nat.reduceAdd, Nat.reduceLeDiff, reduceCtorEq, Nat.reduceBEq, Nat.reduceLT, Nat.reduceMod, fmc, retG_ret, retQ_eq, retQ_eqN, retOk, keepB, re_tupl, orr_t, t_markText, hg0, hg1, hg2, hr0, gsr, List.set_set, el_g1, Int.toNat_natCast, List.length_map, List.length_set, oRows_len, Nat.sub_zero, Nat.zero_add, fam_ne, fam_ne', getM_setM, fam_eqF, ms_Box6_len]
  refine loop_F (fun b : Nat × List VW => ⟨[(0, .own 3 v 0 a.length), (1, .int .i64 (k + (cf_VW a b.1 : Nat))), (5, .int .i64 b.1)], OO 3 73 v 8 esWord (VW.rowO) 7 0 b.2⟩)
    (fun b => b.1 ≤ a.length ∧ b.2.length = a.length ∧ (∀ j, j < b.1 → b.2.getD j default = mk_VW (k + (cf_VW a j : Nat)) (a.getD j default)) ∧ ∀ j, b.1 ≤ j → j < a.length → b.2.getD j default = a.getD j default)
    (fun b => a.length - b.1) (0, a) ?_ ⟨Nat.zero_le _, rfl, fun j hj => absurd hj (Nat.not_lt_zero _), fun j _ _ => rfl⟩ ?_
  · have e0 : k + ((cf_VW a 0 : Nat) : Int) = k := by simp [cf_VW]
    simp only [e0]
    exact ⟨by repeat' (first | exact trivial | refine ⟨.inr rfl, ?_⟩), wkM_self (OO_self rok_VW (by omega) (by omega)), cl _ _ _, keep_self⟩
  rintro ⟨i, l⟩ ⟨h1, h2, h3, h4⟩ NX hN
  simp only at h1 h2 h3 h4
  have hct := cf_VW_le hs h1
  by_cases hi : i < a.length
  · have hli := h4 i (Nat.le_refl _) hi
    have hil : i < l.length := by omega
    have hx := hs _ (getD_mem' hi)
    unfold VW.sm at hx
    have hr0 : (oRows (VW.rowO) 7 0 l).getD i [] = [.int .i64 (a.getD i default).kd, .str (a.getD i default).fr, .str (a.getD i default).dst, .str (a.getD i default).fl, .int .i64 (a.getD i default).nr, .int .i64 (a.getD i default).la, .int .i64 (a.getD i default).tn, .own (fam 14 i) (a.getD i default).ve 0 (a.getD i default).tu.length] := by rw [oRows_get hil, hli]; simp [VW.rowO, ownR, ownC]
    have gsr : ∀ r : List AV, ((oRows (VW.rowO) 7 0 l).set i r).getD i [] = r := fun r => getD_setR (by rw [oRows_len]; exact hil)
    have hM0 := (c_markBox6S (a.getD i default).ve (k + (cf_VW a i : Nat) + 1 + 1 + 1 + 1 + 1 + 1 + 1) (a.getD i default).tu (by omega) (by omega)).ren (swp 3 (fam 14 i)) (swp_swp _ _)
    simp only [renL, ren, renM, renO, swp, reduceIte, Nat.reduceLT] at hM0
    have hg0 : getM (oObjs esWord (VW.rowO) 7 0 l) (fam 14 i) = some (.arr 100 (a.getD i default).ve 6 ((a.getD i default).tu.map Box6.row)) := by
      have := oObjs_get (es := esWord) (k := 7) (i0 := 0) (a := l) (i := i) (j := 7) (v := (a.getD i default).ve) (sz := 6) (xs := (a.getD i default).tu.map Box6.row) rok_VW (by omega) hil (by rw [hli]; rfl)
      rw [Nat.zero_add] at this
      exact this
    have e5 : k + ((cf_VW a (i + 1) : Nat) : Int) = k + (cf_VW a i : Nat) + 1 + 1 + 1 + 1 + 1 + 1 + 1 + 6 * ((a.getD i default).tu.length : Int) := by rw [cf_VW_succ hi]; unfold ml_VW; omega
    simp only [OO]
    unfold l_laws_markHandWordS_0; simp (maxSteps := 2000000) only [bitvec_to_nat, reduceIte, Nat.reduceEqDiff, Nat.reduceAdd, Nat.reduceLeDiff, reduceCtorEq, Nat.reduceBEq, Nat.reduceLT, Nat.reduceMod, fmc, retG_ret, retQ_eq, retQ_eqN, retOk, keepB, re_tupl, orr_t, t_markText, hg0, hg1, hg2, hr0, gsr, List.set_set, el_g1, Int.toNat_natCast, List.length_map, List.length_set, oRows_len, Nat.sub_zero, Nat.zero_add, fam_ne, fam_ne', getM_setM, fam_eqF, ms_Box6_len]
    refine ⟨fun _ => ?_, fun h => absurd (by omega) h⟩
    repeat (refine ⟨by first | omega | rfl, ?_⟩)
    refine ⟨_, _, .inl ⟨_, hM0, by simp [getM, getM_setM, fam_ne, fam_ne', fam_eqF, hg0], by simp [dom], by simp [dom], by simp [refsInL, refsIn, dom], by simp [refsInO], rfl, by simp [refsInO]⟩, ?_⟩
    simp (maxSteps := 2000000) only [bitvec_to_nat, reduceIte, Nat.reduceEqDiff, Nat.reduceAdd, Nat.reduceLeDiff, reduceCtorEq, Nat.reduceBEq, Nat.reduceLT, Nat.reduceMod, fmc, retG_ret, retQ_eq, retQ_eqN, retOk, keepB, re_tupl, orr_t, t_markText, hg0, hg1, hg2, hr0, gsr, List.set_set, el_g1, Int.toNat_natCast, List.length_map, List.length_set, oRows_len, Nat.sub_zero, Nat.zero_add, fam_ne, fam_ne', getM_setM, fam_eqF, ms_Box6_len]
    repeat (refine ⟨by omega, ?_⟩)
    rw [← e5]
    have hd1 : (l.set i (mk_VW (k + (cf_VW a i : Nat)) (a.getD i default))).length = l.length := List.length_set
    refine hN (i + 1, l.set i (mk_VW (k + (cf_VW a i : Nat)) (a.getD i default))) _ ⟨by repeat' (first | exact trivial | refine ⟨.inr rfl, ?_⟩), wkM_self (OO_upd rok_VW (by omega) ?_ ?_ ?_), cl _ _ _, keepB_dom ?_⟩ ⟨hi, by rw [List.length_set]; exact h2, fun j hj => ?_, fun j h6 h7 => ?_⟩ (by simp only; omega)
    · simp only [getM, Nat.reduceEqDiff, reduceIte]
      rw [oRows_put hil (y := mk_VW (k + (cf_VW a i : Nat)) (a.getD i default)) (by simp [VW.rowO, ownR, ownC, mk_VW, ms_Box6_len])]
    · intro p hp hne
      have q1 := uniq_self (oObjs_uniq rok_VW (by omega)) p hp
      have q2 := (oObjs_num rok_VW (by omega) hp).1
      have q3 : ∀ c, c < 1000 → (p.1 = fam c i) = False := fun c hc => by have := hne c hc; rw [Nat.zero_add] at this; simp [this]
      have q4 : (p.1 = 3) = False := by simp; omega
      simp only [getM, getM_setM, q4, if_false, q3 14 (by omega), q1]
    · intro j v' sz xs hj
      rw [Nat.zero_add]
      have hj2 := col_lt hj
      rw [rok_VW.len] at hj2
      have cases : j = 0 ∨ j = 1 ∨ j = 2 ∨ j = 3 ∨ j = 4 ∨ j = 5 ∨ j = 6 ∨ j = 7 := by omega
      rcases cases with rfl | rfl | rfl | rfl | rfl | rfl | rfl | rfl
      all_goals first
        | (cases hj; done)
        | (cases hj; simp [getM, getM_setM, fam_ne, fam_ne', fam_eqF, esWord, mk_VW, hg0]; done)
        | (simp [VW.rowO, mk_VW] at hj; obtain ⟨rfl, rfl, rfl⟩ := hj; simp [getM, getM_setM, fam_ne, fam_ne', fam_eqF, esWord]; done)
        | (simp [VW.rowO, mk_VW] at hj; done)
        | trace_state
    · have q0 : ∀ x, dom ((3, x) :: oObjs esWord (VW.rowO) 7 0 l) = dom (OO 3 73 v 8 esWord (VW.rowO) 7 0 l) := fun x => rfl
      have qm : ∀ j v' sz xs, ((VW.rowO) (l.getD i default))[j]? = some (.sl v' sz xs) → fam (7 + j) i ∈ dom (oObjs esWord (VW.rowO) 7 0 l) := fun j v' sz xs hj => by
        have := mem_dom (oObjs_mem (es := esWord) (k := 7) (i0 := 0) (p := (fam (7 + j) (0 + i), .arr (esWord j) v' sz xs)).2 ⟨i, j, v', sz, xs, hil, hj, rfl⟩)
        rw [Nat.zero_add] at this
        exact this
      have qm0 : fam 14 i ∈ dom (oObjs esWord (VW.rowO) 7 0 l) := qm 7 _ _ _ (by rw [hli]; rfl)
      have qd : dom (OO 3 73 v 8 esWord (VW.rowO) 7 0 (l.set i (mk_VW (k + (cf_VW a i : Nat)) (a.getD i default)))) = dom (OO 3 73 v 8 esWord (VW.rowO) 7 0 l) := OO_dom dsh hd1
      rw [qd, ← q0 .gone]
      simp only [dom, List.map_cons, List.cons.injEq, true_and]
      have qs := fun (M : List (Nat × AObj)) (o : Nat) (x : AObj) (h : o ∈ dom M) => dom_setM (M := M) (o := o) (x := x) h
      simp only [dom] at qs qm0 ⊢
      simp (config := { maxDischargeDepth := 8 }) only [qs, qm0]
    · simp only at hj ⊢
      by_cases e : j = i
      · subst e; exact getD_seti' hil
      · rw [getD_setn' (Ne.symm e)]; exact h3 j (by omega)
    · simp only at h6 ⊢
      rw [getD_setn' (by omega)]; exact h4 j (by omega) h7
  · have hl : l = mo_VW k a := ext_of (by rw [mo_VW_len]; exact h2) fun j hj => by rw [mo_VW_get (by omega)]; exact h3 j (by omega)
    have e : i = a.length := by omega
    subst hl
    subst e
    simp only [OO]
    unfold l_laws_markHandWordS_0; simp (maxSteps := 2000000) only [bitvec_to_nat, reduceIte, Nat.reduceEqDiff, Nat.reduceAdd, Nat.reduceLeDiff, reduceCtorEq, Nat.reduceBEq, Nat.reduceLT, Nat.reduceMod, fmc, retG_ret, retQ_eq, retQ_eqN, retOk, keepB, re_tupl, orr_t, t_markText, hg0, hg1, hg2, hr0, gsr, List.set_set, el_g1, Int.toNat_natCast, List.length_map, List.length_set, oRows_len, Nat.sub_zero, Nat.zero_add, fam_ne, fam_ne', getM_setM, fam_eqF, ms_Box6_len]
    refine ⟨fun h => absurd h (by omega), fun _ => ⟨wkM_self fun p hp => OO_self (o := 3) (e := 73) (v := v) (sz := 8) rok_VW (by omega) (by omega) p (List.mem_cons_of_mem _ hp), OO_refs (o := 3) (v := v) (sz := 8) (e := 73) rok_VW hes_Word, keep_self (M := OO 3 73 v 8 esWord (VW.rowO) 7 0 (mo_VW k a))⟩⟩
set_option maxHeartbeats 4000000 in
theorem c_heldVWO (t t' : Nat) (k : Int) (a : List VW) (ha : a.length ≤ 1048577) (hs : ∀ x ∈ a, x.sm) (hk : 0 ≤ k ∧ k ≤ 35184372088832) : Contract P 19 [.sl t 8 ((mo_VW k a).map (fun x : VW => Word.row t' x.w)), .int .i64 k] [] (.int .i64 (k + (cf_VW a a.length : Nat))) [] := by
  refine fn_sound (((Env.nil P).add 52 t_markText h_markText).add 56 t_heldBox6S h_heldBox6S) hm k_laws_heldHandWordS (nlb rfl) rfl ?_; unfold s_laws_heldHandWordS; simp (maxSteps := 2000000) only [bitvec_to_nat, reduceIte, Nat.reduceEqDiff, Nat.reduceAdd, Nat.reduceLeDiff, reduceCtorEq, Nat.reduceBEq, Nat.reduceLT, Nat.reduceMod, fmc, t_markText, t_heldBox6S, int_toBitVec_meta, method_specs_simp, Int.toNat_natCast, List.length_map, Nat.sub_zero, Nat.zero_add, mo_VW_len, VW.w, ms_Box6_len]
  refine loop_st (fun i : Nat => [(1, .int .i64 (k + (cf_VW a i : Nat))), (5, .int .i64 i)]) (fun _ => []) (fun i => i ≤ a.length) (fun i => a.length - i) 0 ?_ (Nat.zero_le _) ?_
  · have e0 : k + ((cf_VW a 0 : Nat) : Int) = k := by simp [cf_VW]
    simp only [e0]
    simp only [u_E0, u_E1, u_M0, u_M1, w_setE0, w_setE1, w_setM0, w_setM1, reduceIte, Nat.reduceEqDiff]; exact ⟨by repeat' (first | exact trivial | refine ⟨.inr rfl, ?_⟩), by repeat' (first | exact trivial | refine ⟨rfl, ?_⟩), by first | rfl | simp [closedB, refsIn, refsInL, refsInO, dom, refsInL_nr, *], by first | rfl | simp [keepB, dom]⟩
  intro i hi NX hN
  have hct := cf_VW_le hs hi
  by_cases h : i < a.length
  · have hg := mo_VW_get (k := k) h
    have hx := hs _ (getD_mem' h)
    unfold VW.sm at hx
    have e5 : k + ((cf_VW a (i + 1) : Nat) : Int) = k + (cf_VW a i : Nat) + 1 + 1 + 1 + 1 + 1 + 1 + 1 + 6 * ((a.getD i default).tu.length : Int) := by rw [cf_VW_succ h]; unfold ml_VW; omega
    unfold l_laws_heldHandWordS_0; simp (maxSteps := 2000000) only [bitvec_to_nat, reduceIte, Nat.reduceEqDiff, Nat.reduceAdd, Nat.reduceLeDiff, reduceCtorEq, Nat.reduceBEq, Nat.reduceLT, Nat.reduceMod, fmc, t_markText, t_heldBox6S, int_toBitVec_meta, method_specs_simp, Int.toNat_natCast, List.length_map, Nat.sub_zero, Nat.zero_add, mo_VW_len, VW.w, ms_Box6_len, hg, mk_VW, not_true_eq_false, ne_eq, bne_self_eq_false, eq_self, not_false_eq_true]
    repeat' (first | with_reducible apply And.intro | with_reducible intro _)
    all_goals first
      | omega
      | rfl
      | (rename_i h; exact absurd rfl h)
      | (refine hN (i + 1) _ (by simp only [e5]; simp only [u_E0, u_E1, u_M0, u_M1, w_setE0, w_setE1, w_setM0, w_setM1, reduceIte, Nat.reduceEqDiff]; exact ⟨by repeat' (first | exact trivial | refine ⟨.inr rfl, ?_⟩), by repeat' (first | exact trivial | refine ⟨rfl, ?_⟩), by first | rfl | simp [closedB, refsIn, refsInL, refsInO, dom, refsInL_nr, *], by first | rfl | simp [keepB, dom]⟩) ?_ ?_ <;> omega)
      | trace_state
  · have e : i = a.length := by omega
    subst e
    unfold l_laws_heldHandWordS_0; simp (maxSteps := 2000000) only [bitvec_to_nat, reduceIte, Nat.reduceEqDiff, Nat.reduceAdd, Nat.reduceLeDiff, reduceCtorEq, Nat.reduceBEq, Nat.reduceLT, Nat.reduceMod, fmc, t_markText, t_heldBox6S, int_toBitVec_meta, method_specs_simp, Int.toNat_natCast, List.length_map, Nat.sub_zero, Nat.zero_add, mo_VW_len, VW.w, ms_Box6_len]
    repeat' (first | with_reducible apply And.intro | with_reducible intro _)
    all_goals first
      | omega
      | rfl
      | (exfalso; omega)
      | trace_state
def mk_Own (k : Int) (x : Own) : Own := ⟨(mtx (k)), (k + 1), (k + 1 + 1), (mtx (k + 1 + 1 + 1)), (k + 1 + 1 + 1 + 1), (k + 1 + 1 + 1 + 1 + 1), (ms_Box6 (k + 1 + 1 + 1 + 1 + 1 + 1) x.tu.length), (k + 1 + 1 + 1 + 1 + 1 + 1 + 6 * (x.tu.length : Int)), (ms_Box6 (k + 1 + 1 + 1 + 1 + 1 + 1 + 6 * (x.tu.length : Int) + 1) x.nx.length), (ms_ByteArray (k + 1 + 1 + 1 + 1 + 1 + 1 + 6 * (x.tu.length : Int) + 1 + 6 * (x.nx.length : Int)) x.gr.length), (decide ((k + 1 + 1 + 1 + 1 + 1 + 1 + 6 * (x.tu.length : Int) + 1 + 6 * (x.nx.length : Int) + (x.gr.length : Int)) % 3 = 0))⟩
def ml_Own (x : Own) : Nat := 8 + 6 * x.tu.length + 6 * x.nx.length + x.gr.length
def cf_Own (l : List Own) (i : Nat) : Nat := ((l.take i).map ml_Own).sum
theorem cf_Own_succ {l : List Own} {i : Nat} (h : i < l.length) : cf_Own l (i + 1) = cf_Own l i + ml_Own (l.getD i default) := by
  unfold cf_Own
  rw [List.take_succ_eq_append_getElem h, List.map_append, List.sum_append]; simp [h]
def Own.sm (x : Own) : Prop := x.tu.length ≤ 1048577 ∧ x.nx.length ≤ 1048577 ∧ x.gr.length ≤ 1048577
theorem cf_Own_le {l : List Own} (hs : ∀ x ∈ l, x.sm) {i : Nat} (h : i ≤ l.length) : cf_Own l i ≤ i * 13631600 := by
  induction i with
  | zero => simp [cf_Own]
  | succ i ih =>
    have h' := ih (by omega)
    have h2 := hs _ (getD_mem' (show i < l.length from h))
    unfold Own.sm at h2
    have h3 : ml_Own (l.getD i default) ≤ 13631600 := by unfold ml_Own; omega
    rw [cf_Own_succ h]; omega
def mo_Own (k : Int) (l : List Own) : List Own := l.mapIdx fun i x => mk_Own (k + (cf_Own l i : Nat)) x
theorem mo_Own_len {k : Int} {l : List Own} : (mo_Own k l).length = l.length := by simp [mo_Own]
theorem mo_Own_get {k : Int} {l : List Own} {i : Nat} (h : i < l.length) : (mo_Own k l).getD i default = mk_Own (k + (cf_Own l i : Nat)) (l.getD i default) := by simp [mo_Own, h]
set_option maxHeartbeats 4000000 in
theorem c_markOwnO (v : Nat) (k : Int) (a : List Own) (ha : a.length ≤ 1048577) (hs : ∀ x ∈ a, x.sm) (hk : 0 ≤ k ∧ k ≤ 35184372088832) : Contract P 53 [.own 3 v 0 a.length, .int .i64 k] (OO 3 71 v 11 esOwn (Own.row 0) 7 0 a) (.int .i64 (k + (cf_Own a a.length : Nat))) (OO 3 71 v 11 esOwn (Own.row 0) 7 0 (mo_Own k a)) := by
  have hr0 : True := trivial
  have gsr : True := trivial
  have hg0 : True := trivial
  have hg1 : True := trivial
  have hg2 : True := trivial
  have cl : ∀ (l : List Own) (kk : Int) (i : Nat), closedB ⟨[(0, .own 3 v 0 a.length), (1, .int .i64 kk), (5, .int .i64 i)], OO 3 71 v 11 esOwn (Own.row 0) 7 0 l⟩ = true := fun l kk i => by
    simp only [closedB, List.all_cons, Bool.and_eq_true]
    exact ⟨⟨by simp [refsIn, dom, OO], rfl, rfl, rfl⟩, OO_refs rok_Own hes_Own⟩
  have dsh : ∀ x y : Own, ((Own.row 0) x).map colSl = ((Own.row 0) y).map colSl := fun _ _ => rfl
  refine fn_sound ((Env.nil P).add 52 t_markText h_markText) Go.Ve.hm k_laws_markHandOwnS (nlb rfl) ?_ ?_
  · rw [List.all_eq_true]
    intro q hq
    obtain ⟨p, hp, rfl⟩ := List.mem_map.1 hq
    have := OO_num rok_Own (by omega) hp
    simp only [decide_eq_true_eq]; omega
  unfold s_laws_markHandOwnS
  simp (maxSteps := 2000000) only [bitvec_to_nat, reduceIte, Nat.reduceEqDiff, Nat.reduceAdd, Nat.reduceLeDiff, reduceCtorEq, Nat.reduceBEq, Nat.reduceLT, Nat.reduceMod, fmc, retG_ret, retQ_eq, retQ_eqN, retOk, keepB, re_tupl, orr_t, t_markText, hg0, hg1, hg2, hr0, gsr, List.set_set, el_g1, Int.toNat_natCast, List.length_map, List.length_set, oRows_len, Nat.sub_zero, Nat.zero_add, fam_ne, fam_ne', getM_setM, fam_eqF, ms_Box6_len, ms_Box6_len, ms_ByteArray_len]
  refine loop_F (fun b : Nat × List Own => ⟨[(0, .own 3 v 0 a.length), (1, .int .i64 (k + (cf_Own a b.1 : Nat))), (5, .int .i64 b.1)], OO 3 71 v 11 esOwn (Own.row 0) 7 0 b.2⟩)
    (fun b => b.1 ≤ a.length ∧ b.2.length = a.length ∧ (∀ j, j < b.1 → b.2.getD j default = mk_Own (k + (cf_Own a j : Nat)) (a.getD j default)) ∧ ∀ j, b.1 ≤ j → j < a.length → b.2.getD j default = a.getD j default)
    (fun b => a.length - b.1) (0, a) ?_ ⟨Nat.zero_le _, rfl, fun j hj => absurd hj (Nat.not_lt_zero _), fun j _ _ => rfl⟩ ?_
  · have e0 : k + ((cf_Own a 0 : Nat) : Int) = k := by simp [cf_Own]
    simp only [e0]
    exact ⟨by repeat' (first | exact trivial | refine ⟨.inr rfl, ?_⟩), wkM_self (OO_self rok_Own (by omega) (by omega)), cl _ _ _, keep_self⟩
  rintro ⟨i, l⟩ ⟨h1, h2, h3, h4⟩ NX hN
  simp only at h1 h2 h3 h4
  have hct := cf_Own_le hs h1
  by_cases hi : i < a.length
  · have hli := h4 i (Nat.le_refl _) hi
    have hil : i < l.length := by omega
    have hx := hs _ (getD_mem' hi)
    unfold Own.sm at hx
    have hr0 : (oRows (Own.row 0) 7 0 l).getD i [] = [.str (a.getD i default).fl, .int .i64 (a.getD i default).st, .int .i64 (a.getD i default).tn, .str (a.getD i default).dst, .int .i64 (a.getD i default).la, .int .i64 (a.getD i default).nr, .own (fam 13 i) 0 0 (a.getD i default).tu.length, .int .i64 (a.getD i default).wi, .own (fam 15 i) 0 0 (a.getD i default).nx.length, .own (fam 16 i) 0 0 (a.getD i default).gr.length, .bool (a.getD i default).sent] := by rw [oRows_get hil, hli]; simp [Own.row, ownR, ownC]
    have gsr : ∀ r : List AV, ((oRows (Own.row 0) 7 0 l).set i r).getD i [] = r := fun r => getD_setR (by rw [oRows_len]; exact hil)
    have hM0 := (c_markBox6S 0 (k + (cf_Own a i : Nat) + 1 + 1 + 1 + 1 + 1 + 1) (a.getD i default).tu (by omega) (by omega)).ren (swp 3 (fam 13 i)) (swp_swp _ _)
    simp only [renL, ren, renM, renO, swp, reduceIte, Nat.reduceLT] at hM0
    have hg0 : getM (oObjs esOwn (Own.row 0) 7 0 l) (fam 13 i) = some (.arr 100 0 6 ((a.getD i default).tu.map Box6.row)) := by
      have := oObjs_get (es := esOwn) (k := 7) (i0 := 0) (a := l) (i := i) (j := 6) (v := 0) (sz := 6) (xs := (a.getD i default).tu.map Box6.row) rok_Own (by omega) hil (by rw [hli]; rfl)
      rw [Nat.zero_add] at this
      exact this
    have hM1 := (c_markBox6S 0 (k + (cf_Own a i : Nat) + 1 + 1 + 1 + 1 + 1 + 1 + 6 * ((a.getD i default).tu.length : Int) + 1) (a.getD i default).nx (by omega) (by omega)).ren (swp 3 (fam 15 i)) (swp_swp _ _)
    simp only [renL, ren, renM, renO, swp, reduceIte, Nat.reduceLT] at hM1
    have hg1 : getM (oObjs esOwn (Own.row 0) 7 0 l) (fam 15 i) = some (.arr 100 0 6 ((a.getD i default).nx.map Box6.row)) := by
      have := oObjs_get (es := esOwn) (k := 7) (i0 := 0) (a := l) (i := i) (j := 8) (v := 0) (sz := 6) (xs := (a.getD i default).nx.map Box6.row) rok_Own (by omega) hil (by rw [hli]; rfl)
      rw [Nat.zero_add] at this
      exact this
    have hM2 := (c_markByteArrayS 0 (k + (cf_Own a i : Nat) + 1 + 1 + 1 + 1 + 1 + 1 + 6 * ((a.getD i default).tu.length : Int) + 1 + 6 * ((a.getD i default).nx.length : Int)) (a.getD i default).gr (by omega) (by omega)).ren (swp 3 (fam 16 i)) (swp_swp _ _)
    simp only [renL, ren, renM, renO, swp, reduceIte, Nat.reduceLT] at hM2
    have hg2 : getM (oObjs esOwn (Own.row 0) 7 0 l) (fam 16 i) = some (.arr 9 0 1 ((a.getD i default).gr.map srow)) := by
      have := oObjs_get (es := esOwn) (k := 7) (i0 := 0) (a := l) (i := i) (j := 9) (v := 0) (sz := 1) (xs := (a.getD i default).gr.map srow) rok_Own (by omega) hil (by rw [hli]; rfl)
      rw [Nat.zero_add] at this
      exact this
    have e5 : k + ((cf_Own a (i + 1) : Nat) : Int) = k + (cf_Own a i : Nat) + 1 + 1 + 1 + 1 + 1 + 1 + 6 * ((a.getD i default).tu.length : Int) + 1 + 6 * ((a.getD i default).nx.length : Int) + ((a.getD i default).gr.length : Int) + 1 := by rw [cf_Own_succ hi]; unfold ml_Own; omega
    simp only [OO]
    unfold l_laws_markHandOwnS_0; simp (maxSteps := 2000000) only [bitvec_to_nat, reduceIte, Nat.reduceEqDiff, Nat.reduceAdd, Nat.reduceLeDiff, reduceCtorEq, Nat.reduceBEq, Nat.reduceLT, Nat.reduceMod, fmc, retG_ret, retQ_eq, retQ_eqN, retOk, keepB, re_tupl, orr_t, t_markText, hg0, hg1, hg2, hr0, gsr, List.set_set, el_g1, Int.toNat_natCast, List.length_map, List.length_set, oRows_len, Nat.sub_zero, Nat.zero_add, fam_ne, fam_ne', getM_setM, fam_eqF, ms_Box6_len, ms_Box6_len, ms_ByteArray_len]
    refine ⟨fun _ => ?_, fun h => absurd (by omega) h⟩
    repeat (refine ⟨by first | omega | rfl, ?_⟩)
    refine ⟨_, _, .inl ⟨_, hM0, by simp [getM, getM_setM, fam_ne, fam_ne', fam_eqF, hg0, hg1, hg2], by simp [dom], by simp [dom], by simp [refsInL, refsIn, dom], by simp [refsInO], rfl, by simp [refsInO]⟩, ?_⟩
    simp (maxSteps := 2000000) only [bitvec_to_nat, reduceIte, Nat.reduceEqDiff, Nat.reduceAdd, Nat.reduceLeDiff, reduceCtorEq, Nat.reduceBEq, Nat.reduceLT, Nat.reduceMod, fmc, retG_ret, retQ_eq, retQ_eqN, retOk, keepB, re_tupl, orr_t, t_markText, hg0, hg1, hg2, hr0, gsr, List.set_set, el_g1, Int.toNat_natCast, List.length_map, List.length_set, oRows_len, Nat.sub_zero, Nat.zero_add, fam_ne, fam_ne', getM_setM, fam_eqF, ms_Box6_len, ms_Box6_len, ms_ByteArray_len]
    repeat (refine ⟨by first | omega | rfl, ?_⟩)
    refine ⟨_, _, .inl ⟨_, hM1, by simp [getM, getM_setM, fam_ne, fam_ne', fam_eqF, hg0, hg1, hg2], by simp [dom], by simp [dom], by simp [refsInL, refsIn, dom], by simp [refsInO], rfl, by simp [refsInO]⟩, ?_⟩
    simp (maxSteps := 2000000) only [bitvec_to_nat, reduceIte, Nat.reduceEqDiff, Nat.reduceAdd, Nat.reduceLeDiff, reduceCtorEq, Nat.reduceBEq, Nat.reduceLT, Nat.reduceMod, fmc, retG_ret, retQ_eq, retQ_eqN, retOk, keepB, re_tupl, orr_t, t_markText, hg0, hg1, hg2, hr0, gsr, List.set_set, el_g1, Int.toNat_natCast, List.length_map, List.length_set, oRows_len, Nat.sub_zero, Nat.zero_add, fam_ne, fam_ne', getM_setM, fam_eqF, ms_Box6_len, ms_Box6_len, ms_ByteArray_len]
    repeat (refine ⟨by first | omega | rfl, ?_⟩)
    refine ⟨_, _, .inl ⟨_, hM2, by simp [getM, getM_setM, fam_ne, fam_ne', fam_eqF, hg0, hg1, hg2], by simp [dom], by simp [dom], by simp [refsInL, refsIn, dom], by simp [refsInO], rfl, by simp [refsInO]⟩, ?_⟩
    simp (maxSteps := 2000000) only [bitvec_to_nat, reduceIte, Nat.reduceEqDiff, Nat.reduceAdd, Nat.reduceLeDiff, reduceCtorEq, Nat.reduceBEq, Nat.reduceLT, Nat.reduceMod, fmc, retG_ret, retQ_eq, retQ_eqN, retOk, keepB, re_tupl, orr_t, t_markText, hg0, hg1, hg2, hr0, gsr, List.set_set, el_g1, Int.toNat_natCast, List.length_map, List.length_set, oRows_len, Nat.sub_zero, Nat.zero_add, fam_ne, fam_ne', getM_setM, fam_eqF, ms_Box6_len, ms_Box6_len, ms_ByteArray_len]
    repeat (refine ⟨by omega, ?_⟩)
    rw [← e5]
    have hd1 : (l.set i (mk_Own (k + (cf_Own a i : Nat)) (a.getD i default))).length = l.length := List.length_set
    refine hN (i + 1, l.set i (mk_Own (k + (cf_Own a i : Nat)) (a.getD i default))) _ ⟨by repeat' (first | exact trivial | refine ⟨.inr rfl, ?_⟩), wkM_self (OO_upd rok_Own (by omega) ?_ ?_ ?_), cl _ _ _, keepB_dom ?_⟩ ⟨hi, by rw [List.length_set]; exact h2, fun j hj => ?_, fun j h6 h7 => ?_⟩ (by simp only; omega)
    · simp only [getM, Nat.reduceEqDiff, reduceIte]
      rw [oRows_put hil (y := mk_Own (k + (cf_Own a i : Nat)) (a.getD i default)) (by simp [Own.row, ownR, ownC, mk_Own, ms_Box6_len, ms_Box6_len, ms_ByteArray_len])]
    · intro p hp hne
      have q1 := uniq_self (oObjs_uniq rok_Own (by omega)) p hp
      have q2 := (oObjs_num rok_Own (by omega) hp).1
      have q3 : ∀ c, c < 1000 → (p.1 = fam c i) = False := fun c hc => by have := hne c hc; rw [Nat.zero_add] at this; simp [this]
      have q4 : (p.1 = 3) = False := by simp; omega
      simp only [getM, getM_setM, q4, if_false, q3 13 (by omega), q3 15 (by omega), q3 16 (by omega), q1]
    · intro j v' sz xs hj
      rw [Nat.zero_add]
      have hj2 := col_lt hj
      rw [rok_Own.len] at hj2
      have cases : j = 0 ∨ j = 1 ∨ j = 2 ∨ j = 3 ∨ j = 4 ∨ j = 5 ∨ j = 6 ∨ j = 7 ∨ j = 8 ∨ j = 9 ∨ j = 10 := by omega
      rcases cases with rfl | rfl | rfl | rfl | rfl | rfl | rfl | rfl | rfl | rfl | rfl
      all_goals first
        | (cases hj; done)
        | (cases hj; simp [getM, getM_setM, fam_ne, fam_ne', fam_eqF, esOwn, mk_Own, hg0]; done)
        | (simp [Own.row, mk_Own] at hj; obtain ⟨rfl, rfl, rfl⟩ := hj; simp [getM, getM_setM, fam_ne, fam_ne', fam_eqF, esOwn]; done)
        | (simp [Own.row, mk_Own] at hj; done)
        | trace_state
    · have q0 : ∀ x, dom ((3, x) :: oObjs esOwn (Own.row 0) 7 0 l) = dom (OO 3 71 v 11 esOwn (Own.row 0) 7 0 l) := fun x => rfl
      have qm : ∀ j v' sz xs, ((Own.row 0) (l.getD i default))[j]? = some (.sl v' sz xs) → fam (7 + j) i ∈ dom (oObjs esOwn (Own.row 0) 7 0 l) := fun j v' sz xs hj => by
        have := mem_dom (oObjs_mem (es := esOwn) (k := 7) (i0 := 0) (p := (fam (7 + j) (0 + i), .arr (esOwn j) v' sz xs)).2 ⟨i, j, v', sz, xs, hil, hj, rfl⟩)
        rw [Nat.zero_add] at this
        exact this
      have qm0 : fam 13 i ∈ dom (oObjs esOwn (Own.row 0) 7 0 l) := qm 6 _ _ _ (by rw [hli]; rfl)
      have qm1 : fam 15 i ∈ dom (oObjs esOwn (Own.row 0) 7 0 l) := qm 8 _ _ _ (by rw [hli]; rfl)
      have qm2 : fam 16 i ∈ dom (oObjs esOwn (Own.row 0) 7 0 l) := qm 9 _ _ _ (by rw [hli]; rfl)
      have qd : dom (OO 3 71 v 11 esOwn (Own.row 0) 7 0 (l.set i (mk_Own (k + (cf_Own a i : Nat)) (a.getD i default)))) = dom (OO 3 71 v 11 esOwn (Own.row 0) 7 0 l) := OO_dom dsh hd1
      rw [qd, ← q0 .gone]
      simp only [dom, List.map_cons, List.cons.injEq, true_and]
      have qs := fun (M : List (Nat × AObj)) (o : Nat) (x : AObj) (h : o ∈ dom M) => dom_setM (M := M) (o := o) (x := x) h
      simp only [dom] at qs qm0 qm1 qm2 ⊢
      simp (config := { maxDischargeDepth := 8 }) only [qs, qm0, qm1, qm2]
    · simp only at hj ⊢
      by_cases e : j = i
      · subst e; exact getD_seti' hil
      · rw [getD_setn' (Ne.symm e)]; exact h3 j (by omega)
    · simp only at h6 ⊢
      rw [getD_setn' (by omega)]; exact h4 j (by omega) h7
  · have hl : l = mo_Own k a := ext_of (by rw [mo_Own_len]; exact h2) fun j hj => by rw [mo_Own_get (by omega)]; exact h3 j (by omega)
    have e : i = a.length := by omega
    subst hl
    subst e
    simp only [OO]
    unfold l_laws_markHandOwnS_0; simp (maxSteps := 2000000) only [bitvec_to_nat, reduceIte, Nat.reduceEqDiff, Nat.reduceAdd, Nat.reduceLeDiff, reduceCtorEq, Nat.reduceBEq, Nat.reduceLT, Nat.reduceMod, fmc, retG_ret, retQ_eq, retQ_eqN, retOk, keepB, re_tupl, orr_t, t_markText, hg0, hg1, hg2, hr0, gsr, List.set_set, el_g1, Int.toNat_natCast, List.length_map, List.length_set, oRows_len, Nat.sub_zero, Nat.zero_add, fam_ne, fam_ne', getM_setM, fam_eqF, ms_Box6_len, ms_Box6_len, ms_ByteArray_len]
    refine ⟨fun h => absurd h (by omega), fun _ => ⟨wkM_self fun p hp => OO_self (o := 3) (e := 71) (v := v) (sz := 11) rok_Own (by omega) (by omega) p (List.mem_cons_of_mem _ hp), OO_refs (o := 3) (v := v) (sz := 11) (e := 71) rok_Own hes_Own, keep_self (M := OO 3 71 v 11 esOwn (Own.row 0) 7 0 (mo_Own k a))⟩⟩
set_option maxHeartbeats 4000000 in
theorem c_heldOwnO (t t' : Nat) (k : Int) (a : List Own) (ha : a.length ≤ 1048577) (hs : ∀ x ∈ a, x.sm) (hk : 0 ≤ k ∧ k ≤ 35184372088832) : Contract P 62 [.sl t 11 ((mo_Own k a).map (Own.row t')), .int .i64 k] [] (.int .i64 (k + (cf_Own a a.length : Nat))) [] := by
  refine fn_sound ((((Env.nil P).add 52 t_markText h_markText).add 56 t_heldBox6S h_heldBox6S).add 97 t_heldByteArrayS h_heldByteArrayS) hm k_laws_heldHandOwnS (nlb rfl) rfl ?_; unfold s_laws_heldHandOwnS; simp (maxSteps := 2000000) only [bitvec_to_nat, reduceIte, Nat.reduceEqDiff, Nat.reduceAdd, Nat.reduceLeDiff, reduceCtorEq, Nat.reduceBEq, Nat.reduceLT, Nat.reduceMod, fmc, t_markText, t_heldBox6S, t_heldByteArrayS, int_toBitVec_meta, method_specs_simp, Int.toNat_natCast, List.length_map, Nat.sub_zero, Nat.zero_add, mo_Own_len, ms_Box6_len, ms_Box6_len, ms_ByteArray_len]
  refine loop_st (fun i : Nat => [(1, .int .i64 (k + (cf_Own a i : Nat))), (5, .int .i64 i)]) (fun _ => []) (fun i => i ≤ a.length) (fun i => a.length - i) 0 ?_ (Nat.zero_le _) ?_
  · have e0 : k + ((cf_Own a 0 : Nat) : Int) = k := by simp [cf_Own]
    simp only [e0]
    simp only [u_E0, u_E1, u_M0, u_M1, w_setE0, w_setE1, w_setM0, w_setM1, reduceIte, Nat.reduceEqDiff]; exact ⟨by repeat' (first | exact trivial | refine ⟨.inr rfl, ?_⟩), by repeat' (first | exact trivial | refine ⟨rfl, ?_⟩), by first | rfl | simp [closedB, refsIn, refsInL, refsInO, dom, refsInL_nr, *], by first | rfl | simp [keepB, dom]⟩
  intro i hi NX hN
  have hct := cf_Own_le hs hi
  by_cases h : i < a.length
  · have hg := mo_Own_get (k := k) h
    have hx := hs _ (getD_mem' h)
    unfold Own.sm at hx
    have e5 : k + ((cf_Own a (i + 1) : Nat) : Int) = k + (cf_Own a i : Nat) + 1 + 1 + 1 + 1 + 1 + 1 + 6 * ((a.getD i default).tu.length : Int) + 1 + 6 * ((a.getD i default).nx.length : Int) + ((a.getD i default).gr.length : Int) + 1 := by rw [cf_Own_succ h]; unfold ml_Own; omega
    unfold l_laws_heldHandOwnS_0; simp (maxSteps := 2000000) only [bitvec_to_nat, reduceIte, Nat.reduceEqDiff, Nat.reduceAdd, Nat.reduceLeDiff, reduceCtorEq, Nat.reduceBEq, Nat.reduceLT, Nat.reduceMod, fmc, t_markText, t_heldBox6S, t_heldByteArrayS, int_toBitVec_meta, method_specs_simp, Int.toNat_natCast, List.length_map, Nat.sub_zero, Nat.zero_add, mo_Own_len, ms_Box6_len, ms_Box6_len, ms_ByteArray_len, hg, mk_Own, not_true_eq_false, ne_eq, bne_self_eq_false, eq_self, not_false_eq_true]
    repeat' (first | with_reducible apply And.intro | with_reducible intro _)
    all_goals first
      | omega
      | rfl
      | (rename_i h; exact absurd rfl h)
      | (refine hN (i + 1) _ (by simp only [e5]; simp only [u_E0, u_E1, u_M0, u_M1, w_setE0, w_setE1, w_setM0, w_setM1, reduceIte, Nat.reduceEqDiff]; exact ⟨by repeat' (first | exact trivial | refine ⟨.inr rfl, ?_⟩), by repeat' (first | exact trivial | refine ⟨rfl, ?_⟩), by first | rfl | simp [closedB, refsIn, refsInL, refsInO, dom, refsInL_nr, *], by first | rfl | simp [keepB, dom]⟩) ?_ ?_ <;> omega)
      | trace_state
  · have e : i = a.length := by omega
    subst e
    unfold l_laws_heldHandOwnS_0; simp (maxSteps := 2000000) only [bitvec_to_nat, reduceIte, Nat.reduceEqDiff, Nat.reduceAdd, Nat.reduceLeDiff, reduceCtorEq, Nat.reduceBEq, Nat.reduceLT, Nat.reduceMod, fmc, t_markText, t_heldBox6S, t_heldByteArrayS, int_toBitVec_meta, method_specs_simp, Int.toNat_natCast, List.length_map, Nat.sub_zero, Nat.zero_add, mo_Own_len, ms_Box6_len, ms_Box6_len, ms_ByteArray_len]
    repeat' (first | with_reducible apply And.intro | with_reducible intro _)
    all_goals first
      | omega
      | rfl
      | (exfalso; omega)
      | trace_state
end
end Go.Ve

namespace Go.Ve
noncomputable section
open Go.Proofs
set_option maxRecDepth 100000
open Go.ChangeShapes Go.WideShapes
theorem c_ownBoxesO (t : Nat) (l : List Box6) (hl : l.length ≤ 4294967296) : Contract P 95 [.sl t 6 (l.map Box6.row)] [] (.own 104 0 0 l.length) [(104, .arr 100 0 6 (l.map Box6.row))] := by
  have tkB : List.take l.length (l.map Box6.row) = l.map Box6.row := List.take_of_length_le (by simp)
  refine fn_sound (Env.nil P) hm kO_impl_ownBoxes (nlb rfl) rfl ?_; unfold sO_impl_ownBoxes; simp (maxSteps := 2000000) only [bitvec_to_nat, reduceIte, Nat.reduceEqDiff, Nat.reduceAdd, Nat.reduceLeDiff, reduceCtorEq, Nat.reduceBEq, Nat.reduceLT, Nat.reduceMod, fmc, retG_ret, retQ_eq, retQ_eqN, retOk, keepB, re_tupl, orr_t, int_toBitVec_meta, method_specs_simp, Nat.sub_zero, List.append_nil, tkB]
  repeat' (first | with_reducible apply And.intro | with_reducible intro _)
  all_goals first | omega | rfl | (simp [refsIn, refsInL, dom]; done)
def giveW (me : ByteArray) (o : Own) : VW := ⟨0, 5, me, o.dst, o.fl, o.nr, o.la, o.tn, o.tu⟩
def askP (o : Own) (z : Zone) : Prop := 0 < (partOf z o.nx).length ∧ z.nm ∉ o.gr
instance (o : Own) (z : Zone) : Decidable (askP o z) := by unfold askP; infer_instance
abbrev WordS (o v k i0 : Nat) (l : List VW) : List (Nat × AObj) := OO o 73 v 8 esWord VW.rowO k i0 l
theorem WordO_offs {o e v k q sz i0 : Nat} {a : List VW} (h : q ≠ o) (hq : q < 1000) (hk : k + 8 ≤ 1000) : offs (OO o e v sz esWord VW.rowO k i0 a) q := fun p hp e => by
  have := OO_num rok_VW hk hp; omega
theorem WordO_uniq {o e v k sz i0 : Nat} {a : List VW} (ho : o < 1000) (hk : k + 8 ≤ 1000) : uniq (OO o e v sz esWord VW.rowO k i0 a) := OO_uniq rok_VW hk ho
theorem oneW {o v k : Nat} {w : VW} : WordS o v k 0 [w] = [(o, .arr (1000000 + 73) v 8 [[.int .i64 w.kd, .str w.fr, .str w.dst, .str w.fl, .int .i64 w.nr, .int .i64 w.la, .int .i64 w.tn, .own (fam (k + 7) 0) w.ve 0 w.tu.length]]), (fam (k + 7) 0, .arr 100 w.ve 6 (w.tu.map Box6.row))] := by
  simp [OO, oRows, oObjs, subR, subC, ownR, ownC, VW.rowO, esWord]
set_option maxHeartbeats 2000000 in
theorem c_giveO (me : ByteArray) (o : Own) (ho : o.small) : Contract P 87 [.str me, .agg (o.row 0)] [] (.own 120 0 0 1) (WordS 120 0 150 0 [giveW me o]) := by
  have tkB : True := trivial
  unfold Own.small at ho
  have hB := (c_ownBoxesO 0 o.tu (by omega)).ren (swp 104 (fam 157 0)) (swp_swp _ _)
  simp only [renL, ren, renM, renO, swp, reduceIte, Nat.reduceLT] at hB
  simp only [oneW, giveW, Own.row]
  refine fn_sound (Env.nil P) hm kO_impl_give (nlb rfl) rfl ?_; unfold sO_impl_give; simp (maxSteps := 2000000) only [bitvec_to_nat, reduceIte, Nat.reduceEqDiff, Nat.reduceAdd, Nat.reduceLeDiff, reduceCtorEq, Nat.reduceBEq, Nat.reduceLT, Nat.reduceMod, fmc, retG_ret, retQ_eq, retQ_eqN, retOk, keepB, re_tupl, orr_t, int_toBitVec_meta, method_specs_simp, Nat.sub_zero, List.append_nil, fam_ne, fam_ne', fam_eqF, fam_eqI, tkB]
  refine ⟨_, _, .inr (.inr (.inl ⟨_, rfl, hB, by simp [getM, fam_ne], by simp [refsIn, refsInL, dom], rfl, by simp [No99], by simp [No99O, no99_box]⟩)), ?_⟩
  simp (maxSteps := 2000000) only [bitvec_to_nat, reduceIte, Nat.reduceEqDiff, Nat.reduceAdd, Nat.reduceLeDiff, reduceCtorEq, Nat.reduceBEq, Nat.reduceLT, Nat.reduceMod, fmc, retG_ret, retQ_eq, retQ_eqN, retOk, keepB, re_tupl, orr_t, int_toBitVec_meta, method_specs_simp, Nat.sub_zero, List.append_nil, fam_ne, fam_ne', fam_eqF, fam_eqI, tkB]
  repeat' (first | with_reducible apply And.intro | with_reducible intro _)
  all_goals first | omega | rfl | (simp [refsIn, refsInL, dom]; done) | trace_state
end
end Go.Ve

namespace Go.Ve
noncomputable section
open Go.Proofs
set_option maxRecDepth 100000
open Go.ChangeShapes Go.WideShapes
end
end Go.Ve

namespace Go.Ve
noncomputable section
open Go.Proofs
set_option maxRecDepth 100000
open Go.ChangeShapes Go.WideShapes
theorem c_l31Tube (t : Nat) (l : List Box6) (hl : l.length ≤ 4294967296) : Contract P 66 [.sl t 6 (l.map Box6.row)] [] (.sl 0 6 (l.map Box6.row)) [] := by
  have tkB : List.take l.length (l.map Box6.row) = l.map Box6.row := List.take_of_length_le (by simp)
  refine fn_sound (Env.nil P) hm k_spec_l31Tube (nlb rfl) rfl ?_; unfold s_spec_l31Tube; simp (maxSteps := 2000000) only [bitvec_to_nat, reduceIte, Nat.reduceEqDiff, Nat.reduceAdd, Nat.reduceLeDiff, reduceCtorEq, Nat.reduceBEq, Nat.reduceLT, Nat.reduceMod, fmc, retG_ret, retQ_eq, retQ_eqN, retOk, keepB, re_tupl, orr_t, int_toBitVec_meta, method_specs_simp, Nat.sub_zero, List.append_nil, tkB, appE]
  repeat' (first | with_reducible apply And.intro | with_reducible intro _)
  all_goals first | omega | rfl | (simp; done)
def t_l31Tube : List AV → Option (Prop × AV)
  | [.sl tut 6 tux] => some ((((tux.map unBox).map Box6.row = tux)) ∧ ((tux.map unBox).length ≤ 4294967296), .sl 0 6 ((tux.map unBox).map Box6.row))
  | _ => none
theorem h_l31Tube : ∀ args p v, t_l31Tube args = some (p, v) → p → Contract P 66 args [] v [] ∧ noref v = true ∧ No99 v := by
  intro args p v h1 h2
  unfold t_l31Tube at h1
  split at h1
  · rename_i tut tux
    cases h1
    obtain ⟨e0, HP⟩ := h2
    have := c_l31Tube tut (tux.map unBox) HP
    exact ⟨by simpa only [e0] using this, rfl, by simp [No99, no99_box, -List.map_map]⟩
  · cases h1
theorem w_row (x : VW) : (VW.w x).row 0 = [.int .i64 x.kd, .str x.fr, .str x.dst, .str x.fl, .int .i64 x.nr, .int .i64 x.la, .int .i64 x.tn, .sl 0 6 (x.tu.map Box6.row)] := rfl
theorem c_sGive (me : ByteArray) (o : Own) (ho : o.small) : Contract P 37 [.str me, .agg (o.row 0)] [] (.agg ((giveW me o).w.row 0)) [] := by
  unfold Own.small at ho
  rw [w_row]
  simp only [giveW, Own.row]
  refine fn_sound ((Env.nil P).add 66 t_l31Tube h_l31Tube) hm k_spec_l34Give (nlb rfl) rfl ?_; unfold s_spec_l34Give; simp (maxSteps := 2000000) only [bitvec_to_nat, reduceIte, Nat.reduceEqDiff, Nat.reduceAdd, Nat.reduceLeDiff, reduceCtorEq, Nat.reduceBEq, Nat.reduceLT, Nat.reduceMod, fmc, t_l31Tube, int_toBitVec_meta, method_specs_simp, Nat.sub_zero]
  omega
def t_sGive : List AV → Option (Prop × AV)
  | [.str me, .agg [.str o_fl, .int .i64 o_st, .int .i64 o_tn, .str o_dst, .int .i64 o_la, .int .i64 o_nr, .sl 0 6 o_tu, .int .i64 o_wi, .sl 0 6 o_nx, .sl 0 1 o_gr, .bool o_sent]] => some ((((o_tu.map unBox).map Box6.row = o_tu) ∧ ((o_nx.map unBox).map Box6.row = o_nx) ∧ ((o_gr.map unS).map srow = o_gr)) ∧ (Own.small (Own.mk o_fl o_st o_tn o_dst o_la o_nr (o_tu.map unBox) o_wi (o_nx.map unBox) (o_gr.map unS) o_sent)), .agg ((giveW me (Own.mk o_fl o_st o_tn o_dst o_la o_nr (o_tu.map unBox) o_wi (o_nx.map unBox) (o_gr.map unS) o_sent)).w.row 0))
  | _ => none
theorem h_sGive : ∀ args p v, t_sGive args = some (p, v) → p → Contract P 37 args [] v [] ∧ noref v = true ∧ No99 v := by
  intro args p v h1 h2
  unfold t_sGive at h1
  split at h1
  · rename_i me o_fl o_st o_tn o_dst o_la o_nr o_tu o_wi o_nx o_gr o_sent
    cases h1
    obtain ⟨⟨e0, e1, e2⟩, HP⟩ := h2
    have := c_sGive me (Own.mk o_fl o_st o_tn o_dst o_la o_nr (o_tu.map unBox) o_wi (o_nx.map unBox) (o_gr.map unS) o_sent) HP
    exact ⟨by simpa only [e0, e1, e2, Own.row] using this, rfl, by simp [No99, No99L, Word.row, no99_box, -List.map_map]⟩
  · cases h1
def hMay (zs : List Zone) (me : ByteArray) (b : Book) : Prop := (zonesOk zs ∧ bookOk zs b) ∧ 0 ≤ zAt zs me
instance (zs : List Zone) (me : ByteArray) (b : Book) : Decidable (hMay zs me b) := by unfold hMay; infer_instance
theorem c_mayHand (t : Nat) (zs : List Zone) (me : ByteArray) (b : Book) (hb : b.small) (hz : zs.length ≤ 4294967295) : Contract P 45 [.sl t 5 (zs.map Zone.row), .str me, .agg (b.row 0)] [] (.bool (decide (hMay zs me b))) [] := by
  simp only [Book.row]
  refine fn_sound (((Env.nil P).add 72 t_hBookOk h_hBookOk).add 86 t_zoneAt h_zoneAt) hm k_impl_mayHand (nlb rfl) rfl ?_; unfold s_impl_mayHand; simp (maxSteps := 2000000) only [bitvec_to_nat, reduceIte, Nat.reduceEqDiff, Nat.reduceAdd, Nat.reduceLeDiff, reduceCtorEq, Nat.reduceBEq, Nat.reduceLT, Nat.reduceMod, fmc, t_hBookOk, t_zoneAt, int_toBitVec_meta, method_specs_simp, Nat.sub_zero]
  repeat' (first | with_reducible apply And.intro | with_reducible intro _)
  all_goals first
    | omega
    | exact hb
    | (simp only [hMay]; grind)
    | grind [hMay]
def t_mayHand : List AV → Option (Prop × AV)
  | [.sl zst 5 zsx, .str me, .agg [.sl 0 11 b_own, .sl 0 3 b_parts, .sl 0 2 b_seen]] => some ((((zsx.map unZone).map Zone.row = zsx) ∧ ((b_own.map unOwn).map (Own.row 0) = b_own) ∧ ((b_parts.map unPart).map (Part.row 0) = b_parts) ∧ ((b_seen.map unSeen).map Seen.row = b_seen)) ∧ (Book.small (Book.mk (b_own.map unOwn) (b_parts.map unPart) (b_seen.map unSeen)) ∧ (zsx.map unZone).length ≤ 4294967295), .bool (decide (hMay (zsx.map unZone) me (Book.mk (b_own.map unOwn) (b_parts.map unPart) (b_seen.map unSeen)))))
  | _ => none
theorem h_mayHand : ∀ args p v, t_mayHand args = some (p, v) → p → Contract P 45 args [] v [] ∧ noref v = true ∧ No99 v := by
  intro args p v h1 h2
  unfold t_mayHand at h1
  split at h1
  · rename_i zst zsx me b_own b_parts b_seen
    cases h1
    obtain ⟨⟨e0, e1, e2, e3⟩, HP⟩ := h2
    have := c_mayHand zst (zsx.map unZone) me (Book.mk (b_own.map unOwn) (b_parts.map unPart) (b_seen.map unSeen)) HP.1 HP.2
    exact ⟨by simpa only [e0, e1, e2, e3, Book.row] using this, rfl, trivial⟩
  · cases h1
end
end Go.Ve

namespace Go.Ve
noncomputable section
open Go.Proofs
set_option maxRecDepth 100000
open Go.ChangeShapes Go.WideShapes
theorem shp_Own (x y : Own) : (Own.row 0 x).map colSl = (Own.row 0 y).map colSl := rfl
theorem shp_Part (x y : Part) : (Part.row 0 x).map colSl = (Part.row 0 y).map colSl := rfl
theorem shp_VW (x y : VW) : x.rowO.map colSl = y.rowO.map colSl := rfl
def cfB1 (b : Book) : Nat := cf_Own b.own b.own.length
def cfB2 (b : Book) : Nat := cf_Part b.parts b.parts.length
def mb (k : Int) (b : Book) : Book := ⟨mo_Own k b.own, mo_Part (k + (cfB1 b : Nat)) b.parts, ms_Seen (k + (cfB1 b : Nat) + (cfB2 b : Nat)) b.seen.length⟩
def cfB (b : Book) : Int := (cfB1 b : Nat) + (cfB2 b : Nat) + 2 * (b.seen.length : Int)
def Book.sm (b : Book) : Prop := (b.own.length ≤ 1048577 ∧ ∀ x ∈ b.own, x.sm) ∧ (b.parts.length ≤ 1048577 ∧ ∀ x ∈ b.parts, x.sm) ∧ b.seen.length ≤ 1048577
theorem Book.small.sm {b : Book} (h : b.small) : b.sm := by
  unfold Book.small at h
  refine ⟨⟨by omega, fun x hx => ?_⟩, ⟨by omega, fun x hx => ?_⟩, by omega⟩
  · have := h.1.2 x hx; unfold Own.small at this; unfold Own.sm; omega
  · have := h.2.1.2 x hx; unfold Part.sm; omega
theorem cfB1_le {b : Book} (h : b.sm) : cfB1 b ≤ 1048577 * 13631600 := Nat.le_trans (cf_Own_le h.1.2 (Nat.le_refl _)) (Nat.mul_le_mul_right _ h.1.1)
theorem cfB2_le {b : Book} (h : b.sm) : cfB2 b ≤ 1048577 * 13631600 := Nat.le_trans (cf_Part_le h.2.1.2 (Nat.le_refl _)) (Nat.mul_le_mul_right _ h.2.1.1)
theorem mb_own {k : Int} {b : Book} : (mb k b).own.length = b.own.length := mo_Own_len
theorem mb_parts {k : Int} {b : Book} : (mb k b).parts.length = b.parts.length := mo_Part_len
theorem mb_seen {k : Int} {b : Book} : (mb k b).seen.length = b.seen.length := ms_Seen_len
theorem bkV_mb {k : Int} {b : Book} {a va c vc d vd : Nat} : bkV (mb k b) a va c vc d vd = bkV b a va c vc d vd := by simp only [bkV, mb_own, mb_parts, mb_seen]
theorem bk_domE {b b' : Book} {a va c vc d vd kO kP : Nat} (h1 : b.own.length = b'.own.length) (h2 : b.parts.length = b'.parts.length) : dom (bkM b a va c vc d vd kO kP) = dom (bkM b' a va c vc d vd kO kP) := by
  have e1 : dom (OwnS a va kO b.own) = dom (OwnS a va kO b'.own) := OO_dom shp_Own h1
  have e2 : dom (PartS c vc kP b.parts) = dom (PartS c vc kP b'.parts) := OO_dom shp_Part h2
  simp only [bkM, dom_app, e1, e2]; rfl
theorem keepB_sub {M M' : List (Nat × AObj)} (h : ∀ o ∈ dom M, 100 ≤ o % 1000 ∨ o ∈ dom M') : keepB M M' = true := by
  unfold keepB
  rw [List.all_eq_true]
  intro o ho
  have := h o ho
  simp only [Bool.or_eq_true, decide_eq_true_eq]
  exact this.imp id fun h => by simpa using h
set_option maxHeartbeats 4000000 in
theorem c_markBookO (b : Book) (va vc vd : Nat) (k : Int) (hb : b.sm) (hk : 0 ≤ k ∧ k ≤ 1099511627776) : Contract P 17 [bkV b 3 va 4 vc 5 vd, .int .i64 k] (bkM b 3 va 4 vc 5 vd 7 20) (.int .i64 (k + cfB b)) (bkM (mb k b) 3 va 4 vc 5 vd 7 20) := by
  have q1 := cfB1_le hb
  have q2 := cfB2_le hb
  have hO := c_markOwnO va k b.own hb.1.1 hb.1.2 (by omega)
  have hP := ((c_markPartO vc (k + (cfB1 b : Nat)) b.parts hb.2.1.1 hb.2.1.2 (by omega)).ren (swp 3 4) (swp_swp _ _)).ren (swpB 7 20 3) (swpB_swpB (by omega) (by omega) (by omega))
  have e4 : swpB 7 20 3 (swp 3 4 3) = 4 := by rw [show swp 3 4 3 = 4 from by simp [swp], swpB_lt (by omega)]
  rw [OO_ren (k' := 7) (i1 := 0) rok_Part hes_Part (fun j i hj => swp_fam (by omega) (by omega)), OO_ren (k' := 20) (i1 := 0) rok_Part hes_Part (fun j i hj => swpB_at (by omega) hj), OO_ren (k' := 7) (i1 := 0) rok_Part hes_Part (fun j i hj => swp_fam (by omega) (by omega)), OO_ren (k' := 20) (i1 := 0) rok_Part hes_Part (fun j i hj => swpB_at (by omega) hj)] at hP
  simp only [renL, ren, e4] at hP
  have hS := (c_markSeenS vd (k + (cfB1 b : Nat) + (cfB2 b : Nat)) b.seen hb.2.2 (by omega)).ren (swp 3 5) (swp_swp _ _)
  simp only [renL, ren, renM, renO, swp, reduceIte, Nat.reduceEqDiff, Nat.reduceLT] at hS
  have d1 : ∀ (l : List Own) (m : List Part), dis (OwnS 3 va 7 l) (PartS 4 vc 20 m) := fun l m p hp q hq e => by
    have := OO_num rok_Own (by omega) hp; have := OO_num rok_Part (by omega) hq; omega
  have d2 : ∀ (l : List Own) (m : List Part), dis (PartS 4 vc 20 m) (OwnS 3 va 7 l) := fun l m => dis_symm (d1 l m)
  have oOv : ∀ (B : List (Nat × AObj)), applyU (OwnS 3 va 7 b.own ++ B) (OwnS 3 va 7 (mo_Own k b.own)) = OwnS 3 va 7 (mo_Own k b.own) ++ B := fun B => ap_same (OwnO_uniq (by omega) (by omega)) (OO_dom shp_Own mo_Own_len)
  have pOv : ∀ (B : List (Nat × AObj)), applyU (PartS 4 vc 20 b.parts ++ B) (PartS 4 vc 20 (mo_Part (k + (cfB1 b : Nat)) b.parts)) = PartS 4 vc 20 (mo_Part (k + (cfB1 b : Nat)) b.parts) ++ B := fun B => ap_same (PartO_uniq (by omega) (by omega)) (OO_dom shp_Part mo_Part_len)
  have oOv0 : True := trivial
  have pOv0 : True := trivial
  refine fn_sound (Env.nil P) Go.Ve.hm k_laws_markHandBook (nlb rfl) ?_ ?_
  · rw [List.all_eq_true]
    intro q hq
    obtain ⟨p, hp, rfl⟩ := List.mem_map.1 hq
    have := bk_num (by omega) (by omega) hp
    simp only [decide_eq_true_eq]; omega
  unfold s_laws_markHandBook bkM SeenS
  simp (maxSteps := 2000000) (maxDischargeDepth := 8) only [bitvec_to_nat, reduceIte, Nat.reduceEqDiff, Nat.reduceAdd, Nat.reduceLeDiff, reduceCtorEq, Nat.reduceBEq, Nat.reduceLT, Nat.reduceMod, fmc, retG_ret, retQ_eq, retQ_eqN, retOk, keepB, re_tupl, orr_t, int_toBitVec_meta, method_specs_simp, Nat.sub_zero, List.append_nil, bkV, offs_getA, offs_get, offs_setA, offs_set, ap_cons, ap_skip, ap_skip0, ap_appU, OwnO_offs, PartO_offs, OwnO_uniq, PartO_uniq, List.cons_append, List.nil_append, List.append_assoc, d1, d2, oOv, oOv0, pOv, pOv0, OO_get, OO_getA]
  refine ⟨_, _, callR_same hO (OO_dom shp_Own mo_Own_len) (getK_self (OwnO_uniq (by omega) (by omega))) (by simp [refsInL, refsIn, OO, dom]) (OO_refs rok_Own hes_Own) rfl (OO_refs rok_Own hes_Own), ?_⟩
  simp (maxSteps := 2000000) (maxDischargeDepth := 8) only [bitvec_to_nat, reduceIte, Nat.reduceEqDiff, Nat.reduceAdd, Nat.reduceLeDiff, reduceCtorEq, Nat.reduceBEq, Nat.reduceLT, Nat.reduceMod, fmc, retG_ret, retQ_eq, retQ_eqN, retOk, keepB, re_tupl, orr_t, int_toBitVec_meta, method_specs_simp, Nat.sub_zero, List.append_nil, bkV, offs_getA, offs_get, offs_setA, offs_set, ap_cons, ap_skip, ap_skip0, ap_appU, OwnO_offs, PartO_offs, OwnO_uniq, PartO_uniq, List.cons_append, List.nil_append, List.append_assoc, d1, d2, oOv, oOv0, pOv, pOv0, OO_get, OO_getA]
  refine ⟨_, _, callR_same hP (OO_dom shp_Part mo_Part_len) (getK_app (d1 _ _) (getK_self (PartO_uniq (by omega) (by omega)))) (by simp [refsInL, refsIn, OO, dom]) (OO_refs rok_Part hes_Part) rfl (OO_refs rok_Part hes_Part), ?_⟩
  simp (maxSteps := 2000000) (maxDischargeDepth := 8) only [bitvec_to_nat, reduceIte, Nat.reduceEqDiff, Nat.reduceAdd, Nat.reduceLeDiff, reduceCtorEq, Nat.reduceBEq, Nat.reduceLT, Nat.reduceMod, fmc, retG_ret, retQ_eq, retQ_eqN, retOk, keepB, re_tupl, orr_t, int_toBitVec_meta, method_specs_simp, Nat.sub_zero, List.append_nil, bkV, offs_getA, offs_get, offs_setA, offs_set, ap_cons, ap_skip, ap_skip0, ap_appU, OwnO_offs, PartO_offs, OwnO_uniq, PartO_uniq, List.cons_append, List.nil_append, List.append_assoc, d1, d2, oOv, oOv0, pOv, pOv0, OO_get, OO_getA]
  refine ⟨_, _, callR_same hS rfl (getK_one (by simp (config := { maxDischargeDepth := 8 }) only [getM, offs_getA, offs_get, offs_setA, offs_set, ap_cons, ap_skip, ap_skip0, ap_appU, OwnO_offs, PartO_offs, OwnO_uniq, PartO_uniq, List.cons_append, List.nil_append, List.append_assoc, d1, d2, oOv, oOv0, pOv, pOv0, OO_get, OO_getA, Nat.reduceEqDiff, Nat.reduceLT, Nat.reduceAdd, Nat.reduceLeDiff, reduceIte, ne_eq, not_false_eq_true])) (by simp [refsInL, refsIn, dom]) rfl rfl rfl, ?_⟩
  simp (maxSteps := 2000000) (maxDischargeDepth := 8) only [bitvec_to_nat, reduceIte, Nat.reduceEqDiff, Nat.reduceAdd, Nat.reduceLeDiff, reduceCtorEq, Nat.reduceBEq, Nat.reduceLT, Nat.reduceMod, fmc, retG_ret, retQ_eq, retQ_eqN, retOk, keepB, re_tupl, orr_t, int_toBitVec_meta, method_specs_simp, Nat.sub_zero, List.append_nil, bkV, offs_getA, offs_get, offs_setA, offs_set, ap_cons, ap_skip, ap_skip0, ap_appU, OwnO_offs, PartO_offs, OwnO_uniq, PartO_uniq, List.cons_append, List.nil_append, List.append_assoc, d1, d2, oOv, oOv0, pOv, pOv0, OO_get, OO_getA]
  refine ⟨by unfold cfB; unfold cfB1 cfB2; omega, wkM_self ?_, bk_refs (b := mb k b) (a := 3) (va := va) (c := 4) (vc := vc) (d := 5) (vd := vd) (kO := 7) (kP := 20), keepB_sub ?_⟩
  · have := getK_self (B := [(102, AObj.box [AV.own 3 va 0 b.own.length, AV.own 4 vc 0 b.parts.length, AV.own 5 vd 0 b.seen.length])]) (bk_uniq (b := mb k b) (a := 3) (va := va) (c := 4) (vc := vc) (d := 5) (vd := vd) (kO := 7) (kP := 20) (by omega) (by omega) (by omega) (by omega) (by omega) (by omega) (by omega) (by omega) (by omega))
    simp only [bkM, SeenS, List.append_assoc, List.cons_append, List.nil_append] at this
    exact this
  · intro o ho
    obtain ⟨p, hp, rfl⟩ := List.mem_map.1 ho
    simp only [List.mem_append, List.mem_cons, List.not_mem_nil, or_false] at hp
    rcases hp with hp | hp | hp | hp
    · exact .inr (mem_dom (List.mem_append.2 (.inl hp)))
    · exact .inr (mem_dom (List.mem_append.2 (.inr (List.mem_append.2 (.inl hp)))))
    · subst hp
      exact .inr (by simp [dom])
    · subst hp; exact .inl (by omega)
theorem c_heldBookO (b : Book) (k : Int) (hb : b.sm) (hk : 0 ≤ k ∧ k ≤ 1099511627776) : Contract P 22 [.agg ((mb k b).row 0), .int .i64 k] [] (.int .i64 (k + cfB b)) [] := by
  have q1 := cfB1_le hb
  have q2 := cfB2_le hb
  have hO := c_heldOwnO 0 0 k b.own hb.1.1 hb.1.2 (by omega)
  have hP := c_heldPartO 0 0 (k + (cfB1 b : Nat)) b.parts hb.2.1.1 hb.2.1.2 (by omega)
  have hS := c_heldSeenS 0 (k + (cfB1 b : Nat) + (cfB2 b : Nat)) b.seen.length hb.2.2 (by omega)
  simp only [Book.row, mb]
  refine fn_sound (Env.nil P) hm k_laws_heldHandBook (nlb rfl) rfl ?_; unfold s_laws_heldHandBook; simp (maxSteps := 2000000) only [bitvec_to_nat, reduceIte, Nat.reduceEqDiff, Nat.reduceAdd, Nat.reduceLeDiff, reduceCtorEq, Nat.reduceBEq, Nat.reduceLT, Nat.reduceMod, fmc, int_toBitVec_meta, method_specs_simp, Nat.sub_zero, List.append_nil]
  refine ⟨_, _, .inr (.inl ⟨rfl, _, rfl, hO, rfl, trivial⟩), ?_⟩
  simp (maxSteps := 2000000) only [bitvec_to_nat, reduceIte, Nat.reduceEqDiff, Nat.reduceAdd, Nat.reduceLeDiff, reduceCtorEq, Nat.reduceBEq, Nat.reduceLT, Nat.reduceMod, fmc, int_toBitVec_meta, method_specs_simp, Nat.sub_zero, List.append_nil]
  refine ⟨fun h => by omega, fun _ => ⟨_, _, .inr (.inl ⟨rfl, _, rfl, hP, rfl, trivial⟩), ?_⟩⟩
  simp (maxSteps := 2000000) only [bitvec_to_nat, reduceIte, Nat.reduceEqDiff, Nat.reduceAdd, Nat.reduceLeDiff, reduceCtorEq, Nat.reduceBEq, Nat.reduceLT, Nat.reduceMod, fmc, int_toBitVec_meta, method_specs_simp, Nat.sub_zero, List.append_nil]
  have e1 : ((cf_Part b.parts b.parts.length : Nat) : Int) = (cfB2 b : Nat) := rfl
  refine ⟨fun h => by omega, fun _ => ⟨_, _, .inr (.inl ⟨rfl, _, rfl, hS, rfl, trivial⟩), ?_⟩⟩
  simp (maxSteps := 2000000) only [bitvec_to_nat, reduceIte, Nat.reduceEqDiff, Nat.reduceAdd, Nat.reduceLeDiff, reduceCtorEq, Nat.reduceBEq, Nat.reduceLT, Nat.reduceMod, fmc, int_toBitVec_meta, method_specs_simp, Nat.sub_zero, List.append_nil]
  unfold cfB
  exact ⟨fun h => by omega, fun _ => by omega⟩
end
end Go.Ve

namespace Go.Ve
noncomputable section
open Go.Proofs
set_option maxRecDepth 100000
open Go.ChangeShapes Go.WideShapes
abbrev KA (b : Book) : List (Nat × AObj) := bkM b 611 0 612 0 613 0 120 140
theorem KA_offs {b : Book} {q : Nat} (h1 : q ≠ 611) (h2 : q ≠ 612) (h3 : q ≠ 613) (h : q < 1000) : offs (KA b) q := fun p hp e => by
  have := bk_num (by omega) (by omega) hp; omega
theorem KA_uniq (b : Book) : uniq (KA b) := bk_uniq (by omega) (by omega) (by omega) (by omega) (by omega) (by omega) (by omega) (by omega) (by omega)
theorem KA_100 {b : Book} : big100 (KA b) := bk_100 (by omega) (by omega) (by omega) (by omega) (by omega) (by omega) (by omega)
abbrev RA (v : Nat) (l : List VW) : List (Nat × AObj) := WordS 731 v 160 0 l
abbrev RB (v : Nat) (l : List VW) : List (Nat × AObj) := WordS 741 v 170 0 l
theorem KARA {b : Book} {v : Nat} {l : List VW} : dis (KA b) (RA v l) := fun p hp q hq e => by
  have := bk_num (by omega) (by omega) hp; have := OO_num rok_VW (by omega) hq; omega
theorem KARB {b : Book} {v : Nat} {l : List VW} : dis (KA b) (RB v l) := fun p hp q hq e => by
  have := bk_num (by omega) (by omega) hp; have := OO_num rok_VW (by omega) hq; omega
theorem RARB {v v' : Nat} {l l' : List VW} : dis (RA v l) (RB v' l') := fun p hp q hq e => by
  have := OO_num rok_VW (by omega) hp; have := OO_num rok_VW (by omega) hq; omega
theorem RAKA {b : Book} {v : Nat} {l : List VW} : dis (RA v l) (KA b) := dis_symm KARA
theorem RBKA {b : Book} {v : Nat} {l : List VW} : dis (RB v l) (KA b) := dis_symm KARB
theorem RBRA {v v' : Nat} {l l' : List VW} : dis (RB v l) (RA v' l') := dis_symm RARB
theorem toBookKA (b : Book) (hs : b.small) : Contract P 11 [.agg (b.row 1)] [] (bkV b 611 0 612 0 613 0) (KA b).reverse := (c_toBookO b hs).post_eq (funext fun o => getM_rev (KA_uniq b) o)
theorem toZone501 (t : Nat) (zs : List Zone) (hz : zs.length ≤ 1048576) : Contract P 10 [.sl t 5 (zs.map Zone.row)] [] (.own 501 0 0 zs.length) [(501, .arr 76 0 5 (zs.map Zone.row))] := by
  have h := (c_toZoneSO t zs hz).ren (swp 107 501) (swp_swp _ _)
  simp only [renL, ren, renM, renO, swp, reduceIte, Nat.reduceLT] at h
  exact h
theorem markZone501 (k : Int) (zs : List Zone) (hz : zs.length ≤ 1048577) (hk : 0 ≤ k ∧ k ≤ 1125899906842624) : Contract P 16 [.own 501 0 0 zs.length, .int .i64 k] [(501, .arr 76 0 5 (zs.map Zone.row))] (.int .i64 (k + 5 * zs.length)) [(501, .arr 76 0 5 ((ms_Zone k zs.length).map Zone.row))] := by
  have h := (c_markZoneS 0 k zs hz hk).ren (swp 3 501) (swp_swp _ _)
  simp only [renL, ren, renM, renO, swp, reduceIte, Nat.reduceLT] at h
  exact h
theorem markBookKA (b : Book) (k : Int) (hb : b.sm) (hk : 0 ≤ k ∧ k ≤ 1099511627776) : Contract P 17 [bkV b 611 0 612 0 613 0, .int .i64 k] (KA b) (.int .i64 (k + cfB b)) (gone (KA b)) := by
  have h := (((((c_markBookO b 0 0 0 k hb hk).ren (swp 3 611) (swp_swp _ _)).ren (swp 4 612) (swp_swp _ _)).ren (swp 5 613) (swp_swp _ _)).ren (swpB 7 120 11) (swpB_swpB (by omega) (by omega) (by omega))).ren (swpB 20 140 3) (swpB_swpB (by omega) (by omega) (by omega))
  have hs : ∀ q q' : Nat, q < 1000 → q' < 1000 → ∀ b : Book, ∀ a c d, renM (swp q q') (bkM b a 0 c 0 d 0 7 20) = bkM b (swp q q' a) 0 (swp q q' c) 0 (swp q q' d) 0 7 20 := fun q q' h1 h2 b a c d => bkM_ren (fun j i hj => swp_fam h1 h2) (fun j i hj => swp_fam h1 h2)
  have hO : ∀ b : Book, ∀ a c d, renM (swpB 7 120 11) (bkM b a 0 c 0 d 0 7 20) = bkM b (swpB 7 120 11 a) 0 (swpB 7 120 11 c) 0 (swpB 7 120 11 d) 0 120 20 := fun b a c d => bkM_ren (fun j i hj => swpB_at (by omega) hj) (fun j i hj => swpB_ne (by omega) (by omega) (by omega))
  have hP : ∀ b : Book, ∀ a c d, renM (swpB 20 140 3) (bkM b a 0 c 0 d 0 120 20) = bkM b (swpB 20 140 3 a) 0 (swpB 20 140 3 c) 0 (swpB 20 140 3 d) 0 120 140 := fun b a c d => bkM_ren (fun j i hj => swpB_ne (by omega) (by omega) (by omega)) (fun j i hj => swpB_at (by omega) hj)
  simp only [renL, bkV_ren, hs _ _ (show (3 : Nat) < 1000 by omega) (show (611 : Nat) < 1000 by omega), hs _ _ (show (4 : Nat) < 1000 by omega) (show (612 : Nat) < 1000 by omega), hs _ _ (show (5 : Nat) < 1000 by omega) (show (613 : Nat) < 1000 by omega), hO, hP, ren, swp, swpB, reduceIte, Nat.reduceEqDiff, Nat.reduceLeDiff] at h
  have h2 := h.gone rfl
  have e : (bkM (mb k b) 611 0 612 0 613 0 120 140).map (fun p => (p.1, AObj.gone)) = gone (KA b) := by
    have hd := bk_domE (b := mb k b) (b' := b) (a := 611) (va := 0) (c := 612) (vc := 0) (d := 613) (vd := 0) (kO := 120) (kP := 140) mb_own mb_parts
    have hg : ∀ l : List (Nat × AObj), l.map (fun p => (p.1, AObj.gone)) = (dom l).map fun o => (o, AObj.gone) := fun l => by simp [dom]
    unfold gone
    rw [hg, hg, hd]
  rw [e] at h2
  exact h2
theorem markWRA (v : Nat) (l : List VW) (k : Int) (hl : l.length ≤ 1048577) (hs : ∀ x ∈ l, x.sm) (hk : 0 ≤ k ∧ k ≤ 35184372088832) : Contract P 18 [.own 731 v 0 l.length, .int .i64 k] (RA v l) (.int .i64 (k + (cf_VW l l.length : Nat))) (RA v (mo_VW k l)) := by
  have h := ((c_markVWO v k l hl hs hk).ren (swp 3 731) (swp_swp _ _)).ren (swpB 7 160 8) (swpB_swpB (by omega) (by omega) (by omega))
  have e1 : swpB 7 160 8 (swp 3 731 3) = 731 := by rw [show swp 3 731 3 = 731 from by simp [swp], swpB_lt (by omega)]
  rw [OO_ren (k' := 7) (i1 := 0) rok_VW hes_Word (fun j i hj => swp_fam (by omega) (by omega)), OO_ren (k' := 160) (i1 := 0) rok_VW hes_Word (fun j i hj => swpB_at (by omega) hj), OO_ren (k' := 7) (i1 := 0) rok_VW hes_Word (fun j i hj => swp_fam (by omega) (by omega)), OO_ren (k' := 160) (i1 := 0) rok_VW hes_Word (fun j i hj => swpB_at (by omega) hj)] at h
  simp only [renL, ren, e1] at h
  exact h
theorem RA_ov {v : Nat} {l : List VW} {k : Int} {B : List (Nat × AObj)} : applyU (RA v l ++ B) (RA v (mo_VW k l)) = RA v (mo_VW k l) ++ B := ap_same (OO_uniq rok_VW (by omega) (by omega)) (OO_dom shp_VW mo_VW_len)
theorem RA_ov0 {v : Nat} {l : List VW} {k : Int} : applyU (RA v l) (RA v (mo_VW k l)) = RA v (mo_VW k l) := ap_same0 (OO_uniq rok_VW (by omega) (by omega)) (OO_dom shp_VW mo_VW_len)
theorem keep_gone {T M' B : List (Nat × AObj)} (h : big100 T) : keepB (gone T ++ B) M' = keepB B M' := keep_appL (keep_big (big100_gone h))
theorem KA_kg {b : Book} {M' B : List (Nat × AObj)} : keepB (gone (KA b) ++ B) M' = keepB B M' := keep_gone KA_100
theorem KA_kg0 {b : Book} {M' : List (Nat × AObj)} : keepB (gone (KA b)) M' = true := keep_big (big100_gone KA_100)
theorem KA_k {b : Book} {M' B : List (Nat × AObj)} : keepB (KA b ++ B) M' = keepB B M' := keep_appL (keep_big KA_100)
theorem KA_k0 {b : Book} {M' : List (Nat × AObj)} : keepB (KA b) M' = true := keep_big KA_100
theorem RA_100 {v : Nat} {l : List VW} : big100 (RA v l) := OO_100 rok_VW (by omega) (by omega) (by omega)
theorem RB_100 {v : Nat} {l : List VW} : big100 (RB v l) := OO_100 rok_VW (by omega) (by omega) (by omega)
theorem RA_k {v : Nat} {l : List VW} {M' B : List (Nat × AObj)} : keepB (RA v l ++ B) M' = keepB B M' := keep_appL (keep_big RA_100)
theorem RA_k0 {v : Nat} {l : List VW} {M' : List (Nat × AObj)} : keepB (RA v l) M' = true := keep_big RA_100
theorem RB_k {v : Nat} {l : List VW} {M' B : List (Nat × AObj)} : keepB (RB v l ++ B) M' = keepB B M' := keep_appL (keep_big RB_100)
theorem RB_k0 {v : Nat} {l : List VW} {M' : List (Nat × AObj)} : keepB (RB v l) M' = true := keep_big RB_100
theorem purN_W {M K : Nat → Option AObj} {o v k n : Nat} {l : List VW} (hn : n = l.length) (hM : ∀ p ∈ WordS o v k 0 l, M p.1 = some p.2) (hK : ∀ p ∈ WordS o v k 0 l, K p.1 = some p.2) : purN M K (.own o v 0 n) = some (.sl 99 8 ((l.map VW.w).map (Word.row 99))) := by
  have := purN_OO (M := M) (K := K) (o := o) (e := 73) (v := v) (sz := 8) (m := n) rok_VW hes_Word hn hM hK
  rw [this, List.map_map]; rfl
theorem KA_r99 {b : Book} : ∀ p ∈ (KA b).reverse, No99O p.2 := fun p hp => bk_99 p (List.mem_reverse.1 hp)
end
end Go.Ve

namespace Go.Ve
noncomputable section
open Go.Proofs
set_option maxRecDepth 100000
open Go.ChangeShapes Go.WideShapes
theorem c_eqWord (c d : Word) (hl : c.tu.length ≤ 4611686018427387904) : Contract P 47 [.agg (c.row 0), .agg (d.row 0)] [] (.bool (decide (c = d))) [] := by
  obtain ⟨c_kd, c_fr, c_dst, c_fl, c_nr, c_la, c_tn, c_tu⟩ := c
  obtain ⟨d_kd, d_fr, d_dst, d_fl, d_nr, d_la, d_tn, d_tu⟩ := d
  simp only [Word.row]
  refine fn_sound ((Env.nil P).add 27 t_eqBoxS h_eqBoxS) hm k_laws_eqHandWord (nlb rfl) rfl ?_; unfold s_laws_eqHandWord; simp (maxSteps := 2000000) (maxDischargeDepth := 8) only [bitvec_to_nat, reduceIte, Nat.reduceEqDiff, Nat.reduceAdd, Nat.reduceLeDiff, reduceCtorEq, Nat.reduceBEq, Nat.reduceLT, Nat.reduceMod, fmc, t_eqBoxS, int_toBitVec_meta, method_specs_simp]
  simp only [Word.mk.injEq]
  repeat' (first | with_reducible apply And.intro | with_reducible intro _)
  all_goals first | omega | (simp_all; done) | grind | grind [Word.small, Own.small, Part.small, Book.small, Sector.small, HCraft.small, World.small]
def t_eqWord : List AV → Option (Prop × AV)
  | [.agg [.int .i64 c_kd, .str c_fr, .str c_dst, .str c_fl, .int .i64 c_nr, .int .i64 c_la, .int .i64 c_tn, .sl 0 6 c_tu], .agg [.int .i64 d_kd, .str d_fr, .str d_dst, .str d_fl, .int .i64 d_nr, .int .i64 d_la, .int .i64 d_tn, .sl 0 6 d_tu]] => some ((((c_tu.map unBox).map Box6.row = c_tu) ∧ ((d_tu.map unBox).map Box6.row = d_tu)) ∧ ((Word.mk c_kd c_fr c_dst c_fl c_nr c_la c_tn (c_tu.map unBox)).tu.length ≤ 4611686018427387904), .bool (decide ((Word.mk c_kd c_fr c_dst c_fl c_nr c_la c_tn (c_tu.map unBox)) = (Word.mk d_kd d_fr d_dst d_fl d_nr d_la d_tn (d_tu.map unBox)))))
  | _ => none
theorem h_eqWord : ∀ args p v, t_eqWord args = some (p, v) → p → Contract P 47 args [] v [] ∧ noref v = true ∧ No99 v := by
  intro args p v h1 h2
  unfold t_eqWord at h1
  split at h1
  · rename_i c_kd c_fr c_dst c_fl c_nr c_la c_tn c_tu d_kd d_fr d_dst d_fl d_nr d_la d_tn d_tu
    cases h1
    obtain ⟨⟨e0, e1⟩, HP⟩ := h2
    have := c_eqWord (Word.mk c_kd c_fr c_dst c_fl c_nr c_la c_tn (c_tu.map unBox)) (Word.mk d_kd d_fr d_dst d_fl d_nr d_la d_tn (d_tu.map unBox)) HP
    exact ⟨by simpa only [e0, e1, Word.row, Word.row] using this, rfl, trivial⟩
  · cases h1
theorem c_eqWordS (t t' : Nat) (p q : List Word) (hp : p.length ≤ 4611686018427387904) (hx : ∀ x ∈ p, x.tu.length ≤ 4611686018427387904) : Contract P 13 [.sl t 8 (p.map (Word.row 0)), .sl t' 8 (q.map (Word.row 0))] [] (.bool (decide (p = q))) [] := by
  refine fn_sound ((Env.nil P).add 47 t_eqWord h_eqWord) hm k_laws_eqHandWordS (nlb rfl) rfl ?_; unfold s_laws_eqHandWordS; simp (maxSteps := 2000000) (maxDischargeDepth := 8) only [bitvec_to_nat, reduceIte, Nat.reduceEqDiff, Nat.reduceAdd, Nat.reduceLeDiff, reduceCtorEq, Nat.reduceBEq, Nat.reduceLT, Nat.reduceMod, fmc, t_eqWord, int_toBitVec_meta, method_specs_simp]
  refine ⟨fun h1 h => h1 (by rw [h]), fun h1 => ?_⟩
  refine loop_st (fun i : Nat => [(5, .int .i64 i)]) (fun _ => []) (fun i => i ≤ p.length ∧ ∀ j, j < i → p.getD j default = q.getD j default) (fun i => p.length - i) (0) (by simp only [u_E0, u_E1, u_M0, u_M1, w_setE0, w_setE1, w_setM0, w_setM1, reduceIte, Nat.reduceEqDiff]; exact ⟨by repeat' (first | exact trivial | refine ⟨.inr rfl, ?_⟩), by repeat' (first | exact trivial | refine ⟨rfl, ?_⟩), by first | rfl | simp [closedB, refsIn, refsInL, refsInO, dom, refsInL_nr, *], by first | rfl | simp [keepB, dom]⟩) ?_ ?_
  · exact ⟨Nat.zero_le _, by intro j hj; omega⟩
  intro i hi NX hN
  unfold l_laws_eqHandWordS_0; simp (maxSteps := 2000000) (maxDischargeDepth := 8) only [bitvec_to_nat, reduceIte, Nat.reduceEqDiff, Nat.reduceAdd, Nat.reduceLeDiff, reduceCtorEq, Nat.reduceBEq, Nat.reduceLT, Nat.reduceMod, fmc, t_eqWord, int_toBitVec_meta, method_specs_simp]
  have hx2 : i < p.length → _ := fun h => hx _ (getD_mem' h)
  repeat' (first | with_reducible apply And.intro | with_reducible intro _)
  all_goals first
    | omega
    | (refine hN (i + 1) _ (by simp only [u_E0, u_E1, u_M0, u_M1, w_setE0, w_setE1, w_setM0, w_setM1, reduceIte, Nat.reduceEqDiff]; exact ⟨by repeat' (first | exact trivial | refine ⟨.inr rfl, ?_⟩), by repeat' (first | exact trivial | refine ⟨rfl, ?_⟩), by first | rfl | simp [closedB, refsIn, refsInL, refsInO, dom, refsInL_nr, *], by first | rfl | simp [keepB, dom]⟩) ?_ ?_
       · exact ⟨by omega, all_snoc hi.2 (by with_reducible assumption)⟩
       · omega)
    | (intro h; subst h; exact absurd rfl (by with_reducible assumption))
    | (exact ext_of (by omega) fun j hj => hi.2 j (by omega))
    | grind
theorem n98_sl {t s : Nat} {xs : List (List AV)} : no98 (.sl t s xs) = (t != 98 && no98LL xs) := rfl
theorem n98_str {s : ByteArray} : no98 (.str s) = true := rfl
theorem tag_str {s : ByteArray} : tag0 (.str s) = .str s := rfl
theorem getK_both' {o : Nat} {x : AObj} {K : List (Nat × AObj)} {M : Nat → Option AObj} (h : M o = some x) (k : ∀ p ∈ K, M p.1 = some p.2) : ∀ p ∈ (o, x) :: K, M p.1 = some p.2 := fun p hp => by
  rcases List.mem_cons.1 hp with rfl | hp
  · exact h
  · exact k p hp
theorem c_markNWordS (t : Nat) (k : Int) : Contract P 18 [.sl t 8 [], .int .i64 k] [] (.int .i64 k) [] := by
  refine fn_sound ((Env.nil P).add 52 t_markText h_markText) hm k_laws_markHandWordS (nlb rfl) rfl ?_; unfold s_laws_markHandWordS; simp (maxSteps := 2000000) (maxDischargeDepth := 8) only [bitvec_to_nat, reduceIte, Nat.reduceEqDiff, Nat.reduceAdd, Nat.reduceLeDiff, reduceCtorEq, Nat.reduceBEq, Nat.reduceLT, Nat.reduceMod, fmc, t_markText, List.map_nil, List.length_nil]
  refine loop_st (fun _ : Nat => [(5, .int .i64 0)]) (fun _ => []) (fun _ => True) (fun i => i) 0 (by simp only [u_E0, u_E1, u_M0, u_M1, w_setE0, w_setE1, w_setM0, w_setM1, reduceIte, Nat.reduceEqDiff]; exact ⟨by repeat' (first | exact trivial | refine ⟨.inr rfl, ?_⟩), by repeat' (first | exact trivial | refine ⟨rfl, ?_⟩), by first | rfl | simp [closedB, refsIn, refsInL, refsInO, dom, refsInL_nr, *], by first | rfl | simp [keepB, dom]⟩) trivial ?_
  intro i _ NX hN
  unfold l_laws_markHandWordS_0; simp (maxSteps := 2000000) (maxDischargeDepth := 8) only [bitvec_to_nat, reduceIte, Nat.reduceEqDiff, Nat.reduceAdd, Nat.reduceLeDiff, reduceCtorEq, Nat.reduceBEq, Nat.reduceLT, Nat.reduceMod, fmc, t_markText, List.map_nil, List.length_nil]
  first
    | exact fun h => absurd h (by omega)
    | exact ⟨fun h => absurd h (by omega), fun _ => by first | trivial | rfl⟩
theorem fit_rows {α : Type} {f : α → List AV} {rs : List LSh} (h : ∀ r, fitsL rs r → ∃ x : α, r = f x) : ∀ {rows : List (List AV)}, (∀ r ∈ rows, fitsL rs r) → ∃ l : List α, rows = l.map f
  | [], _ => ⟨[], rfl⟩
  | r :: rows, k => by
    obtain ⟨x, rfl⟩ := h r (k r (by simp))
    obtain ⟨l, rfl⟩ := fit_rows h (rows := rows) fun r' h' => k r' (by simp [h'])
    exact ⟨x :: l, rfl⟩
def sh_ByteArray : List LSh := [.str]
def sh_Box6 : List LSh := [.int .i64, .int .i64, .int .i64, .int .i64, .int .i64, .int .i64]
theorem fit_ByteArray (r : List AV) (h : fitsL sh_ByteArray r) : ∃ x : ByteArray, r = srow x ∧ x.toList.length ≤ 9223372036854775807 := by
  simp only [sh_ByteArray, fitsL, fits] at h
  obtain ⟨_, _, rfl, ⟨n, rfl, h⟩, rfl⟩ := h
  exact ⟨n, rfl, by rw [← toList_size]; unfold maxLen at h; omega⟩
theorem fit_Box6 (r : List AV) (h : fitsL sh_Box6 r) : ∃ x : Box6, r = x.row := by
  simp only [sh_Box6, fitsL, fits] at h
  obtain ⟨_, _, rfl, ⟨a, rfl, _⟩, _, _, rfl, ⟨b, rfl, _⟩, _, _, rfl, ⟨c, rfl, _⟩, _, _, rfl, ⟨d, rfl, _⟩, _, _, rfl, ⟨e, rfl, _⟩, _, _, rfl, ⟨g, rfl, _⟩, rfl⟩ := h
  exact ⟨⟨a, b, c, d, e, g⟩, rfl⟩
def sh_Zone : List LSh := [.str, .int .i64, .int .i64, .int .i64, .int .i64]
theorem fit_Zone (r : List AV) (h : fitsL sh_Zone r) : ∃ x : Zone, r = Zone.row x ∧ x.fitp := by
  simp only [sh_Zone, fitsL, fits] at h
  obtain ⟨_, _, rfl, ⟨nm, rfl, h_nm⟩, _, _, rfl, ⟨x0, rfl, _⟩, _, _, rfl, ⟨y0, rfl, _⟩, _, _, rfl, ⟨x1, rfl, _⟩, _, _, rfl, ⟨y1, rfl, _⟩, rfl⟩ := h

  exact ⟨⟨nm, x0, y0, x1, y1⟩, rfl, (by have e := toList_size nm; unfold maxLen at h_nm; show nm.toList.length ≤ _; omega)⟩
def sh_Seen : List LSh := [.str, .int .i64]
theorem fit_Seen (r : List AV) (h : fitsL sh_Seen r) : ∃ x : Seen, r = Seen.row x ∧ x.fitp := by
  simp only [sh_Seen, fitsL, fits] at h
  obtain ⟨_, _, rfl, ⟨fl, rfl, h_fl⟩, _, _, rfl, ⟨nr, rfl, _⟩, rfl⟩ := h

  exact ⟨⟨fl, nr⟩, rfl, (by have e := toList_size fl; unfold maxLen at h_fl; show fl.toList.length ≤ _; omega)⟩
def sh_Part : List LSh := [.str, .int .i64, .sl sh_Box6]
theorem fit_Part (r : List AV) (h : fitsL sh_Part r) : ∃ x : Part, r = (Part.row 1) x ∧ x.fitp := by
  simp only [sh_Part, fitsL, fits] at h
  obtain ⟨_, _, rfl, ⟨fl, rfl, h_fl⟩, _, _, rfl, ⟨nr, rfl, _⟩, _, _, rfl, ⟨bx, rfl, h_bx, r_bx⟩, rfl⟩ := h
  obtain ⟨bx, rfl⟩ := fit_rows fit_Box6 r_bx
  rw [List.length_map] at h_bx
  exact ⟨⟨fl, nr, bx⟩, rfl, ⟨(by have e := toList_size fl; unfold maxLen at h_fl; show fl.toList.length ≤ _; omega), (by unfold maxLen at h_bx; omega)⟩⟩
def sh_Own : List LSh := [.str, .int .i64, .int .i64, .str, .int .i64, .int .i64, .sl sh_Box6, .int .i64, .sl sh_Box6, .sl sh_ByteArray, .bool]
theorem fit_Own (r : List AV) (h : fitsL sh_Own r) : ∃ x : Own, r = (Own.row 1) x ∧ x.fitp := by
  simp only [sh_Own, fitsL, fits] at h
  obtain ⟨_, _, rfl, ⟨fl, rfl, h_fl⟩, _, _, rfl, ⟨st, rfl, _⟩, _, _, rfl, ⟨tn, rfl, _⟩, _, _, rfl, ⟨dst, rfl, h_dst⟩, _, _, rfl, ⟨la, rfl, _⟩, _, _, rfl, ⟨nr, rfl, _⟩, _, _, rfl, ⟨tu, rfl, h_tu, r_tu⟩, _, _, rfl, ⟨wi, rfl, _⟩, _, _, rfl, ⟨nx, rfl, h_nx, r_nx⟩, _, _, rfl, ⟨gr, rfl, h_gr, r_gr⟩, _, _, rfl, ⟨sent, rfl⟩, rfl⟩ := h
  obtain ⟨tu, rfl⟩ := fit_rows fit_Box6 r_tu
  rw [List.length_map] at h_tu
  obtain ⟨nx, rfl⟩ := fit_rows fit_Box6 r_nx
  rw [List.length_map] at h_nx
  obtain ⟨gr, rfl, p_gr⟩ := fit_rows2 fit_ByteArray r_gr
  rw [List.length_map] at h_gr
  exact ⟨⟨fl, st, tn, dst, la, nr, tu, wi, nx, gr, sent⟩, rfl, ⟨(by have e := toList_size fl; unfold maxLen at h_fl; show fl.toList.length ≤ _; omega), (by have e := toList_size dst; unfold maxLen at h_dst; show dst.toList.length ≤ _; omega), (by unfold maxLen at h_tu; omega), (by unfold maxLen at h_nx; omega), ⟨(by unfold maxLen at h_gr; omega), p_gr⟩⟩⟩
def sh_Book : List LSh := [.sl sh_Own, .sl sh_Part, .sl sh_Seen]
theorem fit_Book (r : List AV) (h : fitsL sh_Book r) : ∃ x : Book, r = (Book.row 1) x ∧ x.fitp := by
  simp only [sh_Book, fitsL, fits] at h
  obtain ⟨_, _, rfl, ⟨own, rfl, h_own, r_own⟩, _, _, rfl, ⟨parts, rfl, h_parts, r_parts⟩, _, _, rfl, ⟨seen, rfl, h_seen, r_seen⟩, rfl⟩ := h
  obtain ⟨own, rfl, p_own⟩ := fit_rows2 fit_Own r_own
  rw [List.length_map] at h_own
  obtain ⟨parts, rfl, p_parts⟩ := fit_rows2 fit_Part r_parts
  rw [List.length_map] at h_parts
  obtain ⟨seen, rfl, p_seen⟩ := fit_rows2 fit_Seen r_seen
  rw [List.length_map] at h_seen
  exact ⟨⟨own, parts, seen⟩, rfl, ⟨⟨(by unfold maxLen at h_own; omega), p_own⟩, ⟨(by unfold maxLen at h_parts; omega), p_parts⟩, ⟨(by unfold maxLen at h_seen; omega), p_seen⟩⟩⟩
end
end Go.Ve

namespace Go.Ve
noncomputable section
open Go.Proofs
set_option maxRecDepth 100000
open Go.ChangeShapes Go.WideShapes
theorem c_own1 (z : Own) (s : ByteArray) : Contract P 119 [.agg (z.row 0), .ptr 3 0] [(3, .box [.str s])] (.bool (decide (z.fl = s))) [(3, .box [.str s])] := by
  simp only [Own.row]
  refine fn_sound (Env.nil P) hm k_impl_HandBook_own_1 (nlb rfl) rfl ?_; unfold s_impl_HandBook_own_1; simp (maxSteps := 2000000) only [bitvec_to_nat, reduceIte, Nat.reduceEqDiff, Nat.reduceAdd, Nat.reduceLeDiff, reduceCtorEq, Nat.reduceBEq, Nat.reduceLT, Nat.reduceMod, fmc, retG_ret, retQ_eq, retQ_eqN, retOk, keepB, re_tupl, orr_t, Zone_eta]
  all_goals simp [dom]
theorem c_IndexFunc_Own (g : FuncId) (hg : calleeB P g = true) (ls : List AV) (hls : norefL ls = true) (p : Own → Bool) (t : Nat) (zs : List Own) (hl : zs.length ≤ 4611686018427387904)
    (hC : ∀ z, Contract P g (.agg (Own.row 0 z) :: [.ptr 3 0]) [(3, .box ls)] (.bool (p z)) [(3, .box ls)]) : Contract P 118 [.sl t 11 (zs.map (Own.row 0)), .fn g [] [.ptr 3 0]] [(3, .box ls)] (.int .i64 (fIdx p zs)) [(3, .box ls)] := by
  refine fn_sound (Env.nil P) hm k_slices_IndexFunc_HandOwn (nlb rfl) rfl ?_; unfold s_slices_IndexFunc_HandOwn; simp (maxSteps := 2000000) only [bitvec_to_nat, reduceIte, Nat.reduceEqDiff, Nat.reduceAdd, Nat.reduceLeDiff, reduceCtorEq, Nat.reduceBEq, Nat.reduceLT, Nat.reduceMod, fmc, retG_ret, retQ_eq, retQ_eqN, retOk, keepB, re_tupl, orr_t, callL_nil]
  refine loop_st (fun i : Nat => [(8, .int .i64 i)]) (fun _ => []) (fun i => i ≤ zs.length ∧ ∀ j, j < i → p (zs.getD j default) = false) (fun i => zs.length - i) (0) (by simp only [u_E0, u_E1, u_M0, u_M1, w_setE0, w_setE1, w_setM0, w_setM1, reduceIte, Nat.reduceEqDiff]; exact ⟨by repeat' (first | exact trivial | refine ⟨.inr rfl, ?_⟩), by repeat' (first | exact trivial | refine ⟨rfl, ?_⟩), by first | rfl | simp [closedB, refsIn, refsInL, refsInO, dom, refsInL_nr, *], by first | rfl | simp [keepB, dom]⟩) ?_ ?_
  · exact ⟨Nat.zero_le _, by intro j hj; omega⟩
  intro i hi NX hN
  unfold l_slices_IndexFunc_HandOwn_0; simp (maxSteps := 2000000) only [bitvec_to_nat, reduceIte, Nat.reduceEqDiff, Nat.reduceAdd, Nat.reduceLeDiff, reduceCtorEq, Nat.reduceBEq, Nat.reduceLT, Nat.reduceMod, fmc, retG_ret, retQ_eq, retQ_eqN, retOk, keepB, re_tupl, orr_t, callL_nil, Own_len, Own_take]
  refine ⟨fun h1 => ⟨by omega, by omega, hg, _, _, .inl ⟨[(3, .box ls)], hC (zs.getD i default), ?_, ?_, ?_, ?_, ?_, rfl, ?_⟩, ?_⟩, fun h1 => ?_⟩
  · simp [getM]
  · intro q hq; left; revert q; simp [dom]
  · simp [dom]
  · simp [refsInL, refsIn, dom, refsInL_nr, Own_nr]
  · simp [refsInO, refsInL_nr, *]
  · simp [refsInO, refsInL_nr, *]
  · simp (maxSteps := 2000000) only [bitvec_to_nat, reduceIte, Nat.reduceEqDiff, Nat.reduceAdd, Nat.reduceLeDiff, reduceCtorEq, Nat.reduceBEq, Nat.reduceLT, Nat.reduceMod, fmc, retG_ret, retQ_eq, retQ_eqN, retOk, keepB, re_tupl, orr_t, callL_nil]
    refine ⟨fun h2 => ?_, fun h2 => ?_⟩
    · simp (maxSteps := 2000000) only [bitvec_to_nat, reduceIte, Nat.reduceEqDiff, Nat.reduceAdd, Nat.reduceLeDiff, reduceCtorEq, Nat.reduceBEq, Nat.reduceLT, Nat.reduceMod, fmc, retG_ret, retQ_eq, retQ_eqN, retOk, keepB, re_tupl, orr_t, callL_nil]
      rw [fIdx_at (by omega) h2 hi.2]
      simp [dom, refsInL_nr, *]
    · simp (maxSteps := 2000000) only [bitvec_to_nat, reduceIte, Nat.reduceEqDiff, Nat.reduceAdd, Nat.reduceLeDiff, reduceCtorEq, Nat.reduceBEq, Nat.reduceLT, Nat.reduceMod, fmc, retG_ret, retQ_eq, retQ_eqN, retOk, keepB, re_tupl, orr_t, callL_nil]
      refine ⟨by omega, ?_⟩
      refine hN (i + 1) _ (by simp only [u_E0, u_E1, u_M0, u_M1, w_setE0, w_setE1, w_setM0, w_setM1, reduceIte, Nat.reduceEqDiff]; exact ⟨by repeat' (first | exact trivial | refine ⟨.inr rfl, ?_⟩), by repeat' (first | exact trivial | refine ⟨rfl, ?_⟩), by first | rfl | simp [closedB, refsIn, refsInL, refsInO, dom, refsInL_nr, *], by first | rfl | simp [keepB, dom]⟩) ?_ ?_
      · exact ⟨by omega, all_snoc hi.2 h2⟩
      · omega
  · rw [fIdx_none fun j hj => hi.2 j (by omega)]
    simp [dom, refsInL_nr, *]
def r_ownI : RTab
  | [.sl zt 11 zx, .fn 119 [] [.ptr ob off]], M => match M ob with
    | some (.box [.str s]) => some ⟨off = 0 ∧ (zx.map unOwn).map (Own.row 0) = zx ∧ (zx.map unOwn).length ≤ 4611686018427387904, fun _ : Unit => True, fun _ => .int .i64 (fIdx (fun z => decide (z.fl = s)) (zx.map unOwn)), fun _ => [(ob, .box [.str s])]⟩
    | _ => none
  | _, _ => none
theorem h_ownI : okTab P 118 r_ownI := by
  intro args M o h hp
  unfold r_ownI at h
  split at h
  · rename_i zt zx ob off
    split at h
    · rename_i s hM
      cases h
      obtain ⟨rfl, e0, HP⟩ := hp
      have hC := c_IndexFunc_Own 119 (by kernel_rfl) _ rfl (fun z => decide (z.fl = s)) zt (zx.map unOwn) HP fun z => c_own1 z s
      simp only [e0, decide_eq_true_eq] at hC
      exact ⟨(), trivial, callR_box _ hC (by simp [norefL, noref]) rfl (by assumption) (by simp [renL, ren, swp]) (by simp [refsInL, refsIn, noref])⟩
    · cases h
  · cases h
def oAt (l : List Own) (s : ByteArray) : Int := fIdx (fun z => decide (z.fl = s)) l
theorem c_ownAt (b : Book) (s : ByteArray) (hl : b.own.length ≤ 4611686018427387904) : Contract P 96 [.agg (b.row 0), .str s] [] (.int .i64 (oAt b.own s)) [] := by
  simp only [Book.row]
  refine fn_sound ((Env.nil P).addR 118 r_ownI h_ownI) hm k_impl_HandBook_own (nlb rfl) rfl ?_; unfold s_impl_HandBook_own; simp (maxSteps := 2000000) only [bitvec_to_nat, reduceIte, Nat.reduceEqDiff, Nat.reduceAdd, Nat.reduceLeDiff, reduceCtorEq, Nat.reduceBEq, Nat.reduceLT, Nat.reduceMod, fmc, retG_ret, retQ_eq, retQ_eqN, retOk, keepB, re_tupl, orr_t, r_ownI, un_Own, List.length_map]
  exact ⟨hl, fun _ => rfl⟩
theorem c_sAt (b : Book) (s : ByteArray) (hl : b.own.length ≤ 4611686018427387904) : Contract P 58 [.agg (b.row 0), .str s] [] (.int .i64 (oAt b.own s)) [] := by
  simp only [Book.row]
  refine fn_sound (Env.nil P) hm k_spec_l33At (nlb rfl) rfl ?_; unfold s_spec_l33At; simp (maxSteps := 2000000) only [bitvec_to_nat, reduceIte, Nat.reduceEqDiff, Nat.reduceAdd, Nat.reduceLeDiff, reduceCtorEq, Nat.reduceBEq, Nat.reduceLT, Nat.reduceMod, fmc, int_toBitVec_meta, method_specs_simp]
  refine loop_st (fun i : Nat => [(5, .int .i64 i)]) (fun _ => []) (fun i => i ≤ b.own.length ∧ ∀ j, j < i → decide ((b.own.getD j default).fl = s) = false) (fun i => b.own.length - i) 0 (by simp only [u_E0, u_E1, u_M0, u_M1, w_setE0, w_setE1, w_setM0, w_setM1, reduceIte, Nat.reduceEqDiff]; exact ⟨by repeat' (first | exact trivial | refine ⟨.inr rfl, ?_⟩), by repeat' (first | exact trivial | refine ⟨rfl, ?_⟩), by first | rfl | simp [closedB, refsIn, refsInL, refsInO, dom, refsInL_nr, *], by first | rfl | simp [keepB, dom]⟩) ⟨Nat.zero_le _, by intro j hj; omega⟩ ?_
  intro i hi NX hN
  unfold l_spec_l33At_0; simp (maxSteps := 2000000) only [bitvec_to_nat, reduceIte, Nat.reduceEqDiff, Nat.reduceAdd, Nat.reduceLeDiff, reduceCtorEq, Nat.reduceBEq, Nat.reduceLT, Nat.reduceMod, fmc, int_toBitVec_meta, method_specs_simp]
  repeat' (first | with_reducible apply And.intro | with_reducible intro _)
  all_goals first
    | omega
    | (rw [oAt, fIdx_at (by omega) (by simpa using ‹_›) hi.2]; done)
    | (refine hN (i + 1) _ (by simp only [u_E0, u_E1, u_M0, u_M1, w_setE0, w_setE1, w_setM0, w_setM1, reduceIte, Nat.reduceEqDiff]; exact ⟨by repeat' (first | exact trivial | refine ⟨.inr rfl, ?_⟩), by repeat' (first | exact trivial | refine ⟨rfl, ?_⟩), by first | rfl | simp [closedB, refsIn, refsInL, refsInO, dom, refsInL_nr, *], by first | rfl | simp [keepB, dom]⟩) ?_ ?_
       · exact ⟨by omega, all_snoc hi.2 (by simpa using ‹_›)⟩
       · omega)
    | (rw [oAt, fIdx_none fun j hj => hi.2 j (by omega)]; done)
    | trace_state
def t_sAt : List AV → Option (Prop × AV)
  | [.agg [.sl 0 11 b_own, .sl 0 3 b_parts, .sl 0 2 b_seen], .str s] => some ((((b_own.map unOwn).map (Own.row 0) = b_own) ∧ ((b_parts.map unPart).map (Part.row 0) = b_parts) ∧ ((b_seen.map unSeen).map Seen.row = b_seen)) ∧ ((Book.own (Book.mk (b_own.map unOwn) (b_parts.map unPart) (b_seen.map unSeen))).length ≤ 4611686018427387904), .int .i64 (oAt (Book.own (Book.mk (b_own.map unOwn) (b_parts.map unPart) (b_seen.map unSeen))) s))
  | _ => none
theorem h_sAt : ∀ args p v, t_sAt args = some (p, v) → p → Contract P 58 args [] v [] ∧ noref v = true ∧ No99 v := by
  intro args p v h1 h2
  unfold t_sAt at h1
  split at h1
  · rename_i b_own b_parts b_seen s
    cases h1
    obtain ⟨⟨e0, e1, e2⟩, HP⟩ := h2
    have := c_sAt (Book.mk (b_own.map unOwn) (b_parts.map unPart) (b_seen.map unSeen)) s HP
    exact ⟨by simpa only [e0, e1, e2, Book.row] using this, rfl, trivial⟩
  · cases h1
set_option maxHeartbeats 8000000 in
theorem c_ownBookO (b : Book) (hb : b.small) : Contract P 60 [.agg (b.row 0)] [] (bkV b 131 b.own.length 149 b.parts.length 154 0) (bkM b 131 b.own.length 149 b.parts.length 154 0 110 121) := by
  have hs1 : True := trivial
  have hs2 : True := trivial
  have hs3 : True := trivial
  have tkO : True := trivial
  have tkB : True := trivial
  have bA : True := trivial
  have bP : True := trivial
  have hp1 : True := trivial
  have hp2 : True := trivial
  have hp3 : True := trivial
  have tkP : True := trivial
  have tkS : True := trivial
  have hb' := hb
  unfold Book.small at hb
  have cl0 : ∀ (i j : Nat), closedB ⟨[(1, .ptr 101 0), (2, .ptr 102 0), (3, .ptr 103 0), (9, .sl 0 11 (b.own.map (Own.row 0))), (10, .int .i64 (b.own.length : Nat)), (11, .int .i64 (i : Nat))], (101, .box [.sl 0 11 (b.own.map (Own.row 0)), .sl 0 3 (b.parts.map (Part.row 0)), .sl 0 2 (b.seen.map Seen.row)]) :: (102, .box [.sl 0 11 [], .sl 0 3 [], .sl 0 2 []]) :: (103, .box [.own 131 j 0 j, .sl 98 3 [], .sl 98 2 []]) :: OwnS 131 j 110 (b.own.take j)⟩ = true := fun i j => by
    simp only [closedB, List.all_cons, Bool.and_eq_true]
    refine ⟨⟨rfl, rfl, rfl, rfl, rfl, rfl, rfl⟩, rfl, rfl, by simp [refsInO, refsInL, refsIn, dom, OO], ?_⟩
    exact OO_refsD rok_Own hes_Own fun p hp => List.mem_cons_of_mem _ (List.mem_cons_of_mem _ (List.mem_cons_of_mem _ (mem_dom (List.mem_cons_of_mem _ hp))))
  have cl1 : ∀ (i : Nat), closedB ⟨[(1, .ptr 101 0), (2, .ptr 102 0), (3, .ptr 103 0), (35, .sl 0 3 (b.parts.map (Part.row 0))), (36, .int .i64 (b.parts.length : Nat)), (37, .int .i64 (i : Nat))], (101, .box [.sl 0 11 (b.own.map (Own.row 0)), .sl 0 3 (b.parts.map (Part.row 0)), .sl 0 2 (b.seen.map Seen.row)]) :: (102, .box [.sl 0 11 [], .sl 0 3 [], .sl 0 2 []]) :: (103, .box [.own 131 b.own.length 0 b.own.length, .own 149 i 0 i, .sl 98 2 []]) :: (OwnS 131 b.own.length 110 b.own ++ PartS 149 i 121 (b.parts.take i))⟩ = true := fun i => by
    simp only [closedB, List.all_cons, Bool.and_eq_true]
    refine ⟨⟨rfl, rfl, rfl, rfl, rfl, rfl, rfl⟩, rfl, rfl, by simp [refsInO, refsInL, refsIn, dom, OO], ?_⟩
    rw [List.all_append, Bool.and_eq_true]
    exact ⟨OO_refsD rok_Own hes_Own fun p hp => List.mem_cons_of_mem _ (List.mem_cons_of_mem _ (List.mem_cons_of_mem _ (mem_dom (List.mem_append.2 (.inl (List.mem_cons_of_mem _ hp)))))), OO_refsD rok_Part hes_Part fun p hp => List.mem_cons_of_mem _ (List.mem_cons_of_mem _ (List.mem_cons_of_mem _ (mem_dom (List.mem_append.2 (.inr (List.mem_cons_of_mem _ hp))))))⟩
  simp only [Book.row]
  refine fn_sound (Env.nil P) hm kO_impl_ownBook (nlb rfl) rfl ?_; unfold sO_impl_ownBook; simp (maxSteps := 2000000) (maxDischargeDepth := 8) only [bitvec_to_nat, reduceIte, Nat.reduceEqDiff, Nat.reduceAdd, Nat.reduceLeDiff, reduceCtorEq, Nat.reduceBEq, Nat.reduceLT, Nat.reduceMod, fmc, retG_ret, retQ_eq, retQ_eqN, retOk, keepB, re_tupl, orr_t, int_toBitVec_meta, method_specs_simp, Nat.sub_zero, List.append_nil, hs1, hs2, hs3, tkO, tkB, oRows_len, appE, gB, gB0, sB, sB0, bA, bP, hp1, hp2, hp3, tkP, tkS, fam_ne, fam_ne', fam_eqF, List.append_assoc, List.cons_append, List.nil_append, offs_set, offs_getA, offs_setA, offs_get, OwnO_offs, PartO_offs, OO_get, OO_getA]
  refine loop_F (fun i : Nat => ⟨[(1, .ptr 101 0), (2, .ptr 102 0), (3, .ptr 103 0), (9, .sl 0 11 (b.own.map (Own.row 0))), (10, .int .i64 (b.own.length : Nat)), (11, .int .i64 (i : Nat))], (101, .box [.sl 0 11 (b.own.map (Own.row 0)), .sl 0 3 (b.parts.map (Part.row 0)), .sl 0 2 (b.seen.map Seen.row)]) :: (102, .box [.sl 0 11 [], .sl 0 3 [], .sl 0 2 []]) :: (103, .box [.own 131 i 0 i, .sl 98 3 [], .sl 98 2 []]) :: OwnS 131 i 110 (b.own.take i)⟩) (fun i => i ≤ b.own.length) (fun i => b.own.length - i) 0 ?_ (Nat.zero_le _) ?_
  · exact ⟨by repeat' (first | exact trivial | refine ⟨.inr rfl, ?_⟩), ⟨rfl, rfl, rfl, rfl, trivial⟩, cl0 0 0, by simp [keepB, dom]⟩
  intro i hi NX hN
  by_cases h : i < b.own.length
  · have hx := hb.1.2 _ (getD_mem' h)
    unfold Own.small at hx
    have bA : bigs (oObjs esOwn (Own.row 0) 110 0 (b.own.take i)) := bigs_oObjs
    have hlt : (b.own.take i).length = i := by rw [List.length_take]; omega
    have tkO : (oRows (Own.row 0) 110 0 (b.own.take i)).take i = oRows (Own.row 0) 110 0 (b.own.take i) := List.take_of_length_le (by rw [oRows_len, hlt]; omega)
    have tkB : List.take (b.own.getD i default).gr.length ((b.own.getD i default).gr.map srow) = (b.own.getD i default).gr.map srow := List.take_of_length_le (by simp)
    have hC1 := (c_ownBoxesO 0 (b.own.getD i default).tu (by omega)).ren (swp 104 (fam 116 i)) (swp_swp _ _)
    have hC2 := (c_ownBoxesO 0 (b.own.getD i default).nx (by omega)).ren (swp 104 (fam 118 i)) (swp_swp _ _)
    simp only [renL, ren, renM, renO, swp, reduceIte, Nat.reduceLT] at hC1 hC2
    have hnw : ∀ q, q < 1000 → getM (oObjs esOwn (Own.row 0) 110 0 (b.own.take i)) (fam q i) = none := fun q hq => oObjs_newT rok_Own (by omega) hq
    have hs1 : ∀ (B : List (Nat × AObj)) (q : Nat) (x : AObj), q < 1000 → setM (oObjs esOwn (Own.row 0) 110 0 (b.own.take i) ++ B) (fam q i) x = oObjs esOwn (Own.row 0) 110 0 (b.own.take i) ++ setM B (fam q i) x := fun B q x hq => setM_app (hnw q hq)
    have hs2 : ∀ (B : List (Nat × AObj)) (q : Nat), q < 1000 → getM (oObjs esOwn (Own.row 0) 110 0 (b.own.take i) ++ B) (fam q i) = getM B (fam q i) := fun B q hq => getM_app_none (hnw q hq)
    have hs3 : ∀ (q : Nat) (x : AObj), q < 1000 → setM (oObjs esOwn (Own.row 0) 110 0 (b.own.take i)) (fam q i) x = oObjs esOwn (Own.row 0) 110 0 (b.own.take i) ++ [(fam q i, x)] := fun q x hq => setM_new (hnw q hq)
    simp only [OO]
    unfold lO_impl_ownBook_0; simp (maxSteps := 2000000) (maxDischargeDepth := 8) only [bitvec_to_nat, reduceIte, Nat.reduceEqDiff, Nat.reduceAdd, Nat.reduceLeDiff, reduceCtorEq, Nat.reduceBEq, Nat.reduceLT, Nat.reduceMod, fmc, retG_ret, retQ_eq, retQ_eqN, retOk, keepB, re_tupl, orr_t, int_toBitVec_meta, method_specs_simp, Nat.sub_zero, List.append_nil, hs1, hs2, hs3, tkO, tkB, oRows_len, appE, gB, gB0, sB, sB0, bA, bP, hp1, hp2, hp3, tkP, tkS, fam_ne, fam_ne', fam_eqF, List.append_assoc, List.cons_append, List.nil_append, offs_set, offs_getA, offs_setA, offs_get, OwnO_offs, PartO_offs, OO_get, OO_getA]
    refine ⟨fun _ => ?_, fun h' => absurd (by omega) h'⟩
    repeat (refine ⟨by first | omega | rfl, ?_⟩)
    refine ⟨_, _, .inr (.inr (.inl ⟨_, rfl, hC1, by simp [getM, fam_ne, fam_ne', getM_append, hnw], by simp [refsIn, refsInL, dom], rfl, by simp [No99], by simp [No99O, no99_box]⟩)), ?_⟩
    simp (maxSteps := 2000000) (maxDischargeDepth := 8) only [bitvec_to_nat, reduceIte, Nat.reduceEqDiff, Nat.reduceAdd, Nat.reduceLeDiff, reduceCtorEq, Nat.reduceBEq, Nat.reduceLT, Nat.reduceMod, fmc, retG_ret, retQ_eq, retQ_eqN, retOk, keepB, re_tupl, orr_t, int_toBitVec_meta, method_specs_simp, Nat.sub_zero, List.append_nil, hs1, hs2, hs3, tkO, tkB, oRows_len, appE, gB, gB0, sB, sB0, bA, bP, hp1, hp2, hp3, tkP, tkS, fam_ne, fam_ne', fam_eqF, List.append_assoc, List.cons_append, List.nil_append, offs_set, offs_getA, offs_setA, offs_get, OwnO_offs, PartO_offs, OO_get, OO_getA]
    repeat (refine ⟨by first | omega | rfl, ?_⟩)
    refine ⟨_, _, .inr (.inr (.inl ⟨_, rfl, hC2, by simp [getM, fam_ne, fam_ne', fam_eqF, getM_append, hnw], by simp [refsIn, refsInL, dom], rfl, by simp [No99], by simp [No99O, no99_box]⟩)), ?_⟩
    simp (maxSteps := 2000000) (maxDischargeDepth := 8) only [bitvec_to_nat, reduceIte, Nat.reduceEqDiff, Nat.reduceAdd, Nat.reduceLeDiff, reduceCtorEq, Nat.reduceBEq, Nat.reduceLT, Nat.reduceMod, fmc, retG_ret, retQ_eq, retQ_eqN, retOk, keepB, re_tupl, orr_t, int_toBitVec_meta, method_specs_simp, Nat.sub_zero, List.append_nil, hs1, hs2, hs3, tkO, tkB, oRows_len, appE, gB, gB0, sB, sB0, bA, bP, hp1, hp2, hp3, tkP, tkS, fam_ne, fam_ne', fam_eqF, List.append_assoc, List.cons_append, List.nil_append, offs_set, offs_getA, offs_setA, offs_get, OwnO_offs, PartO_offs, OO_get, OO_getA]
    repeat (refine ⟨by first | omega | rfl, ?_⟩)
    have hoo : ∀ q, q < 1000 → offs (OwnS 131 (i + 1) 110 (b.own.take (i + 1))) q ∨ q = 131 := fun q hq => by
      by_cases e : q = 131
      · exact .inr e
      · exact .inl (OwnO_offs e hq (by omega))
    have hot : ∀ q, q < 131 → offs (OwnS 131 (i + 1) 110 (b.own.take (i + 1))) q := fun q hq => OwnO_offs (by omega) (by omega) (by omega)
    have s3 : ∀ q, q < 1000 → q ≠ 123 → swp 123 (fam 119 i) q = q := fun q hq hn => swp_ne' hn (by unfold fam; omega)
    have s4 : ∀ j i', j < 11 → i' < i → swp 123 (fam 119 i) (fam (110 + j) i') = fam (110 + j) i' := fun j i' hj hi' => swp_ne' (by unfold fam; omega) (by unfold fam; omega)
    have s5 : swp 123 (fam 119 i) (fam 116 i) = fam 116 i := swp_ne' (by unfold fam; omega) (by unfold fam; omega)
    have s6 : swp 123 (fam 119 i) (fam 118 i) = fam 118 i := swp_ne' (by unfold fam; omega) (by unfold fam; omega)
    have s7 : swp 123 (fam 119 i) (fam 119 i) = 123 := by unfold swp; rw [if_neg (by unfold fam; omega), if_pos rfl]
    have s8 : swp 123 (fam 119 i) 123 = fam 119 i := by unfold swp; rw [if_pos rfl]
    have ht : b.own.take (i + 1) = b.own.take i ++ [b.own.getD i default] := by rw [List.take_succ_eq_append_getElem h]; simp [h]
    refine ⟨swp 123 (fam 119 i), ⟨[(1, .ptr 101 0), (2, .ptr 102 0), (3, .ptr 103 0), (9, .sl 0 11 (b.own.map (Own.row 0))), (10, .int .i64 (b.own.length : Nat)), (11, .int .i64 (i : Nat))], (101, .box [.sl 0 11 (b.own.map (Own.row 0)), .sl 0 3 (b.parts.map (Part.row 0)), .sl 0 2 (b.seen.map Seen.row)]) :: (102, .box [.sl 0 11 [], .sl 0 3 [], .sl 0 2 []]) :: (103, .box [.own 131 (i + 1) 0 (i + 1), .sl 98 3 [], .sl 98 2 []]) :: OwnS 131 (i + 1) 110 (b.own.take (i + 1))⟩, swp_swp _ _, swp_lo (by omega) (by rw [fam_mod (by omega)]; omega), ⟨?_, wkM_self ?_, cl0 i (i + 1), ?_⟩, ?_⟩
    · simp only [St.ren, renE, ren]
      repeat' (first | exact trivial | refine ⟨.inr rfl, ?_⟩)
    · simp only [St.ren]
      intro p hp
      rw [getM_renM (swp_swp _ _)]
      rcases List.mem_cons.1 hp with rfl | hp
      · rw [s3 _ (by omega) (by omega)]; simp [getM, renO, renL, ren]
      rcases List.mem_cons.1 hp with rfl | hp
      · rw [s3 _ (by omega) (by omega)]; simp [getM, renO, renL, ren]
      rcases List.mem_cons.1 hp with rfl | hp
      · rw [s3 _ (by omega) (by omega)]; simp [getM, renO, renL, ren, s3]
      rcases OO_mem hp with rfl | hp
      · rw [s3 _ (by omega) (by omega)]
        simp only [getM, reduceIte, Nat.reduceEqDiff, Option.map_some, renO, Nat.reduceLT, Nat.reduceAdd]
        rw [List.map_append, oRows_renB (k' := 110) (i1 := 0) rok_Own (fun j i' hj hi' => by rw [hlt] at hi'; rw [Nat.zero_add]; exact s4 j i' hj hi'), ht, oRows_snoc, hlt, Nat.zero_add]
        simp [renL, ren, s5, s6, s8, ownR, ownC, Own.row]
      · rw [oObjs_take h] at hp
        rcases List.mem_append.1 hp with hp | hp
        · have q1 := oObjs_self0 rok_Own (by omega) p hp
          obtain ⟨i', j, v', sz', xs', h1', h2', rfl⟩ := oObjs_mem.1 hp
          have hj := col_lt h2'
          rw [rok_Own.len] at hj
          rw [hlt] at h1'
          rw [Nat.zero_add] at q1 ⊢
          rw [s4 j i' hj h1']
          simp only [getM]
          rw [if_neg (by unfold fam; omega), if_neg (by unfold fam; omega), if_neg (by unfold fam; omega), if_neg (by unfold fam; omega), getM_app_some q1]
          simp [renO, hes_Own]
        · simp only [subR, subC, Own.row, List.append_nil, List.nil_append, List.cons_append, List.mem_cons, List.not_mem_nil, or_false, Nat.reduceAdd] at hp
          rcases hp with rfl | rfl | rfl
          · rw [s5]; simp [getM, fam_ne, fam_ne', fam_eqF, hs2, renO, esOwn]
          · rw [s6]; simp [getM, fam_ne, fam_ne', fam_eqF, hs2, renO, esOwn]
          · rw [s7]; simp [getM, fam_ne, fam_ne', fam_eqF, gB bA, renO, esOwn]
    · refine keep_big (big100_ren ?_ (swp_100 (by omega) (by rw [fam_mod (by omega)]; omega)))
      exact big100_cons (by omega) (big100_cons (by omega) (big100_cons (by omega) (big100_cons (by omega) (big100_app (big100_oObjs rok_Own (by omega) (by omega)) (by repeat' (first | exact big100_nil | refine big100_cons (by first | omega | (rw [fam_mod (by omega)]; omega)) ?_))))))
    · simp (maxSteps := 2000000) (maxDischargeDepth := 8) only [bitvec_to_nat, reduceIte, Nat.reduceEqDiff, Nat.reduceAdd, Nat.reduceLeDiff, reduceCtorEq, Nat.reduceBEq, Nat.reduceLT, Nat.reduceMod, fmc, retG_ret, retQ_eq, retQ_eqN, retOk, keepB, re_tupl, orr_t, int_toBitVec_meta, method_specs_simp, Nat.sub_zero, List.append_nil, hs1, hs2, hs3, tkO, tkB, oRows_len, appE, gB, gB0, sB, sB0, bA, bP, hp1, hp2, hp3, tkP, tkS, fam_ne, fam_ne', fam_eqF, List.append_assoc, List.cons_append, List.nil_append, offs_set, offs_getA, offs_setA, offs_get, OwnO_offs, PartO_offs, OO_get, OO_getA]
      refine ⟨⟨by omega, by omega⟩, hN (i + 1) _ ⟨by repeat' (first | exact trivial | refine ⟨.inr rfl, ?_⟩), ⟨rfl, rfl, rfl, wkM_self ?_⟩, cl0 (i + 1) (i + 1), keepB_dom rfl⟩ h (by omega)⟩
      exact getK_cons (hot 101 (by omega)) (getK_cons (hot 102 (by omega)) (getK_cons (hot 103 (by omega)) (OO_self rok_Own (by omega) (by omega))))
  · have e : i = b.own.length := by omega
    subst e
    have et : b.own.take b.own.length = b.own := List.take_length
    have bA : bigs (oObjs esOwn (Own.row 0) 110 0 b.own) := bigs_oObjs
    simp only [et, OO]
    unfold lO_impl_ownBook_0; simp (maxSteps := 2000000) (maxDischargeDepth := 8) only [bitvec_to_nat, reduceIte, Nat.reduceEqDiff, Nat.reduceAdd, Nat.reduceLeDiff, reduceCtorEq, Nat.reduceBEq, Nat.reduceLT, Nat.reduceMod, fmc, retG_ret, retQ_eq, retQ_eqN, retOk, keepB, re_tupl, orr_t, int_toBitVec_meta, method_specs_simp, Nat.sub_zero, List.append_nil, hs1, hs2, hs3, tkO, tkB, oRows_len, appE, gB, gB0, sB, sB0, bA, bP, hp1, hp2, hp3, tkP, tkS, fam_ne, fam_ne', fam_eqF, List.append_assoc, List.cons_append, List.nil_append, offs_set, offs_getA, offs_setA, offs_get, OwnO_offs, PartO_offs, OO_get, OO_getA]
    refine ⟨fun h' => absurd h' (by omega), fun _ => ?_⟩
    refine loop_F (fun i : Nat => ⟨[(1, .ptr 101 0), (2, .ptr 102 0), (3, .ptr 103 0), (35, .sl 0 3 (b.parts.map (Part.row 0))), (36, .int .i64 (b.parts.length : Nat)), (37, .int .i64 (i : Nat))], (101, .box [.sl 0 11 (b.own.map (Own.row 0)), .sl 0 3 (b.parts.map (Part.row 0)), .sl 0 2 (b.seen.map Seen.row)]) :: (102, .box [.sl 0 11 [], .sl 0 3 [], .sl 0 2 []]) :: (103, .box [.own 131 b.own.length 0 b.own.length, .own 149 i 0 i, .sl 98 2 []]) :: (OwnS 131 b.own.length 110 b.own ++ PartS 149 i 121 (b.parts.take i))⟩) (fun i => i ≤ b.parts.length) (fun i => b.parts.length - i) 0 ?_ (Nat.zero_le _) ?_
    · refine ⟨by repeat' (first | exact trivial | refine ⟨.inr rfl, ?_⟩), ⟨rfl, rfl, rfl, wkM_app.2 ⟨wkM_self ?_, ?_⟩⟩, cl1 0, keep_big ?_⟩
      · exact getK_cons (OwnO_offs (by omega) (by omega) (by omega)) (getK_cons (OwnO_offs (by omega) (by omega) (by omega)) (getK_cons (OwnO_offs (by omega) (by omega) (by omega)) (getK_self (OwnO_uniq (by omega) (by omega)))))
      · exact ⟨by simp only [getM, Nat.reduceEqDiff, reduceIte]; rw [gB bA (by omega)]; rfl, trivial⟩
      · exact big100_cons (by omega) (big100_cons (by omega) (big100_cons (by omega) (big100_cons (by omega) (big100_app (big100_oObjs rok_Own (by omega) (by omega)) (big100_cons (by omega) big100_nil)))))
    intro i hi NX hN
    by_cases h : i < b.parts.length
    · have hx := hb.2.1.2 _ (getD_mem' h)
      have hlt : (b.parts.take i).length = i := by rw [List.length_take]; omega
      have bP : bigs (oObjs esPart (Part.row 0) 121 0 (b.parts.take i)) := bigs_oObjs
      have tkP : (oRows (Part.row 0) 121 0 (b.parts.take i)).take i = oRows (Part.row 0) 121 0 (b.parts.take i) := List.take_of_length_le (by rw [oRows_len, hlt]; omega)
      have hC := (c_ownBoxesO 0 (b.parts.getD i default).bx (by omega)).ren (swp 104 (fam 123 i)) (swp_swp _ _)
      simp only [renL, ren, renM, renO, swp, reduceIte, Nat.reduceLT] at hC
      have hnw : getM (oObjs esPart (Part.row 0) 121 0 (b.parts.take i)) (fam 123 i) = none := oObjs_newT rok_Part (by omega) (by omega)
      have hno : getM (oObjs esOwn (Own.row 0) 110 0 b.own) (fam 123 i) = none := offs_get fun p hp e => by
        have := (oObjs_num rok_Own (by omega) hp).2.2; rw [e, fam_mod (by omega)] at this; omega
      have hs1 : ∀ (B : List (Nat × AObj)) (x : AObj), setM (oObjs esOwn (Own.row 0) 110 0 b.own ++ B) (fam 123 i) x = oObjs esOwn (Own.row 0) 110 0 b.own ++ setM B (fam 123 i) x := fun B x => setM_app hno
      have hs2 : ∀ (B : List (Nat × AObj)), getM (oObjs esOwn (Own.row 0) 110 0 b.own ++ B) (fam 123 i) = getM B (fam 123 i) := fun B => getM_app_none hno
      have hp1 : ∀ (B : List (Nat × AObj)) (x : AObj), setM (oObjs esPart (Part.row 0) 121 0 (b.parts.take i) ++ B) (fam 123 i) x = oObjs esPart (Part.row 0) 121 0 (b.parts.take i) ++ setM B (fam 123 i) x := fun B x => setM_app hnw
      have hp2 : ∀ (B : List (Nat × AObj)), getM (oObjs esPart (Part.row 0) 121 0 (b.parts.take i) ++ B) (fam 123 i) = getM B (fam 123 i) := fun B => getM_app_none hnw
      have hp3 : ∀ (x : AObj), setM (oObjs esPart (Part.row 0) 121 0 (b.parts.take i)) (fam 123 i) x = oObjs esPart (Part.row 0) 121 0 (b.parts.take i) ++ [(fam 123 i, x)] := fun x => setM_new hnw
      simp only [OO]
      unfold lO_impl_ownBook_1; simp (maxSteps := 2000000) (maxDischargeDepth := 8) only [bitvec_to_nat, reduceIte, Nat.reduceEqDiff, Nat.reduceAdd, Nat.reduceLeDiff, reduceCtorEq, Nat.reduceBEq, Nat.reduceLT, Nat.reduceMod, fmc, retG_ret, retQ_eq, retQ_eqN, retOk, keepB, re_tupl, orr_t, int_toBitVec_meta, method_specs_simp, Nat.sub_zero, List.append_nil, hs1, hs2, hs3, tkO, tkB, oRows_len, appE, gB, gB0, sB, sB0, bA, bP, hp1, hp2, hp3, tkP, tkS, fam_ne, fam_ne', fam_eqF, List.append_assoc, List.cons_append, List.nil_append, offs_set, offs_getA, offs_setA, offs_get, OwnO_offs, PartO_offs, OO_get, OO_getA]
      refine ⟨fun _ => ?_, fun h' => absurd (by omega) h'⟩
      repeat (refine ⟨by first | omega | rfl, ?_⟩)
      refine ⟨_, _, .inr (.inr (.inl ⟨_, rfl, hC, by simp [getM, fam_ne, fam_ne', getM_append, hnw, hno], by simp [refsIn, refsInL, dom], rfl, by simp [No99], by simp [No99O, no99_box]⟩)), ?_⟩
      simp (maxSteps := 2000000) (maxDischargeDepth := 8) only [bitvec_to_nat, reduceIte, Nat.reduceEqDiff, Nat.reduceAdd, Nat.reduceLeDiff, reduceCtorEq, Nat.reduceBEq, Nat.reduceLT, Nat.reduceMod, fmc, retG_ret, retQ_eq, retQ_eqN, retOk, keepB, re_tupl, orr_t, int_toBitVec_meta, method_specs_simp, Nat.sub_zero, List.append_nil, hs1, hs2, hs3, tkO, tkB, oRows_len, appE, gB, gB0, sB, sB0, bA, bP, hp1, hp2, hp3, tkP, tkS, fam_ne, fam_ne', fam_eqF, List.append_assoc, List.cons_append, List.nil_append, offs_set, offs_getA, offs_setA, offs_get, OwnO_offs, PartO_offs, OO_get, OO_getA]
      repeat (refine ⟨by first | omega | rfl, ?_⟩)
      have ht : b.parts.take (i + 1) = b.parts.take i ++ [b.parts.getD i default] := by rw [List.take_succ_eq_append_getElem h]; simp [h]
      refine hN (i + 1) _ ⟨by repeat' (first | exact trivial | refine ⟨.inr rfl, ?_⟩), ⟨rfl, rfl, rfl, wkM_app.2 ⟨wkM_self ?_, ⟨?_, ?_⟩⟩⟩, cl1 (i + 1), keep_big ?_⟩ h (by omega)
      · exact getK_cons (OwnO_offs (by omega) (by omega) (by omega)) (getK_cons (OwnO_offs (by omega) (by omega) (by omega)) (getK_cons (OwnO_offs (by omega) (by omega) (by omega)) (getK_self (OwnO_uniq (by omega) (by omega)))))
      · simp only [getM, Nat.reduceEqDiff, reduceIte]
        rw [gB bA (by omega), ht, oRows_snoc, hlt, Nat.zero_add]
        simp [getM, ownR, ownC, Part.row]
      · rw [oObjs_take h]
        refine wkM_app.2 ⟨wkM_self fun p hp => ?_, ?_⟩
        · have q1 := oObjs_self0 rok_Part (by omega) p hp
          have q2 := oObjs_num rok_Part (by omega) hp
          have q3 : getM (oObjs esOwn (Own.row 0) 110 0 b.own) p.1 = none := offs_get fun p' hp' e => by
            have := oObjs_num rok_Own (by omega) hp'; omega
          simp only [getM]
          rw [if_neg (by omega), if_neg (by omega), if_neg (by omega), if_neg (by omega), getM_app_none q3]
          simp only [getM]
          rw [if_neg (by omega), getM_app_some q1]
        · simp only [subR, subC, Part.row, List.append_nil, List.nil_append, List.cons_append, Nat.reduceAdd]
          exact ⟨by simp [getM, fam_ne, fam_ne', hs2, hp2, esPart], trivial⟩
      · exact big100_cons (by omega) (big100_cons (by omega) (big100_cons (by omega) (big100_cons (by omega) (big100_app (big100_oObjs rok_Own (by omega) (by omega)) (big100_cons (by omega) (big100_app (big100_oObjs rok_Part (by omega) (by omega)) (by repeat' (first | exact big100_nil | refine big100_cons (by first | omega | (rw [fam_mod (by omega)]; omega)) ?_))))))))
    · have e : i = b.parts.length := by omega
      subst e
      have et : b.parts.take b.parts.length = b.parts := List.take_length
      have bP : bigs (oObjs esPart (Part.row 0) 121 0 b.parts) := bigs_oObjs
      have tkS : List.take b.seen.length (b.seen.map Seen.row) = b.seen.map Seen.row := List.take_of_length_le (by simp)
      simp only [et, OO]
      unfold lO_impl_ownBook_1; simp (maxSteps := 2000000) (maxDischargeDepth := 8) only [bitvec_to_nat, reduceIte, Nat.reduceEqDiff, Nat.reduceAdd, Nat.reduceLeDiff, reduceCtorEq, Nat.reduceBEq, Nat.reduceLT, Nat.reduceMod, fmc, retG_ret, retQ_eq, retQ_eqN, retOk, keepB, re_tupl, orr_t, int_toBitVec_meta, method_specs_simp, Nat.sub_zero, List.append_nil, hs1, hs2, hs3, tkO, tkB, oRows_len, appE, gB, gB0, sB, sB0, bA, bP, hp1, hp2, hp3, tkP, tkS, fam_ne, fam_ne', fam_eqF, List.append_assoc, List.cons_append, List.nil_append, offs_set, offs_getA, offs_setA, offs_get, OwnO_offs, PartO_offs, OO_get, OO_getA]
      refine ⟨fun h' => absurd h' (by omega), fun _ => ?_⟩
      have hof : ∀ q, q < 131 → offs (bkM b 131 b.own.length 149 b.parts.length 154 0 110 121) q := fun q hq p hp e => by
        have := bk_num (by omega) (by omega) hp; omega
      refine ⟨by omega, rfl, wkM_self (getK_cons (hof 101 (by omega)) (getK_cons (hof 102 (by omega)) (getK_cons (hof 103 (by omega)) (uniq_self (bk_uniq (by omega) (by omega) (by omega) (by omega) (by omega) (by omega) (by omega) (by omega) (by omega)))))), bk_refs, bk_refV, ?_⟩
      simp only [Bool.true_or, Bool.true_and]
      exact big_all (T := oObjs esOwn (Own.row 0) 110 0 b.own ++ (149, AObj.arr 1000124 b.parts.length 3 (oRows (Part.row 0) 121 0 b.parts)) :: (oObjs esPart (Part.row 0) 121 0 b.parts ++ [(154, AObj.arr 118 0 2 (b.seen.map Seen.row))])) (big100_app (big100_oObjs rok_Own (by omega) (by omega)) (big100_cons (by omega) (big100_app (big100_oObjs rok_Part (by omega) (by omega)) (big100_cons (by omega) big100_nil))))
end
end Go.Ve

namespace Go.Ve
noncomputable section
open Go.Proofs
set_option maxRecDepth 100000
open Go.ChangeShapes Go.WideShapes
def ovO (dst : ByteArray) (o : Own) : Own := { o with st := 2, tn := o.tn + 1, dst := dst }
abbrev oI (b : Book) (fl : ByteArray) : Nat := (oAt b.own fl).toNat
abbrev oG (b : Book) (fl : ByteArray) : Own := b.own.getD (oI b fl) default
def ovC (zs : List Zone) (me : ByteArray) (b : Book) (fl dst : ByteArray) : Int := if zAt zs dst < 0 ∨ dst = me then 2 else if oAt b.own fl < 0 then 5 else if (oG b fl).st ≠ 1 ∨ (oG b fl).nr = 0 then 5 else if 0 < (oG b fl).wi then 6 else if 1000000 ≤ (oG b fl).tn then 4 else 0
def ovB (b : Book) (fl dst : ByteArray) : Book := { b with own := b.own.set (oI b fl) (ovO dst (oG b fl)) }
theorem oAt_lt {l : List Own} {s : ByteArray} (h : 0 ≤ oAt l s) : (oAt l s).toNat < l.length ∧ oAt l s = ((oAt l s).toNat : Nat) := by
  rcases fIdx_spec (fun z : Own => decide (z.fl = s)) l with ⟨e, _⟩ | ⟨i, e, hi, _⟩
  · unfold oAt at h; rw [e] at h; omega
  · unfold oAt; rw [e]; exact ⟨by simpa using hi, by simp⟩
theorem purN_bkF {M K : Nat → Option AObj} {b : Book} {a va c vc d vd kO kP : Nat} (hM : ∀ p ∈ bkM b a va c vc d vd kO kP, M p.1 = some p.2) (hK : ∀ p ∈ bkM b a va c vc d vd kO kP, K p.1 = some p.2) : purN M K (.agg [.own a va 0 b.own.length, .own c vc 0 b.parts.length, .own d vd 0 b.seen.length]) = some (.agg (b.row 99)) := purN_bk hM hK
set_option maxHeartbeats 4000000 in
theorem c_overN (t : Nat) (zs : List Zone) (me fl dst : ByteArray) (b : Book) (va vc vd : Nat) (hb : b.small) (hz : zs.length ≤ 1048576) (h0 : ovC zs me b fl dst ≠ 0) :
    Contract P 61 [.ptr 3 0, .sl t 5 (zs.map Zone.row), .str me, .str fl, .str dst] ((3, .box [.own 4 va 0 b.own.length, .own 5 vc 0 b.parts.length, .own 6 vd 0 b.seen.length]) :: bkM b 4 va 5 vc 6 vd 10 30) (.tup [.sl 98 8 [], .int .i64 (ovC zs me b fl dst)]) ((3, .box [.own 4 va 0 b.own.length, .own 5 vc 0 b.parts.length, .own 6 vd 0 b.seen.length]) :: bkM b 4 va 5 vc 6 vd 10 30) := by
  have getK0 : True := trivial
  have applyK : True := trivial
  have hr0 : True := trivial
  have gsr : True := trivial
  have hgo : True := trivial
  have hI : True := trivial
  have hMo : True := trivial
  have hMp : True := trivial
  have hMs : True := trivial
  have t6 : True := trivial
  have t8 : True := trivial
  have t9 : True := trivial
  have g3 : True := trivial
  have g4 : True := trivial
  have g5 : True := trivial
  have g6 : True := trivial
  have hb' := hb
  unfold Book.small at hb
  have hoff : offs (bkM b 4 va 5 vc 6 vd 10 30) 3 := fun p hp e => by have := bk_num (by omega) (by omega) hp; omega
  have huq : uniq (bkM b 4 va 5 vc 6 vd 10 30) := bk_uniq (by omega) (by omega) (by omega) (by omega) (by omega) (by omega) (by omega) (by omega) (by omega)
  have gK : ∀ x : AObj, ∀ p ∈ bkM b 4 va 5 vc 6 vd 10 30, getM ((3, x) :: bkM b 4 va 5 vc 6 vd 10 30) p.1 = some p.2 := fun x => getK_cons hoff (uniq_self huq)
  have applyK : ∀ x : AObj, applyU ((3, x) :: bkM b 4 va 5 vc 6 vd 10 30) (bkM b 4 va 5 vc 6 vd 10 30) = (3, x) :: bkM b 4 va 5 vc 6 vd 10 30 := fun x => by rw [ap_cons hoff, ap_self0 huq]
  have R1 : (refsIn (3 :: List.map (fun x : Nat × AObj => x.1) (bkM b 4 va 5 vc 6 vd 10 30)) (.own 4 va 0 b.own.length) && (refsIn (3 :: List.map (fun x : Nat × AObj => x.1) (bkM b 4 va 5 vc 6 vd 10 30)) (.own 5 vc 0 b.parts.length) && refsIn (3 :: List.map (fun x : Nat × AObj => x.1) (bkM b 4 va 5 vc 6 vd 10 30)) (.own 6 vd 0 b.seen.length)) && ((bkM b 4 va 5 vc 6 vd 10 30).all fun p => refsInO (3 :: List.map (fun x : Nat × AObj => x.1) (bkM b 4 va 5 vc 6 vd 10 30)) p.2)) = true := by
    have h1 : (refsIn (3 :: List.map (fun x : Nat × AObj => x.1) (bkM b 4 va 5 vc 6 vd 10 30)) (.own 4 va 0 b.own.length) && (refsIn (3 :: List.map (fun x : Nat × AObj => x.1) (bkM b 4 va 5 vc 6 vd 10 30)) (.own 5 vc 0 b.parts.length) && (refsIn (3 :: List.map (fun x : Nat × AObj => x.1) (bkM b 4 va 5 vc 6 vd 10 30)) (.own 6 vd 0 b.seen.length) && true))) = true := bk_refV' (D := 3 :: List.map (fun x : Nat × AObj => x.1) (bkM b 4 va 5 vc 6 vd 10 30)) (b := b) (a := 4) (va := va) (c := 5) (vc := vc) (d := 6) (vd := vd) (kO := 10) (kP := 30) fun p h => List.mem_cons_of_mem _ (mem_dom h)
    rw [Bool.and_true] at h1
    rw [Bool.and_eq_true]
    exact ⟨h1, bk_refsD fun p h => List.mem_cons_of_mem _ (mem_dom h)⟩
  have R2 : ((true || (List.map (fun x : Nat × AObj => x.1) (bkM b 4 va 5 vc 6 vd 10 30)).contains 3) && (List.map (fun x : Nat × AObj => x.1) (bkM b 4 va 5 vc 6 vd 10 30)).all fun o => decide (100 ≤ o % 1000) || (o == 3 || (List.map (fun x : Nat × AObj => x.1) (bkM b 4 va 5 vc 6 vd 10 30)).contains o)) = true := by
    rw [Bool.true_or, Bool.true_and, List.all_eq_true]
    intro o ho
    simp only [Bool.or_eq_true]
    exact .inr (.inr (by simpa using ho))
  have hMo : getM (bkM b 4 va 5 vc 6 vd 10 30) 4 = some (.arr (1000000 + 71) va 11 (oRows (Own.row 0) 10 0 b.own)) := rfl
  have hMp : getM (bkM b 4 va 5 vc 6 vd 10 30) 5 = some (.arr (1000000 + 124) vc 3 (oRows (Part.row 0) 30 0 b.parts)) := uniq_self huq (5, .arr (1000000 + 124) vc 3 (oRows (Part.row 0) 30 0 b.parts)) (by simp [bkM, OO])
  have hMs : getM (bkM b 4 va 5 vc 6 vd 10 30) 6 = some (.arr 118 vd 2 (b.seen.map Seen.row)) := uniq_self huq (6, .arr 118 vd 2 (b.seen.map Seen.row)) (by simp [bkM])
  have hOw := c_ownAt b fl (by omega)
  have ret : ∀ k : Int, ovC zs me b fl dst = k → k = ovC zs me b fl dst ∧ wkM ((3, .box [.own 4 va 0 b.own.length, .own 5 vc 0 b.parts.length, .own 6 vd 0 b.seen.length]) :: bkM b 4 va 5 vc 6 vd 10 30) (bkM b 4 va 5 vc 6 vd 10 30) := fun k h => ⟨h.symm, wkM_self (gK _)⟩
  refine fn_sound ((Env.nil P).add 86 t_zoneAt h_zoneAt) Go.Ve.hm kO_impl_HandBook_over (nlb rfl) ?_ ?_
  · rw [List.all_eq_true]
    intro q hq
    obtain ⟨p, hp, rfl⟩ := List.mem_map.1 hq
    simp only [decide_eq_true_eq]
    rcases List.mem_cons.1 hp with rfl | hp
    · omega
    · have := bk_num (by omega) (by omega) hp; omega
  unfold sO_impl_HandBook_over
  simp (maxSteps := 2000000) only [bitvec_to_nat, reduceIte, Nat.reduceEqDiff, Nat.reduceAdd, Nat.reduceLeDiff, reduceCtorEq, Nat.reduceBEq, Nat.reduceLT, Nat.reduceMod, fmc, retG_ret, retQ_eq, retQ_eqN, retOk, keepB, re_tupl, orr_t, t_zoneAt, int_toBitVec_meta, method_specs_simp, Nat.sub_zero, List.append_nil, getK0, applyK, hr0, gsr, List.set_set, el_g1, oel_1, oel_N, ownR, ownC, Int.toNat_natCast, List.length_set, oRows_len, hgo, hI, hMo, hMp, hMs, t6, t8, t9, g3, g4, g5, g6, fam_ne, fam_ne']
  refine ⟨by omega, fun h1 => ⟨?_, wkM_self (gK _), R1, R2⟩, fun h1 => ⟨fun h2 => ⟨?_, wkM_self (gK _), R1, R2⟩, fun h2 => ⟨_, _, callR_look (r := .int .i64 (oAt b.own fl)) (news := []) (keep := bkM b 4 va 5 vc 6 vd 10 30) (args' := [.agg (b.row 99), .str fl]) (by simp only [tag0L, tag_bk, tag_str]; exact hOw) (gK _) (purNL_cons (purN_bkF (gK _) (uniq_self huq)) rfl) (by simp only [no98L, no98_bk 99 (by omega), n98_str]; rfl) rfl rfl (by simp) rfl rfl trivial (by simp), ?_⟩⟩⟩
  · unfold ovC; rw [if_pos (.inl h1)]
  · unfold ovC; rw [if_pos (.inr h2)]
  have n1 : ¬ (zAt zs dst < 0 ∨ dst = me) := fun h => h.elim h1 h2
  by_cases h3 : oAt b.own fl < 0
  · have hI := h3
    simp (maxSteps := 2000000) only [bitvec_to_nat, reduceIte, Nat.reduceEqDiff, Nat.reduceAdd, Nat.reduceLeDiff, reduceCtorEq, Nat.reduceBEq, Nat.reduceLT, Nat.reduceMod, fmc, retG_ret, retQ_eq, retQ_eqN, retOk, keepB, re_tupl, orr_t, t_zoneAt, int_toBitVec_meta, method_specs_simp, Nat.sub_zero, List.append_nil, getK0, applyK, hr0, gsr, List.set_set, el_g1, oel_1, oel_N, ownR, ownC, Int.toNat_natCast, List.length_set, oRows_len, hgo, hI, hMo, hMp, hMs, t6, t8, t9, g3, g4, g5, g6, fam_ne, fam_ne']
    refine ⟨?_, wkM_self (gK _), R1, R2⟩
    unfold ovC; rw [if_neg n1, if_pos h3]
  · obtain ⟨I, hI, hlt⟩ : ∃ I : Nat, oAt b.own fl = (I : Int) ∧ I < b.own.length := by
      obtain ⟨q1, q2⟩ := oAt_lt (l := b.own) (s := fl) (by omega)
      exact ⟨_, q2, q1⟩
    have hr0 : (oRows (Own.row 0) 10 0 b.own).getD I [] = [.str (b.own.getD I default).fl, .int .i64 (b.own.getD I default).st, .int .i64 (b.own.getD I default).tn, .str (b.own.getD I default).dst, .int .i64 (b.own.getD I default).la, .int .i64 (b.own.getD I default).nr, .own (fam 16 I) 0 0 (b.own.getD I default).tu.length, .int .i64 (b.own.getD I default).wi, .own (fam 18 I) 0 0 (b.own.getD I default).nx.length, .own (fam 19 I) 0 0 (b.own.getD I default).gr.length, .bool (b.own.getD I default).sent] := by rw [oRows_get hlt]; simp [Own.row, ownR, ownC]
    have gsr : ∀ r : List AV, ((oRows (Own.row 0) 10 0 b.own).set I r).getD I [] = r := fun r => getD_setR (by rw [oRows_len]; exact hlt)
    have eG : oG b fl = b.own.getD I default := by unfold oG oI; rw [hI]; rfl
    have n3 : ¬ ((I : Int) < 0) := by omega
    simp (maxSteps := 2000000) only [bitvec_to_nat, reduceIte, Nat.reduceEqDiff, Nat.reduceAdd, Nat.reduceLeDiff, reduceCtorEq, Nat.reduceBEq, Nat.reduceLT, Nat.reduceMod, fmc, retG_ret, retQ_eq, retQ_eqN, retOk, keepB, re_tupl, orr_t, t_zoneAt, int_toBitVec_meta, method_specs_simp, Nat.sub_zero, List.append_nil, getK0, applyK, hr0, gsr, List.set_set, el_g1, oel_1, oel_N, ownR, ownC, Int.toNat_natCast, List.length_set, oRows_len, hgo, hI, hMo, hMp, hMs, t6, t8, t9, g3, g4, g5, g6, fam_ne, fam_ne']
    refine ⟨fun h => absurd h (by omega), fun _ => ⟨⟨by omega, by omega⟩, fun s1 => ⟨?_, wkM_self (gK _), R1, R2⟩, fun s1 => ⟨⟨by omega, by omega⟩, fun s2 => ⟨?_, wkM_self (gK _), R1, R2⟩, fun s2 => ⟨⟨by omega, by omega⟩, fun s3 => ⟨?_, wkM_self (gK _), R1, R2⟩, fun s3 => ⟨fun s4 => ⟨?_, wkM_self (gK _), R1, R2⟩, fun s4 => ?_⟩⟩⟩⟩⟩
    · simp only [ovC, n1, hI, n3, eG, s1, if_false, if_true, ne_eq, not_false_eq_true, true_or]
    · simp only [ovC, n1, hI, n3, eG, s1, s2, if_false, if_true, ne_eq, not_true_eq_false, false_or]
    · simp only [ovC, n1, hI, n3, eG, s1, s2, s3, if_false, if_true, ne_eq, not_true_eq_false, false_or]
    · simp only [ovC, n1, hI, n3, eG, s1, s2, s3, s4, if_false, if_true, ne_eq, not_true_eq_false, false_or]
    · exact absurd (by simp only [ovC, n1, hI, n3, eG, s1, s2, s3, s4, if_false, ne_eq, not_true_eq_false, false_or]) h0
theorem purN_agg {M K : Nat → Option AObj} {l m : List AV} (h : purNL M K l = some m) : purN M K (.agg l) = some (.agg m) := by simp only [purN, h, Option.map_some]
theorem el_gN {e cv sz ver i off m : Nat} {xs : List (List AV)} {K : AV → List (Nat × AObj) → Prop} : effK (eltE (some (.arr e cv sz xs)) ver i off fun ls => ⟨m + 1 ≤ ls.length, .agg (ls.take (m + 1)), []⟩) K = (ver = cv ∧ effK ⟨m + 1 ≤ ((xs.getD i []).drop off).length, .agg (((xs.getD i []).drop off).take (m + 1)), []⟩ K) := by
  simp only [effK, eltE, and_assoc]
theorem oObjs_same {α : Type} [Inhabited α] {es : Nat → Nat} {f : α → List AV} {k i0 i : Nat} {a : List α} {y : α} (h : ∀ j, subR es k j 0 (f y) = subR es k j 0 (f (a.getD i default))) : oObjs es f k i0 (a.set i y) = oObjs es f k i0 a := by
  have e : (a.set i y).mapIdx (fun j x => subR es k (i0 + j) 0 (f x)) = a.mapIdx (fun j x => subR es k (i0 + j) 0 (f x)) := List.ext_getElem (by simp) fun j h1 h2 => by
    have hj : j < a.length := by simpa using h2
    by_cases e : j = i
    · subst e; simp [h, hj]
    · simp [List.getElem_set_ne (Ne.symm e)]
  simp only [oObjs, e]
theorem tag_own1 (t : Nat) (o : Own) : tag0 (.agg (o.row t)) = .agg (o.row 0) := by
  have h := tag_Owns (t := t) (l := [o])
  simp only [List.map_cons, List.map_nil, tag0LL, List.cons.injEq, and_true] at h
  simp only [tag0, h]
theorem no98_own1 (t : Nat) (ht : t ≠ 98) (o : Own) : no98 (.agg (o.row t)) = true := by
  have h := no98_Owns ht (l := [o])
  simp only [List.map_cons, List.map_nil, no98LL, Bool.and_true] at h
  simp only [no98, h]
def ovM (me dst : ByteArray) (o : Own) : VW := giveW me (ovO dst o)
theorem ovC0 {zs : List Zone} {me fl dst : ByteArray} {b : Book} (h : ovC zs me b fl dst = 0) : ¬ zAt zs dst < 0 ∧ ¬ dst = me ∧ ¬ oAt b.own fl < 0 ∧ (oG b fl).st = 1 ∧ ¬ (oG b fl).nr = 0 ∧ ¬ 0 < (oG b fl).wi ∧ ¬ 1000000 ≤ (oG b fl).tn := by
  unfold ovC at h
  split at h; · omega
  rename_i q1
  split at h; · omega
  rename_i q2
  split at h; · omega
  rename_i q3
  split at h; · omega
  rename_i q4
  split at h; · omega
  rename_i q5
  exact ⟨fun h => q1 (.inl h), fun h => q1 (.inr h), q2, Classical.not_not.1 fun h => q3 (.inl h), fun h => q3 (.inr h), q4, q5⟩
set_option maxHeartbeats 4000000 in
theorem c_overY (t : Nat) (zs : List Zone) (me fl dst : ByteArray) (b : Book) (va vc vd : Nat) (hb : b.small) (hz : zs.length ≤ 1048576) (h0 : ovC zs me b fl dst = 0) (htn : 0 ≤ (oG b fl).tn) :
    Contract P 61 [.ptr 3 0, .sl t 5 (zs.map Zone.row), .str me, .str fl, .str dst] ((3, .box [.own 4 va 0 b.own.length, .own 5 vc 0 b.parts.length, .own 6 vd 0 b.seen.length]) :: bkM b 4 va 5 vc 6 vd 10 30) (.tup [.own 120 0 0 1, .int .i64 0]) ((3, .box [.own 4 va 0 b.own.length, .own 5 vc 0 b.parts.length, .own 6 vd 0 b.seen.length]) :: (bkM (ovB b fl dst) 4 va 5 vc 6 vd 10 30 ++ (WordS 120 0 150 0 [ovM me dst (oG b fl)]).reverse)) := by
  have getK0 : True := trivial
  have applyK : True := trivial
  have hr0 : True := trivial
  have gsr : True := trivial
  have hgo : True := trivial
  have hI : True := trivial
  have hMo : True := trivial
  have hMp : True := trivial
  have hMs : True := trivial
  have t6 : True := trivial
  have t8 : True := trivial
  have t9 : True := trivial
  have g3 : True := trivial
  have g4 : True := trivial
  have g5 : True := trivial
  have g6 : True := trivial
  have hb' := hb
  unfold Book.small at hb
  have hoff : offs (bkM b 4 va 5 vc 6 vd 10 30) 3 := fun p hp e => by have := bk_num (by omega) (by omega) hp; omega
  have huq : uniq (bkM b 4 va 5 vc 6 vd 10 30) := bk_uniq (by omega) (by omega) (by omega) (by omega) (by omega) (by omega) (by omega) (by omega) (by omega)
  have gK : ∀ x : AObj, ∀ p ∈ bkM b 4 va 5 vc 6 vd 10 30, getM ((3, x) :: bkM b 4 va 5 vc 6 vd 10 30) p.1 = some p.2 := fun x => getK_cons hoff (uniq_self huq)
  have applyK : ∀ x : AObj, applyU ((3, x) :: bkM b 4 va 5 vc 6 vd 10 30) (bkM b 4 va 5 vc 6 vd 10 30) = (3, x) :: bkM b 4 va 5 vc 6 vd 10 30 := fun x => by rw [ap_cons hoff, ap_self0 huq]
  have R1 : (refsIn (3 :: List.map (fun x : Nat × AObj => x.1) (bkM b 4 va 5 vc 6 vd 10 30)) (.own 4 va 0 b.own.length) && (refsIn (3 :: List.map (fun x : Nat × AObj => x.1) (bkM b 4 va 5 vc 6 vd 10 30)) (.own 5 vc 0 b.parts.length) && refsIn (3 :: List.map (fun x : Nat × AObj => x.1) (bkM b 4 va 5 vc 6 vd 10 30)) (.own 6 vd 0 b.seen.length)) && ((bkM b 4 va 5 vc 6 vd 10 30).all fun p => refsInO (3 :: List.map (fun x : Nat × AObj => x.1) (bkM b 4 va 5 vc 6 vd 10 30)) p.2)) = true := by
    have h1 : (refsIn (3 :: List.map (fun x : Nat × AObj => x.1) (bkM b 4 va 5 vc 6 vd 10 30)) (.own 4 va 0 b.own.length) && (refsIn (3 :: List.map (fun x : Nat × AObj => x.1) (bkM b 4 va 5 vc 6 vd 10 30)) (.own 5 vc 0 b.parts.length) && (refsIn (3 :: List.map (fun x : Nat × AObj => x.1) (bkM b 4 va 5 vc 6 vd 10 30)) (.own 6 vd 0 b.seen.length) && true))) = true := bk_refV' (D := 3 :: List.map (fun x : Nat × AObj => x.1) (bkM b 4 va 5 vc 6 vd 10 30)) (b := b) (a := 4) (va := va) (c := 5) (vc := vc) (d := 6) (vd := vd) (kO := 10) (kP := 30) fun p h => List.mem_cons_of_mem _ (mem_dom h)
    rw [Bool.and_true] at h1
    rw [Bool.and_eq_true]
    exact ⟨h1, bk_refsD fun p h => List.mem_cons_of_mem _ (mem_dom h)⟩
  have R2 : ((true || (List.map (fun x : Nat × AObj => x.1) (bkM b 4 va 5 vc 6 vd 10 30)).contains 3) && (List.map (fun x : Nat × AObj => x.1) (bkM b 4 va 5 vc 6 vd 10 30)).all fun o => decide (100 ≤ o % 1000) || (o == 3 || (List.map (fun x : Nat × AObj => x.1) (bkM b 4 va 5 vc 6 vd 10 30)).contains o)) = true := by
    rw [Bool.true_or, Bool.true_and, List.all_eq_true]
    intro o ho
    simp only [Bool.or_eq_true]
    exact .inr (.inr (by simpa using ho))
  have hMo : getM (bkM b 4 va 5 vc 6 vd 10 30) 4 = some (.arr (1000000 + 71) va 11 (oRows (Own.row 0) 10 0 b.own)) := rfl
  have hMp : getM (bkM b 4 va 5 vc 6 vd 10 30) 5 = some (.arr (1000000 + 124) vc 3 (oRows (Part.row 0) 30 0 b.parts)) := uniq_self huq (5, .arr (1000000 + 124) vc 3 (oRows (Part.row 0) 30 0 b.parts)) (by simp [bkM, OO])
  have hMs : getM (bkM b 4 va 5 vc 6 vd 10 30) 6 = some (.arr 118 vd 2 (b.seen.map Seen.row)) := uniq_self huq (6, .arr 118 vd 2 (b.seen.map Seen.row)) (by simp [bkM])
  have hOw := c_ownAt b fl (by omega)
  obtain ⟨h1, h2, h3, s1, s2, s3, s4⟩ := ovC0 h0
  obtain ⟨I, hI, hlt⟩ : ∃ I : Nat, oAt b.own fl = (I : Int) ∧ I < b.own.length := by
    obtain ⟨q1, q2⟩ := oAt_lt (l := b.own) (s := fl) (by omega)
    exact ⟨_, q2, q1⟩
  have hr0 : (oRows (Own.row 0) 10 0 b.own).getD I [] = [.str (b.own.getD I default).fl, .int .i64 (b.own.getD I default).st, .int .i64 (b.own.getD I default).tn, .str (b.own.getD I default).dst, .int .i64 (b.own.getD I default).la, .int .i64 (b.own.getD I default).nr, .own (fam 16 I) 0 0 (b.own.getD I default).tu.length, .int .i64 (b.own.getD I default).wi, .own (fam 18 I) 0 0 (b.own.getD I default).nx.length, .own (fam 19 I) 0 0 (b.own.getD I default).gr.length, .bool (b.own.getD I default).sent] := by rw [oRows_get hlt]; simp [Own.row, ownR, ownC]
  have gsr : ∀ r : List AV, ((oRows (Own.row 0) 10 0 b.own).set I r).getD I [] = r := fun r => getD_setR (by rw [oRows_len]; exact hlt)
  have eI : oI b fl = I := by unfold oI; rw [hI]; rfl
  have eG : oG b fl = b.own.getD I default := by unfold oG oI; rw [hI]; rfl
  rw [eG] at s1 s2 s3 s4 htn
  have hx := hb.1.2 _ (getD_mem' hlt)
  have hx' := hx
  unfold Own.small at hx'
  obtain ⟨R, hR⟩ : ∃ R, R = oObjs esOwn (Own.row 0) 10 0 b.own ++ (PartS 5 vc 30 b.parts ++ SeenS 6 vd b.seen) := ⟨_, rfl⟩
  have hR0 : bkM b 4 va 5 vc 6 vd 10 30 = (4, .arr (1000000 + 71) va 11 (oRows (Own.row 0) 10 0 b.own)) :: R := by rw [hR]; rfl
  have hR1 : bkM (ovB b fl dst) 4 va 5 vc 6 vd 10 30 = (4, .arr (1000000 + 71) va 11 ((oRows (Own.row 0) 10 0 b.own).set I [.str (b.own.getD I default).fl, .int .i64 2, .int .i64 ((b.own.getD I default).tn + 1), .str dst, .int .i64 (b.own.getD I default).la, .int .i64 (b.own.getD I default).nr, .own (fam 16 I) 0 0 (b.own.getD I default).tu.length, .int .i64 (b.own.getD I default).wi, .own (fam 18 I) 0 0 (b.own.getD I default).nx.length, .own (fam 19 I) 0 0 (b.own.getD I default).gr.length, .bool (b.own.getD I default).sent])) :: R := by
    have q1 : oRows (Own.row 0) 10 0 (b.own.set I (ovO dst (b.own.getD I default))) = (oRows (Own.row 0) 10 0 b.own).set I [.str (b.own.getD I default).fl, .int .i64 2, .int .i64 ((b.own.getD I default).tn + 1), .str dst, .int .i64 (b.own.getD I default).la, .int .i64 (b.own.getD I default).nr, .own (fam 16 I) 0 0 (b.own.getD I default).tu.length, .int .i64 (b.own.getD I default).wi, .own (fam 18 I) 0 0 (b.own.getD I default).nx.length, .own (fam 19 I) 0 0 (b.own.getD I default).gr.length, .bool (b.own.getD I default).sent] := (oRows_put hlt (by simp [Own.row, ownR, ownC, ovO])).symm
    have q2 : oObjs esOwn (Own.row 0) 10 0 (b.own.set I (ovO dst (b.own.getD I default))) = oObjs esOwn (Own.row 0) 10 0 b.own := oObjs_same fun j => rfl
    rw [hR]; unfold ovB; rw [eG, eI]
    show OO _ _ _ _ _ _ _ _ _ ++ _ = _
    simp only [OO, q1, q2, List.cons_append]
  have hRu : uniq ((4, .arr (1000000 + 71) va 11 (oRows (Own.row 0) 10 0 b.own)) :: R) := hR0 ▸ huq
  have hRn : ∀ p ∈ R, p.1 ≠ 3 ∧ p.1 ≠ 4 ∧ p.1 ≠ 120 ∧ p.1 ≠ fam 157 0 := fun p hp => by
    have q1 := bk_num (by omega) (by omega) (hR0 ▸ List.mem_cons_of_mem _ hp : p ∈ bkM b 4 va 5 vc 6 vd 10 30)
    have q2 := (List.pairwise_cons.1 hRu).1 p hp
    have q3 : fam 157 0 = 1157 := rfl
    simp only at q2
    omega
  have g3 : getM R 3 = none := offs_get fun p hp => (hRn p hp).1
  have g4 : getM R 4 = none := offs_get fun p hp => (hRn p hp).2.1
  have g5 : getM R 120 = none := offs_get fun p hp => (hRn p hp).2.2.1
  have g6 : getM R (fam 157 0) = none := offs_get fun p hp => (hRn p hp).2.2.2
  have gR : ∀ p ∈ R, getM R p.1 = some p.2 := uniq_self (List.pairwise_cons.1 hRu).2
  have gO : ∀ j v sz xs, (Own.row 0 (b.own.getD I default))[j]? = some (.sl v sz xs) → getM R (fam (10 + j) I) = some (.arr (esOwn j) v sz xs) := fun j v sz xs hj => gR (fam (10 + j) I, .arr (esOwn j) v sz xs) (by
    rw [hR]
    exact List.mem_append_left _ (oObjs_mem.2 ⟨I, j, v, sz, xs, hlt, hj, by rw [Nat.zero_add]⟩))
  have hgo : ∀ x y : AObj, applyU ((3, x) :: (4, y) :: R) R = (3, x) :: (4, y) :: R := fun x y => by rw [ap_cons fun p hp => (hRn p hp).1, ap_cons fun p hp => (hRn p hp).2.1, ap_self0 (List.pairwise_cons.1 hRu).2]
  have t6 : getM R (fam 16 I) = some (.arr 100 0 6 ((b.own.getD I default).tu.map Box6.row)) := gO 6 _ _ _ rfl
  have t8 : getM R (fam 18 I) = some (.arr 100 0 6 ((b.own.getD I default).nx.map Box6.row)) := gO 8 _ _ _ rfl
  have t9 : getM R (fam 19 I) = some (.arr 9 0 1 ((b.own.getD I default).gr.map srow)) := gO 9 _ _ _ rfl
  have n3 : ¬ ((I : Int) < 0) := by omega
  rw [eG]
  have hlt' : oAt b.own fl < b.own.length := by omega
  refine fn_sound ((Env.nil P).add 86 t_zoneAt h_zoneAt) Go.Ve.hm kO_impl_HandBook_over (nlb rfl) ?_ ?_
  · rw [List.all_eq_true]
    intro q hq
    obtain ⟨p, hp, rfl⟩ := List.mem_map.1 hq
    simp only [decide_eq_true_eq]
    rcases List.mem_cons.1 hp with rfl | hp
    · omega
    · have := bk_num (by omega) (by omega) hp; omega
  unfold sO_impl_HandBook_over
  simp (maxSteps := 2000000) (maxDischargeDepth := 8) only [bitvec_to_nat, reduceIte, Nat.reduceEqDiff, Nat.reduceAdd, Nat.reduceLeDiff, reduceCtorEq, Nat.reduceBEq, Nat.reduceLT, Nat.reduceMod, fmc, retG_ret, retQ_eq, retQ_eqN, retOk, keepB, re_tupl, orr_t, t_zoneAt, int_toBitVec_meta, method_specs_simp, Nat.sub_zero, List.append_nil, getK0, applyK, hr0, gsr, List.set_set, el_g1, oel_1, oel_N, ownR, ownC, Int.toNat_natCast, List.length_set, oRows_len, hgo, hI, hMo, hMp, hMs, t6, t8, t9, g3, g4, g5, g6, fam_ne, fam_ne']
  refine ⟨by omega, fun h => absurd h h1, fun _ => ⟨fun h => absurd h h2, fun _ => ⟨_, _, callR_look (r := .int .i64 (oAt b.own fl)) (news := []) (keep := bkM b 4 va 5 vc 6 vd 10 30) (args' := [.agg (b.row 99), .str fl]) (by simp only [tag0L, tag_bk, tag_str]; exact hOw) (gK _) (purNL_cons (purN_bkF (gK _) (uniq_self huq)) rfl) (by simp only [no98L, no98_bk 99 (by omega), n98_str]; rfl) rfl rfl (by simp) rfl rfl trivial (by simp), ?_⟩⟩⟩
  simp only [hR0, hR1]
  simp (maxSteps := 2000000) (maxDischargeDepth := 8) only [bitvec_to_nat, reduceIte, Nat.reduceEqDiff, Nat.reduceAdd, Nat.reduceLeDiff, reduceCtorEq, Nat.reduceBEq, Nat.reduceLT, Nat.reduceMod, fmc, retG_ret, retQ_eq, retQ_eqN, retOk, keepB, re_tupl, orr_t, t_zoneAt, int_toBitVec_meta, method_specs_simp, Nat.sub_zero, List.append_nil, getK0, applyK, hr0, gsr, List.set_set, el_g1, oel_1, oel_N, ownR, ownC, Int.toNat_natCast, List.length_set, oRows_len, hgo, hI, hMo, hMp, hMs, t6, t8, t9, g3, g4, g5, g6, fam_ne, fam_ne']
  refine ⟨fun h => absurd h n3, fun _ => ⟨⟨by omega, by omega⟩, fun h => absurd s1 h, fun _ => ⟨⟨by omega, by omega⟩, fun h => absurd h s2, fun _ => ⟨⟨by omega, by omega⟩, fun h => absurd h s3, fun _ => ⟨fun h => absurd h s4, ?_⟩⟩⟩⟩⟩
  simp only [el_gN, gsr]
  simp (maxSteps := 2000000) (maxDischargeDepth := 8) only [bitvec_to_nat, reduceIte, Nat.reduceEqDiff, Nat.reduceAdd, Nat.reduceLeDiff, reduceCtorEq, Nat.reduceBEq, Nat.reduceLT, Nat.reduceMod, fmc, retG_ret, retQ_eq, retQ_eqN, retOk, keepB, re_tupl, orr_t, t_zoneAt, int_toBitVec_meta, method_specs_simp, Nat.sub_zero, List.append_nil, getK0, applyK, hr0, gsr, List.set_set, el_g1, oel_1, oel_N, ownR, ownC, Int.toNat_natCast, List.length_set, oRows_len, hgo, hI, hMo, hMp, hMs, t6, t8, t9, g3, g4, g5, g6, fam_ne, fam_ne']
  refine fun _ => ⟨⟨by omega, by omega⟩, ?_⟩
  have ho' : (ovO dst (b.own.getD I default)).small := hx
  have fB : ∀ l : List Box6, ∀ r ∈ l.map Box6.row, flatOk r = true := fun l r hr => by obtain ⟨z, _, rfl⟩ := List.mem_map.1 hr; rfl
  have fS : ∀ l : List ByteArray, ∀ r ∈ l.map srow, flatOk r = true := fun l r hr => by obtain ⟨z, _, rfl⟩ := List.mem_map.1 hr; rfl
  have gM : ∀ (j : Nat) (x y z : AObj), 16 ≤ j → j ≤ 19 → getM R (fam j I) = some z → getM ((3, x) :: (4, y) :: R) (fam j I) = some z := fun j x y z h1 h2 h => by
    simp only [getM]; rw [if_neg (by unfold fam; omega), if_neg (by unfold fam; omega)]; exact h
  have hWn : ∀ p ∈ WordS 120 0 150 0 [ovM me dst (b.own.getD I default)], p.1 = 120 ∨ p.1 = fam 157 0 := fun p hp => by
    rw [oneW] at hp; simp only [List.mem_cons, List.not_mem_nil, or_false] at hp; rcases hp with rfl | rfl <;> simp
  have hWu : uniq (WordS 120 0 150 0 [ovM me dst (b.own.getD I default)]) := WordO_uniq (by omega) (by omega)
  have q157 : fam 157 0 = 1157 := rfl
  have fr : ∀ (x y : AObj), ∀ p ∈ WordS 120 0 150 0 [ovM me dst (b.own.getD I default)], getM ((3, x) :: (4, y) :: R) p.1 = none := fun x y p hp => by
    simp only [getM]
    rcases hWn p hp with e | e <;> rw [e]
    · simp only [Nat.reduceEqDiff, if_false, g5]
    · rw [if_neg (by omega), if_neg (by omega), g6]
  refine ⟨_, _, callR_look (r := .own 120 0 0 1) (news := WordS 120 0 150 0 [ovM me dst (b.own.getD I default)]) (keep := []) (args' := [.str me, .agg ((ovO dst (b.own.getD I default)).row 99)]) (by simp only [tag0L, tag_own1, tag_str]; exact c_giveO me _ ho') (fun p hp => by cases hp)
    (purNL_cons rfl (purNL_cons (purN_agg (purNL_cons rfl (purNL_cons rfl (purNL_cons rfl (purNL_cons rfl (purNL_cons rfl (purNL_cons rfl (purNL_cons (purN_flat (gM 16 _ _ _ (by omega) (by omega) t6) (fB _) (by rw [List.length_map]; rfl)) (purNL_cons rfl (purNL_cons (purN_flat (gM 18 _ _ _ (by omega) (by omega) t8) (fB _) (by rw [List.length_map]; rfl)) (purNL_cons (purN_flat (gM 19 _ _ _ (by omega) (by omega) t9) (fS _) (by rw [List.length_map]; rfl)) (purNL_cons rfl rfl)))))))))))) rfl))
    (by simp only [no98L, no98_own1 99 (by omega), n98_str]; rfl) rfl (OO_plain rok_VW) (fr _ _) (by simp [refsIn, dom, OO]) (OO_refs rok_VW hes_Word) trivial (OO_99 rok_VW), ?_⟩
  have getK0 : ∀ x y : AObj, applyU ((3, x) :: (4, y) :: R) (WordS 120 0 150 0 [ovM me dst (b.own.getD I default)]) = (3, x) :: (4, y) :: (R ++ (WordS 120 0 150 0 [ovM me dst (b.own.getD I default)]).reverse) := fun x y => by rw [aU (fr x y) hWu]; rfl
  simp (maxSteps := 2000000) (maxDischargeDepth := 8) only [bitvec_to_nat, reduceIte, Nat.reduceEqDiff, Nat.reduceAdd, Nat.reduceLeDiff, reduceCtorEq, Nat.reduceBEq, Nat.reduceLT, Nat.reduceMod, fmc, retG_ret, retQ_eq, retQ_eqN, retOk, keepB, re_tupl, orr_t, t_zoneAt, int_toBitVec_meta, method_specs_simp, Nat.sub_zero, List.append_nil, getK0, applyK, hr0, gsr, List.set_set, el_g1, oel_1, oel_N, ownR, ownC, Int.toNat_natCast, List.length_set, oRows_len, hgo, hI, hMo, hMp, hMs, t6, t8, t9, g3, g4, g5, g6, fam_ne, fam_ne']
  have hW2 : ∀ p ∈ WordS 120 0 150 0 [ovM me dst (b.own.getD I default)], p.1 ≠ 3 ∧ p.1 ≠ 4 ∧ ∀ q ∈ R, q.1 ≠ p.1 := fun p hp => by
    rcases hWn p hp with e | e <;> rw [e]
    · exact ⟨by omega, by omega, fun q hq => (hRn q hq).2.2.1⟩
    · exact ⟨by omega, by omega, fun q hq => (hRn q hq).2.2.2⟩
  generalize hWg : WordS 120 0 150 0 [ovM me dst (b.own.getD I default)] = W at hWu hW2 ⊢
  have hD : ∀ p ∈ bkM (ovB b fl dst) 4 va 5 vc 6 vd 10 30, p.1 ∈ 3 :: 4 :: List.map (fun x : Nat × AObj => x.1) (R ++ W.reverse) := fun p hp => by
    rw [hR1] at hp
    rcases List.mem_cons.1 hp with rfl | hp
    · exact List.mem_cons_of_mem _ (List.mem_cons_self ..)
    · exact List.mem_cons_of_mem _ (List.mem_cons_of_mem _ (List.mem_map.2 ⟨p, List.mem_append_left _ hp, rfl⟩))
  have hDW : ∀ p ∈ W, p.1 ∈ 3 :: 4 :: List.map (fun x : Nat × AObj => x.1) (R ++ W.reverse) := fun p hp => List.mem_cons_of_mem _ (List.mem_cons_of_mem _ (List.mem_map.2 ⟨p, List.mem_append_right _ (List.mem_reverse.2 hp), rfl⟩))
  have r1 := bk_refV' hD
  have r2 := bk_refsD hD
  rw [hR1, List.all_cons, Bool.and_eq_true] at r2
  have r3 : (W.all fun p => refsInO (3 :: 4 :: List.map (fun x : Nat × AObj => x.1) (R ++ W.reverse)) p.2) = true := by
    rw [← hWg]; refine OO_refsD rok_VW hes_Word fun p hp => ?_
    rw [hWg]; exact hDW p (hWg ▸ List.mem_cons_of_mem _ hp)
  refine ⟨wkM_self (getK_cons ?_ (getK_cons ?_ (uniq_self (uniq_app (List.pairwise_cons.1 hRu).2 (uniq_rev hWu) ?_)))), ?_, ?_, ?_⟩
  · exact fun p hp => (List.mem_append.1 hp).elim (fun h => (hRn p h).1) fun h => (hW2 p (List.mem_reverse.1 h)).1
  · exact fun p hp => (List.mem_append.1 hp).elim (fun h => (hRn p h).2.1) fun h => (hW2 p (List.mem_reverse.1 h)).2.1
  · exact fun p hp q hq => (hW2 q (List.mem_reverse.1 hq)).2.2 p hp
  · rw [Bool.and_eq_true, Bool.and_eq_true]
    have r4 : (refsIn (3 :: 4 :: List.map (fun x : Nat × AObj => x.1) (R ++ W.reverse)) (.own 4 va 0 b.own.length) && (refsIn (3 :: 4 :: List.map (fun x : Nat × AObj => x.1) (R ++ W.reverse)) (.own 5 vc 0 b.parts.length) && (refsIn (3 :: 4 :: List.map (fun x : Nat × AObj => x.1) (R ++ W.reverse)) (.own 6 vd 0 b.seen.length) && true))) = true := r1
    rw [Bool.and_true, Bool.and_eq_true] at r4
    refine ⟨r4, ?_⟩
    rw [Bool.and_eq_true, List.all_append, Bool.and_eq_true, List.all_reverse]
    exact ⟨r2.1, r2.2, r3⟩
  · have := hDW (120, .arr (1000000 + 73) 0 8 (oRows VW.rowO 150 0 [ovM me dst (b.own.getD I default)])) (hWg ▸ List.mem_cons_self ..)
    exact List.contains_iff_mem.2 this
  · rw [Bool.true_or, Bool.true_or, Bool.true_and, Bool.true_and, List.all_eq_true]
    intro o ho
    simp only [Bool.or_eq_true]
    refine .inr (.inr (.inr ?_))
    exact List.contains_iff_mem.2 ho
end
end Go.Ve

namespace Go.Ve
noncomputable section
open Go.Proofs
set_option maxRecDepth 100000
open Go.ChangeShapes Go.WideShapes
theorem overN113 (zs : List Zone) (me fl dst : ByteArray) (b : Book) (hb : b.small) (hz : zs.length ≤ 1048576) (h0 : ovC zs me b fl dst ≠ 0) : Contract P 61 [.ptr 113 0, .sl 0 5 (zs.map Zone.row), .str me, .str fl, .str dst] ((113, .box [.own 131 b.own.length 0 b.own.length, .own 149 b.parts.length 0 b.parts.length, .own 154 0 0 b.seen.length]) :: bkM b 131 b.own.length 149 b.parts.length 154 0 110 121) (.tup [.sl 98 8 [], .int .i64 (ovC zs me b fl dst)]) ((113, .box [.own 131 b.own.length 0 b.own.length, .own 149 b.parts.length 0 b.parts.length, .own 154 0 0 b.seen.length]) :: bkM b 131 b.own.length 149 b.parts.length 154 0 110 121) := by
  have H := c_overN 0 zs me fl dst b b.own.length b.parts.length 0 hb hz h0
  have hs : ∀ q q' : Nat, q < 1000 → q' < 1000 → ∀ b : Book, ∀ a va c vc d vd, renM (swp q q') (bkM b a va c vc d vd 10 30) = bkM b (swp q q' a) va (swp q q' c) vc (swp q q' d) vd 10 30 := fun q q' h1 h2 b a va c vc d vd => bkM_ren (fun j i hj => swp_fam h1 h2) (fun j i hj => swp_fam h1 h2)
  have hO : ∀ b : Book, ∀ a va c vc d vd, renM (swpB 10 110 11) (bkM b a va c vc d vd 10 30) = bkM b (swpB 10 110 11 a) va (swpB 10 110 11 c) vc (swpB 10 110 11 d) vd 110 30 := fun b a va c vc d vd => bkM_ren (fun j i hj => swpB_at (by omega) hj) (fun j i hj => swpB_ne (by omega) (by omega) (by omega))
  have hP : ∀ b : Book, ∀ a va c vc d vd, renM (swpB 30 121 3) (bkM b a va c vc d vd 110 30) = bkM b (swpB 30 121 3 a) va (swpB 30 121 3 c) vc (swpB 30 121 3 d) vd 110 121 := fun b a va c vc d vd => bkM_ren (fun j i hj => swpB_ne (by omega) (by omega) (by omega)) (fun j i hj => swpB_at (by omega) hj)
  have h := (((((H.ren (swp 3 113) (swp_swp _ _)).ren (swp 4 131) (swp_swp _ _)).ren (swp 5 149) (swp_swp _ _)).ren (swp 6 154) (swp_swp _ _)).ren (swpB 10 110 11) (swpB_swpB (by omega) (by omega) (by omega))).ren (swpB 30 121 3) (swpB_swpB (by omega) (by omega) (by omega))
  simp only [renM, hs _ _ (show (3 : Nat) < 1000 by omega) (show (113 : Nat) < 1000 by omega), hs _ _ (show (4 : Nat) < 1000 by omega) (show (131 : Nat) < 1000 by omega), hs _ _ (show (5 : Nat) < 1000 by omega) (show (149 : Nat) < 1000 by omega), hs _ _ (show (6 : Nat) < 1000 by omega) (show (154 : Nat) < 1000 by omega), hO, hP, renL, ren, renO, swp, swpB, reduceIte, Nat.reduceEqDiff, Nat.reduceLeDiff] at h
  exact h
theorem overY113 (zs : List Zone) (me fl dst : ByteArray) (b : Book) (hb : b.small) (hz : zs.length ≤ 1048576) (h0 : ovC zs me b fl dst = 0) (htn : 0 ≤ (oG b fl).tn) : Contract P 61 [.ptr 113 0, .sl 0 5 (zs.map Zone.row), .str me, .str fl, .str dst] ((113, .box [.own 131 b.own.length 0 b.own.length, .own 149 b.parts.length 0 b.parts.length, .own 154 0 0 b.seen.length]) :: bkM b 131 b.own.length 149 b.parts.length 154 0 110 121) (.tup [.own 120 0 0 1, .int .i64 0]) ((113, .box [.own 131 b.own.length 0 b.own.length, .own 149 b.parts.length 0 b.parts.length, .own 154 0 0 b.seen.length]) :: (bkM (ovB b fl dst) 131 b.own.length 149 b.parts.length 154 0 110 121 ++ (WordS 120 0 150 0 [ovM me dst (oG b fl)]).reverse)) := by
  have H := c_overY 0 zs me fl dst b b.own.length b.parts.length 0 hb hz h0 htn
  have hs : ∀ q q' : Nat, q < 1000 → q' < 1000 → ∀ b : Book, ∀ a va c vc d vd, renM (swp q q') (bkM b a va c vc d vd 10 30) = bkM b (swp q q' a) va (swp q q' c) vc (swp q q' d) vd 10 30 := fun q q' h1 h2 b a va c vc d vd => bkM_ren (fun j i hj => swp_fam h1 h2) (fun j i hj => swp_fam h1 h2)
  have hO : ∀ b : Book, ∀ a va c vc d vd, renM (swpB 10 110 11) (bkM b a va c vc d vd 10 30) = bkM b (swpB 10 110 11 a) va (swpB 10 110 11 c) vc (swpB 10 110 11 d) vd 110 30 := fun b a va c vc d vd => bkM_ren (fun j i hj => swpB_at (by omega) hj) (fun j i hj => swpB_ne (by omega) (by omega) (by omega))
  have hP : ∀ b : Book, ∀ a va c vc d vd, renM (swpB 30 121 3) (bkM b a va c vc d vd 110 30) = bkM b (swpB 30 121 3 a) va (swpB 30 121 3 c) vc (swpB 30 121 3 d) vd 110 121 := fun b a va c vc d vd => bkM_ren (fun j i hj => swpB_ne (by omega) (by omega) (by omega)) (fun j i hj => swpB_at (by omega) hj)
  have h := (((((H.ren (swp 3 113) (swp_swp _ _)).ren (swp 4 131) (swp_swp _ _)).ren (swp 5 149) (swp_swp _ _)).ren (swp 6 154) (swp_swp _ _)).ren (swpB 10 110 11) (swpB_swpB (by omega) (by omega) (by omega))).ren (swpB 30 121 3) (swpB_swpB (by omega) (by omega) (by omega))
  have f157 : fam 157 0 = 1157 := rfl
  simp only [oneW, List.reverse_cons, List.reverse_nil, List.nil_append, List.cons_append, Nat.reduceAdd] at h
  simp only [renM, renM_app, hs _ _ (show (3 : Nat) < 1000 by omega) (show (113 : Nat) < 1000 by omega), hs _ _ (show (4 : Nat) < 1000 by omega) (show (131 : Nat) < 1000 by omega), hs _ _ (show (5 : Nat) < 1000 by omega) (show (149 : Nat) < 1000 by omega), hs _ _ (show (6 : Nat) < 1000 by omega) (show (154 : Nat) < 1000 by omega), hO, hP, f157, renL, ren, renO, swp, swpB, reduceIte, Nat.reduceEqDiff, Nat.reduceLeDiff] at h
  simp only [oneW, List.reverse_cons, List.reverse_nil, List.nil_append, List.cons_append, Nat.reduceAdd]
  exact h
set_option maxHeartbeats 4000000 in
theorem c_overO1 (zs : List Zone) (me fl dst : ByteArray) (b : Book) (hb : b.small) (hz : zs.length ≤ 1048576) (h0 : hMay zs me b) (hc : ovC zs me b fl dst ≠ 0) : Contract P 21 [.sl 0 5 (zs.map Zone.row), .str me, .agg (b.row 0), .str fl, .str dst] [] (.tup [bkV b 131 b.own.length 149 b.parts.length 154 0, .sl 98 8 [], .int .i64 (ovC zs me b fl dst)]) (bkM b 131 b.own.length 149 b.parts.length 154 0 110 121) := by
  have bkO : ∀ q, q < 1000 → q ≠ 131 → q ≠ 149 → q ≠ 154 → offs (bkM b 131 b.own.length 149 b.parts.length 154 0 110 121) q := fun q h1 h2 h3 h4 p hp e => by have := bk_num (by omega) (by omega) hp; omega
  have bkU : uniq (bkM b 131 b.own.length 149 b.parts.length 154 0 110 121) := bk_uniq (by omega) (by omega) (by omega) (by omega) (by omega) (by omega) (by omega) (by omega) (by omega)
  have sB1 : True := trivial
  have sB2 : True := trivial
  have apK : ∀ x y : AObj, applyU [(107, x), (110, y)] (bkM b 131 b.own.length 149 b.parts.length 154 0 110 121).reverse = (107, x) :: (110, y) :: bkM b 131 b.own.length 149 b.parts.length 154 0 110 121 := fun x y => by
    rw [aU (newK_rev (newK_cons (bkO _ (by omega) (by omega) (by omega) (by omega)) (newK_cons (bkO _ (by omega) (by omega) (by omega) (by omega)) newK_nil))) (uniq_rev bkU), List.reverse_reverse]; rfl
  have sA1 : getM (bkM b 131 b.own.length 149 b.parts.length 154 0 110 121) 113 = none := offs_get (bkO _ (by omega) (by omega) (by omega) (by omega))
  have sA2 : ∀ x : AObj, setM (bkM b 131 b.own.length 149 b.parts.length 154 0 110 121) 113 x = bkM b 131 b.own.length 149 b.parts.length 154 0 110 121 ++ [(113, x)] := fun x => offs_set (bkO _ (by omega) (by omega) (by omega) (by omega))
  have sA3 : ∀ x : AObj, getM (bkM b 131 b.own.length 149 b.parts.length 154 0 110 121 ++ [(113, x)]) 113 = some x := fun x => by rw [getM_app_none sA1]; rfl
  have sA4 : ∀ x y : AObj, setM (bkM b 131 b.own.length 149 b.parts.length 154 0 110 121 ++ [(113, x)]) 113 y = bkM b 131 b.own.length 149 b.parts.length 154 0 110 121 ++ [(113, y)] := fun x y => by rw [setM_app sA1]; rfl
  have apK2 : ∀ x y z : AObj, applyU ((107, x) :: (110, y) :: (bkM b 131 b.own.length 149 b.parts.length 154 0 110 121 ++ [(113, z)])) (bkM b 131 b.own.length 149 b.parts.length 154 0 110 121) = (107, x) :: (110, y) :: (bkM b 131 b.own.length 149 b.parts.length 154 0 110 121 ++ [(113, z)]) := fun x y z => by
    rw [ap_cons (bkO _ (by omega) (by omega) (by omega) (by omega)), ap_cons (bkO _ (by omega) (by omega) (by omega) (by omega)), ap_self bkU]
  have rf : (((113, .box [.own 131 b.own.length 0 b.own.length, .own 149 b.parts.length 0 b.parts.length, .own 154 0 0 b.seen.length]) :: bkM b 131 b.own.length 149 b.parts.length 154 0 110 121).all fun p => refsInO (dom ((113, .box [.own 131 b.own.length 0 b.own.length, .own 149 b.parts.length 0 b.parts.length, .own 154 0 0 b.seen.length]) :: bkM b 131 b.own.length 149 b.parts.length 154 0 110 121)) p.2) = true := by
    rw [List.all_cons, Bool.and_eq_true]
    exact ⟨bk_refV' (b := b) fun p h => List.mem_cons_of_mem _ (mem_dom h), bk_refsD fun p h => List.mem_cons_of_mem _ (mem_dom h)⟩
  have hB := (c_ownBookO b hb).post_eq (post' := (bkM b 131 b.own.length 149 b.parts.length 154 0 110 121).reverse) (funext fun o => getM_rev bkU o)
  simp only [Book.row] at hB ⊢
  refine fn_sound ((Env.nil P).add 45 t_mayHand h_mayHand) hm kO_impl_HandOver (nlb rfl) rfl ?_; unfold sO_impl_HandOver; simp (maxSteps := 2000000) only [bitvec_to_nat, reduceIte, Nat.reduceEqDiff, Nat.reduceAdd, Nat.reduceLeDiff, reduceCtorEq, Nat.reduceBEq, Nat.reduceLT, Nat.reduceMod, fmc, retG_ret, retQ_eq, retQ_eqN, retOk, keepB, re_tupl, orr_t, t_mayHand, int_toBitVec_meta, method_specs_simp, bkV, Nat.sub_zero, List.append_nil, h0, hc, decide_true, decide_false, ap_cons, ap_new, apK, apK2, sA1, sA2, sA3, sA4, sB1, sB2, List.cons_append, List.nil_append]
  refine ⟨⟨hb, by omega⟩, _, _, .inr (.inr (.inl ⟨_, rfl, hB, newK_rev (newK_cons (bkO _ (by omega) (by omega) (by omega) (by omega)) (newK_cons (bkO _ (by omega) (by omega) (by omega) (by omega)) newK_nil)), bkr_refV, bkr_refs, by simp [bkV, No99, No99L], fun p hp => bk_99 p (List.mem_reverse.1 hp)⟩)), ?_⟩
  simp (maxSteps := 2000000) only [bitvec_to_nat, reduceIte, Nat.reduceEqDiff, Nat.reduceAdd, Nat.reduceLeDiff, reduceCtorEq, Nat.reduceBEq, Nat.reduceLT, Nat.reduceMod, fmc, retG_ret, retQ_eq, retQ_eqN, retOk, keepB, re_tupl, orr_t, t_mayHand, int_toBitVec_meta, method_specs_simp, bkV, Nat.sub_zero, List.append_nil, h0, hc, decide_true, decide_false, ap_cons, ap_new, apK, apK2, sA1, sA2, sA3, sA4, sB1, sB2, List.cons_append, List.nil_append]
  have dm : dom ((113, .box [.own 131 b.own.length 0 b.own.length, .own 149 b.parts.length 0 b.parts.length, .own 154 0 0 b.seen.length]) :: bkM b 131 b.own.length 149 b.parts.length 154 0 110 121) = dom ((113, .box [.own 131 b.own.length 0 b.own.length, .own 149 b.parts.length 0 b.parts.length, .own 154 0 0 b.seen.length]) :: bkM b 131 b.own.length 149 b.parts.length 154 0 110 121) := rfl
  have gk : ∀ x y : AObj, ∀ p ∈ (113, .box [.own 131 b.own.length 0 b.own.length, .own 149 b.parts.length 0 b.parts.length, .own 154 0 0 b.seen.length]) :: bkM b 131 b.own.length 149 b.parts.length 154 0 110 121, getM ((107, x) :: (110, y) :: (bkM b 131 b.own.length 149 b.parts.length 154 0 110 121 ++ [(113, .box [.own 131 b.own.length 0 b.own.length, .own 149 b.parts.length 0 b.parts.length, .own 154 0 0 b.seen.length])])) p.1 = some p.2 := fun x y p hp => by
    rcases List.mem_cons.1 hp with rfl | hp
    · simp only [getM, Nat.reduceEqDiff, if_false]; exact sA3 _
    · exact getK_cons (bkO _ (by omega) (by omega) (by omega) (by omega)) (getK_cons (bkO _ (by omega) (by omega) (by omega) (by omega)) (getK_self bkU)) p hp
  refine ⟨_, _, callR_same (overN113 zs me fl dst b hb hz hc) rfl (gk _ _) ?_ ?_ rfl ?_, ?_⟩
  · simp [refsInL, refsIn, dom]
  · exact rf
  · exact rf
  simp (maxSteps := 2000000) only [bitvec_to_nat, reduceIte, Nat.reduceEqDiff, Nat.reduceAdd, Nat.reduceLeDiff, reduceCtorEq, Nat.reduceBEq, Nat.reduceLT, Nat.reduceMod, fmc, retG_ret, retQ_eq, retQ_eqN, retOk, keepB, re_tupl, orr_t, t_mayHand, int_toBitVec_meta, method_specs_simp, bkV, Nat.sub_zero, List.append_nil, h0, hc, decide_true, decide_false, ap_cons, ap_new, apK, apK2, sA1, sA2, sA3, sA4, sB1, sB2, List.cons_append, List.nil_append]
  refine ⟨wkM_self (getK_cons (bkO _ (by omega) (by omega) (by omega) (by omega)) (getK_cons (bkO _ (by omega) (by omega) (by omega) (by omega)) (getK_self bkU))), bk_refs, ?_, ?_⟩
  · have r := bk_refV (b := b) (a := 131) (va := b.own.length) (c := 149) (vc := b.parts.length) (d := 154) (vd := 0) (kO := 110) (kP := 121)
    simpa only [bkV, dom, refsIn, refsInL, Bool.and_true] using r
  · rw [Bool.true_or, Bool.true_or, Bool.true_and, Bool.true_and, List.all_eq_true]
    intro o ho
    obtain ⟨p, hp, rfl⟩ := List.mem_map.1 ho
    rw [Bool.or_eq_true]
    refine .inl ?_
    rw [decide_eq_true_eq]
    rcases List.mem_append.1 hp with hp | hp
    · have := bk_num (by omega) (by omega) hp; omega
    · rw [List.mem_singleton.1 hp]; omega
set_option maxHeartbeats 4000000 in
theorem c_overOY (zs : List Zone) (me fl dst : ByteArray) (b : Book) (hb : b.small) (hz : zs.length ≤ 1048576) (h0 : hMay zs me b) (hc : ovC zs me b fl dst = 0) (htn : 0 ≤ (oG b fl).tn) : Contract P 21 [.sl 0 5 (zs.map Zone.row), .str me, .agg (b.row 0), .str fl, .str dst] [] (.tup [bkV b 131 b.own.length 149 b.parts.length 154 0, .own 120 0 0 1, .int .i64 0]) (bkM (ovB b fl dst) 131 b.own.length 149 b.parts.length 154 0 110 121 ++ WordS 120 0 150 0 [ovM me dst (oG b fl)]) := by
  have bkO : ∀ q, q < 1000 → q ≠ 131 → q ≠ 149 → q ≠ 154 → offs (bkM b 131 b.own.length 149 b.parts.length 154 0 110 121) q := fun q h1 h2 h3 h4 p hp e => by have := bk_num (by omega) (by omega) hp; omega
  have bkU : uniq (bkM b 131 b.own.length 149 b.parts.length 154 0 110 121) := bk_uniq (by omega) (by omega) (by omega) (by omega) (by omega) (by omega) (by omega) (by omega) (by omega)
  have sB1 : True := trivial
  have sB2 : True := trivial
  have apK : ∀ x y : AObj, applyU [(107, x), (110, y)] (bkM b 131 b.own.length 149 b.parts.length 154 0 110 121).reverse = (107, x) :: (110, y) :: bkM b 131 b.own.length 149 b.parts.length 154 0 110 121 := fun x y => by
    rw [aU (newK_rev (newK_cons (bkO _ (by omega) (by omega) (by omega) (by omega)) (newK_cons (bkO _ (by omega) (by omega) (by omega) (by omega)) newK_nil))) (uniq_rev bkU), List.reverse_reverse]; rfl
  have sA1 : getM (bkM b 131 b.own.length 149 b.parts.length 154 0 110 121) 113 = none := offs_get (bkO _ (by omega) (by omega) (by omega) (by omega))
  have sA2 : ∀ x : AObj, setM (bkM b 131 b.own.length 149 b.parts.length 154 0 110 121) 113 x = bkM b 131 b.own.length 149 b.parts.length 154 0 110 121 ++ [(113, x)] := fun x => offs_set (bkO _ (by omega) (by omega) (by omega) (by omega))
  have sA3 : ∀ x : AObj, getM (bkM b 131 b.own.length 149 b.parts.length 154 0 110 121 ++ [(113, x)]) 113 = some x := fun x => by rw [getM_app_none sA1]; rfl
  have sA4 : ∀ x y : AObj, setM (bkM b 131 b.own.length 149 b.parts.length 154 0 110 121 ++ [(113, x)]) 113 y = bkM b 131 b.own.length 149 b.parts.length 154 0 110 121 ++ [(113, y)] := fun x y => by rw [setM_app sA1]; rfl
  have apK9 : ∀ x y z : AObj, applyU ((107, x) :: (110, y) :: (bkM b 131 b.own.length 149 b.parts.length 154 0 110 121 ++ [(113, z)])) (bkM b 131 b.own.length 149 b.parts.length 154 0 110 121) = (107, x) :: (110, y) :: (bkM b 131 b.own.length 149 b.parts.length 154 0 110 121 ++ [(113, z)]) := fun x y z => by
    rw [ap_cons (bkO _ (by omega) (by omega) (by omega) (by omega)), ap_cons (bkO _ (by omega) (by omega) (by omega) (by omega)), ap_self bkU]
  have rf : (((113, .box [.own 131 b.own.length 0 b.own.length, .own 149 b.parts.length 0 b.parts.length, .own 154 0 0 b.seen.length]) :: bkM b 131 b.own.length 149 b.parts.length 154 0 110 121).all fun p => refsInO (dom ((113, .box [.own 131 b.own.length 0 b.own.length, .own 149 b.parts.length 0 b.parts.length, .own 154 0 0 b.seen.length]) :: bkM b 131 b.own.length 149 b.parts.length 154 0 110 121)) p.2) = true := by
    rw [List.all_cons, Bool.and_eq_true]
    exact ⟨bk_refV' (b := b) fun p h => List.mem_cons_of_mem _ (mem_dom h), bk_refsD fun p h => List.mem_cons_of_mem _ (mem_dom h)⟩
  have hW : ∀ p ∈ WordS 120 0 150 0 [ovM me dst (oG b fl)], p.1 = 120 ∨ p.1 = 1157 := fun p hp => by
    rw [oneW] at hp; simp only [List.mem_cons, List.not_mem_nil, or_false] at hp; rcases hp with rfl | rfl <;> simp [fam]
  have hWu : uniq (WordS 120 0 150 0 [ovM me dst (oG b fl)]) := WordO_uniq (by omega) (by omega)
  have bkW : ∀ b : Book, ∀ p ∈ bkM b 131 b.own.length 149 b.parts.length 154 0 110 121, p.1 ≠ 107 ∧ p.1 ≠ 110 ∧ p.1 ≠ 113 ∧ p.1 ≠ 120 ∧ p.1 ≠ 1157 := fun b p hp => by have := bk_num (by omega) (by omega) hp; omega
  have eL : (ovB b fl dst).own.length = b.own.length := List.length_set
  have bkB : ∀ p ∈ bkM (ovB b fl dst) 131 b.own.length 149 b.parts.length 154 0 110 121, p.1 ≠ 107 ∧ p.1 ≠ 110 ∧ p.1 ≠ 113 ∧ p.1 ≠ 120 ∧ p.1 ≠ 1157 := fun p hp => by have := bk_num (by omega) (by omega) hp; omega
  have bBU : uniq (bkM (ovB b fl dst) 131 b.own.length 149 b.parts.length 154 0 110 121) := bk_uniq (by omega) (by omega) (by omega) (by omega) (by omega) (by omega) (by omega) (by omega) (by omega)
  have dBA : dom (bkM (ovB b fl dst) 131 b.own.length 149 b.parts.length 154 0 110 121) = dom (bkM b 131 b.own.length 149 b.parts.length 154 0 110 121) := bk_domE eL rfl
  generalize hWg : WordS 120 0 150 0 [ovM me dst (oG b fl)] = W at hW hWu ⊢
  have sB1 : ∀ x : AObj, getM (bkM (ovB b fl dst) 131 b.own.length 149 b.parts.length 154 0 110 121 ++ (113, x) :: W) 113 = some x := fun x => by rw [getM_app_none (offs_get fun p hp => (bkB p hp).2.2.1)]; rfl
  have sB2 : ∀ x y : AObj, setM (bkM (ovB b fl dst) 131 b.own.length 149 b.parts.length 154 0 110 121 ++ (113, x) :: W) 113 y = bkM (ovB b fl dst) 131 b.own.length 149 b.parts.length 154 0 110 121 ++ (113, y) :: W := fun x y => by rw [setM_app (offs_get fun p hp => (bkB p hp).2.2.1)]; rfl
  have fW : ∀ x y z : AObj, ∀ p ∈ W.reverse, getM ((107, x) :: (110, y) :: (bkM b 131 b.own.length 149 b.parts.length 154 0 110 121 ++ [(113, z)])) p.1 = none := fun x y z p hp => by
    have e := hW p (List.mem_reverse.1 hp)
    simp only [getM]
    rw [if_neg (by omega), if_neg (by omega), getM_app_none (offs_get fun q hq e' => by have := bkW b q hq; omega)]
    simp only [getM]
    rw [if_neg (by omega)]
  have apK2 : ∀ x y z : AObj, applyU ((107, x) :: (110, y) :: (bkM b 131 b.own.length 149 b.parts.length 154 0 110 121 ++ [(113, z)])) (bkM (ovB b fl dst) 131 b.own.length 149 b.parts.length 154 0 110 121 ++ W.reverse) = (107, x) :: (110, y) :: (bkM (ovB b fl dst) 131 b.own.length 149 b.parts.length 154 0 110 121 ++ (113, z) :: W) := fun x y z => by
    rw [ap_appU, aU (fW x y z) (uniq_rev hWu), List.reverse_reverse]
    show applyU ((107, x) :: (110, y) :: ((bkM b 131 b.own.length 149 b.parts.length 154 0 110 121 ++ [(113, z)]) ++ W)) (bkM (ovB b fl dst) 131 b.own.length 149 b.parts.length 154 0 110 121) = _
    rw [ap_cons fun p hp => (bkB p hp).1, ap_cons fun p hp => (bkB p hp).2.1, List.append_assoc, ap_same bkU dBA]; rfl
  have hB := (c_ownBookO b hb).post_eq (post' := (bkM b 131 b.own.length 149 b.parts.length 154 0 110 121).reverse) (funext fun o => getM_rev bkU o)
  simp only [Book.row] at hB ⊢
  refine fn_sound ((Env.nil P).add 45 t_mayHand h_mayHand) hm kO_impl_HandOver (nlb rfl) rfl ?_; unfold sO_impl_HandOver; simp (maxSteps := 2000000) (maxDischargeDepth := 8) only [bitvec_to_nat, reduceIte, Nat.reduceEqDiff, Nat.reduceAdd, Nat.reduceLeDiff, reduceCtorEq, Nat.reduceBEq, Nat.reduceLT, Nat.reduceMod, fmc, retG_ret, retQ_eq, retQ_eqN, retOk, keepB, re_tupl, orr_t, t_mayHand, int_toBitVec_meta, method_specs_simp, bkV, Nat.sub_zero, List.append_nil, h0, hc, decide_true, decide_false, ap_cons, ap_new, apK, apK2, sA1, sA2, sA3, sA4, sB1, sB2, List.cons_append, List.nil_append]
  refine ⟨⟨hb, by omega⟩, _, _, .inr (.inr (.inl ⟨_, rfl, hB, newK_rev (newK_cons (bkO _ (by omega) (by omega) (by omega) (by omega)) (newK_cons (bkO _ (by omega) (by omega) (by omega) (by omega)) newK_nil)), bkr_refV, bkr_refs, by simp [bkV, No99, No99L], fun p hp => bk_99 p (List.mem_reverse.1 hp)⟩)), ?_⟩
  simp (maxSteps := 2000000) (maxDischargeDepth := 8) only [bitvec_to_nat, reduceIte, Nat.reduceEqDiff, Nat.reduceAdd, Nat.reduceLeDiff, reduceCtorEq, Nat.reduceBEq, Nat.reduceLT, Nat.reduceMod, fmc, retG_ret, retQ_eq, retQ_eqN, retOk, keepB, re_tupl, orr_t, t_mayHand, int_toBitVec_meta, method_specs_simp, bkV, Nat.sub_zero, List.append_nil, h0, hc, decide_true, decide_false, ap_cons, ap_new, apK, apK2, sA1, sA2, sA3, sA4, sB1, sB2, List.cons_append, List.nil_append]
  have dm : dom ((113, .box [.own 131 b.own.length 0 b.own.length, .own 149 b.parts.length 0 b.parts.length, .own 154 0 0 b.seen.length]) :: bkM b 131 b.own.length 149 b.parts.length 154 0 110 121) = dom ((113, .box [.own 131 b.own.length 0 b.own.length, .own 149 b.parts.length 0 b.parts.length, .own 154 0 0 b.seen.length]) :: bkM b 131 b.own.length 149 b.parts.length 154 0 110 121) := rfl
  have gk : ∀ x y : AObj, ∀ p ∈ (113, .box [.own 131 b.own.length 0 b.own.length, .own 149 b.parts.length 0 b.parts.length, .own 154 0 0 b.seen.length]) :: bkM b 131 b.own.length 149 b.parts.length 154 0 110 121, getM ((107, x) :: (110, y) :: (bkM b 131 b.own.length 149 b.parts.length 154 0 110 121 ++ [(113, .box [.own 131 b.own.length 0 b.own.length, .own 149 b.parts.length 0 b.parts.length, .own 154 0 0 b.seen.length])])) p.1 = some p.2 := fun x y p hp => by
    rcases List.mem_cons.1 hp with rfl | hp
    · simp only [getM, Nat.reduceEqDiff, if_false]; exact sA3 _
    · exact getK_cons (bkO _ (by omega) (by omega) (by omega) (by omega)) (getK_cons (bkO _ (by omega) (by omega) (by omega) (by omega)) (getK_self bkU)) p hp
  have rf2 : (((113, .box [.own 131 b.own.length 0 b.own.length, .own 149 b.parts.length 0 b.parts.length, .own 154 0 0 b.seen.length]) :: (bkM (ovB b fl dst) 131 b.own.length 149 b.parts.length 154 0 110 121 ++ W.reverse)).all fun p => refsInO (dom ((113, .box [.own 131 b.own.length 0 b.own.length, .own 149 b.parts.length 0 b.parts.length, .own 154 0 0 b.seen.length]) :: (bkM (ovB b fl dst) 131 b.own.length 149 b.parts.length 154 0 110 121 ++ W.reverse))) p.2) = true := by
    rw [List.all_cons, Bool.and_eq_true, List.all_append, Bool.and_eq_true, List.all_reverse]
    exact ⟨bk_refV' (b := ovB b fl dst) fun p h => List.mem_cons_of_mem _ (mem_dom (List.mem_append_left _ h)), bk_refsD fun p h => List.mem_cons_of_mem _ (mem_dom (List.mem_append_left _ h)), by
      have hm : ∀ p ∈ W, p.1 ∈ dom ((113, AObj.box [.own 131 b.own.length 0 b.own.length, .own 149 b.parts.length 0 b.parts.length, .own 154 0 0 b.seen.length]) :: (bkM (ovB b fl dst) 131 b.own.length 149 b.parts.length 154 0 110 121 ++ W.reverse)) := fun p hp => List.mem_cons_of_mem _ (mem_dom (List.mem_append_right _ (List.mem_reverse.2 hp)))
      generalize dom ((113, AObj.box [.own 131 b.own.length 0 b.own.length, .own 149 b.parts.length 0 b.parts.length, .own 154 0 0 b.seen.length]) :: (bkM (ovB b fl dst) 131 b.own.length 149 b.parts.length 154 0 110 121 ++ W.reverse)) = D at hm ⊢
      rw [← hWg]; exact OO_refsD rok_VW hes_Word fun p hp => hm p (hWg ▸ List.mem_cons_of_mem _ hp)⟩
  have m120 : 120 ∈ dom W := hWg ▸ List.mem_cons_self ..
  have hY := overY113 zs me fl dst b hb hz hc htn
  rw [hWg] at hY
  refine ⟨_, _, .inl ⟨_, hY, gk _ _, fun p hp => ?_, ?_, ?_, rf, ?_, rf2⟩, ?_⟩
  · rcases List.mem_cons.1 hp with rfl | hp
    · exact .inl rfl
    rcases List.mem_append.1 hp with hp | hp
    · refine .inl (List.contains_iff_mem.2 (List.mem_cons_of_mem _ ?_)); show p.1 ∈ dom (bkM b 131 b.own.length 149 b.parts.length 154 0 110 121); rw [← dBA]; exact mem_dom hp
    · exact .inr (fW _ _ _ p hp)
  · rw [List.all_eq_true]
    intro o ho
    refine List.contains_iff_mem.2 ?_
    rcases List.mem_cons.1 ho with rfl | ho
    · exact List.mem_cons_self ..
    · refine List.mem_cons_of_mem _ ?_
      show o ∈ dom (bkM (ovB b fl dst) 131 b.own.length 149 b.parts.length 154 0 110 121 ++ W.reverse)
      rw [show dom (bkM (ovB b fl dst) 131 b.own.length 149 b.parts.length 154 0 110 121 ++ W.reverse) = dom (bkM (ovB b fl dst) 131 b.own.length 149 b.parts.length 154 0 110 121) ++ dom W.reverse from List.map_append, dBA]
      exact List.mem_append_left _ ho
  · simp [refsInL, refsIn, dom]
  · simp only [refsIn, refsInL, Bool.and_true]
    refine List.contains_iff_mem.2 (List.mem_cons_of_mem _ ?_)
    rw [show List.map (fun x : Nat × AObj => x.1) (bkM (ovB b fl dst) 131 b.own.length 149 b.parts.length 154 0 110 121 ++ W.reverse) = dom (bkM (ovB b fl dst) 131 b.own.length 149 b.parts.length 154 0 110 121) ++ dom W.reverse from List.map_append]
    exact List.mem_append_right _ (by simpa [dom] using m120)
  simp (maxSteps := 2000000) (maxDischargeDepth := 8) only [bitvec_to_nat, reduceIte, Nat.reduceEqDiff, Nat.reduceAdd, Nat.reduceLeDiff, reduceCtorEq, Nat.reduceBEq, Nat.reduceLT, Nat.reduceMod, fmc, retG_ret, retQ_eq, retQ_eqN, retOk, keepB, re_tupl, orr_t, t_mayHand, int_toBitVec_meta, method_specs_simp, bkV, Nat.sub_zero, List.append_nil, h0, hc, decide_true, decide_false, ap_cons, ap_new, apK, apK2, sA1, sA2, sA3, sA4, sB1, sB2, List.cons_append, List.nil_append]
  have hm : ∀ p ∈ W, p.1 ∈ dom (bkM (ovB b fl dst) 131 b.own.length 149 b.parts.length 154 0 110 121 ++ W) := fun p hp => mem_dom (List.mem_append_right _ hp)
  have hb2 : ∀ p ∈ bkM (ovB b fl dst) 131 b.own.length 149 b.parts.length 154 0 110 121, p.1 ∈ dom (bkM (ovB b fl dst) 131 b.own.length 149 b.parts.length 154 0 110 121 ++ W) := fun p hp => mem_dom (List.mem_append_left _ hp)
  have dWB : ∀ p ∈ bkM (ovB b fl dst) 131 b.own.length 149 b.parts.length 154 0 110 121, ∀ q ∈ W, p.1 ≠ q.1 := fun p hp q hq e => by have := bkB p hp; have := hW q hq; omega
  refine ⟨wkM_self (getK_cons ?_ (getK_cons ?_ fun p hp => ?_)), ?_, ?_, ?_⟩
  · exact fun p hp => (List.mem_append.1 hp).elim (fun h => (bkB p h).1) fun h => by have := hW p h; omega
  · exact fun p hp => (List.mem_append.1 hp).elim (fun h => (bkB p h).2.1) fun h => by have := hW p h; omega
  · rcases List.mem_append.1 hp with hp | hp
    · exact getK_self bBU p hp
    · rw [getM_app_none (offs_get fun q hq => dWB q hq p hp)]
      simp only [getM]
      rw [if_neg (by have := hW p hp; omega)]
      exact uniq_self hWu p hp
  · show ((bkM (ovB b fl dst) 131 b.own.length 149 b.parts.length 154 0 110 121 ++ W).all fun p => refsInO (dom (bkM (ovB b fl dst) 131 b.own.length 149 b.parts.length 154 0 110 121 ++ W)) p.2) = true
    generalize dom (bkM (ovB b fl dst) 131 b.own.length 149 b.parts.length 154 0 110 121 ++ W) = D at hm hb2 ⊢
    rw [List.all_append, Bool.and_eq_true]
    exact ⟨bk_refsD hb2, by rw [← hWg]; exact OO_refsD rok_VW hes_Word fun p hp => hm p (hWg ▸ List.mem_cons_of_mem _ hp)⟩
  · have r := bk_refV' hb2
    have r2 : (dom (bkM (ovB b fl dst) 131 b.own.length 149 b.parts.length 154 0 110 121 ++ W)).contains 120 = true := List.contains_iff_mem.2 (by rw [show dom (bkM (ovB b fl dst) 131 b.own.length 149 b.parts.length 154 0 110 121 ++ W) = dom (bkM (ovB b fl dst) 131 b.own.length 149 b.parts.length 154 0 110 121) ++ dom W from List.map_append]; exact List.mem_append_right _ m120)
    simp only [bkV, dom, refsIn, refsInL, Bool.and_true] at r r2 ⊢
    rw [r, r2]; rfl
  · rw [Bool.true_or, Bool.true_or, Bool.true_and, Bool.true_and, List.all_eq_true]
    intro o ho
    obtain ⟨p, hp, rfl⟩ := List.mem_map.1 ho
    rw [Bool.or_eq_true]
    refine .inl ?_
    rw [decide_eq_true_eq]
    rcases List.mem_append.1 hp with hp | hp
    · have := bk_num (by omega) (by omega) hp; omega
    · rcases List.mem_cons.1 hp with rfl | hp
      · omega
      · have := hW p hp; omega
end
end Go.Ve

namespace Go.Ve
open Go.Proofs
set_option maxRecDepth 100000
def lO_spec_l33Copy_0 : SCode := (.seq (jq [jm 11 4 [],jf 12 0 1 [],jl 13 12 [12],jn 14 (.lenL (.v 13)) [13],jb 15 .lss 11 14 [11,14]] [1,2,3,4,15] (.cond (.v 15) .skip (.exit 0))) (.seq (.block 1 (.rgd [jf 18 0 3 [],jl 19 18 [],jf 20 0 1 [],jl 21 20 [],jm 22 4 [],ja 23 11 21 22 [],jL 24 11 23 [],jn 25 (.call 59 [.v 24]) [],jn 26 (.lit 71 11 [.v 25]) [],jn 27 (.app 127 71 11 (.v 19) (.v 26)) [],jf 28 0 3 [],⟨none,.store 1 (.v 28) (.v 27),none,[]⟩] [1,2,3,4] [some [],some [],none,none,none,none,none,some [6,5],none,none,none,none])) (.rg [jm 16 4 [4],jn 17 (.binN .add (.v 16) (ci 1)) [16],jm 4 17 [17]] [1,2,3,4])))
def lO_spec_l33Copy_1 : SCode := (.seq (jq [jm 29 5 [],jf 30 1 1 [],jl 31 30 [30],jn 32 (.lenL (.v 31)) [31],jb 33 .lss 29 32 [29,32]] [1,2,3,5,33] (.cond (.v 33) .skip (.exit 2))) (.seq (.block 3 (.rgd [jf 36 1 3 [],jl 37 36 [],jf 38 1 1 [],jl 39 38 [],jm 40 5 [],ja 41 3 39 40 [],jf 42 0 41 [],jl 43 42 [],jf 44 1 1 [],jl 45 44 [],jm 46 5 [],ja 47 3 45 46 [],jf 48 1 47 [],jl 49 48 [],jf 50 1 1 [],jl 51 50 [],jm 52 5 [],ja 53 3 51 52 [],jf 54 2 53 [],jl 55 54 [],jn 56 (.call 66 [.v 55]) [],jn 57 (.build [.str ⟨#[]⟩,.int .i64 0,.sl 0 6 []] [(0,1,.v 43),(1,1,.v 49),(2,1,.v 56)]) [],jn 58 (.lit 124 3 [.v 57]) [],jn 59 (.app 159 124 3 (.v 37) (.v 58)) [],jf 60 1 3 [],⟨none,.store 1 (.v 60) (.v 59),none,[]⟩] [1,2,3,5] [some [],some [],some [],some [],none,some [],some [],some [],some [],some [],none,some [],some [],some [],none,none,none,none,none,none,some [19,18,17,16,14,13,12,11,10,8,7,6],none,none,none,none,none])) (.rg [jm 34 5 [5],jn 35 (.binN .add (.v 34) (ci 1)) [34],jm 5 35 [35]] [1,2,3,5])))
/-- spec.l33Copy: function 57 -/
def sO_spec_l33Copy : SFun := { n := 62,res := [.cN 2 3],body := (jq [jn 1 (.box 101 (.v 0)) [0],jn 2 (.alloc 102 [.sl 0 11 [],.sl 0 3 [],.sl 0 2 []]) []] [1,2] (jq [jn 6 (.litOwn 106 118 2 []) [],jf 7 2 1 [],jl 8 7 [7],jn 9 (.app 106 118 2 (.v 6) (.v 8)) [6,8],jn 10 (.build [.sl 98 11 [],.sl 98 3 [],.sl 98 2 []] [(2,1,.v 9)]) [9],jn 3 (.alloc 103 [.sl 0 11 [],.sl 0 3 [],.sl 0 2 []]) [],⟨none,.store 3 (.v 3) (.v 10),none,[10]⟩] [1,2,3] (.seq (jq [jI 4 0 []] [1,2,3,4] (.block 0 (.gh (.nilB 103 0 127 71) (.loop lO_spec_l33Copy_0)))) (.seq (jq [jI 5 0 []] [1,2,3,5] (.block 2 (.gh (.nilB 103 1 159 124) (.loop lO_spec_l33Copy_1)))) (jq [jL 61 3 3 [3],⟨none,.store 3 (.v 2) (.v 61),none,[61]⟩] [2] .ret))))) }
theorem kO_spec_l33Copy : okFun Go.Proofs.Tryz.prog 57 sO_spec_l33Copy = true := by kernel_rfl
/-- spec.l33Own: function 59 -/
def sO_spec_l33Own : SFun := { n := 17,res := [.cN 2 11],body := (jq [jn 1 (.box 101 (.v 0)) [0],jn 2 (.alloc 102 [.str ⟨#[]⟩,.int .i64 0,.int .i64 0,.str ⟨#[]⟩,.int .i64 0,.int .i64 0,.sl 0 6 [],.int .i64 0,.sl 0 6 [],.sl 0 1 [],.bool false]) []] [1,2] (jq [jf 3 6 1 [],jl 4 3 [3],jn 5 (.call 66 [.v 4]) [4],jf 6 6 1 [],⟨none,.store 1 (.v 6) (.v 5),none,[5,6]⟩] [1,2] (jq [jf 7 8 1 [],jl 8 7 [7],jn 9 (.call 66 [.v 8]) [8],jf 10 8 1 [],⟨none,.store 1 (.v 10) (.v 9),none,[9,10]⟩] [1,2] (jq [jn 11 (.litOwn 111 9 1 []) [],jf 12 9 1 [],jl 13 12 [12],jn 14 (.app 111 9 1 (.v 11) (.v 13)) [11,13],jf 15 9 1 [],⟨none,.store 1 (.v 15) (.v 14),none,[14,15]⟩] [1,2] (jq [jL 16 11 1 [1],⟨none,.store 11 (.v 2) (.v 16),none,[16]⟩] [2] (.gh (.frzB 102 9) .ret)))))) }
theorem kO_spec_l33Own : okFun Go.Proofs.Tryz.prog 59 sO_spec_l33Own = true := by kernel_rfl
/-- spec.HandOver: function 20 -/
def sO_spec_HandOver : SFun := { n := 108,res := [.cN 10 3,.t 11,.t 12],body := (jq [jn 7 (.box 107 (.v 2)) [2],jn 10 (.alloc 110 [.sl 0 11 [],.sl 0 3 [],.sl 0 2 []]) [],jn 11 (.mv (.c (.sl 0 8 []))) [11],jI 12 0 [12]] [0,1,3,4,7,10] (.seq (jq [jm 16 0 [],jL 17 3 7 [],jn 18 (.call 35 [.v 16,.v 17]) [16,17],jn 19 (.not (.v 18)) [18],jm 20 19 [19],jM 21 20 0 [],jM 22 20 1 [],jh 23 20 (.call 36 [.v 21,.v 22]) [21,22],jh 24 20 (.bin .lss (.v 23) (ci 0)) [23],jp 25 20 24 [20,24]] [0,1,3,4,7,10,25] (.cond (.v 25) (jq [jn 26 (.build [.sl 0 11 [],.sl 0 3 [],.sl 0 2 []] []) [],jn 27 (.lit 73 8 []) [],⟨none,.store 3 (.v 10) (.v 26),none,[26]⟩,jm 11 27 [27],jI 12 1 []] [10,11,12] (.gh (.frzB 110 0) (.gh (.frzB 110 1) (.gh (.frzB 110 2) .ret)))) .skip)) (jq [jL 28 3 7 [],jn 29 (.call 57 [.v 28]) [28],jn 13 (.alloc 113 [.sl 0 11 [],.sl 0 3 [],.sl 0 2 []]) [],⟨none,.store 3 (.v 13) (.v 29),none,[29]⟩] [0,1,3,4,7,10,13] (jq [jL 30 3 7 [],jm 31 3 [3],jn 32 (.call 58 [.v 30,.v 31]) [30,31],jm 14 32 [32]] [0,1,4,7,10,13,14] (.seq (jq [jm 33 0 [0],jm 34 4 [],jn 35 (.call 36 [.v 33,.v 34]) [33,34],jc 36 .lss 35 0 [35],jm 37 36 [36],jM 38 37 4 [],jM 39 37 1 [],jh 40 37 (.bin .eql (.v 38) (.v 39)) [38,39],jp 41 37 40 [37,40]] [1,4,7,10,13,14,41] (.cond (.v 41) (jq [jL 42 3 13 [13],jn 43 (.lit 73 8 []) [],⟨none,.store 3 (.v 10) (.v 42),none,[42]⟩,jm 11 43 [43],jI 12 2 []] [10,11,12] (.gh (.frzB 110 0) (.gh (.frzB 110 1) (.gh (.frzB 110 2) .ret)))) .skip)) (.seq (jq [jm 44 14 [],jc 45 .lss 44 0 [44],jm 46 45 [45],jh 47 46 (.faddr 0 (.v 7)) [],jh 48 46 (.load1 (.v 47)) [47],jM 49 46 14 [],jh 50 46 (.iaddr 11 (.v 48) (.v 49)) [48,49],jh 51 46 (.faddr 1 (.v 50)) [50],jh 52 46 (.load1 (.v 51)) [51],jh 53 46 (.bin .neq (.v 52) (ci 1)) [52],jp 54 46 53 [46,53],jm 55 54 [54],jh 56 55 (.faddr 0 (.v 7)) [],jh 57 55 (.load1 (.v 56)) [56],jM 58 55 14 [],jh 59 55 (.iaddr 11 (.v 57) (.v 58)) [57,58],jh 60 55 (.faddr 5 (.v 59)) [59],jh 61 55 (.load1 (.v 60)) [60],jh 62 55 (.bin .eql (.v 61) (ci 0)) [61],jp 63 55 62 [55,62]] [1,4,7,10,13,14,63] (.cond (.v 63) (jq [jL 64 3 13 [13],jn 65 (.lit 73 8 []) [],⟨none,.store 3 (.v 10) (.v 64),none,[64]⟩,jm 11 65 [65],jI 12 5 []] [10,11,12] (.gh (.frzB 110 0) (.gh (.frzB 110 1) (.gh (.frzB 110 2) .ret)))) .skip)) (.seq (jq [jf 66 0 7 [],jl 67 66 [66],jm 68 14 [],ja 69 11 67 68 [67,68],jf 70 7 69 [69],jl 71 70 [70],jc 72 .gtr 71 0 [71]] [1,4,7,10,13,14,72] (.cond (.v 72) (jq [jL 73 3 13 [13],jn 74 (.lit 73 8 []) [],⟨none,.store 3 (.v 10) (.v 73),none,[73]⟩,jm 11 74 [74],jI 12 6 []] [10,11,12] (.gh (.frzB 110 0) (.gh (.frzB 110 1) (.gh (.frzB 110 2) .ret)))) .skip)) (.seq (jq [jf 75 0 7 [],jl 76 75 [75],jm 77 14 [],ja 78 11 76 77 [76,77],jf 79 2 78 [78],jl 80 79 [79],jc 81 .geq 80 1000000 [80]] [1,4,7,10,13,14,81] (.cond (.v 81) (jq [jL 82 3 13 [13],jn 83 (.lit 73 8 []) [],⟨none,.store 3 (.v 10) (.v 82),none,[82]⟩,jm 11 83 [83],jI 12 4 []] [10,11,12] (.gh (.frzB 110 0) (.gh (.frzB 110 1) (.gh (.frzB 110 2) .ret)))) .skip)) (jq [jf 84 0 7 [7],jl 85 84 [84],jm 86 14 [],ja 87 11 85 86 [85,86],jL 88 11 87 [87],jn 89 (.call 59 [.v 88]) [88],jn 15 (.alloc 115 [.str ⟨#[]⟩,.int .i64 0,.int .i64 0,.str ⟨#[]⟩,.int .i64 0,.int .i64 0,.sl 0 6 [],.int .i64 0,.sl 0 6 [],.sl 0 1 [],.bool false]) [],⟨none,.store 11 (.v 15) (.v 89),none,[89]⟩] [1,4,10,13,14,15] (jq [jf 90 1 15 [],⟨none,.store 1 (.v 90) (ci 2),none,[90]⟩] [1,4,10,13,14,15] (jq [jf 91 2 15 [],jl 92 91 [91],jn 93 (.binN .add (.v 92) (ci 1)) [92],jf 94 2 15 [],⟨none,.store 1 (.v 94) (.v 93),none,[93,94]⟩] [1,4,10,13,14,15] (jq [jm 95 4 [4],jf 96 3 15 [],⟨none,.store 1 (.v 96) (.v 95),none,[95,96]⟩] [1,10,13,14,15] (jq [jf 97 0 13 [],jl 98 97 [97],jm 99 14 [14],jL 100 11 15 [],ja 101 11 98 99 [98,99],⟨none,.store 11 (.v 101) (.v 100),none,[100,101]⟩] [1,10,13,15] (.seq (.gh (.frzB 113 0) (.gh (.frzB 113 1) (.gh (.frzB 113 2) (.rgd [jL 102 3 13 [],jn 103 (.call 57 [.v 102]) [],jm 104 1 [],jL 105 11 15 [],jn 106 (.call 37 [.v 104,.v 105]) [],jn 107 (.lit 73 8 [.v 106]) [],⟨none,.store 3 (.v 10) (.v 103),none,[]⟩,jm 11 107 [],jI 12 0 []] [10,11,12] [none,some [],none,some [1],none,none,none,none,none])))) (.gh (.frzB 110 0) (.gh (.frzB 110 1) (.gh (.frzB 110 2) .ret))))))))))))))))) }
theorem kO_spec_HandOver : okFun Go.Proofs.Tryz.prog 20 sO_spec_HandOver = true := by kernel_rfl
end Go.Ve

namespace Go.Ve
open Go.Proofs
set_option maxRecDepth 100000
def lF_spec_l33Copy_0 : SCode := (.seq (jq [jm 11 4 [],jf 12 0 1 [],jl 13 12 [12],jn 14 (.lenL (.v 13)) [13],jb 15 .lss 11 14 [11,14]] [1,2,3,4,15] (.cond (.v 15) .skip (.exit 0))) (.seq (.block 1 (.rgd [jf 18 0 3 [],jl 19 18 [],jf 20 0 1 [],jl 21 20 [],jm 22 4 [],ja 23 11 21 22 [],jL 24 11 23 [],jn 25 (.call 59 [.v 24]) [],jn 26 (.lit 71 11 [.v 25]) [],jn 27 (.app 127 71 11 (.v 19) (.v 26)) [],jf 28 0 3 [],⟨none,.store 1 (.v 28) (.v 27),none,[]⟩] [1,2,3,4] [some [],some [],none,none,none,none,none,some [6,5],none,none,none,none])) (.rg [jm 16 4 [4],jn 17 (.binN .add (.v 16) (ci 1)) [16],jm 4 17 [17]] [1,2,3,4])))
def lF_spec_l33Copy_1 : SCode := (.seq (jq [jm 29 5 [],jf 30 1 1 [],jl 31 30 [30],jn 32 (.lenL (.v 31)) [31],jb 33 .lss 29 32 [29,32]] [1,2,3,5,33] (.cond (.v 33) .skip (.exit 2))) (.seq (.block 3 (.rgd [jf 36 1 3 [],jl 37 36 [],jf 38 1 1 [],jl 39 38 [],jm 40 5 [],ja 41 3 39 40 [],jf 42 0 41 [],jl 43 42 [],jf 44 1 1 [],jl 45 44 [],jm 46 5 [],ja 47 3 45 46 [],jf 48 1 47 [],jl 49 48 [],jf 50 1 1 [],jl 51 50 [],jm 52 5 [],ja 53 3 51 52 [],jf 54 2 53 [],jl 55 54 [],jn 56 (.call 66 [.v 55]) [],jn 57 (.build [.str ⟨#[]⟩,.int .i64 0,.sl 0 6 []] [(0,1,.v 43),(1,1,.v 49),(2,1,.v 56)]) [],jn 58 (.lit 124 3 [.v 57]) [],jn 59 (.app 159 124 3 (.v 37) (.v 58)) [],jf 60 1 3 [],⟨none,.store 1 (.v 60) (.v 59),none,[]⟩] [1,2,3,5] [some [],some [],some [],some [],none,some [],some [],some [],some [],some [],none,some [],some [],some [],none,none,none,none,none,none,some [19,18,17,16,14,13,12,11,10,8,7,6],none,none,none,none,none])) (.rg [jm 34 5 [5],jn 35 (.binN .add (.v 34) (ci 1)) [34],jm 5 35 [35]] [1,2,3,5])))
/-- spec.l33Copy: function 57 -/
def sF_spec_l33Copy : SFun := { n := 62,res := [.cN 2 3],body := (jq [jn 1 (.box 101 (.v 0)) [0],jn 2 (.alloc 102 [.sl 0 11 [],.sl 0 3 [],.sl 0 2 []]) []] [1,2] (jq [jn 6 (.litOwn 106 118 2 []) [],jf 7 2 1 [],jl 8 7 [7],jn 9 (.app 106 118 2 (.v 6) (.v 8)) [6,8],jn 10 (.build [.sl 98 11 [],.sl 98 3 [],.sl 98 2 []] [(2,1,.v 9)]) [9],jn 3 (.alloc 103 [.sl 0 11 [],.sl 0 3 [],.sl 0 2 []]) [],⟨none,.store 3 (.v 3) (.v 10),none,[10]⟩] [1,2,3] (.seq (jq [jI 4 0 []] [1,2,3,4] (.block 0 (.gh (.nilB 103 0 127 71) (.loop lF_spec_l33Copy_0)))) (.seq (jq [jI 5 0 []] [1,2,3,5] (.block 2 (.gh (.nilB 103 1 159 124) (.loop lF_spec_l33Copy_1)))) (jq [jL 61 3 3 [3],⟨none,.store 3 (.v 2) (.v 61),none,[61]⟩] [2] (.gh (.frzB 102 0) (.gh (.frzB 102 1) (.gh (.frzB 102 2) .ret)))))))) }
theorem kF_spec_l33Copy : okFun Go.Proofs.Tryz.prog 57 sF_spec_l33Copy = true := by kernel_rfl
/-- impl.HandOver: function 21 -/
def sF_impl_HandOver : SFun := { n := 35,res := [.cN 10 3,.t 11,.t 12],body := (jq [jn 7 (.box 107 (.v 2)) [2],jn 10 (.alloc 110 [.sl 0 11 [],.sl 0 3 [],.sl 0 2 []]) [],jn 11 (.mv (.c (.sl 98 8 []))) [11],jI 12 0 [12]] [0,1,3,4,7,10] (.seq (jq [jm 16 0 [],jm 17 1 [],jL 18 3 7 [],jn 19 (.call 45 [.v 16,.v 17,.v 18]) [16,17,18],jn 20 (.not (.v 19)) [19]] [0,1,3,4,7,10,20] (.cond (.v 20) (jq [jn 21 (.build [.sl 98 11 [],.sl 98 3 [],.sl 98 2 []] []) [],⟨none,.store 3 (.v 10) (.v 21),none,[21]⟩,jn 11 (.mv (.c (.sl 98 8 []))) [],jI 12 1 []] [10,11,12] .ret) .skip)) (jq [jL 22 3 7 [7],jn 23 (.call 60 [.v 22]) [22],jn 13 (.alloc 113 [.sl 0 11 [],.sl 0 3 [],.sl 0 2 []]) [],⟨none,.store 3 (.v 13) (.v 23),none,[23]⟩] [0,1,3,4,10,13] (jq [jm 25 0 [0],jm 26 1 [1],jm 27 3 [3],jm 28 4 [4],jn 29 (.call 61 [.v 13,.v 25,.v 26,.v 27,.v 28]) [25,26,27,28],jm 24 29 [29],jn 30 (.ext 0 (.v 24)) [],jn 31 (.ext 1 (.v 24)) [24],jm 14 30 [30],jm 15 31 [31]] [10,13,14,15] (jq [jL 32 3 13 [13],jm 33 14 [14],jm 34 15 [15],⟨none,.store 3 (.v 10) (.v 32),none,[32]⟩,jm 11 33 [33],jm 12 34 [34]] [10,11,12] .ret))))) }
theorem kF_impl_HandOver : okFun Go.Proofs.Tryz.prog 21 sF_impl_HandOver = true := by kernel_rfl
end Go.Ve

namespace Go.Ve
noncomputable section
open Go.Proofs
set_option maxRecDepth 100000
open Go.ChangeShapes Go.WideShapes
theorem c_sOwn (o : Own) (ho : o.small) : Contract P 59 [.agg (o.row 0)] [] (.agg (o.row 0)) [] := by
  have tkS : List.take o.gr.length (o.gr.map srow) = o.gr.map srow := List.take_of_length_le (by simp)
  unfold Own.small at ho
  simp only [Own.row]
  refine fn_sound ((Env.nil P).add 66 t_l31Tube h_l31Tube) hm kO_spec_l33Own (nlb rfl) rfl ?_; unfold sO_spec_l33Own; simp (maxSteps := 2000000) only [bitvec_to_nat, reduceIte, Nat.reduceEqDiff, Nat.reduceAdd, Nat.reduceLeDiff, reduceCtorEq, Nat.reduceBEq, Nat.reduceLT, Nat.reduceMod, fmc, t_l31Tube, int_toBitVec_meta, method_specs_simp, Nat.sub_zero, List.append_nil, tkS]
  exact ⟨by omega, by omega, by omega⟩
def t_sOwn : List AV → Option (Prop × AV)
  | [.agg [.str o_fl, .int .i64 o_st, .int .i64 o_tn, .str o_dst, .int .i64 o_la, .int .i64 o_nr, .sl 0 6 o_tu, .int .i64 o_wi, .sl 0 6 o_nx, .sl 0 1 o_gr, .bool o_sent]] => some ((((o_tu.map unBox).map Box6.row = o_tu) ∧ ((o_nx.map unBox).map Box6.row = o_nx) ∧ ((o_gr.map unS).map srow = o_gr)) ∧ (Own.small (Own.mk o_fl o_st o_tn o_dst o_la o_nr (o_tu.map unBox) o_wi (o_nx.map unBox) (o_gr.map unS) o_sent)), .agg (Own.row 0 (Own.mk o_fl o_st o_tn o_dst o_la o_nr (o_tu.map unBox) o_wi (o_nx.map unBox) (o_gr.map unS) o_sent)))
  | _ => none
theorem h_sOwn : ∀ args p v, t_sOwn args = some (p, v) → p → Contract P 59 args [] v [] ∧ noref v = true ∧ No99 v := by
  intro args p v h1 h2
  unfold t_sOwn at h1
  split at h1
  · rename_i o_fl o_st o_tn o_dst o_la o_nr o_tu o_wi o_nx o_gr o_sent
    cases h1
    obtain ⟨⟨e0, e1, e2⟩, HP⟩ := h2
    have := c_sOwn (Own.mk o_fl o_st o_tn o_dst o_la o_nr (o_tu.map unBox) o_wi (o_nx.map unBox) (o_gr.map unS) o_sent) HP
    exact ⟨by simpa only [e0, e1, e2, Own.row] using this, rfl, by simp [No99, No99L, Own.row, no99_box, no99_str, -List.map_map]⟩
  · cases h1
set_option maxHeartbeats 4000000 in
theorem c_sCopyO (b : Book) (hb : b.small) : Contract P 57 [.agg (b.row 0)] [] (.agg [.own 127 b.own.length 0 b.own.length, .own 159 b.parts.length 0 b.parts.length, .own 106 1 0 b.seen.length]) [(106, .arr 118 1 2 (b.seen.map Seen.row)), (127, .arr 71 b.own.length 11 (b.own.map (Own.row 0))), (159, .arr 124 b.parts.length 3 (b.parts.map (Part.row 0)))] := by
  have tkS : List.take b.seen.length (b.seen.map Seen.row) = b.seen.map Seen.row := List.take_of_length_le (by simp)
  have hlt : True := trivial
  have tk2 : True := trivial
  have eT : True := trivial
  unfold Book.small at hb
  simp only [Book.row]
  refine fn_sound (((Env.nil P).add 66 t_l31Tube h_l31Tube).add 59 t_sOwn h_sOwn) hm kO_spec_l33Copy (nlb rfl) rfl ?_; unfold sO_spec_l33Copy; simp (maxSteps := 2000000) only [bitvec_to_nat, reduceIte, Nat.reduceEqDiff, Nat.reduceAdd, Nat.reduceLeDiff, reduceCtorEq, Nat.reduceBEq, Nat.reduceLT, Nat.reduceMod, fmc, retG_ret, retQ_eq, retQ_eqN, retOk, keepB, re_tupl, orr_t, t_l31Tube, t_sOwn, int_toBitVec_meta, method_specs_simp, Nat.sub_zero, List.append_nil, tkS, List.length_map, hlt, eT, tk2]
  refine ⟨by omega, ?_⟩
  refine loop_st (fun i : Nat => [(1, .ptr 101 0), (2, .ptr 102 0), (3, .ptr 103 0), (4, .int .i64 i)]) (fun i => [(101, .box [.sl 0 11 (b.own.map (Own.row 0)), .sl 0 3 (b.parts.map (Part.row 0)), .sl 0 2 (b.seen.map Seen.row)]), (102, .box [.sl 0 11 [], .sl 0 3 [], .sl 0 2 []]), (106, .arr 118 1 2 (b.seen.map Seen.row)), (103, .box [.own 127 i 0 i, .sl 98 3 [], .own 106 1 0 b.seen.length]), (127, .arr 71 i 11 ((b.own.take i).map (Own.row 0)))]) (fun i => i ≤ b.own.length) (fun i => b.own.length - i) 0 (by simp only [u_E0, u_E1, u_M0, u_M1, w_setE0, w_setE1, w_setM0, w_setM1, reduceIte, Nat.reduceEqDiff]; exact ⟨by repeat' (first | exact trivial | refine ⟨.inr rfl, ?_⟩), by repeat' (first | exact trivial | refine ⟨rfl, ?_⟩), by first | rfl | simp [closedB, refsIn, refsInL, refsInO, dom, refsInL_nr, *], by first | rfl | simp [keepB, dom]⟩) (Nat.zero_le _) ?_
  intro i hi NX hN
  by_cases h : i < b.own.length
  · have hlt : (b.own.take i).length = i := by rw [List.length_take]; omega
    have hx := hb.1.2 _ (getD_mem' h)
    have tk2 : List.take i ((b.own.take i).map (Own.row 0)) = (b.own.take i).map (Own.row 0) := List.take_of_length_le (by rw [List.length_map, hlt]; omega)
    have eN : (b.own.take (i + 1)).map (Own.row 0) = (b.own.take i).map (Own.row 0) ++ [Own.row 0 (b.own.getD i default)] := by rw [List.take_succ_eq_append_getElem h, List.map_append]; simp [h]
    unfold lO_spec_l33Copy_0; simp (maxSteps := 2000000) only [bitvec_to_nat, reduceIte, Nat.reduceEqDiff, Nat.reduceAdd, Nat.reduceLeDiff, reduceCtorEq, Nat.reduceBEq, Nat.reduceLT, Nat.reduceMod, fmc, retG_ret, retQ_eq, retQ_eqN, retOk, keepB, re_tupl, orr_t, t_l31Tube, t_sOwn, int_toBitVec_meta, method_specs_simp, Nat.sub_zero, List.append_nil, tkS, List.length_map, hlt, eT, tk2]
    exact ⟨fun _ => ⟨by omega, by omega, hx, by omega, ⟨by omega, by omega⟩, hN (i + 1) _ (by simp only [eN, Own.row]; simp only [u_E0, u_E1, u_M0, u_M1, w_setE0, w_setE1, w_setM0, w_setM1, reduceIte, Nat.reduceEqDiff]; exact ⟨by repeat' (first | exact trivial | refine ⟨.inr rfl, ?_⟩), by repeat' (first | exact trivial | refine ⟨rfl, ?_⟩), by first | rfl | simp [closedB, refsIn, refsInL, refsInO, dom, refsInL_nr, *], by first | rfl | simp [keepB, dom]⟩) (by omega) (by omega)⟩, fun h' => absurd (by omega) h'⟩
  · have e : i = b.own.length := by omega
    subst e
    have et : b.own.take b.own.length = b.own := List.take_length
    simp only [et]
    unfold lO_spec_l33Copy_0; simp (maxSteps := 2000000) only [bitvec_to_nat, reduceIte, Nat.reduceEqDiff, Nat.reduceAdd, Nat.reduceLeDiff, reduceCtorEq, Nat.reduceBEq, Nat.reduceLT, Nat.reduceMod, fmc, retG_ret, retQ_eq, retQ_eqN, retOk, keepB, re_tupl, orr_t, t_l31Tube, t_sOwn, int_toBitVec_meta, method_specs_simp, Nat.sub_zero, List.append_nil, tkS, List.length_map, hlt, eT, tk2]
    refine ⟨fun h' => absurd h' (by omega), fun _ => ?_⟩
    refine loop_st (fun i : Nat => [(1, .ptr 101 0), (2, .ptr 102 0), (3, .ptr 103 0), (5, .int .i64 i)]) (fun i => [(101, .box [.sl 0 11 (b.own.map (Own.row 0)), .sl 0 3 (b.parts.map (Part.row 0)), .sl 0 2 (b.seen.map Seen.row)]), (102, .box [.sl 0 11 [], .sl 0 3 [], .sl 0 2 []]), (106, .arr 118 1 2 (b.seen.map Seen.row)), (103, .box [.own 127 b.own.length 0 b.own.length, .own 159 i 0 i, .own 106 1 0 b.seen.length]), (127, .arr 71 b.own.length 11 (b.own.map (Own.row 0))), (159, .arr 124 i 3 ((b.parts.take i).map (Part.row 0)))]) (fun i => i ≤ b.parts.length) (fun i => b.parts.length - i) 0 (by simp only [u_E0, u_E1, u_M0, u_M1, w_setE0, w_setE1, w_setM0, w_setM1, reduceIte, Nat.reduceEqDiff]; exact ⟨by repeat' (first | exact trivial | refine ⟨.inr rfl, ?_⟩), by repeat' (first | exact trivial | refine ⟨rfl, ?_⟩), by first | rfl | simp [closedB, refsIn, refsInL, refsInO, dom, refsInL_nr, *], by first | rfl | simp [keepB, dom]⟩) (Nat.zero_le _) ?_
    intro i hi NX hN
    by_cases h : i < b.parts.length
    · have hlt : (b.parts.take i).length = i := by rw [List.length_take]; omega
      have hx := hb.2.1.2 _ (getD_mem' h)
      have tk2 : List.take i ((b.parts.take i).map (Part.row 0)) = (b.parts.take i).map (Part.row 0) := List.take_of_length_le (by rw [List.length_map, hlt]; omega)
      have eN : (b.parts.take (i + 1)).map (Part.row 0) = (b.parts.take i).map (Part.row 0) ++ [Part.row 0 (b.parts.getD i default)] := by rw [List.take_succ_eq_append_getElem h, List.map_append]; simp [h]
      unfold lO_spec_l33Copy_1; simp (maxSteps := 2000000) only [bitvec_to_nat, reduceIte, Nat.reduceEqDiff, Nat.reduceAdd, Nat.reduceLeDiff, reduceCtorEq, Nat.reduceBEq, Nat.reduceLT, Nat.reduceMod, fmc, retG_ret, retQ_eq, retQ_eqN, retOk, keepB, re_tupl, orr_t, t_l31Tube, t_sOwn, int_toBitVec_meta, method_specs_simp, Nat.sub_zero, List.append_nil, tkS, List.length_map, hlt, eT, tk2]
      refine ⟨fun _ => ?_, fun h' => absurd (by omega) h'⟩
      repeat' (first | with_reducible apply And.intro | with_reducible intro _)
      all_goals first
        | omega
        | exact hN (i + 1) _ (by simp only [eN, Part.row]; simp only [u_E0, u_E1, u_M0, u_M1, w_setE0, w_setE1, w_setM0, w_setM1, reduceIte, Nat.reduceEqDiff]; exact ⟨by repeat' (first | exact trivial | refine ⟨.inr rfl, ?_⟩), by repeat' (first | exact trivial | refine ⟨rfl, ?_⟩), by first | rfl | simp [closedB, refsIn, refsInL, refsInO, dom, refsInL_nr, *], by first | rfl | simp [keepB, dom]⟩) (by omega) (by omega)
        | trace_state
    · have e : i = b.parts.length := by omega
      subst e
      have et : b.parts.take b.parts.length = b.parts := List.take_length
      simp only [et]
      unfold lO_spec_l33Copy_1; simp (maxSteps := 2000000) only [bitvec_to_nat, reduceIte, Nat.reduceEqDiff, Nat.reduceAdd, Nat.reduceLeDiff, reduceCtorEq, Nat.reduceBEq, Nat.reduceLT, Nat.reduceMod, fmc, retG_ret, retQ_eq, retQ_eqN, retOk, keepB, re_tupl, orr_t, t_l31Tube, t_sOwn, int_toBitVec_meta, method_specs_simp, Nat.sub_zero, List.append_nil, tkS, List.length_map, hlt, eT, tk2]
      refine ⟨fun h' => absurd h' (by omega), fun _ => ?_⟩
      exact ⟨rfl, rfl⟩
set_option maxHeartbeats 4000000 in
theorem c_sCopyT (b : Book) (hb : b.small) : Contract P 57 [.agg (b.row 0)] [] (.agg (b.row 0)) [] := by
  have tkS : List.take b.seen.length (b.seen.map Seen.row) = b.seen.map Seen.row := List.take_of_length_le (by simp)
  have hlt : True := trivial
  have tk2 : True := trivial
  have eT : True := trivial
  unfold Book.small at hb
  simp only [Book.row]
  refine fn_sound (((Env.nil P).add 66 t_l31Tube h_l31Tube).add 59 t_sOwn h_sOwn) hm kF_spec_l33Copy (nlb rfl) rfl ?_; unfold sF_spec_l33Copy; simp (maxSteps := 2000000) only [bitvec_to_nat, reduceIte, Nat.reduceEqDiff, Nat.reduceAdd, Nat.reduceLeDiff, reduceCtorEq, Nat.reduceBEq, Nat.reduceLT, Nat.reduceMod, fmc, retG_ret, retQ_eq, retQ_eqN, retOk, keepB, re_tupl, orr_t, t_l31Tube, t_sOwn, int_toBitVec_meta, method_specs_simp, Nat.sub_zero, List.append_nil, tkS, List.length_map, hlt, eT, tk2]
  refine ⟨by omega, ?_⟩
  refine loop_st (fun i : Nat => [(1, .ptr 101 0), (2, .ptr 102 0), (3, .ptr 103 0), (4, .int .i64 i)]) (fun i => [(101, .box [.sl 0 11 (b.own.map (Own.row 0)), .sl 0 3 (b.parts.map (Part.row 0)), .sl 0 2 (b.seen.map Seen.row)]), (102, .box [.sl 0 11 [], .sl 0 3 [], .sl 0 2 []]), (106, .arr 118 1 2 (b.seen.map Seen.row)), (103, .box [.own 127 i 0 i, .sl 98 3 [], .own 106 1 0 b.seen.length]), (127, .arr 71 i 11 ((b.own.take i).map (Own.row 0)))]) (fun i => i ≤ b.own.length) (fun i => b.own.length - i) 0 (by simp only [u_E0, u_E1, u_M0, u_M1, w_setE0, w_setE1, w_setM0, w_setM1, reduceIte, Nat.reduceEqDiff]; exact ⟨by repeat' (first | exact trivial | refine ⟨.inr rfl, ?_⟩), by repeat' (first | exact trivial | refine ⟨rfl, ?_⟩), by first | rfl | simp [closedB, refsIn, refsInL, refsInO, dom, refsInL_nr, *], by first | rfl | simp [keepB, dom]⟩) (Nat.zero_le _) ?_
  intro i hi NX hN
  by_cases h : i < b.own.length
  · have hlt : (b.own.take i).length = i := by rw [List.length_take]; omega
    have hx := hb.1.2 _ (getD_mem' h)
    have tk2 : List.take i ((b.own.take i).map (Own.row 0)) = (b.own.take i).map (Own.row 0) := List.take_of_length_le (by rw [List.length_map, hlt]; omega)
    have eN : (b.own.take (i + 1)).map (Own.row 0) = (b.own.take i).map (Own.row 0) ++ [Own.row 0 (b.own.getD i default)] := by rw [List.take_succ_eq_append_getElem h, List.map_append]; simp [h]
    unfold lF_spec_l33Copy_0; simp (maxSteps := 2000000) only [bitvec_to_nat, reduceIte, Nat.reduceEqDiff, Nat.reduceAdd, Nat.reduceLeDiff, reduceCtorEq, Nat.reduceBEq, Nat.reduceLT, Nat.reduceMod, fmc, retG_ret, retQ_eq, retQ_eqN, retOk, keepB, re_tupl, orr_t, t_l31Tube, t_sOwn, int_toBitVec_meta, method_specs_simp, Nat.sub_zero, List.append_nil, tkS, List.length_map, hlt, eT, tk2]
    exact ⟨fun _ => ⟨by omega, by omega, hx, by omega, ⟨by omega, by omega⟩, hN (i + 1) _ (by simp only [eN, Own.row]; simp only [u_E0, u_E1, u_M0, u_M1, w_setE0, w_setE1, w_setM0, w_setM1, reduceIte, Nat.reduceEqDiff]; exact ⟨by repeat' (first | exact trivial | refine ⟨.inr rfl, ?_⟩), by repeat' (first | exact trivial | refine ⟨rfl, ?_⟩), by first | rfl | simp [closedB, refsIn, refsInL, refsInO, dom, refsInL_nr, *], by first | rfl | simp [keepB, dom]⟩) (by omega) (by omega)⟩, fun h' => absurd (by omega) h'⟩
  · have e : i = b.own.length := by omega
    subst e
    have et : b.own.take b.own.length = b.own := List.take_length
    simp only [et]
    unfold lF_spec_l33Copy_0; simp (maxSteps := 2000000) only [bitvec_to_nat, reduceIte, Nat.reduceEqDiff, Nat.reduceAdd, Nat.reduceLeDiff, reduceCtorEq, Nat.reduceBEq, Nat.reduceLT, Nat.reduceMod, fmc, retG_ret, retQ_eq, retQ_eqN, retOk, keepB, re_tupl, orr_t, t_l31Tube, t_sOwn, int_toBitVec_meta, method_specs_simp, Nat.sub_zero, List.append_nil, tkS, List.length_map, hlt, eT, tk2]
    refine ⟨fun h' => absurd h' (by omega), fun _ => ?_⟩
    refine loop_st (fun i : Nat => [(1, .ptr 101 0), (2, .ptr 102 0), (3, .ptr 103 0), (5, .int .i64 i)]) (fun i => [(101, .box [.sl 0 11 (b.own.map (Own.row 0)), .sl 0 3 (b.parts.map (Part.row 0)), .sl 0 2 (b.seen.map Seen.row)]), (102, .box [.sl 0 11 [], .sl 0 3 [], .sl 0 2 []]), (106, .arr 118 1 2 (b.seen.map Seen.row)), (103, .box [.own 127 b.own.length 0 b.own.length, .own 159 i 0 i, .own 106 1 0 b.seen.length]), (127, .arr 71 b.own.length 11 (b.own.map (Own.row 0))), (159, .arr 124 i 3 ((b.parts.take i).map (Part.row 0)))]) (fun i => i ≤ b.parts.length) (fun i => b.parts.length - i) 0 (by simp only [u_E0, u_E1, u_M0, u_M1, w_setE0, w_setE1, w_setM0, w_setM1, reduceIte, Nat.reduceEqDiff]; exact ⟨by repeat' (first | exact trivial | refine ⟨.inr rfl, ?_⟩), by repeat' (first | exact trivial | refine ⟨rfl, ?_⟩), by first | rfl | simp [closedB, refsIn, refsInL, refsInO, dom, refsInL_nr, *], by first | rfl | simp [keepB, dom]⟩) (Nat.zero_le _) ?_
    intro i hi NX hN
    by_cases h : i < b.parts.length
    · have hlt : (b.parts.take i).length = i := by rw [List.length_take]; omega
      have hx := hb.2.1.2 _ (getD_mem' h)
      have tk2 : List.take i ((b.parts.take i).map (Part.row 0)) = (b.parts.take i).map (Part.row 0) := List.take_of_length_le (by rw [List.length_map, hlt]; omega)
      have eN : (b.parts.take (i + 1)).map (Part.row 0) = (b.parts.take i).map (Part.row 0) ++ [Part.row 0 (b.parts.getD i default)] := by rw [List.take_succ_eq_append_getElem h, List.map_append]; simp [h]
      unfold lF_spec_l33Copy_1; simp (maxSteps := 2000000) only [bitvec_to_nat, reduceIte, Nat.reduceEqDiff, Nat.reduceAdd, Nat.reduceLeDiff, reduceCtorEq, Nat.reduceBEq, Nat.reduceLT, Nat.reduceMod, fmc, retG_ret, retQ_eq, retQ_eqN, retOk, keepB, re_tupl, orr_t, t_l31Tube, t_sOwn, int_toBitVec_meta, method_specs_simp, Nat.sub_zero, List.append_nil, tkS, List.length_map, hlt, eT, tk2]
      refine ⟨fun _ => ?_, fun h' => absurd (by omega) h'⟩
      repeat' (first | with_reducible apply And.intro | with_reducible intro _)
      all_goals first
        | omega
        | exact hN (i + 1) _ (by simp only [eN, Part.row]; simp only [u_E0, u_E1, u_M0, u_M1, w_setE0, w_setE1, w_setM0, w_setM1, reduceIte, Nat.reduceEqDiff]; exact ⟨by repeat' (first | exact trivial | refine ⟨.inr rfl, ?_⟩), by repeat' (first | exact trivial | refine ⟨rfl, ?_⟩), by first | rfl | simp [closedB, refsIn, refsInL, refsInO, dom, refsInL_nr, *], by first | rfl | simp [keepB, dom]⟩) (by omega) (by omega)
        | trace_state
    · have e : i = b.parts.length := by omega
      subst e
      have et : b.parts.take b.parts.length = b.parts := List.take_length
      simp only [et]
      unfold lF_spec_l33Copy_1; simp (maxSteps := 2000000) only [bitvec_to_nat, reduceIte, Nat.reduceEqDiff, Nat.reduceAdd, Nat.reduceLeDiff, reduceCtorEq, Nat.reduceBEq, Nat.reduceLT, Nat.reduceMod, fmc, retG_ret, retQ_eq, retQ_eqN, retOk, keepB, re_tupl, orr_t, t_l31Tube, t_sOwn, int_toBitVec_meta, method_specs_simp, Nat.sub_zero, List.append_nil, tkS, List.length_map, hlt, eT, tk2]
      exact fun h' => absurd h' (by omega)
theorem may_tn {zs : List Zone} {me fl : ByteArray} {b : Book} (h : hMay zs me b) (h3 : ¬ oAt b.own fl < 0) : 0 ≤ (oG b fl).tn := by
  obtain ⟨q1, _⟩ := oAt_lt (l := b.own) (s := fl) (by omega)
  have q := (h.1.2.1.2 _ q1).1.1.2.2.1
  show 0 ≤ (b.own.getD (oAt b.own fl).toNat default).tn
  omega
def ovBk (zs : List Zone) (me fl dst : ByteArray) (b : Book) : Book := if hMay zs me b then (if ovC zs me b fl dst = 0 then ovB b fl dst else b) else ⟨[], [], []⟩
def ovWs (zs : List Zone) (me fl dst : ByteArray) (b : Book) : List VW := if hMay zs me b then (if ovC zs me b fl dst = 0 then [ovM me dst (oG b fl)] else []) else []
def ovCd (zs : List Zone) (me fl dst : ByteArray) (b : Book) : Int := if hMay zs me b then ovC zs me b fl dst else 1
theorem ovB_small {b : Book} {fl dst : ByteArray} (h : b.small) (hi : oI b fl < b.own.length) : (ovB b fl dst).small := by
  have hx := h.1.2 _ (getD_mem' hi)
  unfold Book.small at h ⊢
  refine ⟨⟨by unfold ovB; rw [List.length_set]; exact h.1.1, fun o ho => ?_⟩, h.2⟩
  unfold ovB at ho
  rcases List.mem_or_eq_of_mem_set ho with ho | rfl
  · exact h.1.2 o ho
  · exact hx
set_option maxHeartbeats 4000000 in
theorem c_sOverB (t : Nat) (zs : List Zone) (me fl dst : ByteArray) (b : Book) (hb : b.small) (hz : zs.length ≤ 1048576) : Contract P 20 [.sl t 5 (zs.map Zone.row), .str me, .agg (b.row 0), .str fl, .str dst] [] (.tup [.agg ((ovBk zs me fl dst b).row 0), .sl 0 8 (((ovWs zs me fl dst b).map VW.w).map (Word.row 0)), .int .i64 (ovCd zs me fl dst b)]) [] := by
  have hC := c_sCopyO b hb
  have hb2 := hb
  unfold Book.small at hb2
  have hI : True := trivial
  have n3 : True := trivial
  by_cases h0 : hMay zs me b
  · have h0a := h0.1
    have h0b := h0.2
    simp only [Book.row] at hC ⊢
    refine fn_sound ((((((Env.nil P).add 35 t_sBookOk h_sBookOk).add 36 t_sZoneAt h_sZoneAt).add 58 t_sAt h_sAt).add 59 t_sOwn h_sOwn).add 37 t_sGive h_sGive) hm kO_spec_HandOver (nlb rfl) rfl ?_; unfold sO_spec_HandOver; simp (maxSteps := 2000000) only [bitvec_to_nat, reduceIte, Nat.reduceEqDiff, Nat.reduceAdd, Nat.reduceLeDiff, reduceCtorEq, Nat.reduceBEq, Nat.reduceLT, Nat.reduceMod, fmc, t_sBookOk, t_sZoneAt, t_sAt, t_sOwn, t_sGive, int_toBitVec_meta, method_specs_simp, Nat.sub_zero, List.append_nil, List.length_map, h0, h0a, h0b, hI, n3]
    refine ⟨⟨hb, by omega⟩, by omega, fun h => absurd h0b (by omega), fun _ => ⟨_, _, .inr (.inr (.inl ⟨_, rfl, hC, by simp [getM], by simp [refsIn, refsInL, dom], rfl, by simp [No99, No99L], by simp [No99O, no99_Own, no99_Part, no99_Seen]⟩)), ?_⟩⟩
    simp (maxSteps := 2000000) only [bitvec_to_nat, reduceIte, Nat.reduceEqDiff, Nat.reduceAdd, Nat.reduceLeDiff, reduceCtorEq, Nat.reduceBEq, Nat.reduceLT, Nat.reduceMod, fmc, t_sBookOk, t_sZoneAt, t_sAt, t_sOwn, t_sGive, int_toBitVec_meta, method_specs_simp, Nat.sub_zero, List.append_nil, List.length_map, h0, h0a, h0b, hI, n3]
    have cls : ∀ k : Int, k ≠ 0 → ovC zs me b fl dst = k → (AV.agg [.sl 0 11 ((ovBk zs me fl dst b).own.map (Own.row 0)), .sl 0 3 ((ovBk zs me fl dst b).parts.map (Part.row 0)), .sl 0 2 ((ovBk zs me fl dst b).seen.map Seen.row)] = AV.agg [.sl 0 11 (b.own.map (Own.row 0)), .sl 0 3 (b.parts.map (Part.row 0)), .sl 0 2 (b.seen.map Seen.row)] ∧ AV.sl 0 8 [] = AV.sl 0 8 (((ovWs zs me fl dst b).map VW.w).map (Word.row 0)) ∧ k = ovCd zs me fl dst b) := fun k hk e => by simp [ovBk, ovWs, ovCd, h0, e, hk]
    refine ⟨by omega, by omega, fun h1 => cls 2 (by omega) (by unfold ovC; rw [if_pos (.inl h1)]), fun h1 => ⟨fun h2 => cls 2 (by omega) (by unfold ovC; rw [if_pos (.inr h2)]), fun h2 => ?_⟩⟩
    have n1 : ¬ (zAt zs dst < 0 ∨ dst = me) := fun h => h.elim h1 h2
    refine ⟨fun h3 => cls 5 (by omega) (by unfold ovC; rw [if_neg n1, if_pos h3]), fun h3 => ?_⟩
    obtain ⟨q1, q2⟩ := oAt_lt (l := b.own) (s := fl) (by omega)
    refine ⟨by omega, by omega, fun s1 => cls 5 (by omega) ?_, fun s1 => ⟨by omega, by omega, fun s2 => cls 5 (by omega) ?_, fun s2 => ⟨by omega, by omega, fun s3 => cls 6 (by omega) ?_, fun s3 => ⟨by omega, by omega, fun s4 => cls 4 (by omega) ?_, fun s4 => ?_⟩⟩⟩⟩
    · simp only [ovC, n1, h3, oG, oI, s1, if_false, if_true, ne_eq, not_false_eq_true, true_or]
    · simp only [ovC, n1, h3, oG, oI, s1, s2, if_false, if_true, ne_eq, not_true_eq_false, false_or]
    · simp only [ovC, n1, h3, oG, oI, s1, s2, s3, if_false, if_true, ne_eq, not_true_eq_false, false_or]
    · simp only [ovC, n1, h3, oG, oI, s1, s2, s3, s4, if_false, if_true, ne_eq, not_true_eq_false, false_or]
    have e0 : ovC zs me b fl dst = 0 := by simp only [ovC, n1, h3, oG, oI, s1, s2, s3, s4, if_false, if_true, ne_eq, not_true_eq_false, false_or]
    have hx := hb.1.2 _ (getD_mem' q1)
    have htn : 0 ≤ (b.own.getD (oAt b.own fl).toNat default).tn := may_tn h0 h3
    refine ⟨by omega, by omega, hx, ⟨by omega, by omega⟩, ⟨by omega, by omega⟩, ?_⟩
    have e1 : List.take b.own.length ((b.own.map (Own.row 0)).set (oAt b.own fl).toNat (setSeg ((b.own.map (Own.row 0)).getD (oAt b.own fl).toNat []) 0 (Own.row 0 (ovO dst (b.own.getD (oAt b.own fl).toNat default))))) = (ovB b fl dst).own.map (Own.row 0) := by
      rw [List.take_of_length_le (by simp)]
      have e2 : (b.own.map (Own.row 0)).getD (oAt b.own fl).toNat [] = Own.row 0 (b.own.getD (oAt b.own fl).toNat default) := by simp [q1]
      rw [e2]
      unfold ovB
      rw [List.map_set]; rfl
    simp only [Own.row, ovO] at e1
    simp only [e1]
    have hC2 := c_sCopyT (ovB b fl dst) (ovB_small hb q1)
    simp only [Book.row] at hC2
    refine ⟨_, _, .inr (.inl ⟨rfl, _, rfl, hC2, rfl, by simp [No99, No99L, no99_Own, no99_Part, no99_Seen]⟩), ?_⟩
    simp (maxSteps := 2000000) only [bitvec_to_nat, reduceIte, Nat.reduceEqDiff, Nat.reduceAdd, Nat.reduceLeDiff, reduceCtorEq, Nat.reduceBEq, Nat.reduceLT, Nat.reduceMod, fmc, t_sBookOk, t_sZoneAt, t_sAt, t_sOwn, t_sGive, int_toBitVec_meta, method_specs_simp, Nat.sub_zero, List.append_nil, List.length_map, h0, h0a, h0b, hI, n3]
    have b1 : ovBk zs me fl dst b = ovB b fl dst := by simp only [ovBk, if_pos h0, if_pos e0]
    have w1 : ovWs zs me fl dst b = [ovM me dst (oG b fl)] := by simp only [ovWs, if_pos h0, if_pos e0]
    have c1 : ovCd zs me fl dst b = 0 := by simp only [ovCd, if_pos h0, e0]
    rw [b1, w1, c1]
    exact ⟨hx, rfl, rfl, rfl⟩
  · have h0a : True := trivial
    have h0b : True := trivial
    simp only [ovBk, ovWs, ovCd, if_neg h0, Book.row, List.map_nil]
    refine fn_sound ((((((Env.nil P).add 35 t_sBookOk h_sBookOk).add 36 t_sZoneAt h_sZoneAt).add 58 t_sAt h_sAt).add 59 t_sOwn h_sOwn).add 37 t_sGive h_sGive) hm kO_spec_HandOver (nlb rfl) rfl ?_; unfold sO_spec_HandOver; simp (maxSteps := 2000000) only [bitvec_to_nat, reduceIte, Nat.reduceEqDiff, Nat.reduceAdd, Nat.reduceLeDiff, reduceCtorEq, Nat.reduceBEq, Nat.reduceLT, Nat.reduceMod, fmc, t_sBookOk, t_sZoneAt, t_sAt, t_sOwn, t_sGive, int_toBitVec_meta, method_specs_simp, Nat.sub_zero, List.append_nil, List.length_map, h0, h0a, h0b, hI, n3]
    exact ⟨⟨hb, by omega⟩, fun hq => ⟨by omega, fun hn => absurd ⟨hq, by omega⟩ h0⟩⟩
def t_sOverB : List AV → Option (Prop × AV)
  | [.sl zst 5 zsx, .str me, .agg [.sl 0 11 b_own, .sl 0 3 b_parts, .sl 0 2 b_seen], .str fl, .str dst] => some ((((zsx.map unZone).map Zone.row = zsx) ∧ ((b_own.map unOwn).map (Own.row 0) = b_own) ∧ ((b_parts.map unPart).map (Part.row 0) = b_parts) ∧ ((b_seen.map unSeen).map Seen.row = b_seen)) ∧ (Book.small (Book.mk (b_own.map unOwn) (b_parts.map unPart) (b_seen.map unSeen)) ∧ (zsx.map unZone).length ≤ 1048576), .tup [.agg ((ovBk (zsx.map unZone) me fl dst (Book.mk (b_own.map unOwn) (b_parts.map unPart) (b_seen.map unSeen))).row 0), .sl 0 8 (((ovWs (zsx.map unZone) me fl dst (Book.mk (b_own.map unOwn) (b_parts.map unPart) (b_seen.map unSeen))).map VW.w).map (Word.row 0)), .int .i64 (ovCd (zsx.map unZone) me fl dst (Book.mk (b_own.map unOwn) (b_parts.map unPart) (b_seen.map unSeen)))])
  | _ => none
theorem h_sOverB : ∀ args p v, t_sOverB args = some (p, v) → p → Contract P 20 args [] v [] ∧ noref v = true ∧ No99 v := by
  intro args p v h1 h2
  unfold t_sOverB at h1
  split at h1
  · rename_i zst zsx me b_own b_parts b_seen fl dst
    cases h1
    obtain ⟨⟨e0, e1, e2, e3⟩, HP⟩ := h2
    have := c_sOverB zst (zsx.map unZone) me fl dst (Book.mk (b_own.map unOwn) (b_parts.map unPart) (b_seen.map unSeen)) HP.1 HP.2
    exact ⟨by simpa only [e0, e1, e2, e3, Book.row] using this, rfl, by simp only [No99, No99L, Book.row]; exact ⟨⟨⟨by omega, no99_Own _⟩, ⟨by omega, no99_Part _⟩, ⟨by omega, no99_Seen _⟩, trivial⟩, ⟨by omega, no99_Word _⟩, trivial, trivial⟩⟩
  · cases h1
end
end Go.Ve

namespace Go.Ve
noncomputable section
open Go.Proofs
set_option maxRecDepth 100000
open Go.ChangeShapes Go.WideShapes
abbrev GA (va vc : Nat) (b : Book) : List (Nat × AObj) := bkM b 631 va 632 vc 633 0 300 320
theorem GA_offs {va vc : Nat} {b : Book} {q : Nat} (h1 : q ≠ 631) (h2 : q ≠ 632) (h3 : q ≠ 633) (h : q < 1000) : offs (GA va vc b) q := fun p hp e => by
  have := bk_num (by omega) (by omega) hp; omega
theorem GA_uniq (va vc : Nat) (b : Book) : uniq (GA va vc b) := bk_uniq (by omega) (by omega) (by omega) (by omega) (by omega) (by omega) (by omega) (by omega) (by omega)
theorem GA_getA {va vc : Nat} {b : Book} {X : List (Nat × AObj)} : getM (GA va vc b ++ X) 631 = some (.arr (1000000 + 71) va 11 (oRows (Own.row 0) 300 0 b.own)) := rfl
theorem GA_get {va vc : Nat} {b : Book} : getM (GA va vc b) 631 = some (.arr (1000000 + 71) va 11 (oRows (Own.row 0) 300 0 b.own)) := rfl
theorem GA_100 {va vc : Nat} {b : Book} : big100 (GA va vc b) := bk_100 (by omega) (by omega) (by omega) (by omega) (by omega) (by omega) (by omega)
theorem GA_k {va vc : Nat} {b : Book} {M' B : List (Nat × AObj)} : keepB (GA va vc b ++ B) M' = keepB B M' := keep_appL (keep_big GA_100)
theorem GA_k0 {va vc : Nat} {b : Book} {M' : List (Nat × AObj)} : keepB (GA va vc b) M' = true := keep_big GA_100
abbrev GB (va vc : Nat) (b : Book) : List (Nat × AObj) := bkM b 641 va 642 vc 643 0 340 360
theorem GB_offs {va vc : Nat} {b : Book} {q : Nat} (h1 : q ≠ 641) (h2 : q ≠ 642) (h3 : q ≠ 643) (h : q < 1000) : offs (GB va vc b) q := fun p hp e => by
  have := bk_num (by omega) (by omega) hp; omega
theorem GB_uniq (va vc : Nat) (b : Book) : uniq (GB va vc b) := bk_uniq (by omega) (by omega) (by omega) (by omega) (by omega) (by omega) (by omega) (by omega) (by omega)
theorem GB_getA {va vc : Nat} {b : Book} {X : List (Nat × AObj)} : getM (GB va vc b ++ X) 641 = some (.arr (1000000 + 71) va 11 (oRows (Own.row 0) 340 0 b.own)) := rfl
theorem GB_get {va vc : Nat} {b : Book} : getM (GB va vc b) 641 = some (.arr (1000000 + 71) va 11 (oRows (Own.row 0) 340 0 b.own)) := rfl
theorem GB_100 {va vc : Nat} {b : Book} : big100 (GB va vc b) := bk_100 (by omega) (by omega) (by omega) (by omega) (by omega) (by omega) (by omega)
theorem GB_k {va vc : Nat} {b : Book} {M' B : List (Nat × AObj)} : keepB (GB va vc b ++ B) M' = keepB B M' := keep_appL (keep_big GB_100)
theorem GB_k0 {va vc : Nat} {b : Book} {M' : List (Nat × AObj)} : keepB (GB va vc b) M' = true := keep_big GB_100
theorem KAGA {va' vc' : Nat} {b b' : Book} : dis (KA b) (GA va' vc' b') := fun p hp q hq e => by
  have := bk_num (by omega) (by omega) hp; have := bk_num (by omega) (by omega) hq; omega
theorem GAKA {va' vc' : Nat} {b b' : Book} : dis (GA va' vc' b') (KA b) := dis_symm KAGA
theorem KAGB {va' vc' : Nat} {b b' : Book} : dis (KA b) (GB va' vc' b') := fun p hp q hq e => by
  have := bk_num (by omega) (by omega) hp; have := bk_num (by omega) (by omega) hq; omega
theorem GBKA {va' vc' : Nat} {b b' : Book} : dis (GB va' vc' b') (KA b) := dis_symm KAGB
theorem GAGB {va vc va' vc' : Nat} {b b' : Book} : dis (GA va vc b) (GB va' vc' b') := fun p hp q hq e => by
  have := bk_num (by omega) (by omega) hp; have := bk_num (by omega) (by omega) hq; omega
theorem GBGA {va vc va' vc' : Nat} {b b' : Book} : dis (GB va' vc' b') (GA va vc b) := dis_symm GAGB
theorem GARA {va vc v : Nat} {b : Book} {l : List VW} : dis (GA va vc b) (RA v l) := fun p hp q hq e => by
  have := bk_num (by omega) (by omega) hp; have := OO_num rok_VW (by omega) hq; omega
theorem RAGA {va vc v : Nat} {b : Book} {l : List VW} : dis (RA v l) (GA va vc b) := dis_symm GARA
theorem GARB {va vc v : Nat} {b : Book} {l : List VW} : dis (GA va vc b) (RB v l) := fun p hp q hq e => by
  have := bk_num (by omega) (by omega) hp; have := OO_num rok_VW (by omega) hq; omega
theorem RBGA {va vc v : Nat} {b : Book} {l : List VW} : dis (RB v l) (GA va vc b) := dis_symm GARB
theorem GBRA {va vc v : Nat} {b : Book} {l : List VW} : dis (GB va vc b) (RA v l) := fun p hp q hq e => by
  have := bk_num (by omega) (by omega) hp; have := OO_num rok_VW (by omega) hq; omega
theorem RAGB {va vc v : Nat} {b : Book} {l : List VW} : dis (RA v l) (GB va vc b) := dis_symm GBRA
theorem GBRB {va vc v : Nat} {b : Book} {l : List VW} : dis (GB va vc b) (RB v l) := fun p hp q hq e => by
  have := bk_num (by omega) (by omega) hp; have := OO_num rok_VW (by omega) hq; omega
theorem RBGB {va vc v : Nat} {b : Book} {l : List VW} : dis (RB v l) (GB va vc b) := dis_symm GBRB
theorem GA_ov {va vc : Nat} {b : Book} {k : Int} {B : List (Nat × AObj)} : applyU (GA va vc b ++ B) (GA va vc (mb k b)) = GA va vc (mb k b) ++ B := ap_same (GA_uniq va vc b) (bk_domE mb_own mb_parts)
theorem GA_ov0 {va vc : Nat} {b : Book} {k : Int} : applyU (GA va vc b) (GA va vc (mb k b)) = GA va vc (mb k b) := ap_same0 (GA_uniq va vc b) (bk_domE mb_own mb_parts)
theorem markBookGA (va vc : Nat) (b : Book) (k : Int) (hb : b.sm) (hk : 0 ≤ k ∧ k ≤ 1099511627776) : Contract P 17 [bkV b 631 va 632 vc 633 0, .int .i64 k] (GA va vc b) (.int .i64 (k + cfB b)) (GA va vc (mb k b)) := by
  have h := (((((c_markBookO b va vc 0 k hb hk).ren (swp 3 631) (swp_swp _ _)).ren (swp 4 632) (swp_swp _ _)).ren (swp 5 633) (swp_swp _ _)).ren (swpB 7 300 11) (swpB_swpB (by omega) (by omega) (by omega))).ren (swpB 20 320 3) (swpB_swpB (by omega) (by omega) (by omega))
  have hs : ∀ q q' : Nat, q < 1000 → q' < 1000 → ∀ b : Book, ∀ a va c vc d vd, renM (swp q q') (bkM b a va c vc d vd 7 20) = bkM b (swp q q' a) va (swp q q' c) vc (swp q q' d) vd 7 20 := fun q q' h1 h2 b a va c vc d vd => bkM_ren (fun j i hj => swp_fam h1 h2) (fun j i hj => swp_fam h1 h2)
  have hO : ∀ b : Book, ∀ a va c vc d vd, renM (swpB 7 300 11) (bkM b a va c vc d vd 7 20) = bkM b (swpB 7 300 11 a) va (swpB 7 300 11 c) vc (swpB 7 300 11 d) vd 300 20 := fun b a va c vc d vd => bkM_ren (fun j i hj => swpB_at (by omega) hj) (fun j i hj => swpB_ne (by omega) (by omega) (by omega))
  have hP : ∀ b : Book, ∀ a va c vc d vd, renM (swpB 20 320 3) (bkM b a va c vc d vd 300 20) = bkM b (swpB 20 320 3 a) va (swpB 20 320 3 c) vc (swpB 20 320 3 d) vd 300 320 := fun b a va c vc d vd => bkM_ren (fun j i hj => swpB_ne (by omega) (by omega) (by omega)) (fun j i hj => swpB_at (by omega) hj)
  simp only [renM, renM_app, bkV_ren, hs _ _ (show (3 : Nat) < 1000 by omega) (show (631 : Nat) < 1000 by omega), hs _ _ (show (4 : Nat) < 1000 by omega) (show (632 : Nat) < 1000 by omega), hs _ _ (show (5 : Nat) < 1000 by omega) (show (633 : Nat) < 1000 by omega), hO, hP, renL, ren, renO, swp, swpB, reduceIte, Nat.reduceEqDiff, Nat.reduceLeDiff] at h
  exact h
theorem bkGA {fn : FuncId} {args : List AV} {va vc : Nat} {B : Book} {x y : AV} (hx : noref x = true) (hy : noref y = true) (ha : norefL args = true) (H : Contract P fn args [] (.tup [bkV B 131 va 149 vc 154 0, x, y]) (bkM B 131 va 149 vc 154 0 110 121)) : Contract P fn args [] (.tup [bkV B 631 va 632 vc 633 0, x, y]) (GA va vc B).reverse := by
  have h := ((((H.ren (swp 131 631) (swp_swp _ _)).ren (swp 149 632) (swp_swp _ _)).ren (swp 154 633) (swp_swp _ _)).ren (swpB 110 300 11) (swpB_swpB (by omega) (by omega) (by omega))).ren (swpB 121 320 3) (swpB_swpB (by omega) (by omega) (by omega))
  have hs : ∀ q q' : Nat, q < 1000 → q' < 1000 → ∀ b : Book, ∀ a va c vc d vd, renM (swp q q') (bkM b a va c vc d vd 110 121) = bkM b (swp q q' a) va (swp q q' c) vc (swp q q' d) vd 110 121 := fun q q' h1 h2 b a va c vc d vd => bkM_ren (fun j i hj => swp_fam h1 h2) (fun j i hj => swp_fam h1 h2)
  have hO : ∀ b : Book, ∀ a va c vc d vd, renM (swpB 110 300 11) (bkM b a va c vc d vd 110 121) = bkM b (swpB 110 300 11 a) va (swpB 110 300 11 c) vc (swpB 110 300 11 d) vd 300 121 := fun b a va c vc d vd => bkM_ren (fun j i hj => swpB_at (by omega) hj) (fun j i hj => swpB_ne (by omega) (by omega) (by omega))
  have hP : ∀ b : Book, ∀ a va c vc d vd, renM (swpB 121 320 3) (bkM b a va c vc d vd 300 121) = bkM b (swpB 121 320 3 a) va (swpB 121 320 3 c) vc (swpB 121 320 3 d) vd 300 320 := fun b a va c vc d vd => bkM_ren (fun j i hj => swpB_ne (by omega) (by omega) (by omega)) (fun j i hj => swpB_at (by omega) hj)
  have r1 : ∀ (s : Nat → Nat), ren s x = x := fun s => ren_nr s x hx
  have r2 : ∀ (s : Nat → Nat), ren s y = y := fun s => ren_nr s y hy
  have r3 : ∀ (s : Nat → Nat), renL s args = args := fun s => renL_nr s args ha
  simp only [r3, ren, renL, r1, r2, renM, renM_app, bkV_ren, hs _ _ (show (131 : Nat) < 1000 by omega) (show (631 : Nat) < 1000 by omega), hs _ _ (show (149 : Nat) < 1000 by omega) (show (632 : Nat) < 1000 by omega), hs _ _ (show (154 : Nat) < 1000 by omega) (show (633 : Nat) < 1000 by omega), hO, hP, renL, ren, renO, swp, swpB, reduceIte, Nat.reduceEqDiff, Nat.reduceLeDiff] at h
  exact h.post_eq (funext fun q => getM_rev (GA_uniq va vc B) q)
theorem bkGARA {fn : FuncId} {args : List AV} {va vc v : Nat} {B : Book} {l : List VW} {n : Nat} {y : AV} (hy : noref y = true) (ha : norefL args = true) (H : Contract P fn args [] (.tup [bkV B 131 va 149 vc 154 0, .own 120 v 0 n, y]) (bkM B 131 va 149 vc 154 0 110 121 ++ WordS 120 v 150 0 l)) : Contract P fn args [] (.tup [bkV B 631 va 632 vc 633 0, .own 731 v 0 n, y]) (GA va vc B ++ RA v l).reverse := by
  have h := ((((H.ren (swp 131 631) (swp_swp _ _)).ren (swp 149 632) (swp_swp _ _)).ren (swp 154 633) (swp_swp _ _)).ren (swpB 110 300 11) (swpB_swpB (by omega) (by omega) (by omega))).ren (swpB 121 320 3) (swpB_swpB (by omega) (by omega) (by omega))
  have hs : ∀ q q' : Nat, q < 1000 → q' < 1000 → ∀ b : Book, ∀ a va c vc d vd, renM (swp q q') (bkM b a va c vc d vd 110 121) = bkM b (swp q q' a) va (swp q q' c) vc (swp q q' d) vd 110 121 := fun q q' h1 h2 b a va c vc d vd => bkM_ren (fun j i hj => swp_fam h1 h2) (fun j i hj => swp_fam h1 h2)
  have hO : ∀ b : Book, ∀ a va c vc d vd, renM (swpB 110 300 11) (bkM b a va c vc d vd 110 121) = bkM b (swpB 110 300 11 a) va (swpB 110 300 11 c) vc (swpB 110 300 11 d) vd 300 121 := fun b a va c vc d vd => bkM_ren (fun j i hj => swpB_at (by omega) hj) (fun j i hj => swpB_ne (by omega) (by omega) (by omega))
  have hP : ∀ b : Book, ∀ a va c vc d vd, renM (swpB 121 320 3) (bkM b a va c vc d vd 300 121) = bkM b (swpB 121 320 3 a) va (swpB 121 320 3 c) vc (swpB 121 320 3 d) vd 300 320 := fun b a va c vc d vd => bkM_ren (fun j i hj => swpB_ne (by omega) (by omega) (by omega)) (fun j i hj => swpB_at (by omega) hj)
  have h := (h.ren (swp 120 731) (swp_swp _ _)).ren (swpB 150 160 8) (swpB_swpB (by omega) (by omega) (by omega))
  have r2 : ∀ (s : Nat → Nat), ren s y = y := fun s => ren_nr s y hy
  have r3 : ∀ (s : Nat → Nat), renL s args = args := fun s => renL_nr s args ha
  have w1 : ∀ q q' : Nat, q < 1000 → q' < 1000 → ∀ o, renM (swp q q') (WordS o v 150 0 l) = WordS (swp q q' o) v 150 0 l := fun q q' h1 h2 o => OO_ren (i1 := 0) rok_VW hes_Word (fun j i hj => swp_fam h1 h2)
  have w2 : ∀ o, renM (swpB 110 300 11) (WordS o v 150 0 l) = WordS (swpB 110 300 11 o) v 150 0 l := fun o => OO_ren (i1 := 0) rok_VW hes_Word (fun j i hj => swpB_ne (by omega) (by omega) (by omega))
  have w3 : ∀ o, renM (swpB 121 320 3) (WordS o v 150 0 l) = WordS (swpB 121 320 3 o) v 150 0 l := fun o => OO_ren (i1 := 0) rok_VW hes_Word (fun j i hj => swpB_ne (by omega) (by omega) (by omega))
  have w4 : ∀ o, renM (swpB 150 160 8) (WordS o v 150 0 l) = WordS (swpB 150 160 8 o) v 160 0 l := fun o => OO_ren (i1 := 0) rok_VW hes_Word (fun j i hj => swpB_at (by omega) hj)
  have w5 : ∀ b : Book, ∀ a va c vc d vd, renM (swp 120 731) (bkM b a va c vc d vd 300 320) = bkM b (swp 120 731 a) va (swp 120 731 c) vc (swp 120 731 d) vd 300 320 := fun b a va c vc d vd => bkM_ren (fun j i hj => swp_fam (by omega) (by omega)) (fun j i hj => swp_fam (by omega) (by omega))
  have w6 : ∀ b : Book, ∀ a va c vc d vd, renM (swpB 150 160 8) (bkM b a va c vc d vd 300 320) = bkM b (swpB 150 160 8 a) va (swpB 150 160 8 c) vc (swpB 150 160 8 d) vd 300 320 := fun b a va c vc d vd => bkM_ren (fun j i hj => swpB_ne (by omega) (by omega) (by omega)) (fun j i hj => swpB_ne (by omega) (by omega) (by omega))
  simp only [r3, r2, renM_app, w1 _ _ (show (131 : Nat) < 1000 by omega) (show (631 : Nat) < 1000 by omega), w1 _ _ (show (149 : Nat) < 1000 by omega) (show (632 : Nat) < 1000 by omega), w1 _ _ (show (154 : Nat) < 1000 by omega) (show (633 : Nat) < 1000 by omega), w1 _ _ (show (120 : Nat) < 1000 by omega) (show (731 : Nat) < 1000 by omega), w2, w3, w4, w5, w6, renM, renM_app, bkV_ren, hs _ _ (show (131 : Nat) < 1000 by omega) (show (631 : Nat) < 1000 by omega), hs _ _ (show (149 : Nat) < 1000 by omega) (show (632 : Nat) < 1000 by omega), hs _ _ (show (154 : Nat) < 1000 by omega) (show (633 : Nat) < 1000 by omega), hO, hP, renL, ren, renO, swp, swpB, reduceIte, Nat.reduceEqDiff, Nat.reduceLeDiff] at h
  exact h.post_eq (funext fun q => getM_rev (uniq_app (GA_uniq va vc B) (WordO_uniq (by omega) (by omega)) GARA) q)
theorem bkGB {fn : FuncId} {args : List AV} {va vc : Nat} {B : Book} {x y : AV} (hx : noref x = true) (hy : noref y = true) (ha : norefL args = true) (H : Contract P fn args [] (.tup [bkV B 131 va 149 vc 154 0, x, y]) (bkM B 131 va 149 vc 154 0 110 121)) : Contract P fn args [] (.tup [bkV B 641 va 642 vc 643 0, x, y]) (GB va vc B).reverse := by
  have h := ((((H.ren (swp 131 641) (swp_swp _ _)).ren (swp 149 642) (swp_swp _ _)).ren (swp 154 643) (swp_swp _ _)).ren (swpB 110 340 11) (swpB_swpB (by omega) (by omega) (by omega))).ren (swpB 121 360 3) (swpB_swpB (by omega) (by omega) (by omega))
  have hs : ∀ q q' : Nat, q < 1000 → q' < 1000 → ∀ b : Book, ∀ a va c vc d vd, renM (swp q q') (bkM b a va c vc d vd 110 121) = bkM b (swp q q' a) va (swp q q' c) vc (swp q q' d) vd 110 121 := fun q q' h1 h2 b a va c vc d vd => bkM_ren (fun j i hj => swp_fam h1 h2) (fun j i hj => swp_fam h1 h2)
  have hO : ∀ b : Book, ∀ a va c vc d vd, renM (swpB 110 340 11) (bkM b a va c vc d vd 110 121) = bkM b (swpB 110 340 11 a) va (swpB 110 340 11 c) vc (swpB 110 340 11 d) vd 340 121 := fun b a va c vc d vd => bkM_ren (fun j i hj => swpB_at (by omega) hj) (fun j i hj => swpB_ne (by omega) (by omega) (by omega))
  have hP : ∀ b : Book, ∀ a va c vc d vd, renM (swpB 121 360 3) (bkM b a va c vc d vd 340 121) = bkM b (swpB 121 360 3 a) va (swpB 121 360 3 c) vc (swpB 121 360 3 d) vd 340 360 := fun b a va c vc d vd => bkM_ren (fun j i hj => swpB_ne (by omega) (by omega) (by omega)) (fun j i hj => swpB_at (by omega) hj)
  have r1 : ∀ (s : Nat → Nat), ren s x = x := fun s => ren_nr s x hx
  have r2 : ∀ (s : Nat → Nat), ren s y = y := fun s => ren_nr s y hy
  have r3 : ∀ (s : Nat → Nat), renL s args = args := fun s => renL_nr s args ha
  simp only [r3, ren, renL, r1, r2, renM, renM_app, bkV_ren, hs _ _ (show (131 : Nat) < 1000 by omega) (show (641 : Nat) < 1000 by omega), hs _ _ (show (149 : Nat) < 1000 by omega) (show (642 : Nat) < 1000 by omega), hs _ _ (show (154 : Nat) < 1000 by omega) (show (643 : Nat) < 1000 by omega), hO, hP, renL, ren, renO, swp, swpB, reduceIte, Nat.reduceEqDiff, Nat.reduceLeDiff] at h
  exact h.post_eq (funext fun q => getM_rev (GB_uniq va vc B) q)
theorem bkGBRB {fn : FuncId} {args : List AV} {va vc v : Nat} {B : Book} {l : List VW} {n : Nat} {y : AV} (hy : noref y = true) (ha : norefL args = true) (H : Contract P fn args [] (.tup [bkV B 131 va 149 vc 154 0, .own 120 v 0 n, y]) (bkM B 131 va 149 vc 154 0 110 121 ++ WordS 120 v 150 0 l)) : Contract P fn args [] (.tup [bkV B 641 va 642 vc 643 0, .own 741 v 0 n, y]) (GB va vc B ++ RB v l).reverse := by
  have h := ((((H.ren (swp 131 641) (swp_swp _ _)).ren (swp 149 642) (swp_swp _ _)).ren (swp 154 643) (swp_swp _ _)).ren (swpB 110 340 11) (swpB_swpB (by omega) (by omega) (by omega))).ren (swpB 121 360 3) (swpB_swpB (by omega) (by omega) (by omega))
  have hs : ∀ q q' : Nat, q < 1000 → q' < 1000 → ∀ b : Book, ∀ a va c vc d vd, renM (swp q q') (bkM b a va c vc d vd 110 121) = bkM b (swp q q' a) va (swp q q' c) vc (swp q q' d) vd 110 121 := fun q q' h1 h2 b a va c vc d vd => bkM_ren (fun j i hj => swp_fam h1 h2) (fun j i hj => swp_fam h1 h2)
  have hO : ∀ b : Book, ∀ a va c vc d vd, renM (swpB 110 340 11) (bkM b a va c vc d vd 110 121) = bkM b (swpB 110 340 11 a) va (swpB 110 340 11 c) vc (swpB 110 340 11 d) vd 340 121 := fun b a va c vc d vd => bkM_ren (fun j i hj => swpB_at (by omega) hj) (fun j i hj => swpB_ne (by omega) (by omega) (by omega))
  have hP : ∀ b : Book, ∀ a va c vc d vd, renM (swpB 121 360 3) (bkM b a va c vc d vd 340 121) = bkM b (swpB 121 360 3 a) va (swpB 121 360 3 c) vc (swpB 121 360 3 d) vd 340 360 := fun b a va c vc d vd => bkM_ren (fun j i hj => swpB_ne (by omega) (by omega) (by omega)) (fun j i hj => swpB_at (by omega) hj)
  have h := (h.ren (swp 120 741) (swp_swp _ _)).ren (swpB 150 170 8) (swpB_swpB (by omega) (by omega) (by omega))
  have r2 : ∀ (s : Nat → Nat), ren s y = y := fun s => ren_nr s y hy
  have r3 : ∀ (s : Nat → Nat), renL s args = args := fun s => renL_nr s args ha
  have w1 : ∀ q q' : Nat, q < 1000 → q' < 1000 → ∀ o, renM (swp q q') (WordS o v 150 0 l) = WordS (swp q q' o) v 150 0 l := fun q q' h1 h2 o => OO_ren (i1 := 0) rok_VW hes_Word (fun j i hj => swp_fam h1 h2)
  have w2 : ∀ o, renM (swpB 110 340 11) (WordS o v 150 0 l) = WordS (swpB 110 340 11 o) v 150 0 l := fun o => OO_ren (i1 := 0) rok_VW hes_Word (fun j i hj => swpB_ne (by omega) (by omega) (by omega))
  have w3 : ∀ o, renM (swpB 121 360 3) (WordS o v 150 0 l) = WordS (swpB 121 360 3 o) v 150 0 l := fun o => OO_ren (i1 := 0) rok_VW hes_Word (fun j i hj => swpB_ne (by omega) (by omega) (by omega))
  have w4 : ∀ o, renM (swpB 150 170 8) (WordS o v 150 0 l) = WordS (swpB 150 170 8 o) v 170 0 l := fun o => OO_ren (i1 := 0) rok_VW hes_Word (fun j i hj => swpB_at (by omega) hj)
  have w5 : ∀ b : Book, ∀ a va c vc d vd, renM (swp 120 741) (bkM b a va c vc d vd 340 360) = bkM b (swp 120 741 a) va (swp 120 741 c) vc (swp 120 741 d) vd 340 360 := fun b a va c vc d vd => bkM_ren (fun j i hj => swp_fam (by omega) (by omega)) (fun j i hj => swp_fam (by omega) (by omega))
  have w6 : ∀ b : Book, ∀ a va c vc d vd, renM (swpB 150 170 8) (bkM b a va c vc d vd 340 360) = bkM b (swpB 150 170 8 a) va (swpB 150 170 8 c) vc (swpB 150 170 8 d) vd 340 360 := fun b a va c vc d vd => bkM_ren (fun j i hj => swpB_ne (by omega) (by omega) (by omega)) (fun j i hj => swpB_ne (by omega) (by omega) (by omega))
  simp only [r3, r2, renM_app, w1 _ _ (show (131 : Nat) < 1000 by omega) (show (641 : Nat) < 1000 by omega), w1 _ _ (show (149 : Nat) < 1000 by omega) (show (642 : Nat) < 1000 by omega), w1 _ _ (show (154 : Nat) < 1000 by omega) (show (643 : Nat) < 1000 by omega), w1 _ _ (show (120 : Nat) < 1000 by omega) (show (741 : Nat) < 1000 by omega), w2, w3, w4, w5, w6, renM, renM_app, bkV_ren, hs _ _ (show (131 : Nat) < 1000 by omega) (show (641 : Nat) < 1000 by omega), hs _ _ (show (149 : Nat) < 1000 by omega) (show (642 : Nat) < 1000 by omega), hs _ _ (show (154 : Nat) < 1000 by omega) (show (643 : Nat) < 1000 by omega), hO, hP, renL, ren, renO, swp, swpB, reduceIte, Nat.reduceEqDiff, Nat.reduceLeDiff] at h
  exact h.post_eq (funext fun q => getM_rev (uniq_app (GB_uniq va vc B) (WordO_uniq (by omega) (by omega)) GBRB) q)
theorem purN_mb {M K : Nat → Option AObj} {b : Book} {a va c vc d vd kO kP : Nat} {k : Int} (hM : ∀ p ∈ bkM (mb k b) a va c vc d vd kO kP, M p.1 = some p.2) (hK : ∀ p ∈ bkM (mb k b) a va c vc d vd kO kP, K p.1 = some p.2) : purN M K (bkV b a va c vc d vd) = some (.agg ((mb k b).row 99)) := by rw [← bkV_mb (k := k)]; exact purN_bk hM hK
theorem allne1 {U : List (Nat × AObj)} {q : Nat} (h : offs U q) : ((U.reverse.map fun x : Nat × AObj => x.1).all fun x => !x == q) = true := by
  rw [List.all_eq_true]
  intro o ho
  obtain ⟨p, hp, rfl⟩ := List.mem_map.1 ho
  have := h p (List.mem_reverse.1 hp)
  simpa using this
theorem allne2 {U V : List (Nat × AObj)} {q : Nat} (h : offs U q) (k : offs V q) : (((V.reverse ++ U.reverse).map fun x : Nat × AObj => x.1).all fun x => !x == q) = true := by
  rw [List.map_append, List.all_append, allne1 h, allne1 k]; rfl
theorem newK_both {A B : List (Nat × AObj)} {M : Nat → Option AObj} (h : ∀ p ∈ A, M p.1 = none) (k : ∀ p ∈ B, M p.1 = none) : ∀ p ∈ A ++ B, M p.1 = none := fun p hp => (List.mem_append.1 hp).elim (h p) (k p)
theorem bw_refV {B : Book} {a va c vc d vd kO kP o v kW n : Nat} {l : List VW} {y : AV} (hy : noref y = true) : refsIn (dom (bkM B a va c vc d vd kO kP ++ WordS o v kW 0 l).reverse) (.tup [bkV B a va c vc d vd, .own o v 0 n, y]) = true := by
  have r1 : refsIn (dom (bkM B a va c vc d vd kO kP ++ WordS o v kW 0 l).reverse) (bkV B a va c vc d vd) = true := bk_refV' (kO := kO) (kP := kP) fun p h => mem_dom (List.mem_reverse.2 (List.mem_append_left _ h))
  have r2 : (dom (bkM B a va c vc d vd kO kP ++ WordS o v kW 0 l).reverse).contains o = true := List.contains_iff_mem.2 (by
    have := mem_dom (List.mem_reverse.2 (List.mem_append_right (bkM B a va c vc d vd kO kP) (List.mem_cons_self (a := (o, AObj.arr (1000000 + 73) v 8 (oRows VW.rowO kW 0 l))) (l := oObjs esWord VW.rowO kW 0 l))))
    exact this)
  simp only [refsIn, refsInL, r1, r2, refsIn_nr _ _ hy, Bool.and_self]
theorem bw_refs {B : Book} {a va c vc d vd kO kP o v kW : Nat} {l : List VW} : ((bkM B a va c vc d vd kO kP ++ WordS o v kW 0 l).reverse.all fun p => refsInO (dom (bkM B a va c vc d vd kO kP ++ WordS o v kW 0 l).reverse) p.2) = true := by
  rw [List.all_reverse, List.all_append, Bool.and_eq_true]
  exact ⟨bk_refsD fun p h => mem_dom (List.mem_reverse.2 (List.mem_append_left _ h)), OO_refsD rok_VW hes_Word fun p h => mem_dom (List.mem_reverse.2 (List.mem_append_right _ (List.mem_cons_of_mem _ h)))⟩
theorem bw_plain {B : Book} {a va c vc d vd kO kP o v kW : Nat} {l : List VW} : ((bkM B a va c vc d vd kO kP ++ WordS o v kW 0 l).reverse.all fun p => plainO p.2) = true := by
  rw [List.all_reverse, List.all_append, Bool.and_eq_true]; exact ⟨bk_plain, OO_plain rok_VW⟩
theorem bw_99 {B : Book} {a va c vc d vd kO kP o v kW : Nat} {l : List VW} : ∀ p ∈ (bkM B a va c vc d vd kO kP ++ WordS o v kW 0 l).reverse, No99O p.2 := fun p hp => (List.mem_append.1 (List.mem_reverse.1 hp)).elim (bk_99 p) (OO_99 rok_VW p)
theorem bn_refV {B : Book} {a va c vc d vd kO kP : Nat} {x y : AV} (hx : noref x = true) (hy : noref y = true) : refsIn (dom (bkM B a va c vc d vd kO kP).reverse) (.tup [bkV B a va c vc d vd, x, y]) = true := by
  simp only [refsIn, refsInL, bkr_refV (b := B) (kO := kO) (kP := kP), refsIn_nr _ _ hx, refsIn_nr _ _ hy, Bool.and_self]
theorem bn_plain {B : Book} {a va c vc d vd kO kP : Nat} : ((bkM B a va c vc d vd kO kP).reverse.all fun p => plainO p.2) = true := by rw [List.all_reverse]; exact bk_plain
theorem bn_99 {B : Book} {a va c vc d vd kO kP : Nat} : ∀ p ∈ (bkM B a va c vc d vd kO kP).reverse, No99O p.2 := fun p hp => bk_99 p (List.mem_reverse.1 hp)
theorem c_markNOwnS (t : Nat) (k : Int) : Contract P 53 [.sl t 11 [], .int .i64 k] [] (.int .i64 k) [] := by
  refine fn_sound ((Env.nil P).add 52 t_markText h_markText) hm k_laws_markHandOwnS (nlb rfl) rfl ?_; unfold s_laws_markHandOwnS; simp (maxSteps := 2000000) only [bitvec_to_nat, reduceIte, Nat.reduceEqDiff, Nat.reduceAdd, Nat.reduceLeDiff, reduceCtorEq, Nat.reduceBEq, Nat.reduceLT, Nat.reduceMod, fmc, t_markText, List.map_nil, List.length_nil]
  refine loop_st (fun _ : Nat => [(5, .int .i64 0)]) (fun _ => []) (fun _ => True) (fun i => i) 0 (by simp only [u_E0, u_E1, u_M0, u_M1, w_setE0, w_setE1, w_setM0, w_setM1, reduceIte, Nat.reduceEqDiff]; exact ⟨by repeat' (first | exact trivial | refine ⟨.inr rfl, ?_⟩), by repeat' (first | exact trivial | refine ⟨rfl, ?_⟩), by first | rfl | simp [closedB, refsIn, refsInL, refsInO, dom, refsInL_nr, *], by first | rfl | simp [keepB, dom]⟩) trivial ?_
  intro i _ NX hN
  unfold l_laws_markHandOwnS_0; simp (maxSteps := 2000000) only [bitvec_to_nat, reduceIte, Nat.reduceEqDiff, Nat.reduceAdd, Nat.reduceLeDiff, reduceCtorEq, Nat.reduceBEq, Nat.reduceLT, Nat.reduceMod, fmc, t_markText, List.map_nil, List.length_nil]
  first
    | exact fun h => absurd h (by omega)
    | exact ⟨fun h => absurd h (by omega), fun _ => by first | trivial | rfl⟩
theorem c_markNPartS (t : Nat) (k : Int) : Contract P 54 [.sl t 3 [], .int .i64 k] [] (.int .i64 k) [] := by
  refine fn_sound ((Env.nil P).add 52 t_markText h_markText) hm k_laws_markHandPartS (nlb rfl) rfl ?_; unfold s_laws_markHandPartS; simp (maxSteps := 2000000) only [bitvec_to_nat, reduceIte, Nat.reduceEqDiff, Nat.reduceAdd, Nat.reduceLeDiff, reduceCtorEq, Nat.reduceBEq, Nat.reduceLT, Nat.reduceMod, fmc, t_markText, List.map_nil, List.length_nil]
  refine loop_st (fun _ : Nat => [(5, .int .i64 0)]) (fun _ => []) (fun _ => True) (fun i => i) 0 (by simp only [u_E0, u_E1, u_M0, u_M1, w_setE0, w_setE1, w_setM0, w_setM1, reduceIte, Nat.reduceEqDiff]; exact ⟨by repeat' (first | exact trivial | refine ⟨.inr rfl, ?_⟩), by repeat' (first | exact trivial | refine ⟨rfl, ?_⟩), by first | rfl | simp [closedB, refsIn, refsInL, refsInO, dom, refsInL_nr, *], by first | rfl | simp [keepB, dom]⟩) trivial ?_
  intro i _ NX hN
  unfold l_laws_markHandPartS_0; simp (maxSteps := 2000000) only [bitvec_to_nat, reduceIte, Nat.reduceEqDiff, Nat.reduceAdd, Nat.reduceLeDiff, reduceCtorEq, Nat.reduceBEq, Nat.reduceLT, Nat.reduceMod, fmc, t_markText, List.map_nil, List.length_nil]
  first
    | exact fun h => absurd h (by omega)
    | exact ⟨fun h => absurd h (by omega), fun _ => by first | trivial | rfl⟩
theorem c_markNSeenS (t : Nat) (k : Int) : Contract P 55 [.sl t 2 [], .int .i64 k] [] (.int .i64 k) [] := by
  refine fn_sound ((Env.nil P).add 52 t_markText h_markText) hm k_laws_markHandSeenS (nlb rfl) rfl ?_; unfold s_laws_markHandSeenS; simp (maxSteps := 2000000) only [bitvec_to_nat, reduceIte, Nat.reduceEqDiff, Nat.reduceAdd, Nat.reduceLeDiff, reduceCtorEq, Nat.reduceBEq, Nat.reduceLT, Nat.reduceMod, fmc, t_markText, List.map_nil, List.length_nil]
  refine loop_st (fun _ : Nat => [(5, .int .i64 0)]) (fun _ => []) (fun _ => True) (fun i => i) 0 (by simp only [u_E0, u_E1, u_M0, u_M1, w_setE0, w_setE1, w_setM0, w_setM1, reduceIte, Nat.reduceEqDiff]; exact ⟨by repeat' (first | exact trivial | refine ⟨.inr rfl, ?_⟩), by repeat' (first | exact trivial | refine ⟨rfl, ?_⟩), by first | rfl | simp [closedB, refsIn, refsInL, refsInO, dom, refsInL_nr, *], by first | rfl | simp [keepB, dom]⟩) trivial ?_
  intro i _ NX hN
  unfold l_laws_markHandSeenS_0; simp (maxSteps := 2000000) only [bitvec_to_nat, reduceIte, Nat.reduceEqDiff, Nat.reduceAdd, Nat.reduceLeDiff, reduceCtorEq, Nat.reduceBEq, Nat.reduceLT, Nat.reduceMod, fmc, t_markText, List.map_nil, List.length_nil]
  first
    | exact fun h => absurd h (by omega)
    | exact ⟨fun h => absurd h (by omega), fun _ => by first | trivial | rfl⟩
theorem c_markBookN (k : Int) : Contract P 17 [.agg [.sl 98 11 [], .sl 98 3 [], .sl 98 2 []], .int .i64 k] [] (.int .i64 k) [] := by
  have h1 := c_markNOwnS 98 k
  have h2 := c_markNPartS 98 k
  have h3 := c_markNSeenS 98 k
  refine fn_sound (Env.nil P) hm k_laws_markHandBook (nlb rfl) rfl ?_; unfold s_laws_markHandBook; simp (maxSteps := 2000000) only [bitvec_to_nat, reduceIte, Nat.reduceEqDiff, Nat.reduceAdd, Nat.reduceLeDiff, reduceCtorEq, Nat.reduceBEq, Nat.reduceLT, Nat.reduceMod, fmc, List.map_nil, List.length_nil]
  refine ⟨_, _, .inr (.inl ⟨rfl, _, rfl, h1, rfl, trivial⟩), ?_⟩
  simp (maxSteps := 2000000) only [bitvec_to_nat, reduceIte, Nat.reduceEqDiff, Nat.reduceAdd, Nat.reduceLeDiff, reduceCtorEq, Nat.reduceBEq, Nat.reduceLT, Nat.reduceMod, fmc, List.map_nil, List.length_nil]
  refine ⟨_, _, .inr (.inl ⟨rfl, _, rfl, h2, rfl, trivial⟩), ?_⟩
  simp (maxSteps := 2000000) only [bitvec_to_nat, reduceIte, Nat.reduceEqDiff, Nat.reduceAdd, Nat.reduceLeDiff, reduceCtorEq, Nat.reduceBEq, Nat.reduceLT, Nat.reduceMod, fmc, List.map_nil, List.length_nil]
  refine ⟨_, _, .inr (.inl ⟨rfl, _, rfl, h3, rfl, trivial⟩), ?_⟩
  simp (maxSteps := 2000000) only [bitvec_to_nat, reduceIte, Nat.reduceEqDiff, Nat.reduceAdd, Nat.reduceLeDiff, reduceCtorEq, Nat.reduceBEq, Nat.reduceLT, Nat.reduceMod, fmc, List.map_nil, List.length_nil]
theorem c_eqBookN : Contract P 15 [.agg [.sl 98 11 [], .sl 98 3 [], .sl 98 2 []], .agg [.sl 0 11 [], .sl 0 3 [], .sl 0 2 []]] [] (.bool true) [] := by
  refine fn_sound ((((Env.nil P).add 49 t_eqOwnS h_eqOwnS).add 50 t_eqPartS h_eqPartS).add 51 t_eqSeenS h_eqSeenS) hm k_laws_eqHandBook (nlb rfl) rfl ?_; unfold s_laws_eqHandBook; simp (maxSteps := 2000000) only [bitvec_to_nat, reduceIte, Nat.reduceEqDiff, Nat.reduceAdd, Nat.reduceLeDiff, reduceCtorEq, Nat.reduceBEq, Nat.reduceLT, Nat.reduceMod, fmc, t_eqOwnS, t_eqPartS, t_eqSeenS, int_toBitVec_meta, method_specs_simp, List.map_nil, List.length_nil]
theorem c_heldBookN (k : Int) (hk : 0 ≤ k ∧ k ≤ 1099511627776) : Contract P 22 [.agg [.sl 98 11 [], .sl 98 3 [], .sl 98 2 []], .int .i64 k] [] (.int .i64 k) [] := by
  have h1 : Contract P 62 [.sl 98 11 [], .int .i64 k] [] (.int .i64 k) [] := by simpa [cf_Own, mo_Own] using c_heldOwnO 98 0 k [] (by simp) (by simp) (by omega)
  have h2 : Contract P 63 [.sl 98 3 [], .int .i64 k] [] (.int .i64 k) [] := by simpa [cf_Part, mo_Part] using c_heldPartO 98 0 k [] (by simp) (by simp) (by omega)
  have h3 : Contract P 64 [.sl 98 2 [], .int .i64 k] [] (.int .i64 k) [] := by simpa [ms_Seen] using c_heldSeenS 98 k 0 (by omega) (by omega)
  refine fn_sound (Env.nil P) hm k_laws_heldHandBook (nlb rfl) rfl ?_; unfold s_laws_heldHandBook; simp (maxSteps := 2000000) only [bitvec_to_nat, reduceIte, Nat.reduceEqDiff, Nat.reduceAdd, Nat.reduceLeDiff, reduceCtorEq, Nat.reduceBEq, Nat.reduceLT, Nat.reduceMod, fmc, List.map_nil, List.length_nil, mo_Own_len, Nat.zero_add, Int.add_zero]
  refine ⟨_, _, .inr (.inl ⟨rfl, _, rfl, h1, rfl, trivial⟩), ?_⟩
  simp (maxSteps := 2000000) only [bitvec_to_nat, reduceIte, Nat.reduceEqDiff, Nat.reduceAdd, Nat.reduceLeDiff, reduceCtorEq, Nat.reduceBEq, Nat.reduceLT, Nat.reduceMod, fmc, List.map_nil, List.length_nil, mo_Own_len, Nat.zero_add, Int.add_zero]
  refine ⟨fun h => by omega, fun _ => ⟨_, _, .inr (.inl ⟨rfl, _, rfl, h2, rfl, trivial⟩), ?_⟩⟩
  simp (maxSteps := 2000000) only [bitvec_to_nat, reduceIte, Nat.reduceEqDiff, Nat.reduceAdd, Nat.reduceLeDiff, reduceCtorEq, Nat.reduceBEq, Nat.reduceLT, Nat.reduceMod, fmc, List.map_nil, List.length_nil, mo_Own_len, Nat.zero_add, Int.add_zero]
  refine ⟨fun h => by omega, fun _ => ⟨_, _, .inr (.inl ⟨rfl, _, rfl, h3, rfl, trivial⟩), ?_⟩⟩
  simp (maxSteps := 2000000) only [bitvec_to_nat, reduceIte, Nat.reduceEqDiff, Nat.reduceAdd, Nat.reduceLeDiff, reduceCtorEq, Nat.reduceBEq, Nat.reduceLT, Nat.reduceMod, fmc, List.map_nil, List.length_nil, mo_Own_len, Nat.zero_add, Int.add_zero]
  try omega
  all_goals trace_state
theorem c_overO0F (zs : List Zone) (me fl dst : ByteArray) (b : Book) (hb : b.small) (hz : zs.length ≤ 1048576) (h0 : ¬ hMay zs me b) : Contract P 21 [.sl 0 5 (zs.map Zone.row), .str me, .agg (b.row 0), .str fl, .str dst] [] (.tup [.agg [.sl 98 11 [], .sl 98 3 [], .sl 98 2 []], .sl 98 8 [], .int .i64 1]) [] := by
  simp only [Book.row]
  refine fn_sound ((Env.nil P).add 45 t_mayHand h_mayHand) hm kF_impl_HandOver (nlb rfl) rfl ?_; unfold sF_impl_HandOver; simp (maxSteps := 2000000) only [bitvec_to_nat, reduceIte, Nat.reduceEqDiff, Nat.reduceAdd, Nat.reduceLeDiff, reduceCtorEq, Nat.reduceBEq, Nat.reduceLT, Nat.reduceMod, fmc, retG_ret, retQ_eq, retQ_eqN, retOk, keepB, re_tupl, orr_t, t_mayHand, int_toBitVec_meta, method_specs_simp, Nat.sub_zero, List.append_nil, h0, decide_true, decide_false]
  exact ⟨hb, by omega⟩
def bKG := And.intro @offs_getA (And.intro @offs_get (And.intro @offs_setA (And.intro @offs_set (And.intro @ap_cons (And.intro @ap_skip (And.intro @ap_skip0 (And.intro @ap_over (And.intro @ap_over0 (And.intro @ap_self (And.intro @ap_self0 (And.intro @ap_new (And.intro @ap_appU (And.intro @KA_offs (And.intro @GA_offs (And.intro @GB_offs (And.intro @WordO_offs (And.intro @WordO_uniq (And.intro @KA_uniq (And.intro @GA_uniq (And.intro @GB_uniq (And.intro @RA_ov (And.intro @RA_ov0 (And.intro @GA_ov (And.intro @GA_ov0 (And.intro @OO_get (And.intro @OO_getA (And.intro @GA_get (And.intro @GA_getA (And.intro @GB_get (And.intro @GB_getA (And.intro @KAGA (And.intro @KAGB (And.intro @KARA (And.intro @KARB (And.intro @GAKA (And.intro @GAGB (And.intro @GARA (And.intro @GARB (And.intro @GBKA (And.intro @GBGA (And.intro @GBRA (And.intro @GBRB (And.intro @RAKA (And.intro @RAGA (And.intro @RAGB (And.intro @RARB (And.intro @RBKA (And.intro @RBGA (And.intro @RBGB (And.intro @RBRA (And.intro @offs_gone (And.intro @offs_rev (And.intro @dis_goneL (And.intro @dis_goneR (And.intro @dis_revR (And.intro @List.reverse_append.{0} (And.intro @KA_kg (And.intro @KA_kg0 (And.intro @KA_k (And.intro @KA_k0 (And.intro @RA_k (And.intro @RA_k0 (And.intro @RB_k (And.intro @RB_k0 (And.intro @GA_k (And.intro @GA_k0 (And.intro @GB_k (And.intro @GB_k0 (And.intro @List.cons_append.{0} (And.intro @List.nil_append.{0} @List.append_assoc.{0}))))))))))))))))))))))))))))))))))))))))))))))))))))))))))))))))))))))
end
end Go.Ve

