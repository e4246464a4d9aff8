/- Part 6 of the proof: laws and contracts of functions, each proved; they are joined in the last part. No conditions beyond those that the theorems state. -/
import Derived.Test.YtppifjfappcbgaaGreatHe5
set_option linter.all false
namespace Go.Ve
noncomputable section
open Go.Proofs
set_option maxRecDepth 100000
open Go.ChangeShapes Go.WideShapes
theorem Qt9 {fn : FuncId} {args : List AV} {va vc : Nat} {B : Book} {y : AV} (hy : noref y = true) (ha : Je args = true) (H : Contract P fn args [] (.tup [bkV B 131 va 149 vc 154 0, y]) (bkM B 131 va 149 vc 154 0 110 121)) : Contract P fn args [] (.tup [bkV B 631 va 632 vc 633 0, y]) (GA va vc B).reverse := by
  have h := ((((H.ren (swp 131 631) (Ja _ _)).ren (swp 149 632) (Ja _ _)).ren (swp 154 633) (Ja _ _)).ren (J5 110 300 11) (KB (by omega) (by omega) (by omega))).ren (J5 121 320 3) (KB (by omega) (by omega) (by omega))
  have hs : ∀ q q' : Nat, q < 1000 → q' < 1000 → ∀ b : Book, ∀ a va c vc d vd, Ks (swp q q') (bkM b a va c vc d vd 110 121) = bkM b (swp q q' a) va (swp q q' c) vc (swp q q' d) vd 110 121 := fun q q' h1 h2 b a va c vc d vd => K0 (fun j i hj => KU h1 h2) (fun j i hj => KU h1 h2)
  have hO : ∀ b : Book, ∀ a va c vc d vd, Ks (J5 110 300 11) (bkM b a va c vc d vd 110 121) = bkM b (J5 110 300 11 a) va (J5 110 300 11 c) vc (J5 110 300 11 d) vd 300 121 := fun b a va c vc d vd => K0 (fun j i hj => YA (by omega) hj) (fun j i hj => Gd (by omega) (by omega) (by omega))
  have hP : ∀ b : Book, ∀ a va c vc d vd, Ks (J5 121 320 3) (bkM b a va c vc d vd 300 121) = bkM b (J5 121 320 3 a) va (J5 121 320 3 c) vc (J5 121 320 3 d) vd 300 320 := fun b a va c vc d vd => K0 (fun j i hj => Gd (by omega) (by omega) (by omega)) (fun j i hj => YA (by omega) hj)
  have r2 : ∀ (s : Nat → Nat), ren s y = y := fun s => Qli s y hy
  have r3 : ∀ (s : Nat → Nat), K8 s args = args := fun s => XF s args ha
  simp only [r3, ren, K8, r2, Ks, QaZ, Qix, hs _ _ (show (131 : Nat) < 1000 by omega) (show (631 : Nat) < 1000 by omega), hs _ _ (show (149 : Nat) < 1000 by omega) (show (632 : Nat) < 1000 by omega), hs _ _ (show (154 : Nat) < 1000 by omega) (show (633 : Nat) < 1000 by omega), hO, hP, K8, ren, renO, swp, J5, reduceIte, Nat.reduceEqDiff, Nat.reduceLeDiff] at h
  exact h.post_eq (funext fun q => Wl (UM va vc B) q)
theorem Qua {fn : FuncId} {args : List AV} {va vc : Nat} {B : Book} {y : AV} (hy : noref y = true) (ha : Je args = true) (H : Contract P fn args [] (.tup [bkV B 131 va 149 vc 154 0, y]) (bkM B 131 va 149 vc 154 0 110 121)) : Contract P fn args [] (.tup [bkV B 641 va 642 vc 643 0, y]) (GB va vc B).reverse := by
  have h := ((((H.ren (swp 131 641) (Ja _ _)).ren (swp 149 642) (Ja _ _)).ren (swp 154 643) (Ja _ _)).ren (J5 110 340 11) (KB (by omega) (by omega) (by omega))).ren (J5 121 360 3) (KB (by omega) (by omega) (by omega))
  have hs : ∀ q q' : Nat, q < 1000 → q' < 1000 → ∀ b : Book, ∀ a va c vc d vd, Ks (swp q q') (bkM b a va c vc d vd 110 121) = bkM b (swp q q' a) va (swp q q' c) vc (swp q q' d) vd 110 121 := fun q q' h1 h2 b a va c vc d vd => K0 (fun j i hj => KU h1 h2) (fun j i hj => KU h1 h2)
  have hO : ∀ b : Book, ∀ a va c vc d vd, Ks (J5 110 340 11) (bkM b a va c vc d vd 110 121) = bkM b (J5 110 340 11 a) va (J5 110 340 11 c) vc (J5 110 340 11 d) vd 340 121 := fun b a va c vc d vd => K0 (fun j i hj => YA (by omega) hj) (fun j i hj => Gd (by omega) (by omega) (by omega))
  have hP : ∀ b : Book, ∀ a va c vc d vd, Ks (J5 121 360 3) (bkM b a va c vc d vd 340 121) = bkM b (J5 121 360 3 a) va (J5 121 360 3 c) vc (J5 121 360 3 d) vd 340 360 := fun b a va c vc d vd => K0 (fun j i hj => Gd (by omega) (by omega) (by omega)) (fun j i hj => YA (by omega) hj)
  have r2 : ∀ (s : Nat → Nat), ren s y = y := fun s => Qli s y hy
  have r3 : ∀ (s : Nat → Nat), K8 s args = args := fun s => XF s args ha
  simp only [r3, ren, K8, r2, Ks, QaZ, Qix, hs _ _ (show (131 : Nat) < 1000 by omega) (show (641 : Nat) < 1000 by omega), hs _ _ (show (149 : Nat) < 1000 by omega) (show (642 : Nat) < 1000 by omega), hs _ _ (show (154 : Nat) < 1000 by omega) (show (643 : Nat) < 1000 by omega), hO, hP, K8, ren, renO, swp, J5, reduceIte, Nat.reduceEqDiff, Nat.reduceLeDiff] at h
  exact h.post_eq (funext fun q => Wl (QiG va vc B) q)
theorem QlP {B : Book} {a va c vc d vd kO kP : Nat} {y : AV} (hy : noref y = true) : Qd (dom (bkM B a va c vc d vd kO kP).reverse) (.tup [bkV B a va c vc d vd, y]) = true := by
  simp only [Qd, Qb, Qda (b := B) (kO := kO) (kP := kP), Qad _ _ hy, Bool.and_self]
set_option maxHeartbeats 8000000 in
theorem QaW (t : Nat) (zs : List Zone) (fl : ByteArray) (b : Book) (hz : zs.length ≤ 9223372036854775807 ∧ ∀ y ∈ zs, y.fitp) (hfb : b.fitp) (B : Book) (cd : Int) (va vc : Nat) (hB : b.small → B.small) (eB : Qne zs b fl = B) (eC : Qnf zs b fl = cd) (hI : b.small → zs.length ≤ 1048576 → Contract P 30 [.sl 0 5 (zs.map Zone.row), .agg (b.row 0), .str fl] [] (.tup [bkV B 131 va 149 vc 154 0, .int .i64 cd]) (bkM B 131 va 149 vc 154 0 110 121)) : Contract P 6 [.sl t 5 (zs.map Zone.row), .agg (b.row 1), .str fl] [] (.bool true) [] := by
  have z1 : 0 ≤ szS Zone.sz zs 1048576 → zs.length ≤ 1048576 := fun h => (QhU (p := fun _ => True) ZW (fun _ _ _ _ => trivial) (by omega) h).1
  have z2 : szS Zone.sz zs 1048576 ≤ 1048576 := by have := (K6 ZW zs 1048576 (by omega)).2.2; omega
  have z3 : 0 ≤ Book.sz b (szS Zone.sz zs 1048576) → b.small := fun h => Book.sz_ok z2 h
  have z4 : Book.sz b (szS Zone.sz zs 1048576) ≤ max (szS Zone.sz zs 1048576) (-1) := (QjD b _ z2).2.2
  have tkZ : List.take zs.length (zs.map Zone.row) = zs.map Zone.row := List.take_of_length_le (by simp)
  have tkM : ∀ (k : Int), List.take zs.length ((Z4 k zs.length).map Zone.row) = (Z4 k zs.length).map Zone.row := fun k => List.take_of_length_le (by rw [List.length_map, Qs]; omega)
  have h0 : True := trivial
  simp only [Book.row]
  refine Qg (((((Env.nil P).add 7 QK QjE).add 8 QV Qlz).add 29 QM QjT).add 14 QL QjG) hm Ge (nlb rfl) rfl ?_; unfold KI; simp (maxSteps := 2000000) (maxDischargeDepth := 8) only [bitvec_to_nat, reduceIte, Nat.reduceEqDiff, Nat.reduceAdd, Nat.reduceLeDiff, reduceCtorEq, Nat.reduceBEq, Nat.reduceLT, Nat.reduceMod, fmc, QK, QV, QM, QL, int_toBitVec_meta, method_specs_simp, bkV, List.length_map, Int.toNat_natCast, Nat.sub_zero, and_self, eq_self, not_true_eq_false, ne_eq, bne_self_eq_false, h0, tkZ, List.nil_append, if_true, if_false, List.map_nil, tkM, Qs, eB, eC, bKG]
  refine fun _ => ⟨⟨by omega, hz⟩, fun g1 => ⟨⟨by omega, hfb⟩, fun g2 => ?_⟩⟩
  have hsZ := z1 (by omega)
  have hsA : b.small := z3 (by omega)
  have smA := hsA.sm
  have hTZ := QjF t zs hsZ
  have n9Z : No99 (.sl 0 5 (zs.map Zone.row)) := by simp only [No99]; exact ⟨by omega, KE zs⟩
  have hTA := QlE b hsA
  have n9A : No99 (.agg (b.row 0)) := by simp [Book.row, No99, JI, Kv, JT, JJ]
  have q1 := QeO smA
  have q2 := QeP smA
  have hcB : 0 ≤ cfB b ∧ cfB b ≤ 30000000000000 := by have := smA.2.2; unfold cfB; omega
  have eqQ : ∀ B : Book, B.small → Contract P 15 [.agg (B.row 0), .agg (B.row 0)] [] (.bool true) [] := fun B hs => by
    unfold Book.small at hs
    have h := QlF B B ⟨by omega, by omega, by omega, hs.1.2, fun p hp => by have := hs.2.1.2 p hp; show p.bx.length ≤ _; omega⟩
    simpa using h
  have eqA := eqQ b hsA
  have hsB := hB hsA
  have eqG := eqQ B hsB
  have smB := hsB.sm
  have p1 := QeO smB
  have p2 := QeP smB
  have hcG : 0 ≤ cfB B ∧ cfB B ≤ 30000000000000 := by have := smB.2.2; unfold cfB; omega
  have hMZ := Qg0 1 zs (by omega) (by omega)
  have hMB := Qh0 b (1 + 5 * (zs.length : Int)) smA (by omega)
  have hTO := QjM t zs hsZ
  have hKB := QlJ b hsA
  have hZtag : Zm (zs.map Zone.row) = zs.map Zone.row := Wm (f := Zone.row) (fun _ => rfl) zs
  have hZ98 : Qag (zs.map Zone.row) = true := Gc (f := Zone.row) (fun _ => rfl) zs
  have hZpur : ∀ (M : Nat → Option AObj) (K : Nat → Option AObj), M 501 = some (.arr 76 0 5 (zs.map Zone.row)) → UO M K (.own 501 0 0 zs.length) = some (.sl 99 5 (zs.map Zone.row)) := fun M K hM => Qgi hM (fun r hr => by obtain ⟨z, _, rfl⟩ := List.mem_map.1 hr; rfl) (by simp)
  have KA_501 : Qbj (KA b) 501 := YZ (by omega) (by omega) (by omega) (by omega)
  have hMG := Qnc va vc B 1 smB (by omega)
  have hHB := QkN B 1 smB (by omega)
  have hI1 := Qt9 rfl rfl (hI hsA hsZ)
  have hI2 := Qua rfl rfl (hI hsA hsZ)
  have fK : ∀ (x y z : AObj) (C : List (Nat × AObj)), ∀ p ∈ KA b, getM ((104, x) :: (108, y) :: (501, z) :: (KA b ++ C)) p.1 = some p.2 := fun x y z C => QD (YZ (by omega) (by omega) (by omega) (by omega)) (QD (YZ (by omega) (by omega) (by omega) (by omega)) (QD (YZ (by omega) (by omega) (by omega) (by omega)) (Kf (QaS b))))
  have fG : ∀ (x y z u : AObj) (B' : Book) (C : List (Nat × AObj)), ∀ p ∈ GA va vc B', getM ((104, x) :: (108, y) :: (501, z) :: (KA b ++ (111, u) :: (GA va vc B' ++ C))) p.1 = some p.2 := fun x y z u B' C => QD (Xn (by omega) (by omega) (by omega) (by omega)) (QD (Xn (by omega) (by omega) (by omega) (by omega)) (QD (Xn (by omega) (by omega) (by omega) (by omega)) (Qcj Qtt (QD (Xn (by omega) (by omega) (by omega) (by omega)) (Kf (UM va vc B'))))))
  have fG' : ∀ (x y z u : AObj) (B' : Book) (C : List (Nat × AObj)), ∀ p ∈ GA va vc B', getM ((104, x) :: (108, y) :: (501, z) :: (gone (KA b) ++ (111, u) :: (GA va vc B' ++ C))) p.1 = some p.2 := fun x y z u B' C => QD (Xn (by omega) (by omega) (by omega) (by omega)) (QD (Xn (by omega) (by omega) (by omega) (by omega)) (QD (Xn (by omega) (by omega) (by omega) (by omega)) (Qcj (Qah Qtt) (QD (Xn (by omega) (by omega) (by omega) (by omega)) (Kf (UM va vc B'))))))
  have fH : ∀ (x y z u w : AObj) (B' : Book) (C : List (Nat × AObj)), ∀ p ∈ GB va vc B, getM ((104, x) :: (108, y) :: (501, z) :: (gone (KA b) ++ (111, u) :: (GA va vc B' ++ ((112, w) :: (GB va vc B ++ C))))) p.1 = some p.2 := fun x y z u w B' C => QD (XM (by omega) (by omega) (by omega) (by omega)) (QD (XM (by omega) (by omega) (by omega) (by omega)) (QD (XM (by omega) (by omega) (by omega) (by omega)) (Qcj (Qah QtG) (QD (XM (by omega) (by omega) (by omega) (by omega)) (Qcj QtH (QD (XM (by omega) (by omega) (by omega) (by omega)) (Kf (QiG va vc B))))))))
  simp only [Book.row] at hTA n9A hKB
  refine ⟨_, _, .inr (.inl ⟨rfl, _, rfl, hTZ, rfl, n9Z⟩), ?_⟩
  simp (maxSteps := 2000000) (maxDischargeDepth := 8) only [bitvec_to_nat, reduceIte, Nat.reduceEqDiff, Nat.reduceAdd, Nat.reduceLeDiff, reduceCtorEq, Nat.reduceBEq, Nat.reduceLT, Nat.reduceMod, fmc, QK, QV, QM, QL, int_toBitVec_meta, method_specs_simp, bkV, List.length_map, Int.toNat_natCast, Nat.sub_zero, and_self, eq_self, not_true_eq_false, ne_eq, bne_self_eq_false, h0, tkZ, List.nil_append, if_true, if_false, List.map_nil, tkM, Qs, eB, eC, bKG]
  refine ⟨_, _, .inr (.inl ⟨rfl, _, rfl, hTA, rfl, n9A⟩), ?_⟩
  simp (maxSteps := 2000000) (maxDischargeDepth := 8) only [bitvec_to_nat, reduceIte, Nat.reduceEqDiff, Nat.reduceAdd, Nat.reduceLeDiff, reduceCtorEq, Nat.reduceBEq, Nat.reduceLT, Nat.reduceMod, fmc, QK, QV, QM, QL, int_toBitVec_meta, method_specs_simp, bkV, List.length_map, Int.toNat_natCast, Nat.sub_zero, and_self, eq_self, not_true_eq_false, ne_eq, bne_self_eq_false, h0, tkZ, List.nil_append, if_true, if_false, List.map_nil, tkM, Qs, eB, eC, bKG]
  refine ⟨⟨hsA, hsZ⟩, _, _, .inr (.inr (.inl ⟨_, rfl, hTO, Qkn rfl, by simp [Qd, Qb, dom], rfl, by simp [No99], by simp [Z8, KE]⟩)), ?_⟩
  simp (maxSteps := 2000000) (maxDischargeDepth := 8) only [bitvec_to_nat, reduceIte, Nat.reduceEqDiff, Nat.reduceAdd, Nat.reduceLeDiff, reduceCtorEq, Nat.reduceBEq, Nat.reduceLT, Nat.reduceMod, fmc, QK, QV, QM, QL, int_toBitVec_meta, method_specs_simp, bkV, List.length_map, Int.toNat_natCast, Nat.sub_zero, and_self, eq_self, not_true_eq_false, ne_eq, bne_self_eq_false, h0, tkZ, List.nil_append, if_true, if_false, List.map_nil, tkM, Qs, eB, eC, bKG]
  refine ⟨_, _, .inr (.inr (.inl ⟨_, rfl, hKB, (Xt (Jl (YZ (by omega) (by omega) (by omega) (by omega)) (Jl (YZ (by omega) (by omega) (by omega) (by omega)) (Jl (YZ (by omega) (by omega) (by omega) (by omega)) Xs)))), Qda, Qbf, by simp [bkV, No99, JI], Qrr⟩)), ?_⟩
  simp (maxSteps := 2000000) (maxDischargeDepth := 8) only [bitvec_to_nat, reduceIte, Nat.reduceEqDiff, Nat.reduceAdd, Nat.reduceLeDiff, reduceCtorEq, Nat.reduceBEq, Nat.reduceLT, Nat.reduceMod, fmc, QK, QV, QM, QL, int_toBitVec_meta, method_specs_simp, bkV, List.length_map, Int.toNat_natCast, Nat.sub_zero, and_self, eq_self, not_true_eq_false, ne_eq, bne_self_eq_false, h0, tkZ, List.nil_append, if_true, if_false, List.map_nil, tkM, Qs, eB, eC, bKG]
  refine ⟨_, _, Ky (r := .tup [bkV B 631 va 632 vc 633 0, .int .i64 cd]) (news := (GA va vc B).reverse) (keep := (501, .arr 76 0 5 (zs.map Zone.row)) :: KA b) (args' := [.sl 99 5 (zs.map Zone.row), .agg (b.row 99), .str fl]) (by simp only [Yz, Qrm, QiB, QaQ, hZtag]; exact hI1) (Qh1 rfl (fK _ _ _ _)) (JZ (hZpur _ _ rfl) (JZ (Wx (fK _ _ _ _) (QD KA_501 (QF (QaS b)))) rfl)) (by simp only [Xv, YI 99 (by omega), QiA, Qrs, hZ98]; rfl) rfl QqM (Xt (Jl (Xn (by omega) (by omega) (by omega) (by omega)) (Jl (Xn (by omega) (by omega) (by omega) (by omega)) (Jl (Xn (by omega) (by omega) (by omega) (by omega)) (QfC Qtt (Jl (Xn (by omega) (by omega) (by omega) (by omega)) Xs)))))) (QlP rfl) Qbf (by simp [bkV, No99, JI, Jh]) Qtw, ?_⟩
  simp (maxSteps := 2000000) (maxDischargeDepth := 8) only [bitvec_to_nat, reduceIte, Nat.reduceEqDiff, Nat.reduceAdd, Nat.reduceLeDiff, reduceCtorEq, Nat.reduceBEq, Nat.reduceLT, Nat.reduceMod, fmc, QK, QV, QM, QL, int_toBitVec_meta, method_specs_simp, bkV, List.length_map, Int.toNat_natCast, Nat.sub_zero, and_self, eq_self, not_true_eq_false, ne_eq, bne_self_eq_false, h0, tkZ, List.nil_append, if_true, if_false, List.map_nil, tkM, Qs, eB, eC, bKG]
  refine ⟨_, _, Ky (r := .bool true) (news := []) (keep := GA va vc B) (args' := [.agg (B.row 99), .agg (B.row 0)]) (by simp only [Yz, QaQ]; exact eqG) (fG _ _ _ _ _ _) (JZ (Wx (fG _ _ _ _ _ _) (QF (UM _ _ _))) rfl) (by simp only [Xv, YI 99 (by omega), YI 0 (by omega), Bool.and_self]) rfl rfl (by simp) rfl rfl trivial (by simp), ?_⟩
  simp (maxSteps := 2000000) (maxDischargeDepth := 8) only [bitvec_to_nat, reduceIte, Nat.reduceEqDiff, Nat.reduceAdd, Nat.reduceLeDiff, reduceCtorEq, Nat.reduceBEq, Nat.reduceLT, Nat.reduceMod, fmc, QK, QV, QM, QL, int_toBitVec_meta, method_specs_simp, bkV, List.length_map, Int.toNat_natCast, Nat.sub_zero, and_self, eq_self, not_true_eq_false, ne_eq, bne_self_eq_false, h0, tkZ, List.nil_append, if_true, if_false, List.map_nil, tkM, Qs, eB, eC, bKG]
  refine ⟨_, _, .inr (.inl ⟨rfl, _, rfl, hTZ, rfl, n9Z⟩), ?_⟩
  simp (maxSteps := 2000000) (maxDischargeDepth := 8) only [bitvec_to_nat, reduceIte, Nat.reduceEqDiff, Nat.reduceAdd, Nat.reduceLeDiff, reduceCtorEq, Nat.reduceBEq, Nat.reduceLT, Nat.reduceMod, fmc, QK, QV, QM, QL, int_toBitVec_meta, method_specs_simp, bkV, List.length_map, Int.toNat_natCast, Nat.sub_zero, and_self, eq_self, not_true_eq_false, ne_eq, bne_self_eq_false, h0, tkZ, List.nil_append, if_true, if_false, List.map_nil, tkM, Qs, eB, eC, bKG]
  refine ⟨by omega, _, _, .inr (.inl ⟨rfl, _, rfl, hTA, rfl, n9A⟩), ?_⟩
  simp (maxSteps := 2000000) (maxDischargeDepth := 8) only [bitvec_to_nat, reduceIte, Nat.reduceEqDiff, Nat.reduceAdd, Nat.reduceLeDiff, reduceCtorEq, Nat.reduceBEq, Nat.reduceLT, Nat.reduceMod, fmc, QK, QV, QM, QL, int_toBitVec_meta, method_specs_simp, bkV, List.length_map, Int.toNat_natCast, Nat.sub_zero, and_self, eq_self, not_true_eq_false, ne_eq, bne_self_eq_false, h0, tkZ, List.nil_append, if_true, if_false, List.map_nil, tkM, Qs, eB, eC, bKG]
  refine ⟨_, _, Ky (r := .bool true) (news := []) (keep := KA b) (args' := [.agg (b.row 99), .agg (b.row 0)]) (by simp only [Yz, QaQ]; exact eqA) (fK _ _ _ _) (JZ (Wx (fK _ _ _ _) (QF (QaS b))) rfl) (by simp only [Xv, YI 99 (by omega), YI 0 (by omega), Bool.and_self]) rfl rfl (by simp) rfl rfl trivial (by simp), ?_⟩
  simp (maxSteps := 2000000) (maxDischargeDepth := 8) only [bitvec_to_nat, reduceIte, Nat.reduceEqDiff, Nat.reduceAdd, Nat.reduceLeDiff, reduceCtorEq, Nat.reduceBEq, Nat.reduceLT, Nat.reduceMod, fmc, QK, QV, QM, QL, int_toBitVec_meta, method_specs_simp, bkV, List.length_map, Int.toNat_natCast, Nat.sub_zero, and_self, eq_self, not_true_eq_false, ne_eq, bne_self_eq_false, h0, tkZ, List.nil_append, if_true, if_false, List.map_nil, tkM, Qs, eB, eC, bKG]
  refine ⟨_, _, J9 hMZ rfl (Qiw rfl) (by simp [Qb, Qd, dom]) rfl rfl rfl, ?_⟩
  simp (maxSteps := 2000000) (maxDischargeDepth := 8) only [bitvec_to_nat, reduceIte, Nat.reduceEqDiff, Nat.reduceAdd, Nat.reduceLeDiff, reduceCtorEq, Nat.reduceBEq, Nat.reduceLT, Nat.reduceMod, fmc, QK, QV, QM, QL, int_toBitVec_meta, method_specs_simp, bkV, List.length_map, Int.toNat_natCast, Nat.sub_zero, and_self, eq_self, not_true_eq_false, ne_eq, bne_self_eq_false, h0, tkZ, List.nil_append, if_true, if_false, List.map_nil, tkM, Qs, eB, eC, bKG]
  refine ⟨_, _, QhK hMB (fK _ _ _ _) (by have := QeL (b := b) (a := 611) (va := 0) (c := 612) (vc := 0) (d := 613) (vd := 0) (kO := 120) (kP := 140); simpa only [bkV, Qb, Qd, Bool.and_true] using this) QaP rfl, ?_⟩
  simp (maxSteps := 2000000) (maxDischargeDepth := 8) only [bitvec_to_nat, reduceIte, Nat.reduceEqDiff, Nat.reduceAdd, Nat.reduceLeDiff, reduceCtorEq, Nat.reduceBEq, Nat.reduceLT, Nat.reduceMod, fmc, QK, QV, QM, QL, int_toBitVec_meta, method_specs_simp, bkV, List.length_map, Int.toNat_natCast, Nat.sub_zero, and_self, eq_self, not_true_eq_false, ne_eq, bne_self_eq_false, h0, tkZ, List.nil_append, if_true, if_false, List.map_nil, tkM, Qs, eB, eC, bKG]
  refine ⟨fun h => by omega, fun _ => ⟨_, _, Ky (r := .bool true) (news := []) (keep := GA va vc B) (args' := [.agg (B.row 99), .agg (B.row 0)]) (by simp only [Yz, QaQ]; exact eqG) (fG' _ _ _ _ _ _) (JZ (Wx (fG' _ _ _ _ _ _) (QF (UM _ _ _))) rfl) (by simp only [Xv, YI 99 (by omega), YI 0 (by omega), Bool.and_self]) rfl rfl (by simp) rfl rfl trivial (by simp), ?_⟩⟩
  simp (maxSteps := 2000000) (maxDischargeDepth := 8) only [bitvec_to_nat, reduceIte, Nat.reduceEqDiff, Nat.reduceAdd, Nat.reduceLeDiff, reduceCtorEq, Nat.reduceBEq, Nat.reduceLT, Nat.reduceMod, fmc, QK, QV, QM, QL, int_toBitVec_meta, method_specs_simp, bkV, List.length_map, Int.toNat_natCast, Nat.sub_zero, and_self, eq_self, not_true_eq_false, ne_eq, bne_self_eq_false, h0, tkZ, List.nil_append, if_true, if_false, List.map_nil, tkM, Qs, eB, eC, bKG]
  refine ⟨_, _, J9 hMG (Qiz QjL Qdb) (fG' _ _ _ _ _ _) (by have := QeL (b := B) (a := 631) (va := va) (c := 632) (vc := vc) (d := 633) (vd := 0) (kO := 300) (kP := 320); simpa only [bkV, Qb, Qd, Bool.and_true] using this) QaP rfl QaP, ?_⟩
  simp (maxSteps := 2000000) (maxDischargeDepth := 8) only [bitvec_to_nat, reduceIte, Nat.reduceEqDiff, Nat.reduceAdd, Nat.reduceLeDiff, reduceCtorEq, Nat.reduceBEq, Nat.reduceLT, Nat.reduceMod, fmc, QK, QV, QM, QL, int_toBitVec_meta, method_specs_simp, bkV, List.length_map, Int.toNat_natCast, Nat.sub_zero, and_self, eq_self, not_true_eq_false, ne_eq, bne_self_eq_false, h0, tkZ, List.nil_append, if_true, if_false, List.map_nil, tkM, Qs, eB, eC, bKG]
  refine ⟨_, _, Ky (r := .int .i64 (1 + cfB B)) (news := []) (keep := GA va vc (mb 1 B)) (args' := [.agg ((mb 1 B).row 99), .int .i64 1]) (by simp only [Yz, QaQ, QoT]; exact hHB) (fG' _ _ _ _ _ _) (JZ (Qo5 (fG' _ _ _ _ _ _) (QF (UM _ _ _))) rfl) (by simp only [Xv, YI 99 (by omega)]; rfl) rfl rfl (by simp) rfl rfl trivial (by simp), ?_⟩
  simp (maxSteps := 2000000) (maxDischargeDepth := 8) only [bitvec_to_nat, reduceIte, Nat.reduceEqDiff, Nat.reduceAdd, Nat.reduceLeDiff, reduceCtorEq, Nat.reduceBEq, Nat.reduceLT, Nat.reduceMod, fmc, QK, QV, QM, QL, int_toBitVec_meta, method_specs_simp, bkV, List.length_map, Int.toNat_natCast, Nat.sub_zero, and_self, eq_self, not_true_eq_false, ne_eq, bne_self_eq_false, h0, tkZ, List.nil_append, if_true, if_false, List.map_nil, tkM, Qs, eB, eC, bKG]
  refine ⟨fun h => by omega, fun _ => ⟨_, _, .inr (.inl ⟨rfl, _, rfl, hTZ, rfl, n9Z⟩), ?_⟩⟩
  simp (maxSteps := 2000000) (maxDischargeDepth := 8) only [bitvec_to_nat, reduceIte, Nat.reduceEqDiff, Nat.reduceAdd, Nat.reduceLeDiff, reduceCtorEq, Nat.reduceBEq, Nat.reduceLT, Nat.reduceMod, fmc, QK, QV, QM, QL, int_toBitVec_meta, method_specs_simp, bkV, List.length_map, Int.toNat_natCast, Nat.sub_zero, and_self, eq_self, not_true_eq_false, ne_eq, bne_self_eq_false, h0, tkZ, List.nil_append, if_true, if_false, List.map_nil, tkM, Qs, eB, eC, bKG]
  refine ⟨_, _, .inr (.inl ⟨rfl, _, rfl, hTA, rfl, n9A⟩), ?_⟩
  simp (maxSteps := 2000000) (maxDischargeDepth := 8) only [bitvec_to_nat, reduceIte, Nat.reduceEqDiff, Nat.reduceAdd, Nat.reduceLeDiff, reduceCtorEq, Nat.reduceBEq, Nat.reduceLT, Nat.reduceMod, fmc, QK, QV, QM, QL, int_toBitVec_meta, method_specs_simp, bkV, List.length_map, Int.toNat_natCast, Nat.sub_zero, and_self, eq_self, not_true_eq_false, ne_eq, bne_self_eq_false, h0, tkZ, List.nil_append, if_true, if_false, List.map_nil, tkM, Qs, eB, eC, bKG]
  refine ⟨_, _, .inr (.inr (.inl ⟨_, rfl, hI2, (Xt (Jl (XM (by omega) (by omega) (by omega) (by omega)) (Jl (XM (by omega) (by omega) (by omega) (by omega)) (Jl (XM (by omega) (by omega) (by omega) (by omega)) (QfC (Qah QtG) (Jl (XM (by omega) (by omega) (by omega) (by omega)) (QfC QtH (Jl (XM (by omega) (by omega) (by omega) (by omega)) Xs)))))))), (QlP rfl), Qbf, by simp [bkV, No99, JI, Jh], Qtw⟩)), ?_⟩
  simp (maxSteps := 2000000) (maxDischargeDepth := 8) only [bitvec_to_nat, reduceIte, Nat.reduceEqDiff, Nat.reduceAdd, Nat.reduceLeDiff, reduceCtorEq, Nat.reduceBEq, Nat.reduceLT, Nat.reduceMod, fmc, QK, QV, QM, QL, int_toBitVec_meta, method_specs_simp, bkV, List.length_map, Int.toNat_natCast, Nat.sub_zero, and_self, eq_self, not_true_eq_false, ne_eq, bne_self_eq_false, h0, tkZ, List.nil_append, if_true, if_false, List.map_nil, tkM, Qs, eB, eC, bKG]
  refine ⟨Qtv (XM (by omega) (by omega) (by omega) (by omega)), _, _, Ky (r := .bool true) (news := []) (keep := GB va vc B) (args' := [.agg (B.row 99), .agg (B.row 0)]) (by simp only [Yz, QaQ]; exact eqG) (fH _ _ _ _ _ _ _) (JZ (Wx (fH _ _ _ _ _ _ _) (QF (QiG _ _ _))) rfl) (by simp only [Xv, YI 99 (by omega), YI 0 (by omega), Bool.and_self]) rfl rfl (by simp) rfl rfl trivial (by simp), ?_⟩
  simp (maxSteps := 2000000) (maxDischargeDepth := 8) only [bitvec_to_nat, reduceIte, Nat.reduceEqDiff, Nat.reduceAdd, Nat.reduceLeDiff, reduceCtorEq, Nat.reduceBEq, Nat.reduceLT, Nat.reduceMod, fmc, QK, QV, QM, QL, int_toBitVec_meta, method_specs_simp, bkV, List.length_map, Int.toNat_natCast, Nat.sub_zero, and_self, eq_self, not_true_eq_false, ne_eq, bne_self_eq_false, h0, tkZ, List.nil_append, if_true, if_false, List.map_nil, tkM, Qs, eB, eC, bKG]
  refine ⟨_, _, Ky (r := .int .i64 (1 + cfB B)) (news := []) (keep := GA va vc (mb 1 B)) (args' := [.agg ((mb 1 B).row 99), .int .i64 1]) (by simp only [Yz, QaQ, QoT]; exact hHB) (fG' _ _ _ _ _ _) (JZ (Qo5 (fG' _ _ _ _ _ _) (QF (UM _ _ _))) rfl) (by simp only [Xv, YI 99 (by omega)]; rfl) rfl rfl (by simp) rfl rfl trivial (by simp), ?_⟩
  simp (maxSteps := 2000000) (maxDischargeDepth := 8) only [bitvec_to_nat, reduceIte, Nat.reduceEqDiff, Nat.reduceAdd, Nat.reduceLeDiff, reduceCtorEq, Nat.reduceBEq, Nat.reduceLT, Nat.reduceMod, fmc, QK, QV, QM, QL, int_toBitVec_meta, method_specs_simp, bkV, List.length_map, Int.toNat_natCast, Nat.sub_zero, and_self, eq_self, not_true_eq_false, ne_eq, bne_self_eq_false, h0, tkZ, List.nil_append, if_true, if_false, List.map_nil, tkM, Qs, eB, eC, bKG]
  exact fun h => by omega

end
end Go.Ve

namespace Go.Ve
noncomputable section
open Go.Proofs
set_option maxRecDepth 100000
open Go.ChangeShapes Go.WideShapes
set_option maxHeartbeats 8000000 in
theorem Qg8 (t : Nat) (zs : List Zone) (fl : ByteArray) (b : Book) (hz : zs.length ≤ 9223372036854775807 ∧ ∀ y ∈ zs, y.fitp) (hfb : b.fitp) (B : Book) (cd : Int) (hBn : B = ⟨[], [], []⟩) (hB : b.small → B.small) (eB : Qne zs b fl = B) (eC : Qnf zs b fl = cd) (hI : b.small → zs.length ≤ 1048576 → Contract P 30 [.sl 0 5 (zs.map Zone.row), .agg (b.row 0), .str fl] [] (.tup [.agg [.sl 98 11 [], .sl 98 3 [], .sl 98 2 []], .int .i64 cd]) ([])) : Contract P 6 [.sl t 5 (zs.map Zone.row), .agg (b.row 1), .str fl] [] (.bool true) [] := by
  have z1 : 0 ≤ szS Zone.sz zs 1048576 → zs.length ≤ 1048576 := fun h => (QhU (p := fun _ => True) ZW (fun _ _ _ _ => trivial) (by omega) h).1
  have z2 : szS Zone.sz zs 1048576 ≤ 1048576 := by have := (K6 ZW zs 1048576 (by omega)).2.2; omega
  have z3 : 0 ≤ Book.sz b (szS Zone.sz zs 1048576) → b.small := fun h => Book.sz_ok z2 h
  have z4 : Book.sz b (szS Zone.sz zs 1048576) ≤ max (szS Zone.sz zs 1048576) (-1) := (QjD b _ z2).2.2
  have tkZ : List.take zs.length (zs.map Zone.row) = zs.map Zone.row := List.take_of_length_le (by simp)
  have tkM : ∀ (k : Int), List.take zs.length ((Z4 k zs.length).map Zone.row) = (Z4 k zs.length).map Zone.row := fun k => List.take_of_length_le (by rw [List.length_map, Qs]; omega)
  have h0 : True := trivial
  simp only [Book.row]
  refine Qg (((((Env.nil P).add 7 QK QjE).add 8 QV Qlz).add 29 QM QjT).add 14 QL QjG) hm Ge (nlb rfl) rfl ?_; unfold KI; simp (maxSteps := 2000000) (maxDischargeDepth := 8) only [bitvec_to_nat, reduceIte, Nat.reduceEqDiff, Nat.reduceAdd, Nat.reduceLeDiff, reduceCtorEq, Nat.reduceBEq, Nat.reduceLT, Nat.reduceMod, fmc, QK, QV, QM, QL, int_toBitVec_meta, method_specs_simp, bkV, List.length_map, Int.toNat_natCast, Nat.sub_zero, and_self, eq_self, not_true_eq_false, ne_eq, bne_self_eq_false, h0, tkZ, List.nil_append, if_true, if_false, List.map_nil, tkM, Qs, eB, eC, bKG]
  refine fun _ => ⟨⟨by omega, hz⟩, fun g1 => ⟨⟨by omega, hfb⟩, fun g2 => ?_⟩⟩
  have hsZ := z1 (by omega)
  have hsA : b.small := z3 (by omega)
  have smA := hsA.sm
  have hTZ := QjF t zs hsZ
  have n9Z : No99 (.sl 0 5 (zs.map Zone.row)) := by simp only [No99]; exact ⟨by omega, KE zs⟩
  have hTA := QlE b hsA
  have n9A : No99 (.agg (b.row 0)) := by simp [Book.row, No99, JI, Kv, JT, JJ]
  have q1 := QeO smA
  have q2 := QeP smA
  have hcB : 0 ≤ cfB b ∧ cfB b ≤ 30000000000000 := by have := smA.2.2; unfold cfB; omega
  have eqQ : ∀ B : Book, B.small → Contract P 15 [.agg (B.row 0), .agg (B.row 0)] [] (.bool true) [] := fun B hs => by
    unfold Book.small at hs
    have h := QlF B B ⟨by omega, by omega, by omega, hs.1.2, fun p hp => by have := hs.2.1.2 p hp; show p.bx.length ≤ _; omega⟩
    simpa using h
  have eqA := eqQ b hsA
  have hsB := hB hsA
  have eqG := eqQ B hsB
  have smB := hsB.sm
  have p1 := QeO smB
  have p2 := QeP smB
  have hcG : 0 ≤ cfB B ∧ cfB B ≤ 30000000000000 := by have := smB.2.2; unfold cfB; omega
  have hMZ := Qg0 1 zs (by omega) (by omega)
  have hMB := Qh0 b (1 + 5 * (zs.length : Int)) smA (by omega)
  have hTO := QjM t zs hsZ
  have hKB := QlJ b hsA
  have hZtag : Zm (zs.map Zone.row) = zs.map Zone.row := Wm (f := Zone.row) (fun _ => rfl) zs
  have hZ98 : Qag (zs.map Zone.row) = true := Gc (f := Zone.row) (fun _ => rfl) zs
  have hZpur : ∀ (M : Nat → Option AObj) (K : Nat → Option AObj), M 501 = some (.arr 76 0 5 (zs.map Zone.row)) → UO M K (.own 501 0 0 zs.length) = some (.sl 99 5 (zs.map Zone.row)) := fun M K hM => Qgi hM (fun r hr => by obtain ⟨z, _, rfl⟩ := List.mem_map.1 hr; rfl) (by simp)
  have KA_501 : Qbj (KA b) 501 := YZ (by omega) (by omega) (by omega) (by omega)
  have hI1 := hI hsA hsZ
  have hI2 := hI hsA hsZ
  subst hBn
  have cf0 : cfB ⟨[], [], []⟩ = 0 := rfl
  have hMG := QkS 1
  have hHB := QkT 1 (by omega)
  have eqG := Qo6
  have fK : ∀ (x y z : AObj) (C : List (Nat × AObj)), ∀ p ∈ KA b, getM ((104, x) :: (108, y) :: (501, z) :: (KA b ++ C)) p.1 = some p.2 := fun x y z C => QD (YZ (by omega) (by omega) (by omega) (by omega)) (QD (YZ (by omega) (by omega) (by omega) (by omega)) (QD (YZ (by omega) (by omega) (by omega) (by omega)) (Kf (QaS b))))
  simp only [Book.row] at hTA n9A hKB
  refine ⟨_, _, .inr (.inl ⟨rfl, _, rfl, hTZ, rfl, n9Z⟩), ?_⟩
  simp (maxSteps := 2000000) (maxDischargeDepth := 8) only [bitvec_to_nat, reduceIte, Nat.reduceEqDiff, Nat.reduceAdd, Nat.reduceLeDiff, reduceCtorEq, Nat.reduceBEq, Nat.reduceLT, Nat.reduceMod, fmc, QK, QV, QM, QL, int_toBitVec_meta, method_specs_simp, bkV, List.length_map, Int.toNat_natCast, Nat.sub_zero, and_self, eq_self, not_true_eq_false, ne_eq, bne_self_eq_false, h0, tkZ, List.nil_append, if_true, if_false, List.map_nil, tkM, Qs, eB, eC, bKG]
  refine ⟨_, _, .inr (.inl ⟨rfl, _, rfl, hTA, rfl, n9A⟩), ?_⟩
  simp (maxSteps := 2000000) (maxDischargeDepth := 8) only [bitvec_to_nat, reduceIte, Nat.reduceEqDiff, Nat.reduceAdd, Nat.reduceLeDiff, reduceCtorEq, Nat.reduceBEq, Nat.reduceLT, Nat.reduceMod, fmc, QK, QV, QM, QL, int_toBitVec_meta, method_specs_simp, bkV, List.length_map, Int.toNat_natCast, Nat.sub_zero, and_self, eq_self, not_true_eq_false, ne_eq, bne_self_eq_false, h0, tkZ, List.nil_append, if_true, if_false, List.map_nil, tkM, Qs, eB, eC, bKG]
  refine ⟨⟨hsA, hsZ⟩, _, _, .inr (.inr (.inl ⟨_, rfl, hTO, Qkn rfl, by simp [Qd, Qb, dom], rfl, by simp [No99], by simp [Z8, KE]⟩)), ?_⟩
  simp (maxSteps := 2000000) (maxDischargeDepth := 8) only [bitvec_to_nat, reduceIte, Nat.reduceEqDiff, Nat.reduceAdd, Nat.reduceLeDiff, reduceCtorEq, Nat.reduceBEq, Nat.reduceLT, Nat.reduceMod, fmc, QK, QV, QM, QL, int_toBitVec_meta, method_specs_simp, bkV, List.length_map, Int.toNat_natCast, Nat.sub_zero, and_self, eq_self, not_true_eq_false, ne_eq, bne_self_eq_false, h0, tkZ, List.nil_append, if_true, if_false, List.map_nil, tkM, Qs, eB, eC, bKG]
  refine ⟨_, _, .inr (.inr (.inl ⟨_, rfl, hKB, (Xt (Jl (YZ (by omega) (by omega) (by omega) (by omega)) (Jl (YZ (by omega) (by omega) (by omega) (by omega)) (Jl (YZ (by omega) (by omega) (by omega) (by omega)) Xs)))), Qda, Qbf, by simp [bkV, No99, JI], Qrr⟩)), ?_⟩
  simp (maxSteps := 2000000) (maxDischargeDepth := 8) only [bitvec_to_nat, reduceIte, Nat.reduceEqDiff, Nat.reduceAdd, Nat.reduceLeDiff, reduceCtorEq, Nat.reduceBEq, Nat.reduceLT, Nat.reduceMod, fmc, QK, QV, QM, QL, int_toBitVec_meta, method_specs_simp, bkV, List.length_map, Int.toNat_natCast, Nat.sub_zero, and_self, eq_self, not_true_eq_false, ne_eq, bne_self_eq_false, h0, tkZ, List.nil_append, if_true, if_false, List.map_nil, tkM, Qs, eB, eC, bKG]
  refine ⟨_, _, Ky (r := .tup [.agg [.sl 98 11 [], .sl 98 3 [], .sl 98 2 []], .int .i64 cd]) (news := []) (keep := (501, .arr 76 0 5 (zs.map Zone.row)) :: KA b) (args' := [.sl 99 5 (zs.map Zone.row), .agg (b.row 99), .str fl]) (by simp only [Yz, Qrm, QiB, QaQ, hZtag]; exact hI1) (Qh1 rfl (fK _ _ _ _)) (JZ (hZpur _ _ rfl) (JZ (Wx (fK _ _ _ _) (QD KA_501 (QF (QaS b)))) rfl)) (by simp only [Xv, YI 99 (by omega), QiA, Qrs, hZ98]; rfl) rfl rfl (by simp) rfl rfl (by simp [bkV, No99, JI, Jh]) (by simp), ?_⟩
  simp (maxSteps := 2000000) (maxDischargeDepth := 8) only [bitvec_to_nat, reduceIte, Nat.reduceEqDiff, Nat.reduceAdd, Nat.reduceLeDiff, reduceCtorEq, Nat.reduceBEq, Nat.reduceLT, Nat.reduceMod, fmc, QK, QV, QM, QL, int_toBitVec_meta, method_specs_simp, bkV, List.length_map, Int.toNat_natCast, Nat.sub_zero, and_self, eq_self, not_true_eq_false, ne_eq, bne_self_eq_false, h0, tkZ, List.nil_append, if_true, if_false, List.map_nil, tkM, Qs, eB, eC, bKG]
  refine ⟨_, _, .inr (.inl ⟨rfl, _, rfl, eqG, rfl, trivial⟩), ?_⟩
  simp (maxSteps := 2000000) (maxDischargeDepth := 8) only [bitvec_to_nat, reduceIte, Nat.reduceEqDiff, Nat.reduceAdd, Nat.reduceLeDiff, reduceCtorEq, Nat.reduceBEq, Nat.reduceLT, Nat.reduceMod, fmc, QK, QV, QM, QL, int_toBitVec_meta, method_specs_simp, bkV, List.length_map, Int.toNat_natCast, Nat.sub_zero, and_self, eq_self, not_true_eq_false, ne_eq, bne_self_eq_false, h0, tkZ, List.nil_append, if_true, if_false, List.map_nil, tkM, Qs, eB, eC, bKG]
  refine ⟨_, _, .inr (.inl ⟨rfl, _, rfl, hTZ, rfl, n9Z⟩), ?_⟩
  simp (maxSteps := 2000000) (maxDischargeDepth := 8) only [bitvec_to_nat, reduceIte, Nat.reduceEqDiff, Nat.reduceAdd, Nat.reduceLeDiff, reduceCtorEq, Nat.reduceBEq, Nat.reduceLT, Nat.reduceMod, fmc, QK, QV, QM, QL, int_toBitVec_meta, method_specs_simp, bkV, List.length_map, Int.toNat_natCast, Nat.sub_zero, and_self, eq_self, not_true_eq_false, ne_eq, bne_self_eq_false, h0, tkZ, List.nil_append, if_true, if_false, List.map_nil, tkM, Qs, eB, eC, bKG]
  refine ⟨by omega, _, _, .inr (.inl ⟨rfl, _, rfl, hTA, rfl, n9A⟩), ?_⟩
  simp (maxSteps := 2000000) (maxDischargeDepth := 8) only [bitvec_to_nat, reduceIte, Nat.reduceEqDiff, Nat.reduceAdd, Nat.reduceLeDiff, reduceCtorEq, Nat.reduceBEq, Nat.reduceLT, Nat.reduceMod, fmc, QK, QV, QM, QL, int_toBitVec_meta, method_specs_simp, bkV, List.length_map, Int.toNat_natCast, Nat.sub_zero, and_self, eq_self, not_true_eq_false, ne_eq, bne_self_eq_false, h0, tkZ, List.nil_append, if_true, if_false, List.map_nil, tkM, Qs, eB, eC, bKG]
  refine ⟨_, _, Ky (r := .bool true) (news := []) (keep := KA b) (args' := [.agg (b.row 99), .agg (b.row 0)]) (by simp only [Yz, QaQ]; exact eqA) (fK _ _ _ _) (JZ (Wx (fK _ _ _ _) (QF (QaS b))) rfl) (by simp only [Xv, YI 99 (by omega), YI 0 (by omega), Bool.and_self]) rfl rfl (by simp) rfl rfl trivial (by simp), ?_⟩
  simp (maxSteps := 2000000) (maxDischargeDepth := 8) only [bitvec_to_nat, reduceIte, Nat.reduceEqDiff, Nat.reduceAdd, Nat.reduceLeDiff, reduceCtorEq, Nat.reduceBEq, Nat.reduceLT, Nat.reduceMod, fmc, QK, QV, QM, QL, int_toBitVec_meta, method_specs_simp, bkV, List.length_map, Int.toNat_natCast, Nat.sub_zero, and_self, eq_self, not_true_eq_false, ne_eq, bne_self_eq_false, h0, tkZ, List.nil_append, if_true, if_false, List.map_nil, tkM, Qs, eB, eC, bKG]
  refine ⟨_, _, J9 hMZ rfl (Qiw rfl) (by simp [Qb, Qd, dom]) rfl rfl rfl, ?_⟩
  simp (maxSteps := 2000000) (maxDischargeDepth := 8) only [bitvec_to_nat, reduceIte, Nat.reduceEqDiff, Nat.reduceAdd, Nat.reduceLeDiff, reduceCtorEq, Nat.reduceBEq, Nat.reduceLT, Nat.reduceMod, fmc, QK, QV, QM, QL, int_toBitVec_meta, method_specs_simp, bkV, List.length_map, Int.toNat_natCast, Nat.sub_zero, and_self, eq_self, not_true_eq_false, ne_eq, bne_self_eq_false, h0, tkZ, List.nil_append, if_true, if_false, List.map_nil, tkM, Qs, eB, eC, bKG]
  refine ⟨_, _, QhK hMB (fK _ _ _ _) (by have := QeL (b := b) (a := 611) (va := 0) (c := 612) (vc := 0) (d := 613) (vd := 0) (kO := 120) (kP := 140); simpa only [bkV, Qb, Qd, Bool.and_true] using this) QaP rfl, ?_⟩
  simp (maxSteps := 2000000) (maxDischargeDepth := 8) only [bitvec_to_nat, reduceIte, Nat.reduceEqDiff, Nat.reduceAdd, Nat.reduceLeDiff, reduceCtorEq, Nat.reduceBEq, Nat.reduceLT, Nat.reduceMod, fmc, QK, QV, QM, QL, int_toBitVec_meta, method_specs_simp, bkV, List.length_map, Int.toNat_natCast, Nat.sub_zero, and_self, eq_self, not_true_eq_false, ne_eq, bne_self_eq_false, h0, tkZ, List.nil_append, if_true, if_false, List.map_nil, tkM, Qs, eB, eC, bKG]
  refine ⟨fun h => by omega, fun _ => ⟨_, _, .inr (.inl ⟨rfl, _, rfl, eqG, rfl, trivial⟩), ?_⟩⟩
  simp (maxSteps := 2000000) (maxDischargeDepth := 8) only [bitvec_to_nat, reduceIte, Nat.reduceEqDiff, Nat.reduceAdd, Nat.reduceLeDiff, reduceCtorEq, Nat.reduceBEq, Nat.reduceLT, Nat.reduceMod, fmc, QK, QV, QM, QL, int_toBitVec_meta, method_specs_simp, bkV, List.length_map, Int.toNat_natCast, Nat.sub_zero, and_self, eq_self, not_true_eq_false, ne_eq, bne_self_eq_false, h0, tkZ, List.nil_append, if_true, if_false, List.map_nil, tkM, Qs, eB, eC, bKG]
  refine ⟨_, _, .inr (.inl ⟨rfl, _, rfl, hMG, rfl, trivial⟩), ?_⟩
  simp (maxSteps := 2000000) (maxDischargeDepth := 8) only [bitvec_to_nat, reduceIte, Nat.reduceEqDiff, Nat.reduceAdd, Nat.reduceLeDiff, reduceCtorEq, Nat.reduceBEq, Nat.reduceLT, Nat.reduceMod, fmc, QK, QV, QM, QL, int_toBitVec_meta, method_specs_simp, bkV, List.length_map, Int.toNat_natCast, Nat.sub_zero, and_self, eq_self, not_true_eq_false, ne_eq, bne_self_eq_false, h0, tkZ, List.nil_append, if_true, if_false, List.map_nil, tkM, Qs, eB, eC, bKG]
  refine ⟨_, _, .inr (.inl ⟨rfl, _, rfl, hHB, rfl, trivial⟩), ?_⟩
  simp (maxSteps := 2000000) (maxDischargeDepth := 8) only [bitvec_to_nat, reduceIte, Nat.reduceEqDiff, Nat.reduceAdd, Nat.reduceLeDiff, reduceCtorEq, Nat.reduceBEq, Nat.reduceLT, Nat.reduceMod, fmc, QK, QV, QM, QL, int_toBitVec_meta, method_specs_simp, bkV, List.length_map, Int.toNat_natCast, Nat.sub_zero, and_self, eq_self, not_true_eq_false, ne_eq, bne_self_eq_false, h0, tkZ, List.nil_append, if_true, if_false, List.map_nil, tkM, Qs, eB, eC, bKG]
  refine ⟨fun h => by omega, fun _ => ⟨_, _, .inr (.inl ⟨rfl, _, rfl, hTZ, rfl, n9Z⟩), ?_⟩⟩
  simp (maxSteps := 2000000) (maxDischargeDepth := 8) only [bitvec_to_nat, reduceIte, Nat.reduceEqDiff, Nat.reduceAdd, Nat.reduceLeDiff, reduceCtorEq, Nat.reduceBEq, Nat.reduceLT, Nat.reduceMod, fmc, QK, QV, QM, QL, int_toBitVec_meta, method_specs_simp, bkV, List.length_map, Int.toNat_natCast, Nat.sub_zero, and_self, eq_self, not_true_eq_false, ne_eq, bne_self_eq_false, h0, tkZ, List.nil_append, if_true, if_false, List.map_nil, tkM, Qs, eB, eC, bKG]
  refine ⟨_, _, .inr (.inl ⟨rfl, _, rfl, hTA, rfl, n9A⟩), ?_⟩
  simp (maxSteps := 2000000) (maxDischargeDepth := 8) only [bitvec_to_nat, reduceIte, Nat.reduceEqDiff, Nat.reduceAdd, Nat.reduceLeDiff, reduceCtorEq, Nat.reduceBEq, Nat.reduceLT, Nat.reduceMod, fmc, QK, QV, QM, QL, int_toBitVec_meta, method_specs_simp, bkV, List.length_map, Int.toNat_natCast, Nat.sub_zero, and_self, eq_self, not_true_eq_false, ne_eq, bne_self_eq_false, h0, tkZ, List.nil_append, if_true, if_false, List.map_nil, tkM, Qs, eB, eC, bKG]
  refine ⟨_, _, .inr (.inl ⟨rfl, _, rfl, hI2, rfl, by simp [bkV, No99, JI, Jh]⟩), ?_⟩
  simp (maxSteps := 2000000) (maxDischargeDepth := 8) only [bitvec_to_nat, reduceIte, Nat.reduceEqDiff, Nat.reduceAdd, Nat.reduceLeDiff, reduceCtorEq, Nat.reduceBEq, Nat.reduceLT, Nat.reduceMod, fmc, QK, QV, QM, QL, int_toBitVec_meta, method_specs_simp, bkV, List.length_map, Int.toNat_natCast, Nat.sub_zero, and_self, eq_self, not_true_eq_false, ne_eq, bne_self_eq_false, h0, tkZ, List.nil_append, if_true, if_false, List.map_nil, tkM, Qs, eB, eC, bKG]
  refine ⟨_, _, .inr (.inl ⟨rfl, _, rfl, eqG, rfl, trivial⟩), ?_⟩
  simp (maxSteps := 2000000) (maxDischargeDepth := 8) only [bitvec_to_nat, reduceIte, Nat.reduceEqDiff, Nat.reduceAdd, Nat.reduceLeDiff, reduceCtorEq, Nat.reduceBEq, Nat.reduceLT, Nat.reduceMod, fmc, QK, QV, QM, QL, int_toBitVec_meta, method_specs_simp, bkV, List.length_map, Int.toNat_natCast, Nat.sub_zero, and_self, eq_self, not_true_eq_false, ne_eq, bne_self_eq_false, h0, tkZ, List.nil_append, if_true, if_false, List.map_nil, tkM, Qs, eB, eC, bKG]
  refine ⟨_, _, .inr (.inl ⟨rfl, _, rfl, hHB, rfl, trivial⟩), ?_⟩
  simp (maxSteps := 2000000) (maxDischargeDepth := 8) only [bitvec_to_nat, reduceIte, Nat.reduceEqDiff, Nat.reduceAdd, Nat.reduceLeDiff, reduceCtorEq, Nat.reduceBEq, Nat.reduceLT, Nat.reduceMod, fmc, QK, QV, QM, QL, int_toBitVec_meta, method_specs_simp, bkV, List.length_map, Int.toNat_natCast, Nat.sub_zero, and_self, eq_self, not_true_eq_false, ne_eq, bne_self_eq_false, h0, tkZ, List.nil_append, if_true, if_false, List.map_nil, tkM, Qs, eB, eC, bKG]
  exact fun h => by omega

end
end Go.Ve

namespace Go.Ve
noncomputable section
open Go.Proofs
set_option maxRecDepth 100000
open Go.ChangeShapes Go.WideShapes
theorem Qde (t : Nat) (zs : List Zone) (fl : ByteArray) (b : Book) (hz : zs.length ≤ 9223372036854775807 ∧ ∀ y ∈ zs, y.fitp) (hfb : b.fitp) : Contract P 6 [.sl t 5 (zs.map Zone.row), .agg (b.row 1), .str fl] [] (.bool true) [] := by
  by_cases h0 : Q3 zs ∧ bookOk zs b
  · by_cases hc : enC b fl = 0
    · have h3 := (Qt7 hc).2.2
      refine QaW t zs fl b hz hfb (enB b fl) 0 (b.own.length + 1) b.parts.length (fun hs => QjS hs (by omega)) (by simp only [Qne, if_pos h0, if_pos hc]) (by simp only [Qnf, if_pos h0, hc]) fun hs hz' => ?_
      exact QsH zs fl b hs hz' h0 hc
    · exact QaW t zs fl b hz hfb b (enC b fl) b.own.length b.parts.length (fun h => h) (by simp only [Qne, if_pos h0, if_neg hc]) (by simp only [Qnf, if_pos h0]) fun hs hz' => QsC zs fl b hs hz' h0 hc
  · exact Qg8 t zs fl b hz hfb ⟨[], [], []⟩ 1 rfl (fun _ => ⟨⟨Nat.zero_le _, fun o ho => by cases ho⟩, ⟨Nat.zero_le _, fun o ho => by cases ho⟩, Nat.zero_le _⟩) (by simp only [Qne, if_neg h0]) (by simp only [Qnf, if_neg h0]) fun hs hz' => QsB zs fl b hs hz' h0
end
end Go.Ve

