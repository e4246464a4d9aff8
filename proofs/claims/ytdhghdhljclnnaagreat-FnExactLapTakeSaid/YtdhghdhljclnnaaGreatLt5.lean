/- Part 5 of the proof: laws and contracts of functions, each proved; they are joined in the last part. No conditions beyond those that the theorems state. -/
import Derived.Test.YtdhghdhljclnnaaGreatLt4
set_option linter.all false
namespace Go.Ve
noncomputable section
open Go.Proofs
set_option linter.unusedSimpArgs false
set_option linter.unusedVariables false
set_option maxRecDepth 100000
open Go.ChangeShapes Go.WideShapes
def Word.fitp (s : Word) : Prop := s.fr.toList.length ≤ 9223372036854775807 ∧ s.dst.toList.length ≤ 9223372036854775807 ∧ s.fl.toList.length ≤ 9223372036854775807 ∧ s.tu.length ≤ 9223372036854775807
def Word.small (s : Word) : Prop := s.tu.length ≤ 1048576
def Word.sz (s : Word) (z0 : Int) : Int := chk (z0 - (s.fr.toList.length : Nat)) (fun z1 => chk (z1 - (s.dst.toList.length : Nat)) (fun z2 => chk (z2 - (s.fl.toList.length : Nat)) (fun z3 => chk (szOf z3 s.tu.length) (fun z4 => z4))))
theorem Word.sz_ok {s : Word} {a : Int} (ha : a ≤ 1048576) (h : 0 ≤ s.sz a) : s.small := by
  unfold Word.sz at h
  have b0 : a ≤ 1048576 := ha
  obtain ⟨p0, h⟩ := chk_ok h
  have b1 : (a) - (s.fr.toList.length : Nat) ≤ 1048576 := by omega
  obtain ⟨p1, h⟩ := chk_ok h
  have b2 : ((a) - (s.fr.toList.length : Nat)) - (s.dst.toList.length : Nat) ≤ 1048576 := by omega
  obtain ⟨p2, h⟩ := chk_ok h
  have b3 : (((a) - (s.fr.toList.length : Nat)) - (s.dst.toList.length : Nat)) - (s.fl.toList.length : Nat) ≤ 1048576 := by omega
  obtain ⟨p3, h⟩ := chk_ok h
  have b4 : szOf ((((a) - (s.fr.toList.length : Nat)) - (s.dst.toList.length : Nat)) - (s.fl.toList.length : Nat)) s.tu.length ≤ 1048576 := by have := (meas_len s.tu ((((a) - (s.fr.toList.length : Nat)) - (s.dst.toList.length : Nat)) - (s.fl.toList.length : Nat)) b3).2.2; simp only at this; omega
  have k3 := szOf_ok b3 p3
  exact k3
theorem c_szWord (s : Word) (a : Int) (ha : 0 ≤ a ∧ a ≤ 1048576) (hs : s.fitp) : Contract P 6 [.agg (s.row 1), .int .i64 a] [] (.int .i64 (s.sz a)) [] := by
  unfold Word.fitp at hs
  simp only [Word.row]
  refine fn_sound ((Env.nil P).add 21 t_szBoxS h_szBoxS) hm k_laws_szHandWord (Nat.le_of_ble_eq_true rfl) rfl ?_; unfold s_laws_szHandWord; simp (config := { maxSteps := 2000000 }) only [bitvec_to_nat, reduceIte, Nat.reduceEqDiff, Nat.reduceAdd, Nat.reduceLeDiff, reduceCtorEq, Nat.reduceBEq, Nat.reduceLT, List.forall_mem_cons, t_szBoxS, Zone.row, Zone_eta, Box6.row, box_eta6, tk_map, dp_map, toNat_pred, unZone_mk, appE, rowsOf, List.take_length, List.length_cons, List.length_nil, Nat.zero_add, srow, irow, un_s, un_i, un_box, un_Zone, un_Own, un_Part, un_Seen, un_Word, Word.row, Word_eta, Own.row, Own_eta, Part.row, Part_eta, Seen.row, Seen_eta, Book.row, Book_eta, un_Word, un_Own, un_Part, un_Seen, un_Book]
  unfold Word.sz
  have qtu : (szOf (((a - (s.fr.toList.length : Nat)) - (s.dst.toList.length : Nat)) - (s.fl.toList.length : Nat)) s.tu.length) ≤ max (((a - (s.fr.toList.length : Nat)) - (s.dst.toList.length : Nat)) - (s.fl.toList.length : Nat)) (-1) := by unfold szOf; split <;> omega
  repeat' (first | with_reducible apply And.intro | with_reducible intro _)
  all_goals first | omega | (exact hs) | (exact hs.1) | (exact hs.2.1) | (exact hs.2.2) | (exact hs.2.2.1) | (exact hs.2.2.2) | (exact hs.2.2.2.1) | (exact hs.2.2.2.2) | (exact hs.1.1) | (exact hs.1.2) | (exact hs.2.1.1) | (exact hs.2.1.2) | (unfold chk; grind) | grind
def t_szWord : List AV → Option (Prop × AV)
  | [.agg [.int .i64 s_kd, .str s_fr, .str s_dst, .str s_fl, .int .i64 s_nr, .int .i64 s_la, .int .i64 s_tn, .sl 1 6 s_tu], .int .i64 b] => some ((((s_tu.map unBox).map Box6.row = s_tu)) ∧ ((0 ≤ b ∧ b ≤ 1048576) ∧ (Word.fitp (Word.mk s_kd s_fr s_dst s_fl s_nr s_la s_tn (s_tu.map unBox)))), .int .i64 (Word.sz (Word.mk s_kd s_fr s_dst s_fl s_nr s_la s_tn (s_tu.map unBox)) b))
  | _ => none
theorem h_szWord : ∀ args p v, t_szWord args = some (p, v) → p → Contract P 6 args [] v [] ∧ noref v = true ∧ No99 v := by
  intro args p v h1 h2
  unfold t_szWord at h1
  split at h1
  · rename_i s_kd s_fr s_dst s_fl s_nr s_la s_tn s_tu b
    cases h1
    obtain ⟨e0, HP⟩ := h2
    have := c_szWord (Word.mk s_kd s_fr s_dst s_fl s_nr s_la s_tn (s_tu.map unBox)) b HP.1 HP.2
    exact ⟨by simpa only [e0, Word.row] using this, rfl, trivial⟩
  · cases h1
theorem c_toWord (s : Word) (hs : s.small) : Contract P 10 [.agg (s.row 1)] [] (.agg (s.row 0)) [] := by
  unfold Word.small at hs
  simp only [Word.row]
  refine fn_sound ((Env.nil P).add 31 t_toBoxS h_toBoxS) hm k_laws_toHandWord (Nat.le_of_ble_eq_true rfl) rfl ?_; unfold s_laws_toHandWord; simp (config := { maxSteps := 2000000 }) only [bitvec_to_nat, reduceIte, Nat.reduceEqDiff, Nat.reduceAdd, Nat.reduceLeDiff, reduceCtorEq, Nat.reduceBEq, Nat.reduceLT, List.forall_mem_cons, t_toBoxS, Zone.row, Zone_eta, Box6.row, box_eta6, tk_map, dp_map, toNat_pred, unZone_mk, appE, rowsOf, List.take_length, List.length_cons, List.length_nil, Nat.zero_add, srow, irow, un_s, un_i, un_box, un_Zone, un_Own, un_Part, un_Seen, un_Word, Word.row, Word_eta, Own.row, Own_eta, Part.row, Part_eta, Seen.row, Seen_eta, Book.row, Book_eta, un_Word, un_Own, un_Part, un_Seen, un_Book]
  repeat' (first | with_reducible apply And.intro | with_reducible intro _)
  all_goals first | omega | grind | grind [Word.small, Own.small, Part.small, Book.small]
end
end Go.Ve

namespace Go.Ve
noncomputable section
open Go.Proofs
set_option linter.unusedSimpArgs false
set_option linter.unusedVariables false
set_option maxRecDepth 100000
theorem set_Int' {l : List Int} {i : Nat} {v : Int} : (l.map irow).set i (setSeg ((l.map irow).getD i []) 0 [.int .i64 v]) = (l.set i v).map irow :=
  set_rows (α := Int) (f := irow) (fun s => v) fun x => by simp [irow, setSeg]
def toz_Zone (a : List Zone) (i : Nat) : List Zone := a.take i ++ List.replicate (a.length - i) ⟨⟨#[]⟩, 0, 0, 0, 0⟩
theorem toz_Zone_st {a : List Zone} {i : Nat} (h : i < a.length) : (toz_Zone a i).set i (a.getD i default) = toz_Zone a (i + 1) := by
  refine List.ext_getElem (by simp [toz_Zone]; omega) fun j h1 h2 => ?_
  by_cases e : j = i
  · subst e
    simp [toz_Zone, List.getElem_append, h]
    intro h9; omega
  · simp only [List.getElem_set_ne (Ne.symm e)]
    simp only [toz_Zone, List.getElem_append, List.length_take, List.getElem_take, List.getElem_replicate]
    split <;> split <;> first | rfl | omega
theorem c_toZoneSO' (t : Nat) (a : List Zone) (ha : a.length ≤ 1048576) : Contract P 8 [.sl t 5 (a.map Zone.row)] [] (.own 107 0 0 a.length) [(107, .arr 64 0 5 (a.map Zone.row))] := by
  refine fn_sound ((Env.nil P).add 29 t_toZone h_toZone) hm kO_laws_toHandZoneS (Nat.le_of_ble_eq_true rfl) rfl ?_; unfold sO_laws_toHandZoneS; simp (config := { maxSteps := 2000000 }) only [bitvec_to_nat, reduceIte, Nat.reduceEqDiff, Nat.reduceAdd, Nat.reduceLeDiff, reduceCtorEq, Nat.reduceBEq, Nat.reduceLT, List.forall_mem_cons, retG_ret, retQ_eq, retQ_eqN, retOk, keepB, re_tupl, orr_t, t_toZone, Zone.row, Zone_eta, Box6.row, box_eta6, tk_map, dp_map, toNat_pred, unZone_mk, appE, rowsOf, List.take_length, List.length_cons, List.length_nil, Nat.zero_add, srow, irow, un_s, un_i, un_box, un_Zone, un_Own, un_Part, un_Seen, un_Word, Word.row, Word_eta, Own.row, Own_eta, Part.row, Part_eta, Seen.row, Seen_eta, Book.row, Book_eta, Sector.row, Sector_eta, HCraft.row, HCraft_eta, World.row, World_eta, un_Word, un_Own, un_Part, un_Seen, un_Book, un_Sector, un_HCraft, un_World, irow, un_i, set_Zone, Nat.sub_zero]
  have m0 : List.replicate a.length [.str ⟨#[]⟩, .int .i64 0, .int .i64 0, .int .i64 0, .int .i64 0] = (toz_Zone a 0).map Zone.row := by simp [toz_Zone, Zone.row]
  refine ⟨by omega, ?_⟩
  refine loop_st (fun i : Nat => [(4, .int .i64 i)]) (fun i => [(107, .arr 64 0 5 ((toz_Zone a i).map Zone.row))]) (fun i => i ≤ a.length) (fun i => a.length - i) 0 (by simp only [u_E0, u_E1, u_M0, u_M1, w_setE0, w_setE1, w_setM0, w_setM1, reduceIte, Nat.reduceEqDiff]; exact ⟨by repeat' (first | exact trivial | refine ⟨.inr rfl, ?_⟩), ⟨congrArg (fun g => some (AObj.arr 64 0 5 g)) m0, trivial⟩, rfl, rfl⟩) (Nat.zero_le _) ?_
  intro i hi NX hN
  unfold lO_laws_toHandZoneS_0; simp (config := { maxSteps := 2000000 }) only [bitvec_to_nat, reduceIte, Nat.reduceEqDiff, Nat.reduceAdd, Nat.reduceLeDiff, reduceCtorEq, Nat.reduceBEq, Nat.reduceLT, List.forall_mem_cons, retG_ret, retQ_eq, retQ_eqN, retOk, keepB, re_tupl, orr_t, t_toZone, Zone.row, Zone_eta, Box6.row, box_eta6, tk_map, dp_map, toNat_pred, unZone_mk, appE, rowsOf, List.take_length, List.length_cons, List.length_nil, Nat.zero_add, srow, irow, un_s, un_i, un_box, un_Zone, un_Own, un_Part, un_Seen, un_Word, Word.row, Word_eta, Own.row, Own_eta, Part.row, Part_eta, Seen.row, Seen_eta, Book.row, Book_eta, Sector.row, Sector_eta, HCraft.row, HCraft_eta, World.row, World_eta, un_Word, un_Own, un_Part, un_Seen, un_Book, un_Sector, un_HCraft, un_World, irow, un_i, set_Zone, Nat.sub_zero]
  refine ⟨fun h => ?_, fun h => ?_⟩
  · repeat' (first | with_reducible apply And.intro | with_reducible intro _)
    all_goals first
      | omega
      | rfl
      | (have e := toz_Zone_st (a := a) (i := i) (by omega)
         try simp only [Zone.row] at *
         refine hN (i + 1) _ ⟨by repeat' (first | exact trivial | refine ⟨.inr rfl, ?_⟩), ⟨congrArg (fun g => some (AObj.arr 64 0 5 (List.map Zone.row g))) e, trivial⟩, rfl, rfl⟩ ?_ ?_ <;> omega)
  · have e : i = a.length := by omega
    subst e
    simp only [toz_Zone, List.take_length, Nat.sub_self, List.replicate_zero, List.append_nil]
    exact ⟨trivial, rfl, rfl⟩
def toz_Box6 (a : List Box6) (i : Nat) : List Box6 := a.take i ++ List.replicate (a.length - i) ⟨0, 0, 0, 0, 0, 0⟩
theorem toz_Box6_st {a : List Box6} {i : Nat} (h : i < a.length) : (toz_Box6 a i).set i (a.getD i default) = toz_Box6 a (i + 1) := by
  refine List.ext_getElem (by simp [toz_Box6]; omega) fun j h1 h2 => ?_
  by_cases e : j = i
  · subst e
    simp [toz_Box6, List.getElem_append, h]
    intro h9; omega
  · simp only [List.getElem_set_ne (Ne.symm e)]
    simp only [toz_Box6, List.getElem_append, List.length_take, List.getElem_take, List.getElem_replicate]
    split <;> split <;> first | rfl | omega
theorem c_toBox6SO' (t : Nat) (a : List Box6) (ha : a.length ≤ 1048576) : Contract P 31 [.sl t 6 (a.map Box6.row)] [] (.own 107 0 0 a.length) [(107, .arr 93 0 6 (a.map Box6.row))] := by
  refine fn_sound ((Env.nil P).add 61 t_toBox h_toBox) hm kO_laws_toHandBoxS (Nat.le_of_ble_eq_true rfl) rfl ?_; unfold sO_laws_toHandBoxS; simp (config := { maxSteps := 2000000 }) only [bitvec_to_nat, reduceIte, Nat.reduceEqDiff, Nat.reduceAdd, Nat.reduceLeDiff, reduceCtorEq, Nat.reduceBEq, Nat.reduceLT, List.forall_mem_cons, retG_ret, retQ_eq, retQ_eqN, retOk, keepB, re_tupl, orr_t, t_toBox, Zone.row, Zone_eta, Box6.row, box_eta6, tk_map, dp_map, toNat_pred, unZone_mk, appE, rowsOf, List.take_length, List.length_cons, List.length_nil, Nat.zero_add, srow, irow, un_s, un_i, un_box, un_Zone, un_Own, un_Part, un_Seen, un_Word, Word.row, Word_eta, Own.row, Own_eta, Part.row, Part_eta, Seen.row, Seen_eta, Book.row, Book_eta, Sector.row, Sector_eta, HCraft.row, HCraft_eta, World.row, World_eta, un_Word, un_Own, un_Part, un_Seen, un_Book, un_Sector, un_HCraft, un_World, irow, un_i, set_Box6, Nat.sub_zero]
  have m0 : List.replicate a.length [.int .i64 0, .int .i64 0, .int .i64 0, .int .i64 0, .int .i64 0, .int .i64 0] = (toz_Box6 a 0).map Box6.row := by simp [toz_Box6, Box6.row]
  refine ⟨by omega, ?_⟩
  refine loop_st (fun i : Nat => [(4, .int .i64 i)]) (fun i => [(107, .arr 93 0 6 ((toz_Box6 a i).map Box6.row))]) (fun i => i ≤ a.length) (fun i => a.length - i) 0 (by simp only [u_E0, u_E1, u_M0, u_M1, w_setE0, w_setE1, w_setM0, w_setM1, reduceIte, Nat.reduceEqDiff]; exact ⟨by repeat' (first | exact trivial | refine ⟨.inr rfl, ?_⟩), ⟨congrArg (fun g => some (AObj.arr 93 0 6 g)) m0, trivial⟩, rfl, rfl⟩) (Nat.zero_le _) ?_
  intro i hi NX hN
  unfold lO_laws_toHandBoxS_0; simp (config := { maxSteps := 2000000 }) only [bitvec_to_nat, reduceIte, Nat.reduceEqDiff, Nat.reduceAdd, Nat.reduceLeDiff, reduceCtorEq, Nat.reduceBEq, Nat.reduceLT, List.forall_mem_cons, retG_ret, retQ_eq, retQ_eqN, retOk, keepB, re_tupl, orr_t, t_toBox, Zone.row, Zone_eta, Box6.row, box_eta6, tk_map, dp_map, toNat_pred, unZone_mk, appE, rowsOf, List.take_length, List.length_cons, List.length_nil, Nat.zero_add, srow, irow, un_s, un_i, un_box, un_Zone, un_Own, un_Part, un_Seen, un_Word, Word.row, Word_eta, Own.row, Own_eta, Part.row, Part_eta, Seen.row, Seen_eta, Book.row, Book_eta, Sector.row, Sector_eta, HCraft.row, HCraft_eta, World.row, World_eta, un_Word, un_Own, un_Part, un_Seen, un_Book, un_Sector, un_HCraft, un_World, irow, un_i, set_Box6, Nat.sub_zero]
  refine ⟨fun h => ?_, fun h => ?_⟩
  · repeat' (first | with_reducible apply And.intro | with_reducible intro _)
    all_goals first
      | omega
      | rfl
      | (have e := toz_Box6_st (a := a) (i := i) (by omega)
         try simp only [Box6.row] at *
         refine hN (i + 1) _ ⟨by repeat' (first | exact trivial | refine ⟨.inr rfl, ?_⟩), ⟨congrArg (fun g => some (AObj.arr 93 0 6 (List.map Box6.row g))) e, trivial⟩, rfl, rfl⟩ ?_ ?_ <;> omega)
  · have e : i = a.length := by omega
    subst e
    simp only [toz_Box6, List.take_length, Nat.sub_self, List.replicate_zero, List.append_nil]
    exact ⟨trivial, rfl, rfl⟩
def toz_Int (a : List Int) (i : Nat) : List Int := a.take i ++ List.replicate (a.length - i) 0
theorem toz_Int_st {a : List Int} {i : Nat} (h : i < a.length) : (toz_Int a i).set i (a.getD i default) = toz_Int a (i + 1) := by
  refine List.ext_getElem (by simp [toz_Int]; omega) fun j h1 h2 => ?_
  by_cases e : j = i
  · subst e
    simp [toz_Int, List.getElem_append, h]
    intro h9; omega
  · simp only [List.getElem_set_ne (Ne.symm e)]
    simp only [toz_Int, List.getElem_append, List.length_take, List.getElem_take, List.getElem_replicate]
    split <;> split <;> first | rfl | omega
theorem c_toIntSO' (t : Nat) (a : List Int) (ha : a.length ≤ 1048576) : Contract P 32 [.sl t 1 (a.map irow)] [] (.own 107 0 0 a.length) [(107, .arr 3 0 1 (a.map irow))] := by
  refine fn_sound (Env.nil P) hm kO_laws_toIntS (Nat.le_of_ble_eq_true rfl) rfl ?_; unfold sO_laws_toIntS; simp (config := { maxSteps := 2000000 }) only [bitvec_to_nat, reduceIte, Nat.reduceEqDiff, Nat.reduceAdd, Nat.reduceLeDiff, reduceCtorEq, Nat.reduceBEq, Nat.reduceLT, List.forall_mem_cons, retG_ret, retQ_eq, retQ_eqN, retOk, keepB, re_tupl, orr_t, Zone.row, Zone_eta, Box6.row, box_eta6, tk_map, dp_map, toNat_pred, unZone_mk, appE, rowsOf, List.take_length, List.length_cons, List.length_nil, Nat.zero_add, srow, irow, un_s, un_i, un_box, un_Zone, un_Own, un_Part, un_Seen, un_Word, Word.row, Word_eta, Own.row, Own_eta, Part.row, Part_eta, Seen.row, Seen_eta, Book.row, Book_eta, Sector.row, Sector_eta, HCraft.row, HCraft_eta, World.row, World_eta, un_Word, un_Own, un_Part, un_Seen, un_Book, un_Sector, un_HCraft, un_World, irow, un_i, set_Int', Nat.sub_zero]
  have m0 : List.replicate a.length [.int .i64 0] = (toz_Int a 0).map irow := by simp [toz_Int, irow]
  refine ⟨by omega, ?_⟩
  refine loop_st (fun i : Nat => [(4, .int .i64 i)]) (fun i => [(107, .arr 3 0 1 ((toz_Int a i).map irow))]) (fun i => i ≤ a.length) (fun i => a.length - i) 0 (by simp only [u_E0, u_E1, u_M0, u_M1, w_setE0, w_setE1, w_setM0, w_setM1, reduceIte, Nat.reduceEqDiff]; exact ⟨by repeat' (first | exact trivial | refine ⟨.inr rfl, ?_⟩), ⟨congrArg (fun g => some (AObj.arr 3 0 1 g)) m0, trivial⟩, rfl, rfl⟩) (Nat.zero_le _) ?_
  intro i hi NX hN
  unfold lO_laws_toIntS_0; simp (config := { maxSteps := 2000000 }) only [bitvec_to_nat, reduceIte, Nat.reduceEqDiff, Nat.reduceAdd, Nat.reduceLeDiff, reduceCtorEq, Nat.reduceBEq, Nat.reduceLT, List.forall_mem_cons, retG_ret, retQ_eq, retQ_eqN, retOk, keepB, re_tupl, orr_t, Zone.row, Zone_eta, Box6.row, box_eta6, tk_map, dp_map, toNat_pred, unZone_mk, appE, rowsOf, List.take_length, List.length_cons, List.length_nil, Nat.zero_add, srow, irow, un_s, un_i, un_box, un_Zone, un_Own, un_Part, un_Seen, un_Word, Word.row, Word_eta, Own.row, Own_eta, Part.row, Part_eta, Seen.row, Seen_eta, Book.row, Book_eta, Sector.row, Sector_eta, HCraft.row, HCraft_eta, World.row, World_eta, un_Word, un_Own, un_Part, un_Seen, un_Book, un_Sector, un_HCraft, un_World, irow, un_i, set_Int', Nat.sub_zero]
  refine ⟨fun h => ?_, fun h => ?_⟩
  · repeat' (first | with_reducible apply And.intro | with_reducible intro _)
    all_goals first
      | omega
      | rfl
      | (have e := toz_Int_st (a := a) (i := i) (by omega)
         try simp only [irow] at *
         refine hN (i + 1) _ ⟨by repeat' (first | exact trivial | refine ⟨.inr rfl, ?_⟩), ⟨congrArg (fun g => some (AObj.arr 3 0 1 (List.map irow g))) e, trivial⟩, rfl, rfl⟩ ?_ ?_ <;> omega)
  · have e : i = a.length := by omega
    subst e
    simp only [toz_Int, List.take_length, Nat.sub_self, List.replicate_zero, List.append_nil]
    exact ⟨trivial, rfl, rfl⟩
end
end Go.Ve

namespace Go.Ve
noncomputable section
open Go.Proofs
set_option linter.unusedSimpArgs false
set_option linter.unusedVariables false
set_option maxRecDepth 100000
open Go.ChangeShapes Go.WideShapes
def r_toBoxSO : RTab
  | [.sl bt 6 bx], M => some ⟨(M 601 = none) ∧ (((bx.map unBox).map Box6.row = bx)) ∧ ((bx.map unBox).length ≤ 1048576), fun _ : Unit => True, fun _ => .own 601 0 0 (bx.map unBox).length, fun _ => [(601, .arr 93 0 6 bx)]⟩
  | _, _ => none
theorem h_toBoxSO : okTab P 31 r_toBoxSO := by
  intro args M o h hp
  unfold r_toBoxSO at h
  split at h
  · rename_i bt bx
    cases h
    obtain ⟨hn, e0, HP⟩ := hp
    have hC := (c_toBox6SO' bt (bx.map unBox) HP).ren (swp 107 601) (swp_swp 107 601)
    simp only [renL, ren, renM, renO, swp, reduceIte, Nat.reduceEqDiff, e0] at hC
    refine ⟨(), trivial, .inr (.inr ⟨_, by simp only [purL, pur, Option.map_some], hC, fun p hp => ?_, ?_, rfl, ?_, ?_⟩)⟩
    · simp only [List.mem_cons, List.not_mem_nil, or_false] at hp
      subst hp; exact hn
    · simp [refsIn, refsInL, dom]
    · exact trivial
    · intro p hp
      simp only [List.mem_cons, List.not_mem_nil, or_false] at hp
      subst hp; rw [← e0]; exact no99_box _
  · cases h
def r_toIntSO : RTab
  | [.sl bt 1 bx], M => some ⟨(M 602 = none) ∧ (((bx.map unI).map irow = bx)) ∧ ((bx.map unI).length ≤ 1048576), fun _ : Unit => True, fun _ => .own 602 0 0 (bx.map unI).length, fun _ => [(602, .arr 3 0 1 bx)]⟩
  | _, _ => none
theorem h_toIntSO : okTab P 32 r_toIntSO := by
  intro args M o h hp
  unfold r_toIntSO at h
  split at h
  · rename_i bt bx
    cases h
    obtain ⟨hn, e0, HP⟩ := hp
    have hC := (c_toIntSO' bt (bx.map unI) HP).ren (swp 107 602) (swp_swp 107 602)
    simp only [renL, ren, renM, renO, swp, reduceIte, Nat.reduceEqDiff, e0] at hC
    refine ⟨(), trivial, .inr (.inr ⟨_, by simp only [purL, pur, Option.map_some], hC, fun p hp => ?_, ?_, rfl, ?_, ?_⟩)⟩
    · simp only [List.mem_cons, List.not_mem_nil, or_false] at hp
      subst hp; exact hn
    · simp [refsIn, refsInL, dom]
    · exact trivial
    · intro p hp
      simp only [List.mem_cons, List.not_mem_nil, or_false] at hp
      subst hp; rw [← e0]; exact no99_i _
  · cases h
theorem c_toCraftO (nm : ByteArray) (q s nr no : Int) (t t' : Nat) (tu : List Box6) (fl : List Int) (hu : tu.length ≤ 1048576) (hk : fl.length ≤ 1048576) : Contract P 9 [.agg [.str nm, .int .i64 q, .int .i64 s, .int .i64 nr, .int .i64 no, .sl t 6 (tu.map Box6.row), .sl t' 1 (fl.map irow)]] [] (.agg [.str nm, .int .i64 q, .int .i64 s, .int .i64 nr, .int .i64 no, .own 601 0 0 tu.length, .own 602 0 0 fl.length]) [(601, .arr 93 0 6 (tu.map Box6.row)), (602, .arr 3 0 1 (fl.map irow))] := by
  refine fn_sound ((((Env.nil P).addR 31 r_toBoxSO h_toBoxSO).addR 32 r_toIntSO h_toIntSO).add 30 t_toKind h_toKind) hm k_laws_toLapCraft (Nat.le_of_ble_eq_true rfl) rfl ?_; unfold s_laws_toLapCraft; simp (config := { maxSteps := 2000000 }) only [bitvec_to_nat, reduceIte, Nat.reduceEqDiff, Nat.reduceAdd, Nat.reduceLeDiff, reduceCtorEq, Nat.reduceBEq, Nat.reduceLT, List.forall_mem_cons, retG_ret, retQ_eq, retQ_eqN, retOk, keepB, re_tupl, orr_t, t_toKind, r_toBoxSO, r_toIntSO, un_box, un_i, List.length_map, Box6.row, irow, Int.toNat_natCast, Nat.zero_add, Nat.sub_zero, noref, flatOk, rowsOf, appE, List.nil_append, take_all, ghost, Word.row, Word_eta]
  repeat' (first | with_reducible apply And.intro | with_reducible intro _)
  all_goals first | omega | rfl | (simp [refsIn]; done)
theorem c_toWordO (w : Word) (t2 : Nat) (hw : w.tu.length ≤ 1048576) : Contract P 10 [.agg (w.row t2)] [] (.agg [.int .i64 w.kd, .str w.fr, .str w.dst, .str w.fl, .int .i64 w.nr, .int .i64 w.la, .int .i64 w.tn, .own 601 0 0 w.tu.length]) [(601, .arr 93 0 6 (w.tu.map Box6.row))] := by
  simp only [Word.row]
  refine fn_sound ((Env.nil P).addR 31 r_toBoxSO h_toBoxSO) hm k_laws_toHandWord (Nat.le_of_ble_eq_true rfl) rfl ?_; unfold s_laws_toHandWord; simp (config := { maxSteps := 2000000 }) only [bitvec_to_nat, reduceIte, Nat.reduceEqDiff, Nat.reduceAdd, Nat.reduceLeDiff, reduceCtorEq, Nat.reduceBEq, Nat.reduceLT, List.forall_mem_cons, retG_ret, retQ_eq, retQ_eqN, retOk, keepB, re_tupl, orr_t, r_toBoxSO, un_box, un_i, List.length_map, Box6.row, irow, Int.toNat_natCast, Nat.zero_add, Nat.sub_zero, noref, flatOk, rowsOf, appE, List.nil_append, take_all, ghost, Word.row, Word_eta]
  repeat' (first | with_reducible apply And.intro | with_reducible intro _)
  all_goals first | omega | rfl | (simp [refsIn]; done)
theorem getD_seti' {α : Type} {l : List α} {i : Nat} {x d : α} (h : i < l.length) : (l.set i x).getD i d = x := by simp [h]
theorem getD_setn' {α : Type} {l : List α} {i j : Nat} {x d : α} (h : i ≠ j) : (l.set i x).getD j d = l.getD j d := by simp [List.getElem?_set_ne h]
def bmk (k : Int) (j : Nat) : Box6 := ⟨k + 6 * (j : Int), k + 6 * (j : Int) + 1, k + 6 * (j : Int) + 1 + 1, k + 6 * (j : Int) + 1 + 1 + 1, k + 6 * (j : Int) + 1 + 1 + 1 + 1, k + 6 * (j : Int) + 1 + 1 + 1 + 1 + 1⟩
def bms (k : Int) (n : Nat) : List Box6 := (List.range n).map fun j => bmk k j
theorem bms_len {k : Int} {n : Nat} : (bms k n).length = n := by simp [bms]
theorem bms_get {k : Int} {n j : Nat} (h : j < n) : (bms k n).getD j default = bmk k j := by simp [bms, h]
def imk (k : Int) (j : Nat) : Int := k + (j : Int)
def ims (k : Int) (n : Nat) : List Int := (List.range n).map fun j => imk k j
theorem ims_len {k : Int} {n : Nat} : (ims k n).length = n := by simp [ims]
theorem ims_get {k : Int} {n j : Nat} (h : j < n) : (ims k n).getD j default = imk k j := by simp [ims, h]
theorem set_b0 {l : List Box6} {i : Nat} {v : Int} : (l.map Box6.row).set i (setSeg ((l.map Box6.row).getD i []) 0 [.int .i64 v]) = (l.set i { l.getD i default with x := v }).map Box6.row :=
  set_rows (α := Box6) (f := Box6.row) (fun s => { s with x := v }) fun x => by simp [Box6.row, setSeg]
theorem set_b1 {l : List Box6} {i : Nat} {v : Int} : (l.map Box6.row).set i (setSeg ((l.map Box6.row).getD i []) 1 [.int .i64 v]) = (l.set i { l.getD i default with y := v }).map Box6.row :=
  set_rows (α := Box6) (f := Box6.row) (fun s => { s with y := v }) fun x => by simp [Box6.row, setSeg]
theorem set_b2 {l : List Box6} {i : Nat} {v : Int} : (l.map Box6.row).set i (setSeg ((l.map Box6.row).getD i []) 2 [.int .i64 v]) = (l.set i { l.getD i default with l := v }).map Box6.row :=
  set_rows (α := Box6) (f := Box6.row) (fun s => { s with l := v }) fun x => by simp [Box6.row, setSeg]
theorem set_b3 {l : List Box6} {i : Nat} {v : Int} : (l.map Box6.row).set i (setSeg ((l.map Box6.row).getD i []) 3 [.int .i64 v]) = (l.set i { l.getD i default with h := v }).map Box6.row :=
  set_rows (α := Box6) (f := Box6.row) (fun s => { s with h := v }) fun x => by simp [Box6.row, setSeg]
theorem set_b4 {l : List Box6} {i : Nat} {v : Int} : (l.map Box6.row).set i (setSeg ((l.map Box6.row).getD i []) 4 [.int .i64 v]) = (l.set i { l.getD i default with i := v }).map Box6.row :=
  set_rows (α := Box6) (f := Box6.row) (fun s => { s with i := v }) fun x => by simp [Box6.row, setSeg]
theorem set_b5 {l : List Box6} {i : Nat} {v : Int} : (l.map Box6.row).set i (setSeg ((l.map Box6.row).getD i []) 5 [.int .i64 v]) = (l.set i { l.getD i default with o := v }).map Box6.row :=
  set_rows (α := Box6) (f := Box6.row) (fun s => { s with o := v }) fun x => by simp [Box6.row, setSeg]
theorem c_markBoxS (v e : Nat) (k : Int) (a : List Box6) (ha : a.length ≤ 1048577) (hk : 0 ≤ k ∧ k ≤ 1073741824) : Contract P 42 [.own 3 v 0 a.length, .int .i64 k] [(3, .arr e v 6 (a.map Box6.row))] (.int .i64 (k + 6 * a.length)) [(3, .arr e v 6 ((bms k a.length).map Box6.row))] := by
  have hz : ((0 : Nat) : Int) = 0 := rfl
  have gs : True := trivial
  refine fn_sound (Env.nil P) hm k_laws_markHandBoxS (Nat.le_of_ble_eq_true rfl) rfl ?_; unfold s_laws_markHandBoxS; simp (config := { maxSteps := 2000000 }) only [bitvec_to_nat, reduceIte, Nat.reduceEqDiff, Nat.reduceAdd, Nat.reduceLeDiff, reduceCtorEq, Nat.reduceBEq, Nat.reduceLT, List.forall_mem_cons, retG_ret, retQ_eq, retQ_eqN, retOk, keepB, re_tupl, orr_t, set_b0, set_b1, set_b2, set_b3, set_b4, set_b5, set_Int', List.set_set, gs, Box6.row, irow, Int.toNat_natCast, List.length_map, List.length_set, Nat.sub_zero, Nat.zero_add, hz]
  refine loop_st (fun b : Nat × List Box6 => [(1, .int .i64 (k + 6 * b.1)), (5, .int .i64 b.1)]) (fun b => [(3, .arr e v 6 (b.2.map Box6.row))]) (fun b => b.2.length = a.length ∧ b.1 ≤ a.length ∧ ∀ j, j < b.1 → b.2.getD j default = bmk k j) (fun b => a.length - b.1) (0, a) ?_ ⟨rfl, Nat.zero_le _, fun j hj => absurd hj (Nat.not_lt_zero _)⟩ ?_
  · have e0 : k + 6 * ((0 : Nat) : Int) = k := by omega
    simp only [e0]
    simp only [u_E0, u_E1, u_M0, u_M1, w_setE0, w_setE1, w_setM0, w_setM1, reduceIte, Nat.reduceEqDiff]; exact ⟨by repeat' (first | exact trivial | refine ⟨.inr rfl, ?_⟩), by repeat' (first | exact trivial | refine ⟨rfl, ?_⟩), by first | rfl | simp [closedB, refsIn, refsInL, refsInO, dom, refsInL_nr, *], by first | rfl | simp [keepB, dom]⟩
  rintro ⟨i, l⟩ ⟨h1, h2, h3⟩ NX hN
  simp only at h1 h2 h3
  have gs : i < a.length → ∀ x : Box6, (l.set i x).getD i default = x := fun h x => getD_seti' (by omega)
  by_cases hi : i < a.length
  · have gs := gs hi
    have e5 : k + 6 * ((i + 1 : Nat) : Int) = k + 6 * (i : Int) + 1 + 1 + 1 + 1 + 1 + 1 := by omega
    unfold l_laws_markHandBoxS_0; simp (config := { maxSteps := 2000000 }) only [bitvec_to_nat, reduceIte, Nat.reduceEqDiff, Nat.reduceAdd, Nat.reduceLeDiff, reduceCtorEq, Nat.reduceBEq, Nat.reduceLT, List.forall_mem_cons, retG_ret, retQ_eq, retQ_eqN, retOk, keepB, re_tupl, orr_t, set_b0, set_b1, set_b2, set_b3, set_b4, set_b5, set_Int', List.set_set, gs, Box6.row, irow, Int.toNat_natCast, List.length_map, List.length_set, Nat.sub_zero, Nat.zero_add, hz]
    repeat' (first | with_reducible apply And.intro | with_reducible intro _)
    all_goals first
      | omega
      | (refine hN (i + 1, l.set i (bmk k i)) _ (by simp only [e5]; simp only [u_E0, u_E1, u_M0, u_M1, w_setE0, w_setE1, w_setM0, w_setM1, reduceIte, Nat.reduceEqDiff]; exact ⟨by repeat' (first | exact trivial | refine ⟨.inr rfl, ?_⟩), by repeat' (first | exact trivial | refine ⟨rfl, ?_⟩), by first | rfl | simp [closedB, refsIn, refsInL, refsInO, dom, refsInL_nr, *], by first | rfl | simp [keepB, dom]⟩) ⟨by simp only [List.length_set]; exact h1, hi, fun j hj => ?_⟩ (by simp only; omega)
         simp only at hj ⊢
         by_cases e : j = i
         · subst e; exact getD_seti' (by omega)
         · rw [getD_setn' (Ne.symm e)]; exact h3 j (by omega))
      | (exfalso; omega)
  · have hl : l = bms k a.length := ext_of (by rw [bms_len]; exact h1) fun j hj => by rw [bms_get (by omega)]; exact h3 j (by omega)
    have hi' : ¬ (i : Int) < a.length := by omega
    unfold l_laws_markHandBoxS_0; simp (config := { maxSteps := 2000000 }) only [bitvec_to_nat, reduceIte, Nat.reduceEqDiff, Nat.reduceAdd, Nat.reduceLeDiff, reduceCtorEq, Nat.reduceBEq, Nat.reduceLT, List.forall_mem_cons, retG_ret, retQ_eq, retQ_eqN, retOk, keepB, re_tupl, orr_t, set_b0, set_b1, set_b2, set_b3, set_b4, set_b5, set_Int', List.set_set, gs, Box6.row, irow, Int.toNat_natCast, List.length_map, List.length_set, Nat.sub_zero, Nat.zero_add, hz, hi']
    refine ⟨by omega, ?_⟩
    rw [hl]
theorem c_heldBoxS (t : Nat) (k : Int) (n : Nat) (ha : n ≤ 1048577) (hk : 0 ≤ k ∧ k ≤ 1073741824) : Contract P 44 [.sl t 6 ((bms k n).map Box6.row), .int .i64 k] [] (.int .i64 (k + 6 * n)) [] := by
  have hz : ((0 : Nat) : Int) = 0 := rfl
  refine fn_sound (Env.nil P) hm k_laws_heldHandBoxS (Nat.le_of_ble_eq_true rfl) rfl ?_; unfold s_laws_heldHandBoxS; simp (config := { maxSteps := 2000000 }) only [bitvec_to_nat, reduceIte, Nat.reduceEqDiff, Nat.reduceAdd, Nat.reduceLeDiff, reduceCtorEq, Nat.reduceBEq, Nat.reduceLT, List.forall_mem_cons, Box6.row, box_eta6, irow, Int.toNat_natCast, List.length_map, Nat.sub_zero, Nat.zero_add, hz, eq_self, bms_len, ims_len]
  refine loop_st (fun i : Nat => [(1, .int .i64 (k + 6 * i)), (5, .int .i64 i)]) (fun _ => []) (fun i => i ≤ n) (fun i => n - i) 0 ?_ (Nat.zero_le _) ?_
  · have e0 : k + 6 * ((0 : Nat) : Int) = k := by omega
    simp only [e0]
    simp only [u_E0, u_E1, u_M0, u_M1, w_setE0, w_setE1, w_setM0, w_setM1, reduceIte, Nat.reduceEqDiff]; exact ⟨by repeat' (first | exact trivial | refine ⟨.inr rfl, ?_⟩), by repeat' (first | exact trivial | refine ⟨rfl, ?_⟩), by first | rfl | simp [closedB, refsIn, refsInL, refsInO, dom, refsInL_nr, *], by first | rfl | simp [keepB, dom]⟩
  intro i hi NX hN
  have e5 : k + 6 * ((i + 1 : Nat) : Int) = k + 6 * (i : Int) + 1 + 1 + 1 + 1 + 1 + 1 := by omega
  by_cases h : i < n
  · have hg := bms_get (k := k) h
    have h' : (i : Int) < n := by omega
    unfold l_laws_heldHandBoxS_0; simp (config := { maxSteps := 2000000 }) only [bitvec_to_nat, reduceIte, Nat.reduceEqDiff, Nat.reduceAdd, Nat.reduceLeDiff, reduceCtorEq, Nat.reduceBEq, Nat.reduceLT, List.forall_mem_cons, Box6.row, box_eta6, irow, Int.toNat_natCast, List.length_map, Nat.sub_zero, Nat.zero_add, hz, eq_self, bms_len, ims_len, hg, bmk, imk, h', not_true_eq_false, ne_eq, bne_self_eq_false]
    repeat' (first | with_reducible apply And.intro | with_reducible intro _)
    all_goals first
      | omega
      | rfl
      | (refine hN (i + 1) _ (by simp only [e5]; simp only [u_E0, u_E1, u_M0, u_M1, w_setE0, w_setE1, w_setM0, w_setM1, reduceIte, Nat.reduceEqDiff]; exact ⟨by repeat' (first | exact trivial | refine ⟨.inr rfl, ?_⟩), by repeat' (first | exact trivial | refine ⟨rfl, ?_⟩), by first | rfl | simp [closedB, refsIn, refsInL, refsInO, dom, refsInL_nr, *], by first | rfl | simp [keepB, dom]⟩) ?_ ?_ <;> omega)
  · have h' : ¬ (i : Int) < n := by omega
    unfold l_laws_heldHandBoxS_0; simp (config := { maxSteps := 2000000 }) only [bitvec_to_nat, reduceIte, Nat.reduceEqDiff, Nat.reduceAdd, Nat.reduceLeDiff, reduceCtorEq, Nat.reduceBEq, Nat.reduceLT, List.forall_mem_cons, Box6.row, box_eta6, irow, Int.toNat_natCast, List.length_map, Nat.sub_zero, Nat.zero_add, hz, eq_self, bms_len, ims_len, h']
    omega
theorem c_markIntS (v e : Nat) (k : Int) (a : List Int) (ha : a.length ≤ 1048577) (hk : 0 ≤ k ∧ k ≤ 1073741824) : Contract P 43 [.own 3 v 0 a.length, .int .i64 k] [(3, .arr e v 1 (a.map irow))] (.int .i64 (k + a.length)) [(3, .arr e v 1 ((ims k a.length).map irow))] := by
  have hz : ((0 : Nat) : Int) = 0 := rfl
  have gs : True := trivial
  refine fn_sound (Env.nil P) hm k_laws_markIntS (Nat.le_of_ble_eq_true rfl) rfl ?_; unfold s_laws_markIntS; simp (config := { maxSteps := 2000000 }) only [bitvec_to_nat, reduceIte, Nat.reduceEqDiff, Nat.reduceAdd, Nat.reduceLeDiff, reduceCtorEq, Nat.reduceBEq, Nat.reduceLT, List.forall_mem_cons, retG_ret, retQ_eq, retQ_eqN, retOk, keepB, re_tupl, orr_t, set_b0, set_b1, set_b2, set_b3, set_b4, set_b5, set_Int', List.set_set, gs, Box6.row, irow, Int.toNat_natCast, List.length_map, List.length_set, Nat.sub_zero, Nat.zero_add, hz]
  refine loop_st (fun b : Nat × List Int => [(1, .int .i64 (k + b.1)), (5, .int .i64 b.1)]) (fun b => [(3, .arr e v 1 (b.2.map irow))]) (fun b => b.2.length = a.length ∧ b.1 ≤ a.length ∧ ∀ j, j < b.1 → b.2.getD j default = imk k j) (fun b => a.length - b.1) (0, a) ?_ ⟨rfl, Nat.zero_le _, fun j hj => absurd hj (Nat.not_lt_zero _)⟩ ?_
  · have e0 : k + ((0 : Nat) : Int) = k := by omega
    simp only [e0]
    simp only [u_E0, u_E1, u_M0, u_M1, w_setE0, w_setE1, w_setM0, w_setM1, reduceIte, Nat.reduceEqDiff]; exact ⟨by repeat' (first | exact trivial | refine ⟨.inr rfl, ?_⟩), by repeat' (first | exact trivial | refine ⟨rfl, ?_⟩), by first | rfl | simp [closedB, refsIn, refsInL, refsInO, dom, refsInL_nr, *], by first | rfl | simp [keepB, dom]⟩
  rintro ⟨i, l⟩ ⟨h1, h2, h3⟩ NX hN
  simp only at h1 h2 h3
  have gs : i < a.length → ∀ x : Int, (l.set i x).getD i default = x := fun h x => getD_seti' (by omega)
  by_cases hi : i < a.length
  · have gs := gs hi
    have e5 : k + ((i + 1 : Nat) : Int) = k + (i : Int) + 1 := by omega
    unfold l_laws_markIntS_0; simp (config := { maxSteps := 2000000 }) only [bitvec_to_nat, reduceIte, Nat.reduceEqDiff, Nat.reduceAdd, Nat.reduceLeDiff, reduceCtorEq, Nat.reduceBEq, Nat.reduceLT, List.forall_mem_cons, retG_ret, retQ_eq, retQ_eqN, retOk, keepB, re_tupl, orr_t, set_b0, set_b1, set_b2, set_b3, set_b4, set_b5, set_Int', List.set_set, gs, Box6.row, irow, Int.toNat_natCast, List.length_map, List.length_set, Nat.sub_zero, Nat.zero_add, hz]
    repeat' (first | with_reducible apply And.intro | with_reducible intro _)
    all_goals first
      | omega
      | (refine hN (i + 1, l.set i (imk k i)) _ (by simp only [e5]; simp only [u_E0, u_E1, u_M0, u_M1, w_setE0, w_setE1, w_setM0, w_setM1, reduceIte, Nat.reduceEqDiff]; exact ⟨by repeat' (first | exact trivial | refine ⟨.inr rfl, ?_⟩), by repeat' (first | exact trivial | refine ⟨rfl, ?_⟩), by first | rfl | simp [closedB, refsIn, refsInL, refsInO, dom, refsInL_nr, *], by first | rfl | simp [keepB, dom]⟩) ⟨by simp only [List.length_set]; exact h1, hi, fun j hj => ?_⟩ (by simp only; omega)
         simp only at hj ⊢
         by_cases e : j = i
         · subst e; exact getD_seti' (by omega)
         · rw [getD_setn' (Ne.symm e)]; exact h3 j (by omega))
      | (exfalso; omega)
  · have hl : l = ims k a.length := ext_of (by rw [ims_len]; exact h1) fun j hj => by rw [ims_get (by omega)]; exact h3 j (by omega)
    have hi' : ¬ (i : Int) < a.length := by omega
    unfold l_laws_markIntS_0; simp (config := { maxSteps := 2000000 }) only [bitvec_to_nat, reduceIte, Nat.reduceEqDiff, Nat.reduceAdd, Nat.reduceLeDiff, reduceCtorEq, Nat.reduceBEq, Nat.reduceLT, List.forall_mem_cons, retG_ret, retQ_eq, retQ_eqN, retOk, keepB, re_tupl, orr_t, set_b0, set_b1, set_b2, set_b3, set_b4, set_b5, set_Int', List.set_set, gs, Box6.row, irow, Int.toNat_natCast, List.length_map, List.length_set, Nat.sub_zero, Nat.zero_add, hz, hi']
    refine ⟨by omega, ?_⟩
    rw [hl]
theorem c_heldIntS (t : Nat) (k : Int) (n : Nat) (ha : n ≤ 1048577) (hk : 0 ≤ k ∧ k ≤ 1073741824) : Contract P 45 [.sl t 1 ((ims k n).map irow), .int .i64 k] [] (.int .i64 (k + n)) [] := by
  have hz : ((0 : Nat) : Int) = 0 := rfl
  refine fn_sound (Env.nil P) hm k_laws_heldIntS (Nat.le_of_ble_eq_true rfl) rfl ?_; unfold s_laws_heldIntS; simp (config := { maxSteps := 2000000 }) only [bitvec_to_nat, reduceIte, Nat.reduceEqDiff, Nat.reduceAdd, Nat.reduceLeDiff, reduceCtorEq, Nat.reduceBEq, Nat.reduceLT, List.forall_mem_cons, Box6.row, box_eta6, irow, Int.toNat_natCast, List.length_map, Nat.sub_zero, Nat.zero_add, hz, eq_self, bms_len, ims_len]
  refine loop_st (fun i : Nat => [(1, .int .i64 (k + i)), (5, .int .i64 i)]) (fun _ => []) (fun i => i ≤ n) (fun i => n - i) 0 ?_ (Nat.zero_le _) ?_
  · have e0 : k + ((0 : Nat) : Int) = k := by omega
    simp only [e0]
    simp only [u_E0, u_E1, u_M0, u_M1, w_setE0, w_setE1, w_setM0, w_setM1, reduceIte, Nat.reduceEqDiff]; exact ⟨by repeat' (first | exact trivial | refine ⟨.inr rfl, ?_⟩), by repeat' (first | exact trivial | refine ⟨rfl, ?_⟩), by first | rfl | simp [closedB, refsIn, refsInL, refsInO, dom, refsInL_nr, *], by first | rfl | simp [keepB, dom]⟩
  intro i hi NX hN
  have e5 : k + ((i + 1 : Nat) : Int) = k + (i : Int) + 1 := by omega
  by_cases h : i < n
  · have hg := ims_get (k := k) h
    have h' : (i : Int) < n := by omega
    unfold l_laws_heldIntS_0; simp (config := { maxSteps := 2000000 }) only [bitvec_to_nat, reduceIte, Nat.reduceEqDiff, Nat.reduceAdd, Nat.reduceLeDiff, reduceCtorEq, Nat.reduceBEq, Nat.reduceLT, List.forall_mem_cons, Box6.row, box_eta6, irow, Int.toNat_natCast, List.length_map, Nat.sub_zero, Nat.zero_add, hz, eq_self, bms_len, ims_len, hg, bmk, imk, h', not_true_eq_false, ne_eq, bne_self_eq_false]
    repeat' (first | with_reducible apply And.intro | with_reducible intro _)
    all_goals first
      | omega
      | rfl
      | (refine hN (i + 1) _ (by simp only [e5]; simp only [u_E0, u_E1, u_M0, u_M1, w_setE0, w_setE1, w_setM0, w_setM1, reduceIte, Nat.reduceEqDiff]; exact ⟨by repeat' (first | exact trivial | refine ⟨.inr rfl, ?_⟩), by repeat' (first | exact trivial | refine ⟨rfl, ?_⟩), by first | rfl | simp [closedB, refsIn, refsInL, refsInO, dom, refsInL_nr, *], by first | rfl | simp [keepB, dom]⟩) ?_ ?_ <;> omega)
  · have h' : ¬ (i : Int) < n := by omega
    unfold l_laws_heldIntS_0; simp (config := { maxSteps := 2000000 }) only [bitvec_to_nat, reduceIte, Nat.reduceEqDiff, Nat.reduceAdd, Nat.reduceLeDiff, reduceCtorEq, Nat.reduceBEq, Nat.reduceLT, List.forall_mem_cons, Box6.row, box_eta6, irow, Int.toNat_natCast, List.length_map, Nat.sub_zero, Nat.zero_add, hz, eq_self, bms_len, ims_len, h']
    omega
end
end Go.Ve

namespace Go.Ve
noncomputable section
open Go.Proofs
set_option linter.unusedSimpArgs false
set_option linter.unusedVariables false
set_option maxRecDepth 100000
def dch (i : Nat) : ByteArray := ⟨#[byteOf [AV.int .u8 (IntKind.u8.wrap (48 + (i : Int) % 10))]]⟩
theorem dch_eq (i : Nat) : bytesOf [[AV.int .u8 (IntKind.u8.wrap (48 + (i : Int) % 10))]] = dch i := rfl
def dg (k : Nat) (o : ByteArray) : ByteArray := if h : k = 0 then o else dg (k / 10) (dch k ++ o)
termination_by k
decreasing_by omega
theorem dg_zero (o : ByteArray) : dg 0 o = o := by rw [dg]; simp
theorem dg_step {k : Nat} (o : ByteArray) (h : 0 < k) : dg k o = dg (k / 10) (dch k ++ o) := by rw [dg]; simp [show k ≠ 0 by omega]
def mtx (k : Int) : ByteArray := if k ≤ 0 then ⟨#[109, 48]⟩ else ⟨#[109]⟩ ++ dg k.toNat ⟨#[]⟩
theorem dch_len (i : Nat) : (dch i).toList.length = 1 := by rw [← toList_size]; rfl
theorem app_len (a b : ByteArray) : (a ++ b).toList.length = a.toList.length + b.toList.length := by simp only [← toList_size, ByteArray.size_append]
theorem byte_ok (w : Int) : isByte [AV.int .u8 (IntKind.u8.wrap w)] = true := by
  simp [isByte, IntKind.wrap, IntKind.bits, IntKind.signed]
  try omega
theorem m_len : (⟨#[109]⟩ : ByteArray).toList.length = 1 := by rw [← toList_size]; rfl
theorem e_len : (⟨#[]⟩ : ByteArray).toList.length = 0 := by rw [← toList_size]; rfl
theorem c_markText (k : Int) (hk : 0 ≤ k ∧ k ≤ 1099511627776) : Contract P 41 [.int .i64 k] [] (.str (mtx k)) [] := by
  refine fn_sound (Env.nil P) hm k_laws_markText (Nat.le_of_ble_eq_true rfl) rfl ?_; unfold s_laws_markText; simp (config := { maxSteps := 2000000 }) only [bitvec_to_nat, reduceIte, Nat.reduceEqDiff, Nat.reduceAdd, Nat.reduceLeDiff, reduceCtorEq, Nat.reduceBEq, Nat.reduceLT, List.forall_mem_cons, Nat.zero_add, un_s, List.map_cons, List.map_nil, rowsOf, dch_eq]
  refine ⟨fun h => by rw [mtx, if_pos h], fun hp => ?_⟩
  have hkk : ((k.toNat : Nat) : Int) = k := by omega
  refine loop_st (fun a : Nat × ByteArray => [(0, .int .i64 a.1), (3, .str a.2)]) (fun _ => []) (fun a => dg a.1 a.2 = dg k.toNat ⟨#[]⟩ ∧ a.2.toList.length + a.1 ≤ 1099511627776) (fun a => a.1) (k.toNat, ⟨#[]⟩) (by simp only [hkk]; simp only [u_E0, u_E1, u_M0, u_M1, w_setE0, w_setE1, w_setM0, w_setM1, reduceIte, Nat.reduceEqDiff]; exact ⟨by repeat' (first | exact trivial | refine ⟨.inr rfl, ?_⟩), by repeat' (first | exact trivial | refine ⟨rfl, ?_⟩), by first | rfl | simp [closedB, refsIn, refsInL, refsInO, dom, refsInL_nr, *], by first | rfl | simp [keepB, dom]⟩) ⟨rfl, by simp only [e_len]; omega⟩ ?_
  rintro ⟨i, s⟩ ⟨h1, h2⟩ NX hN
  simp only at h1 h2
  unfold l_laws_markText_0; simp (config := { maxSteps := 2000000 }) only [bitvec_to_nat, reduceIte, Nat.reduceEqDiff, Nat.reduceAdd, Nat.reduceLeDiff, reduceCtorEq, Nat.reduceBEq, Nat.reduceLT, List.forall_mem_cons, Nat.zero_add, un_s, List.map_cons, List.map_nil, rowsOf, dch_eq]
  refine ⟨fun g => ⟨by omega, by omega, by simp only [List.all_cons, List.all_nil, byte_ok, Bool.and_true], ?_⟩, fun g => ?_⟩
  · have e1 := dch_len i
    refine ⟨by rw [e1]; omega, by omega, ?_⟩
    have e2 : ((i : Int) / 10) = ((i / 10 : Nat) : Int) := by omega
    simp only [e2]
    refine hN (i / 10, dch i ++ s) _ (by simp only [u_E0, u_E1, u_M0, u_M1, w_setE0, w_setE1, w_setM0, w_setM1, reduceIte, Nat.reduceEqDiff]; exact ⟨by repeat' (first | exact trivial | refine ⟨.inr rfl, ?_⟩), by repeat' (first | exact trivial | refine ⟨rfl, ?_⟩), by first | rfl | simp [closedB, refsIn, refsInL, refsInO, dom, refsInL_nr, *], by first | rfl | simp [keepB, dom]⟩) ?_ ?_
    · exact ⟨by rw [← dg_step s (by omega)]; exact h1, by simp only [app_len, e1]; omega⟩
    · simp only; omega
  · have e : i = 0 := by omega
    subst e
    rw [dg_zero] at h1
    refine ⟨by rw [m_len]; omega, ?_⟩
    rw [mtx, if_neg hp, ← h1]
def t_markText : List AV → Option (Prop × AV)
  | [.int .i64 k] => some ((True) ∧ (0 ≤ k ∧ k ≤ 1099511627776), .str (mtx k))
  | _ => none
theorem h_markText : ∀ args p v, t_markText args = some (p, v) → p → Contract P 41 args [] v [] ∧ noref v = true ∧ No99 v := by
  intro args p v h1 h2
  unfold t_markText at h1
  split at h1
  · rename_i k
    cases h1
    obtain ⟨_, HP⟩ := h2
    have := c_markText k HP
    exact ⟨this, rfl, trivial⟩
  · cases h1
end
end Go.Ve

namespace Go.Ve
noncomputable section
open Go.Proofs
set_option linter.unusedSimpArgs false
set_option linter.unusedVariables false
set_option maxRecDepth 100000
def zmk (k : Int) (j : Nat) : Zone := ⟨mtx (k + 5 * (j : Int)), k + 5 * (j : Int) + 1, k + 5 * (j : Int) + 1 + 1, k + 5 * (j : Int) + 1 + 1 + 1, k + 5 * (j : Int) + 1 + 1 + 1 + 1⟩
def zms (k : Int) (n : Nat) : List Zone := (List.range n).map fun j => zmk k j
theorem zms_len {k : Int} {n : Nat} : (zms k n).length = n := by simp [zms]
theorem zms_get {k : Int} {n j : Nat} (h : j < n) : (zms k n).getD j default = zmk k j := by simp [zms, h]
theorem set_z0 {l : List Zone} {i : Nat} {v : ByteArray} : (l.map Zone.row).set i (setSeg ((l.map Zone.row).getD i []) 0 [.str v]) = (l.set i { l.getD i default with nm := v }).map Zone.row :=
  set_rows (α := Zone) (f := Zone.row) (fun s => { s with nm := v }) fun x => by simp [Zone.row, setSeg]
theorem set_z1 {l : List Zone} {i : Nat} {v : Int} : (l.map Zone.row).set i (setSeg ((l.map Zone.row).getD i []) 1 [.int .i64 v]) = (l.set i { l.getD i default with x0 := v }).map Zone.row :=
  set_rows (α := Zone) (f := Zone.row) (fun s => { s with x0 := v }) fun x => by simp [Zone.row, setSeg]
theorem set_z2 {l : List Zone} {i : Nat} {v : Int} : (l.map Zone.row).set i (setSeg ((l.map Zone.row).getD i []) 2 [.int .i64 v]) = (l.set i { l.getD i default with y0 := v }).map Zone.row :=
  set_rows (α := Zone) (f := Zone.row) (fun s => { s with y0 := v }) fun x => by simp [Zone.row, setSeg]
theorem set_z3 {l : List Zone} {i : Nat} {v : Int} : (l.map Zone.row).set i (setSeg ((l.map Zone.row).getD i []) 3 [.int .i64 v]) = (l.set i { l.getD i default with x1 := v }).map Zone.row :=
  set_rows (α := Zone) (f := Zone.row) (fun s => { s with x1 := v }) fun x => by simp [Zone.row, setSeg]
theorem set_z4 {l : List Zone} {i : Nat} {v : Int} : (l.map Zone.row).set i (setSeg ((l.map Zone.row).getD i []) 4 [.int .i64 v]) = (l.set i { l.getD i default with y1 := v }).map Zone.row :=
  set_rows (α := Zone) (f := Zone.row) (fun s => { s with y1 := v }) fun x => by simp [Zone.row, setSeg]
theorem c_markZoneS (v e : Nat) (k : Int) (a : List Zone) (ha : a.length ≤ 1048577) (hk : 0 ≤ k ∧ k ≤ 1073741824) : Contract P 15 [.own 3 v 0 a.length, .int .i64 k] [(3, .arr e v 5 (a.map Zone.row))] (.int .i64 (k + 5 * a.length)) [(3, .arr e v 5 ((zms k a.length).map Zone.row))] := by
  have hz : ((0 : Nat) : Int) = 0 := rfl
  have gs : True := trivial
  refine fn_sound ((Env.nil P).add 41 t_markText h_markText) hm k_laws_markHandZoneS (Nat.le_of_ble_eq_true rfl) rfl ?_; unfold s_laws_markHandZoneS; simp (config := { maxSteps := 2000000 }) only [bitvec_to_nat, reduceIte, Nat.reduceEqDiff, Nat.reduceAdd, Nat.reduceLeDiff, reduceCtorEq, Nat.reduceBEq, Nat.reduceLT, List.forall_mem_cons, retG_ret, retQ_eq, retQ_eqN, retOk, keepB, re_tupl, orr_t, t_markText, set_z0, set_z1, set_z2, set_z3, set_z4, List.set_set, gs, Zone.row, Int.toNat_natCast, List.length_map, List.length_set, Nat.sub_zero, Nat.zero_add, hz]
  refine loop_st (fun b : Nat × List Zone => [(1, .int .i64 (k + 5 * b.1)), (5, .int .i64 b.1)]) (fun b => [(3, .arr e v 5 (b.2.map Zone.row))]) (fun b => b.2.length = a.length ∧ b.1 ≤ a.length ∧ ∀ j, j < b.1 → b.2.getD j default = zmk k j) (fun b => a.length - b.1) (0, a) ?_ ⟨rfl, Nat.zero_le _, fun j hj => absurd hj (Nat.not_lt_zero _)⟩ ?_
  · have e0 : k + 5 * ((0 : Nat) : Int) = k := by omega
    simp only [e0]
    simp only [u_E0, u_E1, u_M0, u_M1, w_setE0, w_setE1, w_setM0, w_setM1, reduceIte, Nat.reduceEqDiff]; exact ⟨by repeat' (first | exact trivial | refine ⟨.inr rfl, ?_⟩), by repeat' (first | exact trivial | refine ⟨rfl, ?_⟩), by first | rfl | simp [closedB, refsIn, refsInL, refsInO, dom, refsInL_nr, *], by first | rfl | simp [keepB, dom]⟩
  rintro ⟨i, l⟩ ⟨h1, h2, h3⟩ NX hN
  simp only at h1 h2 h3
  have gs : i < a.length → ∀ x : Zone, (l.set i x).getD i default = x := fun h x => getD_seti' (by omega)
  by_cases hi : i < a.length
  · have gs := gs hi
    have e5 : k + 5 * ((i + 1 : Nat) : Int) = k + 5 * (i : Int) + 1 + 1 + 1 + 1 + 1 := by omega
    unfold l_laws_markHandZoneS_0; simp (config := { maxSteps := 2000000 }) only [bitvec_to_nat, reduceIte, Nat.reduceEqDiff, Nat.reduceAdd, Nat.reduceLeDiff, reduceCtorEq, Nat.reduceBEq, Nat.reduceLT, List.forall_mem_cons, retG_ret, retQ_eq, retQ_eqN, retOk, keepB, re_tupl, orr_t, t_markText, set_z0, set_z1, set_z2, set_z3, set_z4, List.set_set, gs, Zone.row, Int.toNat_natCast, List.length_map, List.length_set, Nat.sub_zero, Nat.zero_add, hz]
    repeat' (first | with_reducible apply And.intro | with_reducible intro _)
    all_goals first
      | omega
      | (refine hN (i + 1, l.set i (zmk k i)) _ (by simp only [e5]; simp only [u_E0, u_E1, u_M0, u_M1, w_setE0, w_setE1, w_setM0, w_setM1, reduceIte, Nat.reduceEqDiff]; exact ⟨by repeat' (first | exact trivial | refine ⟨.inr rfl, ?_⟩), by repeat' (first | exact trivial | refine ⟨rfl, ?_⟩), by first | rfl | simp [closedB, refsIn, refsInL, refsInO, dom, refsInL_nr, *], by first | rfl | simp [keepB, dom]⟩) ⟨by simp only [List.length_set]; exact h1, hi, fun j hj => ?_⟩ (by simp only; omega)
         simp only at hj ⊢
         by_cases e : j = i
         · subst e; exact getD_seti' (by omega)
         · rw [getD_setn' (Ne.symm e)]; exact h3 j (by omega))
      | (exfalso; omega)
  · have hl : l = zms k a.length := ext_of (by rw [zms_len]; exact h1) fun j hj => by rw [zms_get (by omega)]; exact h3 j (by omega)
    have hi' : ¬ (i : Int) < a.length := by omega
    unfold l_laws_markHandZoneS_0; simp (config := { maxSteps := 2000000 }) only [bitvec_to_nat, reduceIte, Nat.reduceEqDiff, Nat.reduceAdd, Nat.reduceLeDiff, reduceCtorEq, Nat.reduceBEq, Nat.reduceLT, List.forall_mem_cons, retG_ret, retQ_eq, retQ_eqN, retOk, keepB, re_tupl, orr_t, t_markText, set_z0, set_z1, set_z2, set_z3, set_z4, List.set_set, gs, Zone.row, Int.toNat_natCast, List.length_map, List.length_set, Nat.sub_zero, Nat.zero_add, hz, hi']
    refine ⟨by omega, ?_⟩
    rw [hl]
end
end Go.Ve

namespace Go.Ve
noncomputable section
open Go.Proofs
set_option linter.unusedSimpArgs false
set_option linter.unusedVariables false
set_option maxRecDepth 100000
open Go.ChangeShapes Go.WideShapes
def r_markZoneS : RTab
  | [.own o v 0 n, .int .i64 k], M => match M o with
    | some (.arr e cv 5 xs) => some ⟨(cv = v ∧ n = (xs.map unZone).length) ∧ (xs.map unZone).map Zone.row = xs ∧ (xs.map unZone).length ≤ 1048577 ∧ 0 ≤ k ∧ k ≤ 1073741824, fun _ : Unit => True, fun _ => .int .i64 (k + 5 * ((xs.map unZone).length : Nat)), fun _ => [(o, .arr e cv 5 ((zms k (xs.map unZone).length).map Zone.row))]⟩
    | _ => none
  | _, _ => none
theorem h_markZoneS : okTab P 15 r_markZoneS := by
  intro args M o h hp
  unfold r_markZoneS at h
  split at h
  · rename_i o' v n k
    split at h
    · rename_i e cv xs hM
      cases h
      obtain ⟨⟨rfl, rfl⟩, h1, h2, h3⟩ := hp
      have hC := (c_markZoneS cv e k (xs.map unZone) h2 h3).ren (swp 3 o') (swp_swp 3 o')
      have e3 : swp 3 o' 3 = o' := by simp [swp]
      have er : ∀ r : List (List AV), renM (swp 3 o') [(3, AObj.arr e cv 5 r)] = [(o', AObj.arr e cv 5 r)] := fun r => by simp only [renM, renO, e3]
      simp only [renL, ren, er, h1, e3] at hC
      refine ⟨(), trivial, .inl ⟨_, hC, by simpa using hM, fun q hq => .inl ?_, ?_, ?_, ?_, rfl, ?_⟩⟩
      · simp only [List.mem_singleton] at hq; subst hq; simp [dom]
      · simp [dom]
      · simp [refsInL, refsIn, dom]
      · simp [refsInO]
      · simp [refsInO]
    · cases h
  · cases h
def r_markBoxS : RTab
  | [.own o v 0 n, .int .i64 k], M => match M o with
    | some (.arr e cv 6 xs) => some ⟨(cv = v ∧ n = (xs.map unBox).length) ∧ (xs.map unBox).map Box6.row = xs ∧ (xs.map unBox).length ≤ 1048577 ∧ 0 ≤ k ∧ k ≤ 1073741824, fun _ : Unit => True, fun _ => .int .i64 (k + 6 * ((xs.map unBox).length : Nat)), fun _ => [(o, .arr e cv 6 ((bms k (xs.map unBox).length).map Box6.row))]⟩
    | _ => none
  | _, _ => none
theorem h_markBoxS : okTab P 42 r_markBoxS := by
  intro args M o h hp
  unfold r_markBoxS at h
  split at h
  · rename_i o' v n k
    split at h
    · rename_i e cv xs hM
      cases h
      obtain ⟨⟨rfl, rfl⟩, h1, h2, h3⟩ := hp
      have hC := (c_markBoxS cv e k (xs.map unBox) h2 h3).ren (swp 3 o') (swp_swp 3 o')
      have e3 : swp 3 o' 3 = o' := by simp [swp]
      have er : ∀ r : List (List AV), renM (swp 3 o') [(3, AObj.arr e cv 6 r)] = [(o', AObj.arr e cv 6 r)] := fun r => by simp only [renM, renO, e3]
      simp only [renL, ren, er, h1, e3] at hC
      refine ⟨(), trivial, .inl ⟨_, hC, by simpa using hM, fun q hq => .inl ?_, ?_, ?_, ?_, rfl, ?_⟩⟩
      · simp only [List.mem_singleton] at hq; subst hq; simp [dom]
      · simp [dom]
      · simp [refsInL, refsIn, dom]
      · simp [refsInO]
      · simp [refsInO]
    · cases h
  · cases h
def r_markIntS : RTab
  | [.own o v 0 n, .int .i64 k], M => match M o with
    | some (.arr e cv 1 xs) => some ⟨(cv = v ∧ n = (xs.map unI).length) ∧ (xs.map unI).map irow = xs ∧ (xs.map unI).length ≤ 1048577 ∧ 0 ≤ k ∧ k ≤ 1073741824, fun _ : Unit => True, fun _ => .int .i64 (k + ((xs.map unI).length : Nat)), fun _ => [(o, .arr e cv 1 ((ims k (xs.map unI).length).map irow))]⟩
    | _ => none
  | _, _ => none
theorem h_markIntS : okTab P 43 r_markIntS := by
  intro args M o h hp
  unfold r_markIntS at h
  split at h
  · rename_i o' v n k
    split at h
    · rename_i e cv xs hM
      cases h
      obtain ⟨⟨rfl, rfl⟩, h1, h2, h3⟩ := hp
      have hC := (c_markIntS cv e k (xs.map unI) h2 h3).ren (swp 3 o') (swp_swp 3 o')
      have e3 : swp 3 o' 3 = o' := by simp [swp]
      have er : ∀ r : List (List AV), renM (swp 3 o') [(3, AObj.arr e cv 1 r)] = [(o', AObj.arr e cv 1 r)] := fun r => by simp only [renM, renO, e3]
      simp only [renL, ren, er, h1, e3] at hC
      refine ⟨(), trivial, .inl ⟨_, hC, by simpa using hM, fun q hq => .inl ?_, ?_, ?_, ?_, rfl, ?_⟩⟩
      · simp only [List.mem_singleton] at hq; subst hq; simp [dom]
      · simp [dom]
      · simp [refsInL, refsIn, dom]
      · simp [refsInO]
      · simp [refsInO]
    · cases h
  · cases h
def t_heldBoxS : List AV → Option (Prop × AV)
  | [.sl _ 6 xs, .int .i64 k] => some (xs = (bms k xs.length).map Box6.row ∧ xs.length ≤ 1048577 ∧ 0 ≤ k ∧ k ≤ 1073741824, .int .i64 (k + 6 * (xs.length : Nat)))
  | _ => none
theorem h_heldBoxS : ∀ args p v, t_heldBoxS args = some (p, v) → p → Contract P 44 args [] v [] ∧ noref v = true ∧ No99 v := by
  intro args p v h1 h2
  unfold t_heldBoxS at h1
  split at h1
  · rename_i t xs k
    cases h1
    have := c_heldBoxS t k xs.length h2.2.1 h2.2.2
    rw [← h2.1] at this
    exact ⟨this, rfl, trivial⟩
  · cases h1
def t_heldIntS : List AV → Option (Prop × AV)
  | [.sl _ 1 xs, .int .i64 k] => some (xs = (ims k xs.length).map irow ∧ xs.length ≤ 1048577 ∧ 0 ≤ k ∧ k ≤ 1073741824, .int .i64 (k + (xs.length : Nat)))
  | _ => none
theorem h_heldIntS : ∀ args p v, t_heldIntS args = some (p, v) → p → Contract P 45 args [] v [] ∧ noref v = true ∧ No99 v := by
  intro args p v h1 h2
  unfold t_heldIntS at h1
  split at h1
  · rename_i t xs k
    cases h1
    have := c_heldIntS t k xs.length h2.2.1 h2.2.2
    rw [← h2.1] at this
    exact ⟨this, rfl, trivial⟩
  · cases h1
theorem c_markNBoxS (t : Nat) (k : Int) : Contract P 42 [.sl t 6 [], .int .i64 k] [] (.int .i64 k) [] := by
  refine fn_sound (Env.nil P) hm k_laws_markHandBoxS (Nat.le_of_ble_eq_true rfl) rfl ?_; unfold s_laws_markHandBoxS; simp (config := { maxSteps := 2000000 }) only [bitvec_to_nat, reduceIte, Nat.reduceEqDiff, Nat.reduceAdd, Nat.reduceLeDiff, reduceCtorEq, Nat.reduceBEq, Nat.reduceLT, List.forall_mem_cons, List.length_nil, Int.natCast_zero, Int.lt_irrefl, not_false_eq_true, Int.ofNat_zero]
  refine loop_st (fun _ : Unit => []) (fun _ => []) (fun _ => True) (fun _ => 0) () (by simp only [u_E0, u_E1, u_M0, u_M1, w_setE0, w_setE1, w_setM0, w_setM1, reduceIte, Nat.reduceEqDiff]; exact ⟨by repeat' (first | exact trivial | refine ⟨.inr rfl, ?_⟩), by repeat' (first | exact trivial | refine ⟨rfl, ?_⟩), by first | rfl | simp [closedB, refsIn, refsInL, refsInO, dom, refsInL_nr, *], by first | rfl | simp [keepB, dom]⟩) trivial ?_
  intro _ _ NX hN
  unfold l_laws_markHandBoxS_0; simp (config := { maxSteps := 2000000 }) only [bitvec_to_nat, reduceIte, Nat.reduceEqDiff, Nat.reduceAdd, Nat.reduceLeDiff, reduceCtorEq, Nat.reduceBEq, Nat.reduceLT, List.forall_mem_cons, List.length_nil, Int.natCast_zero, Int.lt_irrefl, not_false_eq_true, Int.ofNat_zero]
def t_markNBoxS : List AV → Option (Prop × AV)
  | [.sl _ 6 [], .int .i64 k] => some (True, .int .i64 k)
  | _ => none
theorem h_markNBoxS : ∀ args p v, t_markNBoxS args = some (p, v) → p → Contract P 42 args [] v [] ∧ noref v = true ∧ No99 v := by
  intro args p v h1 h2
  unfold t_markNBoxS at h1
  split at h1
  · rename_i t k
    cases h1
    exact ⟨c_markNBoxS t k, rfl, trivial⟩
  · cases h1
theorem c_heldNBoxS (t : Nat) (k : Int) : Contract P 44 [.sl t 6 [], .int .i64 k] [] (.int .i64 k) [] := by
  refine fn_sound (Env.nil P) hm k_laws_heldHandBoxS (Nat.le_of_ble_eq_true rfl) rfl ?_; unfold s_laws_heldHandBoxS; simp (config := { maxSteps := 2000000 }) only [bitvec_to_nat, reduceIte, Nat.reduceEqDiff, Nat.reduceAdd, Nat.reduceLeDiff, reduceCtorEq, Nat.reduceBEq, Nat.reduceLT, List.forall_mem_cons, List.length_nil, Int.natCast_zero, Int.lt_irrefl, not_false_eq_true, Int.ofNat_zero]
  refine loop_st (fun _ : Unit => []) (fun _ => []) (fun _ => True) (fun _ => 0) () (by simp only [u_E0, u_E1, u_M0, u_M1, w_setE0, w_setE1, w_setM0, w_setM1, reduceIte, Nat.reduceEqDiff]; exact ⟨by repeat' (first | exact trivial | refine ⟨.inr rfl, ?_⟩), by repeat' (first | exact trivial | refine ⟨rfl, ?_⟩), by first | rfl | simp [closedB, refsIn, refsInL, refsInO, dom, refsInL_nr, *], by first | rfl | simp [keepB, dom]⟩) trivial ?_
  intro _ _ NX hN
  unfold l_laws_heldHandBoxS_0; simp (config := { maxSteps := 2000000 }) only [bitvec_to_nat, reduceIte, Nat.reduceEqDiff, Nat.reduceAdd, Nat.reduceLeDiff, reduceCtorEq, Nat.reduceBEq, Nat.reduceLT, List.forall_mem_cons, List.length_nil, Int.natCast_zero, Int.lt_irrefl, not_false_eq_true, Int.ofNat_zero]
def t_heldNBoxS : List AV → Option (Prop × AV)
  | [.sl _ 6 [], .int .i64 k] => some (True, .int .i64 k)
  | _ => none
theorem h_heldNBoxS : ∀ args p v, t_heldNBoxS args = some (p, v) → p → Contract P 44 args [] v [] ∧ noref v = true ∧ No99 v := by
  intro args p v h1 h2
  unfold t_heldNBoxS at h1
  split at h1
  · rename_i t k
    cases h1
    exact ⟨c_heldNBoxS t k, rfl, trivial⟩
  · cases h1
theorem c_markCraftG (nm : ByteArray) (q s nr no : Int) (v w e e' : Nat) (tu : List Box6) (fl : List Int) (k : Int) (hk : 0 ≤ k ∧ k ≤ 104857600) (hu : tu.length ≤ 1048577) (hf : fl.length ≤ 1048577) :
    Contract P 16 [.agg [.str nm, .int .i64 q, .int .i64 s, .int .i64 nr, .int .i64 no, .own 3 v 0 tu.length, .own 4 w 0 fl.length], .int .i64 k] [(3, .arr e v 6 (tu.map Box6.row)), (4, .arr e' w 1 (fl.map irow))] (.int .i64 (k + 6 * tu.length + fl.length))
      [(3, .arr e v 6 ((bms k tu.length).map Box6.row)), (4, .arr e' w 1 ((ims (k + 6 * tu.length) fl.length).map irow))] := by
  refine fn_sound (((Env.nil P).addR 42 r_markBoxS h_markBoxS).addR 43 r_markIntS h_markIntS) hm k_laws_markLapCraft (Nat.le_of_ble_eq_true rfl) rfl ?_; unfold s_laws_markLapCraft; simp (config := { maxSteps := 2000000 }) only [bitvec_to_nat, reduceIte, Nat.reduceEqDiff, Nat.reduceAdd, Nat.reduceLeDiff, reduceCtorEq, Nat.reduceBEq, Nat.reduceLT, List.forall_mem_cons, retG_ret, retQ_eq, retQ_eqN, retOk, keepB, re_tupl, orr_t, r_markBoxS, r_markIntS, un_box, un_i, List.length_map, Int.toNat_natCast, Nat.zero_add, Nat.sub_zero, bms_len, ims_len]
  repeat' (first | with_reducible apply And.intro | with_reducible intro _)
  all_goals first
    | with_reducible assumption
    | omega
    | exact trivial
    | rfl
    | (exfalso; omega)
theorem c_markWordG (kd : Int) (fr dst fl : ByteArray) (nr la tn : Int) (v e : Nat) (tu : List Box6) (k : Int) (hk : 0 ≤ k ∧ k ≤ 104857600) (hu : tu.length ≤ 1048577) :
    Contract P 17 [.agg [.int .i64 kd, .str fr, .str dst, .str fl, .int .i64 nr, .int .i64 la, .int .i64 tn, .own 3 v 0 tu.length], .int .i64 k] [(3, .arr e v 6 (tu.map Box6.row))] (.int .i64 (k + 6 * tu.length)) [(3, .arr e v 6 ((bms k tu.length).map Box6.row))] := by
  refine fn_sound ((Env.nil P).addR 42 r_markBoxS h_markBoxS) hm k_laws_markHandWord (Nat.le_of_ble_eq_true rfl) rfl ?_; unfold s_laws_markHandWord; simp (config := { maxSteps := 2000000 }) only [bitvec_to_nat, reduceIte, Nat.reduceEqDiff, Nat.reduceAdd, Nat.reduceLeDiff, reduceCtorEq, Nat.reduceBEq, Nat.reduceLT, List.forall_mem_cons, retG_ret, retQ_eq, retQ_eqN, retOk, keepB, re_tupl, orr_t, r_markBoxS, un_box, un_i, List.length_map, Int.toNat_natCast, Nat.zero_add, Nat.sub_zero, bms_len, ims_len]
  repeat' (first | with_reducible apply And.intro | with_reducible intro _)
  all_goals first
    | with_reducible assumption
    | omega
    | exact trivial
    | rfl
    | (exfalso; omega)
theorem c_markWordN (kd : Int) (fr dst fl : ByteArray) (nr la tn : Int) (t : Nat) (k : Int) : Contract P 17 [.agg [.int .i64 kd, .str fr, .str dst, .str fl, .int .i64 nr, .int .i64 la, .int .i64 tn, .sl t 6 []], .int .i64 k] [] (.int .i64 k) [] := by
  refine fn_sound ((Env.nil P).add 42 t_markNBoxS h_markNBoxS) hm k_laws_markHandWord (Nat.le_of_ble_eq_true rfl) rfl ?_; unfold s_laws_markHandWord; simp (config := { maxSteps := 2000000 }) only [bitvec_to_nat, reduceIte, Nat.reduceEqDiff, Nat.reduceAdd, Nat.reduceLeDiff, reduceCtorEq, Nat.reduceBEq, Nat.reduceLT, List.forall_mem_cons, t_markNBoxS, un_box, un_i, List.length_map, Int.toNat_natCast, Nat.zero_add, Nat.sub_zero, bms_len, ims_len]
theorem c_heldWordN (kd : Int) (fr dst fl : ByteArray) (nr la tn : Int) (t : Nat) (k : Int) (hk : 0 ≤ k) : Contract P 19 [.agg [.int .i64 kd, .str fr, .str dst, .str fl, .int .i64 nr, .int .i64 la, .int .i64 tn, .sl t 6 []], .int .i64 k] [] (.int .i64 k) [] := by
  refine fn_sound ((Env.nil P).add 44 t_heldNBoxS h_heldNBoxS) hm k_laws_heldHandWord (Nat.le_of_ble_eq_true rfl) rfl ?_; unfold s_laws_heldHandWord; simp (config := { maxSteps := 2000000 }) only [bitvec_to_nat, reduceIte, Nat.reduceEqDiff, Nat.reduceAdd, Nat.reduceLeDiff, reduceCtorEq, Nat.reduceBEq, Nat.reduceLT, List.forall_mem_cons, t_heldNBoxS, un_box, un_i, List.length_map, Int.toNat_natCast, Nat.zero_add, Nat.sub_zero, bms_len, ims_len]
  repeat' (first | with_reducible apply And.intro | with_reducible intro _)
  all_goals first
    | with_reducible assumption
    | omega
    | exact trivial
    | rfl
    | (exfalso; omega)
theorem c_heldCraftG (nm : ByteArray) (q s nr no : Int) (t t' n m : Nat) (k : Int) (hk : 0 ≤ k ∧ k ≤ 104857600) (hu : n ≤ 1048577) (hf : m ≤ 1048577) :
    Contract P 18 [.agg [.str nm, .int .i64 q, .int .i64 s, .int .i64 nr, .int .i64 no, .sl t 6 ((bms k n).map Box6.row), .sl t' 1 ((ims (k + 6 * n) m).map irow)], .int .i64 k] [] (.int .i64 (k + 6 * n + m)) [] := by
  refine fn_sound (((Env.nil P).add 44 t_heldBoxS h_heldBoxS).add 45 t_heldIntS h_heldIntS) hm k_laws_heldLapCraft (Nat.le_of_ble_eq_true rfl) rfl ?_; unfold s_laws_heldLapCraft; simp (config := { maxSteps := 2000000 }) only [bitvec_to_nat, reduceIte, Nat.reduceEqDiff, Nat.reduceAdd, Nat.reduceLeDiff, reduceCtorEq, Nat.reduceBEq, Nat.reduceLT, List.forall_mem_cons, t_heldBoxS, t_heldIntS, un_box, un_i, List.length_map, Int.toNat_natCast, Nat.zero_add, Nat.sub_zero, bms_len, ims_len]
  repeat' (first | with_reducible apply And.intro | with_reducible intro _)
  all_goals first
    | with_reducible assumption
    | omega
    | exact trivial
    | rfl
    | (exfalso; omega)
theorem c_eqWordG (w : Word) (t2 t3 : Nat) (hw : w.tu.length ≤ 1048577) : Contract P 13 [.agg (w.row t2), .agg (w.row t3)] [] (.bool true) [] := by
  simp only [Word.row]
  refine fn_sound ((Env.nil P).add 38 t_eqBoxS h_eqBoxS) hm k_laws_eqHandWord (Nat.le_of_ble_eq_true rfl) rfl ?_; unfold s_laws_eqHandWord; simp (config := { maxSteps := 2000000 }) only [bitvec_to_nat, reduceIte, Nat.reduceEqDiff, Nat.reduceAdd, Nat.reduceLeDiff, reduceCtorEq, Nat.reduceBEq, Nat.reduceLT, List.forall_mem_cons, t_eqBoxS, un_box, List.length_map, not_true_eq_false, ne_eq, eq_self, bne_self_eq_false]
  repeat' (first | with_reducible apply And.intro | with_reducible intro _)
  all_goals first
    | with_reducible assumption
    | omega
    | exact trivial
    | rfl
    | (exfalso; omega)
end
end Go.Ve

namespace Go.Ve
noncomputable section
open Go.Proofs
set_option linter.unusedSimpArgs false
set_option linter.unusedVariables false
set_option maxRecDepth 100000
open Go.ChangeShapes Go.WideShapes
def t_eqCraft : List AV → Option (Prop × AV)
  | [.agg [.str nm, .int .i64 q, .int .i64 s, .int .i64 nr, .int .i64 no, .sl t 6 tu, .sl t' 1 fl], .agg [.str nm2, .int .i64 q2, .int .i64 s2, .int .i64 nr2, .int .i64 no2, .sl t2 6 tu2, .sl t3 1 fl2]] =>
    some (((tu.map unBox).map Box6.row = tu ∧ (fl.map unI).map irow = fl) ∧ (nm2 = nm ∧ q2 = q ∧ s2 = s ∧ nr2 = nr ∧ no2 = no ∧ tu2 = tu ∧ fl2 = fl) ∧ (tu.map unBox).length ≤ 1048576 ∧ (fl.map unI).length ≤ 1048576, .bool true)
  | _ => none
theorem h_eqCraft : ∀ args p v, t_eqCraft args = some (p, v) → p → Contract P 12 args [] v [] ∧ noref v = true ∧ No99 v := by
  intro args p v h1 h2
  unfold t_eqCraft at h1
  split at h1
  · rename_i nm q s nr no t tu t' fl nm2 q2 s2 nr2 no2 t2 tu2 t3 fl2
    cases h1
    obtain ⟨E, ⟨rfl, rfl, rfl, rfl, rfl, rfl, rfl⟩, HP⟩ := h2
    have := c_eqCraft1 nm2 q2 s2 nr2 no2 t t' (tu2.map unBox) (fl2.map unI) t2 t3 HP.1 HP.2
    simp only [E.1, E.2] at this
    exact ⟨this, rfl, trivial⟩
  · cases h1
def t_eqWordG : List AV → Option (Prop × AV)
  | [.agg [.int .i64 kd, .str fr, .str dst, .str fl, .int .i64 nr, .int .i64 la, .int .i64 tn, .sl t 6 tu], .agg [.int .i64 kd2, .str fr2, .str dst2, .str fl2, .int .i64 nr2, .int .i64 la2, .int .i64 tn2, .sl t2 6 tu2]] =>
    some ((tu.map unBox).map Box6.row = tu ∧ (kd2 = kd ∧ fr2 = fr ∧ dst2 = dst ∧ fl2 = fl ∧ nr2 = nr ∧ la2 = la ∧ tn2 = tn ∧ tu2 = tu) ∧ (tu.map unBox).length ≤ 1048577, .bool true)
  | _ => none
theorem h_eqWordG : ∀ args p v, t_eqWordG args = some (p, v) → p → Contract P 13 args [] v [] ∧ noref v = true ∧ No99 v := by
  intro args p v h1 h2
  unfold t_eqWordG at h1
  split at h1
  · rename_i kd fr dst fl nr la tn t tu kd2 fr2 dst2 fl2 nr2 la2 tn2 t2 tu2
    cases h1
    obtain ⟨E, ⟨rfl, rfl, rfl, rfl, rfl, rfl, rfl, rfl⟩, HP⟩ := h2
    have := c_eqWordG ⟨kd2, fr2, dst2, fl2, nr2, la2, tn2, tu2.map unBox⟩ t t2 HP
    simp only [Word.row, E] at this
    exact ⟨this, rfl, trivial⟩
  · cases h1
def t_heldCraftG : List AV → Option (Prop × AV)
  | [.agg [.str _, .int .i64 _, .int .i64 _, .int .i64 _, .int .i64 _, .sl _ 6 bx, .sl _ 1 ix], .int .i64 k] =>
    some ((bx = (bms k bx.length).map Box6.row ∧ ix = (ims (k + 6 * (bx.length : Nat)) ix.length).map irow) ∧ (0 ≤ k ∧ k ≤ 104857600) ∧ bx.length ≤ 1048577 ∧ ix.length ≤ 1048577, .int .i64 (k + 6 * (bx.length : Nat) + (ix.length : Nat)))
  | _ => none
theorem h_heldCraftG : ∀ args p v, t_heldCraftG args = some (p, v) → p → Contract P 18 args [] v [] ∧ noref v = true ∧ No99 v := by
  intro args p v h1 h2
  unfold t_heldCraftG at h1
  split at h1
  · rename_i nm q s nr no t bx t' ix k
    cases h1
    obtain ⟨⟨e1, e2⟩, h3, h4, h5⟩ := h2
    have := c_heldCraftG nm q s nr no t t' bx.length ix.length k h3 h4 h5
    rw [← e1, ← e2] at this
    exact ⟨this, rfl, trivial⟩
  · cases h1
def t_heldWordN : List AV → Option (Prop × AV)
  | [.agg [.int .i64 _, .str _, .str _, .str _, .int .i64 _, .int .i64 _, .int .i64 _, .sl _ 6 []], .int .i64 k] => some (0 ≤ k, .int .i64 k)
  | _ => none
theorem h_heldWordN : ∀ args p v, t_heldWordN args = some (p, v) → p → Contract P 19 args [] v [] ∧ noref v = true ∧ No99 v := by
  intro args p v h1 h2
  unfold t_heldWordN at h1
  split at h1
  · rename_i kd fr dst fl nr la tn t k
    cases h1
    exact ⟨c_heldWordN kd fr dst fl nr la tn t k h2, rfl, trivial⟩
  · cases h1
theorem no99_craft' (nm : ByteArray) (q s nr no : Int) (tu : List Box6) (fl : List Int) : No99 (.agg [.str nm, .int .i64 q, .int .i64 s, .int .i64 nr, .int .i64 no, .sl 0 6 (tu.map Box6.row), .sl 0 1 (fl.map irow)]) := by
  simp only [No99, No99L]; exact ⟨trivial, trivial, trivial, trivial, trivial, ⟨by omega, no99_box tu⟩, ⟨by omega, no99_i fl⟩, trivial⟩
theorem no99_word' (w : Word) : No99 (.agg (w.row 0)) := by
  simp only [Word.row, No99, No99L]; exact ⟨trivial, trivial, trivial, trivial, trivial, trivial, trivial, ⟨by omega, no99_box w.tu⟩, trivial⟩
set_option maxHeartbeats 8000000 in
theorem c_law (t0 t t' t2 : Nat) (zs : List Zone) (nm : ByteArray) (q s nr no : Int) (tu : List Box6) (fl : List Int) (w : Word) (now : Int) (hz : zs.length ≤ 9223372036854775807 ∧ ∀ y ∈ zs, y.fitp) (hn : nm.toList.length ≤ 9223372036854775807) (hu : tu.length ≤ 9223372036854775807) (hk : fl.length ≤ 9223372036854775807) (hw : w.fitp)
    (nr' no' kd' nw' : Int) (fr' fl' : ByteArray) (ok' : Bool) (tu' : List Box6)
    (hS : zs.length ≤ 1048576 → tu.length ≤ 1048576 → fl.length ≤ 1048576 → w.tu.length ≤ 1048576 → tu'.length ≤ 1048576 ∧ ∀ t0 t t', Contract P 7 [.sl t0 5 (zs.map Zone.row), .agg [.str nm, .int .i64 q, .int .i64 s, .int .i64 nr, .int .i64 no, .sl t 6 (tu.map Box6.row), .sl t' 1 (fl.map irow)], .agg (w.row 0), .int .i64 now] [] (.tup [.agg [.str nm, .int .i64 q, .int .i64 s, .int .i64 nr', .int .i64 no', .own 711 1 0 tu'.length, .own 712 1 0 fl.length], .agg [.int .i64 kd', .str ⟨#[]⟩, .str fr', .str fl', .int .i64 nw', .int .i64 0, .int .i64 0, .sl 0 6 []], .bool ok']) [(711, .arr 93 1 6 (tu'.map Box6.row)), (712, .arr 3 1 1 (fl.map irow))])
    (hI : zs.length ≤ 1048576 → tu.length ≤ 1048576 → fl.length ≤ 1048576 → w.tu.length ≤ 1048576 → ∀ t0 t t' t2, Contract P 11 [.sl t0 5 (zs.map Zone.row), .agg [.str nm, .int .i64 q, .int .i64 s, .int .i64 nr, .int .i64 no, .sl t 6 (tu.map Box6.row), .sl t' 1 (fl.map irow)], .agg (w.row t2), .int .i64 now] [] (.tup [.agg [.str nm, .int .i64 q, .int .i64 s, .int .i64 nr', .int .i64 no', .own 731 0 0 tu'.length, .own 732 0 0 fl.length], .agg [.int .i64 kd', .str ⟨#[]⟩, .str fr', .str fl', .int .i64 nw', .int .i64 0, .int .i64 0, .sl 0 6 []], .bool ok']) [(731, .arr 93 0 6 (tu'.map Box6.row)), (732, .arr 3 0 1 (fl.map irow))]) :
    Contract P 3 [.sl t0 5 (zs.map Zone.row), .agg [.str nm, .int .i64 q, .int .i64 s, .int .i64 nr, .int .i64 no, .sl t 6 (tu.map Box6.row), .sl t' 1 (fl.map irow)], .agg (w.row 1), .int .i64 now] [] (.bool true) [] := by
  have tkZ : List.take zs.length (zs.map Zone.row) = zs.map Zone.row := List.take_of_length_le (by simp)
  have tkB : List.take tu.length (tu.map Box6.row) = tu.map Box6.row := List.take_of_length_le (by simp)
  have tkI : List.take fl.length (fl.map irow) = fl.map irow := List.take_of_length_le (by simp)
  have tkT : List.take tu'.length (tu'.map Box6.row) = tu'.map Box6.row := List.take_of_length_le (by simp)
  have tkW : List.take w.tu.length (w.tu.map Box6.row) = w.tu.map Box6.row := List.take_of_length_le (by simp)
  have tkMB : ∀ (k : Int) (n : Nat), List.take n ((bms k n).map Box6.row) = (bms k n).map Box6.row := fun k n => List.take_of_length_le (by rw [List.length_map, bms_len]; omega)
  have tkMI : ∀ (k : Int) (n : Nat), List.take n ((ims k n).map irow) = (ims k n).map irow := fun k n => List.take_of_length_le (by rw [List.length_map, ims_len]; omega)
  have z1 : 0 ≤ szS Zone.sz zs 1048576 → zs.length ≤ 1048576 := fun h => (szS_ok (p := fun _ => True) meas_Zone (fun _ _ _ _ => trivial) (by omega) h).1
  have z2 : szS Zone.sz zs 1048576 ≤ 1048576 := by have := (meas_szS meas_Zone zs 1048576 (by omega)).2.2; omega
  generalize hn1 : szS Zone.sz zs 1048576 = n1 at *
  have z3 : 0 ≤ szCraft n1 nm.toList.length tu.length fl.length → (tu.length ≤ 1048576 ∧ fl.length ≤ 1048576) ∧ szCraft n1 nm.toList.length tu.length fl.length ≤ 1048576 := fun h => by unfold szCraft at h ⊢; split at h <;> split <;> omega
  generalize hn2 : szCraft n1 nm.toList.length tu.length fl.length = n2 at *
  have z4 : n2 ≤ 1048576 → 0 ≤ Word.sz w n2 → w.tu.length ≤ 1048576 := fun h1 h => Word.sz_ok h1 h
  generalize hn3 : Word.sz w n2 = n3 at *
  have hw' := hw
  simp only [Word.row]
  refine fn_sound ((((((((((Env.nil P).addR 15 r_markZoneS h_markZoneS).add 4 t_szZoneS h_szZoneS).add 5 t_szCraft h_szCraft).add 6 t_szWord h_szWord).add 14 t_eqZoneS h_eqZoneS).add 12 t_eqCraft h_eqCraft).add 13 t_eqWordG h_eqWordG).add 18 t_heldCraftG h_heldCraftG).add 19 t_heldWordN h_heldWordN) hm k_laws_FnExactLapTake (Nat.le_of_ble_eq_true rfl) rfl ?_; unfold s_laws_FnExactLapTake; simp (config := { maxSteps := 2000000 }) only [bitvec_to_nat, reduceIte, Nat.reduceEqDiff, Nat.reduceAdd, Nat.reduceLeDiff, reduceCtorEq, Nat.reduceBEq, Nat.reduceLT, List.forall_mem_cons, retG_ret, retQ_eq, retQ_eqN, retOk, keepB, re_tupl, orr_t, t_szZoneS, t_szCraft, t_szWord, t_eqZoneS, t_eqCraft, t_eqWordG, t_heldCraftG, t_heldWordN, r_markZoneS, Zone.row, Zone_eta, un_Zone, un_box, un_s, un_i, irow, Box6.row, box_eta6, List.length_map, List.map_nil, List.length_nil, zms_len, bms_len, ims_len, take_all, tkZ, tkB, tkI, tkT, tkW, tkMB, tkMI, not_true_eq_false, ne_eq, eq_self, bne_self_eq_false, Int.toNat_natCast, Nat.zero_add, Nat.sub_zero, ghost, noref, flatOk, Word.row, Word_eta, and_self, hn1, hn2, hn3]

  refine ⟨⟨by omega, hz⟩, fun g1 => ⟨⟨by omega, hn, hu, hk⟩, fun g2 => ⟨⟨by omega, hw⟩, fun g3 => ?_⟩⟩⟩
  have b1 := z1 (by omega)
  obtain ⟨⟨b2, b3⟩, b4⟩ := z3 (by omega)
  have b5 := z4 b4 (by omega)
  have hC := c_toZoneS t0 zs b1
  have n9Z : No99 (.sl 0 5 (zs.map Zone.row)) := by simp only [No99]; exact ⟨by omega, no99_Zone zs⟩
  have hCr := c_toCraft nm q s nr no t t' tu fl b2 b3
  have n9C := no99_craft' nm q s nr no tu fl
  have hW := c_toWord w b5
  have n9W := no99_word' w
  simp only [Word.row] at hW n9W
  obtain ⟨b6, hS⟩ := hS b1 b2 b3 b5
  have hS := hS 0 0 0
  have hI := hI b1 b2 b3 b5
  have hI1 := hI 99 99 99 99
  have hI2 := ((hI 0 0 0 0).ren (swp 731 741) (swp_swp 731 741)).ren (swp 732 742) (swp_swp 732 742)
  have hO1 := (c_toZoneSO' t0 zs b1).ren (swp 107 721) (swp_swp 107 721)
  have hO2 := ((c_toCraftO nm q s nr no t t' tu fl b2 b3).ren (swp 601 722) (swp_swp 601 722)).ren (swp 602 723) (swp_swp 602 723)
  have hO3 := (c_toWordO w 1 b5).ren (swp 601 724) (swp_swp 601 724)
  simp only [renL, ren, renM, renO, swp, reduceIte, Nat.reduceEqDiff, Word.row] at hS hI1 hI2 hO1 hO2 hO3
  refine ⟨_, _, .inr (.inl ⟨rfl, _, rfl, hC, rfl, by first | exact n9Z | exact n9C | exact n9W⟩), ?_⟩
  simp (config := { maxSteps := 2000000 }) only [bitvec_to_nat, reduceIte, Nat.reduceEqDiff, Nat.reduceAdd, Nat.reduceLeDiff, reduceCtorEq, Nat.reduceBEq, Nat.reduceLT, List.forall_mem_cons, retG_ret, retQ_eq, retQ_eqN, retOk, keepB, re_tupl, orr_t, t_szZoneS, t_szCraft, t_szWord, t_eqZoneS, t_eqCraft, t_eqWordG, t_heldCraftG, t_heldWordN, r_markZoneS, Zone.row, Zone_eta, un_Zone, un_box, un_s, un_i, irow, Box6.row, box_eta6, List.length_map, List.map_nil, List.length_nil, zms_len, bms_len, ims_len, take_all, tkZ, tkB, tkI, tkT, tkW, tkMB, tkMI, not_true_eq_false, ne_eq, eq_self, bne_self_eq_false, Int.toNat_natCast, Nat.zero_add, Nat.sub_zero, ghost, noref, flatOk, Word.row, Word_eta, and_self, hn1, hn2, hn3]
  refine ⟨_, _, .inr (.inl ⟨rfl, _, rfl, hCr, rfl, by first | exact n9Z | exact n9C | exact n9W⟩), ?_⟩
  simp (config := { maxSteps := 2000000 }) only [bitvec_to_nat, reduceIte, Nat.reduceEqDiff, Nat.reduceAdd, Nat.reduceLeDiff, reduceCtorEq, Nat.reduceBEq, Nat.reduceLT, List.forall_mem_cons, retG_ret, retQ_eq, retQ_eqN, retOk, keepB, re_tupl, orr_t, t_szZoneS, t_szCraft, t_szWord, t_eqZoneS, t_eqCraft, t_eqWordG, t_heldCraftG, t_heldWordN, r_markZoneS, Zone.row, Zone_eta, un_Zone, un_box, un_s, un_i, irow, Box6.row, box_eta6, List.length_map, List.map_nil, List.length_nil, zms_len, bms_len, ims_len, take_all, tkZ, tkB, tkI, tkT, tkW, tkMB, tkMI, not_true_eq_false, ne_eq, eq_self, bne_self_eq_false, Int.toNat_natCast, Nat.zero_add, Nat.sub_zero, ghost, noref, flatOk, Word.row, Word_eta, and_self, hn1, hn2, hn3]
  refine ⟨_, _, .inr (.inl ⟨rfl, _, rfl, hW, rfl, by first | exact n9Z | exact n9C | exact n9W⟩), ?_⟩
  simp (config := { maxSteps := 2000000 }) only [bitvec_to_nat, reduceIte, Nat.reduceEqDiff, Nat.reduceAdd, Nat.reduceLeDiff, reduceCtorEq, Nat.reduceBEq, Nat.reduceLT, List.forall_mem_cons, retG_ret, retQ_eq, retQ_eqN, retOk, keepB, re_tupl, orr_t, t_szZoneS, t_szCraft, t_szWord, t_eqZoneS, t_eqCraft, t_eqWordG, t_heldCraftG, t_heldWordN, r_markZoneS, Zone.row, Zone_eta, un_Zone, un_box, un_s, un_i, irow, Box6.row, box_eta6, List.length_map, List.map_nil, List.length_nil, zms_len, bms_len, ims_len, take_all, tkZ, tkB, tkI, tkT, tkW, tkMB, tkMI, not_true_eq_false, ne_eq, eq_self, bne_self_eq_false, Int.toNat_natCast, Nat.zero_add, Nat.sub_zero, ghost, noref, flatOk, Word.row, Word_eta, and_self, hn1, hn2, hn3]
  refine ⟨_, _, .inr (.inr ⟨_, by simp [purL, pur, getM, take_all, tkZ, tkB, tkI, tkT, tkW], hS, by simp [getM], by simp [refsIn, refsInL, dom], rfl, by simp [No99, No99L, No99LL], by simp [No99O, no99_Zone, no99_box, no99_i]⟩), ?_⟩
  simp (config := { maxSteps := 2000000 }) only [bitvec_to_nat, reduceIte, Nat.reduceEqDiff, Nat.reduceAdd, Nat.reduceLeDiff, reduceCtorEq, Nat.reduceBEq, Nat.reduceLT, List.forall_mem_cons, retG_ret, retQ_eq, retQ_eqN, retOk, keepB, re_tupl, orr_t, t_szZoneS, t_szCraft, t_szWord, t_eqZoneS, t_eqCraft, t_eqWordG, t_heldCraftG, t_heldWordN, r_markZoneS, Zone.row, Zone_eta, un_Zone, un_box, un_s, un_i, irow, Box6.row, box_eta6, List.length_map, List.map_nil, List.length_nil, zms_len, bms_len, ims_len, take_all, tkZ, tkB, tkI, tkT, tkW, tkMB, tkMI, not_true_eq_false, ne_eq, eq_self, bne_self_eq_false, Int.toNat_natCast, Nat.zero_add, Nat.sub_zero, ghost, noref, flatOk, Word.row, Word_eta, and_self, hn1, hn2, hn3]
  refine ⟨_, _, .inr (.inr ⟨_, by simp [purL, pur, getM, take_all, tkZ, tkB, tkI, tkT, tkW], hO1, by simp [getM], by simp [refsIn, refsInL, dom], rfl, by simp [No99, No99L, No99LL], by simp [No99O, no99_Zone, no99_box, no99_i]⟩), ?_⟩
  simp (config := { maxSteps := 2000000 }) only [bitvec_to_nat, reduceIte, Nat.reduceEqDiff, Nat.reduceAdd, Nat.reduceLeDiff, reduceCtorEq, Nat.reduceBEq, Nat.reduceLT, List.forall_mem_cons, retG_ret, retQ_eq, retQ_eqN, retOk, keepB, re_tupl, orr_t, t_szZoneS, t_szCraft, t_szWord, t_eqZoneS, t_eqCraft, t_eqWordG, t_heldCraftG, t_heldWordN, r_markZoneS, Zone.row, Zone_eta, un_Zone, un_box, un_s, un_i, irow, Box6.row, box_eta6, List.length_map, List.map_nil, List.length_nil, zms_len, bms_len, ims_len, take_all, tkZ, tkB, tkI, tkT, tkW, tkMB, tkMI, not_true_eq_false, ne_eq, eq_self, bne_self_eq_false, Int.toNat_natCast, Nat.zero_add, Nat.sub_zero, ghost, noref, flatOk, Word.row, Word_eta, and_self, hn1, hn2, hn3]
  refine ⟨_, _, .inr (.inr ⟨_, by simp [purL, pur, getM, take_all, tkZ, tkB, tkI, tkT, tkW], hO2, by simp [getM], by simp [refsIn, refsInL, dom], rfl, by simp [No99, No99L, No99LL], by simp [No99O, no99_Zone, no99_box, no99_i]⟩), ?_⟩
  simp (config := { maxSteps := 2000000 }) only [bitvec_to_nat, reduceIte, Nat.reduceEqDiff, Nat.reduceAdd, Nat.reduceLeDiff, reduceCtorEq, Nat.reduceBEq, Nat.reduceLT, List.forall_mem_cons, retG_ret, retQ_eq, retQ_eqN, retOk, keepB, re_tupl, orr_t, t_szZoneS, t_szCraft, t_szWord, t_eqZoneS, t_eqCraft, t_eqWordG, t_heldCraftG, t_heldWordN, r_markZoneS, Zone.row, Zone_eta, un_Zone, un_box, un_s, un_i, irow, Box6.row, box_eta6, List.length_map, List.map_nil, List.length_nil, zms_len, bms_len, ims_len, take_all, tkZ, tkB, tkI, tkT, tkW, tkMB, tkMI, not_true_eq_false, ne_eq, eq_self, bne_self_eq_false, Int.toNat_natCast, Nat.zero_add, Nat.sub_zero, ghost, noref, flatOk, Word.row, Word_eta, and_self, hn1, hn2, hn3]
  refine ⟨_, _, .inr (.inr ⟨_, by simp [purL, pur, getM, take_all, tkZ, tkB, tkI, tkT, tkW], hO3, by simp [getM], by simp [refsIn, refsInL, dom], rfl, by simp [No99, No99L, No99LL], by simp [No99O, no99_Zone, no99_box, no99_i]⟩), ?_⟩
  simp (config := { maxSteps := 2000000 }) only [bitvec_to_nat, reduceIte, Nat.reduceEqDiff, Nat.reduceAdd, Nat.reduceLeDiff, reduceCtorEq, Nat.reduceBEq, Nat.reduceLT, List.forall_mem_cons, retG_ret, retQ_eq, retQ_eqN, retOk, keepB, re_tupl, orr_t, t_szZoneS, t_szCraft, t_szWord, t_eqZoneS, t_eqCraft, t_eqWordG, t_heldCraftG, t_heldWordN, r_markZoneS, Zone.row, Zone_eta, un_Zone, un_box, un_s, un_i, irow, Box6.row, box_eta6, List.length_map, List.map_nil, List.length_nil, zms_len, bms_len, ims_len, take_all, tkZ, tkB, tkI, tkT, tkW, tkMB, tkMI, not_true_eq_false, ne_eq, eq_self, bne_self_eq_false, Int.toNat_natCast, Nat.zero_add, Nat.sub_zero, ghost, noref, flatOk, Word.row, Word_eta, and_self, hn1, hn2, hn3]
  refine ⟨_, _, .inr (.inr ⟨_, by simp [purL, pur, getM, take_all, tkZ, tkB, tkI, tkT, tkW], hI1, by simp [getM], by simp [refsIn, refsInL, dom], rfl, by simp [No99, No99L, No99LL], by simp [No99O, no99_Zone, no99_box, no99_i]⟩), ?_⟩
  simp (config := { maxSteps := 2000000 }) only [bitvec_to_nat, reduceIte, Nat.reduceEqDiff, Nat.reduceAdd, Nat.reduceLeDiff, reduceCtorEq, Nat.reduceBEq, Nat.reduceLT, List.forall_mem_cons, retG_ret, retQ_eq, retQ_eqN, retOk, keepB, re_tupl, orr_t, t_szZoneS, t_szCraft, t_szWord, t_eqZoneS, t_eqCraft, t_eqWordG, t_heldCraftG, t_heldWordN, r_markZoneS, Zone.row, Zone_eta, un_Zone, un_box, un_s, un_i, irow, Box6.row, box_eta6, List.length_map, List.map_nil, List.length_nil, zms_len, bms_len, ims_len, take_all, tkZ, tkB, tkI, tkT, tkW, tkMB, tkMI, not_true_eq_false, ne_eq, eq_self, bne_self_eq_false, Int.toNat_natCast, Nat.zero_add, Nat.sub_zero, ghost, noref, flatOk, Word.row, Word_eta, and_self, hn1, hn2, hn3]
  refine ⟨by omega, _, _, .inr (.inl ⟨rfl, _, rfl, hC, rfl, by first | exact n9Z | exact n9C | exact n9W⟩), ?_⟩
  simp (config := { maxSteps := 2000000 }) only [bitvec_to_nat, reduceIte, Nat.reduceEqDiff, Nat.reduceAdd, Nat.reduceLeDiff, reduceCtorEq, Nat.reduceBEq, Nat.reduceLT, List.forall_mem_cons, retG_ret, retQ_eq, retQ_eqN, retOk, keepB, re_tupl, orr_t, t_szZoneS, t_szCraft, t_szWord, t_eqZoneS, t_eqCraft, t_eqWordG, t_heldCraftG, t_heldWordN, r_markZoneS, Zone.row, Zone_eta, un_Zone, un_box, un_s, un_i, irow, Box6.row, box_eta6, List.length_map, List.map_nil, List.length_nil, zms_len, bms_len, ims_len, take_all, tkZ, tkB, tkI, tkT, tkW, tkMB, tkMI, not_true_eq_false, ne_eq, eq_self, bne_self_eq_false, Int.toNat_natCast, Nat.zero_add, Nat.sub_zero, ghost, noref, flatOk, Word.row, Word_eta, and_self, hn1, hn2, hn3]
  refine ⟨by omega, _, _, .inr (.inl ⟨rfl, _, rfl, hCr, rfl, by first | exact n9Z | exact n9C | exact n9W⟩), ?_⟩
  simp (config := { maxSteps := 2000000 }) only [bitvec_to_nat, reduceIte, Nat.reduceEqDiff, Nat.reduceAdd, Nat.reduceLeDiff, reduceCtorEq, Nat.reduceBEq, Nat.reduceLT, List.forall_mem_cons, retG_ret, retQ_eq, retQ_eqN, retOk, keepB, re_tupl, orr_t, t_szZoneS, t_szCraft, t_szWord, t_eqZoneS, t_eqCraft, t_eqWordG, t_heldCraftG, t_heldWordN, r_markZoneS, Zone.row, Zone_eta, un_Zone, un_box, un_s, un_i, irow, Box6.row, box_eta6, List.length_map, List.map_nil, List.length_nil, zms_len, bms_len, ims_len, take_all, tkZ, tkB, tkI, tkT, tkW, tkMB, tkMI, not_true_eq_false, ne_eq, eq_self, bne_self_eq_false, Int.toNat_natCast, Nat.zero_add, Nat.sub_zero, ghost, noref, flatOk, Word.row, Word_eta, and_self, hn1, hn2, hn3]
  refine ⟨by omega, _, _, .inr (.inl ⟨rfl, _, rfl, hW, rfl, by first | exact n9Z | exact n9C | exact n9W⟩), ?_⟩
  simp (config := { maxSteps := 2000000 }) only [bitvec_to_nat, reduceIte, Nat.reduceEqDiff, Nat.reduceAdd, Nat.reduceLeDiff, reduceCtorEq, Nat.reduceBEq, Nat.reduceLT, List.forall_mem_cons, retG_ret, retQ_eq, retQ_eqN, retOk, keepB, re_tupl, orr_t, t_szZoneS, t_szCraft, t_szWord, t_eqZoneS, t_eqCraft, t_eqWordG, t_heldCraftG, t_heldWordN, r_markZoneS, Zone.row, Zone_eta, un_Zone, un_box, un_s, un_i, irow, Box6.row, box_eta6, List.length_map, List.map_nil, List.length_nil, zms_len, bms_len, ims_len, take_all, tkZ, tkB, tkI, tkT, tkW, tkMB, tkMI, not_true_eq_false, ne_eq, eq_self, bne_self_eq_false, Int.toNat_natCast, Nat.zero_add, Nat.sub_zero, ghost, noref, flatOk, Word.row, Word_eta, and_self, hn1, hn2, hn3]
  have hM1 := ((c_markCraftG nm q s nr no 0 0 93 3 tu fl (1 + 5 * zs.length) (by omega) (by omega) (by omega)).ren (swp 3 722) (swp_swp 3 722)).ren (swp 4 723) (swp_swp 4 723)
  have hM2 := (c_markWordG w.kd w.fr w.dst w.fl w.nr w.la w.tn 0 93 w.tu (1 + 5 * zs.length + 6 * tu.length + fl.length) (by omega) (by omega)).ren (swp 3 724) (swp_swp 3 724)
  have hM3 := ((c_markCraftG nm q s nr' no' 0 0 93 3 tu' fl 1 (by omega) (by omega) (by omega)).ren (swp 3 731) (swp_swp 3 731)).ren (swp 4 732) (swp_swp 4 732)
  simp only [renL, ren, renM, renO, swp, reduceIte, Nat.reduceEqDiff, Word.row] at hM1 hM2 hM3
  refine ⟨by omega, ⟨by omega, by omega, by omega⟩, fun _ => ⟨_, _, .inl ⟨_, hM1, by simp [getM], by simp [getM, dom], rfl, rfl, rfl, rfl, rfl⟩, ?_⟩⟩
  simp (config := { maxSteps := 2000000 }) only [bitvec_to_nat, reduceIte, Nat.reduceEqDiff, Nat.reduceAdd, Nat.reduceLeDiff, reduceCtorEq, Nat.reduceBEq, Nat.reduceLT, List.forall_mem_cons, retG_ret, retQ_eq, retQ_eqN, retOk, keepB, re_tupl, orr_t, t_szZoneS, t_szCraft, t_szWord, t_eqZoneS, t_eqCraft, t_eqWordG, t_heldCraftG, t_heldWordN, r_markZoneS, Zone.row, Zone_eta, un_Zone, un_box, un_s, un_i, irow, Box6.row, box_eta6, List.length_map, List.map_nil, List.length_nil, zms_len, bms_len, ims_len, take_all, tkZ, tkB, tkI, tkT, tkW, tkMB, tkMI, not_true_eq_false, ne_eq, eq_self, bne_self_eq_false, Int.toNat_natCast, Nat.zero_add, Nat.sub_zero, ghost, noref, flatOk, Word.row, Word_eta, and_self, hn1, hn2, hn3]
  refine ⟨_, _, .inl ⟨_, hM2, by simp [getM], by simp [getM, dom], rfl, rfl, rfl, rfl, rfl⟩, ?_⟩
  simp (config := { maxSteps := 2000000 }) only [bitvec_to_nat, reduceIte, Nat.reduceEqDiff, Nat.reduceAdd, Nat.reduceLeDiff, reduceCtorEq, Nat.reduceBEq, Nat.reduceLT, List.forall_mem_cons, retG_ret, retQ_eq, retQ_eqN, retOk, keepB, re_tupl, orr_t, t_szZoneS, t_szCraft, t_szWord, t_eqZoneS, t_eqCraft, t_eqWordG, t_heldCraftG, t_heldWordN, r_markZoneS, Zone.row, Zone_eta, un_Zone, un_box, un_s, un_i, irow, Box6.row, box_eta6, List.length_map, List.map_nil, List.length_nil, zms_len, bms_len, ims_len, take_all, tkZ, tkB, tkI, tkT, tkW, tkMB, tkMI, not_true_eq_false, ne_eq, eq_self, bne_self_eq_false, Int.toNat_natCast, Nat.zero_add, Nat.sub_zero, ghost, noref, flatOk, Word.row, Word_eta, and_self, hn1, hn2, hn3]
  refine ⟨fun g => by omega, fun _ => ⟨by omega, _, _, .inl ⟨_, hM3, by simp [getM], by simp [getM, dom], rfl, rfl, rfl, rfl, rfl⟩, ?_⟩⟩
  simp (config := { maxSteps := 2000000 }) only [bitvec_to_nat, reduceIte, Nat.reduceEqDiff, Nat.reduceAdd, Nat.reduceLeDiff, reduceCtorEq, Nat.reduceBEq, Nat.reduceLT, List.forall_mem_cons, retG_ret, retQ_eq, retQ_eqN, retOk, keepB, re_tupl, orr_t, t_szZoneS, t_szCraft, t_szWord, t_eqZoneS, t_eqCraft, t_eqWordG, t_heldCraftG, t_heldWordN, r_markZoneS, Zone.row, Zone_eta, un_Zone, un_box, un_s, un_i, irow, Box6.row, box_eta6, List.length_map, List.map_nil, List.length_nil, zms_len, bms_len, ims_len, take_all, tkZ, tkB, tkI, tkT, tkW, tkMB, tkMI, not_true_eq_false, ne_eq, eq_self, bne_self_eq_false, Int.toNat_natCast, Nat.zero_add, Nat.sub_zero, ghost, noref, flatOk, Word.row, Word_eta, and_self, hn1, hn2, hn3]
  have hWN := c_markWordN kd' ⟨#[]⟩ fr' fl' nw' 0 0 0 (1 + 6 * tu'.length + fl.length)
  refine ⟨_, _, .inr (.inl ⟨rfl, _, rfl, hWN, rfl, trivial⟩), ?_⟩
  simp (config := { maxSteps := 2000000 }) only [bitvec_to_nat, reduceIte, Nat.reduceEqDiff, Nat.reduceAdd, Nat.reduceLeDiff, reduceCtorEq, Nat.reduceBEq, Nat.reduceLT, List.forall_mem_cons, retG_ret, retQ_eq, retQ_eqN, retOk, keepB, re_tupl, orr_t, t_szZoneS, t_szCraft, t_szWord, t_eqZoneS, t_eqCraft, t_eqWordG, t_heldCraftG, t_heldWordN, r_markZoneS, Zone.row, Zone_eta, un_Zone, un_box, un_s, un_i, irow, Box6.row, box_eta6, List.length_map, List.map_nil, List.length_nil, zms_len, bms_len, ims_len, take_all, tkZ, tkB, tkI, tkT, tkW, tkMB, tkMI, not_true_eq_false, ne_eq, eq_self, bne_self_eq_false, Int.toNat_natCast, Nat.zero_add, Nat.sub_zero, ghost, noref, flatOk, Word.row, Word_eta, and_self, hn1, hn2, hn3]
  refine ⟨by omega, fun g => by omega, fun _ => ⟨by omega, fun g => by omega, fun _ => ⟨_, _, .inr (.inl ⟨rfl, _, rfl, hC, rfl, n9Z⟩), ?_⟩⟩⟩
  simp (config := { maxSteps := 2000000 }) only [bitvec_to_nat, reduceIte, Nat.reduceEqDiff, Nat.reduceAdd, Nat.reduceLeDiff, reduceCtorEq, Nat.reduceBEq, Nat.reduceLT, List.forall_mem_cons, retG_ret, retQ_eq, retQ_eqN, retOk, keepB, re_tupl, orr_t, t_szZoneS, t_szCraft, t_szWord, t_eqZoneS, t_eqCraft, t_eqWordG, t_heldCraftG, t_heldWordN, r_markZoneS, Zone.row, Zone_eta, un_Zone, un_box, un_s, un_i, irow, Box6.row, box_eta6, List.length_map, List.map_nil, List.length_nil, zms_len, bms_len, ims_len, take_all, tkZ, tkB, tkI, tkT, tkW, tkMB, tkMI, not_true_eq_false, ne_eq, eq_self, bne_self_eq_false, Int.toNat_natCast, Nat.zero_add, Nat.sub_zero, ghost, noref, flatOk, Word.row, Word_eta, and_self, hn1, hn2, hn3]
  refine ⟨_, _, .inr (.inl ⟨rfl, _, rfl, hCr, rfl, by first | exact n9Z | exact n9C | exact n9W⟩), ?_⟩
  simp (config := { maxSteps := 2000000 }) only [bitvec_to_nat, reduceIte, Nat.reduceEqDiff, Nat.reduceAdd, Nat.reduceLeDiff, reduceCtorEq, Nat.reduceBEq, Nat.reduceLT, List.forall_mem_cons, retG_ret, retQ_eq, retQ_eqN, retOk, keepB, re_tupl, orr_t, t_szZoneS, t_szCraft, t_szWord, t_eqZoneS, t_eqCraft, t_eqWordG, t_heldCraftG, t_heldWordN, r_markZoneS, Zone.row, Zone_eta, un_Zone, un_box, un_s, un_i, irow, Box6.row, box_eta6, List.length_map, List.map_nil, List.length_nil, zms_len, bms_len, ims_len, take_all, tkZ, tkB, tkI, tkT, tkW, tkMB, tkMI, not_true_eq_false, ne_eq, eq_self, bne_self_eq_false, Int.toNat_natCast, Nat.zero_add, Nat.sub_zero, ghost, noref, flatOk, Word.row, Word_eta, and_self, hn1, hn2, hn3]
  refine ⟨_, _, .inr (.inl ⟨rfl, _, rfl, hW, rfl, by first | exact n9Z | exact n9C | exact n9W⟩), ?_⟩
  simp (config := { maxSteps := 2000000 }) only [bitvec_to_nat, reduceIte, Nat.reduceEqDiff, Nat.reduceAdd, Nat.reduceLeDiff, reduceCtorEq, Nat.reduceBEq, Nat.reduceLT, List.forall_mem_cons, retG_ret, retQ_eq, retQ_eqN, retOk, keepB, re_tupl, orr_t, t_szZoneS, t_szCraft, t_szWord, t_eqZoneS, t_eqCraft, t_eqWordG, t_heldCraftG, t_heldWordN, r_markZoneS, Zone.row, Zone_eta, un_Zone, un_box, un_s, un_i, irow, Box6.row, box_eta6, List.length_map, List.map_nil, List.length_nil, zms_len, bms_len, ims_len, take_all, tkZ, tkB, tkI, tkT, tkW, tkMB, tkMI, not_true_eq_false, ne_eq, eq_self, bne_self_eq_false, Int.toNat_natCast, Nat.zero_add, Nat.sub_zero, ghost, noref, flatOk, Word.row, Word_eta, and_self, hn1, hn2, hn3]
  refine ⟨_, _, .inr (.inr ⟨_, by simp [purL, pur, getM, take_all, tkZ, tkB, tkI, tkT, tkW], hI2, by simp [getM], by simp [refsIn, refsInL, dom], rfl, by simp [No99, No99L, No99LL], by simp [No99O, no99_Zone, no99_box, no99_i]⟩), ?_⟩
  simp (config := { maxSteps := 2000000 }) only [bitvec_to_nat, reduceIte, Nat.reduceEqDiff, Nat.reduceAdd, Nat.reduceLeDiff, reduceCtorEq, Nat.reduceBEq, Nat.reduceLT, List.forall_mem_cons, retG_ret, retQ_eq, retQ_eqN, retOk, keepB, re_tupl, orr_t, t_szZoneS, t_szCraft, t_szWord, t_eqZoneS, t_eqCraft, t_eqWordG, t_heldCraftG, t_heldWordN, r_markZoneS, Zone.row, Zone_eta, un_Zone, un_box, un_s, un_i, irow, Box6.row, box_eta6, List.length_map, List.map_nil, List.length_nil, zms_len, bms_len, ims_len, take_all, tkZ, tkB, tkI, tkT, tkW, tkMB, tkMI, not_true_eq_false, ne_eq, eq_self, bne_self_eq_false, Int.toNat_natCast, Nat.zero_add, Nat.sub_zero, ghost, noref, flatOk, Word.row, Word_eta, and_self, hn1, hn2, hn3]
  exact ⟨by omega, by omega, fun g => by omega, fun _ => ⟨by omega, fun g => by omega⟩⟩
end
end Go.Ve

namespace Go.Ve
noncomputable section
open Go.Proofs
set_option linter.unusedSimpArgs false
set_option linter.unusedVariables false
set_option maxRecDepth 100000
open Go.ChangeShapes Go.WideShapes
theorem no_eq (a b : Int) : (if a > b then a else b) = max b a := by
  split <;> omega
set_option maxHeartbeats 4000000 in
theorem c_FnExactLapTake (t0 t t' : Nat) (zs : List Zone) (nm : ByteArray) (q s nr no : Int) (tu : List Box6) (fl : List Int) (w : Word) (now : Int) (hz : zs.length ≤ 9223372036854775807 ∧ ∀ y ∈ zs, y.fitp) (hn : nm.toList.length ≤ 9223372036854775807) (hu : tu.length ≤ 9223372036854775807) (hk : fl.length ≤ 9223372036854775807) (hw : w.fitp) :
    Contract P 3 [.sl t0 5 (zs.map Zone.row), .agg [.str nm, .int .i64 q, .int .i64 s, .int .i64 nr, .int .i64 no, .sl t 6 (tu.map Box6.row), .sl t' 1 (fl.map irow)], .agg (w.row 1), .int .i64 now] [] (.bool true) [] := by
  by_cases hA : ((nr ≠ 0 → zonesOk zs) ∧ craftOk zs nm q s nr no tu fl now) ∧ (zonesOk zs ∧ wordOk zs w)
  · by_cases hq : w.kd = 7 ∧ w.fl = nm ∧ nr ≤ w.nr
    · by_cases hr : w.nr = nr
      · exact c_law t0 t t' 0 zs nm q s nr no tu fl w now hz hn hu hk hw nr no 8 w.nr w.fr nm true tu
             (fun b1 b2 b3 b5 => ⟨b2, fun t0 t t' => by
               have h := ((c_sTake2 nm q s nr no t t' tu fl zs t0 w 0 now b1 b2 b3 b5 hA.1 hA.2 hq hr).ren (swp 501 711) (swp_swp 501 711)).ren (swp 502 712) (swp_swp 502 712)
               simp only [renL, ren, renM, renO, swp, reduceIte, Nat.reduceEqDiff, Word.row] at h ⊢
               exact h⟩)
             (fun b1 b2 b3 b5 t0 t t' t2 => by
               have h := ((c_iTake2 nm q s nr no t t' tu fl zs t0 w t2 now b1 b2 b3 b5 hA.1 hA.2 hq hr).ren (swp 501 731) (swp_swp 501 731)).ren (swp 502 732) (swp_swp 502 732)
               simp only [renL, ren, renM, renO, swp, reduceIte, Nat.reduceEqDiff, Word.row] at h ⊢
               exact h)
      · by_cases hs : w.nr ≤ no ∨ ¬ canTake q s tu fl w.tu now
        · exact c_law t0 t t' 0 zs nm q s nr no tu fl w now hz hn hu hk hw nr (max no w.nr) 9 w.nr w.fr nm true tu
             (fun b1 b2 b3 b5 => ⟨b2, fun t0 t t' => by
               have h := ((c_sTake3 nm q s nr no t t' tu fl zs t0 w 0 now b1 b2 b3 b5 hA.1 hA.2 hq hr hs).ren (swp 501 711) (swp_swp 501 711)).ren (swp 502 712) (swp_swp 502 712)
               simp only [renL, ren, renM, renO, swp, reduceIte, Nat.reduceEqDiff, Word.row] at h ⊢
               exact h⟩)
             (fun b1 b2 b3 b5 t0 t t' t2 => by
               have h := ((c_iTake3 nm q s nr no t t' tu fl zs t0 w t2 now b1 b2 b3 b5 hA.1 hA.2 hq hr hs).ren (swp 501 731) (swp_swp 501 731)).ren (swp 502 732) (swp_swp 502 732)
               simp only [renL, ren, renM, renO, swp, reduceIte, Nat.reduceEqDiff, Word.row, no_eq] at h ⊢
               exact h)
        · exact c_law t0 t t' 0 zs nm q s nr no tu fl w now hz hn hu hk hw w.nr no 8 w.nr w.fr nm true w.tu
             (fun b1 b2 b3 b5 => ⟨b5, fun t0 t t' => by
               have h := ((c_sTake4 nm q s nr no t t' tu fl zs t0 w 0 now b1 b2 b3 b5 hA.1 hA.2 hq hr (fun h => hs (.inl h)) (Classical.not_not.1 fun h => hs (.inr h))).ren (swp 128 711) (swp_swp 128 711)).ren (swp 502 712) (swp_swp 502 712)
               simp only [renL, ren, renM, renO, swp, reduceIte, Nat.reduceEqDiff, Word.row] at h ⊢
               exact h⟩)
             (fun b1 b2 b3 b5 t0 t t' t2 => by
               have h := ((c_iTake4 nm q s nr no t t' tu fl zs t0 w t2 now b1 b2 b3 b5 hA.1 hA.2 hq hr (fun h => hs (.inl h)) (Classical.not_not.1 fun h => hs (.inr h))).ren (swp 134 731) (swp_swp 134 731)).ren (swp 502 732) (swp_swp 502 732)
               simp only [renL, ren, renM, renO, swp, reduceIte, Nat.reduceEqDiff, Word.row] at h ⊢
               exact h)
    · exact c_law t0 t t' 0 zs nm q s nr no tu fl w now hz hn hu hk hw nr no 0 0 ⟨#[]⟩ ⟨#[]⟩ false tu
             (fun b1 b2 b3 b5 => ⟨b2, fun t0 t t' => by
               have h := ((c_sTake0 nm q s nr no t t' tu fl zs t0 w 0 now b1 b2 b3 b5 (fun h => hq h.2)).ren (swp 501 711) (swp_swp 501 711)).ren (swp 502 712) (swp_swp 502 712)
               simp only [renL, ren, renM, renO, swp, reduceIte, Nat.reduceEqDiff, Word.row] at h ⊢
               exact h⟩)
             (fun b1 b2 b3 b5 t0 t t' t2 => by
               have h := ((c_iTake1 nm q s nr no t t' tu fl zs t0 w t2 now b1 b2 b3 b5 hA.1 hA.2 hq).ren (swp 501 731) (swp_swp 501 731)).ren (swp 502 732) (swp_swp 502 732)
               simp only [renL, ren, renM, renO, swp, reduceIte, Nat.reduceEqDiff, Word.row] at h ⊢
               exact h)
  · exact c_law t0 t t' 0 zs nm q s nr no tu fl w now hz hn hu hk hw nr no 0 0 ⟨#[]⟩ ⟨#[]⟩ false tu
             (fun b1 b2 b3 b5 => ⟨b2, fun t0 t t' => by
               have h := ((c_sTake0 nm q s nr no t t' tu fl zs t0 w 0 now b1 b2 b3 b5 (fun h => hA h.1)).ren (swp 501 711) (swp_swp 501 711)).ren (swp 502 712) (swp_swp 502 712)
               simp only [renL, ren, renM, renO, swp, reduceIte, Nat.reduceEqDiff, Word.row] at h ⊢
               exact h⟩)
             (fun b1 b2 b3 b5 t0 t t' t2 => by
               have h := ((c_iTake0 nm q s nr no t t' tu fl zs t0 w t2 now b1 b2 b3 b5 hA).ren (swp 501 731) (swp_swp 501 731)).ren (swp 502 732) (swp_swp 502 732)
               simp only [renL, ren, renM, renO, swp, reduceIte, Nat.reduceEqDiff, Word.row] at h ⊢
               exact h)
theorem fit_rows {α : Type} {f : α → List AV} {rs : List LSh} (h : ∀ r, fitsL rs r → ∃ x : α, r = f x) : ∀ {rows : List (List AV)}, (∀ r ∈ rows, fitsL rs r) → ∃ l : List α, rows = l.map f
  | [], _ => ⟨[], rfl⟩
  | r :: rows, k => by
    obtain ⟨x, rfl⟩ := h r (k r (by simp))
    obtain ⟨l, rfl⟩ := fit_rows h (rows := rows) fun r' h' => k r' (by simp [h'])
    exact ⟨x :: l, rfl⟩
def sh_Int : List LSh := [.int .i64]
def sh_Box6 : List LSh := [.int .i64, .int .i64, .int .i64, .int .i64, .int .i64, .int .i64]
theorem fit_Int (r : List AV) (h : fitsL sh_Int r) : ∃ x : Int, r = irow x := by
  simp only [sh_Int, fitsL, fits] at h
  obtain ⟨_, _, rfl, ⟨n, rfl, _⟩, rfl⟩ := h
  exact ⟨n, rfl⟩
theorem fit_Box6 (r : List AV) (h : fitsL sh_Box6 r) : ∃ x : Box6, r = x.row := by
  simp only [sh_Box6, fitsL, fits] at h
  obtain ⟨_, _, rfl, ⟨a, rfl, _⟩, _, _, rfl, ⟨b, rfl, _⟩, _, _, rfl, ⟨c, rfl, _⟩, _, _, rfl, ⟨d, rfl, _⟩, _, _, rfl, ⟨e, rfl, _⟩, _, _, rfl, ⟨g, rfl, _⟩, rfl⟩ := h
  exact ⟨⟨a, b, c, d, e, g⟩, rfl⟩
def sh_Zone : List LSh := [.str, .int .i64, .int .i64, .int .i64, .int .i64]
theorem fit_Zone (r : List AV) (h : fitsL sh_Zone r) : ∃ x : Zone, r = Zone.row x ∧ x.fitp := by
  simp only [sh_Zone, fitsL, fits] at h
  obtain ⟨_, _, rfl, ⟨nm, rfl, h_nm⟩, _, _, rfl, ⟨x0, rfl, _⟩, _, _, rfl, ⟨y0, rfl, _⟩, _, _, rfl, ⟨x1, rfl, _⟩, _, _, rfl, ⟨y1, rfl, _⟩, rfl⟩ := h

  exact ⟨⟨nm, x0, y0, x1, y1⟩, rfl, (by have e := toList_size nm; unfold maxLen at h_nm; show nm.toList.length ≤ _; omega)⟩
def sh_Word : List LSh := [.int .i64, .str, .str, .str, .int .i64, .int .i64, .int .i64, .sl sh_Box6]
theorem fit_Word (r : List AV) (h : fitsL sh_Word r) : ∃ x : Word, r = (Word.row 1) x ∧ x.fitp := by
  simp only [sh_Word, fitsL, fits] at h
  obtain ⟨_, _, rfl, ⟨kd, rfl, _⟩, _, _, rfl, ⟨fr, rfl, h_fr⟩, _, _, rfl, ⟨dst, rfl, h_dst⟩, _, _, rfl, ⟨fl, rfl, h_fl⟩, _, _, rfl, ⟨nr, rfl, _⟩, _, _, rfl, ⟨la, rfl, _⟩, _, _, rfl, ⟨tn, rfl, _⟩, _, _, rfl, ⟨tu, rfl, h_tu, r_tu⟩, rfl⟩ := h
  obtain ⟨tu, rfl⟩ := fit_rows fit_Box6 r_tu
  rw [List.length_map] at h_tu
  exact ⟨⟨kd, fr, dst, fl, nr, la, tn, tu⟩, rfl, ⟨(by have e := toList_size fr; unfold maxLen at h_fr; show fr.toList.length ≤ _; omega), (by have e := toList_size dst; unfold maxLen at h_dst; show dst.toList.length ≤ _; omega), (by have e := toList_size fl; unfold maxLen at h_fl; show fl.toList.length ≤ _; omega), (by unfold maxLen at h_tu; omega)⟩⟩
def sh_Craft : List LSh := [.str, .int .i64, .int .i64, .int .i64, .int .i64, .sl sh_Box6, .sl sh_Int]
end
end Go.Ve

