/- Part 5 of the proof: laws and contracts of functions, each proved; they are joined in the last part. No conditions beyond those that the theorems state. -/
import Derived.Test.YtppifjfappcbgaaGreatProg
import Derived.Test.YtppifjfappcbgaaGreatHa4
set_option linter.all false
namespace Go.Ve
noncomputable section
open Go.Proofs
set_option maxRecDepth 100000
theorem set_ByteArray {lst : List ByteArray} {idx : Nat} {v : ByteArray} : (lst.map srow).set idx (setSeg ((lst.map srow).getD idx []) 0 [.str v]) = (lst.set idx v).map srow :=
  set_rows (α := ByteArray) (f := srow) (fun s => v) fun x => by simp [srow, setSeg]
def to_ByteArray (a : List ByteArray) (i : Nat) : List ByteArray := a.take i ++ List.replicate (a.length - i) ⟨#[]⟩
theorem to_ByteArray_st {a : List ByteArray} {i : Nat} (h : i < a.length) : (to_ByteArray a i).set i (a.getD i default) = to_ByteArray a (i + 1) := by
  refine List.ext_getElem (by simp [to_ByteArray]; omega) fun j h1 h2 => ?_
  by_cases e : j = i
  · subst e
    simp [to_ByteArray, List.getElem_append, h]
    intro h9; omega
  · simp only [List.getElem_set_ne (Ne.symm e)]
    simp only [to_ByteArray, List.getElem_append, List.length_take, List.getElem_take, List.getElem_replicate]
    split <;> split <;> first | rfl | omega
theorem c_toByteArrayS (t : Nat) (a : List ByteArray) (ha : a.length ≤ 1048576) : Contract P 112 [.sl t 1 (a.map srow)] [] (.sl 0 1 (a.map srow)) [] := by
  refine fn_sound (Env.nil P) hm k_laws_toStringS (nlb rfl) rfl ?_; unfold s_laws_toStringS; simp (maxSteps := 2000000) only [bitvec_to_nat, reduceIte, Nat.reduceEqDiff, Nat.reduceAdd, Nat.reduceLeDiff, reduceCtorEq, Nat.reduceBEq, Nat.reduceLT, Nat.reduceMod, fmc, bXH, Zone.row, Box6.row, appE, rowsOf, srow, irow, bHX, Word.row, Own.row, Part.row, Seen.row, Book.row, Sector.row, HCraft.row, World.row, set_ByteArray, Nat.sub_zero]
  have m0 : List.replicate a.length [.str ⟨#[]⟩] = (to_ByteArray a 0).map srow := by simp [to_ByteArray, srow]
  refine ⟨by omega, ?_⟩
  refine loop_st (fun i : Nat => [(4, .int .i64 i)]) (fun i => [(107, .arr 9 0 1 ((to_ByteArray a i).map srow))]) (fun i => i ≤ a.length) (fun i => a.length - i) 0 (by simp only [u_E0, u_E1, u_M0, u_M1, w_setE0, w_setE1, w_setM0, w_setM1, reduceIte, Nat.reduceEqDiff]; exact ⟨by repeat' (first | exact trivial | refine ⟨.inr rfl, ?_⟩), ⟨congrArg (fun g => some (AObj.arr 9 0 1 g)) m0, trivial⟩, rfl, rfl⟩) (Nat.zero_le _) ?_
  intro i hi NX hN
  skip
  unfold l_laws_toStringS_0; simp (maxSteps := 2000000) only [bitvec_to_nat, reduceIte, Nat.reduceEqDiff, Nat.reduceAdd, Nat.reduceLeDiff, reduceCtorEq, Nat.reduceBEq, Nat.reduceLT, Nat.reduceMod, fmc, bXH, Zone.row, Box6.row, appE, rowsOf, srow, irow, bHX, Word.row, Own.row, Part.row, Seen.row, Book.row, Sector.row, HCraft.row, World.row, set_ByteArray, Nat.sub_zero]
  refine ⟨fun h => ?_, fun h => ?_⟩
  · repeat' (first | with_reducible apply And.intro | with_reducible intro _)
    all_goals first
      | omega
      | rfl
      | exact hs2 (by omega)
      | (have e := to_ByteArray_st (a := a) (i := i) (by omega)
         try simp only [srow] at *
         refine hN (i + 1) _ ⟨by repeat' (first | exact trivial | refine ⟨.inr rfl, ?_⟩), ⟨congrArg (fun g => some (AObj.arr 9 0 1 (List.map srow g))) e, trivial⟩, rfl, rfl⟩ ?_ ?_ <;> omega)
  · have e : i = a.length := by omega
    subst e
    simp only [to_ByteArray, List.take_length, Nat.sub_self, List.replicate_zero, List.append_nil]
    try rw [List.take_of_length_le (by simp)]
def t_toStringS : List AV → Option (Prop × AV)
  | [.sl st 1 sx] => some ((((sx.map unS).map srow = sx)) ∧ ((sx.map unS).length ≤ 1048576), .sl 0 1 ((sx.map unS).map srow))
  | _ => none
theorem h_toStringS : ∀ args p v, t_toStringS args = some (p, v) → p → Contract P 112 args [] v [] ∧ noref v = true ∧ No99 v := by
  intro args p v h1 h2
  unfold t_toStringS at h1
  split at h1
  · rename_i st sx
    cases h1
    obtain ⟨e0, HP⟩ := h2
    have := c_toByteArrayS st (sx.map unS) HP
    exact ⟨by simpa only [e0] using this, rfl, by simp [No99, No99L, no99_box, no99_i, no99_str, no99_Zone, no99_Word, no99_Own, no99_Part, no99_Seen, no99_Book, no99_Sector, no99_HCraft, no99_World, -List.map_map]⟩
  · cases h1
theorem c_eqByteArrayS (t t' : Nat) (p q : List ByteArray) (hp : p.length ≤ 4611686018427387904) : Contract P 117 [.sl t 1 (p.map srow), .sl t' 1 (q.map srow)] [] (.bool (decide (p = q))) [] := by
  refine fn_sound (Env.nil P) hm k_laws_eqStringS (nlb rfl) rfl ?_; unfold s_laws_eqStringS; simp (maxSteps := 2000000) only [bitvec_to_nat, reduceIte, Nat.reduceEqDiff, Nat.reduceAdd, Nat.reduceLeDiff, reduceCtorEq, Nat.reduceBEq, Nat.reduceLT, Nat.reduceMod, fmc, bXH, Zone.row, Box6.row, appE, rowsOf, srow, irow, bHX, Word.row, Own.row, Part.row, Seen.row, Book.row, Sector.row, HCraft.row, World.row]
  refine ⟨fun h1 h => h1 (by rw [h]), fun h1 => ?_⟩
  refine loop_st (fun i : Nat => [(5, .int .i64 i)]) (fun _ => []) (fun i => i ≤ p.length ∧ ∀ j, j < i → p.getD j default = q.getD j default) (fun i => p.length - i) (0) (by simp only [u_E0, u_E1, u_M0, u_M1, w_setE0, w_setE1, w_setM0, w_setM1, reduceIte, Nat.reduceEqDiff]; exact ⟨by repeat' (first | exact trivial | refine ⟨.inr rfl, ?_⟩), by repeat' (first | exact trivial | refine ⟨rfl, ?_⟩), by first | rfl | simp [closedB, refsIn, refsInL, refsInO, dom, refsInL_nr, *], by first | rfl | simp [keepB, dom]⟩) ?_ ?_
  · exact ⟨Nat.zero_le _, by intro j hj; omega⟩
  intro i hi NX hN
  unfold l_laws_eqStringS_0; simp (maxSteps := 2000000) only [bitvec_to_nat, reduceIte, Nat.reduceEqDiff, Nat.reduceAdd, Nat.reduceLeDiff, reduceCtorEq, Nat.reduceBEq, Nat.reduceLT, Nat.reduceMod, fmc, bXH, Zone.row, Box6.row, appE, rowsOf, srow, irow, bHX, Word.row, Own.row, Part.row, Seen.row, Book.row, Sector.row, HCraft.row, World.row]
  skip
  repeat' (first | with_reducible apply And.intro | with_reducible intro _)
  all_goals first
    | omega
    | (refine hN (i + 1) _ (by simp only [u_E0, u_E1, u_M0, u_M1, w_setE0, w_setE1, w_setM0, w_setM1, reduceIte, Nat.reduceEqDiff]; exact ⟨by repeat' (first | exact trivial | refine ⟨.inr rfl, ?_⟩), by repeat' (first | exact trivial | refine ⟨rfl, ?_⟩), by first | rfl | simp [closedB, refsIn, refsInL, refsInO, dom, refsInL_nr, *], by first | rfl | simp [keepB, dom]⟩) ?_ ?_
       · exact ⟨by omega, all_snoc hi.2 (by with_reducible assumption)⟩
       · omega)
    | (intro h; subst h; exact absurd rfl (by with_reducible assumption))
    | (exact ext_of (by omega) fun j hj => hi.2 j (by omega))
    | grind
def t_eqStringS : List AV → Option (Prop × AV)
  | [.sl ct 1 cx, .sl dt 1 dx] => some ((((cx.map unS).map srow = cx) ∧ ((dx.map unS).map srow = dx)) ∧ ((cx.map unS).length ≤ 4611686018427387904), .bool (decide ((cx.map unS) = (dx.map unS))))
  | _ => none
theorem h_eqStringS : ∀ args p v, t_eqStringS args = some (p, v) → p → Contract P 117 args [] v [] ∧ noref v = true ∧ No99 v := by
  intro args p v h1 h2
  unfold t_eqStringS at h1
  split at h1
  · rename_i ct cx dt dx
    cases h1
    obtain ⟨⟨e0, e1⟩, HP⟩ := h2
    have := c_eqByteArrayS ct dt (cx.map unS) (dx.map unS) HP
    exact ⟨by simpa only [e0, e1] using this, rfl, trivial⟩
  · cases h1
theorem c_toZone (s : Zone) : Contract P 41 [.agg (s.row)] [] (.agg (s.row)) [] := by
  simp only [Zone.row]
  refine fn_sound (Env.nil P) hm k_laws_toHandZone (nlb rfl) rfl ?_; unfold s_laws_toHandZone; simp (maxSteps := 2000000) only [bitvec_to_nat, reduceIte, Nat.reduceEqDiff, Nat.reduceAdd, Nat.reduceLeDiff, reduceCtorEq, Nat.reduceBEq, Nat.reduceLT, Nat.reduceMod, fmc, bXH, Zone.row, Box6.row, appE, rowsOf, srow, irow, bHX, Word.row, Own.row, Part.row, Seen.row, Book.row, Sector.row, HCraft.row, World.row]
  all_goals trivial
def t_toZone : List AV → Option (Prop × AV)
  | [.agg [.str s_nm, .int .i64 s_x0, .int .i64 s_y0, .int .i64 s_x1, .int .i64 s_y1]] => some ((True) ∧ (True), .agg (Zone.row (Zone.mk s_nm s_x0 s_y0 s_x1 s_y1)))
  | _ => none
theorem h_toZone : ∀ args p v, t_toZone args = some (p, v) → p → Contract P 41 args [] v [] ∧ noref v = true ∧ No99 v := by
  intro args p v h1 h2
  unfold t_toZone at h1
  split at h1
  · rename_i s_nm s_x0 s_y0 s_x1 s_y1
    cases h1
    obtain ⟨_, HP⟩ := h2
    have := c_toZone (Zone.mk s_nm s_x0 s_y0 s_x1 s_y1)
    exact ⟨by simpa only [Zone.row] using this, rfl, by simp [Zone.row, No99, No99L, no99_box, no99_i, no99_str, no99_Zone, no99_Word, no99_Own, no99_Part, no99_Seen, no99_Book, no99_Sector, no99_HCraft, no99_World, -List.map_map]⟩
  · cases h1
theorem set_Zone {lst : List Zone} {idx : Nat} {vnm : ByteArray} {vx0 : Int} {vy0 : Int} {vx1 : Int} {vy1 : Int} : (lst.map Zone.row).set idx (setSeg ((lst.map Zone.row).getD idx []) 0 [.str vnm, .int .i64 vx0, .int .i64 vy0, .int .i64 vx1, .int .i64 vy1]) = (lst.set idx (Zone.mk vnm vx0 vy0 vx1 vy1)).map Zone.row :=
  set_rows (α := Zone) (f := Zone.row) (fun s => (Zone.mk vnm vx0 vy0 vx1 vy1)) fun x => by simp [Zone.row, setSeg]
def to_Zone (a : List Zone) (i : Nat) : List Zone := a.take i ++ List.replicate (a.length - i) ⟨⟨#[]⟩, 0, 0, 0, 0⟩
theorem to_Zone_st {a : List Zone} {i : Nat} (h : i < a.length) : (to_Zone a i).set i (a.getD i default) = to_Zone a (i + 1) := by
  refine List.ext_getElem (by simp [to_Zone]; omega) fun j h1 h2 => ?_
  by_cases e : j = i
  · subst e
    simp [to_Zone, List.getElem_append, h]
    intro h9; omega
  · simp only [List.getElem_set_ne (Ne.symm e)]
    simp only [to_Zone, List.getElem_append, List.length_take, List.getElem_take, List.getElem_replicate]
    split <;> split <;> first | rfl | omega
theorem c_toZoneS (t : Nat) (a : List Zone) (ha : a.length ≤ 1048576) : Contract P 10 [.sl t 5 (a.map Zone.row)] [] (.sl 0 5 (a.map Zone.row)) [] := by
  refine fn_sound ((Env.nil P).add 41 t_toZone h_toZone) hm k_laws_toHandZoneS (nlb rfl) rfl ?_; unfold s_laws_toHandZoneS; simp (maxSteps := 2000000) only [bitvec_to_nat, reduceIte, Nat.reduceEqDiff, Nat.reduceAdd, Nat.reduceLeDiff, reduceCtorEq, Nat.reduceBEq, Nat.reduceLT, Nat.reduceMod, fmc, t_toZone, bXH, Zone.row, Box6.row, appE, rowsOf, srow, irow, bHX, Word.row, Own.row, Part.row, Seen.row, Book.row, Sector.row, HCraft.row, World.row, set_Zone, Nat.sub_zero]
  have m0 : List.replicate a.length [.str ⟨#[]⟩, .int .i64 0, .int .i64 0, .int .i64 0, .int .i64 0] = (to_Zone a 0).map Zone.row := by simp [to_Zone, Zone.row]
  refine ⟨by omega, ?_⟩
  refine loop_st (fun i : Nat => [(4, .int .i64 i)]) (fun i => [(107, .arr 76 0 5 ((to_Zone a i).map Zone.row))]) (fun i => i ≤ a.length) (fun i => a.length - i) 0 (by simp only [u_E0, u_E1, u_M0, u_M1, w_setE0, w_setE1, w_setM0, w_setM1, reduceIte, Nat.reduceEqDiff]; exact ⟨by repeat' (first | exact trivial | refine ⟨.inr rfl, ?_⟩), ⟨congrArg (fun g => some (AObj.arr 76 0 5 g)) m0, trivial⟩, rfl, rfl⟩) (Nat.zero_le _) ?_
  intro i hi NX hN
  skip
  unfold l_laws_toHandZoneS_0; simp (maxSteps := 2000000) only [bitvec_to_nat, reduceIte, Nat.reduceEqDiff, Nat.reduceAdd, Nat.reduceLeDiff, reduceCtorEq, Nat.reduceBEq, Nat.reduceLT, Nat.reduceMod, fmc, t_toZone, bXH, Zone.row, Box6.row, appE, rowsOf, srow, irow, bHX, Word.row, Own.row, Part.row, Seen.row, Book.row, Sector.row, HCraft.row, World.row, set_Zone, Nat.sub_zero]
  refine ⟨fun h => ?_, fun h => ?_⟩
  · repeat' (first | with_reducible apply And.intro | with_reducible intro _)
    all_goals first
      | omega
      | rfl
      | exact hs2 (by omega)
      | (have e := to_Zone_st (a := a) (i := i) (by omega)
         try simp only [Zone.row] at *
         refine hN (i + 1) _ ⟨by repeat' (first | exact trivial | refine ⟨.inr rfl, ?_⟩), ⟨congrArg (fun g => some (AObj.arr 76 0 5 (List.map Zone.row g))) e, trivial⟩, rfl, rfl⟩ ?_ ?_ <;> omega)
  · have e : i = a.length := by omega
    subst e
    simp only [to_Zone, List.take_length, Nat.sub_self, List.replicate_zero, List.append_nil]
    try rw [List.take_of_length_le (by simp)]
theorem c_eqZone (c d : Zone)  : Contract P 48 [.agg (c.row), .agg (d.row)] [] (.bool (decide (c = d))) [] := by
  obtain ⟨c_nm, c_x0, c_y0, c_x1, c_y1⟩ := c
  obtain ⟨d_nm, d_x0, d_y0, d_x1, d_y1⟩ := d
  simp only [Zone.row]
  refine fn_sound (Env.nil P) hm k_laws_eqHandZone (nlb rfl) rfl ?_; unfold s_laws_eqHandZone; simp (maxSteps := 2000000) only [bitvec_to_nat, reduceIte, Nat.reduceEqDiff, Nat.reduceAdd, Nat.reduceLeDiff, reduceCtorEq, Nat.reduceBEq, Nat.reduceLT, Nat.reduceMod, fmc, bXH, Zone.row, Box6.row, appE, rowsOf, srow, irow, bHX, Word.row, Own.row, Part.row, Seen.row, Book.row, Sector.row, HCraft.row, World.row]
  simp only [Zone.mk.injEq]
  repeat' (first | with_reducible apply And.intro | with_reducible intro _)
  all_goals first | omega | (simp_all; done) | grind
def t_eqZone : List AV → Option (Prop × AV)
  | [.agg [.str c_nm, .int .i64 c_x0, .int .i64 c_y0, .int .i64 c_x1, .int .i64 c_y1], .agg [.str d_nm, .int .i64 d_x0, .int .i64 d_y0, .int .i64 d_x1, .int .i64 d_y1]] => some ((True) ∧ (True), .bool (decide ((Zone.mk c_nm c_x0 c_y0 c_x1 c_y1) = (Zone.mk d_nm d_x0 d_y0 d_x1 d_y1))))
  | _ => none
theorem h_eqZone : ∀ args p v, t_eqZone args = some (p, v) → p → Contract P 48 args [] v [] ∧ noref v = true ∧ No99 v := by
  intro args p v h1 h2
  unfold t_eqZone at h1
  split at h1
  · rename_i c_nm c_x0 c_y0 c_x1 c_y1 d_nm d_x0 d_y0 d_x1 d_y1
    cases h1
    obtain ⟨_, HP⟩ := h2
    have := c_eqZone (Zone.mk c_nm c_x0 c_y0 c_x1 c_y1) (Zone.mk d_nm d_x0 d_y0 d_x1 d_y1)
    exact ⟨by simpa only [Zone.row, Zone.row] using this, rfl, trivial⟩
  · cases h1
theorem c_eqZoneS (t t' : Nat) (p q : List Zone) (hp : p.length ≤ 4611686018427387904) : Contract P 14 [.sl t 5 (p.map Zone.row), .sl t' 5 (q.map Zone.row)] [] (.bool (decide (p = q))) [] := by
  refine fn_sound ((Env.nil P).add 48 t_eqZone h_eqZone) hm k_laws_eqHandZoneS (nlb rfl) rfl ?_; unfold s_laws_eqHandZoneS; simp (maxSteps := 2000000) only [bitvec_to_nat, reduceIte, Nat.reduceEqDiff, Nat.reduceAdd, Nat.reduceLeDiff, reduceCtorEq, Nat.reduceBEq, Nat.reduceLT, Nat.reduceMod, fmc, t_eqZone, bXH, Zone.row, Box6.row, appE, rowsOf, srow, irow, bHX, Word.row, Own.row, Part.row, Seen.row, Book.row, Sector.row, HCraft.row, World.row]
  refine ⟨fun h1 h => h1 (by rw [h]), fun h1 => ?_⟩
  refine loop_st (fun i : Nat => [(5, .int .i64 i)]) (fun _ => []) (fun i => i ≤ p.length ∧ ∀ j, j < i → p.getD j default = q.getD j default) (fun i => p.length - i) (0) (by simp only [u_E0, u_E1, u_M0, u_M1, w_setE0, w_setE1, w_setM0, w_setM1, reduceIte, Nat.reduceEqDiff]; exact ⟨by repeat' (first | exact trivial | refine ⟨.inr rfl, ?_⟩), by repeat' (first | exact trivial | refine ⟨rfl, ?_⟩), by first | rfl | simp [closedB, refsIn, refsInL, refsInO, dom, refsInL_nr, *], by first | rfl | simp [keepB, dom]⟩) ?_ ?_
  · exact ⟨Nat.zero_le _, by intro j hj; omega⟩
  intro i hi NX hN
  unfold l_laws_eqHandZoneS_0; simp (maxSteps := 2000000) only [bitvec_to_nat, reduceIte, Nat.reduceEqDiff, Nat.reduceAdd, Nat.reduceLeDiff, reduceCtorEq, Nat.reduceBEq, Nat.reduceLT, Nat.reduceMod, fmc, t_eqZone, bXH, Zone.row, Box6.row, appE, rowsOf, srow, irow, bHX, Word.row, Own.row, Part.row, Seen.row, Book.row, Sector.row, HCraft.row, World.row]
  skip
  repeat' (first | with_reducible apply And.intro | with_reducible intro _)
  all_goals first
    | omega
    | (refine hN (i + 1) _ (by simp only [u_E0, u_E1, u_M0, u_M1, w_setE0, w_setE1, w_setM0, w_setM1, reduceIte, Nat.reduceEqDiff]; exact ⟨by repeat' (first | exact trivial | refine ⟨.inr rfl, ?_⟩), by repeat' (first | exact trivial | refine ⟨rfl, ?_⟩), by first | rfl | simp [closedB, refsIn, refsInL, refsInO, dom, refsInL_nr, *], by first | rfl | simp [keepB, dom]⟩) ?_ ?_
       · exact ⟨by omega, all_snoc hi.2 (by with_reducible assumption)⟩
       · omega)
    | (intro h; subst h; exact absurd rfl (by with_reducible assumption))
    | (exact ext_of (by omega) fun j hj => hi.2 j (by omega))
    | grind
def t_eqZoneS : List AV → Option (Prop × AV)
  | [.sl ct 5 cx, .sl dt 5 dx] => some ((((cx.map unZone).map Zone.row = cx) ∧ ((dx.map unZone).map Zone.row = dx)) ∧ ((cx.map unZone).length ≤ 4611686018427387904), .bool (decide ((cx.map unZone) = (dx.map unZone))))
  | _ => none
theorem h_eqZoneS : ∀ args p v, t_eqZoneS args = some (p, v) → p → Contract P 14 args [] v [] ∧ noref v = true ∧ No99 v := by
  intro args p v h1 h2
  unfold t_eqZoneS at h1
  split at h1
  · rename_i ct cx dt dx
    cases h1
    obtain ⟨⟨e0, e1⟩, HP⟩ := h2
    have := c_eqZoneS ct dt (cx.map unZone) (dx.map unZone) HP
    exact ⟨by simpa only [e0, e1] using this, rfl, trivial⟩
  · cases h1
theorem c_toSeen (s : Seen) : Contract P 85 [.agg (s.row)] [] (.agg (s.row)) [] := by
  simp only [Seen.row]
  refine fn_sound (Env.nil P) hm k_laws_toHandSeen (nlb rfl) rfl ?_; unfold s_laws_toHandSeen; simp (maxSteps := 2000000) only [bitvec_to_nat, reduceIte, Nat.reduceEqDiff, Nat.reduceAdd, Nat.reduceLeDiff, reduceCtorEq, Nat.reduceBEq, Nat.reduceLT, Nat.reduceMod, fmc, bXH, Zone.row, Box6.row, appE, rowsOf, srow, irow, bHX, Word.row, Own.row, Part.row, Seen.row, Book.row, Sector.row, HCraft.row, World.row]
  all_goals trivial
def t_toSeen : List AV → Option (Prop × AV)
  | [.agg [.str s_fl, .int .i64 s_nr]] => some ((True) ∧ (True), .agg (Seen.row (Seen.mk s_fl s_nr)))
  | _ => none
theorem h_toSeen : ∀ args p v, t_toSeen args = some (p, v) → p → Contract P 85 args [] v [] ∧ noref v = true ∧ No99 v := by
  intro args p v h1 h2
  unfold t_toSeen at h1
  split at h1
  · rename_i s_fl s_nr
    cases h1
    obtain ⟨_, HP⟩ := h2
    have := c_toSeen (Seen.mk s_fl s_nr)
    exact ⟨by simpa only [Seen.row] using this, rfl, by simp [Seen.row, No99, No99L, no99_box, no99_i, no99_str, no99_Zone, no99_Word, no99_Own, no99_Part, no99_Seen, no99_Book, no99_Sector, no99_HCraft, no99_World, -List.map_map]⟩
  · cases h1
theorem set_Seen {lst : List Seen} {idx : Nat} {vfl : ByteArray} {vnr : Int} : (lst.map Seen.row).set idx (setSeg ((lst.map Seen.row).getD idx []) 0 [.str vfl, .int .i64 vnr]) = (lst.set idx (Seen.mk vfl vnr)).map Seen.row :=
  set_rows (α := Seen) (f := Seen.row) (fun s => (Seen.mk vfl vnr)) fun x => by simp [Seen.row, setSeg]
def to_Seen (a : List Seen) (i : Nat) : List Seen := a.take i ++ List.replicate (a.length - i) ⟨⟨#[]⟩, 0⟩
theorem to_Seen_st {a : List Seen} {i : Nat} (h : i < a.length) : (to_Seen a i).set i (a.getD i default) = to_Seen a (i + 1) := by
  refine List.ext_getElem (by simp [to_Seen]; omega) fun j h1 h2 => ?_
  by_cases e : j = i
  · subst e
    simp [to_Seen, List.getElem_append, h]
    intro h9; omega
  · simp only [List.getElem_set_ne (Ne.symm e)]
    simp only [to_Seen, List.getElem_append, List.length_take, List.getElem_take, List.getElem_replicate]
    split <;> split <;> first | rfl | omega
theorem c_toSeenS (t : Nat) (a : List Seen) (ha : a.length ≤ 1048576) : Contract P 44 [.sl t 2 (a.map Seen.row)] [] (.sl 0 2 (a.map Seen.row)) [] := by
  refine fn_sound ((Env.nil P).add 85 t_toSeen h_toSeen) hm k_laws_toHandSeenS (nlb rfl) rfl ?_; unfold s_laws_toHandSeenS; simp (maxSteps := 2000000) only [bitvec_to_nat, reduceIte, Nat.reduceEqDiff, Nat.reduceAdd, Nat.reduceLeDiff, reduceCtorEq, Nat.reduceBEq, Nat.reduceLT, Nat.reduceMod, fmc, t_toSeen, bXH, Zone.row, Box6.row, appE, rowsOf, srow, irow, bHX, Word.row, Own.row, Part.row, Seen.row, Book.row, Sector.row, HCraft.row, World.row, set_Seen, Nat.sub_zero]
  have m0 : List.replicate a.length [.str ⟨#[]⟩, .int .i64 0] = (to_Seen a 0).map Seen.row := by simp [to_Seen, Seen.row]
  refine ⟨by omega, ?_⟩
  refine loop_st (fun i : Nat => [(4, .int .i64 i)]) (fun i => [(107, .arr 118 0 2 ((to_Seen a i).map Seen.row))]) (fun i => i ≤ a.length) (fun i => a.length - i) 0 (by simp only [u_E0, u_E1, u_M0, u_M1, w_setE0, w_setE1, w_setM0, w_setM1, reduceIte, Nat.reduceEqDiff]; exact ⟨by repeat' (first | exact trivial | refine ⟨.inr rfl, ?_⟩), ⟨congrArg (fun g => some (AObj.arr 118 0 2 g)) m0, trivial⟩, rfl, rfl⟩) (Nat.zero_le _) ?_
  intro i hi NX hN
  skip
  unfold l_laws_toHandSeenS_0; simp (maxSteps := 2000000) only [bitvec_to_nat, reduceIte, Nat.reduceEqDiff, Nat.reduceAdd, Nat.reduceLeDiff, reduceCtorEq, Nat.reduceBEq, Nat.reduceLT, Nat.reduceMod, fmc, t_toSeen, bXH, Zone.row, Box6.row, appE, rowsOf, srow, irow, bHX, Word.row, Own.row, Part.row, Seen.row, Book.row, Sector.row, HCraft.row, World.row, set_Seen, Nat.sub_zero]
  refine ⟨fun h => ?_, fun h => ?_⟩
  · repeat' (first | with_reducible apply And.intro | with_reducible intro _)
    all_goals first
      | omega
      | rfl
      | exact hs2 (by omega)
      | (have e := to_Seen_st (a := a) (i := i) (by omega)
         try simp only [Seen.row] at *
         refine hN (i + 1) _ ⟨by repeat' (first | exact trivial | refine ⟨.inr rfl, ?_⟩), ⟨congrArg (fun g => some (AObj.arr 118 0 2 (List.map Seen.row g))) e, trivial⟩, rfl, rfl⟩ ?_ ?_ <;> omega)
  · have e : i = a.length := by omega
    subst e
    simp only [to_Seen, List.take_length, Nat.sub_self, List.replicate_zero, List.append_nil]
    try rw [List.take_of_length_le (by simp)]
def t_toSeenS : List AV → Option (Prop × AV)
  | [.sl st 2 sx] => some ((((sx.map unSeen).map Seen.row = sx)) ∧ ((sx.map unSeen).length ≤ 1048576), .sl 0 2 ((sx.map unSeen).map Seen.row))
  | _ => none
theorem h_toSeenS : ∀ args p v, t_toSeenS args = some (p, v) → p → Contract P 44 args [] v [] ∧ noref v = true ∧ No99 v := by
  intro args p v h1 h2
  unfold t_toSeenS at h1
  split at h1
  · rename_i st sx
    cases h1
    obtain ⟨e0, HP⟩ := h2
    have := c_toSeenS st (sx.map unSeen) HP
    exact ⟨by simpa only [e0] using this, rfl, by simp [No99, No99L, no99_box, no99_i, no99_str, no99_Zone, no99_Word, no99_Own, no99_Part, no99_Seen, no99_Book, no99_Sector, no99_HCraft, no99_World, -List.map_map]⟩
  · cases h1
theorem c_eqSeen (c d : Seen)  : Contract P 93 [.agg (c.row), .agg (d.row)] [] (.bool (decide (c = d))) [] := by
  obtain ⟨c_fl, c_nr⟩ := c
  obtain ⟨d_fl, d_nr⟩ := d
  simp only [Seen.row]
  refine fn_sound (Env.nil P) hm k_laws_eqHandSeen (nlb rfl) rfl ?_; unfold s_laws_eqHandSeen; simp (maxSteps := 2000000) only [bitvec_to_nat, reduceIte, Nat.reduceEqDiff, Nat.reduceAdd, Nat.reduceLeDiff, reduceCtorEq, Nat.reduceBEq, Nat.reduceLT, Nat.reduceMod, fmc, bXH, Zone.row, Box6.row, appE, rowsOf, srow, irow, bHX, Word.row, Own.row, Part.row, Seen.row, Book.row, Sector.row, HCraft.row, World.row]
  simp only [Seen.mk.injEq]
  repeat' (first | with_reducible apply And.intro | with_reducible intro _)
  all_goals first | omega | (simp_all; done) | grind
def t_eqSeen : List AV → Option (Prop × AV)
  | [.agg [.str c_fl, .int .i64 c_nr], .agg [.str d_fl, .int .i64 d_nr]] => some ((True) ∧ (True), .bool (decide ((Seen.mk c_fl c_nr) = (Seen.mk d_fl d_nr))))
  | _ => none
theorem h_eqSeen : ∀ args p v, t_eqSeen args = some (p, v) → p → Contract P 93 args [] v [] ∧ noref v = true ∧ No99 v := by
  intro args p v h1 h2
  unfold t_eqSeen at h1
  split at h1
  · rename_i c_fl c_nr d_fl d_nr
    cases h1
    obtain ⟨_, HP⟩ := h2
    have := c_eqSeen (Seen.mk c_fl c_nr) (Seen.mk d_fl d_nr)
    exact ⟨by simpa only [Seen.row, Seen.row] using this, rfl, trivial⟩
  · cases h1
theorem c_eqSeenS (t t' : Nat) (p q : List Seen) (hp : p.length ≤ 4611686018427387904) : Contract P 51 [.sl t 2 (p.map Seen.row), .sl t' 2 (q.map Seen.row)] [] (.bool (decide (p = q))) [] := by
  refine fn_sound ((Env.nil P).add 93 t_eqSeen h_eqSeen) hm k_laws_eqHandSeenS (nlb rfl) rfl ?_; unfold s_laws_eqHandSeenS; simp (maxSteps := 2000000) only [bitvec_to_nat, reduceIte, Nat.reduceEqDiff, Nat.reduceAdd, Nat.reduceLeDiff, reduceCtorEq, Nat.reduceBEq, Nat.reduceLT, Nat.reduceMod, fmc, t_eqSeen, bXH, Zone.row, Box6.row, appE, rowsOf, srow, irow, bHX, Word.row, Own.row, Part.row, Seen.row, Book.row, Sector.row, HCraft.row, World.row]
  refine ⟨fun h1 h => h1 (by rw [h]), fun h1 => ?_⟩
  refine loop_st (fun i : Nat => [(5, .int .i64 i)]) (fun _ => []) (fun i => i ≤ p.length ∧ ∀ j, j < i → p.getD j default = q.getD j default) (fun i => p.length - i) (0) (by simp only [u_E0, u_E1, u_M0, u_M1, w_setE0, w_setE1, w_setM0, w_setM1, reduceIte, Nat.reduceEqDiff]; exact ⟨by repeat' (first | exact trivial | refine ⟨.inr rfl, ?_⟩), by repeat' (first | exact trivial | refine ⟨rfl, ?_⟩), by first | rfl | simp [closedB, refsIn, refsInL, refsInO, dom, refsInL_nr, *], by first | rfl | simp [keepB, dom]⟩) ?_ ?_
  · exact ⟨Nat.zero_le _, by intro j hj; omega⟩
  intro i hi NX hN
  unfold l_laws_eqHandSeenS_0; simp (maxSteps := 2000000) only [bitvec_to_nat, reduceIte, Nat.reduceEqDiff, Nat.reduceAdd, Nat.reduceLeDiff, reduceCtorEq, Nat.reduceBEq, Nat.reduceLT, Nat.reduceMod, fmc, t_eqSeen, bXH, Zone.row, Box6.row, appE, rowsOf, srow, irow, bHX, Word.row, Own.row, Part.row, Seen.row, Book.row, Sector.row, HCraft.row, World.row]
  skip
  repeat' (first | with_reducible apply And.intro | with_reducible intro _)
  all_goals first
    | omega
    | (refine hN (i + 1) _ (by simp only [u_E0, u_E1, u_M0, u_M1, w_setE0, w_setE1, w_setM0, w_setM1, reduceIte, Nat.reduceEqDiff]; exact ⟨by repeat' (first | exact trivial | refine ⟨.inr rfl, ?_⟩), by repeat' (first | exact trivial | refine ⟨rfl, ?_⟩), by first | rfl | simp [closedB, refsIn, refsInL, refsInO, dom, refsInL_nr, *], by first | rfl | simp [keepB, dom]⟩) ?_ ?_
       · exact ⟨by omega, all_snoc hi.2 (by with_reducible assumption)⟩
       · omega)
    | (intro h; subst h; exact absurd rfl (by with_reducible assumption))
    | (exact ext_of (by omega) fun j hj => hi.2 j (by omega))
    | grind
def t_eqSeenS : List AV → Option (Prop × AV)
  | [.sl ct 2 cx, .sl dt 2 dx] => some ((((cx.map unSeen).map Seen.row = cx) ∧ ((dx.map unSeen).map Seen.row = dx)) ∧ ((cx.map unSeen).length ≤ 4611686018427387904), .bool (decide ((cx.map unSeen) = (dx.map unSeen))))
  | _ => none
theorem h_eqSeenS : ∀ args p v, t_eqSeenS args = some (p, v) → p → Contract P 51 args [] v [] ∧ noref v = true ∧ No99 v := by
  intro args p v h1 h2
  unfold t_eqSeenS at h1
  split at h1
  · rename_i ct cx dt dx
    cases h1
    obtain ⟨⟨e0, e1⟩, HP⟩ := h2
    have := c_eqSeenS ct dt (cx.map unSeen) (dx.map unSeen) HP
    exact ⟨by simpa only [e0, e1] using this, rfl, trivial⟩
  · cases h1
theorem c_toPart (s : Part) (hs : s.small) : Contract P 84 [.agg (s.row 1)] [] (.agg (s.row 0)) [] := by
  unfold Part.small at hs
  simp only [Part.row]
  refine fn_sound ((Env.nil P).add 25 t_toBoxS h_toBoxS) hm k_laws_toHandPart (nlb rfl) rfl ?_; unfold s_laws_toHandPart; simp (maxSteps := 2000000) only [bitvec_to_nat, reduceIte, Nat.reduceEqDiff, Nat.reduceAdd, Nat.reduceLeDiff, reduceCtorEq, Nat.reduceBEq, Nat.reduceLT, Nat.reduceMod, fmc, t_toBoxS, bXH, Zone.row, Box6.row, appE, rowsOf, srow, irow, bHX, Word.row, Own.row, Part.row, Seen.row, Book.row, Sector.row, HCraft.row, World.row]
  repeat' (first | with_reducible apply And.intro | with_reducible intro _)
  all_goals first | omega | grind | grind [Word.small, Own.small, Part.small, Book.small, Sector.small, HCraft.small, World.small]
def t_toPart : List AV → Option (Prop × AV)
  | [.agg [.str s_fl, .int .i64 s_nr, .sl 1 6 s_bx]] => some ((((s_bx.map unBox).map Box6.row = s_bx)) ∧ (Part.small (Part.mk s_fl s_nr (s_bx.map unBox))), .agg (Part.row 0 (Part.mk s_fl s_nr (s_bx.map unBox))))
  | _ => none
theorem h_toPart : ∀ args p v, t_toPart args = some (p, v) → p → Contract P 84 args [] v [] ∧ noref v = true ∧ No99 v := by
  intro args p v h1 h2
  unfold t_toPart at h1
  split at h1
  · rename_i s_fl s_nr s_bx
    cases h1
    obtain ⟨e0, HP⟩ := h2
    have := c_toPart (Part.mk s_fl s_nr (s_bx.map unBox)) HP
    exact ⟨by simpa only [e0, Part.row] using this, rfl, by simp [Part.row, No99, No99L, no99_box, no99_i, no99_str, no99_Zone, no99_Word, no99_Own, no99_Part, no99_Seen, no99_Book, no99_Sector, no99_HCraft, no99_World, -List.map_map]⟩
  · cases h1
theorem set_Part {lst : List Part} {idx : Nat} {vfl : ByteArray} {vnr : Int} {vbx : List Box6} : (lst.map (Part.row 0)).set idx (setSeg ((lst.map (Part.row 0)).getD idx []) 0 [.str vfl, .int .i64 vnr, .sl 0 6 (vbx.map Box6.row)]) = (lst.set idx (Part.mk vfl vnr vbx)).map (Part.row 0) :=
  set_rows (α := Part) (f := (Part.row 0)) (fun s => (Part.mk vfl vnr vbx)) fun x => by simp [Part.row, setSeg]
def to_Part (a : List Part) (i : Nat) : List Part := a.take i ++ List.replicate (a.length - i) ⟨⟨#[]⟩, 0, []⟩
theorem to_Part_st {a : List Part} {i : Nat} (h : i < a.length) : (to_Part a i).set i (a.getD i default) = to_Part a (i + 1) := by
  refine List.ext_getElem (by simp [to_Part]; omega) fun j h1 h2 => ?_
  by_cases e : j = i
  · subst e
    simp [to_Part, List.getElem_append, h]
    intro h9; omega
  · simp only [List.getElem_set_ne (Ne.symm e)]
    simp only [to_Part, List.getElem_append, List.length_take, List.getElem_take, List.getElem_replicate]
    split <;> split <;> first | rfl | omega
theorem c_toPartS (t : Nat) (a : List Part) (ha : a.length ≤ 1048576) (hs : ∀ x ∈ a, x.small) : Contract P 43 [.sl t 3 (a.map (Part.row 1))] [] (.sl 0 3 (a.map (Part.row 0))) [] := by
  refine fn_sound ((Env.nil P).add 84 t_toPart h_toPart) hm k_laws_toHandPartS (nlb rfl) rfl ?_; unfold s_laws_toHandPartS; simp (maxSteps := 2000000) only [bitvec_to_nat, reduceIte, Nat.reduceEqDiff, Nat.reduceAdd, Nat.reduceLeDiff, reduceCtorEq, Nat.reduceBEq, Nat.reduceLT, Nat.reduceMod, fmc, t_toPart, bXH, Zone.row, Box6.row, appE, rowsOf, srow, irow, bHX, Word.row, Own.row, Part.row, Seen.row, Book.row, Sector.row, HCraft.row, World.row, set_Part, Nat.sub_zero]
  have m0 : List.replicate a.length [.str ⟨#[]⟩, .int .i64 0, .sl 0 6 []] = (to_Part a 0).map (Part.row 0) := by simp [to_Part, Part.row]
  refine ⟨by omega, ?_⟩
  refine loop_st (fun i : Nat => [(4, .int .i64 i)]) (fun i => [(107, .arr 124 0 3 ((to_Part a i).map (Part.row 0)))]) (fun i => i ≤ a.length) (fun i => a.length - i) 0 (by simp only [u_E0, u_E1, u_M0, u_M1, w_setE0, w_setE1, w_setM0, w_setM1, reduceIte, Nat.reduceEqDiff]; exact ⟨by repeat' (first | exact trivial | refine ⟨.inr rfl, ?_⟩), ⟨congrArg (fun g => some (AObj.arr 124 0 3 g)) m0, trivial⟩, rfl, rfl⟩) (Nat.zero_le _) ?_
  intro i hi NX hN
  have hs2 : i < a.length → (a.getD i default).small := fun h => hs _ (getD_mem' h)
  unfold l_laws_toHandPartS_0; simp (maxSteps := 2000000) only [bitvec_to_nat, reduceIte, Nat.reduceEqDiff, Nat.reduceAdd, Nat.reduceLeDiff, reduceCtorEq, Nat.reduceBEq, Nat.reduceLT, Nat.reduceMod, fmc, t_toPart, bXH, Zone.row, Box6.row, appE, rowsOf, srow, irow, bHX, Word.row, Own.row, Part.row, Seen.row, Book.row, Sector.row, HCraft.row, World.row, set_Part, Nat.sub_zero]
  refine ⟨fun h => ?_, fun h => ?_⟩
  · repeat' (first | with_reducible apply And.intro | with_reducible intro _)
    all_goals first
      | omega
      | rfl
      | exact hs2 (by omega)
      | (have e := to_Part_st (a := a) (i := i) (by omega)
         try simp only [Part.row] at *
         refine hN (i + 1) _ ⟨by repeat' (first | exact trivial | refine ⟨.inr rfl, ?_⟩), ⟨congrArg (fun g => some (AObj.arr 124 0 3 (List.map (Part.row 0) g))) e, trivial⟩, rfl, rfl⟩ ?_ ?_ <;> omega)
  · have e : i = a.length := by omega
    subst e
    simp only [to_Part, List.take_length, Nat.sub_self, List.replicate_zero, List.append_nil]
    try rw [List.take_of_length_le (by simp)]
def t_toPartS : List AV → Option (Prop × AV)
  | [.sl st 3 sx] => some ((((sx.map unPart).map (Part.row 1) = sx)) ∧ ((sx.map unPart).length ≤ 1048576 ∧ ∀ x ∈ (sx.map unPart), x.small), .sl 0 3 ((sx.map unPart).map (Part.row 0)))
  | _ => none
theorem h_toPartS : ∀ args p v, t_toPartS args = some (p, v) → p → Contract P 43 args [] v [] ∧ noref v = true ∧ No99 v := by
  intro args p v h1 h2
  unfold t_toPartS at h1
  split at h1
  · rename_i st sx
    cases h1
    obtain ⟨e0, HP⟩ := h2
    have := c_toPartS st (sx.map unPart) HP.1 HP.2
    exact ⟨by simpa only [e0] using this, rfl, by simp [No99, No99L, no99_box, no99_i, no99_str, no99_Zone, no99_Word, no99_Own, no99_Part, no99_Seen, no99_Book, no99_Sector, no99_HCraft, no99_World, -List.map_map]⟩
  · cases h1
theorem c_eqPart (c d : Part) (hl : c.bx.length ≤ 4611686018427387904) : Contract P 92 [.agg (c.row 0), .agg (d.row 0)] [] (.bool (decide (c = d))) [] := by
  obtain ⟨c_fl, c_nr, c_bx⟩ := c
  obtain ⟨d_fl, d_nr, d_bx⟩ := d
  simp only [Part.row]
  refine fn_sound ((Env.nil P).add 27 t_eqBoxS h_eqBoxS) hm k_laws_eqHandPart (nlb rfl) rfl ?_; unfold s_laws_eqHandPart; simp (maxSteps := 2000000) only [bitvec_to_nat, reduceIte, Nat.reduceEqDiff, Nat.reduceAdd, Nat.reduceLeDiff, reduceCtorEq, Nat.reduceBEq, Nat.reduceLT, Nat.reduceMod, fmc, t_eqBoxS, bXH, Zone.row, Box6.row, appE, rowsOf, srow, irow, bHX, Word.row, Own.row, Part.row, Seen.row, Book.row, Sector.row, HCraft.row, World.row]
  simp only [Part.mk.injEq]
  repeat' (first | with_reducible apply And.intro | with_reducible intro _)
  all_goals first | omega | (simp_all; done) | grind | grind [Word.small, Own.small, Part.small, Book.small, Sector.small, HCraft.small, World.small]
def t_eqPart : List AV → Option (Prop × AV)
  | [.agg [.str c_fl, .int .i64 c_nr, .sl 0 6 c_bx], .agg [.str d_fl, .int .i64 d_nr, .sl 0 6 d_bx]] => some ((((c_bx.map unBox).map Box6.row = c_bx) ∧ ((d_bx.map unBox).map Box6.row = d_bx)) ∧ ((Part.mk c_fl c_nr (c_bx.map unBox)).bx.length ≤ 4611686018427387904), .bool (decide ((Part.mk c_fl c_nr (c_bx.map unBox)) = (Part.mk d_fl d_nr (d_bx.map unBox)))))
  | _ => none
theorem h_eqPart : ∀ args p v, t_eqPart args = some (p, v) → p → Contract P 92 args [] v [] ∧ noref v = true ∧ No99 v := by
  intro args p v h1 h2
  unfold t_eqPart at h1
  split at h1
  · rename_i c_fl c_nr c_bx d_fl d_nr d_bx
    cases h1
    obtain ⟨⟨e0, e1⟩, HP⟩ := h2
    have := c_eqPart (Part.mk c_fl c_nr (c_bx.map unBox)) (Part.mk d_fl d_nr (d_bx.map unBox)) HP
    exact ⟨by simpa only [e0, e1, Part.row, Part.row] using this, rfl, trivial⟩
  · cases h1
theorem c_eqPartS (t t' : Nat) (p q : List Part) (hp : p.length ≤ 4611686018427387904) (hx : ∀ x ∈ p, x.bx.length ≤ 4611686018427387904) : Contract P 50 [.sl t 3 (p.map (Part.row 0)), .sl t' 3 (q.map (Part.row 0))] [] (.bool (decide (p = q))) [] := by
  refine fn_sound ((Env.nil P).add 92 t_eqPart h_eqPart) hm k_laws_eqHandPartS (nlb rfl) rfl ?_; unfold s_laws_eqHandPartS; simp (maxSteps := 2000000) only [bitvec_to_nat, reduceIte, Nat.reduceEqDiff, Nat.reduceAdd, Nat.reduceLeDiff, reduceCtorEq, Nat.reduceBEq, Nat.reduceLT, Nat.reduceMod, fmc, t_eqPart, bXH, Zone.row, Box6.row, appE, rowsOf, srow, irow, bHX, Word.row, Own.row, Part.row, Seen.row, Book.row, Sector.row, HCraft.row, World.row]
  refine ⟨fun h1 h => h1 (by rw [h]), fun h1 => ?_⟩
  refine loop_st (fun i : Nat => [(5, .int .i64 i)]) (fun _ => []) (fun i => i ≤ p.length ∧ ∀ j, j < i → p.getD j default = q.getD j default) (fun i => p.length - i) (0) (by simp only [u_E0, u_E1, u_M0, u_M1, w_setE0, w_setE1, w_setM0, w_setM1, reduceIte, Nat.reduceEqDiff]; exact ⟨by repeat' (first | exact trivial | refine ⟨.inr rfl, ?_⟩), by repeat' (first | exact trivial | refine ⟨rfl, ?_⟩), by first | rfl | simp [closedB, refsIn, refsInL, refsInO, dom, refsInL_nr, *], by first | rfl | simp [keepB, dom]⟩) ?_ ?_
  · exact ⟨Nat.zero_le _, by intro j hj; omega⟩
  intro i hi NX hN
  unfold l_laws_eqHandPartS_0; simp (maxSteps := 2000000) only [bitvec_to_nat, reduceIte, Nat.reduceEqDiff, Nat.reduceAdd, Nat.reduceLeDiff, reduceCtorEq, Nat.reduceBEq, Nat.reduceLT, Nat.reduceMod, fmc, t_eqPart, bXH, Zone.row, Box6.row, appE, rowsOf, srow, irow, bHX, Word.row, Own.row, Part.row, Seen.row, Book.row, Sector.row, HCraft.row, World.row]
  have hx2 : i < p.length → _ := fun h => hx _ (getD_mem' h)
  repeat' (first | with_reducible apply And.intro | with_reducible intro _)
  all_goals first
    | omega
    | (refine hN (i + 1) _ (by simp only [u_E0, u_E1, u_M0, u_M1, w_setE0, w_setE1, w_setM0, w_setM1, reduceIte, Nat.reduceEqDiff]; exact ⟨by repeat' (first | exact trivial | refine ⟨.inr rfl, ?_⟩), by repeat' (first | exact trivial | refine ⟨rfl, ?_⟩), by first | rfl | simp [closedB, refsIn, refsInL, refsInO, dom, refsInL_nr, *], by first | rfl | simp [keepB, dom]⟩) ?_ ?_
       · exact ⟨by omega, all_snoc hi.2 (by with_reducible assumption)⟩
       · omega)
    | (intro h; subst h; exact absurd rfl (by with_reducible assumption))
    | (exact ext_of (by omega) fun j hj => hi.2 j (by omega))
    | grind
def t_eqPartS : List AV → Option (Prop × AV)
  | [.sl ct 3 cx, .sl dt 3 dx] => some ((((cx.map unPart).map (Part.row 0) = cx) ∧ ((dx.map unPart).map (Part.row 0) = dx)) ∧ ((cx.map unPart).length ≤ 4611686018427387904 ∧ ∀ x ∈ (cx.map unPart), x.bx.length ≤ 4611686018427387904), .bool (decide ((cx.map unPart) = (dx.map unPart))))
  | _ => none
theorem h_eqPartS : ∀ args p v, t_eqPartS args = some (p, v) → p → Contract P 50 args [] v [] ∧ noref v = true ∧ No99 v := by
  intro args p v h1 h2
  unfold t_eqPartS at h1
  split at h1
  · rename_i ct cx dt dx
    cases h1
    obtain ⟨⟨e0, e1⟩, HP⟩ := h2
    have := c_eqPartS ct dt (cx.map unPart) (dx.map unPart) HP.1 HP.2
    exact ⟨by simpa only [e0, e1] using this, rfl, trivial⟩
  · cases h1
theorem c_toOwn (s : Own) (hs : s.small) : Contract P 83 [.agg (s.row 1)] [] (.agg (s.row 0)) [] := by
  unfold Own.small at hs
  simp only [Own.row]
  refine fn_sound (((Env.nil P).add 25 t_toBoxS h_toBoxS).add 112 t_toStringS h_toStringS) hm k_laws_toHandOwn (nlb rfl) rfl ?_; unfold s_laws_toHandOwn; simp (maxSteps := 2000000) only [bitvec_to_nat, reduceIte, Nat.reduceEqDiff, Nat.reduceAdd, Nat.reduceLeDiff, reduceCtorEq, Nat.reduceBEq, Nat.reduceLT, Nat.reduceMod, fmc, t_toBoxS, t_toStringS, bXH, Zone.row, Box6.row, appE, rowsOf, srow, irow, bHX, Word.row, Own.row, Part.row, Seen.row, Book.row, Sector.row, HCraft.row, World.row]
  repeat' (first | with_reducible apply And.intro | with_reducible intro _)
  all_goals first | omega | grind | grind [Word.small, Own.small, Part.small, Book.small, Sector.small, HCraft.small, World.small]
def t_toOwn : List AV → Option (Prop × AV)
  | [.agg [.str s_fl, .int .i64 s_st, .int .i64 s_tn, .str s_dst, .int .i64 s_la, .int .i64 s_nr, .sl 1 6 s_tu, .int .i64 s_wi, .sl 1 6 s_nx, .sl 1 1 s_gr, .bool s_sent]] => some ((((s_tu.map unBox).map Box6.row = s_tu) ∧ ((s_nx.map unBox).map Box6.row = s_nx) ∧ ((s_gr.map unS).map srow = s_gr)) ∧ (Own.small (Own.mk s_fl s_st s_tn s_dst s_la s_nr (s_tu.map unBox) s_wi (s_nx.map unBox) (s_gr.map unS) s_sent)), .agg (Own.row 0 (Own.mk s_fl s_st s_tn s_dst s_la s_nr (s_tu.map unBox) s_wi (s_nx.map unBox) (s_gr.map unS) s_sent)))
  | _ => none
theorem h_toOwn : ∀ args p v, t_toOwn args = some (p, v) → p → Contract P 83 args [] v [] ∧ noref v = true ∧ No99 v := by
  intro args p v h1 h2
  unfold t_toOwn at h1
  split at h1
  · rename_i s_fl s_st s_tn s_dst s_la s_nr s_tu s_wi s_nx s_gr s_sent
    cases h1
    obtain ⟨⟨e0, e1, e2⟩, HP⟩ := h2
    have := c_toOwn (Own.mk s_fl s_st s_tn s_dst s_la s_nr (s_tu.map unBox) s_wi (s_nx.map unBox) (s_gr.map unS) s_sent) HP
    exact ⟨by simpa only [e0, e1, e2, Own.row] using this, rfl, by simp [Own.row, No99, No99L, no99_box, no99_i, no99_str, no99_Zone, no99_Word, no99_Own, no99_Part, no99_Seen, no99_Book, no99_Sector, no99_HCraft, no99_World, -List.map_map]⟩
  · cases h1
theorem set_Own {lst : List Own} {idx : Nat} {vfl : ByteArray} {vst : Int} {vtn : Int} {vdst : ByteArray} {vla : Int} {vnr : Int} {vtu : List Box6} {vwi : Int} {vnx : List Box6} {vgr : List ByteArray} {vsent : Bool} : (lst.map (Own.row 0)).set idx (setSeg ((lst.map (Own.row 0)).getD idx []) 0 [.str vfl, .int .i64 vst, .int .i64 vtn, .str vdst, .int .i64 vla, .int .i64 vnr, .sl 0 6 (vtu.map Box6.row), .int .i64 vwi, .sl 0 6 (vnx.map Box6.row), .sl 0 1 (vgr.map srow), .bool vsent]) = (lst.set idx (Own.mk vfl vst vtn vdst vla vnr vtu vwi vnx vgr vsent)).map (Own.row 0) :=
  set_rows (α := Own) (f := (Own.row 0)) (fun s => (Own.mk vfl vst vtn vdst vla vnr vtu vwi vnx vgr vsent)) fun x => by simp [Own.row, setSeg]
def to_Own (a : List Own) (i : Nat) : List Own := a.take i ++ List.replicate (a.length - i) ⟨⟨#[]⟩, 0, 0, ⟨#[]⟩, 0, 0, [], 0, [], [], false⟩
theorem to_Own_st {a : List Own} {i : Nat} (h : i < a.length) : (to_Own a i).set i (a.getD i default) = to_Own a (i + 1) := by
  refine List.ext_getElem (by simp [to_Own]; omega) fun j h1 h2 => ?_
  by_cases e : j = i
  · subst e
    simp [to_Own, List.getElem_append, h]
    intro h9; omega
  · simp only [List.getElem_set_ne (Ne.symm e)]
    simp only [to_Own, List.getElem_append, List.length_take, List.getElem_take, List.getElem_replicate]
    split <;> split <;> first | rfl | omega
theorem c_toOwnS (t : Nat) (a : List Own) (ha : a.length ≤ 1048576) (hs : ∀ x ∈ a, x.small) : Contract P 42 [.sl t 11 (a.map (Own.row 1))] [] (.sl 0 11 (a.map (Own.row 0))) [] := by
  refine fn_sound ((Env.nil P).add 83 t_toOwn h_toOwn) hm k_laws_toHandOwnS (nlb rfl) rfl ?_; unfold s_laws_toHandOwnS; simp (maxSteps := 2000000) only [bitvec_to_nat, reduceIte, Nat.reduceEqDiff, Nat.reduceAdd, Nat.reduceLeDiff, reduceCtorEq, Nat.reduceBEq, Nat.reduceLT, Nat.reduceMod, fmc, t_toOwn, bXH, Zone.row, Box6.row, appE, rowsOf, srow, irow, bHX, Word.row, Own.row, Part.row, Seen.row, Book.row, Sector.row, HCraft.row, World.row, set_Own, Nat.sub_zero]
  have m0 : List.replicate a.length [.str ⟨#[]⟩, .int .i64 0, .int .i64 0, .str ⟨#[]⟩, .int .i64 0, .int .i64 0, .sl 0 6 [], .int .i64 0, .sl 0 6 [], .sl 0 1 [], .bool false] = (to_Own a 0).map (Own.row 0) := by simp [to_Own, Own.row]
  refine ⟨by omega, ?_⟩
  refine loop_st (fun i : Nat => [(4, .int .i64 i)]) (fun i => [(107, .arr 71 0 11 ((to_Own a i).map (Own.row 0)))]) (fun i => i ≤ a.length) (fun i => a.length - i) 0 (by simp only [u_E0, u_E1, u_M0, u_M1, w_setE0, w_setE1, w_setM0, w_setM1, reduceIte, Nat.reduceEqDiff]; exact ⟨by repeat' (first | exact trivial | refine ⟨.inr rfl, ?_⟩), ⟨congrArg (fun g => some (AObj.arr 71 0 11 g)) m0, trivial⟩, rfl, rfl⟩) (Nat.zero_le _) ?_
  intro i hi NX hN
  have hs2 : i < a.length → (a.getD i default).small := fun h => hs _ (getD_mem' h)
  unfold l_laws_toHandOwnS_0; simp (maxSteps := 2000000) only [bitvec_to_nat, reduceIte, Nat.reduceEqDiff, Nat.reduceAdd, Nat.reduceLeDiff, reduceCtorEq, Nat.reduceBEq, Nat.reduceLT, Nat.reduceMod, fmc, t_toOwn, bXH, Zone.row, Box6.row, appE, rowsOf, srow, irow, bHX, Word.row, Own.row, Part.row, Seen.row, Book.row, Sector.row, HCraft.row, World.row, set_Own, Nat.sub_zero]
  refine ⟨fun h => ?_, fun h => ?_⟩
  · repeat' (first | with_reducible apply And.intro | with_reducible intro _)
    all_goals first
      | omega
      | rfl
      | exact hs2 (by omega)
      | (have e := to_Own_st (a := a) (i := i) (by omega)
         try simp only [Own.row] at *
         refine hN (i + 1) _ ⟨by repeat' (first | exact trivial | refine ⟨.inr rfl, ?_⟩), ⟨congrArg (fun g => some (AObj.arr 71 0 11 (List.map (Own.row 0) g))) e, trivial⟩, rfl, rfl⟩ ?_ ?_ <;> omega)
  · have e : i = a.length := by omega
    subst e
    simp only [to_Own, List.take_length, Nat.sub_self, List.replicate_zero, List.append_nil]
    try rw [List.take_of_length_le (by simp)]
def t_toOwnS : List AV → Option (Prop × AV)
  | [.sl st 11 sx] => some ((((sx.map unOwn).map (Own.row 1) = sx)) ∧ ((sx.map unOwn).length ≤ 1048576 ∧ ∀ x ∈ (sx.map unOwn), x.small), .sl 0 11 ((sx.map unOwn).map (Own.row 0)))
  | _ => none
theorem h_toOwnS : ∀ args p v, t_toOwnS args = some (p, v) → p → Contract P 42 args [] v [] ∧ noref v = true ∧ No99 v := by
  intro args p v h1 h2
  unfold t_toOwnS at h1
  split at h1
  · rename_i st sx
    cases h1
    obtain ⟨e0, HP⟩ := h2
    have := c_toOwnS st (sx.map unOwn) HP.1 HP.2
    exact ⟨by simpa only [e0] using this, rfl, by simp [No99, No99L, no99_box, no99_i, no99_str, no99_Zone, no99_Word, no99_Own, no99_Part, no99_Seen, no99_Book, no99_Sector, no99_HCraft, no99_World, -List.map_map]⟩
  · cases h1
theorem c_eqOwn (c d : Own) (hl : c.tu.length ≤ 4611686018427387904 ∧ c.nx.length ≤ 4611686018427387904 ∧ c.gr.length ≤ 4611686018427387904) : Contract P 91 [.agg (c.row 0), .agg (d.row 0)] [] (.bool (decide (c = d))) [] := by
  obtain ⟨c_fl, c_st, c_tn, c_dst, c_la, c_nr, c_tu, c_wi, c_nx, c_gr, c_sent⟩ := c
  obtain ⟨d_fl, d_st, d_tn, d_dst, d_la, d_nr, d_tu, d_wi, d_nx, d_gr, d_sent⟩ := d
  simp only [Own.row]
  refine fn_sound (((Env.nil P).add 27 t_eqBoxS h_eqBoxS).add 117 t_eqStringS h_eqStringS) hm k_laws_eqHandOwn (nlb rfl) rfl ?_; unfold s_laws_eqHandOwn; simp (maxSteps := 2000000) only [bitvec_to_nat, reduceIte, Nat.reduceEqDiff, Nat.reduceAdd, Nat.reduceLeDiff, reduceCtorEq, Nat.reduceBEq, Nat.reduceLT, Nat.reduceMod, fmc, t_eqBoxS, t_eqStringS, bXH, Zone.row, Box6.row, appE, rowsOf, srow, irow, bHX, Word.row, Own.row, Part.row, Seen.row, Book.row, Sector.row, HCraft.row, World.row]
  simp only [Own.mk.injEq]
  repeat' (first | with_reducible apply And.intro | with_reducible intro _)
  all_goals first | omega | (simp_all; done) | grind | grind [Word.small, Own.small, Part.small, Book.small, Sector.small, HCraft.small, World.small]
def t_eqOwn : List AV → Option (Prop × AV)
  | [.agg [.str c_fl, .int .i64 c_st, .int .i64 c_tn, .str c_dst, .int .i64 c_la, .int .i64 c_nr, .sl 0 6 c_tu, .int .i64 c_wi, .sl 0 6 c_nx, .sl 0 1 c_gr, .bool c_sent], .agg [.str d_fl, .int .i64 d_st, .int .i64 d_tn, .str d_dst, .int .i64 d_la, .int .i64 d_nr, .sl 0 6 d_tu, .int .i64 d_wi, .sl 0 6 d_nx, .sl 0 1 d_gr, .bool d_sent]] => some ((((c_tu.map unBox).map Box6.row = c_tu) ∧ ((c_nx.map unBox).map Box6.row = c_nx) ∧ ((c_gr.map unS).map srow = c_gr) ∧ ((d_tu.map unBox).map Box6.row = d_tu) ∧ ((d_nx.map unBox).map Box6.row = d_nx) ∧ ((d_gr.map unS).map srow = d_gr)) ∧ ((Own.mk c_fl c_st c_tn c_dst c_la c_nr (c_tu.map unBox) c_wi (c_nx.map unBox) (c_gr.map unS) c_sent).tu.length ≤ 4611686018427387904 ∧ (Own.mk c_fl c_st c_tn c_dst c_la c_nr (c_tu.map unBox) c_wi (c_nx.map unBox) (c_gr.map unS) c_sent).nx.length ≤ 4611686018427387904 ∧ (Own.mk c_fl c_st c_tn c_dst c_la c_nr (c_tu.map unBox) c_wi (c_nx.map unBox) (c_gr.map unS) c_sent).gr.length ≤ 4611686018427387904), .bool (decide ((Own.mk c_fl c_st c_tn c_dst c_la c_nr (c_tu.map unBox) c_wi (c_nx.map unBox) (c_gr.map unS) c_sent) = (Own.mk d_fl d_st d_tn d_dst d_la d_nr (d_tu.map unBox) d_wi (d_nx.map unBox) (d_gr.map unS) d_sent))))
  | _ => none
theorem h_eqOwn : ∀ args p v, t_eqOwn args = some (p, v) → p → Contract P 91 args [] v [] ∧ noref v = true ∧ No99 v := by
  intro args p v h1 h2
  unfold t_eqOwn at h1
  split at h1
  · rename_i c_fl c_st c_tn c_dst c_la c_nr c_tu c_wi c_nx c_gr c_sent d_fl d_st d_tn d_dst d_la d_nr d_tu d_wi d_nx d_gr d_sent
    cases h1
    obtain ⟨⟨e0, e1, e2, e3, e4, e5⟩, HP⟩ := h2
    have := c_eqOwn (Own.mk c_fl c_st c_tn c_dst c_la c_nr (c_tu.map unBox) c_wi (c_nx.map unBox) (c_gr.map unS) c_sent) (Own.mk d_fl d_st d_tn d_dst d_la d_nr (d_tu.map unBox) d_wi (d_nx.map unBox) (d_gr.map unS) d_sent) HP
    exact ⟨by simpa only [e0, e1, e2, e3, e4, e5, Own.row, Own.row] using this, rfl, trivial⟩
  · cases h1
theorem c_eqOwnS (t t' : Nat) (p q : List Own) (hp : p.length ≤ 4611686018427387904) (hx : ∀ x ∈ p, x.tu.length ≤ 4611686018427387904 ∧ x.nx.length ≤ 4611686018427387904 ∧ x.gr.length ≤ 4611686018427387904) : Contract P 49 [.sl t 11 (p.map (Own.row 0)), .sl t' 11 (q.map (Own.row 0))] [] (.bool (decide (p = q))) [] := by
  refine fn_sound ((Env.nil P).add 91 t_eqOwn h_eqOwn) hm k_laws_eqHandOwnS (nlb rfl) rfl ?_; unfold s_laws_eqHandOwnS; simp (maxSteps := 2000000) only [bitvec_to_nat, reduceIte, Nat.reduceEqDiff, Nat.reduceAdd, Nat.reduceLeDiff, reduceCtorEq, Nat.reduceBEq, Nat.reduceLT, Nat.reduceMod, fmc, t_eqOwn, bXH, Zone.row, Box6.row, appE, rowsOf, srow, irow, bHX, Word.row, Own.row, Part.row, Seen.row, Book.row, Sector.row, HCraft.row, World.row]
  refine ⟨fun h1 h => h1 (by rw [h]), fun h1 => ?_⟩
  refine loop_st (fun i : Nat => [(5, .int .i64 i)]) (fun _ => []) (fun i => i ≤ p.length ∧ ∀ j, j < i → p.getD j default = q.getD j default) (fun i => p.length - i) (0) (by simp only [u_E0, u_E1, u_M0, u_M1, w_setE0, w_setE1, w_setM0, w_setM1, reduceIte, Nat.reduceEqDiff]; exact ⟨by repeat' (first | exact trivial | refine ⟨.inr rfl, ?_⟩), by repeat' (first | exact trivial | refine ⟨rfl, ?_⟩), by first | rfl | simp [closedB, refsIn, refsInL, refsInO, dom, refsInL_nr, *], by first | rfl | simp [keepB, dom]⟩) ?_ ?_
  · exact ⟨Nat.zero_le _, by intro j hj; omega⟩
  intro i hi NX hN
  unfold l_laws_eqHandOwnS_0; simp (maxSteps := 2000000) only [bitvec_to_nat, reduceIte, Nat.reduceEqDiff, Nat.reduceAdd, Nat.reduceLeDiff, reduceCtorEq, Nat.reduceBEq, Nat.reduceLT, Nat.reduceMod, fmc, t_eqOwn, bXH, Zone.row, Box6.row, appE, rowsOf, srow, irow, bHX, Word.row, Own.row, Part.row, Seen.row, Book.row, Sector.row, HCraft.row, World.row]
  have hx2 : i < p.length → _ := fun h => hx _ (getD_mem' h)
  repeat' (first | with_reducible apply And.intro | with_reducible intro _)
  all_goals first
    | omega
    | (refine hN (i + 1) _ (by simp only [u_E0, u_E1, u_M0, u_M1, w_setE0, w_setE1, w_setM0, w_setM1, reduceIte, Nat.reduceEqDiff]; exact ⟨by repeat' (first | exact trivial | refine ⟨.inr rfl, ?_⟩), by repeat' (first | exact trivial | refine ⟨rfl, ?_⟩), by first | rfl | simp [closedB, refsIn, refsInL, refsInO, dom, refsInL_nr, *], by first | rfl | simp [keepB, dom]⟩) ?_ ?_
       · exact ⟨by omega, all_snoc hi.2 (by with_reducible assumption)⟩
       · omega)
    | (intro h; subst h; exact absurd rfl (by with_reducible assumption))
    | (exact ext_of (by omega) fun j hj => hi.2 j (by omega))
    | grind
def t_eqOwnS : List AV → Option (Prop × AV)
  | [.sl ct 11 cx, .sl dt 11 dx] => some ((((cx.map unOwn).map (Own.row 0) = cx) ∧ ((dx.map unOwn).map (Own.row 0) = dx)) ∧ ((cx.map unOwn).length ≤ 4611686018427387904 ∧ ∀ x ∈ (cx.map unOwn), x.tu.length ≤ 4611686018427387904 ∧ x.nx.length ≤ 4611686018427387904 ∧ x.gr.length ≤ 4611686018427387904), .bool (decide ((cx.map unOwn) = (dx.map unOwn))))
  | _ => none
theorem h_eqOwnS : ∀ args p v, t_eqOwnS args = some (p, v) → p → Contract P 49 args [] v [] ∧ noref v = true ∧ No99 v := by
  intro args p v h1 h2
  unfold t_eqOwnS at h1
  split at h1
  · rename_i ct cx dt dx
    cases h1
    obtain ⟨⟨e0, e1⟩, HP⟩ := h2
    have := c_eqOwnS ct dt (cx.map unOwn) (dx.map unOwn) HP.1 HP.2
    exact ⟨by simpa only [e0, e1] using this, rfl, trivial⟩
  · cases h1
theorem c_toBook (s : Book) (hs : s.small) : Contract P 11 [.agg (s.row 1)] [] (.agg (s.row 0)) [] := by
  unfold Book.small at hs
  simp only [Book.row]
  refine fn_sound ((((Env.nil P).add 42 t_toOwnS h_toOwnS).add 43 t_toPartS h_toPartS).add 44 t_toSeenS h_toSeenS) hm k_laws_toHandBook (nlb rfl) rfl ?_; unfold s_laws_toHandBook; simp (maxSteps := 2000000) only [bitvec_to_nat, reduceIte, Nat.reduceEqDiff, Nat.reduceAdd, Nat.reduceLeDiff, reduceCtorEq, Nat.reduceBEq, Nat.reduceLT, Nat.reduceMod, fmc, t_toOwnS, t_toPartS, t_toSeenS, bXH, Zone.row, Box6.row, appE, rowsOf, srow, irow, Own.row, Own_eta, Part.row, Part_eta, Seen.row, Seen_eta, Book.row, Book_eta, un_Own, un_Part, un_Seen, un_Book]
  repeat' (first | with_reducible apply And.intro | with_reducible intro _)
  all_goals first | omega | grind | grind [Own.small, Part.small, Book.small]
theorem c_eqBook (c d : Book) (hl : c.own.length ≤ 4611686018427387904 ∧ c.parts.length ≤ 4611686018427387904 ∧ c.seen.length ≤ 4611686018427387904 ∧ (∀ x ∈ c.own, x.small) ∧ (∀ x ∈ c.parts, x.small)) : Contract P 15 [.agg (c.row 0), .agg (d.row 0)] [] (.bool (decide (c = d))) [] := by
  obtain ⟨c_own, c_parts, c_seen⟩ := c
  obtain ⟨d_own, d_parts, d_seen⟩ := d
  simp only [Book.row]
  refine fn_sound ((((Env.nil P).add 49 t_eqOwnS h_eqOwnS).add 50 t_eqPartS h_eqPartS).add 51 t_eqSeenS h_eqSeenS) hm k_laws_eqHandBook (nlb rfl) rfl ?_; unfold s_laws_eqHandBook; simp (maxSteps := 2000000) only [bitvec_to_nat, reduceIte, Nat.reduceEqDiff, Nat.reduceAdd, Nat.reduceLeDiff, reduceCtorEq, Nat.reduceBEq, Nat.reduceLT, Nat.reduceMod, fmc, t_eqOwnS, t_eqPartS, t_eqSeenS, bXH, Zone.row, Box6.row, appE, rowsOf, srow, irow, Own.row, Own_eta, Part.row, Part_eta, Seen.row, Seen_eta, Book.row, Book_eta, un_Own, un_Part, un_Seen, un_Book]
  simp only [Book.mk.injEq]
  repeat' (first | with_reducible apply And.intro | with_reducible intro _)
  all_goals first | omega | (simp_all; done) | grind | grind [Own.small, Part.small, Book.small]
end
end Go.Ve

namespace Go.Ve
open Go.Proofs
set_option maxRecDepth 100000
def lO_laws_toHandBoxS_0 : SCode := (.seq (.seq (.rg [⟨some 8, .mv (.v 4), none, []⟩, ⟨some 9, .mv (.v 0), none, []⟩, ⟨some 10, .lenL (.v 9), none, [9]⟩, ⟨some 11, .bin .lss (.v 8) (.v 10), none, [8, 10]⟩] [0, 3, 4, 11]) (.cond (.v 11) .skip (.exit 0))) (.seq (.block 1 (.rg [⟨some 14, .mv (.v 3), none, []⟩, ⟨some 15, .mv (.v 4), none, []⟩, ⟨some 16, .mv (.v 0), none, []⟩, ⟨some 17, .mv (.v 4), none, []⟩, ⟨some 18, .iaddr 6 (.v 16) (.v 17), none, [16, 17]⟩, ⟨some 19, .loadN 6 (.v 18), none, [18]⟩, ⟨some 20, .call 67 [.v 19], none, [19]⟩, ⟨some 21, .iaddr 6 (.v 14) (.v 15), none, [14, 15]⟩, ⟨none, .store 6 (.v 21) (.v 20), none, [20, 21]⟩] [0, 3, 4])) (.rg [⟨some 12, .mv (.v 4), none, [4]⟩, ⟨some 13, .binN .add (.v 12) (.c (.int .i64 1)), none, [12]⟩, ⟨some 4, .mv (.v 13), none, [13]⟩] [0, 3, 4])))
/-- laws.toHandBoxS: function 25 -/
def sO_laws_toHandBoxS : SFun := { n := 23, res := [.t 2], body := (.seq (.rg [⟨some 2, .mv (.c (.sl 0 6 [])), none, [2]⟩] [0]) (.seq (.rg [⟨some 5, .mv (.v 0), none, []⟩, ⟨some 6, .lenL (.v 5), none, [5]⟩, ⟨some 7, .mk 107 100 6 [.int .i64 0, .int .i64 0, .int .i64 0, .int .i64 0, .int .i64 0, .int .i64 0] (.v 6), none, [6]⟩, ⟨some 3, .mv (.v 7), none, [7]⟩] [0, 3]) (.seq (.seq (.rg [⟨some 4, .mv (.c (.int .i64 0)), none, []⟩] [0, 3, 4]) (.block 0 (.loop lO_laws_toHandBoxS_0))) (.seq (.rg [⟨some 22, .mv (.v 3), none, [3]⟩, ⟨some 2, .mv (.v 22), none, [22]⟩] [2]) .ret)))) }
theorem kO_laws_toHandBoxS : okFun Go.Proofs.Tryz.prog 25 sO_laws_toHandBoxS = true := by kernel_rfl
def lO_laws_toHandZoneS_0 : SCode := (.seq (.seq (.rg [⟨some 8, .mv (.v 4), none, []⟩, ⟨some 9, .mv (.v 0), none, []⟩, ⟨some 10, .lenL (.v 9), none, [9]⟩, ⟨some 11, .bin .lss (.v 8) (.v 10), none, [8, 10]⟩] [0, 3, 4, 11]) (.cond (.v 11) .skip (.exit 0))) (.seq (.block 1 (.rg [⟨some 14, .mv (.v 3), none, []⟩, ⟨some 15, .mv (.v 4), none, []⟩, ⟨some 16, .mv (.v 0), none, []⟩, ⟨some 17, .mv (.v 4), none, []⟩, ⟨some 18, .iaddr 5 (.v 16) (.v 17), none, [16, 17]⟩, ⟨some 19, .loadN 5 (.v 18), none, [18]⟩, ⟨some 20, .call 41 [.v 19], none, [19]⟩, ⟨some 21, .iaddr 5 (.v 14) (.v 15), none, [14, 15]⟩, ⟨none, .store 5 (.v 21) (.v 20), none, [20, 21]⟩] [0, 3, 4])) (.rg [⟨some 12, .mv (.v 4), none, [4]⟩, ⟨some 13, .binN .add (.v 12) (.c (.int .i64 1)), none, [12]⟩, ⟨some 4, .mv (.v 13), none, [13]⟩] [0, 3, 4])))
/-- laws.toHandZoneS: function 10 -/
def sO_laws_toHandZoneS : SFun := { n := 23, res := [.t 2], body := (.seq (.rg [⟨some 2, .mv (.c (.sl 0 5 [])), none, [2]⟩] [0]) (.seq (.rg [⟨some 5, .mv (.v 0), none, []⟩, ⟨some 6, .lenL (.v 5), none, [5]⟩, ⟨some 7, .mk 107 76 5 [.str ⟨#[]⟩, .int .i64 0, .int .i64 0, .int .i64 0, .int .i64 0] (.v 6), none, [6]⟩, ⟨some 3, .mv (.v 7), none, [7]⟩] [0, 3]) (.seq (.seq (.rg [⟨some 4, .mv (.c (.int .i64 0)), none, []⟩] [0, 3, 4]) (.block 0 (.loop lO_laws_toHandZoneS_0))) (.seq (.rg [⟨some 22, .mv (.v 3), none, [3]⟩, ⟨some 2, .mv (.v 22), none, [22]⟩] [2]) .ret)))) }
theorem kO_laws_toHandZoneS : okFun Go.Proofs.Tryz.prog 10 sO_laws_toHandZoneS = true := by kernel_rfl
def lO_laws_toStringS_0 : SCode := (.seq (.seq (.rg [⟨some 8, .mv (.v 4), none, []⟩, ⟨some 9, .mv (.v 0), none, []⟩, ⟨some 10, .lenL (.v 9), none, [9]⟩, ⟨some 11, .bin .lss (.v 8) (.v 10), none, [8, 10]⟩] [0, 3, 4, 11]) (.cond (.v 11) .skip (.exit 0))) (.seq (.block 1 (.rg [⟨some 14, .mv (.v 3), none, []⟩, ⟨some 15, .mv (.v 4), none, []⟩, ⟨some 16, .mv (.v 0), none, []⟩, ⟨some 17, .mv (.v 4), none, []⟩, ⟨some 18, .iaddr 1 (.v 16) (.v 17), none, [16, 17]⟩, ⟨some 19, .load1 (.v 18), none, [18]⟩, ⟨some 20, .iaddr 1 (.v 14) (.v 15), none, [14, 15]⟩, ⟨none, .store 1 (.v 20) (.v 19), none, [19, 20]⟩] [0, 3, 4])) (.rg [⟨some 12, .mv (.v 4), none, [4]⟩, ⟨some 13, .binN .add (.v 12) (.c (.int .i64 1)), none, [12]⟩, ⟨some 4, .mv (.v 13), none, [13]⟩] [0, 3, 4])))
/-- laws.toStringS: function 112 -/
def sO_laws_toStringS : SFun := { n := 22, res := [.t 2], body := (.seq (.rg [⟨some 2, .mv (.c (.sl 0 1 [])), none, [2]⟩] [0]) (.seq (.rg [⟨some 5, .mv (.v 0), none, []⟩, ⟨some 6, .lenL (.v 5), none, [5]⟩, ⟨some 7, .mk 107 9 1 [.str ⟨#[]⟩] (.v 6), none, [6]⟩, ⟨some 3, .mv (.v 7), none, [7]⟩] [0, 3]) (.seq (.seq (.rg [⟨some 4, .mv (.c (.int .i64 0)), none, []⟩] [0, 3, 4]) (.block 0 (.loop lO_laws_toStringS_0))) (.seq (.rg [⟨some 21, .mv (.v 3), none, [3]⟩, ⟨some 2, .mv (.v 21), none, [21]⟩] [2]) .ret)))) }
theorem kO_laws_toStringS : okFun Go.Proofs.Tryz.prog 112 sO_laws_toStringS = true := by kernel_rfl
def lO_laws_toHandSeenS_0 : SCode := (.seq (.seq (.rg [⟨some 8, .mv (.v 4), none, []⟩, ⟨some 9, .mv (.v 0), none, []⟩, ⟨some 10, .lenL (.v 9), none, [9]⟩, ⟨some 11, .bin .lss (.v 8) (.v 10), none, [8, 10]⟩] [0, 3, 4, 11]) (.cond (.v 11) .skip (.exit 0))) (.seq (.block 1 (.rg [⟨some 14, .mv (.v 3), none, []⟩, ⟨some 15, .mv (.v 4), none, []⟩, ⟨some 16, .mv (.v 0), none, []⟩, ⟨some 17, .mv (.v 4), none, []⟩, ⟨some 18, .iaddr 2 (.v 16) (.v 17), none, [16, 17]⟩, ⟨some 19, .loadN 2 (.v 18), none, [18]⟩, ⟨some 20, .call 85 [.v 19], none, [19]⟩, ⟨some 21, .iaddr 2 (.v 14) (.v 15), none, [14, 15]⟩, ⟨none, .store 2 (.v 21) (.v 20), none, [20, 21]⟩] [0, 3, 4])) (.rg [⟨some 12, .mv (.v 4), none, [4]⟩, ⟨some 13, .binN .add (.v 12) (.c (.int .i64 1)), none, [12]⟩, ⟨some 4, .mv (.v 13), none, [13]⟩] [0, 3, 4])))
/-- laws.toHandSeenS: function 44 -/
def sO_laws_toHandSeenS : SFun := { n := 23, res := [.t 2], body := (.seq (.rg [⟨some 2, .mv (.c (.sl 0 2 [])), none, [2]⟩] [0]) (.seq (.rg [⟨some 5, .mv (.v 0), none, []⟩, ⟨some 6, .lenL (.v 5), none, [5]⟩, ⟨some 7, .mk 107 118 2 [.str ⟨#[]⟩, .int .i64 0] (.v 6), none, [6]⟩, ⟨some 3, .mv (.v 7), none, [7]⟩] [0, 3]) (.seq (.seq (.rg [⟨some 4, .mv (.c (.int .i64 0)), none, []⟩] [0, 3, 4]) (.block 0 (.loop lO_laws_toHandSeenS_0))) (.seq (.rg [⟨some 22, .mv (.v 3), none, [3]⟩, ⟨some 2, .mv (.v 22), none, [22]⟩] [2]) .ret)))) }
theorem kO_laws_toHandSeenS : okFun Go.Proofs.Tryz.prog 44 sO_laws_toHandSeenS = true := by kernel_rfl
def lO_laws_toHandOwnS_0 : SCode := (.seq (.seq (.rg [⟨some 8, .mv (.v 4), none, []⟩, ⟨some 9, .mv (.v 0), none, []⟩, ⟨some 10, .lenL (.v 9), none, [9]⟩, ⟨some 11, .bin .lss (.v 8) (.v 10), none, [8, 10]⟩] [0, 3, 4, 11]) (.cond (.v 11) .skip (.exit 0))) (.seq (.block 1 (.rg [⟨some 14, .mv (.v 3), none, []⟩, ⟨some 15, .mv (.v 4), none, []⟩, ⟨some 16, .mv (.v 0), none, []⟩, ⟨some 17, .mv (.v 4), none, []⟩, ⟨some 18, .iaddr 11 (.v 16) (.v 17), none, [16, 17]⟩, ⟨some 19, .loadN 11 (.v 18), none, [18]⟩, ⟨some 20, .call 83 [.v 19], none, [19]⟩, ⟨some 21, .iaddr 11 (.v 14) (.v 15), none, [14, 15]⟩, ⟨none, .store 11 (.v 21) (.v 20), none, [20, 21]⟩] [0, 3, 4])) (.rg [⟨some 12, .mv (.v 4), none, [4]⟩, ⟨some 13, .binN .add (.v 12) (.c (.int .i64 1)), none, [12]⟩, ⟨some 4, .mv (.v 13), none, [13]⟩] [0, 3, 4])))
/-- laws.toHandOwnS: function 42 -/
def sO_laws_toHandOwnS : SFun := { n := 23, res := [.t 2], body := (.seq (.rg [⟨some 2, .mv (.c (.sl 0 11 [])), none, [2]⟩] [0]) (.seq (.rg [⟨some 5, .mv (.v 0), none, []⟩, ⟨some 6, .lenL (.v 5), none, [5]⟩, ⟨some 7, .mk 107 1000071 11 [.str ⟨#[]⟩, .int .i64 0, .int .i64 0, .str ⟨#[]⟩, .int .i64 0, .int .i64 0, .sl 0 6 [], .int .i64 0, .sl 0 6 [], .sl 0 1 [], .bool false] (.v 6), none, [6]⟩, ⟨some 3, .mv (.v 7), none, [7]⟩] [0, 3]) (.seq (.seq (.rg [⟨some 4, .mv (.c (.int .i64 0)), none, []⟩] [0, 3, 4]) (.block 0 (.loop lO_laws_toHandOwnS_0))) (.seq (.rg [⟨some 22, .mv (.v 3), none, [3]⟩, ⟨some 2, .mv (.v 22), none, [22]⟩] [2]) .ret)))) }
theorem kO_laws_toHandOwnS : okFun Go.Proofs.Tryz.prog 42 sO_laws_toHandOwnS = true := by kernel_rfl
def lO_laws_toHandPartS_0 : SCode := (.seq (.seq (.rg [⟨some 8, .mv (.v 4), none, []⟩, ⟨some 9, .mv (.v 0), none, []⟩, ⟨some 10, .lenL (.v 9), none, [9]⟩, ⟨some 11, .bin .lss (.v 8) (.v 10), none, [8, 10]⟩] [0, 3, 4, 11]) (.cond (.v 11) .skip (.exit 0))) (.seq (.block 1 (.rg [⟨some 14, .mv (.v 3), none, []⟩, ⟨some 15, .mv (.v 4), none, []⟩, ⟨some 16, .mv (.v 0), none, []⟩, ⟨some 17, .mv (.v 4), none, []⟩, ⟨some 18, .iaddr 3 (.v 16) (.v 17), none, [16, 17]⟩, ⟨some 19, .loadN 3 (.v 18), none, [18]⟩, ⟨some 20, .call 84 [.v 19], none, [19]⟩, ⟨some 21, .iaddr 3 (.v 14) (.v 15), none, [14, 15]⟩, ⟨none, .store 3 (.v 21) (.v 20), none, [20, 21]⟩] [0, 3, 4])) (.rg [⟨some 12, .mv (.v 4), none, [4]⟩, ⟨some 13, .binN .add (.v 12) (.c (.int .i64 1)), none, [12]⟩, ⟨some 4, .mv (.v 13), none, [13]⟩] [0, 3, 4])))
/-- laws.toHandPartS: function 43 -/
def sO_laws_toHandPartS : SFun := { n := 23, res := [.t 2], body := (.seq (.rg [⟨some 2, .mv (.c (.sl 0 3 [])), none, [2]⟩] [0]) (.seq (.rg [⟨some 5, .mv (.v 0), none, []⟩, ⟨some 6, .lenL (.v 5), none, [5]⟩, ⟨some 7, .mk 107 1000124 3 [.str ⟨#[]⟩, .int .i64 0, .sl 0 6 []] (.v 6), none, [6]⟩, ⟨some 3, .mv (.v 7), none, [7]⟩] [0, 3]) (.seq (.seq (.rg [⟨some 4, .mv (.c (.int .i64 0)), none, []⟩] [0, 3, 4]) (.block 0 (.loop lO_laws_toHandPartS_0))) (.seq (.rg [⟨some 22, .mv (.v 3), none, [3]⟩, ⟨some 2, .mv (.v 22), none, [22]⟩] [2]) .ret)))) }
theorem kO_laws_toHandPartS : okFun Go.Proofs.Tryz.prog 43 sO_laws_toHandPartS = true := by kernel_rfl
/-- impl.ownBoxes: function 95 -/
def sO_impl_ownBoxes : SFun := { n := 5, res := [.t 2], body := (.seq (.rg [⟨some 2, .mv (.c (.sl 98 6 [])), none, [2]⟩] [0]) (.seq (.rg [⟨some 3, .mv (.v 0), none, [0]⟩, ⟨some 4, .app 104 100 6 (.c (.sl 0 6 [])) (.v 3), none, [3]⟩, ⟨some 2, .mv (.v 4), none, [4]⟩] [2]) .ret)) }
theorem kO_impl_ownBoxes : okFun Go.Proofs.Tryz.prog 95 sO_impl_ownBoxes = true := by kernel_rfl
def lO_impl_HandPartOf_0 : SCode := (.seq (.rg [⟨some 15, .bin .lss (.v 14) (.v 13), none, []⟩] [2, 5, 12, 13, 14, 15]) (.seq (.cond (.v 15) .skip (.exit 0)) (.seq (.block 1 (.seq (.rg [⟨some 16, .iaddr 6 (.v 12) (.v 14), none, []⟩, ⟨some 17, .loadN 6 (.v 16), none, [16]⟩, ⟨some 7, .alloc 107 [.int .i64 0, .int .i64 0, .int .i64 0, .int .i64 0, .int .i64 0, .int .i64 0], none, []⟩, ⟨none, .store 6 (.v 7) (.v 17), none, [17]⟩] [2, 5, 7, 12, 13, 14]) (.seq (.rg [⟨some 18, .loadN 6 (.v 7), none, []⟩, ⟨some 19, .call 121 [.v 18], none, [18]⟩, ⟨some 20, .mv (.v 19), none, [19]⟩, ⟨some 21, .faddr 0 (.v 7), some (20, true), []⟩, ⟨some 22, .load1 (.v 21), some (20, true), [21]⟩, ⟨some 23, .faddr 1 (.v 2), some (20, true), []⟩, ⟨some 24, .load1 (.v 23), some (20, true), [23]⟩, ⟨some 25, .binN .sub (.v 24) (.c (.int .i64 1)), some (20, true), [24]⟩, ⟨some 26, .faddr 3 (.v 2), some (20, true), []⟩, ⟨some 27, .load1 (.v 26), some (20, true), [26]⟩, ⟨some 28, .binN .add (.v 27) (.c (.int .i64 1)), some (20, true), [27]⟩, ⟨some 29, .call 120 [.v 22, .v 25, .v 28], some (20, true), [22, 25, 28]⟩, ⟨some 30, .pick (.v 20) (.v 29) (.c (.bool false)), none, [20, 29]⟩, ⟨some 31, .mv (.v 30), none, [30]⟩, ⟨some 32, .faddr 1 (.v 7), some (31, true), []⟩, ⟨some 33, .load1 (.v 32), some (31, true), [32]⟩, ⟨some 34, .faddr 2 (.v 2), some (31, true), []⟩, ⟨some 35, .load1 (.v 34), some (31, true), [34]⟩, ⟨some 36, .binN .sub (.v 35) (.c (.int .i64 1)), some (31, true), [35]⟩, ⟨some 37, .faddr 4 (.v 2), some (31, true), []⟩, ⟨some 38, .load1 (.v 37), some (31, true), [37]⟩, ⟨some 39, .binN .add (.v 38) (.c (.int .i64 1)), some (31, true), [38]⟩, ⟨some 40, .call 120 [.v 33, .v 36, .v 39], some (31, true), [33, 36, 39]⟩, ⟨some 41, .pick (.v 31) (.v 40) (.c (.bool false)), none, [31, 40]⟩] [2, 5, 7, 12, 13, 14, 41]) (.cond (.v 41) (.rg [⟨some 42, .mv (.v 5), none, [5]⟩, ⟨some 43, .loadN 6 (.v 7), none, [7]⟩, ⟨some 44, .lit 100 6 [.v 43], none, [43]⟩, ⟨some 45, .app 105 100 6 (.v 42) (.v 44), none, [42, 44]⟩, ⟨some 5, .mv (.v 45), none, [45]⟩] [2, 5, 12, 13, 14]) .skip)))) (.rg [⟨some 46, .binN .add (.v 14) (.c (.int .i64 1)), none, [14]⟩, ⟨some 14, .mv (.v 46), none, [46]⟩] [2, 5, 12, 13, 14]))))
/-- impl.HandPartOf: function 115 -/
def sO_impl_HandPartOf : SFun := { n := 48, res := [.t 4], body := (.seq (.rg [⟨some 2, .box 102 (.v 0), none, [0]⟩, ⟨some 4, .mv (.c (.sl 98 6 [])), none, [4]⟩] [1, 2]) (.seq (.seq (.rg [⟨some 8, .loadN 5 (.v 2), none, []⟩, ⟨some 9, .lit 76 5 [.v 8], none, [8]⟩, ⟨some 10, .call 101 [.v 9], none, [9]⟩, ⟨some 11, .not (.v 10), none, [10]⟩] [1, 2, 11]) (.cond (.v 11) (.seq (.rg [⟨some 4, .mv (.c (.sl 98 6 [])), none, []⟩] [4]) .ret) .skip)) (.seq (.rg [⟨some 5, .newnil 105 100 6, none, []⟩] [1, 2, 5]) (.seq (.seq (.rg [⟨some 12, .mv (.v 1), none, [1]⟩, ⟨some 13, .lenL (.v 12), none, []⟩, ⟨some 14, .mv (.c (.int .i64 0)), none, []⟩] [2, 5, 12, 13, 14]) (.block 0 (.loop lO_impl_HandPartOf_0))) (.seq (.rg [⟨some 47, .mv (.v 5), none, [5]⟩, ⟨some 4, .mv (.v 47), none, [47]⟩] [4]) .ret))))) }
theorem kO_impl_HandPartOf : okFun Go.Proofs.Tryz.prog 115 sO_impl_HandPartOf = true := by kernel_rfl
/-- impl.give: function 87 -/
def sO_impl_give : SFun := { n := 21, res := [.t 4], body := (.seq (.rg [⟨some 3, .box 103 (.v 1), none, [1]⟩, ⟨some 4, .mv (.c (.sl 98 8 [])), none, [4]⟩] [0, 3]) (.seq (.rgd [⟨some 5, .mv (.v 0), none, []⟩, ⟨some 6, .faddr 3 (.v 3), none, []⟩, ⟨some 7, .load1 (.v 6), none, []⟩, ⟨some 8, .faddr 0 (.v 3), none, []⟩, ⟨some 9, .load1 (.v 8), none, []⟩, ⟨some 10, .faddr 5 (.v 3), none, []⟩, ⟨some 11, .load1 (.v 10), none, []⟩, ⟨some 12, .faddr 4 (.v 3), none, []⟩, ⟨some 13, .load1 (.v 12), none, []⟩, ⟨some 14, .faddr 2 (.v 3), none, []⟩, ⟨some 15, .load1 (.v 14), none, []⟩, ⟨some 16, .faddr 6 (.v 3), none, []⟩, ⟨some 17, .load1 (.v 16), none, []⟩, ⟨some 18, .call 95 [.v 17], none, []⟩, ⟨some 19, .build [.int .i64 0, .str ⟨#[]⟩, .str ⟨#[]⟩, .str ⟨#[]⟩, .int .i64 0, .int .i64 0, .int .i64 0, .sl 0 6 []] [(0, 1, .c (.int .i64 5)), (1, 1, .v 5), (2, 1, .v 7), (3, 1, .v 9), (4, 1, .v 11), (5, 1, .v 13), (6, 1, .v 15), (7, 1, .v 18)], none, []⟩, ⟨some 20, .litOwn 120 1000073 8 [.v 19], none, []⟩, ⟨some 4, .mv (.v 20), none, []⟩] [4] [none, some [], some [], some [], some [], some [], some [], some [], some [], some [], some [], none, none, some [11, 10, 9, 8, 7, 6, 5, 4, 3, 2], none, none, none]) .ret)) }
theorem kO_impl_give : okFun Go.Proofs.Tryz.prog 87 sO_impl_give = true := by kernel_rfl
/-- impl.clearOf: function 88 -/
def sO_impl_clearOf : SFun := { n := 15, res := [.t 4], body := (.seq (.rg [⟨some 3, .box 103 (.v 1), none, [1]⟩, ⟨some 4, .mv (.c (.sl 98 8 [])), none, [4]⟩] [0, 3]) (.seq (.rgd [⟨some 5, .mv (.v 0), none, []⟩, ⟨some 6, .faddr 0 (.v 3), none, []⟩, ⟨some 7, .load1 (.v 6), none, []⟩, ⟨some 8, .faddr 7 (.v 3), none, []⟩, ⟨some 9, .load1 (.v 8), none, []⟩, ⟨some 10, .faddr 8 (.v 3), none, []⟩, ⟨some 11, .load1 (.v 10), none, []⟩, ⟨some 12, .call 95 [.v 11], none, []⟩, ⟨some 13, .build [.int .i64 0, .str ⟨#[]⟩, .str ⟨#[]⟩, .str ⟨#[]⟩, .int .i64 0, .int .i64 0, .int .i64 0, .sl 0 6 []] [(0, 1, .c (.int .i64 7)), (1, 1, .v 5), (3, 1, .v 7), (4, 1, .v 9), (7, 1, .v 12)], none, []⟩, ⟨some 14, .litOwn 114 1000073 8 [.v 13], none, []⟩, ⟨some 4, .mv (.v 14), none, []⟩] [4] [none, some [], some [], some [], some [], none, none, some [5, 4, 3, 2], none, none, none]) .ret)) }
theorem kO_impl_clearOf : okFun Go.Proofs.Tryz.prog 88 sO_impl_clearOf = true := by kernel_rfl
def lO_impl_asks_0 : SCode := (.seq (.rg [⟨some 14, .bin .lss (.v 13) (.v 12), none, []⟩] [1, 5, 7, 11, 12, 13, 14]) (.seq (.cond (.v 14) .skip (.exit 0)) (.seq (.block 1 (.seq (.rg [⟨some 15, .iaddr 5 (.v 11) (.v 13), none, []⟩, ⟨some 16, .loadN 5 (.v 15), none, [15]⟩, ⟨some 9, .alloc 109 [.str ⟨#[]⟩, .int .i64 0, .int .i64 0, .int .i64 0, .int .i64 0], none, []⟩, ⟨none, .store 5 (.v 9) (.v 16), none, [16]⟩] [1, 5, 7, 9, 11, 12, 13]) (.seq (.rg [⟨some 17, .loadN 5 (.v 9), none, []⟩, ⟨some 18, .faddr 8 (.v 5), none, []⟩, ⟨some 19, .load1 (.v 18), none, [18]⟩, ⟨some 20, .call 115 [.v 17, .v 19], none, [17, 19]⟩, ⟨some 10, .mv (.v 20), none, [20]⟩] [1, 5, 7, 9, 10, 11, 12, 13]) (.seq (.rg [⟨some 21, .mv (.v 10), none, []⟩, ⟨some 22, .lenL (.v 21), none, [21]⟩, ⟨some 23, .bin .gtr (.v 22) (.c (.int .i64 0)), none, [22]⟩, ⟨some 24, .mv (.v 23), none, [23]⟩, ⟨some 25, .faddr 9 (.v 5), some (24, true), []⟩, ⟨some 26, .load1 (.v 25), some (24, true), [25]⟩, ⟨some 27, .faddr 0 (.v 9), some (24, true), []⟩, ⟨some 28, .load1 (.v 27), some (24, true), [27]⟩, ⟨some 29, .call 116 [.v 26, .v 28], some (24, true), [26, 28]⟩, ⟨some 30, .not (.v 29), some (24, true), [29]⟩, ⟨some 31, .pick (.v 24) (.v 30) (.c (.bool false)), none, [24, 30]⟩] [1, 5, 7, 9, 10, 11, 12, 13, 31]) (.cond (.v 31) (.rg [⟨some 32, .mv (.v 7), none, [7]⟩, ⟨some 33, .mv (.v 1), none, []⟩, ⟨some 34, .faddr 0 (.v 9), none, [9]⟩, ⟨some 35, .load1 (.v 34), none, [34]⟩, ⟨some 36, .faddr 0 (.v 5), none, []⟩, ⟨some 37, .load1 (.v 36), none, [36]⟩, ⟨some 38, .faddr 7 (.v 5), none, []⟩, ⟨some 39, .load1 (.v 38), none, [38]⟩, ⟨some 40, .mv (.v 10), none, [10]⟩, ⟨some 41, .build [.int .i64 0, .str ⟨#[]⟩, .str ⟨#[]⟩, .str ⟨#[]⟩, .int .i64 0, .int .i64 0, .int .i64 0, .sl 0 6 []] [(0, 1, .c (.int .i64 1)), (1, 1, .v 33), (2, 1, .v 35), (3, 1, .v 37), (4, 1, .v 39), (7, 1, .v 40)], none, [33, 35, 37, 39, 40]⟩, ⟨some 42, .litOwn 142 1000073 8 [.v 41], none, [41]⟩, ⟨some 43, .appN 107 1000073 8 (.v 32) (.v 42), none, [32, 42]⟩, ⟨some 7, .mv (.v 43), none, [43]⟩] [1, 5, 7, 11, 12, 13]) .skip))))) (.rg [⟨some 44, .binN .add (.v 13) (.c (.int .i64 1)), none, [13]⟩, ⟨some 13, .mv (.v 44), none, [44]⟩] [1, 5, 7, 11, 12, 13]))))
/-- impl.asks: function 89 -/
def sO_impl_asks : SFun := { n := 46, res := [.t 6], body := (.seq (.rg [⟨some 5, .box 105 (.v 2), none, [2]⟩, ⟨some 6, .mv (.c (.sl 98 8 [])), none, [6]⟩] [0, 1, 5]) (.seq (.rg [⟨some 7, .newnil 107 1000073 8, none, []⟩] [0, 1, 5, 7]) (.seq (.seq (.rg [⟨some 11, .mv (.v 0), none, [0]⟩, ⟨some 12, .lenL (.v 11), none, []⟩, ⟨some 13, .mv (.c (.int .i64 0)), none, []⟩] [1, 5, 7, 11, 12, 13]) (.block 0 (.loop lO_impl_asks_0))) (.seq (.rg [⟨some 45, .mv (.v 7), none, [7]⟩, ⟨some 6, .mv (.v 45), none, [45]⟩] [6]) .ret)))) }
theorem kO_impl_asks : okFun Go.Proofs.Tryz.prog 89 sO_impl_asks = true := by kernel_rfl
def lO_impl_keeps_0 : SCode := (.seq (.rg [⟨some 16, .bin .lss (.v 15) (.v 14), none, []⟩] [1, 5, 7, 13, 14, 15, 16]) (.seq (.cond (.v 16) .skip (.exit 0)) (.seq (.block 1 (.seq (.rg [⟨some 17, .iaddr 5 (.v 13) (.v 15), none, []⟩, ⟨some 18, .loadN 5 (.v 17), none, [17]⟩, ⟨some 9, .alloc 109 [.str ⟨#[]⟩, .int .i64 0, .int .i64 0, .int .i64 0, .int .i64 0], none, []⟩, ⟨none, .store 5 (.v 9) (.v 18), none, [18]⟩] [1, 5, 7, 9, 13, 14, 15]) (.rg [⟨some 19, .mv (.v 7), none, [7]⟩, ⟨some 20, .mv (.v 1), none, []⟩, ⟨some 21, .faddr 0 (.v 9), none, [9]⟩, ⟨some 22, .load1 (.v 21), none, [21]⟩, ⟨some 23, .faddr 0 (.v 5), none, []⟩, ⟨some 24, .load1 (.v 23), none, [23]⟩, ⟨some 25, .faddr 5 (.v 5), none, []⟩, ⟨some 26, .load1 (.v 25), none, [25]⟩, ⟨some 27, .faddr 4 (.v 5), none, []⟩, ⟨some 28, .load1 (.v 27), none, [27]⟩, ⟨some 29, .build [.int .i64 0, .str ⟨#[]⟩, .str ⟨#[]⟩, .str ⟨#[]⟩, .int .i64 0, .int .i64 0, .int .i64 0, .sl 98 6 []] [(0, 1, .c (.int .i64 4)), (1, 1, .v 20), (2, 1, .v 22), (3, 1, .v 24), (4, 1, .v 26), (5, 1, .v 28)], none, [20, 22, 24, 26, 28]⟩, ⟨some 30, .litOwn 130 1000073 8 [.v 29], none, [29]⟩, ⟨some 31, .appN 107 1000073 8 (.v 19) (.v 30), none, [19, 30]⟩, ⟨some 7, .mv (.v 31), none, [31]⟩] [1, 5, 7, 13, 14, 15]))) (.rg [⟨some 32, .binN .add (.v 15) (.c (.int .i64 1)), none, [15]⟩, ⟨some 15, .mv (.v 32), none, [32]⟩] [1, 5, 7, 13, 14, 15]))))
/-- impl.keeps: function 90 -/
def sO_impl_keeps : SFun := { n := 34, res := [.t 6], body := (.seq (.rg [⟨some 5, .box 105 (.v 2), none, [2]⟩, ⟨some 6, .mv (.c (.sl 98 8 [])), none, [6]⟩] [0, 1, 5]) (.seq (.rg [⟨some 7, .newnil 107 1000073 8, none, []⟩] [0, 1, 5, 7]) (.seq (.seq (.rg [⟨some 10, .faddr 4 (.v 5), none, []⟩, ⟨some 11, .load1 (.v 10), none, [10]⟩, ⟨some 12, .bin .eql (.v 11) (.c (.int .i64 0)), none, [11]⟩] [0, 1, 5, 7, 12]) (.cond (.v 12) (.seq (.rg [⟨some 6, .mv (.c (.sl 98 8 [])), none, []⟩] [6]) .ret) .skip)) (.seq (.seq (.rg [⟨some 13, .mv (.v 0), none, [0]⟩, ⟨some 14, .lenL (.v 13), none, []⟩, ⟨some 15, .mv (.c (.int .i64 0)), none, []⟩] [1, 5, 7, 13, 14, 15]) (.block 0 (.loop lO_impl_keeps_0))) (.seq (.rg [⟨some 33, .mv (.v 7), none, [7]⟩, ⟨some 6, .mv (.v 33), none, [33]⟩] [6]) .ret))))) }
theorem kO_impl_keeps : okFun Go.Proofs.Tryz.prog 90 sO_impl_keeps = true := by kernel_rfl
def lO_impl_HandBook_again_0 : SCode := (.seq (.rg [⟨some 14, .bin .lss (.v 13) (.v 12), none, []⟩] [1, 2, 7, 11, 12, 13, 14]) (.seq (.cond (.v 14) .skip (.exit 0)) (.seq (.block 1 (.seq (.rg [⟨some 15, .iaddr 11 (.v 11) (.v 13), none, []⟩, ⟨some 16, .loadN 11 (.v 15), none, [15]⟩, ⟨some 9, .alloc 109 [.str ⟨#[]⟩, .int .i64 0, .int .i64 0, .str ⟨#[]⟩, .int .i64 0, .int .i64 0, .sl 0 6 [], .int .i64 0, .sl 0 6 [], .sl 0 1 [], .bool false], none, []⟩, ⟨none, .store 11 (.v 9) (.v 16), none, [16]⟩] [1, 2, 7, 9, 11, 12, 13]) (.block 2 (.seq (.rg [⟨some 18, .faddr 1 (.v 9), none, []⟩, ⟨some 19, .load1 (.v 18), none, [18]⟩, ⟨some 20, .bin .eql (.v 19) (.c (.int .i64 2)), none, [19]⟩, ⟨some 17, .mv (.v 20), none, [20]⟩] [1, 2, 7, 9, 11, 12, 13, 17]) (.cond (.v 17) (.rg [⟨some 21, .mv (.v 7), none, [7]⟩, ⟨some 22, .mv (.v 2), none, []⟩, ⟨some 23, .loadN 11 (.v 9), none, [9]⟩, ⟨some 24, .call 87 [.v 22, .v 23], none, [22, 23]⟩, ⟨some 25, .appN 107 1000073 8 (.v 21) (.v 24), none, [21, 24]⟩, ⟨some 7, .mv (.v 25), none, [25]⟩] [1, 2, 7, 11, 12, 13]) (.seq (.rg [⟨some 27, .faddr 10 (.v 9), none, []⟩, ⟨some 28, .load1 (.v 27), none, [27]⟩, ⟨some 26, .mv (.v 28), none, [28]⟩] [1, 2, 7, 9, 11, 12, 13, 26]) (.cond (.v 26) (.rg [⟨some 29, .mv (.v 7), none, [7]⟩, ⟨some 30, .mv (.v 2), none, []⟩, ⟨some 31, .loadN 11 (.v 9), none, [9]⟩, ⟨some 32, .call 88 [.v 30, .v 31], none, [30, 31]⟩, ⟨some 33, .appN 107 1000073 8 (.v 29) (.v 32), none, [29, 32]⟩, ⟨some 7, .mv (.v 33), none, [33]⟩] [1, 2, 7, 11, 12, 13]) (.seq (.rg [⟨some 35, .faddr 7 (.v 9), none, []⟩, ⟨some 36, .load1 (.v 35), none, [35]⟩, ⟨some 37, .bin .gtr (.v 36) (.c (.int .i64 0)), none, [36]⟩, ⟨some 34, .mv (.v 37), none, [37]⟩] [1, 2, 7, 9, 11, 12, 13, 34]) (.cond (.v 34) (.rg [⟨some 38, .mv (.v 7), none, [7]⟩, ⟨some 39, .mv (.v 1), none, []⟩, ⟨some 40, .mv (.v 2), none, []⟩, ⟨some 41, .loadN 11 (.v 9), none, [9]⟩, ⟨some 42, .call 89 [.v 39, .v 40, .v 41], none, [39, 40, 41]⟩, ⟨some 43, .appN 107 1000073 8 (.v 38) (.v 42), none, [38, 42]⟩, ⟨some 7, .mv (.v 43), none, [43]⟩] [1, 2, 7, 11, 12, 13]) (.seq (.rg [⟨some 45, .faddr 1 (.v 9), none, []⟩, ⟨some 46, .load1 (.v 45), none, [45]⟩, ⟨some 47, .bin .eql (.v 46) (.c (.int .i64 1)), none, [46]⟩, ⟨some 44, .mv (.v 47), none, [47]⟩] [1, 2, 7, 9, 11, 12, 13, 44]) (.cond (.v 44) (.rg [⟨some 48, .mv (.v 7), none, [7]⟩, ⟨some 49, .mv (.v 1), none, []⟩, ⟨some 50, .mv (.v 2), none, []⟩, ⟨some 51, .loadN 11 (.v 9), none, [9]⟩, ⟨some 52, .call 90 [.v 49, .v 50, .v 51], none, [49, 50, 51]⟩, ⟨some 53, .appN 107 1000073 8 (.v 48) (.v 52), none, [48, 52]⟩, ⟨some 7, .mv (.v 53), none, [53]⟩] [1, 2, 7, 11, 12, 13]) .skip))))))))))) (.rg [⟨some 54, .binN .add (.v 13) (.c (.int .i64 1)), none, [13]⟩, ⟨some 13, .mv (.v 54), none, [54]⟩] [1, 2, 7, 11, 12, 13]))))
/-- impl.HandBook).again: function 46 -/
def sO_impl_HandBook_again : SFun := { n := 56, res := [.t 6], body := (.seq (.rg [⟨some 3, .box 103 (.v 0), none, [0]⟩, ⟨some 6, .mv (.c (.sl 98 8 [])), none, [6]⟩] [1, 2, 3]) (.seq (.rg [⟨some 7, .newnil 107 1000073 8, none, []⟩] [1, 2, 3, 7]) (.seq (.seq (.rg [⟨some 10, .faddr 0 (.v 3), none, [3]⟩, ⟨some 11, .load1 (.v 10), none, [10]⟩, ⟨some 12, .lenL (.v 11), none, []⟩, ⟨some 13, .mv (.c (.int .i64 0)), none, []⟩] [1, 2, 7, 11, 12, 13]) (.block 0 (.loop lO_impl_HandBook_again_0))) (.seq (.rg [⟨some 55, .mv (.v 7), none, [7]⟩, ⟨some 6, .mv (.v 55), none, [55]⟩] [6]) .ret)))) }
theorem kO_impl_HandBook_again : okFun Go.Proofs.Tryz.prog 46 sO_impl_HandBook_again = true := by kernel_rfl
/-- impl.HandAgain: function 12 -/
def sO_impl_HandAgain : SFun := { n := 16, res := [.t 6], body := (.seq (.rg [⟨some 5, .box 105 (.v 2), none, [2]⟩, ⟨some 6, .mv (.c (.sl 98 8 [])), none, [6]⟩] [0, 1, 5]) (.seq (.seq (.rg [⟨some 7, .mv (.v 0), none, []⟩, ⟨some 8, .mv (.v 1), none, []⟩, ⟨some 9, .loadN 3 (.v 5), none, []⟩, ⟨some 10, .call 45 [.v 7, .v 8, .v 9], none, [7, 8, 9]⟩, ⟨some 11, .not (.v 10), none, [10]⟩] [0, 1, 5, 11]) (.cond (.v 11) (.seq (.rg [⟨some 6, .mv (.c (.sl 98 8 [])), none, []⟩] [6]) .ret) .skip)) (.seq (.rg [⟨some 12, .loadN 3 (.v 5), none, [5]⟩, ⟨some 13, .mv (.v 0), none, [0]⟩, ⟨some 14, .mv (.v 1), none, [1]⟩, ⟨some 15, .call 46 [.v 12, .v 13, .v 14], none, [12, 13, 14]⟩, ⟨some 6, .mv (.v 15), none, [15]⟩] [6]) .ret))) }
theorem kO_impl_HandAgain : okFun Go.Proofs.Tryz.prog 12 sO_impl_HandAgain = true := by kernel_rfl
end Go.Ve

namespace Go.Ve
noncomputable section
open Go.Proofs
set_option maxRecDepth 100000
open Go.ChangeShapes Go.WideShapes
theorem getD_seti' {α : Type} {l : List α} {i : Nat} {x d : α} (h : i < l.length) : (l.set i x).getD i d = x := by simp [h]
theorem getD_setn' {α : Type} {l : List α} {i j : Nat} {x d : α} (h : i ≠ j) : (l.set i x).getD j d = l.getD j d := by simp [List.getElem?_set_ne h]
theorem keep_self {M : List (Nat × AObj)} : keepB M M = true := by
  unfold keepB
  rw [List.all_eq_true]
  intro o ho
  simp only [Bool.or_eq_true]
  right; simpa using ho
theorem loop_F {α : Type} (F : α → St) (good : α → Prop) (μ : α → Nat) (a0 : α) {body : (XT → St → Prop) → St → Prop} {Q : XT → St → Prop} {st : St}
    (h0 : Wk st (F a0)) (g0 : good a0)
    (step : ∀ a, good a → ∀ NX : St → Prop, (∀ a' st', Wk st' (F a') → good a' → μ a' < μ a → NX st') → body (thenQ NX Q) (F a)) : loopWp body Q st :=
  loop_of F good μ a0 h0 g0 fun a ga => step a ga _ fun a' st' h1 h2 h3 => ⟨μ a', _, h1, ⟨a', rfl, h2, rfl⟩, h3⟩
theorem fam_eqF {a b i : Nat} : (fam a i = fam b i) = (a = b) := by unfold fam; simp
theorem fam_eqI {a i j : Nat} : (fam a i = fam a j) = (i = j) := propext ⟨fun h => by unfold fam at h; omega, fun h => by rw [h]⟩
theorem Box6_eta (s : Box6) : (Box6.mk s.x s.y s.l s.h s.i s.o) = s := (rfl)
theorem plain_srow (l : List ByteArray) : ((l.map srow).all fun r => r.all plain1) = true := by simp [srow, plain1]
theorem plain_box (l : List Box6) : ((l.map Box6.row).all fun r => r.all plain1) = true := by simp [Box6.row, plain1]
def esOwn (c : Nat) : Nat := if c = 9 then 9 else 100
def esPart (_ : Nat) : Nat := 100
def esWord (_ : Nat) : Nat := 100
theorem hes_Own : ∀ c, esOwn c < 1000000 := fun c => by unfold esOwn; split <;> omega
theorem hes_Part : ∀ c, esPart c < 1000000 := fun c => by unfold esPart; omega
theorem hes_Word : ∀ c, esWord c < 1000000 := fun c => by unfold esWord; omega
def wver (w : Word) : Nat := if w.kd = 1 then w.tu.length else 0
def Word.rowO (w : Word) : List AV := [.int .i64 w.kd, .str w.fr, .str w.dst, .str w.fl, .int .i64 w.nr, .int .i64 w.la, .int .i64 w.tn, .sl (wver w) 6 (w.tu.map Box6.row)]
theorem rok_Own : RowOk 11 (Own.row 0) := ⟨fun x => rfl, fun x => by simp only [Own.row, List.all_cons, simpleV, plain_box, plain_srow, List.all_nil, Bool.and_self]⟩
theorem rok_Part : RowOk 3 (Part.row 0) := ⟨fun x => rfl, fun x => by simp only [Part.row, List.all_cons, simpleV, plain_box, List.all_nil, Bool.and_self]⟩
theorem tag_sl {t s : Nat} {xs : List (List AV)} : tag0 (.sl t s xs) = .sl 0 s (tag0LL xs) := rfl
theorem tag_int {k : IntKind} {n : Int} : tag0 (.int k n) = .int k n := rfl
theorem tag_Owns {t : Nat} {l : List Own} : tag0LL (l.map (Own.row t)) = l.map (Own.row 0) := tag_rows (f := Own.row) (fun x => by simp only [Own.row, tag0L, tag0]; rw [tag_flat (f := Box6.row) fun _ => rfl, tag_flat (f := Box6.row) fun _ => rfl, tag_flat (f := srow) fun _ => rfl]) l
theorem tag_Parts {t : Nat} {l : List Part} : tag0LL (l.map (Part.row t)) = l.map (Part.row 0) := tag_rows (f := Part.row) (fun x => by simp only [Part.row, tag0L, tag0]; rw [tag_flat (f := Box6.row) fun _ => rfl]) l
theorem tag_Words {t : Nat} {l : List Word} : tag0LL (l.map (Word.row t)) = l.map (Word.row 0) := tag_rows (f := Word.row) (fun x => by simp only [Word.row, tag0L, tag0]; rw [tag_flat (f := Box6.row) fun _ => rfl]) l
theorem no98_Owns {t : Nat} (ht : t ≠ 98) {l : List Own} : no98LL (l.map (Own.row t)) = true := no98_rows (f := Own.row t) (fun x => by simp only [Own.row, no98L, no98]; rw [no98_rows (f := Box6.row) fun _ => rfl, no98_rows (f := Box6.row) fun _ => rfl, no98_rows (f := srow) fun _ => rfl]; simp [ht]) l
theorem no98_Parts {t : Nat} (ht : t ≠ 98) {l : List Part} : no98LL (l.map (Part.row t)) = true := no98_rows (f := Part.row t) (fun x => by simp only [Part.row, no98L, no98]; rw [no98_rows (f := Box6.row) fun _ => rfl]; simp [ht]) l
theorem no98_Words {t : Nat} (ht : t ≠ 98) {l : List Word} : no98LL (l.map (Word.row t)) = true := no98_rows (f := Word.row t) (fun x => by simp only [Word.row, no98L, no98]; rw [no98_rows (f := Box6.row) fun _ => rfl]; simp [ht]) l
theorem to_Box6_st {a : List Box6} {i : Nat} (h : i < a.length) : (to_Box6 a i).set i (a.getD i default) = to_Box6 a (i + 1) := by
  refine List.ext_getElem (by simp [to_Box6]; omega) fun j h1 h2 => ?_
  by_cases e : j = i
  · subst e
    simp [to_Box6, List.getElem_append, h]
    intro h9; omega
  · simp only [List.getElem_set_ne (Ne.symm e)]
    simp only [to_Box6, List.getElem_append, List.length_take, List.getElem_take, List.getElem_replicate]
    split <;> split <;> first | rfl | omega
theorem c_toByteArraySO (t : Nat) (a : List ByteArray) (ha : a.length ≤ 1048576) : Contract P 112 [.sl t 1 (a.map srow)] [] (.own 107 0 0 a.length) [(107, .arr 9 0 1 (a.map srow))] := by
  have tkA : List.take a.length (a.map srow) = a.map srow := List.take_of_length_le (by simp)
  refine fn_sound (Env.nil P) hm kO_laws_toStringS (nlb rfl) rfl ?_; unfold sO_laws_toStringS; simp (maxSteps := 2000000) only [bitvec_to_nat, reduceIte, Nat.reduceEqDiff, Nat.reduceAdd, Nat.reduceLeDiff, reduceCtorEq, Nat.reduceBEq, Nat.reduceLT, Nat.reduceMod, fmc, retG_ret, retQ_eq, retQ_eqN, retOk, keepB, re_tupl, orr_t, bXH, Zone.row, Box6.row, appE, rowsOf, srow, irow, bHX, Word.row, Own.row, Part.row, Seen.row, Book.row, set_ByteArray, Nat.sub_zero]
  have m0 : List.replicate a.length [.str ⟨#[]⟩] = (to_ByteArray a 0).map srow := by simp [to_ByteArray, srow]
  refine ⟨by omega, ?_⟩
  refine loop_st (fun i : Nat => [(4, .int .i64 i)]) (fun i => [(107, .arr 9 0 1 ((to_ByteArray a i).map srow))]) (fun i => i ≤ a.length) (fun i => a.length - i) 0 (by simp only [u_E0, u_E1, u_M0, u_M1, w_setE0, w_setE1, w_setM0, w_setM1, reduceIte, Nat.reduceEqDiff]; exact ⟨by repeat' (first | exact trivial | refine ⟨.inr rfl, ?_⟩), ⟨congrArg (fun g => some (AObj.arr 9 0 1 g)) m0, trivial⟩, rfl, rfl⟩) (Nat.zero_le _) ?_
  intro i hi NX hN
  unfold lO_laws_toStringS_0; simp (maxSteps := 2000000) only [bitvec_to_nat, reduceIte, Nat.reduceEqDiff, Nat.reduceAdd, Nat.reduceLeDiff, reduceCtorEq, Nat.reduceBEq, Nat.reduceLT, Nat.reduceMod, fmc, retG_ret, retQ_eq, retQ_eqN, retOk, keepB, re_tupl, orr_t, bXH, Zone.row, Box6.row, appE, rowsOf, srow, irow, bHX, Word.row, Own.row, Part.row, Seen.row, Book.row, set_ByteArray, Nat.sub_zero]
  refine ⟨fun h => ?_, fun h => ?_⟩
  · repeat' (first | with_reducible apply And.intro | with_reducible intro _)
    all_goals first
      | omega
      | rfl
      | (have e := to_ByteArray_st (a := a) (i := i) (by omega)
         try simp only [srow] at *
         refine hN (i + 1) _ ⟨by repeat' (first | exact trivial | refine ⟨.inr rfl, ?_⟩), ⟨congrArg (fun g => some (AObj.arr 9 0 1 (List.map srow g))) e, trivial⟩, rfl, rfl⟩ ?_ ?_ <;> omega)
  · have e : i = a.length := by omega
    subst e
    simp only [to_ByteArray, List.take_length, Nat.sub_self, List.replicate_zero, List.append_nil]
    exact ⟨trivial, rfl, rfl⟩
theorem c_toBox6SO (t : Nat) (a : List Box6) (ha : a.length ≤ 1048576) : Contract P 25 [.sl t 6 (a.map Box6.row)] [] (.own 107 0 0 a.length) [(107, .arr 100 0 6 (a.map Box6.row))] := by
  have tkA : List.take a.length (a.map Box6.row) = a.map Box6.row := List.take_of_length_le (by simp)
  refine fn_sound ((Env.nil P).add 67 t_toBox h_toBox) hm kO_laws_toHandBoxS (nlb rfl) rfl ?_; unfold sO_laws_toHandBoxS; simp (maxSteps := 2000000) only [bitvec_to_nat, reduceIte, Nat.reduceEqDiff, Nat.reduceAdd, Nat.reduceLeDiff, reduceCtorEq, Nat.reduceBEq, Nat.reduceLT, Nat.reduceMod, fmc, retG_ret, retQ_eq, retQ_eqN, retOk, keepB, re_tupl, orr_t, t_toBox, bXH, Zone.row, Box6.row, appE, rowsOf, srow, irow, bHX, Word.row, Own.row, Part.row, Seen.row, Book.row, set_Box6, Nat.sub_zero]
  have m0 : List.replicate a.length [.int .i64 0, .int .i64 0, .int .i64 0, .int .i64 0, .int .i64 0, .int .i64 0] = (to_Box6 a 0).map Box6.row := by simp [to_Box6, Box6.row]
  refine ⟨by omega, ?_⟩
  refine loop_st (fun i : Nat => [(4, .int .i64 i)]) (fun i => [(107, .arr 100 0 6 ((to_Box6 a i).map Box6.row))]) (fun i => i ≤ a.length) (fun i => a.length - i) 0 (by simp only [u_E0, u_E1, u_M0, u_M1, w_setE0, w_setE1, w_setM0, w_setM1, reduceIte, Nat.reduceEqDiff]; exact ⟨by repeat' (first | exact trivial | refine ⟨.inr rfl, ?_⟩), ⟨congrArg (fun g => some (AObj.arr 100 0 6 g)) m0, trivial⟩, rfl, rfl⟩) (Nat.zero_le _) ?_
  intro i hi NX hN
  unfold lO_laws_toHandBoxS_0; simp (maxSteps := 2000000) only [bitvec_to_nat, reduceIte, Nat.reduceEqDiff, Nat.reduceAdd, Nat.reduceLeDiff, reduceCtorEq, Nat.reduceBEq, Nat.reduceLT, Nat.reduceMod, fmc, retG_ret, retQ_eq, retQ_eqN, retOk, keepB, re_tupl, orr_t, t_toBox, bXH, Zone.row, Box6.row, appE, rowsOf, srow, irow, bHX, Word.row, Own.row, Part.row, Seen.row, Book.row, set_Box6, Nat.sub_zero]
  refine ⟨fun h => ?_, fun h => ?_⟩
  · repeat' (first | with_reducible apply And.intro | with_reducible intro _)
    all_goals first
      | omega
      | rfl
      | (have e := to_Box6_st (a := a) (i := i) (by omega)
         try simp only [Box6.row] at *
         refine hN (i + 1) _ ⟨by repeat' (first | exact trivial | refine ⟨.inr rfl, ?_⟩), ⟨congrArg (fun g => some (AObj.arr 100 0 6 (List.map Box6.row g))) e, trivial⟩, rfl, rfl⟩ ?_ ?_ <;> omega)
  · have e : i = a.length := by omega
    subst e
    simp only [to_Box6, List.take_length, Nat.sub_self, List.replicate_zero, List.append_nil]
    exact ⟨trivial, rfl, rfl⟩
theorem c_toSeenSO (t : Nat) (a : List Seen) (ha : a.length ≤ 1048576) : Contract P 44 [.sl t 2 (a.map Seen.row)] [] (.own 107 0 0 a.length) [(107, .arr 118 0 2 (a.map Seen.row))] := by
  have tkA : List.take a.length (a.map Seen.row) = a.map Seen.row := List.take_of_length_le (by simp)
  refine fn_sound ((Env.nil P).add 85 t_toSeen h_toSeen) hm kO_laws_toHandSeenS (nlb rfl) rfl ?_; unfold sO_laws_toHandSeenS; simp (maxSteps := 2000000) only [bitvec_to_nat, reduceIte, Nat.reduceEqDiff, Nat.reduceAdd, Nat.reduceLeDiff, reduceCtorEq, Nat.reduceBEq, Nat.reduceLT, Nat.reduceMod, fmc, retG_ret, retQ_eq, retQ_eqN, retOk, keepB, re_tupl, orr_t, t_toSeen, bXH, Zone.row, Box6.row, appE, rowsOf, srow, irow, bHX, Word.row, Own.row, Part.row, Seen.row, Book.row, set_Seen, Nat.sub_zero]
  have m0 : List.replicate a.length [.str ⟨#[]⟩, .int .i64 0] = (to_Seen a 0).map Seen.row := by simp [to_Seen, Seen.row]
  refine ⟨by omega, ?_⟩
  refine loop_st (fun i : Nat => [(4, .int .i64 i)]) (fun i => [(107, .arr 118 0 2 ((to_Seen a i).map Seen.row))]) (fun i => i ≤ a.length) (fun i => a.length - i) 0 (by simp only [u_E0, u_E1, u_M0, u_M1, w_setE0, w_setE1, w_setM0, w_setM1, reduceIte, Nat.reduceEqDiff]; exact ⟨by repeat' (first | exact trivial | refine ⟨.inr rfl, ?_⟩), ⟨congrArg (fun g => some (AObj.arr 118 0 2 g)) m0, trivial⟩, rfl, rfl⟩) (Nat.zero_le _) ?_
  intro i hi NX hN
  unfold lO_laws_toHandSeenS_0; simp (maxSteps := 2000000) only [bitvec_to_nat, reduceIte, Nat.reduceEqDiff, Nat.reduceAdd, Nat.reduceLeDiff, reduceCtorEq, Nat.reduceBEq, Nat.reduceLT, Nat.reduceMod, fmc, retG_ret, retQ_eq, retQ_eqN, retOk, keepB, re_tupl, orr_t, t_toSeen, bXH, Zone.row, Box6.row, appE, rowsOf, srow, irow, bHX, Word.row, Own.row, Part.row, Seen.row, Book.row, set_Seen, Nat.sub_zero]
  refine ⟨fun h => ?_, fun h => ?_⟩
  · repeat' (first | with_reducible apply And.intro | with_reducible intro _)
    all_goals first
      | omega
      | rfl
      | (have e := to_Seen_st (a := a) (i := i) (by omega)
         try simp only [Seen.row] at *
         refine hN (i + 1) _ ⟨by repeat' (first | exact trivial | refine ⟨.inr rfl, ?_⟩), ⟨congrArg (fun g => some (AObj.arr 118 0 2 (List.map Seen.row g))) e, trivial⟩, rfl, rfl⟩ ?_ ?_ <;> omega)
  · have e : i = a.length := by omega
    subst e
    simp only [to_Seen, List.take_length, Nat.sub_self, List.replicate_zero, List.append_nil]
    exact ⟨trivial, rfl, rfl⟩
theorem c_toZoneSO (t : Nat) (a : List Zone) (ha : a.length ≤ 1048576) : Contract P 10 [.sl t 5 (a.map Zone.row)] [] (.own 107 0 0 a.length) [(107, .arr 76 0 5 (a.map Zone.row))] := by
  have tkA : List.take a.length (a.map Zone.row) = a.map Zone.row := List.take_of_length_le (by simp)
  refine fn_sound ((Env.nil P).add 41 t_toZone h_toZone) hm kO_laws_toHandZoneS (nlb rfl) rfl ?_; unfold sO_laws_toHandZoneS; simp (maxSteps := 2000000) only [bitvec_to_nat, reduceIte, Nat.reduceEqDiff, Nat.reduceAdd, Nat.reduceLeDiff, reduceCtorEq, Nat.reduceBEq, Nat.reduceLT, Nat.reduceMod, fmc, retG_ret, retQ_eq, retQ_eqN, retOk, keepB, re_tupl, orr_t, t_toZone, bXH, Zone.row, Box6.row, appE, rowsOf, srow, irow, bHX, Word.row, Own.row, Part.row, Seen.row, Book.row, set_Zone, Nat.sub_zero]
  have m0 : List.replicate a.length [.str ⟨#[]⟩, .int .i64 0, .int .i64 0, .int .i64 0, .int .i64 0] = (to_Zone a 0).map Zone.row := by simp [to_Zone, Zone.row]
  refine ⟨by omega, ?_⟩
  refine loop_st (fun i : Nat => [(4, .int .i64 i)]) (fun i => [(107, .arr 76 0 5 ((to_Zone a i).map Zone.row))]) (fun i => i ≤ a.length) (fun i => a.length - i) 0 (by simp only [u_E0, u_E1, u_M0, u_M1, w_setE0, w_setE1, w_setM0, w_setM1, reduceIte, Nat.reduceEqDiff]; exact ⟨by repeat' (first | exact trivial | refine ⟨.inr rfl, ?_⟩), ⟨congrArg (fun g => some (AObj.arr 76 0 5 g)) m0, trivial⟩, rfl, rfl⟩) (Nat.zero_le _) ?_
  intro i hi NX hN
  unfold lO_laws_toHandZoneS_0; simp (maxSteps := 2000000) only [bitvec_to_nat, reduceIte, Nat.reduceEqDiff, Nat.reduceAdd, Nat.reduceLeDiff, reduceCtorEq, Nat.reduceBEq, Nat.reduceLT, Nat.reduceMod, fmc, retG_ret, retQ_eq, retQ_eqN, retOk, keepB, re_tupl, orr_t, t_toZone, bXH, Zone.row, Box6.row, appE, rowsOf, srow, irow, bHX, Word.row, Own.row, Part.row, Seen.row, Book.row, set_Zone, Nat.sub_zero]
  refine ⟨fun h => ?_, fun h => ?_⟩
  · repeat' (first | with_reducible apply And.intro | with_reducible intro _)
    all_goals first
      | omega
      | rfl
      | (have e := to_Zone_st (a := a) (i := i) (by omega)
         try simp only [Zone.row] at *
         refine hN (i + 1) _ ⟨by repeat' (first | exact trivial | refine ⟨.inr rfl, ?_⟩), ⟨congrArg (fun g => some (AObj.arr 76 0 5 (List.map Zone.row g))) e, trivial⟩, rfl, rfl⟩ ?_ ?_ <;> omega)
  · have e : i = a.length := by omega
    subst e
    simp only [to_Zone, List.take_length, Nat.sub_self, List.replicate_zero, List.append_nil]
    exact ⟨trivial, rfl, rfl⟩
def dch (i : Nat) : ByteArray := ⟨#[byteOf [AV.int .u8 (IntKind.u8.wrap (48 + (i : Int) % 10))]]⟩
theorem dch_eq (i : Nat) : bytesOf [[AV.int .u8 (IntKind.u8.wrap (48 + (i : Int) % 10))]] = dch i := rfl
def dg (k : Nat) (o : ByteArray) : ByteArray := if h : k = 0 then o else dg (k / 10) (dch k ++ o)
termination_by k
decreasing_by omega
theorem dg_zero (o : ByteArray) : dg 0 o = o := by rw [dg]; simp
theorem dg_step {k : Nat} (o : ByteArray) (h : 0 < k) : dg k o = dg (k / 10) (dch k ++ o) := by rw [dg]; simp [show k ≠ 0 by omega]
def mtx (k : Int) : ByteArray := if k ≤ 0 then ⟨#[109, 48]⟩ else ⟨#[109]⟩ ++ dg k.toNat ⟨#[]⟩
theorem dch_len (i : Nat) : (dch i).toList.length = 1 := by rw [← toList_size]; rfl
theorem app_len (a b : ByteArray) : (a ++ b).toList.length = a.toList.length + b.toList.length := by simp only [← toList_size, ByteArray.size_append]
theorem byte_ok (w : Int) : isByte [AV.int .u8 (IntKind.u8.wrap w)] = true := by
  simp [isByte, IntKind.wrap, IntKind.bits, IntKind.signed]
  try omega
theorem m_len : (⟨#[109]⟩ : ByteArray).toList.length = 1 := by rw [← toList_size]; rfl
theorem e_len : (⟨#[]⟩ : ByteArray).toList.length = 0 := by rw [← toList_size]; rfl
theorem c_markText (k : Int) (hk : 0 ≤ k ∧ k ≤ 1152921504606846976) : Contract P 52 [.int .i64 k] [] (.str (mtx k)) [] := by
  refine fn_sound (Env.nil P) hm k_laws_markText (nlb rfl) rfl ?_; unfold s_laws_markText; simp (maxSteps := 2000000) only [bitvec_to_nat, reduceIte, Nat.reduceEqDiff, Nat.reduceAdd, Nat.reduceLeDiff, reduceCtorEq, Nat.reduceBEq, Nat.reduceLT, Nat.reduceMod, fmc, Nat.zero_add, un_s, List.map_cons, List.map_nil, rowsOf, dch_eq]
  refine ⟨fun h => by rw [mtx, if_pos h], fun hp => ?_⟩
  have hkk : ((k.toNat : Nat) : Int) = k := by omega
  refine loop_st (fun a : Nat × ByteArray => [(0, .int .i64 a.1), (3, .str a.2)]) (fun _ => []) (fun a => dg a.1 a.2 = dg k.toNat ⟨#[]⟩ ∧ a.2.toList.length + a.1 ≤ 1152921504606846976) (fun a => a.1) (k.toNat, ⟨#[]⟩) (by simp only [hkk]; simp only [u_E0, u_E1, u_M0, u_M1, w_setE0, w_setE1, w_setM0, w_setM1, reduceIte, Nat.reduceEqDiff]; exact ⟨by repeat' (first | exact trivial | refine ⟨.inr rfl, ?_⟩), by repeat' (first | exact trivial | refine ⟨rfl, ?_⟩), by first | rfl | simp [closedB, refsIn, refsInL, refsInO, dom, refsInL_nr, *], by first | rfl | simp [keepB, dom]⟩) ⟨rfl, by simp only [e_len]; omega⟩ ?_
  rintro ⟨i, s⟩ ⟨h1, h2⟩ NX hN
  simp only at h1 h2
  unfold l_laws_markText_0; simp (maxSteps := 2000000) only [bitvec_to_nat, reduceIte, Nat.reduceEqDiff, Nat.reduceAdd, Nat.reduceLeDiff, reduceCtorEq, Nat.reduceBEq, Nat.reduceLT, Nat.reduceMod, fmc, Nat.zero_add, un_s, List.map_cons, List.map_nil, rowsOf, dch_eq]
  refine ⟨fun g => ⟨by omega, by omega, by simp only [List.all_cons, List.all_nil, byte_ok, Bool.and_true], ?_⟩, fun g => ?_⟩
  · have e1 := dch_len i
    refine ⟨by rw [e1]; omega, by omega, ?_⟩
    have e2 : ((i : Int) / 10) = ((i / 10 : Nat) : Int) := by omega
    simp only [e2]
    refine hN (i / 10, dch i ++ s) _ (by simp only [u_E0, u_E1, u_M0, u_M1, w_setE0, w_setE1, w_setM0, w_setM1, reduceIte, Nat.reduceEqDiff]; exact ⟨by repeat' (first | exact trivial | refine ⟨.inr rfl, ?_⟩), by repeat' (first | exact trivial | refine ⟨rfl, ?_⟩), by first | rfl | simp [closedB, refsIn, refsInL, refsInO, dom, refsInL_nr, *], by first | rfl | simp [keepB, dom]⟩) ?_ ?_
    · exact ⟨by rw [← dg_step s (by omega)]; exact h1, by simp only [app_len, e1]; omega⟩
    · simp only; omega
  · have e : i = 0 := by omega
    subst e
    rw [dg_zero] at h1
    refine ⟨by rw [m_len]; omega, ?_⟩
    rw [mtx, if_neg hp, ← h1]
def t_markText : List AV → Option (Prop × AV)
  | [.int .i64 k] => some ((True) ∧ (0 ≤ k ∧ k ≤ 1152921504606846976), .str (mtx k))
  | _ => none
theorem h_markText : ∀ args p v, t_markText args = some (p, v) → p → Contract P 52 args [] v [] ∧ noref v = true ∧ No99 v := by
  intro args p v h1 h2
  unfold t_markText at h1
  split at h1
  · rename_i k
    cases h1
    obtain ⟨_, HP⟩ := h2
    have := c_markText k HP
    exact ⟨this, rfl, trivial⟩
  · cases h1
def mk_ByteArray (k : Int) : ByteArray := mtx k
def ms_ByteArray (k : Int) (n : Nat) : List ByteArray := (List.range n).map fun j : Nat => mk_ByteArray (k + (j : Int))
theorem ms_ByteArray_len {k : Int} {n : Nat} : (ms_ByteArray k n).length = n := by simp [ms_ByteArray]
theorem ms_ByteArray_get {k : Int} {n j : Nat} (h : j < n) : (ms_ByteArray k n).getD j default = mk_ByteArray (k + (j : Int)) := by simp [ms_ByteArray, h]
theorem setm_ByteArray {l : List ByteArray} {i : Nat} {v : ByteArray} : (l.map srow).set i (setSeg ((l.map srow).getD i []) 0 [.str v]) = (l.set i v).map srow :=
  set_rows (α := ByteArray) (f := srow) (fun _ => v) fun x => by simp [srow, setSeg]
set_option maxHeartbeats 1000000 in
theorem c_markByteArrayS (v : Nat) (k : Int) (a : List ByteArray) (ha : a.length ≤ 1048577) (hk : 0 ≤ k ∧ k ≤ 1125899906842624) : Contract P 94 [.own 3 v 0 a.length, .int .i64 k] [(3, .arr 9 v 1 (a.map srow))] (.int .i64 (k + a.length)) [(3, .arr 9 v 1 ((ms_ByteArray k a.length).map srow))] := by
  have hz : ((0 : Nat) : Int) = 0 := rfl
  have gs : True := trivial
  refine fn_sound ((Env.nil P).add 52 t_markText h_markText) hm k_laws_markStringS (nlb rfl) rfl ?_; unfold s_laws_markStringS; simp (maxSteps := 2000000) only [bitvec_to_nat, reduceIte, Nat.reduceEqDiff, Nat.reduceAdd, Nat.reduceLeDiff, reduceCtorEq, Nat.reduceBEq, Nat.reduceLT, Nat.reduceMod, fmc, retG_ret, retQ_eq, retQ_eqN, retOk, keepB, re_tupl, orr_t, t_markText, setm_ByteArray, List.set_set, gs, irow, srow, Int.toNat_natCast, List.length_map, List.length_set, Nat.sub_zero, Nat.zero_add, hz]
  refine loop_st (fun b : Nat × List ByteArray => [(1, .int .i64 (k + b.1)), (5, .int .i64 b.1)]) (fun b => [(3, .arr 9 v 1 (b.2.map srow))]) (fun b => b.2.length = a.length ∧ b.1 ≤ a.length ∧ ∀ j, j < b.1 → b.2.getD j default = mk_ByteArray (k + (j : Int))) (fun b => a.length - b.1) (0, a) ?_ ⟨rfl, Nat.zero_le _, fun j hj => absurd hj (Nat.not_lt_zero _)⟩ ?_
  · have e0 : k + ((0 : Nat) : Int) = k := by omega
    simp only [e0]
    simp only [u_E0, u_E1, u_M0, u_M1, w_setE0, w_setE1, w_setM0, w_setM1, reduceIte, Nat.reduceEqDiff]; exact ⟨by repeat' (first | exact trivial | refine ⟨.inr rfl, ?_⟩), by repeat' (first | exact trivial | refine ⟨rfl, ?_⟩), by first | rfl | simp [closedB, refsIn, refsInL, refsInO, dom, refsInL_nr, *], by first | rfl | simp [keepB, dom]⟩
  rintro ⟨i, l⟩ ⟨h1, h2, h3⟩ NX hN
  simp only at h1 h2 h3
  have gs : i < a.length → ∀ x : ByteArray, (l.set i x).getD i default = x := fun h x => getD_seti' (by omega)
  by_cases hi : i < a.length
  · have gs := gs hi
    have e5 : k + ((i + 1 : Nat) : Int) = k + (i : Int) + 1 := by omega
    unfold l_laws_markStringS_0; simp (maxSteps := 2000000) only [bitvec_to_nat, reduceIte, Nat.reduceEqDiff, Nat.reduceAdd, Nat.reduceLeDiff, reduceCtorEq, Nat.reduceBEq, Nat.reduceLT, Nat.reduceMod, fmc, retG_ret, retQ_eq, retQ_eqN, retOk, keepB, re_tupl, orr_t, t_markText, setm_ByteArray, List.set_set, gs, irow, srow, Int.toNat_natCast, List.length_map, List.length_set, Nat.sub_zero, Nat.zero_add, hz]
    repeat' (first | with_reducible apply And.intro | with_reducible intro _)
    all_goals first
      | omega
      | (refine hN (i + 1, l.set i (mk_ByteArray (k + (i : Int)))) _ (by simp only [e5]; simp only [u_E0, u_E1, u_M0, u_M1, w_setE0, w_setE1, w_setM0, w_setM1, reduceIte, Nat.reduceEqDiff]; exact ⟨by repeat' (first | exact trivial | refine ⟨.inr rfl, ?_⟩), by repeat' (first | exact trivial | refine ⟨rfl, ?_⟩), by first | rfl | simp [closedB, refsIn, refsInL, refsInO, dom, refsInL_nr, *], by first | rfl | simp [keepB, dom]⟩) ⟨by simp only [List.length_set]; exact h1, hi, fun j hj => ?_⟩ (by simp only; omega)
         simp only at hj ⊢
         by_cases e : j = i
         · subst e; exact getD_seti' (by omega)
         · rw [getD_setn' (Ne.symm e)]; exact h3 j (by omega))
      | (exfalso; omega)
  · have hl : l = ms_ByteArray k a.length := ext_of (by rw [ms_ByteArray_len]; exact h1) fun j hj => by rw [ms_ByteArray_get (by omega)]; exact h3 j (by omega)
    have hi' : ¬ (i : Int) < a.length := by omega
    unfold l_laws_markStringS_0; simp (maxSteps := 2000000) only [bitvec_to_nat, reduceIte, Nat.reduceEqDiff, Nat.reduceAdd, Nat.reduceLeDiff, reduceCtorEq, Nat.reduceBEq, Nat.reduceLT, Nat.reduceMod, fmc, retG_ret, retQ_eq, retQ_eqN, retOk, keepB, re_tupl, orr_t, t_markText, setm_ByteArray, List.set_set, gs, irow, srow, Int.toNat_natCast, List.length_map, List.length_set, Nat.sub_zero, Nat.zero_add, hz, hi']
    refine ⟨by omega, ?_⟩
    rw [hl]
def mk_Box6 (k : Int) : Box6 := ⟨k, k + 1, k + 1 + 1, k + 1 + 1 + 1, k + 1 + 1 + 1 + 1, k + 1 + 1 + 1 + 1 + 1⟩
def ms_Box6 (k : Int) (n : Nat) : List Box6 := (List.range n).map fun j : Nat => mk_Box6 (k + 6 * (j : Int))
theorem ms_Box6_len {k : Int} {n : Nat} : (ms_Box6 k n).length = n := by simp [ms_Box6]
theorem ms_Box6_get {k : Int} {n j : Nat} (h : j < n) : (ms_Box6 k n).getD j default = mk_Box6 (k + 6 * (j : Int)) := by simp [ms_Box6, h]
theorem setm_Box60 {l : List Box6} {i : Nat} {v : Int} : (l.map Box6.row).set i (setSeg ((l.map Box6.row).getD i []) 0 [.int .i64 v]) = (l.set i { l.getD i default with x := v }).map Box6.row :=
  set_rows (α := Box6) (f := Box6.row) (fun s => { s with x := v }) fun x => by simp [Box6.row, setSeg]
theorem setm_Box61 {l : List Box6} {i : Nat} {v : Int} : (l.map Box6.row).set i (setSeg ((l.map Box6.row).getD i []) 1 [.int .i64 v]) = (l.set i { l.getD i default with y := v }).map Box6.row :=
  set_rows (α := Box6) (f := Box6.row) (fun s => { s with y := v }) fun x => by simp [Box6.row, setSeg]
theorem setm_Box62 {l : List Box6} {i : Nat} {v : Int} : (l.map Box6.row).set i (setSeg ((l.map Box6.row).getD i []) 2 [.int .i64 v]) = (l.set i { l.getD i default with l := v }).map Box6.row :=
  set_rows (α := Box6) (f := Box6.row) (fun s => { s with l := v }) fun x => by simp [Box6.row, setSeg]
theorem setm_Box63 {l : List Box6} {i : Nat} {v : Int} : (l.map Box6.row).set i (setSeg ((l.map Box6.row).getD i []) 3 [.int .i64 v]) = (l.set i { l.getD i default with h := v }).map Box6.row :=
  set_rows (α := Box6) (f := Box6.row) (fun s => { s with h := v }) fun x => by simp [Box6.row, setSeg]
theorem setm_Box64 {l : List Box6} {i : Nat} {v : Int} : (l.map Box6.row).set i (setSeg ((l.map Box6.row).getD i []) 4 [.int .i64 v]) = (l.set i { l.getD i default with i := v }).map Box6.row :=
  set_rows (α := Box6) (f := Box6.row) (fun s => { s with i := v }) fun x => by simp [Box6.row, setSeg]
theorem setm_Box65 {l : List Box6} {i : Nat} {v : Int} : (l.map Box6.row).set i (setSeg ((l.map Box6.row).getD i []) 5 [.int .i64 v]) = (l.set i { l.getD i default with o := v }).map Box6.row :=
  set_rows (α := Box6) (f := Box6.row) (fun s => { s with o := v }) fun x => by simp [Box6.row, setSeg]
set_option maxHeartbeats 1000000 in
theorem c_markBox6S (v : Nat) (k : Int) (a : List Box6) (ha : a.length ≤ 1048577) (hk : 0 ≤ k ∧ k ≤ 1125899906842624) : Contract P 28 [.own 3 v 0 a.length, .int .i64 k] [(3, .arr 100 v 6 (a.map Box6.row))] (.int .i64 (k + 6 * a.length)) [(3, .arr 100 v 6 ((ms_Box6 k a.length).map Box6.row))] := by
  have hz : ((0 : Nat) : Int) = 0 := rfl
  have gs : True := trivial
  refine fn_sound (Env.nil P) hm k_laws_markHandBoxS (nlb rfl) rfl ?_; unfold s_laws_markHandBoxS; simp (maxSteps := 2000000) only [bitvec_to_nat, reduceIte, Nat.reduceEqDiff, Nat.reduceAdd, Nat.reduceLeDiff, reduceCtorEq, Nat.reduceBEq, Nat.reduceLT, Nat.reduceMod, fmc, retG_ret, retQ_eq, retQ_eqN, retOk, keepB, re_tupl, orr_t, setm_Box60, setm_Box61, setm_Box62, setm_Box63, setm_Box64, setm_Box65, List.set_set, gs, Box6.row, irow, srow, Int.toNat_natCast, List.length_map, List.length_set, Nat.sub_zero, Nat.zero_add, hz]
  refine loop_st (fun b : Nat × List Box6 => [(1, .int .i64 (k + 6 * b.1)), (5, .int .i64 b.1)]) (fun b => [(3, .arr 100 v 6 (b.2.map Box6.row))]) (fun b => b.2.length = a.length ∧ b.1 ≤ a.length ∧ ∀ j, j < b.1 → b.2.getD j default = mk_Box6 (k + 6 * (j : Int))) (fun b => a.length - b.1) (0, a) ?_ ⟨rfl, Nat.zero_le _, fun j hj => absurd hj (Nat.not_lt_zero _)⟩ ?_
  · have e0 : k + 6 * ((0 : Nat) : Int) = k := by omega
    simp only [e0]
    simp only [u_E0, u_E1, u_M0, u_M1, w_setE0, w_setE1, w_setM0, w_setM1, reduceIte, Nat.reduceEqDiff]; exact ⟨by repeat' (first | exact trivial | refine ⟨.inr rfl, ?_⟩), by repeat' (first | exact trivial | refine ⟨rfl, ?_⟩), by first | rfl | simp [closedB, refsIn, refsInL, refsInO, dom, refsInL_nr, *], by first | rfl | simp [keepB, dom]⟩
  rintro ⟨i, l⟩ ⟨h1, h2, h3⟩ NX hN
  simp only at h1 h2 h3
  have gs : i < a.length → ∀ x : Box6, (l.set i x).getD i default = x := fun h x => getD_seti' (by omega)
  by_cases hi : i < a.length
  · have gs := gs hi
    have e5 : k + 6 * ((i + 1 : Nat) : Int) = k + 6 * (i : Int) + 1 + 1 + 1 + 1 + 1 + 1 := by omega
    unfold l_laws_markHandBoxS_0; simp (maxSteps := 2000000) only [bitvec_to_nat, reduceIte, Nat.reduceEqDiff, Nat.reduceAdd, Nat.reduceLeDiff, reduceCtorEq, Nat.reduceBEq, Nat.reduceLT, Nat.reduceMod, fmc, retG_ret, retQ_eq, retQ_eqN, retOk, keepB, re_tupl, orr_t, setm_Box60, setm_Box61, setm_Box62, setm_Box63, setm_Box64, setm_Box65, List.set_set, gs, Box6.row, irow, srow, Int.toNat_natCast, List.length_map, List.length_set, Nat.sub_zero, Nat.zero_add, hz]
    repeat' (first | with_reducible apply And.intro | with_reducible intro _)
    all_goals first
      | omega
      | (refine hN (i + 1, l.set i (mk_Box6 (k + 6 * (i : Int)))) _ (by simp only [e5]; simp only [u_E0, u_E1, u_M0, u_M1, w_setE0, w_setE1, w_setM0, w_setM1, reduceIte, Nat.reduceEqDiff]; exact ⟨by repeat' (first | exact trivial | refine ⟨.inr rfl, ?_⟩), by repeat' (first | exact trivial | refine ⟨rfl, ?_⟩), by first | rfl | simp [closedB, refsIn, refsInL, refsInO, dom, refsInL_nr, *], by first | rfl | simp [keepB, dom]⟩) ⟨by simp only [List.length_set]; exact h1, hi, fun j hj => ?_⟩ (by simp only; omega)
         simp only at hj ⊢
         by_cases e : j = i
         · subst e; exact getD_seti' (by omega)
         · rw [getD_setn' (Ne.symm e)]; exact h3 j (by omega))
      | (exfalso; omega)
  · have hl : l = ms_Box6 k a.length := ext_of (by rw [ms_Box6_len]; exact h1) fun j hj => by rw [ms_Box6_get (by omega)]; exact h3 j (by omega)
    have hi' : ¬ (i : Int) < a.length := by omega
    unfold l_laws_markHandBoxS_0; simp (maxSteps := 2000000) only [bitvec_to_nat, reduceIte, Nat.reduceEqDiff, Nat.reduceAdd, Nat.reduceLeDiff, reduceCtorEq, Nat.reduceBEq, Nat.reduceLT, Nat.reduceMod, fmc, retG_ret, retQ_eq, retQ_eqN, retOk, keepB, re_tupl, orr_t, setm_Box60, setm_Box61, setm_Box62, setm_Box63, setm_Box64, setm_Box65, List.set_set, gs, Box6.row, irow, srow, Int.toNat_natCast, List.length_map, List.length_set, Nat.sub_zero, Nat.zero_add, hz, hi']
    refine ⟨by omega, ?_⟩
    rw [hl]
set_option maxHeartbeats 1000000 in
theorem c_heldBox6S (t : Nat) (k : Int) (n : Nat) (ha : n ≤ 1048577) (hk : 0 ≤ k ∧ k ≤ 1125899906842624) : Contract P 56 [.sl t 6 ((ms_Box6 k n).map Box6.row), .int .i64 k] [] (.int .i64 (k + 6 * n)) [] := by
  have hz : ((0 : Nat) : Int) = 0 := rfl
  refine fn_sound (Env.nil P) hm k_laws_heldHandBoxS (nlb rfl) rfl ?_; unfold s_laws_heldHandBoxS; simp (maxSteps := 2000000) only [bitvec_to_nat, reduceIte, Nat.reduceEqDiff, Nat.reduceAdd, Nat.reduceLeDiff, reduceCtorEq, Nat.reduceBEq, Nat.reduceLT, Nat.reduceMod, fmc, Box6.row, Box6_eta, irow, srow, Int.toNat_natCast, List.length_map, Nat.sub_zero, Nat.zero_add, hz, eq_self, ms_Box6_len]
  refine loop_st (fun i : Nat => [(1, .int .i64 (k + 6 * i)), (5, .int .i64 i)]) (fun _ => []) (fun i => i ≤ n) (fun i => n - i) 0 ?_ (Nat.zero_le _) ?_
  · have e0 : k + 6 * ((0 : Nat) : Int) = k := by omega
    simp only [e0]
    simp only [u_E0, u_E1, u_M0, u_M1, w_setE0, w_setE1, w_setM0, w_setM1, reduceIte, Nat.reduceEqDiff]; exact ⟨by repeat' (first | exact trivial | refine ⟨.inr rfl, ?_⟩), by repeat' (first | exact trivial | refine ⟨rfl, ?_⟩), by first | rfl | simp [closedB, refsIn, refsInL, refsInO, dom, refsInL_nr, *], by first | rfl | simp [keepB, dom]⟩
  intro i hi NX hN
  have e5 : k + 6 * ((i + 1 : Nat) : Int) = k + 6 * (i : Int) + 1 + 1 + 1 + 1 + 1 + 1 := by omega
  by_cases h : i < n
  · have hg := ms_Box6_get (k := k) h
    have h' : (i : Int) < n := by omega
    unfold l_laws_heldHandBoxS_0; simp (maxSteps := 2000000) only [bitvec_to_nat, reduceIte, Nat.reduceEqDiff, Nat.reduceAdd, Nat.reduceLeDiff, reduceCtorEq, Nat.reduceBEq, Nat.reduceLT, Nat.reduceMod, fmc, Box6.row, Box6_eta, irow, srow, Int.toNat_natCast, List.length_map, Nat.sub_zero, Nat.zero_add, hz, eq_self, ms_Box6_len, h', hg, mk_Box6, not_true_eq_false, ne_eq, bne_self_eq_false]
    repeat' (first | with_reducible apply And.intro | with_reducible intro _)
    all_goals first
      | omega
      | rfl
      | (rename_i h; exact absurd rfl h)
      | (refine hN (i + 1) _ (by simp only [e5]; simp only [u_E0, u_E1, u_M0, u_M1, w_setE0, w_setE1, w_setM0, w_setM1, reduceIte, Nat.reduceEqDiff]; exact ⟨by repeat' (first | exact trivial | refine ⟨.inr rfl, ?_⟩), by repeat' (first | exact trivial | refine ⟨rfl, ?_⟩), by first | rfl | simp [closedB, refsIn, refsInL, refsInO, dom, refsInL_nr, *], by first | rfl | simp [keepB, dom]⟩) ?_ ?_ <;> omega)
  · have h' : ¬ (i : Int) < n := by omega
    unfold l_laws_heldHandBoxS_0; simp (maxSteps := 2000000) only [bitvec_to_nat, reduceIte, Nat.reduceEqDiff, Nat.reduceAdd, Nat.reduceLeDiff, reduceCtorEq, Nat.reduceBEq, Nat.reduceLT, Nat.reduceMod, fmc, Box6.row, Box6_eta, irow, srow, Int.toNat_natCast, List.length_map, Nat.sub_zero, Nat.zero_add, hz, eq_self, ms_Box6_len, h']
    omega
def mk_Seen (k : Int) : Seen := ⟨mtx (k), k + 1⟩
def ms_Seen (k : Int) (n : Nat) : List Seen := (List.range n).map fun j : Nat => mk_Seen (k + 2 * (j : Int))
theorem ms_Seen_len {k : Int} {n : Nat} : (ms_Seen k n).length = n := by simp [ms_Seen]
theorem ms_Seen_get {k : Int} {n j : Nat} (h : j < n) : (ms_Seen k n).getD j default = mk_Seen (k + 2 * (j : Int)) := by simp [ms_Seen, h]
theorem setm_Seen0 {l : List Seen} {i : Nat} {v : ByteArray} : (l.map Seen.row).set i (setSeg ((l.map Seen.row).getD i []) 0 [.str v]) = (l.set i { l.getD i default with fl := v }).map Seen.row :=
  set_rows (α := Seen) (f := Seen.row) (fun s => { s with fl := v }) fun x => by simp [Seen.row, setSeg]
theorem setm_Seen1 {l : List Seen} {i : Nat} {v : Int} : (l.map Seen.row).set i (setSeg ((l.map Seen.row).getD i []) 1 [.int .i64 v]) = (l.set i { l.getD i default with nr := v }).map Seen.row :=
  set_rows (α := Seen) (f := Seen.row) (fun s => { s with nr := v }) fun x => by simp [Seen.row, setSeg]
set_option maxHeartbeats 1000000 in
theorem c_markSeenS (v : Nat) (k : Int) (a : List Seen) (ha : a.length ≤ 1048577) (hk : 0 ≤ k ∧ k ≤ 1125899906842624) : Contract P 55 [.own 3 v 0 a.length, .int .i64 k] [(3, .arr 118 v 2 (a.map Seen.row))] (.int .i64 (k + 2 * a.length)) [(3, .arr 118 v 2 ((ms_Seen k a.length).map Seen.row))] := by
  have hz : ((0 : Nat) : Int) = 0 := rfl
  have gs : True := trivial
  refine fn_sound ((Env.nil P).add 52 t_markText h_markText) hm k_laws_markHandSeenS (nlb rfl) rfl ?_; unfold s_laws_markHandSeenS; simp (maxSteps := 2000000) only [bitvec_to_nat, reduceIte, Nat.reduceEqDiff, Nat.reduceAdd, Nat.reduceLeDiff, reduceCtorEq, Nat.reduceBEq, Nat.reduceLT, Nat.reduceMod, fmc, retG_ret, retQ_eq, retQ_eqN, retOk, keepB, re_tupl, orr_t, t_markText, setm_Seen0, setm_Seen1, List.set_set, gs, Seen.row, irow, srow, Int.toNat_natCast, List.length_map, List.length_set, Nat.sub_zero, Nat.zero_add, hz]
  refine loop_st (fun b : Nat × List Seen => [(1, .int .i64 (k + 2 * b.1)), (5, .int .i64 b.1)]) (fun b => [(3, .arr 118 v 2 (b.2.map Seen.row))]) (fun b => b.2.length = a.length ∧ b.1 ≤ a.length ∧ ∀ j, j < b.1 → b.2.getD j default = mk_Seen (k + 2 * (j : Int))) (fun b => a.length - b.1) (0, a) ?_ ⟨rfl, Nat.zero_le _, fun j hj => absurd hj (Nat.not_lt_zero _)⟩ ?_
  · have e0 : k + 2 * ((0 : Nat) : Int) = k := by omega
    simp only [e0]
    simp only [u_E0, u_E1, u_M0, u_M1, w_setE0, w_setE1, w_setM0, w_setM1, reduceIte, Nat.reduceEqDiff]; exact ⟨by repeat' (first | exact trivial | refine ⟨.inr rfl, ?_⟩), by repeat' (first | exact trivial | refine ⟨rfl, ?_⟩), by first | rfl | simp [closedB, refsIn, refsInL, refsInO, dom, refsInL_nr, *], by first | rfl | simp [keepB, dom]⟩
  rintro ⟨i, l⟩ ⟨h1, h2, h3⟩ NX hN
  simp only at h1 h2 h3
  have gs : i < a.length → ∀ x : Seen, (l.set i x).getD i default = x := fun h x => getD_seti' (by omega)
  by_cases hi : i < a.length
  · have gs := gs hi
    have e5 : k + 2 * ((i + 1 : Nat) : Int) = k + 2 * (i : Int) + 1 + 1 := by omega
    unfold l_laws_markHandSeenS_0; simp (maxSteps := 2000000) only [bitvec_to_nat, reduceIte, Nat.reduceEqDiff, Nat.reduceAdd, Nat.reduceLeDiff, reduceCtorEq, Nat.reduceBEq, Nat.reduceLT, Nat.reduceMod, fmc, retG_ret, retQ_eq, retQ_eqN, retOk, keepB, re_tupl, orr_t, t_markText, setm_Seen0, setm_Seen1, List.set_set, gs, Seen.row, irow, srow, Int.toNat_natCast, List.length_map, List.length_set, Nat.sub_zero, Nat.zero_add, hz]
    repeat' (first | with_reducible apply And.intro | with_reducible intro _)
    all_goals first
      | omega
      | (refine hN (i + 1, l.set i (mk_Seen (k + 2 * (i : Int)))) _ (by simp only [e5]; simp only [u_E0, u_E1, u_M0, u_M1, w_setE0, w_setE1, w_setM0, w_setM1, reduceIte, Nat.reduceEqDiff]; exact ⟨by repeat' (first | exact trivial | refine ⟨.inr rfl, ?_⟩), by repeat' (first | exact trivial | refine ⟨rfl, ?_⟩), by first | rfl | simp [closedB, refsIn, refsInL, refsInO, dom, refsInL_nr, *], by first | rfl | simp [keepB, dom]⟩) ⟨by simp only [List.length_set]; exact h1, hi, fun j hj => ?_⟩ (by simp only; omega)
         simp only at hj ⊢
         by_cases e : j = i
         · subst e; exact getD_seti' (by omega)
         · rw [getD_setn' (Ne.symm e)]; exact h3 j (by omega))
      | (exfalso; omega)
  · have hl : l = ms_Seen k a.length := ext_of (by rw [ms_Seen_len]; exact h1) fun j hj => by rw [ms_Seen_get (by omega)]; exact h3 j (by omega)
    have hi' : ¬ (i : Int) < a.length := by omega
    unfold l_laws_markHandSeenS_0; simp (maxSteps := 2000000) only [bitvec_to_nat, reduceIte, Nat.reduceEqDiff, Nat.reduceAdd, Nat.reduceLeDiff, reduceCtorEq, Nat.reduceBEq, Nat.reduceLT, Nat.reduceMod, fmc, retG_ret, retQ_eq, retQ_eqN, retOk, keepB, re_tupl, orr_t, t_markText, setm_Seen0, setm_Seen1, List.set_set, gs, Seen.row, irow, srow, Int.toNat_natCast, List.length_map, List.length_set, Nat.sub_zero, Nat.zero_add, hz, hi']
    refine ⟨by omega, ?_⟩
    rw [hl]
def mk_Zone (k : Int) : Zone := ⟨mtx (k), k + 1, k + 1 + 1, k + 1 + 1 + 1, k + 1 + 1 + 1 + 1⟩
def ms_Zone (k : Int) (n : Nat) : List Zone := (List.range n).map fun j : Nat => mk_Zone (k + 5 * (j : Int))
theorem ms_Zone_len {k : Int} {n : Nat} : (ms_Zone k n).length = n := by simp [ms_Zone]
theorem ms_Zone_get {k : Int} {n j : Nat} (h : j < n) : (ms_Zone k n).getD j default = mk_Zone (k + 5 * (j : Int)) := by simp [ms_Zone, h]
theorem setm_Zone0 {l : List Zone} {i : Nat} {v : ByteArray} : (l.map Zone.row).set i (setSeg ((l.map Zone.row).getD i []) 0 [.str v]) = (l.set i { l.getD i default with nm := v }).map Zone.row :=
  set_rows (α := Zone) (f := Zone.row) (fun s => { s with nm := v }) fun x => by simp [Zone.row, setSeg]
theorem setm_Zone1 {l : List Zone} {i : Nat} {v : Int} : (l.map Zone.row).set i (setSeg ((l.map Zone.row).getD i []) 1 [.int .i64 v]) = (l.set i { l.getD i default with x0 := v }).map Zone.row :=
  set_rows (α := Zone) (f := Zone.row) (fun s => { s with x0 := v }) fun x => by simp [Zone.row, setSeg]
theorem setm_Zone2 {l : List Zone} {i : Nat} {v : Int} : (l.map Zone.row).set i (setSeg ((l.map Zone.row).getD i []) 2 [.int .i64 v]) = (l.set i { l.getD i default with y0 := v }).map Zone.row :=
  set_rows (α := Zone) (f := Zone.row) (fun s => { s with y0 := v }) fun x => by simp [Zone.row, setSeg]
theorem setm_Zone3 {l : List Zone} {i : Nat} {v : Int} : (l.map Zone.row).set i (setSeg ((l.map Zone.row).getD i []) 3 [.int .i64 v]) = (l.set i { l.getD i default with x1 := v }).map Zone.row :=
  set_rows (α := Zone) (f := Zone.row) (fun s => { s with x1 := v }) fun x => by simp [Zone.row, setSeg]
theorem setm_Zone4 {l : List Zone} {i : Nat} {v : Int} : (l.map Zone.row).set i (setSeg ((l.map Zone.row).getD i []) 4 [.int .i64 v]) = (l.set i { l.getD i default with y1 := v }).map Zone.row :=
  set_rows (α := Zone) (f := Zone.row) (fun s => { s with y1 := v }) fun x => by simp [Zone.row, setSeg]
set_option maxHeartbeats 1000000 in
theorem c_markZoneS (v : Nat) (k : Int) (a : List Zone) (ha : a.length ≤ 1048577) (hk : 0 ≤ k ∧ k ≤ 1125899906842624) : Contract P 16 [.own 3 v 0 a.length, .int .i64 k] [(3, .arr 76 v 5 (a.map Zone.row))] (.int .i64 (k + 5 * a.length)) [(3, .arr 76 v 5 ((ms_Zone k a.length).map Zone.row))] := by
  have hz : ((0 : Nat) : Int) = 0 := rfl
  have gs : True := trivial
  refine fn_sound ((Env.nil P).add 52 t_markText h_markText) hm k_laws_markHandZoneS (nlb rfl) rfl ?_; unfold s_laws_markHandZoneS; simp (maxSteps := 2000000) only [bitvec_to_nat, reduceIte, Nat.reduceEqDiff, Nat.reduceAdd, Nat.reduceLeDiff, reduceCtorEq, Nat.reduceBEq, Nat.reduceLT, Nat.reduceMod, fmc, retG_ret, retQ_eq, retQ_eqN, retOk, keepB, re_tupl, orr_t, t_markText, setm_Zone0, setm_Zone1, setm_Zone2, setm_Zone3, setm_Zone4, List.set_set, gs, Zone.row, irow, srow, Int.toNat_natCast, List.length_map, List.length_set, Nat.sub_zero, Nat.zero_add, hz]
  refine loop_st (fun b : Nat × List Zone => [(1, .int .i64 (k + 5 * b.1)), (5, .int .i64 b.1)]) (fun b => [(3, .arr 76 v 5 (b.2.map Zone.row))]) (fun b => b.2.length = a.length ∧ b.1 ≤ a.length ∧ ∀ j, j < b.1 → b.2.getD j default = mk_Zone (k + 5 * (j : Int))) (fun b => a.length - b.1) (0, a) ?_ ⟨rfl, Nat.zero_le _, fun j hj => absurd hj (Nat.not_lt_zero _)⟩ ?_
  · have e0 : k + 5 * ((0 : Nat) : Int) = k := by omega
    simp only [e0]
    simp only [u_E0, u_E1, u_M0, u_M1, w_setE0, w_setE1, w_setM0, w_setM1, reduceIte, Nat.reduceEqDiff]; exact ⟨by repeat' (first | exact trivial | refine ⟨.inr rfl, ?_⟩), by repeat' (first | exact trivial | refine ⟨rfl, ?_⟩), by first | rfl | simp [closedB, refsIn, refsInL, refsInO, dom, refsInL_nr, *], by first | rfl | simp [keepB, dom]⟩
  rintro ⟨i, l⟩ ⟨h1, h2, h3⟩ NX hN
  simp only at h1 h2 h3
  have gs : i < a.length → ∀ x : Zone, (l.set i x).getD i default = x := fun h x => getD_seti' (by omega)
  by_cases hi : i < a.length
  · have gs := gs hi
    have e5 : k + 5 * ((i + 1 : Nat) : Int) = k + 5 * (i : Int) + 1 + 1 + 1 + 1 + 1 := by omega
    unfold l_laws_markHandZoneS_0; simp (maxSteps := 2000000) only [bitvec_to_nat, reduceIte, Nat.reduceEqDiff, Nat.reduceAdd, Nat.reduceLeDiff, reduceCtorEq, Nat.reduceBEq, Nat.reduceLT, Nat.reduceMod, fmc, retG_ret, retQ_eq, retQ_eqN, retOk, keepB, re_tupl, orr_t, t_markText, setm_Zone0, setm_Zone1, setm_Zone2, setm_Zone3, setm_Zone4, List.set_set, gs, Zone.row, irow, srow, Int.toNat_natCast, List.length_map, List.length_set, Nat.sub_zero, Nat.zero_add, hz]
    repeat' (first | with_reducible apply And.intro | with_reducible intro _)
    all_goals first
      | omega
      | (refine hN (i + 1, l.set i (mk_Zone (k + 5 * (i : Int)))) _ (by simp only [e5]; simp only [u_E0, u_E1, u_M0, u_M1, w_setE0, w_setE1, w_setM0, w_setM1, reduceIte, Nat.reduceEqDiff]; exact ⟨by repeat' (first | exact trivial | refine ⟨.inr rfl, ?_⟩), by repeat' (first | exact trivial | refine ⟨rfl, ?_⟩), by first | rfl | simp [closedB, refsIn, refsInL, refsInO, dom, refsInL_nr, *], by first | rfl | simp [keepB, dom]⟩) ⟨by simp only [List.length_set]; exact h1, hi, fun j hj => ?_⟩ (by simp only; omega)
         simp only at hj ⊢
         by_cases e : j = i
         · subst e; exact getD_seti' (by omega)
         · rw [getD_setn' (Ne.symm e)]; exact h3 j (by omega))
      | (exfalso; omega)
  · have hl : l = ms_Zone k a.length := ext_of (by rw [ms_Zone_len]; exact h1) fun j hj => by rw [ms_Zone_get (by omega)]; exact h3 j (by omega)
    have hi' : ¬ (i : Int) < a.length := by omega
    unfold l_laws_markHandZoneS_0; simp (maxSteps := 2000000) only [bitvec_to_nat, reduceIte, Nat.reduceEqDiff, Nat.reduceAdd, Nat.reduceLeDiff, reduceCtorEq, Nat.reduceBEq, Nat.reduceLT, Nat.reduceMod, fmc, retG_ret, retQ_eq, retQ_eqN, retOk, keepB, re_tupl, orr_t, t_markText, setm_Zone0, setm_Zone1, setm_Zone2, setm_Zone3, setm_Zone4, List.set_set, gs, Zone.row, irow, srow, Int.toNat_natCast, List.length_map, List.length_set, Nat.sub_zero, Nat.zero_add, hz, hi']
    refine ⟨by omega, ?_⟩
    rw [hl]
end
end Go.Ve

namespace Go.Ve
noncomputable section
open Go.Proofs
set_option maxRecDepth 100000
open Go.ChangeShapes Go.WideShapes
set_option maxHeartbeats 2000000 in
theorem c_toOwnO (s : Own) (hs : s.small) : Contract P 83 [.agg (s.row 1)] [] (.agg [.str s.fl, .int .i64 s.st, .int .i64 s.tn, .str s.dst, .int .i64 s.la, .int .i64 s.nr, .own 601 0 0 s.tu.length, .int .i64 s.wi, .own 602 0 0 s.nx.length, .own 603 0 0 s.gr.length, .bool s.sent]) [(603, .arr 9 0 1 (s.gr.map srow)), (602, .arr 100 0 6 (s.nx.map Box6.row)), (601, .arr 100 0 6 (s.tu.map Box6.row))] := by
  have hs1 : True := trivial
  have hs2 : True := trivial
  have hs3 : True := trivial
  have hs4 : True := trivial
  unfold Own.small at hs
  simp only [Own.row]
  refine fn_sound (Env.nil P) hm k_laws_toHandOwn (nlb rfl) rfl ?_; unfold s_laws_toHandOwn; simp (maxSteps := 2000000) only [bitvec_to_nat, reduceIte, Nat.reduceEqDiff, Nat.reduceAdd, Nat.reduceLeDiff, reduceCtorEq, Nat.reduceBEq, Nat.reduceLT, Nat.reduceMod, fmc, retG_ret, retQ_eq, retQ_eqN, retOk, keepB, re_tupl, orr_t, bXH, Zone.row, Box6.row, appE, rowsOf, srow, irow, bHX, Word.row, Own.row, Part.row, Seen.row, Book.row, Nat.sub_zero, List.append_nil, fam_ne, fam_ne', getM_setM, fam_eqF, fam_eqI, hs1, hs2, hs3, hs4]
  have hT0 := (c_toBox6SO 1 s.tu (by omega)).ren (swp 107 601) (swp_swp _ _)
  simp only [renL, ren, renM, renO, swp, reduceIte, Nat.reduceEqDiff, Nat.reduceLT] at hT0
  refine ⟨_, _, .inr (.inr (.inl ⟨_, rfl, hT0, by simp [getM], by simp [refsIn, refsInL, dom], rfl, by simp [No99], by simp [No99O, no99_box, no99_str]⟩)), ?_⟩
  simp (maxSteps := 2000000) only [bitvec_to_nat, reduceIte, Nat.reduceEqDiff, Nat.reduceAdd, Nat.reduceLeDiff, reduceCtorEq, Nat.reduceBEq, Nat.reduceLT, Nat.reduceMod, fmc, retG_ret, retQ_eq, retQ_eqN, retOk, keepB, re_tupl, orr_t, bXH, Zone.row, Box6.row, appE, rowsOf, srow, irow, bHX, Word.row, Own.row, Part.row, Seen.row, Book.row, Nat.sub_zero, List.append_nil, fam_ne, fam_ne', getM_setM, fam_eqF, fam_eqI, hs1, hs2, hs3, hs4]
  have hT1 := (c_toBox6SO 1 s.nx (by omega)).ren (swp 107 602) (swp_swp _ _)
  simp only [renL, ren, renM, renO, swp, reduceIte, Nat.reduceEqDiff, Nat.reduceLT] at hT1
  refine ⟨_, _, .inr (.inr (.inl ⟨_, rfl, hT1, by simp [getM], by simp [refsIn, refsInL, dom], rfl, by simp [No99], by simp [No99O, no99_box, no99_str]⟩)), ?_⟩
  simp (maxSteps := 2000000) only [bitvec_to_nat, reduceIte, Nat.reduceEqDiff, Nat.reduceAdd, Nat.reduceLeDiff, reduceCtorEq, Nat.reduceBEq, Nat.reduceLT, Nat.reduceMod, fmc, retG_ret, retQ_eq, retQ_eqN, retOk, keepB, re_tupl, orr_t, bXH, Zone.row, Box6.row, appE, rowsOf, srow, irow, bHX, Word.row, Own.row, Part.row, Seen.row, Book.row, Nat.sub_zero, List.append_nil, fam_ne, fam_ne', getM_setM, fam_eqF, fam_eqI, hs1, hs2, hs3, hs4]
  have hT2 := (c_toByteArraySO 1 s.gr (by omega)).ren (swp 107 603) (swp_swp _ _)
  simp only [renL, ren, renM, renO, swp, reduceIte, Nat.reduceEqDiff, Nat.reduceLT] at hT2
  refine ⟨_, _, .inr (.inr (.inl ⟨_, rfl, hT2, by simp [getM], by simp [refsIn, refsInL, dom], rfl, by simp [No99], by simp [No99O, no99_box, no99_str]⟩)), ?_⟩
  simp (maxSteps := 2000000) only [bitvec_to_nat, reduceIte, Nat.reduceEqDiff, Nat.reduceAdd, Nat.reduceLeDiff, reduceCtorEq, Nat.reduceBEq, Nat.reduceLT, Nat.reduceMod, fmc, retG_ret, retQ_eq, retQ_eqN, retOk, keepB, re_tupl, orr_t, bXH, Zone.row, Box6.row, appE, rowsOf, srow, irow, bHX, Word.row, Own.row, Part.row, Seen.row, Book.row, Nat.sub_zero, List.append_nil, fam_ne, fam_ne', getM_setM, fam_eqF, fam_eqI, hs1, hs2, hs3, hs4]
  repeat' (first | with_reducible apply And.intro | with_reducible intro _)
  all_goals first | omega | rfl | (simp [refsIn, refsInL, dom]; done)
set_option maxHeartbeats 4000000 in
theorem c_toOwnSO (t : Nat) (a : List Own) (ha : a.length ≤ 1048576) (hs : ∀ x ∈ a, x.small) : Contract P 42 [.sl t 11 (a.map (Own.row 1))] [] (.own 107 0 0 a.length) (OO 107 71 0 11 esOwn (Own.row 0) 120 0 a) := by
  have hs1 : True := trivial
  have hs2 : True := trivial
  have hs3 : True := trivial
  have hs4 : True := trivial
  have cl : ∀ (i : Nat), closedB ⟨[(0, .sl t 11 (a.map (Own.row 1))), (3, .own 107 0 0 a.length), (4, .int .i64 ((i : Nat) : Int))], (107, .arr (1000000 + 71) 0 11 (zR (Own.row 0) 120 a i [.str ⟨#[]⟩, .int .i64 0, .int .i64 0, .str ⟨#[]⟩, .int .i64 0, .int .i64 0, .sl 0 6 [], .int .i64 0, .sl 0 6 [], .sl 0 1 [], .bool false])) :: oObjs esOwn (Own.row 0) 120 0 (a.take i)⟩ = true := fun i => by
    simp only [closedB, List.all_cons, Bool.and_eq_true]
    refine ⟨⟨rfl, by simp [refsIn, dom], rfl, rfl⟩, ?_, oObjs_refs hes_Own⟩
    simp only [refsInO]
    rw [if_neg (by omega)]
    exact zR_refs rok_Own rfl fun p hp => List.mem_cons_of_mem _ (mem_dom hp)
  have kp : ∀ (x : AObj) (i : Nat) (M' : List (Nat × AObj)), keepB ((107, x) :: oObjs esOwn (Own.row 0) 120 0 (a.take i)) M' = true := fun x i M' => keep_big (big100_cons (by omega) (big100_oObjs rok_Own (by omega) (by omega)))
  have wm : ∀ (x : AObj) (i : Nat), wkM ((107, x) :: oObjs esOwn (Own.row 0) 120 0 (a.take i)) (oObjs esOwn (Own.row 0) 120 0 (a.take i)) := fun x i => wkM_self fun p hp => by
    have h1 := uniq_self (oObjs_uniq rok_Own (by omega)) p hp
    have h2 := (oObjs_num rok_Own (by omega) hp).1
    simp only [getM]
    rw [if_neg (by omega)]; exact h1
  have m0 : List.replicate a.length [.str ⟨#[]⟩, .int .i64 0, .int .i64 0, .str ⟨#[]⟩, .int .i64 0, .int .i64 0, .sl 0 6 [], .int .i64 0, .sl 0 6 [], .sl 0 1 [], .bool false] = zR (Own.row 0) 120 a 0 [.str ⟨#[]⟩, .int .i64 0, .int .i64 0, .str ⟨#[]⟩, .int .i64 0, .int .i64 0, .sl 0 6 [], .int .i64 0, .sl 0 6 [], .sl 0 1 [], .bool false] := zR_zero
  refine fn_sound (Env.nil P) hm kO_laws_toHandOwnS (nlb rfl) rfl ?_; unfold sO_laws_toHandOwnS; simp (maxSteps := 2000000) only [bitvec_to_nat, reduceIte, Nat.reduceEqDiff, Nat.reduceAdd, Nat.reduceLeDiff, reduceCtorEq, Nat.reduceBEq, Nat.reduceLT, Nat.reduceMod, fmc, retG_ret, retQ_eq, retQ_eqN, retOk, keepB, re_tupl, orr_t, bXH, Zone.row, Box6.row, appE, rowsOf, srow, irow, bHX, Word.row, Own.row, Part.row, Seen.row, Book.row, Nat.sub_zero, List.append_nil, fam_ne, fam_ne', getM_setM, fam_eqF, fam_eqI, hs1, hs2, hs3, hs4]
  refine ⟨by omega, ?_⟩
  refine loop_F (fun i : Nat => ⟨[(0, .sl t 11 (a.map (Own.row 1))), (3, .own 107 0 0 a.length), (4, .int .i64 i)], (107, .arr (1000000 + 71) 0 11 (zR (Own.row 0) 120 a i [.str ⟨#[]⟩, .int .i64 0, .int .i64 0, .str ⟨#[]⟩, .int .i64 0, .int .i64 0, .sl 0 6 [], .int .i64 0, .sl 0 6 [], .sl 0 1 [], .bool false])) :: oObjs esOwn (Own.row 0) 120 0 (a.take i)⟩) (fun i => i ≤ a.length) (fun i => a.length - i) 0 ?_ (Nat.zero_le _) ?_
  · exact ⟨by repeat' (first | exact trivial | refine ⟨.inr rfl, ?_⟩), ⟨congrArg (fun g => some (AObj.arr (1000000 + 71) 0 11 g)) m0, trivial⟩, cl 0, by simp [keepB, dom]⟩
  intro i hi NX hN
  by_cases h : i < a.length
  · have hx := hs _ (getD_mem' h)
    have hC := (((c_toOwnO (a.getD i default) hx).ren (swp 601 (fam 126 i)) (swp_swp _ _)).ren (swp 602 (fam 128 i)) (swp_swp _ _)).ren (swp 603 (fam 129 i)) (swp_swp _ _)
    simp only [renL, ren, renM, renO, swp, reduceIte, Nat.reduceEqDiff, Nat.reduceLT, fam_ne, fam_ne', fam_eqF, Own.row] at hC
    have hn : ∀ q, q < 1000 → getM (oObjs esOwn (Own.row 0) 120 0 (a.take i)) (fam q i) = none := fun q hq => oObjs_newT rok_Own (by omega) hq
    have hs1 : ∀ (B : List (Nat × AObj)) (q : Nat) (x : AObj), q < 1000 → setM (oObjs esOwn (Own.row 0) 120 0 (a.take i) ++ B) (fam q i) x = oObjs esOwn (Own.row 0) 120 0 (a.take i) ++ setM B (fam q i) x := fun B q x hq => setM_app (hn q hq)
    have hs3 : ∀ (q : Nat) (x : AObj), q < 1000 → setM (oObjs esOwn (Own.row 0) 120 0 (a.take i)) (fam q i) x = oObjs esOwn (Own.row 0) 120 0 (a.take i) ++ [(fam q i, x)] := fun q x hq => setM_new (hn q hq)
    have hs2 := zR_set (f := (Own.row 0)) (k := 120) (z := [.str ⟨#[]⟩, .int .i64 0, .int .i64 0, .str ⟨#[]⟩, .int .i64 0, .int .i64 0, .sl 0 6 [], .int .i64 0, .sl 0 6 [], .sl 0 1 [], .bool false]) (row := [.str (a.getD i default).fl, .int .i64 (a.getD i default).st, .int .i64 (a.getD i default).tn, .str (a.getD i default).dst, .int .i64 (a.getD i default).la, .int .i64 (a.getD i default).nr, .own (fam 126 i) 0 0 (a.getD i default).tu.length, .int .i64 (a.getD i default).wi, .own (fam 128 i) 0 0 (a.getD i default).nx.length, .own (fam 129 i) 0 0 (a.getD i default).gr.length, .bool (a.getD i default).sent]) h (by simp [ownR, ownC, Own.row]) rfl
    unfold lO_laws_toHandOwnS_0; simp (maxSteps := 2000000) only [bitvec_to_nat, reduceIte, Nat.reduceEqDiff, Nat.reduceAdd, Nat.reduceLeDiff, reduceCtorEq, Nat.reduceBEq, Nat.reduceLT, Nat.reduceMod, fmc, retG_ret, retQ_eq, retQ_eqN, retOk, keepB, re_tupl, orr_t, bXH, Zone.row, Box6.row, appE, rowsOf, srow, irow, bHX, Word.row, Own.row, Part.row, Seen.row, Book.row, Nat.sub_zero, List.append_nil, fam_ne, fam_ne', getM_setM, fam_eqF, fam_eqI, hs1, hs2, hs3, hs4]
    refine ⟨fun _ => ⟨by omega, by omega, _, _, .inr (.inr (.inl ⟨_, by simp only [purL, pur, Option.map_some], hC, by simp [getM, fam_ne, hn], by simp [refsIn, refsInL, dom], by simp [refsInO], by simp [No99, No99L, No99LL], by simp [No99O, no99_box, no99_str]⟩)), ?_⟩, fun h' => absurd (by omega) h'⟩
    simp (maxSteps := 2000000) only [bitvec_to_nat, reduceIte, Nat.reduceEqDiff, Nat.reduceAdd, Nat.reduceLeDiff, reduceCtorEq, Nat.reduceBEq, Nat.reduceLT, Nat.reduceMod, fmc, retG_ret, retQ_eq, retQ_eqN, retOk, keepB, re_tupl, orr_t, bXH, Zone.row, Box6.row, appE, rowsOf, srow, irow, bHX, Word.row, Own.row, Part.row, Seen.row, Book.row, Nat.sub_zero, List.append_nil, fam_ne, fam_ne', getM_setM, fam_eqF, fam_eqI, hs1, hs2, hs3, hs4]
    have em : oObjs esOwn (Own.row 0) 120 0 (a.take (i + 1)) = oObjs esOwn (Own.row 0) 120 0 (a.take i) ++ [((fam 126 i), .arr 100 0 6 ((a.getD i default).tu.map Box6.row)), ((fam 128 i), .arr 100 0 6 ((a.getD i default).nx.map Box6.row)), ((fam 129 i), .arr 9 0 1 ((a.getD i default).gr.map srow))] := oObjs_take h
    refine ⟨by omega, by omega, hN (i + 1) _ ⟨by repeat' (first | exact trivial | refine ⟨.inr rfl, ?_⟩), ⟨rfl, ?_⟩, cl (i + 1), ?_⟩ h (by omega)⟩
    · rw [em]
      refine wkM_self fun p hp => ?_
      have h1 := uniq_self (U := oObjs esOwn (Own.row 0) 120 0 (a.take (i + 1))) (oObjs_uniq rok_Own (by omega)) p (by rw [em]; exact hp)
      have h2 := (oObjs_num (es := esOwn) (k := 120) (i0 := 0) (a := a.take (i + 1)) rok_Own (by omega) (p := p) (by rw [em]; exact hp)).1
      rw [em] at h1
      simp only [getM]
      rw [if_neg (by omega)]
      simp only [getM_append, List.cons_append, List.nil_append, getM] at h1 ⊢
      exact h1
    · exact keep_big (big100_cons (by omega) (big100_app (big100_oObjs rok_Own (by omega) (by omega)) (by repeat' (first | exact big100_nil | refine big100_cons (by rw [fam_mod (by omega)]; omega) ?_))))
  · have e : i = a.length := by omega
    subst e
    have et : a.take a.length = a := List.take_length
    have ez : zR (Own.row 0) 120 a a.length [.str ⟨#[]⟩, .int .i64 0, .int .i64 0, .str ⟨#[]⟩, .int .i64 0, .int .i64 0, .sl 0 6 [], .int .i64 0, .sl 0 6 [], .sl 0 1 [], .bool false] = oRows (Own.row 0) 120 0 a := zR_end
    have cl' := cl a.length
    have wm' := wm .gone a.length
    have kp' := kp .gone a.length
    rw [et] at cl' wm' kp'
    rw [ez] at cl'
    have hs1 := ez
    have hs2 := et
    unfold lO_laws_toHandOwnS_0; simp (maxSteps := 2000000) only [bitvec_to_nat, reduceIte, Nat.reduceEqDiff, Nat.reduceAdd, Nat.reduceLeDiff, reduceCtorEq, Nat.reduceBEq, Nat.reduceLT, Nat.reduceMod, fmc, retG_ret, retQ_eq, retQ_eqN, retOk, keepB, re_tupl, orr_t, bXH, Zone.row, Box6.row, appE, rowsOf, srow, irow, bHX, Word.row, Own.row, Part.row, Seen.row, Book.row, Nat.sub_zero, List.append_nil, fam_ne, fam_ne', getM_setM, fam_eqF, fam_eqI, hs1, hs2, hs3, hs4]
    refine ⟨fun h' => absurd h' (by omega), fun _ => ?_⟩
    refine ⟨wkM_self fun p hp => OO_self rok_Own (by omega) (by omega) p hp, OO_refs rok_Own hes_Own, by simp [refsIn, OO, dom], ?_⟩
    simp only [Bool.true_or, Bool.true_and]
    exact big_all (big100_oObjs rok_Own (by omega) (by omega))
set_option maxHeartbeats 2000000 in
theorem c_toPartO (s : Part) (hs : s.small) : Contract P 84 [.agg (s.row 1)] [] (.agg [.str s.fl, .int .i64 s.nr, .own 601 0 0 s.bx.length]) [(601, .arr 100 0 6 (s.bx.map Box6.row))] := by
  have hs1 : True := trivial
  have hs2 : True := trivial
  have hs3 : True := trivial
  have hs4 : True := trivial
  unfold Part.small at hs
  simp only [Part.row]
  refine fn_sound (Env.nil P) hm k_laws_toHandPart (nlb rfl) rfl ?_; unfold s_laws_toHandPart; simp (maxSteps := 2000000) only [bitvec_to_nat, reduceIte, Nat.reduceEqDiff, Nat.reduceAdd, Nat.reduceLeDiff, reduceCtorEq, Nat.reduceBEq, Nat.reduceLT, Nat.reduceMod, fmc, retG_ret, retQ_eq, retQ_eqN, retOk, keepB, re_tupl, orr_t, bXH, Zone.row, Box6.row, appE, rowsOf, srow, irow, bHX, Word.row, Own.row, Part.row, Seen.row, Book.row, Nat.sub_zero, List.append_nil, fam_ne, fam_ne', getM_setM, fam_eqF, fam_eqI, hs1, hs2, hs3, hs4]
  have hT0 := (c_toBox6SO 1 s.bx (by omega)).ren (swp 107 601) (swp_swp _ _)
  simp only [renL, ren, renM, renO, swp, reduceIte, Nat.reduceEqDiff, Nat.reduceLT] at hT0
  refine ⟨_, _, .inr (.inr (.inl ⟨_, rfl, hT0, by simp [getM], by simp [refsIn, refsInL, dom], rfl, by simp [No99], by simp [No99O, no99_box, no99_str]⟩)), ?_⟩
  simp (maxSteps := 2000000) only [bitvec_to_nat, reduceIte, Nat.reduceEqDiff, Nat.reduceAdd, Nat.reduceLeDiff, reduceCtorEq, Nat.reduceBEq, Nat.reduceLT, Nat.reduceMod, fmc, retG_ret, retQ_eq, retQ_eqN, retOk, keepB, re_tupl, orr_t, bXH, Zone.row, Box6.row, appE, rowsOf, srow, irow, bHX, Word.row, Own.row, Part.row, Seen.row, Book.row, Nat.sub_zero, List.append_nil, fam_ne, fam_ne', getM_setM, fam_eqF, fam_eqI, hs1, hs2, hs3, hs4]
  repeat' (first | with_reducible apply And.intro | with_reducible intro _)
  all_goals first | omega | rfl | (simp [refsIn, refsInL, dom]; done)
set_option maxHeartbeats 4000000 in
theorem c_toPartSO (t : Nat) (a : List Part) (ha : a.length ≤ 1048576) (hs : ∀ x ∈ a, x.small) : Contract P 43 [.sl t 3 (a.map (Part.row 1))] [] (.own 107 0 0 a.length) (OO 107 124 0 3 esPart (Part.row 0) 140 0 a) := by
  have hs1 : True := trivial
  have hs2 : True := trivial
  have hs3 : True := trivial
  have hs4 : True := trivial
  have cl : ∀ (i : Nat), closedB ⟨[(0, .sl t 3 (a.map (Part.row 1))), (3, .own 107 0 0 a.length), (4, .int .i64 ((i : Nat) : Int))], (107, .arr (1000000 + 124) 0 3 (zR (Part.row 0) 140 a i [.str ⟨#[]⟩, .int .i64 0, .sl 0 6 []])) :: oObjs esPart (Part.row 0) 140 0 (a.take i)⟩ = true := fun i => by
    simp only [closedB, List.all_cons, Bool.and_eq_true]
    refine ⟨⟨rfl, by simp [refsIn, dom], rfl, rfl⟩, ?_, oObjs_refs hes_Part⟩
    simp only [refsInO]
    rw [if_neg (by omega)]
    exact zR_refs rok_Part rfl fun p hp => List.mem_cons_of_mem _ (mem_dom hp)
  have kp : ∀ (x : AObj) (i : Nat) (M' : List (Nat × AObj)), keepB ((107, x) :: oObjs esPart (Part.row 0) 140 0 (a.take i)) M' = true := fun x i M' => keep_big (big100_cons (by omega) (big100_oObjs rok_Part (by omega) (by omega)))
  have wm : ∀ (x : AObj) (i : Nat), wkM ((107, x) :: oObjs esPart (Part.row 0) 140 0 (a.take i)) (oObjs esPart (Part.row 0) 140 0 (a.take i)) := fun x i => wkM_self fun p hp => by
    have h1 := uniq_self (oObjs_uniq rok_Part (by omega)) p hp
    have h2 := (oObjs_num rok_Part (by omega) hp).1
    simp only [getM]
    rw [if_neg (by omega)]; exact h1
  have m0 : List.replicate a.length [.str ⟨#[]⟩, .int .i64 0, .sl 0 6 []] = zR (Part.row 0) 140 a 0 [.str ⟨#[]⟩, .int .i64 0, .sl 0 6 []] := zR_zero
  refine fn_sound (Env.nil P) hm kO_laws_toHandPartS (nlb rfl) rfl ?_; unfold sO_laws_toHandPartS; simp (maxSteps := 2000000) only [bitvec_to_nat, reduceIte, Nat.reduceEqDiff, Nat.reduceAdd, Nat.reduceLeDiff, reduceCtorEq, Nat.reduceBEq, Nat.reduceLT, Nat.reduceMod, fmc, retG_ret, retQ_eq, retQ_eqN, retOk, keepB, re_tupl, orr_t, bXH, Zone.row, Box6.row, appE, rowsOf, srow, irow, bHX, Word.row, Own.row, Part.row, Seen.row, Book.row, Nat.sub_zero, List.append_nil, fam_ne, fam_ne', getM_setM, fam_eqF, fam_eqI, hs1, hs2, hs3, hs4]
  refine ⟨by omega, ?_⟩
  refine loop_F (fun i : Nat => ⟨[(0, .sl t 3 (a.map (Part.row 1))), (3, .own 107 0 0 a.length), (4, .int .i64 i)], (107, .arr (1000000 + 124) 0 3 (zR (Part.row 0) 140 a i [.str ⟨#[]⟩, .int .i64 0, .sl 0 6 []])) :: oObjs esPart (Part.row 0) 140 0 (a.take i)⟩) (fun i => i ≤ a.length) (fun i => a.length - i) 0 ?_ (Nat.zero_le _) ?_
  · exact ⟨by repeat' (first | exact trivial | refine ⟨.inr rfl, ?_⟩), ⟨congrArg (fun g => some (AObj.arr (1000000 + 124) 0 3 g)) m0, trivial⟩, cl 0, by simp [keepB, dom]⟩
  intro i hi NX hN
  by_cases h : i < a.length
  · have hx := hs _ (getD_mem' h)
    have hC := (c_toPartO (a.getD i default) hx).ren (swp 601 (fam 142 i)) (swp_swp _ _)
    simp only [renL, ren, renM, renO, swp, reduceIte, Nat.reduceEqDiff, Nat.reduceLT, fam_ne, fam_ne', fam_eqF, Part.row] at hC
    have hn : ∀ q, q < 1000 → getM (oObjs esPart (Part.row 0) 140 0 (a.take i)) (fam q i) = none := fun q hq => oObjs_newT rok_Part (by omega) hq
    have hs1 : ∀ (B : List (Nat × AObj)) (q : Nat) (x : AObj), q < 1000 → setM (oObjs esPart (Part.row 0) 140 0 (a.take i) ++ B) (fam q i) x = oObjs esPart (Part.row 0) 140 0 (a.take i) ++ setM B (fam q i) x := fun B q x hq => setM_app (hn q hq)
    have hs3 : ∀ (q : Nat) (x : AObj), q < 1000 → setM (oObjs esPart (Part.row 0) 140 0 (a.take i)) (fam q i) x = oObjs esPart (Part.row 0) 140 0 (a.take i) ++ [(fam q i, x)] := fun q x hq => setM_new (hn q hq)
    have hs2 := zR_set (f := (Part.row 0)) (k := 140) (z := [.str ⟨#[]⟩, .int .i64 0, .sl 0 6 []]) (row := [.str (a.getD i default).fl, .int .i64 (a.getD i default).nr, .own (fam 142 i) 0 0 (a.getD i default).bx.length]) h (by simp [ownR, ownC, Part.row]) rfl
    unfold lO_laws_toHandPartS_0; simp (maxSteps := 2000000) only [bitvec_to_nat, reduceIte, Nat.reduceEqDiff, Nat.reduceAdd, Nat.reduceLeDiff, reduceCtorEq, Nat.reduceBEq, Nat.reduceLT, Nat.reduceMod, fmc, retG_ret, retQ_eq, retQ_eqN, retOk, keepB, re_tupl, orr_t, bXH, Zone.row, Box6.row, appE, rowsOf, srow, irow, bHX, Word.row, Own.row, Part.row, Seen.row, Book.row, Nat.sub_zero, List.append_nil, fam_ne, fam_ne', getM_setM, fam_eqF, fam_eqI, hs1, hs2, hs3, hs4]
    refine ⟨fun _ => ⟨by omega, by omega, _, _, .inr (.inr (.inl ⟨_, by simp only [purL, pur, Option.map_some], hC, by simp [getM, fam_ne, hn], by simp [refsIn, refsInL, dom], by simp [refsInO], by simp [No99, No99L, No99LL], by simp [No99O, no99_box, no99_str]⟩)), ?_⟩, fun h' => absurd (by omega) h'⟩
    simp (maxSteps := 2000000) only [bitvec_to_nat, reduceIte, Nat.reduceEqDiff, Nat.reduceAdd, Nat.reduceLeDiff, reduceCtorEq, Nat.reduceBEq, Nat.reduceLT, Nat.reduceMod, fmc, retG_ret, retQ_eq, retQ_eqN, retOk, keepB, re_tupl, orr_t, bXH, Zone.row, Box6.row, appE, rowsOf, srow, irow, bHX, Word.row, Own.row, Part.row, Seen.row, Book.row, Nat.sub_zero, List.append_nil, fam_ne, fam_ne', getM_setM, fam_eqF, fam_eqI, hs1, hs2, hs3, hs4]
    have em : oObjs esPart (Part.row 0) 140 0 (a.take (i + 1)) = oObjs esPart (Part.row 0) 140 0 (a.take i) ++ [((fam 142 i), .arr 100 0 6 ((a.getD i default).bx.map Box6.row))] := oObjs_take h
    refine ⟨by omega, by omega, hN (i + 1) _ ⟨by repeat' (first | exact trivial | refine ⟨.inr rfl, ?_⟩), ⟨rfl, ?_⟩, cl (i + 1), ?_⟩ h (by omega)⟩
    · rw [em]
      refine wkM_self fun p hp => ?_
      have h1 := uniq_self (U := oObjs esPart (Part.row 0) 140 0 (a.take (i + 1))) (oObjs_uniq rok_Part (by omega)) p (by rw [em]; exact hp)
      have h2 := (oObjs_num (es := esPart) (k := 140) (i0 := 0) (a := a.take (i + 1)) rok_Part (by omega) (p := p) (by rw [em]; exact hp)).1
      rw [em] at h1
      simp only [getM]
      rw [if_neg (by omega)]
      simp only [getM_append, List.cons_append, List.nil_append, getM] at h1 ⊢
      exact h1
    · exact keep_big (big100_cons (by omega) (big100_app (big100_oObjs rok_Part (by omega) (by omega)) (by repeat' (first | exact big100_nil | refine big100_cons (by rw [fam_mod (by omega)]; omega) ?_))))
  · have e : i = a.length := by omega
    subst e
    have et : a.take a.length = a := List.take_length
    have ez : zR (Part.row 0) 140 a a.length [.str ⟨#[]⟩, .int .i64 0, .sl 0 6 []] = oRows (Part.row 0) 140 0 a := zR_end
    have cl' := cl a.length
    have wm' := wm .gone a.length
    have kp' := kp .gone a.length
    rw [et] at cl' wm' kp'
    rw [ez] at cl'
    have hs1 := ez
    have hs2 := et
    unfold lO_laws_toHandPartS_0; simp (maxSteps := 2000000) only [bitvec_to_nat, reduceIte, Nat.reduceEqDiff, Nat.reduceAdd, Nat.reduceLeDiff, reduceCtorEq, Nat.reduceBEq, Nat.reduceLT, Nat.reduceMod, fmc, retG_ret, retQ_eq, retQ_eqN, retOk, keepB, re_tupl, orr_t, bXH, Zone.row, Box6.row, appE, rowsOf, srow, irow, bHX, Word.row, Own.row, Part.row, Seen.row, Book.row, Nat.sub_zero, List.append_nil, fam_ne, fam_ne', getM_setM, fam_eqF, fam_eqI, hs1, hs2, hs3, hs4]
    refine ⟨fun h' => absurd h' (by omega), fun _ => ?_⟩
    refine ⟨wkM_self fun p hp => OO_self rok_Part (by omega) (by omega) p hp, OO_refs rok_Part hes_Part, by simp [refsIn, OO, dom], ?_⟩
    simp only [Bool.true_or, Bool.true_and]
    exact big_all (big100_oObjs rok_Part (by omega) (by omega))
end
end Go.Ve

namespace Go.Ve
noncomputable section
open Go.Proofs
set_option maxRecDepth 100000
open Go.ChangeShapes Go.WideShapes
theorem OwnO_offs {o e v k q sz : Nat} {a : List Own} (h : q ≠ o) (hq : q < 1000) (hk : k + 11 ≤ 1000) : offs (OO o e v sz esOwn (Own.row 0) k 0 a) q := fun p hp e => by
  have := OO_num rok_Own hk hp; omega
theorem OwnO_uniq {o e v k sz : Nat} {a : List Own} (ho : o < 1000) (hk : k + 11 ≤ 1000) : uniq (OO o e v sz esOwn (Own.row 0) k 0 a) := OO_uniq rok_Own hk ho
theorem PartO_offs {o e v k q sz : Nat} {a : List Part} (h : q ≠ o) (hq : q < 1000) (hk : k + 3 ≤ 1000) : offs (OO o e v sz esPart (Part.row 0) k 0 a) q := fun p hp e => by
  have := OO_num rok_Part hk hp; omega
theorem PartO_uniq {o e v k sz : Nat} {a : List Part} (ho : o < 1000) (hk : k + 3 ≤ 1000) : uniq (OO o e v sz esPart (Part.row 0) k 0 a) := OO_uniq rok_Part hk ho
theorem getK_one {M : Nat → Option AObj} {o : Nat} {x : AObj} (h : M o = some x) : ∀ p ∈ [(o, x)], M p.1 = some p.2 := fun p hp => by
  rw [List.mem_singleton.1 hp]; exact h
abbrev OwnS (o v k : Nat) (l : List Own) : List (Nat × AObj) := OO o 71 v 11 esOwn (Own.row 0) k 0 l
abbrev PartS (o v k : Nat) (l : List Part) : List (Nat × AObj) := OO o 124 v 3 esPart (Part.row 0) k 0 l
abbrev SeenS (o v : Nat) (l : List Seen) : List (Nat × AObj) := [(o, .arr 118 v 2 (l.map Seen.row))]
def bkV (b : Book) (a va c vc d vd : Nat) : AV := .agg [.own a va 0 b.own.length, .own c vc 0 b.parts.length, .own d vd 0 b.seen.length]
def bkM (b : Book) (a va c vc d vd kO kP : Nat) : List (Nat × AObj) := OwnS a va kO b.own ++ (PartS c vc kP b.parts ++ SeenS d vd b.seen)
theorem bk_num {b : Book} {a va c vc d vd kO kP : Nat} (hO : kO + 11 ≤ 1000) (hP : kP + 3 ≤ 1000) {p : Nat × AObj} (h : p ∈ bkM b a va c vc d vd kO kP) :
    p.1 = a ∨ p.1 = c ∨ p.1 = d ∨ (1000 ≤ p.1 ∧ ((kO ≤ p.1 % 1000 ∧ p.1 % 1000 < kO + 11) ∨ (kP ≤ p.1 % 1000 ∧ p.1 % 1000 < kP + 3))) := by
  simp only [bkM, List.mem_append] at h
  rcases h with h | h | h
  · have := OO_num rok_Own hO h; omega
  · have := OO_num rok_Part hP h; omega
  · rw [List.mem_singleton.1 h]; exact .inr (.inr (.inl rfl))
theorem uniq_app {A B : List (Nat × AObj)} (h : uniq A) (k : uniq B) (d : dis A B) : uniq (A ++ B) := by
  unfold uniq; rw [List.pairwise_append]; exact ⟨h, k, fun p hp q hq => d p hp q hq⟩
theorem uniq_one {o : Nat} {x : AObj} : uniq [(o, x)] := List.pairwise_singleton _ _
theorem bk_uniq {b : Book} {a va c vc d vd kO kP : Nat} (h1 : a ≠ c) (h2 : a ≠ d) (h3 : c ≠ d) (ha : a < 1000) (hc : c < 1000) (hd : d < 1000) (hO : kO + 11 ≤ 1000) (hP : kP + 3 ≤ 1000) (hk : kO + 11 ≤ kP ∨ kP + 3 ≤ kO) : uniq (bkM b a va c vc d vd kO kP) := by
  unfold bkM
  refine uniq_app (OO_uniq rok_Own hO ha) (uniq_app (OO_uniq rok_Part hP hc) uniq_one fun p hp q hq e => ?_) fun p hp q hq e => ?_
  · have := OO_num rok_Part hP hp; rw [List.mem_singleton.1 hq] at e; simp only at e; omega
  · have := OO_num rok_Own hO hp
    rcases List.mem_append.1 hq with hq | hq
    · have := OO_num rok_Part hP hq; omega
    · rw [List.mem_singleton.1 hq] at e; simp only at e; omega
theorem bk_refsD {b : Book} {a va c vc d vd kO kP : Nat} {D : List Nat} (h : ∀ p ∈ bkM b a va c vc d vd kO kP, p.1 ∈ D) : ((bkM b a va c vc d vd kO kP).all fun p => refsInO D p.2) = true := by
  simp only [bkM, List.mem_append] at h
  simp only [bkM, List.all_append, Bool.and_eq_true]
  exact ⟨OO_refsD rok_Own hes_Own fun p hp => h p (.inl (List.mem_cons_of_mem _ hp)), OO_refsD rok_Part hes_Part fun p hp => h p (.inr (.inl (List.mem_cons_of_mem _ hp))), rfl⟩
theorem bk_refs {b : Book} {a va c vc d vd kO kP : Nat} : ((bkM b a va c vc d vd kO kP).all fun p => refsInO (dom (bkM b a va c vc d vd kO kP)) p.2) = true := bk_refsD fun p h => mem_dom h
theorem bkr_refs {b : Book} {a va c vc d vd kO kP : Nat} : ((bkM b a va c vc d vd kO kP).reverse.all fun p => refsInO (dom (bkM b a va c vc d vd kO kP).reverse) p.2) = true := by
  rw [List.all_reverse]
  exact bk_refsD fun p h => mem_dom (List.mem_reverse.2 h)
theorem bk_refV' {b : Book} {a va c vc d vd kO kP : Nat} {D : List Nat} (h : ∀ p ∈ bkM b a va c vc d vd kO kP, p.1 ∈ D) : refsIn D (bkV b a va c vc d vd) = true := by
  have h1 : a ∈ D := h (a, _) (by simp only [bkM, OO, List.cons_append, List.mem_cons]; exact .inl rfl)
  have h2 : c ∈ D := h (c, _) (by simp only [bkM, OO, List.cons_append, List.mem_cons, List.mem_append]; exact .inr (.inr (.inl rfl)))
  have h3 : d ∈ D := h (d, _) (by simp only [bkM, List.mem_append]; exact .inr (.inr (List.mem_singleton.2 rfl)))
  simp [bkV, refsIn, refsInL, h1, h2, h3]
theorem bk_refV {b : Book} {a va c vc d vd kO kP : Nat} : refsIn (dom (bkM b a va c vc d vd kO kP)) (bkV b a va c vc d vd) = true := bk_refV' (kO := kO) (kP := kP) fun p h => mem_dom h
theorem bkr_refV {b : Book} {a va c vc d vd kO kP : Nat} : refsIn (dom (bkM b a va c vc d vd kO kP).reverse) (bkV b a va c vc d vd) = true := bk_refV' (kO := kO) (kP := kP) fun p h => mem_dom (List.mem_reverse.2 h)
theorem bk_99 {b : Book} {a va c vc d vd kO kP : Nat} : ∀ p ∈ bkM b a va c vc d vd kO kP, No99O p.2 := fun p hp => by
  simp only [bkM, List.mem_append] at hp
  rcases hp with h | h | h
  · exact OO_99 rok_Own p h
  · exact OO_99 rok_Part p h
  · rw [List.mem_singleton.1 h]; exact no99_Seen _
theorem bk_100 {b : Book} {a va c vc d vd kO kP : Nat} (ha : 100 ≤ a % 1000) (hc : 100 ≤ c % 1000) (hd : 100 ≤ d % 1000) (hO : kO + 11 ≤ 1000) (hP : kP + 3 ≤ 1000) (h1 : 100 ≤ kO) (h2 : 100 ≤ kP) : big100 (bkM b a va c vc d vd kO kP) :=
  big100_app (OO_100 rok_Own hO h1 ha) (big100_app (OO_100 rok_Part hP h2 hc) (big100_cons hd big100_nil))
theorem bkM_ren {b : Book} {a va c vc d vd kO kP kO' kP' : Nat} {σ : Nat → Nat} (hO : ∀ j i, j < 11 → σ (fam (kO + j) (0 + i)) = fam (kO' + j) (0 + i)) (hP : ∀ j i, j < 3 → σ (fam (kP + j) (0 + i)) = fam (kP' + j) (0 + i)) : renM σ (bkM b a va c vc d vd kO kP) = bkM b (σ a) va (σ c) vc (σ d) vd kO' kP' := by
  simp only [bkM, renM_app, OwnS, PartS, SeenS, OO_ren rok_Own hes_Own hO, OO_ren rok_Part hes_Part hP, renM, renO]
  rfl
theorem bkV_ren {b : Book} {a va c vc d vd : Nat} {σ : Nat → Nat} : ren σ (bkV b a va c vc d vd) = bkV b (σ a) va (σ c) vc (σ d) vd := by simp only [bkV, ren, renL]
theorem purN_bk {M K : Nat → Option AObj} {b : Book} {a va c vc d vd kO kP : Nat} (hM : ∀ p ∈ bkM b a va c vc d vd kO kP, M p.1 = some p.2) (hK : ∀ p ∈ bkM b a va c vc d vd kO kP, K p.1 = some p.2) : purN M K (bkV b a va c vc d vd) = some (.agg (b.row 99)) := by
  have m1 : ∀ p ∈ OwnS a va kO b.own, p ∈ bkM b a va c vc d vd kO kP := fun p hp => by simp only [bkM, List.mem_append]; exact .inl hp
  have m2 : ∀ p ∈ PartS c vc kP b.parts, p ∈ bkM b a va c vc d vd kO kP := fun p hp => by simp only [bkM, List.mem_append]; exact .inr (.inl hp)
  have m3 : ∀ p ∈ SeenS d vd b.seen, p ∈ bkM b a va c vc d vd kO kP := fun p hp => by simp only [bkM, List.mem_append]; exact .inr (.inr hp)
  have e1 := purN_OO (M := M) (K := K) (o := a) (e := 71) (v := va) (sz := 11) (m := b.own.length) rok_Own hes_Own rfl (fun p hp => hM p (m1 p hp)) (fun p hp => hK p (m1 p hp))
  have e2 := purN_OO (M := M) (K := K) (o := c) (e := 124) (v := vc) (sz := 3) (m := b.parts.length) rok_Part hes_Part rfl (fun p hp => hM p (m2 p hp)) (fun p hp => hK p (m2 p hp))
  have e3 := purN_flat (M := M) (K := K) (hM _ (m3 (d, .arr 118 vd 2 (b.seen.map Seen.row)) (List.mem_singleton.2 rfl))) (fun r hr => by obtain ⟨x, _, rfl⟩ := List.mem_map.1 hr; rfl) (List.length_map ..).symm
  simp only [bkV, purN, purNL] at e1 e2 e3 ⊢
  simp only [e1, e2, e3, Option.map_some, Book.row]
  rfl
theorem tag_bk (t : Nat) (b : Book) : tag0 (.agg (b.row t)) = .agg (b.row 0) := by
  simp only [Book.row, tag0, tag0L, tag_Owns, tag_Parts]
  rw [tag_flat (f := Seen.row) (fun _ => rfl)]
theorem no98_bk (t : Nat) (ht : t ≠ 98) (b : Book) : no98 (.agg (b.row t)) = true := by
  simp only [Book.row, no98, no98L, no98_Owns ht, no98_Parts ht]
  rw [no98_rows (f := Seen.row) (fun _ => rfl)]
  simp [ht]
set_option maxHeartbeats 2000000 in
theorem c_toBookO (b : Book) (hs : b.small) : Contract P 11 [.agg (b.row 1)] [] (bkV b 611 0 612 0 613 0) (bkM b 611 0 612 0 613 0 120 140) := by
  have d3 : True := trivial
  unfold Book.small at hs
  have hT1 := ((c_toOwnSO 1 b.own hs.1.1 hs.1.2).ren (swp 107 611) (swp_swp _ _)).post_eq (post' := (OwnS 611 0 120 b.own).reverse) (by
    rw [OO_ren (k' := 120) (i1 := 0) rok_Own hes_Own (fun j i hj => swp_fam (by omega) (by omega))]
    exact funext fun o => getM_rev (OO_uniq rok_Own (by omega) (by omega)) o)
  have hT2 := ((c_toPartSO 1 b.parts hs.2.1.1 hs.2.1.2).ren (swp 107 612) (swp_swp _ _)).post_eq (post' := (PartS 612 0 140 b.parts).reverse) (by
    rw [OO_ren (k' := 140) (i1 := 0) rok_Part hes_Part (fun j i hj => swp_fam (by omega) (by omega))]
    exact funext fun o => getM_rev (OO_uniq rok_Part (by omega) (by omega)) o)
  have hT3 := (c_toSeenSO 1 b.seen (by omega)).ren (swp 107 613) (swp_swp _ _)
  simp only [renL, ren, renM, renO, swp, reduceIte, Nat.reduceEqDiff, Nat.reduceLT] at hT1 hT2 hT3
  have d1 : dis (OwnS 611 0 120 b.own) (PartS 612 0 140 b.parts) := fun p hp q hq e => by
    have := OO_num rok_Own (by omega) hp; have := OO_num rok_Part (by omega) hq; omega
  have d2 : dis (PartS 612 0 140 b.parts) (OwnS 611 0 120 b.own) := dis_symm d1
  simp only [Book.row]
  refine fn_sound (Env.nil P) hm k_laws_toHandBook (nlb rfl) rfl ?_; unfold s_laws_toHandBook; simp (maxSteps := 2000000) (maxDischargeDepth := 8) only [bitvec_to_nat, reduceIte, Nat.reduceEqDiff, Nat.reduceAdd, Nat.reduceLeDiff, reduceCtorEq, Nat.reduceBEq, Nat.reduceLT, Nat.reduceMod, fmc, retG_ret, retQ_eq, retQ_eqN, retOk, keepB, re_tupl, orr_t, bXH, Zone.row, Box6.row, appE, rowsOf, srow, irow, bHX, Word.row, Own.row, Part.row, Seen.row, Book.row, Nat.sub_zero, bkV, List.append_nil, offs_getA, offs_get, offs_setA, offs_set, ap_cons, ap_skip, ap_skip0, ap_over, ap_over0, ap_self, ap_self0, ap_new, ap_appU, offs_rev, OwnO_offs, PartO_offs, OwnO_uniq, PartO_uniq, List.cons_append, List.nil_append, List.append_assoc, dis_revR, d1, d2, d3, OO_get, OO_getA]
  refine ⟨_, _, .inr (.inr (.inl ⟨_, rfl, hT1, newK_rev (by repeat' (first | exact newK_nil | refine newK_cons (OwnO_offs (by omega) (by omega) (by omega)) ?_)), by simp [refsIn, OO, dom], OO_refr rok_Own hes_Own, trivial, fun p hp => OO_99 rok_Own p (List.mem_reverse.1 hp)⟩)), ?_⟩
  simp (maxSteps := 2000000) (maxDischargeDepth := 8) only [bitvec_to_nat, reduceIte, Nat.reduceEqDiff, Nat.reduceAdd, Nat.reduceLeDiff, reduceCtorEq, Nat.reduceBEq, Nat.reduceLT, Nat.reduceMod, fmc, retG_ret, retQ_eq, retQ_eqN, retOk, keepB, re_tupl, orr_t, bXH, Zone.row, Box6.row, appE, rowsOf, srow, irow, bHX, Word.row, Own.row, Part.row, Seen.row, Book.row, Nat.sub_zero, bkV, List.append_nil, offs_getA, offs_get, offs_setA, offs_set, ap_cons, ap_skip, ap_skip0, ap_over, ap_over0, ap_self, ap_self0, ap_new, ap_appU, offs_rev, OwnO_offs, PartO_offs, OwnO_uniq, PartO_uniq, List.cons_append, List.nil_append, List.append_assoc, dis_revR, d1, d2, d3, OO_get, OO_getA]
  refine ⟨_, _, .inr (.inr (.inl ⟨_, rfl, hT2, newK_rev (by repeat' (first | exact newK_nil | exact newK_app0 d1 | refine newK_app d1 ?_ | refine newK_cons (PartO_offs (by omega) (by omega) (by omega)) ?_)), by simp [refsIn, OO, dom], OO_refr rok_Part hes_Part, trivial, fun p hp => OO_99 rok_Part p (List.mem_reverse.1 hp)⟩)), ?_⟩
  simp (maxSteps := 2000000) (maxDischargeDepth := 8) only [bitvec_to_nat, reduceIte, Nat.reduceEqDiff, Nat.reduceAdd, Nat.reduceLeDiff, reduceCtorEq, Nat.reduceBEq, Nat.reduceLT, Nat.reduceMod, fmc, retG_ret, retQ_eq, retQ_eqN, retOk, keepB, re_tupl, orr_t, bXH, Zone.row, Box6.row, appE, rowsOf, srow, irow, bHX, Word.row, Own.row, Part.row, Seen.row, Book.row, Nat.sub_zero, bkV, List.append_nil, offs_getA, offs_get, offs_setA, offs_set, ap_cons, ap_skip, ap_skip0, ap_over, ap_over0, ap_self, ap_self0, ap_new, ap_appU, offs_rev, OwnO_offs, PartO_offs, OwnO_uniq, PartO_uniq, List.cons_append, List.nil_append, List.append_assoc, dis_revR, d1, d2, d3, OO_get, OO_getA]
  refine ⟨_, _, .inr (.inr (.inl ⟨_, rfl, hT3, new_one (by simp (config := { maxDischargeDepth := 8 }) only [getM, offs_getA, offs_get, offs_setA, offs_set, ap_cons, ap_skip, ap_skip0, ap_over, ap_over0, ap_self, ap_self0, ap_new, ap_appU, offs_rev, OwnO_offs, PartO_offs, OwnO_uniq, PartO_uniq, List.cons_append, List.nil_append, List.append_assoc, dis_revR, d1, d2, d3, OO_get, OO_getA, Nat.reduceEqDiff, Nat.reduceLT, Nat.reduceAdd, Nat.reduceLeDiff, reduceIte, ne_eq, not_false_eq_true]), by simp [refsIn, dom], rfl, trivial, by simp [No99O, no99_Seen]⟩)), ?_⟩
  simp (maxSteps := 2000000) (maxDischargeDepth := 8) only [bitvec_to_nat, reduceIte, Nat.reduceEqDiff, Nat.reduceAdd, Nat.reduceLeDiff, reduceCtorEq, Nat.reduceBEq, Nat.reduceLT, Nat.reduceMod, fmc, retG_ret, retQ_eq, retQ_eqN, retOk, keepB, re_tupl, orr_t, bXH, Zone.row, Box6.row, appE, rowsOf, srow, irow, bHX, Word.row, Own.row, Part.row, Seen.row, Book.row, Nat.sub_zero, bkV, List.append_nil, offs_getA, offs_get, offs_setA, offs_set, ap_cons, ap_skip, ap_skip0, ap_over, ap_over0, ap_self, ap_self0, ap_new, ap_appU, offs_rev, OwnO_offs, PartO_offs, OwnO_uniq, PartO_uniq, List.cons_append, List.nil_append, List.append_assoc, dis_revR, d1, d2, d3, OO_get, OO_getA]
  have ho : ∀ q, q < 600 → offs (bkM b 611 0 612 0 613 0 120 140) q := fun q hq p hp e => by
    have := bk_num (by omega) (by omega) hp; omega
  refine ⟨wkM_self (getK_cons (ho 101 (by omega)) (getK_cons (ho 102 (by omega)) (getK_cons (ho 103 (by omega)) (uniq_self (bk_uniq (by omega) (by omega) (by omega) (by omega) (by omega) (by omega) (by omega) (by omega) (by omega)))))), bk_refs, by have := bk_refV (b := b) (a := 611) (va := 0) (c := 612) (vc := 0) (d := 613) (vd := 0) (kO := 120) (kP := 140); simpa only [bkV, refsIn, refsInL, Bool.and_true, dom] using this, ?_⟩
  simp only [Bool.true_or, Bool.true_and]
  exact big_all (bk_100 (b := b) (a := 611) (va := 0) (c := 612) (vc := 0) (d := 613) (vd := 0) (kO := 120) (kP := 140) (by omega) (by omega) (by omega) (by omega) (by omega) (by omega) (by omega))
end
end Go.Ve

namespace Go.Ve
noncomputable section
open Go.Proofs
set_option maxRecDepth 100000
open Go.ChangeShapes Go.WideShapes
def t_heldBox6S : List AV → Option (Prop × AV)
  | [.sl _ 6 zx, .int .i64 k] => some (zx = (ms_Box6 k zx.length).map Box6.row ∧ zx.length ≤ 1048577 ∧ (0 ≤ k ∧ k ≤ 1125899906842624), .int .i64 (k + 6 * (zx.length : Nat)))
  | _ => none
theorem h_heldBox6S : ∀ args p v, t_heldBox6S args = some (p, v) → p → Contract P 56 args [] v [] ∧ noref v = true ∧ No99 v := by
  intro args p v h1 h2
  unfold t_heldBox6S at h1
  split at h1
  · rename_i t zx k
    cases h1
    obtain ⟨e1, h3, h4⟩ := h2
    have := c_heldBox6S t k zx.length h3 h4
    rw [← e1] at this
    exact ⟨this, rfl, trivial⟩
  · cases h1
/-- A word, and the version of its own tube. -/
structure VW where
  ve : Nat
  kd : Int
  fr : ByteArray
  dst : ByteArray
  fl : ByteArray
  nr : Int
  la : Int
  tn : Int
  tu : List Box6
  deriving Inhabited
def VW.rowO (w : VW) : List AV := [.int .i64 w.kd, .str w.fr, .str w.dst, .str w.fl, .int .i64 w.nr, .int .i64 w.la, .int .i64 w.tn, .sl w.ve 6 (w.tu.map Box6.row)]
def VW.w (w : VW) : Word := ⟨w.kd, w.fr, w.dst, w.fl, w.nr, w.la, w.tn, w.tu⟩
theorem rok_VW : RowOk 8 VW.rowO := ⟨fun x => rfl, fun x => by simp only [VW.rowO, List.all_cons, simpleV, plain_box, List.all_nil, Bool.and_self]⟩
def mk_Part (k : Int) (x : Part) : Part := ⟨(mtx (k)), (k + 1), (ms_Box6 (k + 1 + 1) x.bx.length)⟩
def ml_Part (x : Part) : Nat := 2 + 6 * x.bx.length
def cf_Part (l : List Part) (i : Nat) : Nat := ((l.take i).map ml_Part).sum
theorem cf_Part_succ {l : List Part} {i : Nat} (h : i < l.length) : cf_Part l (i + 1) = cf_Part l i + ml_Part (l.getD i default) := by
  unfold cf_Part
  rw [List.take_succ_eq_append_getElem h, List.map_append, List.sum_append]; simp [h]
def Part.sm (x : Part) : Prop := x.bx.length ≤ 1048577
theorem cf_Part_le {l : List Part} (hs : ∀ x ∈ l, x.sm) {i : Nat} (h : i ≤ l.length) : cf_Part l i ≤ i * 13631600 := by
  induction i with
  | zero => simp [cf_Part]
  | succ i ih =>
    have h' := ih (by omega)
    have h2 := hs _ (getD_mem' (show i < l.length from h))
    unfold Part.sm at h2
    have h3 : ml_Part (l.getD i default) ≤ 13631600 := by unfold ml_Part; omega
    rw [cf_Part_succ h]; omega
def mo_Part (k : Int) (l : List Part) : List Part := l.mapIdx fun i x => mk_Part (k + (cf_Part l i : Nat)) x
theorem mo_Part_len {k : Int} {l : List Part} : (mo_Part k l).length = l.length := by simp [mo_Part]
theorem mo_Part_get {k : Int} {l : List Part} {i : Nat} (h : i < l.length) : (mo_Part k l).getD i default = mk_Part (k + (cf_Part l i : Nat)) (l.getD i default) := by simp [mo_Part, h]
set_option maxHeartbeats 4000000 in
theorem c_markPartO (v : Nat) (k : Int) (a : List Part) (ha : a.length ≤ 1048577) (hs : ∀ x ∈ a, x.sm) (hk : 0 ≤ k ∧ k ≤ 35184372088832) : Contract P 54 [.own 3 v 0 a.length, .int .i64 k] (OO 3 124 v 3 esPart (Part.row 0) 7 0 a) (.int .i64 (k + (cf_Part a a.length : Nat))) (OO 3 124 v 3 esPart (Part.row 0) 7 0 (mo_Part k a)) := by
  have hr0 : True := trivial
  have gsr : True := trivial
  have hg0 : True := trivial
  have hg1 : True := trivial
  have hg2 : True := trivial
  have cl : ∀ (l : List Part) (kk : Int) (i : Nat), closedB ⟨[(0, .own 3 v 0 a.length), (1, .int .i64 kk), (5, .int .i64 i)], OO 3 124 v 3 esPart (Part.row 0) 7 0 l⟩ = true := fun l kk i => by
    simp only [closedB, List.all_cons, Bool.and_eq_true]
    exact ⟨⟨by simp [refsIn, dom, OO], rfl, rfl, rfl⟩, OO_refs rok_Part hes_Part⟩
  have dsh : ∀ x y : Part, ((Part.row 0) x).map colSl = ((Part.row 0) y).map colSl := fun _ _ => rfl
  refine fn_sound ((Env.nil P).add 52 t_markText h_markText) Go.Ve.hm k_laws_markHandPartS (nlb rfl) ?_ ?_
  · rw [List.all_eq_true]
    intro q hq
    obtain ⟨p, hp, rfl⟩ := List.mem_map.1 hq
    have := OO_num rok_Part (by omega) hp
    simp only [decide_eq_true_eq]; omega
  unfold s_laws_markHandPartS
  simp (maxSteps := 2000000) only [bitvec_to_nat, reduceIte, Nat.reduceEqDiff, Nat.reduceAdd, Nat.reduceLeDiff, reduceCtorEq, Nat.reduceBEq, Nat.reduceLT, Nat.reduceMod, fmc, retG_ret, retQ_eq, retQ_eqN, retOk, keepB, re_tupl, orr_t, t_markText, hg0, hg1, hg2, hr0, gsr, List.set_set, el_g1, Int.toNat_natCast, List.length_map, List.length_set, oRows_len, Nat.sub_zero, Nat.zero_add, fam_ne, fam_ne', getM_setM, fam_eqF, ms_Box6_len]
  refine loop_F (fun b : Nat × List Part => ⟨[(0, .own 3 v 0 a.length), (1, .int .i64 (k + (cf_Part a b.1 : Nat))), (5, .int .i64 b.1)], OO 3 124 v 3 esPart (Part.row 0) 7 0 b.2⟩)
    (fun b => b.1 ≤ a.length ∧ b.2.length = a.length ∧ (∀ j, j < b.1 → b.2.getD j default = mk_Part (k + (cf_Part a j : Nat)) (a.getD j default)) ∧ ∀ j, b.1 ≤ j → j < a.length → b.2.getD j default = a.getD j default)
    (fun b => a.length - b.1) (0, a) ?_ ⟨Nat.zero_le _, rfl, fun j hj => absurd hj (Nat.not_lt_zero _), fun j _ _ => rfl⟩ ?_
  · have e0 : k + ((cf_Part a 0 : Nat) : Int) = k := by simp [cf_Part]
    simp only [e0]
    exact ⟨by repeat' (first | exact trivial | refine ⟨.inr rfl, ?_⟩), wkM_self (OO_self rok_Part (by omega) (by omega)), cl _ _ _, keep_self⟩
  rintro ⟨i, l⟩ ⟨h1, h2, h3, h4⟩ NX hN
  simp only at h1 h2 h3 h4
  have hct := cf_Part_le hs h1
  by_cases hi : i < a.length
  · have hli := h4 i (Nat.le_refl _) hi
    have hil : i < l.length := by omega
    have hx := hs _ (getD_mem' hi)
    unfold Part.sm at hx
    have hr0 : (oRows (Part.row 0) 7 0 l).getD i [] = [.str (a.getD i default).fl, .int .i64 (a.getD i default).nr, .own (fam 9 i) 0 0 (a.getD i default).bx.length] := by rw [oRows_get hil, hli]; simp [Part.row, ownR, ownC]
    have gsr : ∀ r : List AV, ((oRows (Part.row 0) 7 0 l).set i r).getD i [] = r := fun r => getD_setR (by rw [oRows_len]; exact hil)
    have hM0 := (c_markBox6S 0 (k + (cf_Part a i : Nat) + 1 + 1) (a.getD i default).bx (by omega) (by omega)).ren (swp 3 (fam 9 i)) (swp_swp _ _)
    simp only [renL, ren, renM, renO, swp, reduceIte, Nat.reduceLT] at hM0
    have hg0 : getM (oObjs esPart (Part.row 0) 7 0 l) (fam 9 i) = some (.arr 100 0 6 ((a.getD i default).bx.map Box6.row)) := by
      have := oObjs_get (es := esPart) (k := 7) (i0 := 0) (a := l) (i := i) (j := 2) (v := 0) (sz := 6) (xs := (a.getD i default).bx.map Box6.row) rok_Part (by omega) hil (by rw [hli]; rfl)
      rw [Nat.zero_add] at this
      exact this
    have e5 : k + ((cf_Part a (i + 1) : Nat) : Int) = k + (cf_Part a i : Nat) + 1 + 1 + 6 * ((a.getD i default).bx.length : Int) := by rw [cf_Part_succ hi]; unfold ml_Part; omega
    simp only [OO]
    unfold l_laws_markHandPartS_0; simp (maxSteps := 2000000) only [bitvec_to_nat, reduceIte, Nat.reduceEqDiff, Nat.reduceAdd, Nat.reduceLeDiff, reduceCtorEq, Nat.reduceBEq, Nat.reduceLT, Nat.reduceMod, fmc, retG_ret, retQ_eq, retQ_eqN, retOk, keepB, re_tupl, orr_t, t_markText, hg0, hg1, hg2, hr0, gsr, List.set_set, el_g1, Int.toNat_natCast, List.length_map, List.length_set, oRows_len, Nat.sub_zero, Nat.zero_add, fam_ne, fam_ne', getM_setM, fam_eqF, ms_Box6_len]
    refine ⟨fun _ => ?_, fun h => absurd (by omega) h⟩
    repeat (refine ⟨by first | omega | rfl, ?_⟩)
    refine ⟨_, _, .inl ⟨_, hM0, by simp [getM, getM_setM, fam_ne, fam_ne', fam_eqF, hg0], by simp [dom], by simp [dom], by simp [refsInL, refsIn, dom], by simp [refsInO], rfl, by simp [refsInO]⟩, ?_⟩
    simp (maxSteps := 2000000) only [bitvec_to_nat, reduceIte, Nat.reduceEqDiff, Nat.reduceAdd, Nat.reduceLeDiff, reduceCtorEq, Nat.reduceBEq, Nat.reduceLT, Nat.reduceMod, fmc, retG_ret, retQ_eq, retQ_eqN, retOk, keepB, re_tupl, orr_t, t_markText, hg0, hg1, hg2, hr0, gsr, List.set_set, el_g1, Int.toNat_natCast, List.length_map, List.length_set, oRows_len, Nat.sub_zero, Nat.zero_add, fam_ne, fam_ne', getM_setM, fam_eqF, ms_Box6_len]
    repeat (refine ⟨by omega, ?_⟩)
    rw [← e5]
    have hd1 : (l.set i (mk_Part (k + (cf_Part a i : Nat)) (a.getD i default))).length = l.length := List.length_set
    refine hN (i + 1, l.set i (mk_Part (k + (cf_Part a i : Nat)) (a.getD i default))) _ ⟨by repeat' (first | exact trivial | refine ⟨.inr rfl, ?_⟩), wkM_self (OO_upd rok_Part (by omega) ?_ ?_ ?_), cl _ _ _, keepB_dom ?_⟩ ⟨hi, by rw [List.length_set]; exact h2, fun j hj => ?_, fun j h6 h7 => ?_⟩ (by simp only; omega)
    · simp only [getM, Nat.reduceEqDiff, reduceIte]
      rw [oRows_put hil (y := mk_Part (k + (cf_Part a i : Nat)) (a.getD i default)) (by simp [Part.row, ownR, ownC, mk_Part, ms_Box6_len])]
    · intro p hp hne
      have q1 := uniq_self (oObjs_uniq rok_Part (by omega)) p hp
      have q2 := (oObjs_num rok_Part (by omega) hp).1
      have q3 : ∀ c, c < 1000 → (p.1 = fam c i) = False := fun c hc => by have := hne c hc; rw [Nat.zero_add] at this; simp [this]
      have q4 : (p.1 = 3) = False := by simp; omega
      simp only [getM, getM_setM, q4, if_false, q3 9 (by omega), q1]
    · intro j v' sz xs hj
      rw [Nat.zero_add]
      have hj2 := col_lt hj
      rw [rok_Part.len] at hj2
      have cases : j = 0 ∨ j = 1 ∨ j = 2 := by omega
      rcases cases with rfl | rfl | rfl
      all_goals first
        | (cases hj; done)
        | (cases hj; simp [getM, getM_setM, fam_ne, fam_ne', fam_eqF, esPart, mk_Part, hg0]; done)
        | (simp [Part.row, mk_Part] at hj; obtain ⟨rfl, rfl, rfl⟩ := hj; simp [getM, getM_setM, fam_ne, fam_ne', fam_eqF, esPart]; done)
        | (simp [Part.row, mk_Part] at hj; done)
        | trace_state
    · have q0 : ∀ x, dom ((3, x) :: oObjs esPart (Part.row 0) 7 0 l) = dom (OO 3 124 v 3 esPart (Part.row 0) 7 0 l) := fun x => rfl
      have qm : ∀ j v' sz xs, ((Part.row 0) (l.getD i default))[j]? = some (.sl v' sz xs) → fam (7 + j) i ∈ dom (oObjs esPart (Part.row 0) 7 0 l) := fun j v' sz xs hj => by
        have := mem_dom (oObjs_mem (es := esPart) (k := 7) (i0 := 0) (p := (fam (7 + j) (0 + i), .arr (esPart j) v' sz xs)).2 ⟨i, j, v', sz, xs, hil, hj, rfl⟩)
        rw [Nat.zero_add] at this
        exact this
      have qm0 : fam 9 i ∈ dom (oObjs esPart (Part.row 0) 7 0 l) := qm 2 _ _ _ (by rw [hli]; rfl)
      have qd : dom (OO 3 124 v 3 esPart (Part.row 0) 7 0 (l.set i (mk_Part (k + (cf_Part a i : Nat)) (a.getD i default)))) = dom (OO 3 124 v 3 esPart (Part.row 0) 7 0 l) := OO_dom dsh hd1
      rw [qd, ← q0 .gone]
      simp only [dom, List.map_cons, List.cons.injEq, true_and]
      have qs := fun (M : List (Nat × AObj)) (o : Nat) (x : AObj) (h : o ∈ dom M) => dom_setM (M := M) (o := o) (x := x) h
      simp only [dom] at qs qm0 ⊢
      simp (config := { maxDischargeDepth := 8 }) only [qs, qm0]
    · simp only at hj ⊢
      by_cases e : j = i
      · subst e; exact getD_seti' hil
      · rw [getD_setn' (Ne.symm e)]; exact h3 j (by omega)
    · simp only at h6 ⊢
      rw [getD_setn' (by omega)]; exact h4 j (by omega) h7
  · have hl : l = mo_Part k a := ext_of (by rw [mo_Part_len]; exact h2) fun j hj => by rw [mo_Part_get (by omega)]; exact h3 j (by omega)
    have e : i = a.length := by omega
    subst hl
    subst e
    simp only [OO]
    unfold l_laws_markHandPartS_0; simp (maxSteps := 2000000) only [bitvec_to_nat, reduceIte, Nat.reduceEqDiff, Nat.reduceAdd, Nat.reduceLeDiff, reduceCtorEq, Nat.reduceBEq, Nat.reduceLT, Nat.reduceMod, fmc, retG_ret, retQ_eq, retQ_eqN, retOk, keepB, re_tupl, orr_t, t_markText, hg0, hg1, hg2, hr0, gsr, List.set_set, el_g1, Int.toNat_natCast, List.length_map, List.length_set, oRows_len, Nat.sub_zero, Nat.zero_add, fam_ne, fam_ne', getM_setM, fam_eqF, ms_Box6_len]
    refine ⟨fun h => absurd h (by omega), fun _ => ⟨wkM_self fun p hp => OO_self (o := 3) (e := 124) (v := v) (sz := 3) rok_Part (by omega) (by omega) p (List.mem_cons_of_mem _ hp), OO_refs (o := 3) (v := v) (sz := 3) (e := 124) rok_Part hes_Part, keep_self (M := OO 3 124 v 3 esPart (Part.row 0) 7 0 (mo_Part k a))⟩⟩
def mk_VW (k : Int) (x : VW) : VW := ⟨x.ve, (k), (mtx (k + 1)), (mtx (k + 1 + 1)), (mtx (k + 1 + 1 + 1)), (k + 1 + 1 + 1 + 1), (k + 1 + 1 + 1 + 1 + 1), (k + 1 + 1 + 1 + 1 + 1 + 1), (ms_Box6 (k + 1 + 1 + 1 + 1 + 1 + 1 + 1) x.tu.length)⟩
def ml_VW (x : VW) : Nat := 7 + 6 * x.tu.length
def cf_VW (l : List VW) (i : Nat) : Nat := ((l.take i).map ml_VW).sum
theorem cf_VW_succ {l : List VW} {i : Nat} (h : i < l.length) : cf_VW l (i + 1) = cf_VW l i + ml_VW (l.getD i default) := by
  unfold cf_VW
  rw [List.take_succ_eq_append_getElem h, List.map_append, List.sum_append]; simp [h]
def VW.sm (x : VW) : Prop := x.tu.length ≤ 1048577
theorem cf_VW_le {l : List VW} (hs : ∀ x ∈ l, x.sm) {i : Nat} (h : i ≤ l.length) : cf_VW l i ≤ i * 13631600 := by
  induction i with
  | zero => simp [cf_VW]
  | succ i ih =>
    have h' := ih (by omega)
    have h2 := hs _ (getD_mem' (show i < l.length from h))
    unfold VW.sm at h2
    have h3 : ml_VW (l.getD i default) ≤ 13631600 := by unfold ml_VW; omega
    rw [cf_VW_succ h]; omega
def mo_VW (k : Int) (l : List VW) : List VW := l.mapIdx fun i x => mk_VW (k + (cf_VW l i : Nat)) x
theorem mo_VW_len {k : Int} {l : List VW} : (mo_VW k l).length = l.length := by simp [mo_VW]
theorem mo_VW_get {k : Int} {l : List VW} {i : Nat} (h : i < l.length) : (mo_VW k l).getD i default = mk_VW (k + (cf_VW l i : Nat)) (l.getD i default) := by simp [mo_VW, h]
set_option maxHeartbeats 4000000 in
theorem c_markVWO (v : Nat) (k : Int) (a : List VW) (ha : a.length ≤ 1048577) (hs : ∀ x ∈ a, x.sm) (hk : 0 ≤ k ∧ k ≤ 35184372088832) : Contract P 18 [.own 3 v 0 a.length, .int .i64 k] (OO 3 73 v 8 esWord (VW.rowO) 7 0 a) (.int .i64 (k + (cf_VW a a.length : Nat))) (OO 3 73 v 8 esWord (VW.rowO) 7 0 (mo_VW k a)) := by
  have hr0 : True := trivial
  have gsr : True := trivial
  have hg0 : True := trivial
  have hg1 : True := trivial
  have hg2 : True := trivial
  have cl : ∀ (l : List VW) (kk : Int) (i : Nat), closedB ⟨[(0, .own 3 v 0 a.length), (1, .int .i64 kk), (5, .int .i64 i)], OO 3 73 v 8 esWord (VW.rowO) 7 0 l⟩ = true := fun l kk i => by
    simp only [closedB, List.all_cons, Bool.and_eq_true]
    exact ⟨⟨by simp [refsIn, dom, OO], rfl, rfl, rfl⟩, OO_refs rok_VW hes_Word⟩
  have dsh : ∀ x y : VW, ((VW.rowO) x).map colSl = ((VW.rowO) y).map colSl := fun _ _ => rfl
  refine fn_sound ((Env.nil P).add 52 t_markText h_markText) Go.Ve.hm k_laws_markHandWordS (nlb rfl) ?_ ?_
  · rw [List.all_eq_true]
    intro q hq
    obtain ⟨p, hp, rfl⟩ := List.mem_map.1 hq
    have := OO_num rok_VW (by omega) hp
    simp only [decide_eq_true_eq]; omega
  unfold s_laws_markHandWordS
  simp (maxSteps := 2000000) only [bitvec_to_nat, reduceIte, Nat.reduceEqDiff, Nat.reduceAdd, Nat.reduceLeDiff, reduceCtorEq, Nat.reduceBEq, Nat.reduceLT, Nat.reduceMod, fmc, retG_ret, retQ_eq, retQ_eqN, retOk, keepB, re_tupl, orr_t, t_markText, hg0, hg1, hg2, hr0, gsr, List.set_set, el_g1, Int.toNat_natCast, List.length_map, List.length_set, oRows_len, Nat.sub_zero, Nat.zero_add, fam_ne, fam_ne', getM_setM, fam_eqF, ms_Box6_len]
  refine loop_F (fun b : Nat × List VW => ⟨[(0, .own 3 v 0 a.length), (1, .int .i64 (k + (cf_VW a b.1 : Nat))), (5, .int .i64 b.1)], OO 3 73 v 8 esWord (VW.rowO) 7 0 b.2⟩)
    (fun b => b.1 ≤ a.length ∧ b.2.length = a.length ∧ (∀ j, j < b.1 → b.2.getD j default = mk_VW (k + (cf_VW a j : Nat)) (a.getD j default)) ∧ ∀ j, b.1 ≤ j → j < a.length → b.2.getD j default = a.getD j default)
    (fun b => a.length - b.1) (0, a) ?_ ⟨Nat.zero_le _, rfl, fun j hj => absurd hj (Nat.not_lt_zero _), fun j _ _ => rfl⟩ ?_
  · have e0 : k + ((cf_VW a 0 : Nat) : Int) = k := by simp [cf_VW]
    simp only [e0]
    exact ⟨by repeat' (first | exact trivial | refine ⟨.inr rfl, ?_⟩), wkM_self (OO_self rok_VW (by omega) (by omega)), cl _ _ _, keep_self⟩
  rintro ⟨i, l⟩ ⟨h1, h2, h3, h4⟩ NX hN
  simp only at h1 h2 h3 h4
  have hct := cf_VW_le hs h1
  by_cases hi : i < a.length
  · have hli := h4 i (Nat.le_refl _) hi
    have hil : i < l.length := by omega
    have hx := hs _ (getD_mem' hi)
    unfold VW.sm at hx
    have hr0 : (oRows (VW.rowO) 7 0 l).getD i [] = [.int .i64 (a.getD i default).kd, .str (a.getD i default).fr, .str (a.getD i default).dst, .str (a.getD i default).fl, .int .i64 (a.getD i default).nr, .int .i64 (a.getD i default).la, .int .i64 (a.getD i default).tn, .own (fam 14 i) (a.getD i default).ve 0 (a.getD i default).tu.length] := by rw [oRows_get hil, hli]; simp [VW.rowO, ownR, ownC]
    have gsr : ∀ r : List AV, ((oRows (VW.rowO) 7 0 l).set i r).getD i [] = r := fun r => getD_setR (by rw [oRows_len]; exact hil)
    have hM0 := (c_markBox6S (a.getD i default).ve (k + (cf_VW a i : Nat) + 1 + 1 + 1 + 1 + 1 + 1 + 1) (a.getD i default).tu (by omega) (by omega)).ren (swp 3 (fam 14 i)) (swp_swp _ _)
    simp only [renL, ren, renM, renO, swp, reduceIte, Nat.reduceLT] at hM0
    have hg0 : getM (oObjs esWord (VW.rowO) 7 0 l) (fam 14 i) = some (.arr 100 (a.getD i default).ve 6 ((a.getD i default).tu.map Box6.row)) := by
      have := oObjs_get (es := esWord) (k := 7) (i0 := 0) (a := l) (i := i) (j := 7) (v := (a.getD i default).ve) (sz := 6) (xs := (a.getD i default).tu.map Box6.row) rok_VW (by omega) hil (by rw [hli]; rfl)
      rw [Nat.zero_add] at this
      exact this
    have e5 : k + ((cf_VW a (i + 1) : Nat) : Int) = k + (cf_VW a i : Nat) + 1 + 1 + 1 + 1 + 1 + 1 + 1 + 6 * ((a.getD i default).tu.length : Int) := by rw [cf_VW_succ hi]; unfold ml_VW; omega
    simp only [OO]
    unfold l_laws_markHandWordS_0; simp (maxSteps := 2000000) only [bitvec_to_nat, reduceIte, Nat.reduceEqDiff, Nat.reduceAdd, Nat.reduceLeDiff, reduceCtorEq, Nat.reduceBEq, Nat.reduceLT, Nat.reduceMod, fmc, retG_ret, retQ_eq, retQ_eqN, retOk, keepB, re_tupl, orr_t, t_markText, hg0, hg1, hg2, hr0, gsr, List.set_set, el_g1, Int.toNat_natCast, List.length_map, List.length_set, oRows_len, Nat.sub_zero, Nat.zero_add, fam_ne, fam_ne', getM_setM, fam_eqF, ms_Box6_len]
    refine ⟨fun _ => ?_, fun h => absurd (by omega) h⟩
    repeat (refine ⟨by first | omega | rfl, ?_⟩)
    refine ⟨_, _, .inl ⟨_, hM0, by simp [getM, getM_setM, fam_ne, fam_ne', fam_eqF, hg0], by simp [dom], by simp [dom], by simp [refsInL, refsIn, dom], by simp [refsInO], rfl, by simp [refsInO]⟩, ?_⟩
    simp (maxSteps := 2000000) only [bitvec_to_nat, reduceIte, Nat.reduceEqDiff, Nat.reduceAdd, Nat.reduceLeDiff, reduceCtorEq, Nat.reduceBEq, Nat.reduceLT, Nat.reduceMod, fmc, retG_ret, retQ_eq, retQ_eqN, retOk, keepB, re_tupl, orr_t, t_markText, hg0, hg1, hg2, hr0, gsr, List.set_set, el_g1, Int.toNat_natCast, List.length_map, List.length_set, oRows_len, Nat.sub_zero, Nat.zero_add, fam_ne, fam_ne', getM_setM, fam_eqF, ms_Box6_len]
    repeat (refine ⟨by omega, ?_⟩)
    rw [← e5]
    have hd1 : (l.set i (mk_VW (k + (cf_VW a i : Nat)) (a.getD i default))).length = l.length := List.length_set
    refine hN (i + 1, l.set i (mk_VW (k + (cf_VW a i : Nat)) (a.getD i default))) _ ⟨by repeat' (first | exact trivial | refine ⟨.inr rfl, ?_⟩), wkM_self (OO_upd rok_VW (by omega) ?_ ?_ ?_), cl _ _ _, keepB_dom ?_⟩ ⟨hi, by rw [List.length_set]; exact h2, fun j hj => ?_, fun j h6 h7 => ?_⟩ (by simp only; omega)
    · simp only [getM, Nat.reduceEqDiff, reduceIte]
      rw [oRows_put hil (y := mk_VW (k + (cf_VW a i : Nat)) (a.getD i default)) (by simp [VW.rowO, ownR, ownC, mk_VW, ms_Box6_len])]
    · intro p hp hne
      have q1 := uniq_self (oObjs_uniq rok_VW (by omega)) p hp
      have q2 := (oObjs_num rok_VW (by omega) hp).1
      have q3 : ∀ c, c < 1000 → (p.1 = fam c i) = False := fun c hc => by have := hne c hc; rw [Nat.zero_add] at this; simp [this]
      have q4 : (p.1 = 3) = False := by simp; omega
      simp only [getM, getM_setM, q4, if_false, q3 14 (by omega), q1]
    · intro j v' sz xs hj
      rw [Nat.zero_add]
      have hj2 := col_lt hj
      rw [rok_VW.len] at hj2
      have cases : j = 0 ∨ j = 1 ∨ j = 2 ∨ j = 3 ∨ j = 4 ∨ j = 5 ∨ j = 6 ∨ j = 7 := by omega
      rcases cases with rfl | rfl | rfl | rfl | rfl | rfl | rfl | rfl
      all_goals first
        | (cases hj; done)
        | (cases hj; simp [getM, getM_setM, fam_ne, fam_ne', fam_eqF, esWord, mk_VW, hg0]; done)
        | (simp [VW.rowO, mk_VW] at hj; obtain ⟨rfl, rfl, rfl⟩ := hj; simp [getM, getM_setM, fam_ne, fam_ne', fam_eqF, esWord]; done)
        | (simp [VW.rowO, mk_VW] at hj; done)
        | trace_state
    · have q0 : ∀ x, dom ((3, x) :: oObjs esWord (VW.rowO) 7 0 l) = dom (OO 3 73 v 8 esWord (VW.rowO) 7 0 l) := fun x => rfl
      have qm : ∀ j v' sz xs, ((VW.rowO) (l.getD i default))[j]? = some (.sl v' sz xs) → fam (7 + j) i ∈ dom (oObjs esWord (VW.rowO) 7 0 l) := fun j v' sz xs hj => by
        have := mem_dom (oObjs_mem (es := esWord) (k := 7) (i0 := 0) (p := (fam (7 + j) (0 + i), .arr (esWord j) v' sz xs)).2 ⟨i, j, v', sz, xs, hil, hj, rfl⟩)
        rw [Nat.zero_add] at this
        exact this
      have qm0 : fam 14 i ∈ dom (oObjs esWord (VW.rowO) 7 0 l) := qm 7 _ _ _ (by rw [hli]; rfl)
      have qd : dom (OO 3 73 v 8 esWord (VW.rowO) 7 0 (l.set i (mk_VW (k + (cf_VW a i : Nat)) (a.getD i default)))) = dom (OO 3 73 v 8 esWord (VW.rowO) 7 0 l) := OO_dom dsh hd1
      rw [qd, ← q0 .gone]
      simp only [dom, List.map_cons, List.cons.injEq, true_and]
      have qs := fun (M : List (Nat × AObj)) (o : Nat) (x : AObj) (h : o ∈ dom M) => dom_setM (M := M) (o := o) (x := x) h
      simp only [dom] at qs qm0 ⊢
      simp (config := { maxDischargeDepth := 8 }) only [qs, qm0]
    · simp only at hj ⊢
      by_cases e : j = i
      · subst e; exact getD_seti' hil
      · rw [getD_setn' (Ne.symm e)]; exact h3 j (by omega)
    · simp only at h6 ⊢
      rw [getD_setn' (by omega)]; exact h4 j (by omega) h7
  · have hl : l = mo_VW k a := ext_of (by rw [mo_VW_len]; exact h2) fun j hj => by rw [mo_VW_get (by omega)]; exact h3 j (by omega)
    have e : i = a.length := by omega
    subst hl
    subst e
    simp only [OO]
    unfold l_laws_markHandWordS_0; simp (maxSteps := 2000000) only [bitvec_to_nat, reduceIte, Nat.reduceEqDiff, Nat.reduceAdd, Nat.reduceLeDiff, reduceCtorEq, Nat.reduceBEq, Nat.reduceLT, Nat.reduceMod, fmc, retG_ret, retQ_eq, retQ_eqN, retOk, keepB, re_tupl, orr_t, t_markText, hg0, hg1, hg2, hr0, gsr, List.set_set, el_g1, Int.toNat_natCast, List.length_map, List.length_set, oRows_len, Nat.sub_zero, Nat.zero_add, fam_ne, fam_ne', getM_setM, fam_eqF, ms_Box6_len]
    refine ⟨fun h => absurd h (by omega), fun _ => ⟨wkM_self fun p hp => OO_self (o := 3) (e := 73) (v := v) (sz := 8) rok_VW (by omega) (by omega) p (List.mem_cons_of_mem _ hp), OO_refs (o := 3) (v := v) (sz := 8) (e := 73) rok_VW hes_Word, keep_self (M := OO 3 73 v 8 esWord (VW.rowO) 7 0 (mo_VW k a))⟩⟩
set_option maxHeartbeats 4000000 in
theorem c_heldVWO (t t' : Nat) (k : Int) (a : List VW) (ha : a.length ≤ 1048577) (hs : ∀ x ∈ a, x.sm) (hk : 0 ≤ k ∧ k ≤ 35184372088832) : Contract P 19 [.sl t 8 ((mo_VW k a).map (fun x : VW => Word.row t' x.w)), .int .i64 k] [] (.int .i64 (k + (cf_VW a a.length : Nat))) [] := by
  refine fn_sound (((Env.nil P).add 52 t_markText h_markText).add 56 t_heldBox6S h_heldBox6S) hm k_laws_heldHandWordS (nlb rfl) rfl ?_; unfold s_laws_heldHandWordS; simp (maxSteps := 2000000) only [bitvec_to_nat, reduceIte, Nat.reduceEqDiff, Nat.reduceAdd, Nat.reduceLeDiff, reduceCtorEq, Nat.reduceBEq, Nat.reduceLT, Nat.reduceMod, fmc, t_markText, t_heldBox6S, bXH, Zone.row, Box6.row, appE, rowsOf, srow, irow, bHX, Word.row, Own.row, Part.row, Seen.row, Book.row, Int.toNat_natCast, List.length_map, Nat.sub_zero, Nat.zero_add, mo_VW_len, VW.w, ms_Box6_len]
  refine loop_st (fun i : Nat => [(1, .int .i64 (k + (cf_VW a i : Nat))), (5, .int .i64 i)]) (fun _ => []) (fun i => i ≤ a.length) (fun i => a.length - i) 0 ?_ (Nat.zero_le _) ?_
  · have e0 : k + ((cf_VW a 0 : Nat) : Int) = k := by simp [cf_VW]
    simp only [e0]
    simp only [u_E0, u_E1, u_M0, u_M1, w_setE0, w_setE1, w_setM0, w_setM1, reduceIte, Nat.reduceEqDiff]; exact ⟨by repeat' (first | exact trivial | refine ⟨.inr rfl, ?_⟩), by repeat' (first | exact trivial | refine ⟨rfl, ?_⟩), by first | rfl | simp [closedB, refsIn, refsInL, refsInO, dom, refsInL_nr, *], by first | rfl | simp [keepB, dom]⟩
  intro i hi NX hN
  have hct := cf_VW_le hs hi
  by_cases h : i < a.length
  · have hg := mo_VW_get (k := k) h
    have hx := hs _ (getD_mem' h)
    unfold VW.sm at hx
    have e5 : k + ((cf_VW a (i + 1) : Nat) : Int) = k + (cf_VW a i : Nat) + 1 + 1 + 1 + 1 + 1 + 1 + 1 + 6 * ((a.getD i default).tu.length : Int) := by rw [cf_VW_succ h]; unfold ml_VW; omega
    unfold l_laws_heldHandWordS_0; simp (maxSteps := 2000000) only [bitvec_to_nat, reduceIte, Nat.reduceEqDiff, Nat.reduceAdd, Nat.reduceLeDiff, reduceCtorEq, Nat.reduceBEq, Nat.reduceLT, Nat.reduceMod, fmc, t_markText, t_heldBox6S, bXH, Zone.row, Box6.row, appE, rowsOf, srow, irow, bHX, Word.row, Own.row, Part.row, Seen.row, Book.row, Int.toNat_natCast, List.length_map, Nat.sub_zero, Nat.zero_add, mo_VW_len, VW.w, ms_Box6_len, hg, mk_VW, not_true_eq_false, ne_eq, bne_self_eq_false, eq_self, not_false_eq_true]
    repeat' (first | with_reducible apply And.intro | with_reducible intro _)
    all_goals first
      | omega
      | rfl
      | (rename_i h; exact absurd rfl h)
      | (refine hN (i + 1) _ (by simp only [e5]; simp only [u_E0, u_E1, u_M0, u_M1, w_setE0, w_setE1, w_setM0, w_setM1, reduceIte, Nat.reduceEqDiff]; exact ⟨by repeat' (first | exact trivial | refine ⟨.inr rfl, ?_⟩), by repeat' (first | exact trivial | refine ⟨rfl, ?_⟩), by first | rfl | simp [closedB, refsIn, refsInL, refsInO, dom, refsInL_nr, *], by first | rfl | simp [keepB, dom]⟩) ?_ ?_ <;> omega)
      | trace_state
  · have e : i = a.length := by omega
    subst e
    unfold l_laws_heldHandWordS_0; simp (maxSteps := 2000000) only [bitvec_to_nat, reduceIte, Nat.reduceEqDiff, Nat.reduceAdd, Nat.reduceLeDiff, reduceCtorEq, Nat.reduceBEq, Nat.reduceLT, Nat.reduceMod, fmc, t_markText, t_heldBox6S, bXH, Zone.row, Box6.row, appE, rowsOf, srow, irow, bHX, Word.row, Own.row, Part.row, Seen.row, Book.row, Int.toNat_natCast, List.length_map, Nat.sub_zero, Nat.zero_add, mo_VW_len, VW.w, ms_Box6_len]
    repeat' (first | with_reducible apply And.intro | with_reducible intro _)
    all_goals first
      | omega
      | rfl
      | (exfalso; omega)
      | trace_state
def mk_Own (k : Int) (x : Own) : Own := ⟨(mtx (k)), (k + 1), (k + 1 + 1), (mtx (k + 1 + 1 + 1)), (k + 1 + 1 + 1 + 1), (k + 1 + 1 + 1 + 1 + 1), (ms_Box6 (k + 1 + 1 + 1 + 1 + 1 + 1) x.tu.length), (k + 1 + 1 + 1 + 1 + 1 + 1 + 6 * (x.tu.length : Int)), (ms_Box6 (k + 1 + 1 + 1 + 1 + 1 + 1 + 6 * (x.tu.length : Int) + 1) x.nx.length), (ms_ByteArray (k + 1 + 1 + 1 + 1 + 1 + 1 + 6 * (x.tu.length : Int) + 1 + 6 * (x.nx.length : Int)) x.gr.length), (decide ((k + 1 + 1 + 1 + 1 + 1 + 1 + 6 * (x.tu.length : Int) + 1 + 6 * (x.nx.length : Int) + (x.gr.length : Int)) % 3 = 0))⟩
def ml_Own (x : Own) : Nat := 8 + 6 * x.tu.length + 6 * x.nx.length + x.gr.length
def cf_Own (l : List Own) (i : Nat) : Nat := ((l.take i).map ml_Own).sum
theorem cf_Own_succ {l : List Own} {i : Nat} (h : i < l.length) : cf_Own l (i + 1) = cf_Own l i + ml_Own (l.getD i default) := by
  unfold cf_Own
  rw [List.take_succ_eq_append_getElem h, List.map_append, List.sum_append]; simp [h]
def Own.sm (x : Own) : Prop := x.tu.length ≤ 1048577 ∧ x.nx.length ≤ 1048577 ∧ x.gr.length ≤ 1048577
theorem cf_Own_le {l : List Own} (hs : ∀ x ∈ l, x.sm) {i : Nat} (h : i ≤ l.length) : cf_Own l i ≤ i * 13631600 := by
  induction i with
  | zero => simp [cf_Own]
  | succ i ih =>
    have h' := ih (by omega)
    have h2 := hs _ (getD_mem' (show i < l.length from h))
    unfold Own.sm at h2
    have h3 : ml_Own (l.getD i default) ≤ 13631600 := by unfold ml_Own; omega
    rw [cf_Own_succ h]; omega
def mo_Own (k : Int) (l : List Own) : List Own := l.mapIdx fun i x => mk_Own (k + (cf_Own l i : Nat)) x
theorem mo_Own_len {k : Int} {l : List Own} : (mo_Own k l).length = l.length := by simp [mo_Own]
theorem mo_Own_get {k : Int} {l : List Own} {i : Nat} (h : i < l.length) : (mo_Own k l).getD i default = mk_Own (k + (cf_Own l i : Nat)) (l.getD i default) := by simp [mo_Own, h]
set_option maxHeartbeats 4000000 in
theorem c_markOwnO (v : Nat) (k : Int) (a : List Own) (ha : a.length ≤ 1048577) (hs : ∀ x ∈ a, x.sm) (hk : 0 ≤ k ∧ k ≤ 35184372088832) : Contract P 53 [.own 3 v 0 a.length, .int .i64 k] (OO 3 71 v 11 esOwn (Own.row 0) 7 0 a) (.int .i64 (k + (cf_Own a a.length : Nat))) (OO 3 71 v 11 esOwn (Own.row 0) 7 0 (mo_Own k a)) := by
  have hr0 : True := trivial
  have gsr : True := trivial
  have hg0 : True := trivial
  have hg1 : True := trivial
  have hg2 : True := trivial
  have cl : ∀ (l : List Own) (kk : Int) (i : Nat), closedB ⟨[(0, .own 3 v 0 a.length), (1, .int .i64 kk), (5, .int .i64 i)], OO 3 71 v 11 esOwn (Own.row 0) 7 0 l⟩ = true := fun l kk i => by
    simp only [closedB, List.all_cons, Bool.and_eq_true]
    exact ⟨⟨by simp [refsIn, dom, OO], rfl, rfl, rfl⟩, OO_refs rok_Own hes_Own⟩
  have dsh : ∀ x y : Own, ((Own.row 0) x).map colSl = ((Own.row 0) y).map colSl := fun _ _ => rfl
  refine fn_sound ((Env.nil P).add 52 t_markText h_markText) Go.Ve.hm k_laws_markHandOwnS (nlb rfl) ?_ ?_
  · rw [List.all_eq_true]
    intro q hq
    obtain ⟨p, hp, rfl⟩ := List.mem_map.1 hq
    have := OO_num rok_Own (by omega) hp
    simp only [decide_eq_true_eq]; omega
  unfold s_laws_markHandOwnS
  simp (maxSteps := 2000000) only [bitvec_to_nat, reduceIte, Nat.reduceEqDiff, Nat.reduceAdd, Nat.reduceLeDiff, reduceCtorEq, Nat.reduceBEq, Nat.reduceLT, Nat.reduceMod, fmc, retG_ret, retQ_eq, retQ_eqN, retOk, keepB, re_tupl, orr_t, t_markText, hg0, hg1, hg2, hr0, gsr, List.set_set, el_g1, Int.toNat_natCast, List.length_map, List.length_set, oRows_len, Nat.sub_zero, Nat.zero_add, fam_ne, fam_ne', getM_setM, fam_eqF, ms_Box6_len, ms_Box6_len, ms_ByteArray_len]
  refine loop_F (fun b : Nat × List Own => ⟨[(0, .own 3 v 0 a.length), (1, .int .i64 (k + (cf_Own a b.1 : Nat))), (5, .int .i64 b.1)], OO 3 71 v 11 esOwn (Own.row 0) 7 0 b.2⟩)
    (fun b => b.1 ≤ a.length ∧ b.2.length = a.length ∧ (∀ j, j < b.1 → b.2.getD j default = mk_Own (k + (cf_Own a j : Nat)) (a.getD j default)) ∧ ∀ j, b.1 ≤ j → j < a.length → b.2.getD j default = a.getD j default)
    (fun b => a.length - b.1) (0, a) ?_ ⟨Nat.zero_le _, rfl, fun j hj => absurd hj (Nat.not_lt_zero _), fun j _ _ => rfl⟩ ?_
  · have e0 : k + ((cf_Own a 0 : Nat) : Int) = k := by simp [cf_Own]
    simp only [e0]
    exact ⟨by repeat' (first | exact trivial | refine ⟨.inr rfl, ?_⟩), wkM_self (OO_self rok_Own (by omega) (by omega)), cl _ _ _, keep_self⟩
  rintro ⟨i, l⟩ ⟨h1, h2, h3, h4⟩ NX hN
  simp only at h1 h2 h3 h4
  have hct := cf_Own_le hs h1
  by_cases hi : i < a.length
  · have hli := h4 i (Nat.le_refl _) hi
    have hil : i < l.length := by omega
    have hx := hs _ (getD_mem' hi)
    unfold Own.sm at hx
    have hr0 : (oRows (Own.row 0) 7 0 l).getD i [] = [.str (a.getD i default).fl, .int .i64 (a.getD i default).st, .int .i64 (a.getD i default).tn, .str (a.getD i default).dst, .int .i64 (a.getD i default).la, .int .i64 (a.getD i default).nr, .own (fam 13 i) 0 0 (a.getD i default).tu.length, .int .i64 (a.getD i default).wi, .own (fam 15 i) 0 0 (a.getD i default).nx.length, .own (fam 16 i) 0 0 (a.getD i default).gr.length, .bool (a.getD i default).sent] := by rw [oRows_get hil, hli]; simp [Own.row, ownR, ownC]
    have gsr : ∀ r : List AV, ((oRows (Own.row 0) 7 0 l).set i r).getD i [] = r := fun r => getD_setR (by rw [oRows_len]; exact hil)
    have hM0 := (c_markBox6S 0 (k + (cf_Own a i : Nat) + 1 + 1 + 1 + 1 + 1 + 1) (a.getD i default).tu (by omega) (by omega)).ren (swp 3 (fam 13 i)) (swp_swp _ _)
    simp only [renL, ren, renM, renO, swp, reduceIte, Nat.reduceLT] at hM0
    have hg0 : getM (oObjs esOwn (Own.row 0) 7 0 l) (fam 13 i) = some (.arr 100 0 6 ((a.getD i default).tu.map Box6.row)) := by
      have := oObjs_get (es := esOwn) (k := 7) (i0 := 0) (a := l) (i := i) (j := 6) (v := 0) (sz := 6) (xs := (a.getD i default).tu.map Box6.row) rok_Own (by omega) hil (by rw [hli]; rfl)
      rw [Nat.zero_add] at this
      exact this
    have hM1 := (c_markBox6S 0 (k + (cf_Own a i : Nat) + 1 + 1 + 1 + 1 + 1 + 1 + 6 * ((a.getD i default).tu.length : Int) + 1) (a.getD i default).nx (by omega) (by omega)).ren (swp 3 (fam 15 i)) (swp_swp _ _)
    simp only [renL, ren, renM, renO, swp, reduceIte, Nat.reduceLT] at hM1
    have hg1 : getM (oObjs esOwn (Own.row 0) 7 0 l) (fam 15 i) = some (.arr 100 0 6 ((a.getD i default).nx.map Box6.row)) := by
      have := oObjs_get (es := esOwn) (k := 7) (i0 := 0) (a := l) (i := i) (j := 8) (v := 0) (sz := 6) (xs := (a.getD i default).nx.map Box6.row) rok_Own (by omega) hil (by rw [hli]; rfl)
      rw [Nat.zero_add] at this
      exact this
    have hM2 := (c_markByteArrayS 0 (k + (cf_Own a i : Nat) + 1 + 1 + 1 + 1 + 1 + 1 + 6 * ((a.getD i default).tu.length : Int) + 1 + 6 * ((a.getD i default).nx.length : Int)) (a.getD i default).gr (by omega) (by omega)).ren (swp 3 (fam 16 i)) (swp_swp _ _)
    simp only [renL, ren, renM, renO, swp, reduceIte, Nat.reduceLT] at hM2
    have hg2 : getM (oObjs esOwn (Own.row 0) 7 0 l) (fam 16 i) = some (.arr 9 0 1 ((a.getD i default).gr.map srow)) := by
      have := oObjs_get (es := esOwn) (k := 7) (i0 := 0) (a := l) (i := i) (j := 9) (v := 0) (sz := 1) (xs := (a.getD i default).gr.map srow) rok_Own (by omega) hil (by rw [hli]; rfl)
      rw [Nat.zero_add] at this
      exact this
    have e5 : k + ((cf_Own a (i + 1) : Nat) : Int) = k + (cf_Own a i : Nat) + 1 + 1 + 1 + 1 + 1 + 1 + 6 * ((a.getD i default).tu.length : Int) + 1 + 6 * ((a.getD i default).nx.length : Int) + ((a.getD i default).gr.length : Int) + 1 := by rw [cf_Own_succ hi]; unfold ml_Own; omega
    simp only [OO]
    unfold l_laws_markHandOwnS_0; simp (maxSteps := 2000000) only [bitvec_to_nat, reduceIte, Nat.reduceEqDiff, Nat.reduceAdd, Nat.reduceLeDiff, reduceCtorEq, Nat.reduceBEq, Nat.reduceLT, Nat.reduceMod, fmc, retG_ret, retQ_eq, retQ_eqN, retOk, keepB, re_tupl, orr_t, t_markText, hg0, hg1, hg2, hr0, gsr, List.set_set, el_g1, Int.toNat_natCast, List.length_map, List.length_set, oRows_len, Nat.sub_zero, Nat.zero_add, fam_ne, fam_ne', getM_setM, fam_eqF, ms_Box6_len, ms_Box6_len, ms_ByteArray_len]
    refine ⟨fun _ => ?_, fun h => absurd (by omega) h⟩
    repeat (refine ⟨by first | omega | rfl, ?_⟩)
    refine ⟨_, _, .inl ⟨_, hM0, by simp [getM, getM_setM, fam_ne, fam_ne', fam_eqF, hg0, hg1, hg2], by simp [dom], by simp [dom], by simp [refsInL, refsIn, dom], by simp [refsInO], rfl, by simp [refsInO]⟩, ?_⟩
    simp (maxSteps := 2000000) only [bitvec_to_nat, reduceIte, Nat.reduceEqDiff, Nat.reduceAdd, Nat.reduceLeDiff, reduceCtorEq, Nat.reduceBEq, Nat.reduceLT, Nat.reduceMod, fmc, retG_ret, retQ_eq, retQ_eqN, retOk, keepB, re_tupl, orr_t, t_markText, hg0, hg1, hg2, hr0, gsr, List.set_set, el_g1, Int.toNat_natCast, List.length_map, List.length_set, oRows_len, Nat.sub_zero, Nat.zero_add, fam_ne, fam_ne', getM_setM, fam_eqF, ms_Box6_len, ms_Box6_len, ms_ByteArray_len]
    repeat (refine ⟨by first | omega | rfl, ?_⟩)
    refine ⟨_, _, .inl ⟨_, hM1, by simp [getM, getM_setM, fam_ne, fam_ne', fam_eqF, hg0, hg1, hg2], by simp [dom], by simp [dom], by simp [refsInL, refsIn, dom], by simp [refsInO], rfl, by simp [refsInO]⟩, ?_⟩
    simp (maxSteps := 2000000) only [bitvec_to_nat, reduceIte, Nat.reduceEqDiff, Nat.reduceAdd, Nat.reduceLeDiff, reduceCtorEq, Nat.reduceBEq, Nat.reduceLT, Nat.reduceMod, fmc, retG_ret, retQ_eq, retQ_eqN, retOk, keepB, re_tupl, orr_t, t_markText, hg0, hg1, hg2, hr0, gsr, List.set_set, el_g1, Int.toNat_natCast, List.length_map, List.length_set, oRows_len, Nat.sub_zero, Nat.zero_add, fam_ne, fam_ne', getM_setM, fam_eqF, ms_Box6_len, ms_Box6_len, ms_ByteArray_len]
    repeat (refine ⟨by first | omega | rfl, ?_⟩)
    refine ⟨_, _, .inl ⟨_, hM2, by simp [getM, getM_setM, fam_ne, fam_ne', fam_eqF, hg0, hg1, hg2], by simp [dom], by simp [dom], by simp [refsInL, refsIn, dom], by simp [refsInO], rfl, by simp [refsInO]⟩, ?_⟩
    simp (maxSteps := 2000000) only [bitvec_to_nat, reduceIte, Nat.reduceEqDiff, Nat.reduceAdd, Nat.reduceLeDiff, reduceCtorEq, Nat.reduceBEq, Nat.reduceLT, Nat.reduceMod, fmc, retG_ret, retQ_eq, retQ_eqN, retOk, keepB, re_tupl, orr_t, t_markText, hg0, hg1, hg2, hr0, gsr, List.set_set, el_g1, Int.toNat_natCast, List.length_map, List.length_set, oRows_len, Nat.sub_zero, Nat.zero_add, fam_ne, fam_ne', getM_setM, fam_eqF, ms_Box6_len, ms_Box6_len, ms_ByteArray_len]
    repeat (refine ⟨by omega, ?_⟩)
    rw [← e5]
    have hd1 : (l.set i (mk_Own (k + (cf_Own a i : Nat)) (a.getD i default))).length = l.length := List.length_set
    refine hN (i + 1, l.set i (mk_Own (k + (cf_Own a i : Nat)) (a.getD i default))) _ ⟨by repeat' (first | exact trivial | refine ⟨.inr rfl, ?_⟩), wkM_self (OO_upd rok_Own (by omega) ?_ ?_ ?_), cl _ _ _, keepB_dom ?_⟩ ⟨hi, by rw [List.length_set]; exact h2, fun j hj => ?_, fun j h6 h7 => ?_⟩ (by simp only; omega)
    · simp only [getM, Nat.reduceEqDiff, reduceIte]
      rw [oRows_put hil (y := mk_Own (k + (cf_Own a i : Nat)) (a.getD i default)) (by simp [Own.row, ownR, ownC, mk_Own, ms_Box6_len, ms_Box6_len, ms_ByteArray_len])]
    · intro p hp hne
      have q1 := uniq_self (oObjs_uniq rok_Own (by omega)) p hp
      have q2 := (oObjs_num rok_Own (by omega) hp).1
      have q3 : ∀ c, c < 1000 → (p.1 = fam c i) = False := fun c hc => by have := hne c hc; rw [Nat.zero_add] at this; simp [this]
      have q4 : (p.1 = 3) = False := by simp; omega
      simp only [getM, getM_setM, q4, if_false, q3 13 (by omega), q3 15 (by omega), q3 16 (by omega), q1]
    · intro j v' sz xs hj
      rw [Nat.zero_add]
      have hj2 := col_lt hj
      rw [rok_Own.len] at hj2
      have cases : j = 0 ∨ j = 1 ∨ j = 2 ∨ j = 3 ∨ j = 4 ∨ j = 5 ∨ j = 6 ∨ j = 7 ∨ j = 8 ∨ j = 9 ∨ j = 10 := by omega
      rcases cases with rfl | rfl | rfl | rfl | rfl | rfl | rfl | rfl | rfl | rfl | rfl
      all_goals first
        | (cases hj; done)
        | (cases hj; simp [getM, getM_setM, fam_ne, fam_ne', fam_eqF, esOwn, mk_Own, hg0]; done)
        | (simp [Own.row, mk_Own] at hj; obtain ⟨rfl, rfl, rfl⟩ := hj; simp [getM, getM_setM, fam_ne, fam_ne', fam_eqF, esOwn]; done)
        | (simp [Own.row, mk_Own] at hj; done)
        | trace_state
    · have q0 : ∀ x, dom ((3, x) :: oObjs esOwn (Own.row 0) 7 0 l) = dom (OO 3 71 v 11 esOwn (Own.row 0) 7 0 l) := fun x => rfl
      have qm : ∀ j v' sz xs, ((Own.row 0) (l.getD i default))[j]? = some (.sl v' sz xs) → fam (7 + j) i ∈ dom (oObjs esOwn (Own.row 0) 7 0 l) := fun j v' sz xs hj => by
        have := mem_dom (oObjs_mem (es := esOwn) (k := 7) (i0 := 0) (p := (fam (7 + j) (0 + i), .arr (esOwn j) v' sz xs)).2 ⟨i, j, v', sz, xs, hil, hj, rfl⟩)
        rw [Nat.zero_add] at this
        exact this
      have qm0 : fam 13 i ∈ dom (oObjs esOwn (Own.row 0) 7 0 l) := qm 6 _ _ _ (by rw [hli]; rfl)
      have qm1 : fam 15 i ∈ dom (oObjs esOwn (Own.row 0) 7 0 l) := qm 8 _ _ _ (by rw [hli]; rfl)
      have qm2 : fam 16 i ∈ dom (oObjs esOwn (Own.row 0) 7 0 l) := qm 9 _ _ _ (by rw [hli]; rfl)
      have qd : dom (OO 3 71 v 11 esOwn (Own.row 0) 7 0 (l.set i (mk_Own (k + (cf_Own a i : Nat)) (a.getD i default)))) = dom (OO 3 71 v 11 esOwn (Own.row 0) 7 0 l) := OO_dom dsh hd1
      rw [qd, ← q0 .gone]
      simp only [dom, List.map_cons, List.cons.injEq, true_and]
      have qs := fun (M : List (Nat × AObj)) (o : Nat) (x : AObj) (h : o ∈ dom M) => dom_setM (M := M) (o := o) (x := x) h
      simp only [dom] at qs qm0 qm1 qm2 ⊢
      simp (config := { maxDischargeDepth := 8 }) only [qs, qm0, qm1, qm2]
    · simp only at hj ⊢
      by_cases e : j = i
      · subst e; exact getD_seti' hil
      · rw [getD_setn' (Ne.symm e)]; exact h3 j (by omega)
    · simp only at h6 ⊢
      rw [getD_setn' (by omega)]; exact h4 j (by omega) h7
  · have hl : l = mo_Own k a := ext_of (by rw [mo_Own_len]; exact h2) fun j hj => by rw [mo_Own_get (by omega)]; exact h3 j (by omega)
    have e : i = a.length := by omega
    subst hl
    subst e
    simp only [OO]
    unfold l_laws_markHandOwnS_0; simp (maxSteps := 2000000) only [bitvec_to_nat, reduceIte, Nat.reduceEqDiff, Nat.reduceAdd, Nat.reduceLeDiff, reduceCtorEq, Nat.reduceBEq, Nat.reduceLT, Nat.reduceMod, fmc, retG_ret, retQ_eq, retQ_eqN, retOk, keepB, re_tupl, orr_t, t_markText, hg0, hg1, hg2, hr0, gsr, List.set_set, el_g1, Int.toNat_natCast, List.length_map, List.length_set, oRows_len, Nat.sub_zero, Nat.zero_add, fam_ne, fam_ne', getM_setM, fam_eqF, ms_Box6_len, ms_Box6_len, ms_ByteArray_len]
    refine ⟨fun h => absurd h (by omega), fun _ => ⟨wkM_self fun p hp => OO_self (o := 3) (e := 71) (v := v) (sz := 11) rok_Own (by omega) (by omega) p (List.mem_cons_of_mem _ hp), OO_refs (o := 3) (v := v) (sz := 11) (e := 71) rok_Own hes_Own, keep_self (M := OO 3 71 v 11 esOwn (Own.row 0) 7 0 (mo_Own k a))⟩⟩
end
end Go.Ve

namespace Go.Ve
noncomputable section
open Go.Proofs
set_option maxRecDepth 100000
open Go.ChangeShapes Go.WideShapes
theorem zk_one {zs : List Zone} (h : zonesOk zs) {i : Nat} (hi : i < zs.length) : zonesOk [zs.getD i default] := zones1.2 (h.2 i hi).1
theorem c_ownBoxesO (t : Nat) (l : List Box6) (hl : l.length ≤ 4294967296) : Contract P 95 [.sl t 6 (l.map Box6.row)] [] (.own 104 0 0 l.length) [(104, .arr 100 0 6 (l.map Box6.row))] := by
  have tkB : List.take l.length (l.map Box6.row) = l.map Box6.row := List.take_of_length_le (by simp)
  refine fn_sound (Env.nil P) hm kO_impl_ownBoxes (nlb rfl) rfl ?_; unfold sO_impl_ownBoxes; simp (maxSteps := 2000000) only [bitvec_to_nat, reduceIte, Nat.reduceEqDiff, Nat.reduceAdd, Nat.reduceLeDiff, reduceCtorEq, Nat.reduceBEq, Nat.reduceLT, Nat.reduceMod, fmc, retG_ret, retQ_eq, retQ_eqN, retOk, keepB, re_tupl, orr_t, bXH, Zone.row, Box6.row, appE, rowsOf, srow, irow, bHX, Word.row, Own.row, Part.row, Seen.row, Book.row, Nat.sub_zero, List.append_nil, tkB]
  repeat' (first | with_reducible apply And.intro | with_reducible intro _)
  all_goals first | omega | rfl | (simp [refsIn, refsInL, dom]; done)
theorem c_partOfO (z : Zone) (t : Nat) (tu : List Box6) (hl : tu.length ≤ 4294967295) (h1 : zonesOk [z]) : Contract P 115 [.agg z.row, .sl t 6 (tu.map Box6.row)] [] (.own 105 (partOf z tu).length 0 (partOf z tu).length) [(105, .arr 100 (partOf z tu).length 6 ((partOf z tu).map Box6.row))] := by
  simp only [Zone.row]
  refine fn_sound ((((Env.nil P).add 101 t_zonesOk h_zonesOk).add 121 t_handBox h_handBox).add 120 t_within h_within) hm kO_impl_HandPartOf (nlb rfl) rfl ?_; unfold sO_impl_HandPartOf; simp (maxSteps := 2000000) only [bitvec_to_nat, reduceIte, Nat.reduceEqDiff, Nat.reduceAdd, Nat.reduceLeDiff, reduceCtorEq, Nat.reduceBEq, Nat.reduceLT, Nat.reduceMod, fmc, retG_ret, retQ_eq, retQ_eqN, retOk, keepB, re_tupl, orr_t, t_zonesOk, t_handBox, t_within, bXH, Zone.row, Box6.row, appE, rowsOf, srow, irow]
  refine ⟨fun _ => ?_, fun h => absurd h1 h⟩
  refine loop_st (fun i : Nat => [(5, .own 105 (kp z tu i).length 0 (kp z tu i).length), (14, .int .i64 i)]) (fun i => [(105, .arr 100 (kp z tu i).length 6 ((kp z tu i).map Box6.row))]) (fun i => i ≤ tu.length ∧ (0 < i → zonesOk [z])) (fun i => tu.length - i) (0) (by simp only [u_E0, u_E1, u_M0, u_M1, w_setE0, w_setE1, w_setM0, w_setM1, reduceIte, Nat.reduceEqDiff]; exact ⟨by repeat' (first | exact trivial | refine ⟨.inr rfl, ?_⟩), by repeat' (first | exact trivial | refine ⟨rfl, ?_⟩), by first | rfl | simp [closedB, refsIn, refsInL, refsInO, dom, refsInL_nr, *], by first | rfl | simp [keepB, dom]⟩) ?_ ?_
  · exact ⟨Nat.zero_le _, by omega⟩
  intro i hi NX hN
  unfold lO_impl_HandPartOf_0; simp (maxSteps := 2000000) only [bitvec_to_nat, reduceIte, Nat.reduceEqDiff, Nat.reduceAdd, Nat.reduceLeDiff, reduceCtorEq, Nat.reduceBEq, Nat.reduceLT, Nat.reduceMod, fmc, retG_ret, retQ_eq, retQ_eqN, retOk, keepB, re_tupl, orr_t, t_zonesOk, t_handBox, t_within, bXH, Zone.row, Box6.row, appE, rowsOf, srow, irow]
  have hk := kp_len z tu i
  have hz := h1
  rw [zones1] at hz
  unfold Zone.ok at hz
  by_cases hlt : i < tu.length
  · refine ⟨fun _ => ?_, fun h => absurd (by omega) h⟩
    repeat' (first | with_reducible apply And.intro | with_reducible intro _)
    all_goals first
      | omega
      | (have e := kp_in (z := z) (show i < tu.length by omega) (by unfold Zone.sees; grind)
         refine hN (i + 1) _ (by simp only [e, List.length_append, List.length_cons, List.length_nil, Nat.zero_add, List.map_append, List.map_cons, List.map_nil, u_E0, u_E1, u_M0, u_M1, w_setE0, w_setE1, w_setM0, w_setM1, reduceIte, Nat.reduceEqDiff]; exact ⟨by repeat' (first | exact trivial | refine ⟨.inr rfl, ?_⟩), by repeat' (first | exact trivial | refine ⟨rfl, ?_⟩), by first | rfl | simp [closedB, refsIn, refsInL, refsInO, dom, refsInL_nr, *], by first | rfl | simp [keepB, dom]⟩) ?_ ?_
         · exact ⟨by omega, fun _ => h1⟩
         · omega)
      | (have e := kp_out (z := z) (show i < tu.length by omega) (by unfold Zone.sees; grind)
         refine hN (i + 1) _ (by simp only [e, List.length_append, List.length_cons, List.length_nil, Nat.zero_add, List.map_append, List.map_cons, List.map_nil, u_E0, u_E1, u_M0, u_M1, w_setE0, w_setE1, w_setM0, w_setM1, reduceIte, Nat.reduceEqDiff]; exact ⟨by repeat' (first | exact trivial | refine ⟨.inr rfl, ?_⟩), by repeat' (first | exact trivial | refine ⟨rfl, ?_⟩), by first | rfl | simp [closedB, refsIn, refsInL, refsInO, dom, refsInL_nr, *], by first | rfl | simp [keepB, dom]⟩) ?_ ?_
         · exact ⟨by omega, fun _ => h1⟩
         · omega)
  · refine ⟨fun h => absurd h (by omega), fun _ => ?_⟩
    have e : i = tu.length := by omega
    subst e
    simp only [kp_end h1]
    repeat' (first | with_reducible apply And.intro | with_reducible intro _)
    all_goals first | rfl | trivial | (simp [refsIn]; done)
def giveW (me : ByteArray) (o : Own) : VW := ⟨0, 5, me, o.dst, o.fl, o.nr, o.la, o.tn, o.tu⟩
def clearW (me : ByteArray) (o : Own) : VW := ⟨0, 7, me, ⟨#[]⟩, o.fl, o.wi, 0, 0, o.nx⟩
def keepW (me : ByteArray) (o : Own) (z : Zone) : VW := ⟨0, 4, me, z.nm, o.fl, o.nr, o.la, 0, []⟩
def askW (me : ByteArray) (o : Own) (z : Zone) : VW := ⟨(partOf z o.nx).length, 1, me, z.nm, o.fl, o.wi, 0, 0, partOf z o.nx⟩
def askP (o : Own) (z : Zone) : Prop := 0 < (partOf z o.nx).length ∧ z.nm ∉ o.gr
instance (o : Own) (z : Zone) : Decidable (askP o z) := by unfold askP; infer_instance
def askL (zs : List Zone) (me : ByteArray) (o : Own) : Nat → List VW
  | 0 => []
  | i + 1 => if askP o (zs.getD i default) then askL zs me o i ++ [askW me o (zs.getD i default)] else askL zs me o i
theorem askL_len {zs : List Zone} {me : ByteArray} {o : Own} : ∀ i, (askL zs me o i).length ≤ i
  | 0 => Nat.le_refl _
  | i + 1 => by
    have := askL_len (zs := zs) (me := me) (o := o) i
    simp only [askL]; split
    · rw [List.length_append]; simp; omega
    · omega
abbrev WordS (o v k i0 : Nat) (l : List VW) : List (Nat × AObj) := OO o 73 v 8 esWord VW.rowO k i0 l
theorem WordO_offs {o e v k q sz i0 : Nat} {a : List VW} (h : q ≠ o) (hq : q < 1000) (hk : k + 8 ≤ 1000) : offs (OO o e v sz esWord VW.rowO k i0 a) q := fun p hp e => by
  have := OO_num rok_VW hk hp; omega
theorem WordO_uniq {o e v k sz i0 : Nat} {a : List VW} (ho : o < 1000) (hk : k + 8 ≤ 1000) : uniq (OO o e v sz esWord VW.rowO k i0 a) := OO_uniq rok_VW hk ho
theorem oneW {o v k : Nat} {w : VW} : WordS o v k 0 [w] = [(o, .arr (1000000 + 73) v 8 [[.int .i64 w.kd, .str w.fr, .str w.dst, .str w.fl, .int .i64 w.nr, .int .i64 w.la, .int .i64 w.tn, .own (fam (k + 7) 0) w.ve 0 w.tu.length]]), (fam (k + 7) 0, .arr 100 w.ve 6 (w.tu.map Box6.row))] := by
  simp [OO, oRows, oObjs, subR, subC, ownR, ownC, VW.rowO, esWord]
set_option maxHeartbeats 2000000 in
theorem c_giveO (me : ByteArray) (o : Own) (ho : o.small) : Contract P 87 [.str me, .agg (o.row 0)] [] (.own 120 0 0 1) (WordS 120 0 150 0 [giveW me o]) := by
  have tkB : True := trivial
  unfold Own.small at ho
  have hB := (c_ownBoxesO 0 o.tu (by omega)).ren (swp 104 (fam 157 0)) (swp_swp _ _)
  simp only [renL, ren, renM, renO, swp, reduceIte, Nat.reduceLT] at hB
  simp only [oneW, giveW, Own.row]
  refine fn_sound (Env.nil P) hm kO_impl_give (nlb rfl) rfl ?_; unfold sO_impl_give; simp (maxSteps := 2000000) only [bitvec_to_nat, reduceIte, Nat.reduceEqDiff, Nat.reduceAdd, Nat.reduceLeDiff, reduceCtorEq, Nat.reduceBEq, Nat.reduceLT, Nat.reduceMod, fmc, retG_ret, retQ_eq, retQ_eqN, retOk, keepB, re_tupl, orr_t, bXH, Zone.row, Box6.row, appE, rowsOf, srow, irow, bHX, Word.row, Own.row, Part.row, Seen.row, Book.row, Nat.sub_zero, List.append_nil, fam_ne, fam_ne', fam_eqF, fam_eqI, tkB]
  refine ⟨_, _, .inr (.inr (.inl ⟨_, rfl, hB, by simp [getM, fam_ne], by simp [refsIn, refsInL, dom], rfl, by simp [No99], by simp [No99O, no99_box]⟩)), ?_⟩
  simp (maxSteps := 2000000) only [bitvec_to_nat, reduceIte, Nat.reduceEqDiff, Nat.reduceAdd, Nat.reduceLeDiff, reduceCtorEq, Nat.reduceBEq, Nat.reduceLT, Nat.reduceMod, fmc, retG_ret, retQ_eq, retQ_eqN, retOk, keepB, re_tupl, orr_t, bXH, Zone.row, Box6.row, appE, rowsOf, srow, irow, bHX, Word.row, Own.row, Part.row, Seen.row, Book.row, Nat.sub_zero, List.append_nil, fam_ne, fam_ne', fam_eqF, fam_eqI, tkB]
  repeat' (first | with_reducible apply And.intro | with_reducible intro _)
  all_goals first | omega | rfl | (simp [refsIn, refsInL, dom]; done) | trace_state
set_option maxHeartbeats 2000000 in
theorem c_clearO (me : ByteArray) (o : Own) (ho : o.small) : Contract P 88 [.str me, .agg (o.row 0)] [] (.own 114 0 0 1) (WordS 114 0 150 0 [clearW me o]) := by
  have tkB : True := trivial
  unfold Own.small at ho
  have hB := (c_ownBoxesO 0 o.nx (by omega)).ren (swp 104 (fam 157 0)) (swp_swp _ _)
  simp only [renL, ren, renM, renO, swp, reduceIte, Nat.reduceLT] at hB
  simp only [oneW, clearW, Own.row]
  refine fn_sound (Env.nil P) hm kO_impl_clearOf (nlb rfl) rfl ?_; unfold sO_impl_clearOf; simp (maxSteps := 2000000) only [bitvec_to_nat, reduceIte, Nat.reduceEqDiff, Nat.reduceAdd, Nat.reduceLeDiff, reduceCtorEq, Nat.reduceBEq, Nat.reduceLT, Nat.reduceMod, fmc, retG_ret, retQ_eq, retQ_eqN, retOk, keepB, re_tupl, orr_t, bXH, Zone.row, Box6.row, appE, rowsOf, srow, irow, bHX, Word.row, Own.row, Part.row, Seen.row, Book.row, Nat.sub_zero, List.append_nil, fam_ne, fam_ne', fam_eqF, fam_eqI, tkB]
  refine ⟨_, _, .inr (.inr (.inl ⟨_, rfl, hB, by simp [getM, fam_ne], by simp [refsIn, refsInL, dom], rfl, by simp [No99], by simp [No99O, no99_box]⟩)), ?_⟩
  simp (maxSteps := 2000000) only [bitvec_to_nat, reduceIte, Nat.reduceEqDiff, Nat.reduceAdd, Nat.reduceLeDiff, reduceCtorEq, Nat.reduceBEq, Nat.reduceLT, Nat.reduceMod, fmc, retG_ret, retQ_eq, retQ_eqN, retOk, keepB, re_tupl, orr_t, bXH, Zone.row, Box6.row, appE, rowsOf, srow, irow, bHX, Word.row, Own.row, Part.row, Seen.row, Book.row, Nat.sub_zero, List.append_nil, fam_ne, fam_ne', fam_eqF, fam_eqI, tkB]
  repeat' (first | with_reducible apply And.intro | with_reducible intro _)
  all_goals first | omega | rfl | (simp [refsIn, refsInL, dom]; done) | trace_state
set_option maxHeartbeats 4000000 in
theorem c_asksO (t : Nat) (zs : List Zone) (me : ByteArray) (o : Own) (ho : o.small) (hz : zonesOk zs) (hzl : zs.length ≤ 1048576) : Contract P 89 [.sl t 5 (zs.map Zone.row), .str me, .agg (o.row 0)] [] (.own 107 (askL zs me o zs.length).length 0 (askL zs me o zs.length).length) (WordS 107 (askL zs me o zs.length).length 150 0 (askL zs me o zs.length)) := by
  have tkB : True := trivial
  have tkW : True := trivial
  have hs1 : True := trivial
  have hs2 : True := trivial
  have hs3 : True := trivial
  have bA : True := trivial
  unfold Own.small at ho
  have cl : ∀ (i : Nat) (l : List VW), closedB ⟨[(1, .str me), (5, .ptr 105 0), (7, .own 107 l.length 0 l.length), (11, .sl t 5 (zs.map Zone.row)), (12, .int .i64 (zs.length : Nat)), (13, .int .i64 (i : Nat))], (105, .box (o.row 0)) :: WordS 107 l.length 150 0 l⟩ = true := fun i l => by
    simp only [closedB, List.all_cons, Bool.and_eq_true]
    refine ⟨⟨rfl, by simp [refsIn, dom], by simp [refsIn, dom, OO], rfl, rfl, rfl, rfl⟩, by simp [refsInO, Own.row, refsInL, refsIn], ?_⟩
    exact OO_refsD rok_VW hes_Word fun p hp => List.mem_cons_of_mem _ (mem_dom (List.mem_cons_of_mem _ hp))
  simp only [Own.row] at cl ⊢
  refine fn_sound ((Env.nil P).add 116 t_ContainsS h_ContainsS) hm kO_impl_asks (nlb rfl) rfl ?_; unfold sO_impl_asks; simp (maxSteps := 2000000) only [bitvec_to_nat, reduceIte, Nat.reduceEqDiff, Nat.reduceAdd, Nat.reduceLeDiff, reduceCtorEq, Nat.reduceBEq, Nat.reduceLT, Nat.reduceMod, fmc, retG_ret, retQ_eq, retQ_eqN, retOk, keepB, re_tupl, orr_t, t_ContainsS, bXH, Zone.row, Box6.row, appE, rowsOf, srow, irow, bHX, Word.row, Own.row, Part.row, Seen.row, Book.row, Nat.sub_zero, List.append_nil, fam_ne, fam_ne', fam_eqF, fam_eqI, tkB, hs1, hs2, hs3, tkW, gB, gB0, sB, sB0, bA, oRows_len, List.append_assoc, List.cons_append, List.nil_append]
  refine loop_F (fun i : Nat => ⟨[(1, .str me), (5, .ptr 105 0), (7, .own 107 (askL zs me o i).length 0 (askL zs me o i).length), (11, .sl t 5 (zs.map Zone.row)), (12, .int .i64 (zs.length : Nat)), (13, .int .i64 i)], (105, .box (o.row 0)) :: WordS 107 (askL zs me o i).length 150 0 (askL zs me o i)⟩) (fun i => i ≤ zs.length) (fun i => zs.length - i) 0 ?_ (Nat.zero_le _) ?_
  · exact ⟨by repeat' (first | exact trivial | refine ⟨.inr rfl, ?_⟩), ⟨rfl, rfl, trivial⟩, cl 0 [], by simp [keepB, dom]⟩
  intro i hi NX hN
  have hle := askL_len (zs := zs) (me := me) (o := o) i
  have bA : bigs (oObjs esWord VW.rowO 150 0 (askL zs me o i)) := bigs_oObjs
  have tkW : (oRows VW.rowO 150 0 (askL zs me o i)).take (askL zs me o i).length = oRows VW.rowO 150 0 (askL zs me o i) := oRows_take
  by_cases h : i < zs.length
  · have hpl := part_len (zs.getD i default) o.nx
    have hP := (c_partOfO (zs.getD i default) 0 o.nx (by omega) (zk_one hz h)).ren (swp 105 (fam 157 (askL zs me o i).length)) (swp_swp _ _)
    simp only [renL, ren, renM, renO, swp, reduceIte, Nat.reduceLT, Zone.row] at hP
    have hnw : getM (oObjs esWord VW.rowO 150 0 (askL zs me o i)) (fam 157 (askL zs me o i).length) = none := oObjs_new rok_VW (by omega) (by omega) (by omega)
    have hs1 : ∀ (B : List (Nat × AObj)) (x : AObj), setM (oObjs esWord VW.rowO 150 0 (askL zs me o i) ++ B) (fam 157 (askL zs me o i).length) x = oObjs esWord VW.rowO 150 0 (askL zs me o i) ++ setM B (fam 157 (askL zs me o i).length) x := fun B x => setM_app hnw
    have hs3 : ∀ (x : AObj), setM (oObjs esWord VW.rowO 150 0 (askL zs me o i)) (fam 157 (askL zs me o i).length) x = oObjs esWord VW.rowO 150 0 (askL zs me o i) ++ [(fam 157 (askL zs me o i).length, x)] := fun x => setM_new hnw
    have hs2 : ∀ (B : List (Nat × AObj)), getM (oObjs esWord VW.rowO 150 0 (askL zs me o i) ++ B) (fam 157 (askL zs me o i).length) = getM B (fam 157 (askL zs me o i).length) := fun B => getM_app_none hnw
    simp only [OO, Own.row]
    unfold lO_impl_asks_0; simp (maxSteps := 2000000) only [bitvec_to_nat, reduceIte, Nat.reduceEqDiff, Nat.reduceAdd, Nat.reduceLeDiff, reduceCtorEq, Nat.reduceBEq, Nat.reduceLT, Nat.reduceMod, fmc, retG_ret, retQ_eq, retQ_eqN, retOk, keepB, re_tupl, orr_t, t_ContainsS, bXH, Zone.row, Box6.row, appE, rowsOf, srow, irow, bHX, Word.row, Own.row, Part.row, Seen.row, Book.row, Nat.sub_zero, List.append_nil, fam_ne, fam_ne', fam_eqF, fam_eqI, tkB, hs1, hs2, hs3, tkW, gB, gB0, sB, sB0, bA, oRows_len, List.append_assoc, List.cons_append, List.nil_append]
    refine ⟨fun _ => ?_, fun h' => absurd (by omega) h'⟩
    repeat (refine ⟨by first | omega | rfl, ?_⟩)
    refine ⟨_, _, .inr (.inr (.inl ⟨_, rfl, hP, by simp [getM, getM_append, fam_ne, fam_ne', hnw], by simp [refsIn, refsInL, dom], rfl, by simp [No99], by simp [No99O, no99_box]⟩)), ?_⟩
    simp (maxSteps := 2000000) only [bitvec_to_nat, reduceIte, Nat.reduceEqDiff, Nat.reduceAdd, Nat.reduceLeDiff, reduceCtorEq, Nat.reduceBEq, Nat.reduceLT, Nat.reduceMod, fmc, retG_ret, retQ_eq, retQ_eqN, retOk, keepB, re_tupl, orr_t, t_ContainsS, bXH, Zone.row, Box6.row, appE, rowsOf, srow, irow, bHX, Word.row, Own.row, Part.row, Seen.row, Book.row, Nat.sub_zero, List.append_nil, fam_ne, fam_ne', fam_eqF, fam_eqI, tkB, hs1, hs2, hs3, tkW, gB, gB0, sB, sB0, bA, oRows_len, List.append_assoc, List.cons_append, List.nil_append]
    have wmE : ∀ B : List (Nat × AObj), wkM ((105, .box (o.row 0)) :: (107, .arr 1000073 (askL zs me o i).length 8 (oRows VW.rowO 150 0 (askL zs me o i))) :: (oObjs esWord VW.rowO 150 0 (askL zs me o i) ++ B)) ((105, .box (o.row 0)) :: WordS 107 (askL zs me o i).length 150 0 (askL zs me o i)) := fun B => ⟨rfl, rfl, wkM_self (getK_cons (oObjs_offs rok_VW (by omega) (by omega)) (getK_cons (oObjs_offs rok_VW (by omega) (by omega)) (oObjs_self rok_VW (by omega))))⟩
    refine ⟨fun h1 => ⟨by omega, fun h2 => ⟨⟨by omega, by omega⟩, ?_⟩, fun h2 => ⟨by omega, ⟨by omega, by omega⟩, ?_⟩⟩, fun h1 => ⟨⟨by omega, by omega⟩, ?_⟩⟩
    · have hq : askL zs me o (i + 1) = askL zs me o i := if_neg (fun h3 => h3.2 h2)
      refine hN (i + 1) _ ⟨by simp only [hq]; repeat' (first | exact trivial | refine ⟨.inr rfl, ?_⟩), by simp only [hq]; exact wmE _, cl (i + 1) _, keep_big (by repeat' (first | exact big100_nil | refine big100_app (big100_oObjs rok_VW (by omega) (by omega)) ?_ | refine big100_cons (by first | omega | (rw [fam_mod (by omega)]; omega)) ?_ | exact big100_oObjs rok_VW (by omega) (by omega)))⟩ h (by omega)
    · have hq : askL zs me o (i + 1) = askL zs me o i ++ [askW me o (zs.getD i default)] := if_pos ⟨by omega, h2⟩
      have hl : (askL zs me o (i + 1)).length = (askL zs me o i).length + 1 := by rw [hq]; simp
      refine hN (i + 1) _ ⟨by simp only [hl]; repeat' (first | exact trivial | refine ⟨.inr rfl, ?_⟩), ⟨rfl, ?_, ?_⟩, cl (i + 1) _, keep_big (by repeat' (first | exact big100_nil | refine big100_app (big100_oObjs rok_VW (by omega) (by omega)) ?_ | refine big100_cons (by first | omega | (rw [fam_mod (by omega)]; omega)) ?_ | exact big100_oObjs rok_VW (by omega) (by omega)))⟩ h (by omega)
      · simp only [getM, Nat.reduceEqDiff, reduceIte, hl]; rw [hq, oRows_snoc, Nat.zero_add]; simp [ownR, ownC, VW.rowO, askW]
      · rw [hq, oObjs_snoc, Nat.zero_add]
        refine wkM_app.2 ⟨wkM_self (getK_cons (oObjs_offs rok_VW (by omega) (by omega)) (getK_cons (oObjs_offs rok_VW (by omega) (by omega)) (oObjs_self rok_VW (by omega)))), ?_⟩
        exact ⟨by simp only [getM, fam_ne, fam_ne', Nat.reduceLT, if_false]; rw [hs2]; simp [getM, fam_ne, askW, esWord], trivial⟩
    · have hq : askL zs me o (i + 1) = askL zs me o i := if_neg (fun h3 => h1 (by have := h3.1; omega))
      refine hN (i + 1) _ ⟨by simp only [hq]; repeat' (first | exact trivial | refine ⟨.inr rfl, ?_⟩), by simp only [hq]; exact wmE _, cl (i + 1) _, keep_big (by repeat' (first | exact big100_nil | refine big100_app (big100_oObjs rok_VW (by omega) (by omega)) ?_ | refine big100_cons (by first | omega | (rw [fam_mod (by omega)]; omega)) ?_ | exact big100_oObjs rok_VW (by omega) (by omega)))⟩ h (by omega)
  · have e : i = zs.length := by omega
    subst e
    simp only [OO, Own.row]
    unfold lO_impl_asks_0; simp (maxSteps := 2000000) only [bitvec_to_nat, reduceIte, Nat.reduceEqDiff, Nat.reduceAdd, Nat.reduceLeDiff, reduceCtorEq, Nat.reduceBEq, Nat.reduceLT, Nat.reduceMod, fmc, retG_ret, retQ_eq, retQ_eqN, retOk, keepB, re_tupl, orr_t, t_ContainsS, bXH, Zone.row, Box6.row, appE, rowsOf, srow, irow, bHX, Word.row, Own.row, Part.row, Seen.row, Book.row, Nat.sub_zero, List.append_nil, fam_ne, fam_ne', fam_eqF, fam_eqI, tkB, hs1, hs2, hs3, tkW, gB, gB0, sB, sB0, bA, oRows_len, List.append_assoc, List.cons_append, List.nil_append]
    refine ⟨fun h' => absurd h' (by omega), fun _ => ⟨wkM_self fun p hp => getK_cons (o := 105) (WordO_offs (by omega) (by omega) (by omega)) (OO_self (o := 107) (e := 73) (v := (askL zs me o zs.length).length) (sz := 8) rok_VW (by omega) (by omega)) p (List.mem_cons_of_mem _ hp), OO_refs (o := 107) (v := (askL zs me o zs.length).length) (sz := 8) (e := 73) rok_VW hes_Word, by simp [refsIn], ?_⟩⟩
    simp only [Bool.true_or, Bool.true_and]
    exact big_all (big100_oObjs rok_VW (by omega) (by omega))
def keepR (me : ByteArray) (o : Own) (z : Zone) : List AV := [.int .i64 4, .str me, .str z.nm, .str o.fl, .int .i64 o.nr, .int .i64 o.la, .int .i64 0, .sl 98 6 []]
theorem map_take_s {α β : Type} [Inhabited α] {g : α → β} {l : List α} {i : Nat} (h : i < l.length) : (l.take (i + 1)).map g = (l.take i).map g ++ [g (l.getD i default)] := by
  rw [List.take_succ_eq_append_getElem h, List.map_append]; simp [h]
theorem c_keeps0 (t : Nat) (zs : List Zone) (me : ByteArray) (o : Own) (hl : o.la = 0) : Contract P 90 [.sl t 5 (zs.map Zone.row), .str me, .agg (o.row 0)] [] (.sl 98 8 []) [] := by
  have hst : True := trivial
  have tkB : True := trivial
  simp only [Own.row]
  refine fn_sound (Env.nil P) hm kO_impl_keeps (nlb rfl) rfl ?_; unfold sO_impl_keeps; simp (maxSteps := 2000000) only [bitvec_to_nat, reduceIte, Nat.reduceEqDiff, Nat.reduceAdd, Nat.reduceLeDiff, reduceCtorEq, Nat.reduceBEq, Nat.reduceLT, Nat.reduceMod, fmc, retG_ret, retQ_eq, retQ_eqN, retOk, keepB, re_tupl, orr_t, bXH, Zone.row, Box6.row, appE, rowsOf, srow, irow, bHX, Word.row, Own.row, Part.row, Seen.row, Book.row, Nat.sub_zero, List.append_nil, fam_ne, fam_ne', fam_eqF, fam_eqI, tkB, hst, appE]
  exact fun h => absurd hl h
set_option maxHeartbeats 4000000 in
theorem c_keeps1 (t : Nat) (zs : List Zone) (me : ByteArray) (o : Own) (hl : o.la ≠ 0) (hzl : zs.length ≤ 1048576) : Contract P 90 [.sl t 5 (zs.map Zone.row), .str me, .agg (o.row 0)] [] (.own 107 zs.length 0 zs.length) [(107, .arr (1000000 + 73) zs.length 8 (zs.map (keepR me o)))] := by
  have hst : True := trivial
  have tkB : True := trivial
  simp only [Own.row]
  refine fn_sound (Env.nil P) hm kO_impl_keeps (nlb rfl) rfl ?_; unfold sO_impl_keeps; simp (maxSteps := 2000000) only [bitvec_to_nat, reduceIte, Nat.reduceEqDiff, Nat.reduceAdd, Nat.reduceLeDiff, reduceCtorEq, Nat.reduceBEq, Nat.reduceLT, Nat.reduceMod, fmc, retG_ret, retQ_eq, retQ_eqN, retOk, keepB, re_tupl, orr_t, bXH, Zone.row, Box6.row, appE, rowsOf, srow, irow, bHX, Word.row, Own.row, Part.row, Seen.row, Book.row, Nat.sub_zero, List.append_nil, fam_ne, fam_ne', fam_eqF, fam_eqI, tkB, hst, appE]
  refine ⟨fun h => absurd h hl, fun _ => ?_⟩
  refine loop_st (fun i : Nat => [(7, .own 107 i 0 i), (15, .int .i64 i)]) (fun i => [(107, .arr (1000000 + 73) i 8 ((zs.take i).map (keepR me o)))]) (fun i => i ≤ zs.length) (fun i => zs.length - i) 0 (by simp only [u_E0, u_E1, u_M0, u_M1, w_setE0, w_setE1, w_setM0, w_setM1, reduceIte, Nat.reduceEqDiff]; exact ⟨by repeat' (first | exact trivial | refine ⟨.inr rfl, ?_⟩), by repeat' (first | exact trivial | refine ⟨rfl, ?_⟩), by first | rfl | simp [closedB, refsIn, refsInL, refsInO, dom, refsInL_nr, *], by first | rfl | simp [keepB, dom]⟩) (Nat.zero_le _) ?_
  intro i hi NX hN
  have hst : List.take i ((zs.take i).map (keepR me o)) = (zs.take i).map (keepR me o) := List.take_of_length_le (by simp; omega)
  unfold lO_impl_keeps_0; simp (maxSteps := 2000000) only [bitvec_to_nat, reduceIte, Nat.reduceEqDiff, Nat.reduceAdd, Nat.reduceLeDiff, reduceCtorEq, Nat.reduceBEq, Nat.reduceLT, Nat.reduceMod, fmc, retG_ret, retQ_eq, retQ_eqN, retOk, keepB, re_tupl, orr_t, bXH, Zone.row, Box6.row, appE, rowsOf, srow, irow, bHX, Word.row, Own.row, Part.row, Seen.row, Book.row, Nat.sub_zero, List.append_nil, fam_ne, fam_ne', fam_eqF, fam_eqI, tkB, hst, appE]
  refine ⟨fun h => ?_, fun h => ?_⟩
  · repeat (refine ⟨by first | omega | rfl, ?_⟩)
    refine hN (i + 1) _ ⟨by repeat' (first | exact trivial | refine ⟨.inr rfl, ?_⟩), ⟨rfl, ?_, trivial⟩, ?_, by simp only [u_M0, u_M1, w_setM0, w_setM1, reduceIte, Nat.reduceEqDiff]; simp [keepB, dom]⟩ (by omega) (by omega)
    · simp only [u_M0, u_M1, getM, Nat.reduceEqDiff, reduceIte, map_take_s (show i < zs.length by omega)]; rfl
    · simp [closedB, refsIn, refsInL, refsInO, dom, u_E0, u_E1, u_M0, u_M1, w_setE0, w_setE1, w_setM0, w_setM1]
      intro x hx
      obtain ⟨z, _, rfl⟩ := List.mem_map.1 (List.mem_of_mem_take hx)
      rfl
  · have e : i = zs.length := by omega
    subst e
    simp only [List.take_length]
    repeat' (first | with_reducible apply And.intro | with_reducible intro _)
    all_goals first | rfl | trivial | (simp [refsIn, refsInL, refsInO, keepR, dom]; done) | trace_state
theorem c_keepsO (t : Nat) (zs : List Zone) (me : ByteArray) (o : Own) (hl : o.la ≠ 0) (hzl : zs.length ≤ 1048576) : Contract P 90 [.sl t 5 (zs.map Zone.row), .str me, .agg (o.row 0)] [] (.own 107 zs.length 0 zs.length) (WordS 107 zs.length 150 0 (zs.map (keepW me o))) := by
  have h := c_keeps1 t zs me o hl hzl
  have h2 := h.nil_rows (f := fun z => VW.rowO (keepW me o z)) (c := 7) (s := 6) (k := 150) (n := 8) (es := esWord) ⟨fun x => rfl, fun x => rok_VW.sim _⟩ (by omega) (by omega) (by omega) (fun x => rfl) (fun x i => rfl) (fun x i => rfl)
  rw [OO_map] at h2
  exact h2
end
end Go.Ve

namespace Go.Ve
noncomputable section
open Go.Proofs
set_option maxRecDepth 100000
open Go.ChangeShapes Go.WideShapes
theorem renW {fn : FuncId} {args : List AV} {ob v : Nat} {l : List VW} (n0 : Nat) (h : Contract P fn args [] (.own ob v 0 l.length) (WordS ob v 150 0 l)) (ha : norefL args = true) (hb : ob < 1000) :
    Contract P fn args [] (.own 161 v 0 l.length) (WordS 161 v 130 n0 l).reverse := by
  have h1 := (h.ren (swp ob 161) (swp_swp _ _)).ren (swpS 150 130 8 n0) (swpS_swpS (by omega) (by omega) (by omega))
  have e1 : swpS 150 130 8 n0 (swp ob 161 ob) = 161 := by rw [show swp ob 161 ob = 161 from by simp [swp], swpS_lt (by omega)]
  rw [renL_nr _ _ ha, renL_nr _ _ ha, OO_ren (k' := 150) (i1 := 0) rok_VW hes_Word (fun j i hj => swp_fam hb (by omega)), OO_ren (k' := 130) (i1 := n0) rok_VW hes_Word (fun j i hj => swpS_at (by omega) hj)] at h1
  simp only [ren, renM, e1] at h1
  exact h1.post_eq (funext fun o => getM_rev (OO_uniq rok_VW (by omega) (by omega)) o)
def agW (zs : List Zone) (me : ByteArray) (o : Own) : List VW := if o.st = 2 then [giveW me o] else if o.sent = true then [clearW me o] else if 0 < o.wi then askL zs me o zs.length else if o.st = 1 then (if o.la = 0 then [] else zs.map (keepW me o)) else []
def agC (o : Own) : Nat := if o.st = 2 then 1 else if o.sent = true then 1 else if 0 < o.wi then 1 else if o.st = 1 then 1 else 0
def agL (zs : List Zone) (me : ByteArray) (l : List Own) : Nat → List VW
  | 0 => []
  | i + 1 => agL zs me l i ++ agW zs me (l.getD i default)
def agV (l : List Own) : Nat → Nat
  | 0 => 0
  | i + 1 => agV l i + agC (l.getD i default)
theorem agW_len {zs : List Zone} {me : ByteArray} {o : Own} : (agW zs me o).length ≤ zs.length + 1 := by
  have := askL_len (zs := zs) (me := me) (o := o) zs.length
  unfold agW; split
  · simp
  · split
    · simp
    · split
      · omega
      · split
        · split <;> simp
        · simp
theorem agL_len {zs : List Zone} {me : ByteArray} {l : List Own} : ∀ i, (agL zs me l i).length ≤ i * (zs.length + 1)
  | 0 => by simp [agL]
  | i + 1 => by
    have h1 := agL_len (zs := zs) (me := me) (l := l) i
    have h2 := agW_len (zs := zs) (me := me) (o := l.getD i default)
    simp only [agL, List.length_append]
    rw [Nat.add_mul]; omega
theorem agV_le {l : List Own} : ∀ i, agV l i ≤ i
  | 0 => Nat.le_refl _
  | i + 1 => by
    have h1 := agV_le (l := l) i
    simp only [agV]
    have : agC (l.getD i default) ≤ 1 := by unfold agC; split <;> (try split) <;> (try split) <;> (try split) <;> omega
    omega
theorem WordB_offs {k q i0 : Nat} {a : List VW} (hq : q < 1000) (hk : k + 8 ≤ 1000) : offs (oObjs esWord VW.rowO k i0 a) q := oObjs_offs rok_VW hk hq
set_option maxHeartbeats 4000000 in
theorem c_againO (t : Nat) (zs : List Zone) (me : ByteArray) (b : Book) (hb : b.small) (hz : zonesOk zs) (hzl : zs.length ≤ 1000) (hbl : b.own.length ≤ 1000) : Contract P 46 [.agg (b.row 0), .sl t 5 (zs.map Zone.row), .str me] [] (.own 107 (agV b.own b.own.length) 0 (agL zs me b.own b.own.length).length) (WordS 107 (agV b.own b.own.length) 130 0 (agL zs me b.own b.own.length)) := by
  have d1 : True := trivial
  have tkW : True := trivial
  have tkN : True := trivial
  have hsn : True := trivial
  unfold Book.small at hb
  have cl : ∀ (i v : Nat) (l : List VW), closedB ⟨[(1, .sl t 5 (zs.map Zone.row)), (2, .str me), (7, .own 107 v 0 l.length), (11, .sl 0 11 (b.own.map (Own.row 0))), (12, .int .i64 (b.own.length : Nat)), (13, .int .i64 (i : Nat))], WordS 107 v 130 0 l⟩ = true := fun i v l => by
    simp only [closedB, List.all_cons, Bool.and_eq_true]
    exact ⟨⟨rfl, rfl, by simp [refsIn, dom, OO], rfl, rfl, rfl, rfl⟩, OO_refs rok_VW hes_Word⟩
  simp only [Book.row]
  refine fn_sound (Env.nil P) hm kO_impl_HandBook_again (nlb rfl) rfl ?_; unfold sO_impl_HandBook_again; simp (maxSteps := 2000000) (maxDischargeDepth := 8) only [bitvec_to_nat, reduceIte, Nat.reduceEqDiff, Nat.reduceAdd, Nat.reduceLeDiff, reduceCtorEq, Nat.reduceBEq, Nat.reduceLT, Nat.reduceMod, fmc, retG_ret, retQ_eq, retQ_eqN, retOk, keepB, re_tupl, orr_t, bXH, Zone.row, Box6.row, appE, rowsOf, srow, irow, bHX, Word.row, Own.row, Part.row, Seen.row, Book.row, Nat.sub_zero, List.append_nil, oRows_len, offs_getA, offs_get, offs_setA, offs_set, ap_cons, ap_skip, ap_skip0, ap_new, ap_appU, offs_rev, WordO_offs, WordB_offs, WordO_uniq, List.cons_append, List.nil_append, List.append_assoc, dis_revR, d1, OO_get, OO_getA, tkW, tkN, hsn]
  refine loop_F (fun i : Nat => ⟨[(1, .sl t 5 (zs.map Zone.row)), (2, .str me), (7, .own 107 (agV b.own i) 0 (agL zs me b.own i).length), (11, .sl 0 11 (b.own.map (Own.row 0))), (12, .int .i64 (b.own.length : Nat)), (13, .int .i64 i)], WordS 107 (agV b.own i) 130 0 (agL zs me b.own i)⟩) (fun i => i ≤ b.own.length) (fun i => b.own.length - i) 0 ?_ (Nat.zero_le _) ?_
  · exact ⟨by repeat' (first | exact trivial | refine ⟨.inr rfl, ?_⟩), ⟨rfl, trivial⟩, cl 0 0 [], by simp [keepB, dom]⟩
  intro i hi NX hN
  have hll := agL_len (zs := zs) (me := me) (l := b.own) i
  have hvl := agV_le (l := b.own) i
  have tkW : (oRows VW.rowO 130 0 (agL zs me b.own i)).take (agL zs me b.own i).length = oRows VW.rowO 130 0 (agL zs me b.own i) := oRows_take
  have tkN : ∀ (n : Nat) (l : List VW), (oRows VW.rowO 130 n l).take l.length = oRows VW.rowO 130 n l := fun n l => oRows_take
  have hmul : i * (zs.length + 1) ≤ 1000 * 1001 := Nat.mul_le_mul (by omega) (by omega)
  have d1 : ∀ (v : Nat) (l : List VW), dis (oObjs esWord VW.rowO 130 0 (agL zs me b.own i)) (WordS 161 v 130 (agL zs me b.own i).length l) := fun v l p hp q hq e => by
    obtain ⟨i1, j1, v1, s1, x1, h1, h2, rfl⟩ := oObjs_mem.1 hp
    have hj1 := col_lt h2
    rw [rok_VW.len] at hj1
    rcases OO_mem hq with rfl | hq
    · simp only [fam] at e; omega
    · obtain ⟨i2, j2, v2, s2, x2, h3, h4, rfl⟩ := oObjs_mem.1 hq
      have hj2 := col_lt h4
      rw [rok_VW.len] at hj2
      simp only [fam] at e; omega
  by_cases h : i < b.own.length
  · have hx := hb.1.2 _ (getD_mem' h)
    have wr : ∀ p ∈ oObjs esWord VW.rowO 130 0 (agL zs me b.own i), ∀ (x y : AObj) (B : List (Nat × AObj)), getM ((107, x) :: (oObjs esWord VW.rowO 130 0 (agL zs me b.own i) ++ B)) p.1 = some p.2 := fun p hp x y B => getK_cons (WordB_offs (by omega) (by omega)) (oObjs_self rok_VW (by omega)) p hp
    have fin : ∀ (v : Nat) (L' : List VW) (x : AObj), agL zs me b.own (i + 1) = agL zs me b.own i ++ L' → agV b.own (i + 1) = agV b.own i + 1 → NX ⟨[(1, .sl t 5 (zs.map Zone.row)), (2, .str me), (7, .own 107 (agV b.own i + 1) 0 ((agL zs me b.own i).length + L'.length)), (11, .sl 0 11 (b.own.map (Own.row 0))), (12, .int .i64 (b.own.length : Nat)), (13, .int .i64 ((i : Int) + 1))],
        (107, .arr 1000073 (agV b.own i + 1) 8 (oRows VW.rowO 130 0 (agL zs me b.own i) ++ oRows VW.rowO 130 (agL zs me b.own i).length L')) :: (oObjs esWord VW.rowO 130 0 (agL zs me b.own i) ++ (109, x) :: WordS 161 v 130 (agL zs me b.own i).length L')⟩ := fun v L' x hq hv => by
      have hl : (agL zs me b.own (i + 1)).length = (agL zs me b.own i).length + L'.length := by rw [hq, List.length_append]
      refine hN (i + 1) _ ⟨by simp only [hl, hv]; repeat' (first | exact trivial | refine ⟨.inr rfl, ?_⟩), ⟨?_, ?_⟩, cl (i + 1) _ _, ?_⟩ h (by omega)
      · simp only [getM, if_true, hv, hq, oRows_app, Nat.zero_add]
      · rw [hq, oObjs_app, Nat.zero_add]
        refine wkM_app.2 ⟨wkM_self fun p hp => wr p hp _ .gone _, wkM_self fun p hp => ?_⟩
        have q1 := OO_self (o := 161) (e := 73) (v := v) (sz := 8) (es := esWord) (k := 130) (i0 := (agL zs me b.own i).length) (a := L') rok_VW (by omega) (by omega) p (List.mem_cons_of_mem _ hp)
        have q2 := (oObjs_num rok_VW (by omega) hp).1
        simp only [getM]
        rw [if_neg (by omega), getM_app_none (dis_get (d1 v L') (List.mem_cons_of_mem _ hp))]
        simp only [getM]
        rw [if_neg (by omega)]
        exact q1
      · exact keep_big (big100_cons (by omega) (big100_app (big100_oObjs rok_VW (by omega) (by omega)) (big100_cons (by omega) (OO_100 rok_VW (by omega) (by omega) (by omega)))))
    have fin0 : ∀ (x : AObj), agL zs me b.own (i + 1) = agL zs me b.own i → agV b.own (i + 1) = agV b.own i → NX ⟨[(1, .sl t 5 (zs.map Zone.row)), (2, .str me), (7, .own 107 (agV b.own i) 0 (agL zs me b.own i).length), (11, .sl 0 11 (b.own.map (Own.row 0))), (12, .int .i64 (b.own.length : Nat)), (13, .int .i64 ((i : Int) + 1))],
        (107, .arr 1000073 (agV b.own i) 8 (oRows VW.rowO 130 0 (agL zs me b.own i))) :: (oObjs esWord VW.rowO 130 0 (agL zs me b.own i) ++ [(109, x)])⟩ := fun x hq hv => by
      refine hN (i + 1) _ ⟨by simp only [hq, hv]; repeat' (first | exact trivial | refine ⟨.inr rfl, ?_⟩), ⟨by simp only [hq, hv]; rfl, ?_⟩, cl (i + 1) _ _, ?_⟩ h (by omega)
      · rw [hq]
        exact wkM_self fun p hp => wr p hp _ .gone _
      · exact keep_big (big100_cons (by omega) (big100_app (big100_oObjs rok_VW (by omega) (by omega)) (big100_cons (by omega) big100_nil)))
    have finN : ∀ (x : AObj), agL zs me b.own (i + 1) = agL zs me b.own i → agV b.own (i + 1) = agV b.own i + 1 → NX ⟨[(1, .sl t 5 (zs.map Zone.row)), (2, .str me), (7, .own 107 (agV b.own i + 1) 0 (agL zs me b.own i).length), (11, .sl 0 11 (b.own.map (Own.row 0))), (12, .int .i64 (b.own.length : Nat)), (13, .int .i64 ((i : Int) + 1))],
        (107, .arr 1000073 (agV b.own i + 1) 8 (oRows VW.rowO 130 0 (agL zs me b.own i))) :: (oObjs esWord VW.rowO 130 0 (agL zs me b.own i) ++ [(109, x)])⟩ := fun x hq hv => by
      refine hN (i + 1) _ ⟨by simp only [hq, hv]; repeat' (first | exact trivial | refine ⟨.inr rfl, ?_⟩), ⟨by simp only [hq, hv]; rfl, ?_⟩, cl (i + 1) _ _, ?_⟩ h (by omega)
      · rw [hq]
        exact wkM_self fun p hp => wr p hp _ .gone _
      · exact keep_big (big100_cons (by omega) (big100_app (big100_oObjs rok_VW (by omega) (by omega)) (big100_cons (by omega) big100_nil)))
    have frsh : ∀ (v : Nat) (L' : List VW) (x y : AObj), ∀ p ∈ (WordS 161 v 130 (agL zs me b.own i).length L').reverse, getM ((107, x) :: (oObjs esWord VW.rowO 130 0 (agL zs me b.own i) ++ [(109, y)])) p.1 = none := fun v L' x y =>
      newK_rev (newK_cons (WordO_offs (by omega) (by omega) (by omega)) (newK_app (d1 v L') (newK_cons (WordO_offs (by omega) (by omega) (by omega)) newK_nil)))
    have rfr : ∀ (v : Nat) (L' : List VW), refsIn (dom (WordS 161 v 130 (agL zs me b.own i).length L').reverse) (.own 161 v 0 L'.length) = true := fun v L' => by simp [OO, dom, refsIn]
    have n9r : ∀ (v : Nat) (L' : List VW), ∀ p ∈ (WordS 161 v 130 (agL zs me b.own i).length L').reverse, No99O p.2 := fun v L' p hp => OO_99 rok_VW p (List.mem_reverse.1 hp)
    have hlw : ∀ o : Own, (agW zs me o).length ≤ 1001 := fun o => by have := agW_len (zs := zs) (me := me) (o := o); omega
    have hnr : ∀ (o : Own), norefL [AV.str me, .agg (o.row 0)] = true := fun o => rfl
    have hnr2 : ∀ (o : Own), norefL [AV.sl t 5 (zs.map Zone.row), .str me, .agg (o.row 0)] = true := fun o => rfl
    have eW : ∀ L', agW zs me (b.own.getD i default) = L' → agL zs me b.own (i + 1) = agL zs me b.own i ++ L' := fun L' e => by rw [agL, e]
    have eV : ∀ c, agC (b.own.getD i default) = c → agV b.own (i + 1) = agV b.own i + c := fun c e => by rw [agV, e]
    by_cases h2 : (b.own.getD i default).sent = true
    · have hsn := h2
      simp only [OO, Own.row]
      unfold lO_impl_HandBook_again_0; simp (maxSteps := 2000000) (maxDischargeDepth := 8) only [bitvec_to_nat, reduceIte, Nat.reduceEqDiff, Nat.reduceAdd, Nat.reduceLeDiff, reduceCtorEq, Nat.reduceBEq, Nat.reduceLT, Nat.reduceMod, fmc, retG_ret, retQ_eq, retQ_eqN, retOk, keepB, re_tupl, orr_t, bXH, Zone.row, Box6.row, appE, rowsOf, srow, irow, bHX, Word.row, Own.row, Part.row, Seen.row, Book.row, Nat.sub_zero, List.append_nil, oRows_len, offs_getA, offs_get, offs_setA, offs_set, ap_cons, ap_skip, ap_skip0, ap_new, ap_appU, offs_rev, WordO_offs, WordB_offs, WordO_uniq, List.cons_append, List.nil_append, List.append_assoc, dis_revR, d1, OO_get, OO_getA, tkW, tkN, hsn]
      refine ⟨fun _ => ?_, fun h' => absurd (by omega) h'⟩
      refine ⟨by omega, by omega, fun h1 => ?_, fun h1 => ?_⟩
      · have hC := renW (agL zs me b.own i).length (c_giveO me (b.own.getD i default) hx) (by first | exact hnr _ | exact hnr2 _) (by omega)
        simp only [Own.row, hsn] at hC
        have hq : agW zs me (b.own.getD i default) = [giveW me (b.own.getD i default)] := by unfold agW; rw [if_pos h1]
        have hv : agC (b.own.getD i default) = 1 := by unfold agC; rw [if_pos h1]
        have hL := hlw (b.own.getD i default)
        rw [hq] at hL
        refine ⟨_, _, .inr (.inr (.inl ⟨_, rfl, hC, frsh _ _ _ _, rfr _ _, OO_refr rok_VW hes_Word, trivial, n9r _ _⟩)), ?_⟩
        simp (maxSteps := 2000000) (maxDischargeDepth := 8) only [bitvec_to_nat, reduceIte, Nat.reduceEqDiff, Nat.reduceAdd, Nat.reduceLeDiff, reduceCtorEq, Nat.reduceBEq, Nat.reduceLT, Nat.reduceMod, fmc, retG_ret, retQ_eq, retQ_eqN, retOk, keepB, re_tupl, orr_t, bXH, Zone.row, Box6.row, appE, rowsOf, srow, irow, bHX, Word.row, Own.row, Part.row, Seen.row, Book.row, Nat.sub_zero, List.append_nil, oRows_len, offs_getA, offs_get, offs_setA, offs_set, ap_cons, ap_skip, ap_skip0, ap_new, ap_appU, offs_rev, WordO_offs, WordB_offs, WordO_uniq, List.cons_append, List.nil_append, List.append_assoc, dis_revR, d1, OO_get, OO_getA, tkW, tkN, hsn]
        refine ⟨by omega, ⟨by omega, by omega⟩, fin _ _ _ (eW _ hq) (eV _ hv)⟩
      · have hC := renW (agL zs me b.own i).length (c_clearO me (b.own.getD i default) hx) (by first | exact hnr _ | exact hnr2 _) (by omega)
        simp only [Own.row, hsn] at hC
        have hq : agW zs me (b.own.getD i default) = [clearW me (b.own.getD i default)] := by unfold agW; rw [if_neg h1, if_pos h2]
        have hv : agC (b.own.getD i default) = 1 := by unfold agC; rw [if_neg h1, if_pos h2]
        have hL := hlw (b.own.getD i default)
        rw [hq] at hL
        refine ⟨_, _, .inr (.inr (.inl ⟨_, rfl, hC, frsh _ _ _ _, rfr _ _, OO_refr rok_VW hes_Word, trivial, n9r _ _⟩)), ?_⟩
        simp (maxSteps := 2000000) (maxDischargeDepth := 8) only [bitvec_to_nat, reduceIte, Nat.reduceEqDiff, Nat.reduceAdd, Nat.reduceLeDiff, reduceCtorEq, Nat.reduceBEq, Nat.reduceLT, Nat.reduceMod, fmc, retG_ret, retQ_eq, retQ_eqN, retOk, keepB, re_tupl, orr_t, bXH, Zone.row, Box6.row, appE, rowsOf, srow, irow, bHX, Word.row, Own.row, Part.row, Seen.row, Book.row, Nat.sub_zero, List.append_nil, oRows_len, offs_getA, offs_get, offs_setA, offs_set, ap_cons, ap_skip, ap_skip0, ap_new, ap_appU, offs_rev, WordO_offs, WordB_offs, WordO_uniq, List.cons_append, List.nil_append, List.append_assoc, dis_revR, d1, OO_get, OO_getA, tkW, tkN, hsn]
        refine ⟨by omega, ⟨by omega, by omega⟩, fin _ _ _ (eW _ hq) (eV _ hv)⟩
    · have hsn : (b.own.getD i default).sent = false := by simpa using h2
      simp only [OO, Own.row]
      unfold lO_impl_HandBook_again_0; simp (maxSteps := 2000000) (maxDischargeDepth := 8) only [bitvec_to_nat, reduceIte, Nat.reduceEqDiff, Nat.reduceAdd, Nat.reduceLeDiff, reduceCtorEq, Nat.reduceBEq, Nat.reduceLT, Nat.reduceMod, fmc, retG_ret, retQ_eq, retQ_eqN, retOk, keepB, re_tupl, orr_t, bXH, Zone.row, Box6.row, appE, rowsOf, srow, irow, bHX, Word.row, Own.row, Part.row, Seen.row, Book.row, Nat.sub_zero, List.append_nil, oRows_len, offs_getA, offs_get, offs_setA, offs_set, ap_cons, ap_skip, ap_skip0, ap_new, ap_appU, offs_rev, WordO_offs, WordB_offs, WordO_uniq, List.cons_append, List.nil_append, List.append_assoc, dis_revR, d1, OO_get, OO_getA, tkW, tkN, hsn]
      refine ⟨fun _ => ?_, fun h' => absurd (by omega) h'⟩
      refine ⟨by omega, by omega, fun h1 => ?_, fun h1 => ⟨fun h3 => ?_, fun h3 => ⟨fun h4 => ?_, fun h4 => ?_⟩⟩⟩
      · have hC := renW (agL zs me b.own i).length (c_giveO me (b.own.getD i default) hx) (by first | exact hnr _ | exact hnr2 _) (by omega)
        simp only [Own.row, hsn] at hC
        have hq : agW zs me (b.own.getD i default) = [giveW me (b.own.getD i default)] := by unfold agW; rw [if_pos h1]
        have hv : agC (b.own.getD i default) = 1 := by unfold agC; rw [if_pos h1]
        have hL := hlw (b.own.getD i default)
        rw [hq] at hL
        refine ⟨_, _, .inr (.inr (.inl ⟨_, rfl, hC, frsh _ _ _ _, rfr _ _, OO_refr rok_VW hes_Word, trivial, n9r _ _⟩)), ?_⟩
        simp (maxSteps := 2000000) (maxDischargeDepth := 8) only [bitvec_to_nat, reduceIte, Nat.reduceEqDiff, Nat.reduceAdd, Nat.reduceLeDiff, reduceCtorEq, Nat.reduceBEq, Nat.reduceLT, Nat.reduceMod, fmc, retG_ret, retQ_eq, retQ_eqN, retOk, keepB, re_tupl, orr_t, bXH, Zone.row, Box6.row, appE, rowsOf, srow, irow, bHX, Word.row, Own.row, Part.row, Seen.row, Book.row, Nat.sub_zero, List.append_nil, oRows_len, offs_getA, offs_get, offs_setA, offs_set, ap_cons, ap_skip, ap_skip0, ap_new, ap_appU, offs_rev, WordO_offs, WordB_offs, WordO_uniq, List.cons_append, List.nil_append, List.append_assoc, dis_revR, d1, OO_get, OO_getA, tkW, tkN, hsn]
        refine ⟨by omega, ⟨by omega, by omega⟩, fin _ _ _ (eW _ hq) (eV _ hv)⟩
      · have hC := renW (agL zs me b.own i).length (c_asksO t zs me (b.own.getD i default) hx hz (by omega)) (by first | exact hnr _ | exact hnr2 _) (by omega)
        simp only [Own.row, hsn] at hC
        have hq : agW zs me (b.own.getD i default) = askL zs me (b.own.getD i default) zs.length := by unfold agW; rw [if_neg h1, if_neg h2, if_pos h3]
        have hv : agC (b.own.getD i default) = 1 := by unfold agC; rw [if_neg h1, if_neg h2, if_pos h3]
        have hL := hlw (b.own.getD i default)
        rw [hq] at hL
        refine ⟨_, _, .inr (.inr (.inl ⟨_, rfl, hC, frsh _ _ _ _, rfr _ _, OO_refr rok_VW hes_Word, trivial, n9r _ _⟩)), ?_⟩
        simp (maxSteps := 2000000) (maxDischargeDepth := 8) only [bitvec_to_nat, reduceIte, Nat.reduceEqDiff, Nat.reduceAdd, Nat.reduceLeDiff, reduceCtorEq, Nat.reduceBEq, Nat.reduceLT, Nat.reduceMod, fmc, retG_ret, retQ_eq, retQ_eqN, retOk, keepB, re_tupl, orr_t, bXH, Zone.row, Box6.row, appE, rowsOf, srow, irow, bHX, Word.row, Own.row, Part.row, Seen.row, Book.row, Nat.sub_zero, List.append_nil, oRows_len, offs_getA, offs_get, offs_setA, offs_set, ap_cons, ap_skip, ap_skip0, ap_new, ap_appU, offs_rev, WordO_offs, WordB_offs, WordO_uniq, List.cons_append, List.nil_append, List.append_assoc, dis_revR, d1, OO_get, OO_getA, tkW, tkN, hsn]
        refine ⟨by omega, ⟨by omega, by omega⟩, fin _ _ _ (eW _ hq) (eV _ hv)⟩
      · by_cases hla : (b.own.getD i default).la = 0
        · have hC := c_keeps0 t zs me (b.own.getD i default) hla
          simp only [Own.row, hsn] at hC
          have hq : agW zs me (b.own.getD i default) = [] := by unfold agW; rw [if_neg h1, if_neg h2, if_neg h3, if_pos h4, if_pos hla]
          have hv : agC (b.own.getD i default) = 1 := by unfold agC; rw [if_neg h1, if_neg h2, if_neg h3, if_pos h4]
          refine ⟨_, _, .inr (.inl ⟨rfl, _, rfl, hC, rfl, by simp [No99, No99LL]⟩), ?_⟩
          simp (maxSteps := 2000000) (maxDischargeDepth := 8) only [bitvec_to_nat, reduceIte, Nat.reduceEqDiff, Nat.reduceAdd, Nat.reduceLeDiff, reduceCtorEq, Nat.reduceBEq, Nat.reduceLT, Nat.reduceMod, fmc, retG_ret, retQ_eq, retQ_eqN, retOk, keepB, re_tupl, orr_t, bXH, Zone.row, Box6.row, appE, rowsOf, srow, irow, bHX, Word.row, Own.row, Part.row, Seen.row, Book.row, Nat.sub_zero, List.append_nil, oRows_len, offs_getA, offs_get, offs_setA, offs_set, ap_cons, ap_skip, ap_skip0, ap_new, ap_appU, offs_rev, WordO_offs, WordB_offs, WordO_uniq, List.cons_append, List.nil_append, List.append_assoc, dis_revR, d1, OO_get, OO_getA, tkW, tkN, hsn]
          refine ⟨by omega, ⟨by omega, by omega⟩, finN _ (by rw [eW _ hq, List.append_nil]) (eV _ hv)⟩
        · have hC := renW (agL zs me b.own i).length (by have := c_keepsO t zs me (b.own.getD i default) hla (by omega); rw [show zs.length = (zs.map (keepW me (b.own.getD i default))).length from by simp] at this; exact this) (by first | exact hnr _ | exact hnr2 _) (by omega)
          simp only [Own.row, hsn] at hC
          have hq : agW zs me (b.own.getD i default) = zs.map (keepW me (b.own.getD i default)) := by unfold agW; rw [if_neg h1, if_neg h2, if_neg h3, if_pos h4, if_neg hla]
          have hv : agC (b.own.getD i default) = 1 := by unfold agC; rw [if_neg h1, if_neg h2, if_neg h3, if_pos h4]
          generalize zs.map (keepW me (b.own.getD i default)) = Lk at hC hq
          have hL := hlw (b.own.getD i default)
          rw [hq] at hL
          refine ⟨_, _, .inr (.inr (.inl ⟨_, rfl, hC, frsh _ _ _ _, rfr _ _, OO_refr rok_VW hes_Word, trivial, n9r _ _⟩)), ?_⟩
          simp (maxSteps := 2000000) (maxDischargeDepth := 8) only [bitvec_to_nat, reduceIte, Nat.reduceEqDiff, Nat.reduceAdd, Nat.reduceLeDiff, reduceCtorEq, Nat.reduceBEq, Nat.reduceLT, Nat.reduceMod, fmc, retG_ret, retQ_eq, retQ_eqN, retOk, keepB, re_tupl, orr_t, bXH, Zone.row, Box6.row, appE, rowsOf, srow, irow, bHX, Word.row, Own.row, Part.row, Seen.row, Book.row, Nat.sub_zero, List.append_nil, oRows_len, offs_getA, offs_get, offs_setA, offs_set, ap_cons, ap_skip, ap_skip0, ap_new, ap_appU, offs_rev, WordO_offs, WordB_offs, WordO_uniq, List.cons_append, List.nil_append, List.append_assoc, dis_revR, d1, OO_get, OO_getA, tkW, tkN, hsn]
          refine ⟨by omega, ⟨by omega, by omega⟩, fin _ _ _ (eW _ hq) (eV _ hv)⟩
      · have hq : agW zs me (b.own.getD i default) = [] := by unfold agW; rw [if_neg h1, if_neg h2, if_neg h3, if_neg h4]
        have hv : agC (b.own.getD i default) = 0 := by unfold agC; rw [if_neg h1, if_neg h2, if_neg h3, if_neg h4]
        exact ⟨⟨by omega, by omega⟩, fin0 _ (by rw [eW _ hq, List.append_nil]) (eV _ hv)⟩
  · have e : i = b.own.length := by omega
    subst e
    simp only [OO, Own.row]
    unfold lO_impl_HandBook_again_0; simp (maxSteps := 2000000) (maxDischargeDepth := 8) only [bitvec_to_nat, reduceIte, Nat.reduceEqDiff, Nat.reduceAdd, Nat.reduceLeDiff, reduceCtorEq, Nat.reduceBEq, Nat.reduceLT, Nat.reduceMod, fmc, retG_ret, retQ_eq, retQ_eqN, retOk, keepB, re_tupl, orr_t, bXH, Zone.row, Box6.row, appE, rowsOf, srow, irow, bHX, Word.row, Own.row, Part.row, Seen.row, Book.row, Nat.sub_zero, List.append_nil, oRows_len, offs_getA, offs_get, offs_setA, offs_set, ap_cons, ap_skip, ap_skip0, ap_new, ap_appU, offs_rev, WordO_offs, WordB_offs, WordO_uniq, List.cons_append, List.nil_append, List.append_assoc, dis_revR, d1, OO_get, OO_getA, tkW, tkN, hsn]
    refine ⟨fun h' => absurd h' (by omega), fun _ => ⟨wkM_self fun p hp => OO_self (o := 107) (e := 73) (v := agV b.own b.own.length) (sz := 8) rok_VW (by omega) (by omega) p (List.mem_cons_of_mem _ hp), OO_refs (o := 107) (v := agV b.own b.own.length) (sz := 8) (e := 73) rok_VW hes_Word, by simp [refsIn], ?_⟩⟩
    simp only [Bool.true_or, Bool.true_and]
    exact big_all (big100_oObjs rok_VW (by omega) (by omega))
end
end Go.Ve

namespace Go.Ve
noncomputable section
open Go.Proofs
set_option maxRecDepth 100000
open Go.ChangeShapes Go.WideShapes
theorem c_l31Tube (t : Nat) (l : List Box6) (hl : l.length ≤ 4294967296) : Contract P 66 [.sl t 6 (l.map Box6.row)] [] (.sl 0 6 (l.map Box6.row)) [] := by
  have tkB : List.take l.length (l.map Box6.row) = l.map Box6.row := List.take_of_length_le (by simp)
  refine fn_sound (Env.nil P) hm k_spec_l31Tube (nlb rfl) rfl ?_; unfold s_spec_l31Tube; simp (maxSteps := 2000000) only [bitvec_to_nat, reduceIte, Nat.reduceEqDiff, Nat.reduceAdd, Nat.reduceLeDiff, reduceCtorEq, Nat.reduceBEq, Nat.reduceLT, Nat.reduceMod, fmc, retG_ret, retQ_eq, retQ_eqN, retOk, keepB, re_tupl, orr_t, bXH, Zone.row, Box6.row, appE, rowsOf, srow, irow, bHX, Word.row, Own.row, Part.row, Seen.row, Book.row, Nat.sub_zero, List.append_nil, tkB, appE]
  repeat' (first | with_reducible apply And.intro | with_reducible intro _)
  all_goals first | omega | rfl | (simp; done)
def t_l31Tube : List AV → Option (Prop × AV)
  | [.sl tut 6 tux] => some ((((tux.map unBox).map Box6.row = tux)) ∧ ((tux.map unBox).length ≤ 4294967296), .sl 0 6 ((tux.map unBox).map Box6.row))
  | _ => none
theorem h_l31Tube : ∀ args p v, t_l31Tube args = some (p, v) → p → Contract P 66 args [] v [] ∧ noref v = true ∧ No99 v := by
  intro args p v h1 h2
  unfold t_l31Tube at h1
  split at h1
  · rename_i tut tux
    cases h1
    obtain ⟨e0, HP⟩ := h2
    have := c_l31Tube tut (tux.map unBox) HP
    exact ⟨by simpa only [e0] using this, rfl, by simp [No99, no99_box, -List.map_map]⟩
  · cases h1
theorem w_row (x : VW) : (VW.w x).row 0 = [.int .i64 x.kd, .str x.fr, .str x.dst, .str x.fl, .int .i64 x.nr, .int .i64 x.la, .int .i64 x.tn, .sl 0 6 (x.tu.map Box6.row)] := rfl
theorem c_sGive (me : ByteArray) (o : Own) (ho : o.small) : Contract P 37 [.str me, .agg (o.row 0)] [] (.agg ((giveW me o).w.row 0)) [] := by
  unfold Own.small at ho
  rw [w_row]
  simp only [giveW, Own.row]
  refine fn_sound ((Env.nil P).add 66 t_l31Tube h_l31Tube) hm k_spec_l34Give (nlb rfl) rfl ?_; unfold s_spec_l34Give; simp (maxSteps := 2000000) only [bitvec_to_nat, reduceIte, Nat.reduceEqDiff, Nat.reduceAdd, Nat.reduceLeDiff, reduceCtorEq, Nat.reduceBEq, Nat.reduceLT, Nat.reduceMod, fmc, t_l31Tube, bXH, Zone.row, Box6.row, appE, rowsOf, srow, irow, bHX, Word.row, Own.row, Part.row, Seen.row, Book.row, Nat.sub_zero]
  omega
def t_sGive : List AV → Option (Prop × AV)
  | [.str me, .agg [.str o_fl, .int .i64 o_st, .int .i64 o_tn, .str o_dst, .int .i64 o_la, .int .i64 o_nr, .sl 0 6 o_tu, .int .i64 o_wi, .sl 0 6 o_nx, .sl 0 1 o_gr, .bool o_sent]] => some ((((o_tu.map unBox).map Box6.row = o_tu) ∧ ((o_nx.map unBox).map Box6.row = o_nx) ∧ ((o_gr.map unS).map srow = o_gr)) ∧ (Own.small (Own.mk o_fl o_st o_tn o_dst o_la o_nr (o_tu.map unBox) o_wi (o_nx.map unBox) (o_gr.map unS) o_sent)), .agg ((giveW me (Own.mk o_fl o_st o_tn o_dst o_la o_nr (o_tu.map unBox) o_wi (o_nx.map unBox) (o_gr.map unS) o_sent)).w.row 0))
  | _ => none
theorem h_sGive : ∀ args p v, t_sGive args = some (p, v) → p → Contract P 37 args [] v [] ∧ noref v = true ∧ No99 v := by
  intro args p v h1 h2
  unfold t_sGive at h1
  split at h1
  · rename_i me o_fl o_st o_tn o_dst o_la o_nr o_tu o_wi o_nx o_gr o_sent
    cases h1
    obtain ⟨⟨e0, e1, e2⟩, HP⟩ := h2
    have := c_sGive me (Own.mk o_fl o_st o_tn o_dst o_la o_nr (o_tu.map unBox) o_wi (o_nx.map unBox) (o_gr.map unS) o_sent) HP
    exact ⟨by simpa only [e0, e1, e2, Own.row] using this, rfl, by simp [No99, No99L, Word.row, no99_box, -List.map_map]⟩
  · cases h1
theorem c_sClear (me : ByteArray) (o : Own) (ho : o.small) : Contract P 38 [.str me, .agg (o.row 0)] [] (.agg ((clearW me o).w.row 0)) [] := by
  unfold Own.small at ho
  rw [w_row]
  simp only [clearW, Own.row]
  refine fn_sound ((Env.nil P).add 66 t_l31Tube h_l31Tube) hm k_spec_l34Clear (nlb rfl) rfl ?_; unfold s_spec_l34Clear; simp (maxSteps := 2000000) only [bitvec_to_nat, reduceIte, Nat.reduceEqDiff, Nat.reduceAdd, Nat.reduceLeDiff, reduceCtorEq, Nat.reduceBEq, Nat.reduceLT, Nat.reduceMod, fmc, t_l31Tube, bXH, Zone.row, Box6.row, appE, rowsOf, srow, irow, bHX, Word.row, Own.row, Part.row, Seen.row, Book.row, Nat.sub_zero]
  omega
def t_sClear : List AV → Option (Prop × AV)
  | [.str me, .agg [.str o_fl, .int .i64 o_st, .int .i64 o_tn, .str o_dst, .int .i64 o_la, .int .i64 o_nr, .sl 0 6 o_tu, .int .i64 o_wi, .sl 0 6 o_nx, .sl 0 1 o_gr, .bool o_sent]] => some ((((o_tu.map unBox).map Box6.row = o_tu) ∧ ((o_nx.map unBox).map Box6.row = o_nx) ∧ ((o_gr.map unS).map srow = o_gr)) ∧ (Own.small (Own.mk o_fl o_st o_tn o_dst o_la o_nr (o_tu.map unBox) o_wi (o_nx.map unBox) (o_gr.map unS) o_sent)), .agg ((clearW me (Own.mk o_fl o_st o_tn o_dst o_la o_nr (o_tu.map unBox) o_wi (o_nx.map unBox) (o_gr.map unS) o_sent)).w.row 0))
  | _ => none
theorem h_sClear : ∀ args p v, t_sClear args = some (p, v) → p → Contract P 38 args [] v [] ∧ noref v = true ∧ No99 v := by
  intro args p v h1 h2
  unfold t_sClear at h1
  split at h1
  · rename_i me o_fl o_st o_tn o_dst o_la o_nr o_tu o_wi o_nx o_gr o_sent
    cases h1
    obtain ⟨⟨e0, e1, e2⟩, HP⟩ := h2
    have := c_sClear me (Own.mk o_fl o_st o_tn o_dst o_la o_nr (o_tu.map unBox) o_wi (o_nx.map unBox) (o_gr.map unS) o_sent) HP
    exact ⟨by simpa only [e0, e1, e2, Own.row] using this, rfl, by simp [No99, No99L, Word.row, no99_box, -List.map_map]⟩
  · cases h1
def keepWd (me : ByteArray) (o : Own) (z : Zone) : Word := (keepW me o z).w
theorem keepWd_row (me : ByteArray) (o : Own) (z : Zone) : (keepWd me o z).row 0 = [.int .i64 4, .str me, .str z.nm, .str o.fl, .int .i64 o.nr, .int .i64 o.la, .int .i64 0, .sl 0 6 []] := rfl
def keepS (zs : List Zone) (me : ByteArray) (o : Own) : List Word := if 0 < o.la then zs.map (keepWd me o) else []
theorem keepS_ag {zs : List Zone} {me : ByteArray} {o : Own} (h : 0 ≤ o.la) : keepS zs me o = (if o.la = 0 then [] else zs.map (keepW me o)).map VW.w := by
  unfold keepS
  by_cases e : o.la = 0
  · rw [if_neg (by omega), if_pos e]; rfl
  · rw [if_pos (by omega), if_neg e, List.map_map]; rfl
set_option maxHeartbeats 2000000 in
theorem c_sKeeps (t : Nat) (zs : List Zone) (me : ByteArray) (o : Own) (hz : zs.length ≤ 1048576) : Contract P 40 [.sl t 5 (zs.map Zone.row), .str me, .agg (o.row 0)] [] (.sl 0 8 ((keepS zs me o).map (Word.row 0))) [] := by
  have tkS : True := trivial
  simp only [Own.row]
  refine fn_sound (Env.nil P) hm k_spec_l34Keeps (nlb rfl) rfl ?_; unfold s_spec_l34Keeps; simp (maxSteps := 2000000) only [bitvec_to_nat, reduceIte, Nat.reduceEqDiff, Nat.reduceAdd, Nat.reduceLeDiff, reduceCtorEq, Nat.reduceBEq, Nat.reduceLT, Nat.reduceMod, fmc, bXH, Zone.row, Box6.row, appE, rowsOf, srow, irow, bHX, Word.row, Own.row, Part.row, Seen.row, Book.row, Nat.sub_zero, tkS, appE, List.append_nil]
  refine loop_st (fun i : Nat => [(7, .own 109 i 0 i), (8, .int .i64 i)]) (fun i => [(109, .arr 73 i 8 (((zs.take i).map (keepWd me o)).map (Word.row 0)))]) (fun i => i ≤ zs.length ∧ (0 < i → 0 < o.la)) (fun i => zs.length - i) 0 (by simp only [u_E0, u_E1, u_M0, u_M1, w_setE0, w_setE1, w_setM0, w_setM1, reduceIte, Nat.reduceEqDiff]; exact ⟨by repeat' (first | exact trivial | refine ⟨.inr rfl, ?_⟩), by repeat' (first | exact trivial | refine ⟨rfl, ?_⟩), by first | rfl | simp [closedB, refsIn, refsInL, refsInO, dom, refsInL_nr, *], by first | rfl | simp [keepB, dom]⟩) ⟨Nat.zero_le _, fun h => absurd h (by omega)⟩ ?_
  intro i hi NX hN
  have tkS : List.take i (((zs.take i).map (keepWd me o)).map (Word.row 0)) = ((zs.take i).map (keepWd me o)).map (Word.row 0) := List.take_of_length_le (by simp; omega)
  unfold l_spec_l34Keeps_0; simp (maxSteps := 2000000) only [bitvec_to_nat, reduceIte, Nat.reduceEqDiff, Nat.reduceAdd, Nat.reduceLeDiff, reduceCtorEq, Nat.reduceBEq, Nat.reduceLT, Nat.reduceMod, fmc, bXH, Zone.row, Box6.row, appE, rowsOf, srow, irow, bHX, Word.row, Own.row, Part.row, Seen.row, Book.row, Nat.sub_zero, tkS, appE, List.append_nil]
  by_cases h : i < zs.length
  · refine ⟨fun _ => ⟨fun h2 => ?_, fun h2 => ?_⟩, fun h' => absurd (by omega) h'⟩
    · repeat (refine ⟨by first | omega | rfl, ?_⟩)
      have e1 : ((zs.take (i + 1)).map (keepWd me o)) = ((zs.take i).map (keepWd me o)) ++ [keepWd me o (zs.getD i default)] := map_take_s h
      refine hN (i + 1) _ (by simp only [e1, List.map_append (l₂ := [_]), List.map_cons, List.map_nil, keepWd_row]; simp only [u_E0, u_E1, u_M0, u_M1, w_setE0, w_setE1, w_setM0, w_setM1, reduceIte, Nat.reduceEqDiff]; exact ⟨by repeat' (first | exact trivial | refine ⟨.inr rfl, ?_⟩), by repeat' (first | exact trivial | refine ⟨rfl, ?_⟩), by first | rfl | simp [closedB, refsIn, refsInL, refsInO, dom, refsInL_nr, *], by first | rfl | simp [keepB, dom]⟩) ⟨by omega, fun _ => h2⟩ (by omega)
    · have : i = 0 := Nat.eq_zero_of_not_pos fun h3 => h2 (hi.2 h3)
      subst this
      unfold keepS; rw [if_neg h2]; simp
  · have e : i = zs.length := by omega
    subst e
    refine ⟨fun h' => absurd h' (by omega), fun _ => ?_⟩
    unfold keepS
    by_cases h2 : 0 < o.la
    · rw [if_pos h2]; simp
    · have : zs.length = 0 := Nat.eq_zero_of_not_pos fun h3 => h2 (hi.2 h3)
      rw [if_neg h2]; simp [this, List.length_eq_zero_iff.1 this]
theorem zname {zs : List Zone} (h : zonesOk zs) : ∀ i, i < zs.length → ∀ j, j < i → slt (zs.getD j default).nm (zs.getD i default).nm
  | 0, _, j, hj => by omega
  | i + 1, hi, j, hj => by
    have h1 := (h.2 (i + 1) hi).2.1 (by omega)
    rw [Nat.add_sub_cancel] at h1
    by_cases e : j = i
    · subst e; exact h1
    · exact slt_trans (zname h i (by omega) j (by omega)) h1
theorem zAt_self {zs : List Zone} (h : zonesOk zs) {i : Nat} (hi : i < zs.length) : zAt zs (zs.getD i default).nm = i := by
  unfold zAt
  refine fIdx_at hi (by simp) fun j hj => ?_
  simp only [decide_eq_false_iff_not]
  intro e
  have := zname h i hi j hj
  rw [e] at this
  exact slt_irrefl _ this
theorem zAt_get {zs : List Zone} (h : zonesOk zs) {z : Zone} (hz : z ∈ zs) : 0 ≤ zAt zs z.nm ∧ zAt zs z.nm < zs.length ∧ zs.getD (zAt zs z.nm).toNat default = z := by
  obtain ⟨i, hi, rfl⟩ := List.mem_iff_getElem.1 hz
  have e : zs[i] = zs.getD i default := by simp [hi]
  rw [e, zAt_self h hi]
  exact ⟨by omega, by omega, by simp⟩
/-- The word that asks a zone of this name. -/
def askN (zs : List Zone) (me : ByteArray) (o : Own) (nm : ByteArray) : Word := ⟨1, me, nm, o.fl, o.wi, 0, 0, partOf (zs.getD (zAt zs nm).toNat default) o.nx⟩
theorem askN_row (zs : List Zone) (me : ByteArray) (o : Own) (nm : ByteArray) : (askN zs me o nm).row 0 = [.int .i64 1, .str me, .str nm, .str o.fl, .int .i64 o.wi, .int .i64 0, .int .i64 0, .sl 0 6 ((partOf (zs.getD (zAt zs nm).toNat default) o.nx).map Box6.row)] := rfl
def askS (zs : List Zone) (me : ByteArray) (o : Own) (i : Nat) : List Word := (((whoOf zs o.nx).take i).filter fun nm => decide (nm ∉ o.gr)).map (askN zs me o)
theorem askL_flt {zs : List Zone} {me : ByteArray} {o : Own} : ∀ i, i ≤ zs.length → askL zs me o i = ((zs.take i).filter fun z => decide (askP o z)).map (askW me o)
  | 0, _ => by simp [askL]
  | i + 1, hi => by
    have ih := askL_flt (zs := zs) (me := me) (o := o) i (by omega)
    simp only [askL]
    split
    · rw [flt_in (p := fun z => decide (askP o z)) (show i < zs.length by omega) (by simpa using ‹_›), List.map_append, ih]; rfl
    · rw [flt_out (p := fun z => decide (askP o z)) (show i < zs.length by omega) (by simpa using ‹_›), ih]
theorem askS_eq {zs : List Zone} {me : ByteArray} {o : Own} (h : zonesOk zs) : askS zs me o (whoOf zs o.nx).length = (askL zs me o zs.length).map VW.w := by
  rw [askL_flt _ (Nat.le_refl _), List.take_length]
  unfold askS whoOf
  rw [List.take_length, List.filter_map, List.map_map, List.map_map, List.filter_filter]
  have e1 : (fun z : Zone => decide (askP o z)) = fun z => ((fun nm : ByteArray => decide (nm ∉ o.gr)) ∘ fun z : Zone => z.nm) z && decide (0 < (partOf z o.nx).length) := by
    funext z
    simp only [askP, Function.comp]
    by_cases h1 : 0 < (partOf z o.nx).length <;> by_cases h2 : z.nm ∈ o.gr <;> simp [h1, h2]
  rw [e1]
  refine List.map_congr_left fun z hz => ?_
  have hz' := (List.mem_filter.1 hz).1
  simp only [Function.comp, askN, askW, VW.w, (zAt_get h hz').2.2]
theorem who_get {zs : List Zone} {tu : List Box6} (h : zonesOk zs) {i : Nat} (hi : i < (whoOf zs tu).length) : 0 ≤ zAt zs ((whoOf zs tu).getD i default) ∧ zAt zs ((whoOf zs tu).getD i default) < zs.length := by
  have hm : (whoOf zs tu).getD i default ∈ whoOf zs tu := getD_mem' hi
  generalize (whoOf zs tu).getD i default = nm at hm
  obtain ⟨z, hz, rfl⟩ := List.mem_map.1 hm
  have := zAt_get h (List.mem_filter.1 hz).1
  exact ⟨this.1, this.2.1⟩
set_option maxHeartbeats 4000000 in
theorem c_sAsks (t : Nat) (zs : List Zone) (me : ByteArray) (o : Own) (hz : zonesOk zs) (ho : o.small) : Contract P 39 [.sl t 5 (zs.map Zone.row), .str me, .agg (o.row 0)] [] (.sl 0 8 ((askS zs me o (whoOf zs o.nx).length).map (Word.row 0))) [] := by
  have tkS : True := trivial
  unfold Own.small at ho
  have hz4 := hz.1
  have hwl : (whoOf zs o.nx).length ≤ 4 := by rw [← wk_end]; have := wk_len zs o.nx zs.length; omega
  simp only [Own.row]
  refine fn_sound ((((Env.nil P).add 81 t_sWho h_sWho).add 36 t_sZoneAt h_sZoneAt).add 82 t_sPartOf h_sPartOf) hm k_spec_l34Asks (nlb rfl) rfl ?_; unfold s_spec_l34Asks; simp (maxSteps := 2000000) only [bitvec_to_nat, reduceIte, Nat.reduceEqDiff, Nat.reduceAdd, Nat.reduceLeDiff, reduceCtorEq, Nat.reduceBEq, Nat.reduceLT, Nat.reduceMod, fmc, t_sWho, t_sZoneAt, t_sPartOf, bXH, Zone.row, Box6.row, appE, rowsOf, srow, irow, bHX, Word.row, Own.row, Part.row, Seen.row, Book.row, Nat.sub_zero, tkS, appE, List.append_nil]
  refine ⟨⟨by omega, by omega⟩, ?_⟩
  refine loop_st (fun i : Nat => [(7, .own 112 (askS zs me o i).length 0 (askS zs me o i).length), (9, .int .i64 i)]) (fun i => [(112, .arr 73 (askS zs me o i).length 8 ((askS zs me o i).map (Word.row 0)))]) (fun i => i ≤ (whoOf zs o.nx).length) (fun i => (whoOf zs o.nx).length - i) 0 (by simp only [u_E0, u_E1, u_M0, u_M1, w_setE0, w_setE1, w_setM0, w_setM1, reduceIte, Nat.reduceEqDiff]; exact ⟨by repeat' (first | exact trivial | refine ⟨.inr rfl, ?_⟩), by repeat' (first | exact trivial | refine ⟨rfl, ?_⟩), by first | rfl | simp [closedB, refsIn, refsInL, refsInO, dom, refsInL_nr, *], by first | rfl | simp [keepB, dom]⟩) (Nat.zero_le _) ?_
  intro i hi NX hN
  have hal : (askS zs me o i).length ≤ i := by unfold askS; rw [List.length_map]; exact Nat.le_trans (List.length_filter_le _ _) (by simp; omega)
  have tkS : List.take (askS zs me o i).length ((askS zs me o i).map (Word.row 0)) = (askS zs me o i).map (Word.row 0) := List.take_of_length_le (by simp)
  unfold l_spec_l34Asks_1; simp (maxSteps := 2000000) only [bitvec_to_nat, reduceIte, Nat.reduceEqDiff, Nat.reduceAdd, Nat.reduceLeDiff, reduceCtorEq, Nat.reduceBEq, Nat.reduceLT, Nat.reduceMod, fmc, t_sWho, t_sZoneAt, t_sPartOf, bXH, Zone.row, Box6.row, appE, rowsOf, srow, irow, bHX, Word.row, Own.row, Part.row, Seen.row, Book.row, Nat.sub_zero, tkS, appE, List.append_nil]
  by_cases h : i < (whoOf zs o.nx).length
  · have hw := who_get hz h
    refine ⟨fun _ => ?_, fun h' => absurd (by omega) h'⟩
    refine loop_st (fun a : Nat × Bool => [(10, .bool a.2), (11, .int .i64 a.1)]) (fun _ => []) (fun a => a.1 ≤ o.gr.length ∧ (a.2 = true ↔ ∃ k, k < a.1 ∧ o.gr.getD k default = (whoOf zs o.nx).getD i default)) (fun a => o.gr.length - a.1) (0, false) (by simp only [u_E0, u_E1, u_M0, u_M1, w_setE0, w_setE1, w_setM0, w_setM1, reduceIte, Nat.reduceEqDiff]; exact ⟨by repeat' (first | exact trivial | refine ⟨.inr rfl, ?_⟩), by repeat' (first | exact trivial | refine ⟨rfl, ?_⟩), by first | rfl | simp [closedB, refsIn, refsInL, refsInO, dom, refsInL_nr, *], by first | rfl | simp [keepB, dom]⟩) ⟨Nat.zero_le _, by simp⟩ ?_
    rintro ⟨k, bb⟩ hk NX2 hN2
    simp only at hk
    have sn : ∀ b' : Bool, (b' = true ↔ bb = true ∨ o.gr.getD k default = (whoOf zs o.nx).getD i default) → (b' = true ↔ ∃ j, j < k + 1 ∧ o.gr.getD j default = (whoOf zs o.nx).getD i default) := by
      intro b' hb'
      rw [hb', hk.2]
      constructor
      · rintro (⟨j, h1, h2⟩ | h)
        · exact ⟨j, by omega, h2⟩
        · exact ⟨k, by omega, h⟩
      · rintro ⟨j, h1, h2⟩
        by_cases e : j = k
        · subst e; exact .inr h2
        · exact .inl ⟨j, by omega, h2⟩
    have fin : k = o.gr.length → (bb = true ↔ (whoOf zs o.nx).getD i default ∈ o.gr) := fun e => by
      subst e
      rw [hk.2, List.mem_iff_getElem]
      constructor
      · rintro ⟨j, h1, h2⟩
        exact ⟨j, h1, by rw [← h2]; simp [h1]⟩
      · rintro ⟨j, h1, h2⟩
        exact ⟨j, h1, by rw [← h2]; simp [h1]⟩
    have a1 : (whoOf zs o.nx).getD i default ∉ o.gr → askS zs me o (i + 1) = askS zs me o i ++ [askN zs me o ((whoOf zs o.nx).getD i default)] := fun hh => by
      unfold askS; rw [flt_in h (by simpa using hh), List.map_append]; rfl
    have a2 : (whoOf zs o.nx).getD i default ∈ o.gr → askS zs me o (i + 1) = askS zs me o i := fun hh => by
      unfold askS; rw [flt_out h (by simpa using hh)]
    cases bb
    · unfold l_spec_l34Asks_0; simp (maxSteps := 2000000) only [bitvec_to_nat, reduceIte, Nat.reduceEqDiff, Nat.reduceAdd, Nat.reduceLeDiff, reduceCtorEq, Nat.reduceBEq, Nat.reduceLT, Nat.reduceMod, fmc, t_sWho, t_sZoneAt, t_sPartOf, bXH, Zone.row, Box6.row, appE, rowsOf, srow, irow, bHX, Word.row, Own.row, Part.row, Seen.row, Book.row, Nat.sub_zero, tkS, appE, List.append_nil]
      refine ⟨fun h3 => ⟨by omega, by omega, by omega, by omega, ⟨by omega, by omega⟩, hN2 (k + 1, decide (o.gr.getD k default = (whoOf zs o.nx).getD i default)) _ (by simp only [u_E0, u_E1, u_M0, u_M1, w_setE0, w_setE1, w_setM0, w_setM1, reduceIte, Nat.reduceEqDiff]; exact ⟨by repeat' (first | exact trivial | refine ⟨.inr rfl, ?_⟩), by repeat' (first | exact trivial | refine ⟨rfl, ?_⟩), by first | rfl | simp [closedB, refsIn, refsInL, refsInO, dom, refsInL_nr, *], by first | rfl | simp [keepB, dom]⟩) ⟨by simp only; omega, sn _ (by simp)⟩ (by simp only; omega)⟩, fun h3 => ?_⟩
      have hf := fin (by omega)
      have hnm : (whoOf zs o.nx).getD i default ∉ o.gr := fun hh => by simpa using hf.2 hh
      have e := a1 hnm
      repeat (refine ⟨by first | omega | exact hw.1 | exact hw.2, ?_⟩)
      refine hN (i + 1) _ (by simp only [e, List.map_append (l₂ := [_]), List.map_cons, List.map_nil, askN_row, List.length_append, List.length_cons, List.length_nil, Nat.zero_add]; simp only [u_E0, u_E1, u_M0, u_M1, w_setE0, w_setE1, w_setM0, w_setM1, reduceIte, Nat.reduceEqDiff]; exact ⟨by repeat' (first | exact trivial | refine ⟨.inr rfl, ?_⟩), by repeat' (first | exact trivial | refine ⟨rfl, ?_⟩), by first | rfl | simp [closedB, refsIn, refsInL, refsInO, dom, refsInL_nr, *], by first | rfl | simp [keepB, dom]⟩) (by omega) (by omega)
    · unfold l_spec_l34Asks_0; simp (maxSteps := 2000000) only [bitvec_to_nat, reduceIte, Nat.reduceEqDiff, Nat.reduceAdd, Nat.reduceLeDiff, reduceCtorEq, Nat.reduceBEq, Nat.reduceLT, Nat.reduceMod, fmc, t_sWho, t_sZoneAt, t_sPartOf, bXH, Zone.row, Box6.row, appE, rowsOf, srow, irow, bHX, Word.row, Own.row, Part.row, Seen.row, Book.row, Nat.sub_zero, tkS, appE, List.append_nil]
      refine ⟨fun h3 => ⟨⟨by omega, by omega⟩, hN2 (k + 1, true) _ (by simp only [u_E0, u_E1, u_M0, u_M1, w_setE0, w_setE1, w_setM0, w_setM1, reduceIte, Nat.reduceEqDiff]; exact ⟨by repeat' (first | exact trivial | refine ⟨.inr rfl, ?_⟩), by repeat' (first | exact trivial | refine ⟨rfl, ?_⟩), by first | rfl | simp [closedB, refsIn, refsInL, refsInO, dom, refsInL_nr, *], by first | rfl | simp [keepB, dom]⟩) ⟨by simp only; omega, sn _ (by simp)⟩ (by simp only; omega)⟩, fun h3 => ⟨⟨by omega, by omega⟩, ?_⟩⟩
      have hf := fin (by omega)
      have e := a2 (hf.1 rfl)
      exact hN (i + 1) _ (by simp only [e]; simp only [u_E0, u_E1, u_M0, u_M1, w_setE0, w_setE1, w_setM0, w_setM1, reduceIte, Nat.reduceEqDiff]; exact ⟨by repeat' (first | exact trivial | refine ⟨.inr rfl, ?_⟩), by repeat' (first | exact trivial | refine ⟨rfl, ?_⟩), by first | rfl | simp [closedB, refsIn, refsInL, refsInO, dom, refsInL_nr, *], by first | rfl | simp [keepB, dom]⟩) (by omega) (by omega)
  · have e : i = (whoOf zs o.nx).length := by omega
    subst e
    refine ⟨fun h' => absurd h' (by omega), fun _ => ?_⟩
    trivial
def t_sKeeps : List AV → Option (Prop × AV)
  | [.sl zst 5 zsx, .str me, .agg [.str o_fl, .int .i64 o_st, .int .i64 o_tn, .str o_dst, .int .i64 o_la, .int .i64 o_nr, .sl 0 6 o_tu, .int .i64 o_wi, .sl 0 6 o_nx, .sl 0 1 o_gr, .bool o_sent]] => some ((((zsx.map unZone).map Zone.row = zsx) ∧ ((o_tu.map unBox).map Box6.row = o_tu) ∧ ((o_nx.map unBox).map Box6.row = o_nx) ∧ ((o_gr.map unS).map srow = o_gr)) ∧ ((zsx.map unZone).length ≤ 1048576), .sl 0 8 ((keepS (zsx.map unZone) me (Own.mk o_fl o_st o_tn o_dst o_la o_nr (o_tu.map unBox) o_wi (o_nx.map unBox) (o_gr.map unS) o_sent)).map (Word.row 0)))
  | _ => none
theorem h_sKeeps : ∀ args p v, t_sKeeps args = some (p, v) → p → Contract P 40 args [] v [] ∧ noref v = true ∧ No99 v := by
  intro args p v h1 h2
  unfold t_sKeeps at h1
  split at h1
  · rename_i zst zsx me o_fl o_st o_tn o_dst o_la o_nr o_tu o_wi o_nx o_gr o_sent
    cases h1
    obtain ⟨⟨e0, e1, e2, e3⟩, HP⟩ := h2
    have := c_sKeeps zst (zsx.map unZone) me (Own.mk o_fl o_st o_tn o_dst o_la o_nr (o_tu.map unBox) o_wi (o_nx.map unBox) (o_gr.map unS) o_sent) HP
    exact ⟨by simpa only [e0, e1, e2, e3, Own.row] using this, rfl, by simp only [No99]; exact ⟨by omega, no99_Word _⟩⟩
  · cases h1
def t_sAsks : List AV → Option (Prop × AV)
  | [.sl zst 5 zsx, .str me, .agg [.str o_fl, .int .i64 o_st, .int .i64 o_tn, .str o_dst, .int .i64 o_la, .int .i64 o_nr, .sl 0 6 o_tu, .int .i64 o_wi, .sl 0 6 o_nx, .sl 0 1 o_gr, .bool o_sent]] => some ((((zsx.map unZone).map Zone.row = zsx) ∧ ((o_tu.map unBox).map Box6.row = o_tu) ∧ ((o_nx.map unBox).map Box6.row = o_nx) ∧ ((o_gr.map unS).map srow = o_gr)) ∧ (zonesOk (zsx.map unZone) ∧ Own.small (Own.mk o_fl o_st o_tn o_dst o_la o_nr (o_tu.map unBox) o_wi (o_nx.map unBox) (o_gr.map unS) o_sent)), .sl 0 8 ((askS (zsx.map unZone) me (Own.mk o_fl o_st o_tn o_dst o_la o_nr (o_tu.map unBox) o_wi (o_nx.map unBox) (o_gr.map unS) o_sent) (whoOf (zsx.map unZone) (Own.nx (Own.mk o_fl o_st o_tn o_dst o_la o_nr (o_tu.map unBox) o_wi (o_nx.map unBox) (o_gr.map unS) o_sent))).length).map (Word.row 0)))
  | _ => none
theorem h_sAsks : ∀ args p v, t_sAsks args = some (p, v) → p → Contract P 39 args [] v [] ∧ noref v = true ∧ No99 v := by
  intro args p v h1 h2
  unfold t_sAsks at h1
  split at h1
  · rename_i zst zsx me o_fl o_st o_tn o_dst o_la o_nr o_tu o_wi o_nx o_gr o_sent
    cases h1
    obtain ⟨⟨e0, e1, e2, e3⟩, HP⟩ := h2
    have := c_sAsks zst (zsx.map unZone) me (Own.mk o_fl o_st o_tn o_dst o_la o_nr (o_tu.map unBox) o_wi (o_nx.map unBox) (o_gr.map unS) o_sent) HP.1 HP.2
    exact ⟨by simpa only [e0, e1, e2, e3, Own.row] using this, rfl, by simp only [No99]; exact ⟨by omega, no99_Word _⟩⟩
  · cases h1
def hMay (zs : List Zone) (me : ByteArray) (b : Book) : Prop := (zonesOk zs ∧ bookOk zs b) ∧ 0 ≤ zAt zs me
instance (zs : List Zone) (me : ByteArray) (b : Book) : Decidable (hMay zs me b) := by unfold hMay; infer_instance
theorem agL_ws {zs : List Zone} {me : ByteArray} {l : List Own} : ∀ i, (agL zs me l (i + 1)).map VW.w = (agL zs me l i).map VW.w ++ (agW zs me (l.getD i default)).map VW.w := fun i => by rw [agL, List.map_append]
theorem agW_ge {zs : List Zone} {me : ByteArray} {o : Own} (h1 : o.st = 2) : (agW zs me o).map VW.w = [(giveW me o).w] := by unfold agW; rw [if_pos h1]; rfl
theorem agW_cl {zs : List Zone} {me : ByteArray} {o : Own} (h1 : ¬ o.st = 2) (h2 : o.sent = true) : (agW zs me o).map VW.w = [(clearW me o).w] := by unfold agW; rw [if_neg h1, if_pos h2]; rfl
theorem agW_as {zs : List Zone} {me : ByteArray} {o : Own} (hz : zonesOk zs) (h1 : ¬ o.st = 2) (h2 : ¬ o.sent = true) (h3 : 0 < o.wi) : (agW zs me o).map VW.w = askS zs me o (whoOf zs o.nx).length := by unfold agW; rw [if_neg h1, if_neg h2, if_pos h3, askS_eq hz]
theorem agW_ke {zs : List Zone} {me : ByteArray} {o : Own} (h1 : ¬ o.st = 2) (h2 : ¬ o.sent = true) (h3 : ¬ 0 < o.wi) (h4 : o.st = 1) (hl : 0 ≤ o.la) : (agW zs me o).map VW.w = keepS zs me o := by unfold agW; rw [if_neg h1, if_neg h2, if_neg h3, if_pos h4, keepS_ag hl]
theorem agW_no {zs : List Zone} {me : ByteArray} {o : Own} (h1 : ¬ o.st = 2) (h2 : ¬ o.sent = true) (h3 : ¬ 0 < o.wi) (h4 : ¬ o.st = 1) : (agW zs me o).map VW.w = [] := by unfold agW; rw [if_neg h1, if_neg h2, if_neg h3, if_neg h4]; rfl
def agS (zs : List Zone) (me : ByteArray) (b : Book) (i : Nat) : List Word := (agL zs me b.own i).map VW.w
theorem c_mayHand (t : Nat) (zs : List Zone) (me : ByteArray) (b : Book) (hb : b.small) (hz : zs.length ≤ 4294967295) : Contract P 45 [.sl t 5 (zs.map Zone.row), .str me, .agg (b.row 0)] [] (.bool (decide (hMay zs me b))) [] := by
  simp only [Book.row]
  refine fn_sound (((Env.nil P).add 72 t_hBookOk h_hBookOk).add 86 t_zoneAt h_zoneAt) hm k_impl_mayHand (nlb rfl) rfl ?_; unfold s_impl_mayHand; simp (maxSteps := 2000000) only [bitvec_to_nat, reduceIte, Nat.reduceEqDiff, Nat.reduceAdd, Nat.reduceLeDiff, reduceCtorEq, Nat.reduceBEq, Nat.reduceLT, Nat.reduceMod, fmc, t_hBookOk, t_zoneAt, bXH, Zone.row, Box6.row, appE, rowsOf, srow, irow, bHX, Word.row, Own.row, Part.row, Seen.row, Book.row, Nat.sub_zero]
  repeat' (first | with_reducible apply And.intro | with_reducible intro _)
  all_goals first
    | omega
    | exact hb
    | (simp only [hMay]; grind)
    | grind [hMay]
def t_mayHand : List AV → Option (Prop × AV)
  | [.sl zst 5 zsx, .str me, .agg [.sl 0 11 b_own, .sl 0 3 b_parts, .sl 0 2 b_seen]] => some ((((zsx.map unZone).map Zone.row = zsx) ∧ ((b_own.map unOwn).map (Own.row 0) = b_own) ∧ ((b_parts.map unPart).map (Part.row 0) = b_parts) ∧ ((b_seen.map unSeen).map Seen.row = b_seen)) ∧ (Book.small (Book.mk (b_own.map unOwn) (b_parts.map unPart) (b_seen.map unSeen)) ∧ (zsx.map unZone).length ≤ 4294967295), .bool (decide (hMay (zsx.map unZone) me (Book.mk (b_own.map unOwn) (b_parts.map unPart) (b_seen.map unSeen)))))
  | _ => none
theorem h_mayHand : ∀ args p v, t_mayHand args = some (p, v) → p → Contract P 45 args [] v [] ∧ noref v = true ∧ No99 v := by
  intro args p v h1 h2
  unfold t_mayHand at h1
  split at h1
  · rename_i zst zsx me b_own b_parts b_seen
    cases h1
    obtain ⟨⟨e0, e1, e2, e3⟩, HP⟩ := h2
    have := c_mayHand zst (zsx.map unZone) me (Book.mk (b_own.map unOwn) (b_parts.map unPart) (b_seen.map unSeen)) HP.1 HP.2
    exact ⟨by simpa only [e0, e1, e2, e3, Book.row] using this, rfl, trivial⟩
  · cases h1
set_option maxHeartbeats 4000000 in
theorem c_sAgain (t : Nat) (zs : List Zone) (me : ByteArray) (b : Book) (hb : b.small) (hz : zs.length ≤ 1048576) : Contract P 9 [.sl t 5 (zs.map Zone.row), .str me, .agg (b.row 0)] [] (.sl 0 8 ((if hMay zs me b then agS zs me b b.own.length else []).map (Word.row 0))) [] := by
  have tkS : True := trivial
  have hsn : True := trivial
  have hse : True := trivial
  have hb0 := hb
  unfold Book.small at hb
  simp only [Book.row]
  refine fn_sound (((((((Env.nil P).add 35 t_sBookOk h_sBookOk).add 36 t_sZoneAt h_sZoneAt).add 37 t_sGive h_sGive).add 38 t_sClear h_sClear).add 39 t_sAsks h_sAsks).add 40 t_sKeeps h_sKeeps) hm k_spec_HandAgain (nlb rfl) rfl ?_; unfold s_spec_HandAgain; simp (maxSteps := 2000000) only [bitvec_to_nat, reduceIte, Nat.reduceEqDiff, Nat.reduceAdd, Nat.reduceLeDiff, reduceCtorEq, Nat.reduceBEq, Nat.reduceLT, Nat.reduceMod, fmc, t_sBookOk, t_sZoneAt, t_sGive, t_sClear, t_sAsks, t_sKeeps, bXH, Zone.row, Box6.row, appE, rowsOf, srow, irow, bHX, Word.row, Own.row, Part.row, Seen.row, Book.row, Nat.sub_zero, tkS, appE, List.append_nil, w_row, hsn, hse]
  refine ⟨⟨hb0, by omega⟩, fun h1 => ⟨by omega, fun h2 => by rw [if_neg (fun h => by have := h.2; omega)]; rfl, fun h2 => ?_⟩, fun h1 => by rw [if_neg (fun h => h1 h.1)]; rfl⟩
  have hM : hMay zs me b := ⟨h1, by omega⟩
  have hz4 := h1.1.1
  have hb6 := h1.2.1.1
  rw [if_pos hM]
  refine loop_st (fun i : Nat => [(7, .own 110 (agV b.own i) 0 (agS zs me b i).length), (8, .int .i64 i)]) (fun i => [(110, .arr 73 (agV b.own i) 8 ((agS zs me b i).map (Word.row 0)))]) (fun i => i ≤ b.own.length) (fun i => b.own.length - i) 0 (by simp only [u_E0, u_E1, u_M0, u_M1, w_setE0, w_setE1, w_setM0, w_setM1, reduceIte, Nat.reduceEqDiff]; exact ⟨by repeat' (first | exact trivial | refine ⟨.inr rfl, ?_⟩), by repeat' (first | exact trivial | refine ⟨rfl, ?_⟩), by first | rfl | simp [closedB, refsIn, refsInL, refsInO, dom, refsInL_nr, *], by first | rfl | simp [keepB, dom]⟩) (Nat.zero_le _) ?_
  intro i hi NX hN
  have tkS : List.take (agS zs me b i).length ((agS zs me b i).map (Word.row 0)) = (agS zs me b i).map (Word.row 0) := List.take_of_length_le (by simp)
  have hll : (agS zs me b i).length ≤ i * (zs.length + 1) := by unfold agS; rw [List.length_map]; exact agL_len i
  have hvl := agV_le (l := b.own) i
  have hmul : i * (zs.length + 1) ≤ 6 * 5 := Nat.mul_le_mul (by omega) (by omega)
  by_cases h : i < b.own.length
  · have hx := hb.1.2 _ (getD_mem' h)
    have hok := (h1.2.1.2 i h).1
    have hla : 0 ≤ (b.own.getD i default).la := hok.1.2.2.2.1.1
    have hwl : ((agW zs me (b.own.getD i default)).map VW.w).length ≤ 5 := by rw [List.length_map]; have := agW_len (zs := zs) (me := me) (o := b.own.getD i default); omega
    have eW := agL_ws (zs := zs) (me := me) (l := b.own) i
    have eV : ∀ c, agC (b.own.getD i default) = c → agV b.own (i + 1) = agV b.own i + c := fun c e => by rw [agV, e]
    have fin : ∀ L', (agW zs me (b.own.getD i default)).map VW.w = L' → agC (b.own.getD i default) = 1 → NX ⟨[(0, .sl t 5 (zs.map Zone.row)), (1, .str me), (5, .ptr 105 0), (7, .own 110 (agV b.own i + 1) 0 ((agS zs me b i).length + L'.length)), (8, .int .i64 ((i : Int) + 1))],
        [(105, .box [.sl 0 11 (b.own.map (Own.row 0)), .sl 0 3 (b.parts.map (Part.row 0)), .sl 0 2 (b.seen.map Seen.row)]), (110, .arr 73 (agV b.own i + 1) 8 ((agS zs me b i).map (Word.row 0) ++ L'.map (Word.row 0))), (109, .box ((b.own.getD i default).row 0))]⟩ := fun L' e1 e2 => by
      have e3 : agS zs me b (i + 1) = agS zs me b i ++ L' := by unfold agS; rw [eW, e1]
      refine hN (i + 1) _ (by simp only [e3, eV 1 e2, List.length_append, List.map_append]; simp only [u_E0, u_E1, u_M0, u_M1, w_setE0, w_setE1, w_setM0, w_setM1, reduceIte, Nat.reduceEqDiff]; exact ⟨by repeat' (first | exact trivial | refine ⟨.inr rfl, ?_⟩), by repeat' (first | exact trivial | refine ⟨rfl, ?_⟩), by first | rfl | simp [closedB, refsIn, refsInL, refsInO, dom, refsInL_nr, *], by first | rfl | simp [keepB, dom]⟩) (by omega) (by omega)
    have fin0 : (agW zs me (b.own.getD i default)).map VW.w = [] → agC (b.own.getD i default) = 0 → NX ⟨[(0, .sl t 5 (zs.map Zone.row)), (1, .str me), (5, .ptr 105 0), (7, .own 110 (agV b.own i) 0 (agS zs me b i).length), (8, .int .i64 ((i : Int) + 1))],
        [(105, .box [.sl 0 11 (b.own.map (Own.row 0)), .sl 0 3 (b.parts.map (Part.row 0)), .sl 0 2 (b.seen.map Seen.row)]), (110, .arr 73 (agV b.own i) 8 ((agS zs me b i).map (Word.row 0))), (109, .box ((b.own.getD i default).row 0))]⟩ := fun e1 e2 => by
      have e3 : agS zs me b (i + 1) = agS zs me b i := by unfold agS; rw [eW, e1, List.append_nil]
      refine hN (i + 1) _ (by simp only [e3, eV 0 e2, Nat.add_zero]; simp only [u_E0, u_E1, u_M0, u_M1, w_setE0, w_setE1, w_setM0, w_setM1, reduceIte, Nat.reduceEqDiff]; exact ⟨by repeat' (first | exact trivial | refine ⟨.inr rfl, ?_⟩), by repeat' (first | exact trivial | refine ⟨rfl, ?_⟩), by first | rfl | simp [closedB, refsIn, refsInL, refsInO, dom, refsInL_nr, *], by first | rfl | simp [keepB, dom]⟩) (by omega) (by omega)
    by_cases h5 : (b.own.getD i default).sent = true
    · have hsn := h5
      have hse : (Own.mk (b.own.getD i default).fl (b.own.getD i default).st (b.own.getD i default).tn (b.own.getD i default).dst (b.own.getD i default).la (b.own.getD i default).nr (b.own.getD i default).tu (b.own.getD i default).wi (b.own.getD i default).nx (b.own.getD i default).gr true) = b.own.getD i default := by rw [← h5]
      unfold l_spec_HandAgain_0; simp (maxSteps := 2000000) only [bitvec_to_nat, reduceIte, Nat.reduceEqDiff, Nat.reduceAdd, Nat.reduceLeDiff, reduceCtorEq, Nat.reduceBEq, Nat.reduceLT, Nat.reduceMod, fmc, t_sBookOk, t_sZoneAt, t_sGive, t_sClear, t_sAsks, t_sKeeps, bXH, Zone.row, Box6.row, appE, rowsOf, srow, irow, bHX, Word.row, Own.row, Part.row, Seen.row, Book.row, Nat.sub_zero, tkS, appE, List.append_nil, w_row, hsn, hse]
      refine ⟨fun _ => ?_, fun h' => absurd (by omega) h'⟩
      repeat (refine ⟨by omega, ?_⟩)
      refine ⟨fun h1' => ⟨hx, by omega, ⟨by omega, by omega⟩, ?_⟩, fun h1' => ⟨hx, by omega, ⟨by omega, by omega⟩, ?_⟩⟩
      · have := fin _ (agW_ge h1') (by unfold agC; rw [if_pos h1'])
        simp only [List.map_cons, List.map_nil, w_row, Own.row, hsn] at this
        exact this
      · have := fin _ (agW_cl h1' h5) (by unfold agC; rw [if_neg h1', if_pos h5])
        simp only [List.map_cons, List.map_nil, w_row, Own.row, hsn] at this
        exact this
    · have hsn : (b.own.getD i default).sent = false := by simpa using h5
      have hse : (Own.mk (b.own.getD i default).fl (b.own.getD i default).st (b.own.getD i default).tn (b.own.getD i default).dst (b.own.getD i default).la (b.own.getD i default).nr (b.own.getD i default).tu (b.own.getD i default).wi (b.own.getD i default).nx (b.own.getD i default).gr false) = b.own.getD i default := by rw [← hsn]
      unfold l_spec_HandAgain_0; simp (maxSteps := 2000000) only [bitvec_to_nat, reduceIte, Nat.reduceEqDiff, Nat.reduceAdd, Nat.reduceLeDiff, reduceCtorEq, Nat.reduceBEq, Nat.reduceLT, Nat.reduceMod, fmc, t_sBookOk, t_sZoneAt, t_sGive, t_sClear, t_sAsks, t_sKeeps, bXH, Zone.row, Box6.row, appE, rowsOf, srow, irow, bHX, Word.row, Own.row, Part.row, Seen.row, Book.row, Nat.sub_zero, tkS, appE, List.append_nil, w_row, hsn, hse]
      refine ⟨fun _ => ?_, fun h' => absurd (by omega) h'⟩
      repeat (refine ⟨by omega, ?_⟩)
      refine ⟨fun h1' => ⟨hx, by omega, ⟨by omega, by omega⟩, ?_⟩, fun h1' => ⟨fun h3 => ?_, fun h3 => ⟨fun h4 => ?_, fun h4 => ?_⟩⟩⟩
      · have := fin _ (agW_ge h1') (by unfold agC; rw [if_pos h1'])
        simp only [List.map_cons, List.map_nil, w_row, Own.row, hsn] at this
        exact this
      · have e1 := agW_as (me := me) h1.1 h1' h5 h3
        rw [e1] at hwl
        have := fin _ e1 (by unfold agC; rw [if_neg h1', if_neg h5, if_pos h3])
        simp only [Own.row, hsn] at this
        exact ⟨⟨h1.1, hx⟩, by omega, ⟨by omega, by omega⟩, this⟩
      · have e1 := agW_ke (zs := zs) (me := me) h1' h5 h3 h4 hla
        rw [e1] at hwl
        have := fin _ e1 (by unfold agC; rw [if_neg h1', if_neg h5, if_neg h3, if_pos h4])
        simp only [Own.row, hsn] at this
        exact ⟨by omega, by omega, ⟨by omega, by omega⟩, this⟩
      · have := fin0 (agW_no (zs := zs) (me := me) h1' h5 h3 h4) (by unfold agC; rw [if_neg h1', if_neg h5, if_neg h3, if_neg h4])
        simp only [Own.row, hsn] at this
        exact ⟨⟨by omega, by omega⟩, this⟩
  · have e : i = b.own.length := by omega
    subst e
    unfold l_spec_HandAgain_0; simp (maxSteps := 2000000) only [bitvec_to_nat, reduceIte, Nat.reduceEqDiff, Nat.reduceAdd, Nat.reduceLeDiff, reduceCtorEq, Nat.reduceBEq, Nat.reduceLT, Nat.reduceMod, fmc, t_sBookOk, t_sZoneAt, t_sGive, t_sClear, t_sAsks, t_sKeeps, bXH, Zone.row, Box6.row, appE, rowsOf, srow, irow, bHX, Word.row, Own.row, Part.row, Seen.row, Book.row, Nat.sub_zero, tkS, appE, List.append_nil, w_row, hsn, hse]
    exact fun h' => absurd h' (by omega)
end
end Go.Ve

