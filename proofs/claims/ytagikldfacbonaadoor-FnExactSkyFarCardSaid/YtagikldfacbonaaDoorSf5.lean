/- Part 5 of the proof: laws and contracts of functions, each proved; they are joined in the last part. No conditions beyond those that the theorems state. -/
import Derived.Test.YtagikldfacbonaaDoorSf4
set_option linter.all false
namespace Go.Ve
noncomputable section
open Go.Proofs
set_option linter.unusedSimpArgs false
set_option linter.unusedVariables false
set_option maxRecDepth 100000
theorem Qku (a : Nm) : Contract P 96 [.str a] [] (.bool false) [] := by
  refine Qs (Env.nil P) hm Ud (Nat.le_of_ble_eq_true rfl) rfl ?_; unfold Gf; simp (config := { maxSteps := 2000000 }) only [bitvec_to_nat, reduceIte, Nat.reduceEqDiff, Nat.reduceAdd, Nat.reduceLeDiff, reduceCtorEq, Nat.reduceBEq, Nat.reduceLT, Nat.reduceMod, List.forall_mem_cons, Qh, Qj, Qa, QN, Qg, List.take_length, List.length_cons, List.length_nil, Nat.zero_add, QF, QS, QQ, QU, Zone.row, Qe, Qo, Pt.row, Qi, Qu, Aw.row, Qm, QA, Blk.row, Qb, Qk, Sec.row, Qc, Ql, Rw.row, Qn, QB, Qd, Int.toNat_natCast, Nat.sub_zero, List.length_map, List.append_nil]
  all_goals first | trivial | simp
def Qbq : List AV → Option (Prop × AV)
  | [.str a] => some ((True) ∧ (True), .bool false)
  | _ => none
theorem Qkv : ∀ args p v, Qbq args = some (p, v) → p → Contract P 96 args [] v [] ∧ noref v = true ∧ No99 v := by
  intro args p v h1 h2
  unfold Qbq at h1
  split at h1
  · rename_i a
    cases h1
    obtain ⟨_, HP⟩ := h2
    have := Qku a
    exact ⟨this, rfl, trivial⟩
  · cases h1
def sgn (a b : Nm) : Int := if slt a b then -1 else if slt b a then 1 else 0
theorem QcB {a b : Nm} : sgn a b = 0 ↔ a = b := by
  unfold sgn
  rcases V2 a b with h | h | h
  · rw [if_pos h]; constructor
    · intro q; omega
    · rintro rfl; exact absurd h (Jw _)
  · subst h; simp [Jw]
  · rw [if_neg (V1 h), if_pos h]; constructor
    · intro q; omega
    · rintro rfl; exact absurd h (Jw _)
theorem QlA {a b : Nm} : sgn a b < 0 ↔ slt a b := by
  unfold sgn
  by_cases h : slt a b
  · simp [h]
  · by_cases k : slt b a <;> simp [h, k]
theorem QlB (a b : Nm) : Contract P 94 [.str a, .str b] [] (.int .i64 (sgn a b)) [] := by
  refine Qs ((Env.nil P).add 96 Qbq Qkv) hm X0 (Nat.le_of_ble_eq_true rfl) rfl ?_; unfold Yg; simp (config := { maxSteps := 2000000 }) only [bitvec_to_nat, reduceIte, Nat.reduceEqDiff, Nat.reduceAdd, Nat.reduceLeDiff, reduceCtorEq, Nat.reduceBEq, Nat.reduceLT, Nat.reduceMod, List.forall_mem_cons, Qbq, Qh, Qj, Qa, QN, Qg, List.take_length, List.length_cons, List.length_nil, Nat.zero_add, QF, QS, QQ, QU, Zone.row, Qe, Qo, Pt.row, Qi, Qu, Aw.row, Qm, QA, Blk.row, Qb, Qk, Sec.row, Qc, Ql, Rw.row, Qn, QB, Qd, Int.toNat_natCast, Nat.sub_zero, List.length_map, List.append_nil]
  unfold sgn
  repeat' (first | with_reducible apply And.intro | with_reducible intro _)
  all_goals first
    | (simp only [*, if_true, if_false]; done)
    | trace_state
def QcC : List AV → Option (Prop × AV)
  | [.str a, .str b] => some ((True) ∧ (True), .int .i64 (sgn a b))
  | _ => none
theorem QlC : ∀ args p v, QcC args = some (p, v) → p → Contract P 94 args [] v [] ∧ noref v = true ∧ No99 v := by
  intro args p v h1 h2
  unfold QcC at h1
  split at h1
  · rename_i a b
    cases h1
    obtain ⟨_, HP⟩ := h2
    have := QlB a b
    exact ⟨this, rfl, trivial⟩
  · cases h1
def QgA : List Nm → List Nm → Int
  | x :: xs, y :: ys => if sgn x y ≠ 0 then sgn x y else QgA xs ys
  | _, _ => 0
theorem QgB : ∀ {a b : List Nm} {i : Nat}, i < a.length → i < b.length → (∀ j, j < i → a.getD j default = b.getD j default) → sgn (a.getD i default) (b.getD i default) ≠ 0 → QgA a b = sgn (a.getD i default) (b.getD i default)
  | [], _, i, h, _, _, _ => by simp at h
  | _ :: _, [], i, _, h, _, _ => by simp at h
  | x :: a, y :: b, 0, _, _, k, n => by
    simp only [List.getD_cons_zero] at n ⊢
    simp only [QgA, if_pos n]
  | x :: a, y :: b, i + 1, h, hi, k, n => by
    have e := k 0 (by omega)
    simp only [List.getD_cons_zero] at e
    subst e
    have ih := QgB (a := a) (b := b) (i := i) (by simpa using h) (by simpa using hi) (fun j hj => by simpa using k (j + 1) (by omega)) (by simpa using n)
    have z : sgn x x = 0 := QcB.2 rfl
    simp only [QgA, z, ne_eq, not_true_eq_false, if_false, List.getD_cons_succ, ih]
theorem QcD : ∀ a : List Nm, QgA a a = 0
  | [] => rfl
  | x :: a => by
    have z : sgn x x = 0 := QcB.2 rfl
    simp only [QgA, z, ne_eq, not_true_eq_false, if_false, QcD a]
theorem QgC : ∀ {a b : List Nm}, a.length = b.length → (QgA a b < 0 ↔ lx a b)
  | [], [], _ => by simp [QgA, lx]
  | [], _ :: _, h => by simp at h
  | _ :: _, [], h => by simp at h
  | x :: a, y :: b, h => by
    have ih := QgC (a := a) (b := b) (by simpa using h)
    simp only [QgA, lx]
    by_cases e : x = y
    · subst e
      have z : sgn x x = 0 := QcB.2 rfl
      simp only [z, ne_eq, not_true_eq_false, if_false, ih, Jw, false_or, true_and]
    · have n : sgn x y ≠ 0 := fun q => e (QcB.1 q)
      rw [if_pos n, QlA]
      simp only [e, false_and, or_false]
theorem Qkw (t t' : Nat) (a b : List Nm) (hl : a.length = b.length) (h : a.length ≤ 1048576) : Contract P 80 [.sl t 1 (a.map QF), .sl t' 1 (b.map QF)] [] (.int .i64 (QgA a b)) [] := by
  refine Qs ((Env.nil P).add 94 QcC QlC) hm GX (Nat.le_of_ble_eq_true rfl) rfl ?_; unfold Kg; simp (config := { maxSteps := 2000000 }) only [bitvec_to_nat, reduceIte, Nat.reduceEqDiff, Nat.reduceAdd, Nat.reduceLeDiff, reduceCtorEq, Nat.reduceBEq, Nat.reduceLT, Nat.reduceMod, List.forall_mem_cons, QcC, Qh, Qj, Qa, QN, Qg, List.take_length, List.length_cons, List.length_nil, Nat.zero_add, QF, QS, QQ, QU, Zone.row, Qe, Qo, Pt.row, Qi, Qu, Aw.row, Qm, QA, Blk.row, Qb, Qk, Sec.row, Qc, Ql, Rw.row, Qn, QB, Qd, Int.toNat_natCast, Nat.sub_zero, List.length_map, List.append_nil]
  refine QP (fun i : Nat => [(11, .int .i64 i)]) (fun _ => []) (fun i => i ≤ a.length ∧ ∀ j, j < i → a.getD j default = b.getD j default) (fun i => a.length - i) 0 (by simp only [Jz, JA, JB, JC, Qw, Qx, Qy, Qz, reduceIte, Nat.reduceEqDiff]; exact ⟨by repeat' (first | exact trivial | refine ⟨.inr rfl, ?_⟩), by repeat' (first | exact trivial | refine ⟨rfl, ?_⟩), by first | rfl | simp [closedB, Qr, Qp, Qt, dom, Qf, *], by first | rfl | simp [keepB, dom]⟩) ⟨Nat.zero_le _, by intro j hj; omega⟩ ?_
  intro i hi NX hN
  unfold J1; simp (config := { maxSteps := 2000000 }) only [bitvec_to_nat, reduceIte, Nat.reduceEqDiff, Nat.reduceAdd, Nat.reduceLeDiff, reduceCtorEq, Nat.reduceBEq, Nat.reduceLT, Nat.reduceMod, List.forall_mem_cons, QcC, Qh, Qj, Qa, QN, Qg, List.take_length, List.length_cons, List.length_nil, Nat.zero_add, QF, QS, QQ, QU, Zone.row, Qe, Qo, Pt.row, Qi, Qu, Aw.row, Qm, QA, Blk.row, Qb, Qk, Sec.row, Qc, Ql, Rw.row, Qn, QB, Qd, Int.toNat_natCast, Nat.sub_zero, List.length_map, List.append_nil]
  refine ⟨fun q => ⟨by omega, q, fun e => by omega, fun _ => ⟨by omega, by omega, fun e => (QgB (by omega) (by omega) hi.2 e).symm, fun e => ⟨by omega, ?_⟩⟩⟩, fun q => ⟨fun e => by omega, fun _ => ?_⟩⟩
  · refine hN (i + 1) _ (by simp only [Jz, JA, JB, JC, Qw, Qx, Qy, Qz, reduceIte, Nat.reduceEqDiff]; exact ⟨by repeat' (first | exact trivial | refine ⟨.inr rfl, ?_⟩), by repeat' (first | exact trivial | refine ⟨rfl, ?_⟩), by first | rfl | simp [closedB, Qr, Qp, Qt, dom, Qf, *], by first | rfl | simp [keepB, dom]⟩) ?_ ?_
    · refine ⟨by omega, fun j hj => ?_⟩
      rcases Nat.lt_or_ge j i with q2 | q2
      · exact hi.2 j q2
      · rw [show j = i from by omega]; exact QcB.1 e
    · omega
  · rw [Qi2 hl fun j hj => hi.2 j (by omega), QcD]
def Qbr : List AV → Option (Prop × AV)
  | [.sl ut 1 ux, .sl vt 1 vx] => some ((((ux.map unS).map QF = ux) ∧ ((vx.map unS).map QF = vx)) ∧ ((ux.map unS).length = (vx.map unS).length ∧ (ux.map unS).length ≤ 1048576), .int .i64 (QgA (ux.map unS) (vx.map unS)))
  | _ => none
theorem Qkx : ∀ args p v, Qbr args = some (p, v) → p → Contract P 80 args [] v [] ∧ noref v = true ∧ No99 v := by
  intro args p v h1 h2
  unfold Qbr at h1
  split at h1
  · rename_i ut ux vt vx
    cases h1
    obtain ⟨⟨e0, e1⟩, HP⟩ := h2
    have := Qkw ut vt (ux.map unS) (vx.map unS) HP.1 HP.2
    exact ⟨by simpa only [e0, e1] using this, rfl, trivial⟩
  · cases h1
def btf (fu : Int) (u : List Nm) (fw : Int) (w : List Nm) : Prop := fu < fw ∨ (fu = fw ∧ (u.length < w.length ∨ (u.length = w.length ∧ lx u w)))
noncomputable instance (fu : Int) (u : List Nm) (fw : Int) (w : List Nm) : Decidable (btf fu u fw w) := Classical.propDecidable _
theorem QiF (t t' : Nat) (fu fw : Int) (u w : List Nm) (hu : u.length ≤ 1048576) (hw : w.length ≤ 1048576) : Contract P 60 [.agg [.int .i64 fu, .sl t 1 (u.map QF)], .agg [.int .i64 fw, .sl t' 1 (w.map QF)]] [] (.bool (decide (btf fu u fw w))) [] := by
  refine Qs ((Env.nil P).add 80 Qbr Qkx) hm XZ (Nat.le_of_ble_eq_true rfl) rfl ?_; unfold K6; simp (config := { maxSteps := 2000000 }) only [bitvec_to_nat, reduceIte, Nat.reduceEqDiff, Nat.reduceAdd, Nat.reduceLeDiff, reduceCtorEq, Nat.reduceBEq, Nat.reduceLT, Nat.reduceMod, List.forall_mem_cons, Qbr, Qh, Qj, Qa, QN, Qg, List.take_length, List.length_cons, List.length_nil, Nat.zero_add, QF, QS, QQ, QU, Zone.row, Qe, Qo, Pt.row, Qi, Qu, Aw.row, Qm, QA, Blk.row, Qb, Qk, Sec.row, Qc, Ql, Rw.row, Qn, QB, Qd, Int.toNat_natCast, Nat.sub_zero, List.length_map, List.append_nil]
  simp only [decide_eq_decide]
  refine ⟨fun h => ?_, fun h => ⟨fun h2 => ?_, fun h2 => ⟨⟨by omega, hu⟩, ?_⟩⟩⟩
  · unfold btf; exact ⟨.inl, fun q => q.elim id fun q => absurd q.1 h⟩
  · unfold btf; exact ⟨fun q => .inr ⟨h, .inl (by omega)⟩, fun q => q.elim (fun q => by omega) fun q => q.2.elim (fun q => by omega) fun q => by omega⟩
  · rw [QgC (by omega)]
    unfold btf; exact ⟨fun q => .inr ⟨h, .inr ⟨by omega, q⟩⟩, fun q => q.elim (fun q => by omega) fun q => q.2.elim (fun q => by omega) fun q => q.2⟩
def JF : List AV → Option (Prop × AV)
  | [.agg [.int .i64 fu, .sl ut 1 ux], .agg [.int .i64 fw, .sl wt 1 wx]] => some (((ux.map unS).map QF = ux ∧ (wx.map unS).map QF = wx) ∧ (ux.map unS).length ≤ 1048576 ∧ (wx.map unS).length ≤ 1048576, .bool (decide (btf fu (ux.map unS) fw (wx.map unS))))
  | _ => none
theorem QiG : ∀ args p v, JF args = some (p, v) → p → Contract P 60 args [] v [] ∧ noref v = true ∧ No99 v := by
  intro args p v h1 h2
  unfold JF at h1
  split at h1
  · rename_i fu ut ux fw wt wx
    cases h1
    obtain ⟨⟨e0, e1⟩, HP⟩ := h2
    have := QiF ut wt fu fw (ux.map unS) (wx.map unS) HP.1 HP.2
    exact ⟨by simpa only [e0, e1] using this, rfl, trivial⟩
  · cases h1
theorem QgD (t : Nat) (w : List Nm) (h0 : 0 < w.length) (hw : w.length ≤ 1048576) : Contract P 59 [.sl t 1 (w.map QF)] [] (.own 105 1 0 w.length) [(105, .arr 9 1 1 (w.map QF))] := by
  have tkc : List.take w.length (w.map QF) = w.map QF := List.take_of_length_le (by simp)
  have hne : True := trivial
  refine Qs (Env.nil P) hm Xj (Nat.le_of_ble_eq_true rfl) rfl ?_; unfold Ks; simp (config := { maxSteps := 2000000 }) only [bitvec_to_nat, reduceIte, Nat.reduceEqDiff, Nat.reduceAdd, Nat.reduceLeDiff, reduceCtorEq, Nat.reduceBEq, Nat.reduceLT, Nat.reduceMod, List.forall_mem_cons, Q4, Jd, Q3, JG, keepB, Je, Kb, Qh, Qj, Qa, QN, Qg, List.take_length, List.length_cons, List.length_nil, Nat.zero_add, QF, QS, QQ, QU, Zone.row, Qe, Qo, Pt.row, Qi, Qu, Aw.row, Qm, QA, Blk.row, Qb, Qk, Sec.row, Qc, Ql, Rw.row, Qn, QB, Qd, Int.toNat_natCast, Nat.sub_zero, List.length_map, List.append_nil, tkc, hne]
  exact ⟨h0, by omega, by simp [Qr], rfl⟩
end
end Go.Ve

namespace Go.Ve
noncomputable section
open Go.Proofs
set_option linter.unusedSimpArgs false
set_option linter.unusedVariables false
set_option maxRecDepth 100000
abbrev ML := List (Nm × List Nm)
def J2 : ML → Nm → Option (List Nm)
  | [], _ => none
  | (k, v) :: r, a => if k = a then some v else J2 r a
def QgS : ML → Nm → List Nm → ML
  | [], b, x => [(b, x)]
  | (k, v) :: r, b, x => if k = b then (k, x) :: r else (k, v) :: QgS r b x
theorem QcE {b : Nm} {x : List Nm} : ∀ (L : ML), J2 (QgS L b x) = bup (J2 L) b x
  | [] => by funext v; simp only [QgS, J2, bup]; by_cases h : b = v <;> simp [h, eq_comm]
  | (k, w) :: r => by
    funext v
    have ih := congrFun (QcE (b := b) (x := x) r) v
    simp only [QgS]
    by_cases h : k = b
    · subst h
      simp only [if_true, J2, bup]
      by_cases h2 : k = v
      · subst h2; simp
      · simp [h2, Ne.symm h2]
    · simp only [h, if_false, J2, bup] at ih ⊢
      by_cases h2 : k = v
      · subst h2; simp [h]
      · simp only [h2, if_false]; exact ih
def wv (d : Nm → Nm → Int) (w : List Nm) : AV := .agg [.int .i64 (KX d w), .sl 0 1 (w.map QF)]
def esL (d : Nm → Nm → Int) (L : ML) : List (AV × AV) := L.map fun p => (.str p.1, wv d p.2)
theorem Qbs {a b : Nm} : KW (.str a) (.str b) = decide (a = b) := Qep
theorem Jy {d : Nm → Nm → Int} {a : Nm} {z : AV} : ∀ {L : ML}, XX (esL d L) (.str a) z = (match J2 L a with | some w => wv d w | none => z)
  | [] => rfl
  | (k, v) :: r => by
    have ih := Jy (d := d) (a := a) (z := z) (L := r)
    unfold esL at ih ⊢
    simp only [List.map_cons, XX, Qbs, J2, decide_eq_true_eq]
    by_cases h : k = a
    · simp [h]
    · simp only [h, if_false]; exact ih
theorem JQ {d : Nm → Nm → Int} {a : Nm} : ∀ {L : ML}, QgT (esL d L) (.str a) = (J2 L a).isSome
  | [] => rfl
  | (k, v) :: r => by
    have ih := JQ (d := d) (a := a) (L := r)
    unfold esL at ih ⊢
    simp only [List.map_cons, QgT, Qbs, J2]
    by_cases h : k = a
    · simp [h]
    · simp only [h, decide_false, Bool.false_or, if_false]; exact ih
theorem QgE {d : Nm → Nm → Int} {b : Nm} {x : List Nm} : ∀ {L : ML}, Zt (esL d L) (.str b) (wv d x) = esL d (QgS L b x)
  | [] => rfl
  | (k, v) :: r => by
    have ih := QgE (d := d) (b := b) (x := x) (L := r)
    unfold esL at ih ⊢
    simp only [List.map_cons, Zt, Qbs, QgS, decide_eq_true_eq]
    by_cases h : k = b
    · simp [h]
    · simp only [h, if_false, List.map_cons, ih]
theorem QeK {s : Sky} (hv : s.valid) (nm : Nm) : (ptC s nm).inn := by
  by_cases h : 0 ≤ JD s.pts nm
  · exact Zs hv h
  · have e : (JD s.pts nm).toNat = 0 := by omega
    unfold ptC
    rw [e]
    by_cases hn : 0 < s.pts.length
    · have h2 := (hv.2.1.2 0 hn).2.2.1
      have h3 := hv.1
      unfold J0 at h2
      unfold KY at h3
      simp only [Cell.inn]; omega
    · have : s.pts = [] := List.length_eq_zero_iff.1 (by omega)
      rw [this]
      simp only [Cell.inn, List.getD_nil]
      exact ⟨⟨Int.le_refl _, by decide⟩, ⟨Int.le_refl _, by decide⟩⟩
theorem QlD {s : Sky} (hv : s.valid) (a b : Nm) : 0 ≤ dS s a b ∧ dS s a b ≤ 15 := QeI (QeK hv a) (QeK hv b)
theorem VE {s : Sky} (hv : s.valid) {a : Nm} (h : 0 ≤ JD s.pts a) : QcI 0 (.str a) := by
  obtain ⟨p1, p2, _⟩ := Gs h
  have hk := (hv.2.1.2 _ p1).1.1.2
  rw [p2] at hk
  refine ⟨a, rfl, ?_⟩
  rw [Js]; unfold maxLen; omega
/-- An Qly that is done with. -/
def Fx (d : Nm → Nm → Int) (L : ML) (a b : Nm) : Prop := ∀ w, J2 L a = some w → ∃ o, J2 L b = some o ∧ ¬ bt d (w ++ [b]) o
def PR (s : Sky) (fr : Nm) (L0 L : ML) (ag : Bool) (S : Nm → Nm → Prop) : Prop := BInv (YN s) (dS s) (Jj s) fr (J2 L) ∧ (ag = false ∧ L = L0 ∧ (∀ a b, S a b → Fx (dS s) L a b) ∨ ag = true ∧ tot (dS s) (Jj s) (J2 L) < tot (dS s) (Jj s) (J2 L0))
theorem PR.weak {s : Sky} {fr : Nm} {L0 L : ML} {ag : Bool} {S S' : Nm → Nm → Prop} (h : PR s fr L0 L ag S) (k : ∀ a b, S' a b → S a b) : PR s fr L0 L ag S' := ⟨h.1, h.2.elim (fun q => .inl ⟨q.1, q.2.1, fun a b m => q.2.2 a b (k a b m)⟩) .inr⟩
theorem PR.skip {s : Sky} {fr : Nm} {L0 L : ML} {ag : Bool} {S : Nm → Nm → Prop} {x y : Nm} (h : PR s fr L0 L ag S) (k : Fx (dS s) L x y) : PR s fr L0 L ag (fun a b => S a b ∨ (a = x ∧ b = y)) :=
  ⟨h.1, h.2.elim (fun q => .inl ⟨q.1, q.2.1, fun a b m => m.elim (q.2.2 a b) fun e => by rw [e.1, e.2]; exact k⟩) .inr⟩
theorem PR.put {s : Sky} (hv : s.valid) {fr : Nm} {L0 L : ML} {ag : Bool} {S S' : Nm → Nm → Prop} {x y : Nm} {w : List Nm} (h : PR s fr L0 L ag S) (hx : J2 L x = some w) (ha : YN s x y) (hn : J2 L y = none ∨ ∃ o, J2 L y = some o ∧ bt (dS s) (w ++ [y]) o) : PR s fr L0 (QgS L y (w ++ [y])) true S' := by
  have h1 := h.1.upd (Qiy s) hx (XP hv ha) ha hn
  have h2 := h.1.tot_lt (Qiy s) hx (XP hv ha) ha hn
  rw [← QcE] at h1 h2
  refine ⟨h1, .inr ⟨rfl, ?_⟩⟩
  rcases h.2 with ⟨_, e, _⟩ | ⟨_, q⟩
  · subst e; exact h2
  · omega
end
end Go.Ve

namespace Go.Ve
noncomputable section
open Go.Proofs
set_option linter.unusedSimpArgs false
set_option linter.unusedVariables false
set_option maxRecDepth 100000
def QeL (p : Nm × Nm) : List AV := [.str p.1, .str p.2]
def QgF (s : Sky) (i k : Nat) (a b : Nm) : Prop := k < (s.aws.getD i default).pts.length ∧ 0 < k ∧ Qly (s.aws.getD i default).pts a b k
def S1 (s : Sky) (i : Nat) (a b : Nm) : Prop := ∃ i', i' < i ∧ i' < s.aws.length ∧ ∃ k, QgF s i' k a b
def S2 (s : Sky) (i k : Nat) (a b : Nm) : Prop := S1 s i a b ∨ ∃ k', k' < k ∧ QgF s i k' a b
set_option maxHeartbeats 4000000 in
theorem Qi3 (s : Sky) (fr : Nm) (hs : s.small) (hv : s.valid) (hf : 0 ≤ JD s.pts fr) : ∃ L : ML, (BInv (YN s) (dS s) (Jj s) fr (J2 L) ∧ ∀ a b, YN s a b → Fx (dS s) L a b) ∧ Contract P 27 [.agg (s.row 0), .str fr] [] (.ptr 119 0) [(119, .mp 0 (esL (dS s) L))] := by
  have kf := VE hv hf
  have hs' := hs
  unfold Sky.small at hs'
  have hR : True := trivial
  have elp : True := trivial
  have k1 : True := trivial
  have k2 : True := trivial
  have l1 : True := trivial
  have l2 : True := trivial
  have t1 : True := trivial
  refine QbW ((((Env.nil P).add 26 Jo QeG).add 58 Yh Qk3).add 60 JF QiG) Go.Ve.hm Vc (Nat.le_of_ble_eq_true rfl) rfl (fun L : ML => BInv (YN s) (dS s) (Jj s) fr (J2 L) ∧ ∀ a b, YN s a b → Fx (dS s) L a b) (fun _ => .ptr 119 0) (fun L => [(119, .mp 0 (esL (dS s) L))]) ?_
  unfold Xf
  simp only [Sky.row]
  simp (config := { maxSteps := 2000000 }) only [bitvec_to_nat, reduceIte, Nat.reduceEqDiff, Nat.reduceAdd, Nat.reduceLeDiff, reduceCtorEq, Nat.reduceBEq, Nat.reduceLT, Nat.reduceMod, List.forall_mem_cons, Q4, Jd, Q3, JG, keepB, Je, Kb, Jo, Yh, JF, Qh, Qj, Qa, QN, Qg, List.take_length, List.length_cons, List.length_nil, Nat.zero_add, QF, QS, QQ, QU, Zone.row, Qe, Qo, Pt.row, Qi, Qu, Aw.row, Qm, QA, Blk.row, Qb, Qk, Sec.row, Qc, Ql, Rw.row, Qn, QB, Qd, Int.toNat_natCast, Nat.sub_zero, List.length_map, List.append_nil, kf, hR, QeL, elp, k1, k2, JQ, Jy, l1, l2, Option.isSome_some, Option.isSome_none, wv, t1, Jn, Jm, Zt, noref, Q0, Int.reduceToNat, Nat.mul_one, Nat.reduceMul]
  have e0 : [(AV.str fr, AV.agg [AV.int IntKind.i64 0, AV.sl 0 1 [[AV.str fr]]])] = esL (dS s) [(fr, [fr])] := rfl
  rw [e0]
  have b0 : BInv (YN s) (dS s) (Jj s) fr (J2 [(fr, [fr])]) := by
    have := BInv.start (adj := YN s) (d := dS s) (names := Jj s) fr (Up hf)
    have e : (fun v => if v = fr then some [fr] else none) = J2 [(fr, [fr])] := by
      funext v; simp only [J2]; by_cases h : v = fr
      · subst h; simp
      · simp [h, Ne.symm h]
    rw [e] at this; exact this
  have cl : ∀ (E : List (Nat × AV)) (es : List (AV × AV)), (E.all fun q => Qr [102, 119] q.2) = true → closedB ⟨E, [(102, .box [.int .i64 s.w, .int .i64 s.h, .int .i64 s.lv, .sl 0 3 (s.pts.map Pt.row), .sl 0 2 (s.aws.map (Aw.row 0)), .sl 0 2 (s.secs.map (Sec.row 0)), .sl 0 4 (s.rws.map Rw.row)]), (119, .mp 0 es)]⟩ = true := fun E es hE => by
    simp only [closedB, Bool.and_eq_true]
    exact ⟨hE, by simp [Qt, Qp, Qr]⟩
  refine Wy (fun a : ML × Bool => ⟨[(2, .ptr 102 0), (5, .ptr 119 0), (6, .bool a.2)], [(102, .box [.int .i64 s.w, .int .i64 s.h, .int .i64 s.lv, .sl 0 3 (s.pts.map Pt.row), .sl 0 2 (s.aws.map (Aw.row 0)), .sl 0 2 (s.secs.map (Sec.row 0)), .sl 0 4 (s.rws.map Rw.row)]), (119, .mp 0 (esL (dS s) a.1))]⟩) (fun a => BInv (YN s) (dS s) (Jj s) fr (J2 a.1) ∧ (a.2 = false → ∀ x y, YN s x y → Fx (dS s) a.1 x y)) (fun a => 2 * tot (dS s) (Jj s) (J2 a.1) + if a.2 = true then 1 else 0) ([(fr, [fr])], true) ?_ ⟨b0, fun h => by cases h⟩ ?_
  · exact ⟨by repeat' (first | exact trivial | refine ⟨.inr rfl, ?_⟩), ⟨rfl, rfl, trivial⟩, cl _ _ (by simp [Qr]), by simp [keepB, dom]⟩
  rintro ⟨L0, ag⟩ ⟨hb0, hfx⟩ NX hN
  simp only at hb0 hfx ⊢
  cases ag
  · unfold Km; simp (config := { maxSteps := 2000000 }) only [bitvec_to_nat, reduceIte, Nat.reduceEqDiff, Nat.reduceAdd, Nat.reduceLeDiff, reduceCtorEq, Nat.reduceBEq, Nat.reduceLT, Nat.reduceMod, List.forall_mem_cons, Q4, Jd, Q3, JG, keepB, Je, Kb, Jo, Yh, JF, Qh, Qj, Qa, QN, Qg, List.take_length, List.length_cons, List.length_nil, Nat.zero_add, QF, QS, QQ, QU, Zone.row, Qe, Qo, Pt.row, Qi, Qu, Aw.row, Qm, QA, Blk.row, Qb, Qk, Sec.row, Qc, Ql, Rw.row, Qn, QB, Qd, Int.toNat_natCast, Nat.sub_zero, List.length_map, List.append_nil, kf, hR, QeL, elp, k1, k2, JQ, Jy, l1, l2, Option.isSome_some, Option.isSome_none, wv, t1, Jn, Jm, Zt, noref, Q0, Int.reduceToNat, Nat.mul_one, Nat.reduceMul]
    exact ⟨L0, ⟨hb0, hfx rfl⟩, rfl, by simp [Qr], rfl⟩
  · unfold Km; simp (config := { maxSteps := 2000000 }) only [bitvec_to_nat, reduceIte, Nat.reduceEqDiff, Nat.reduceAdd, Nat.reduceLeDiff, reduceCtorEq, Nat.reduceBEq, Nat.reduceLT, Nat.reduceMod, List.forall_mem_cons, Q4, Jd, Q3, JG, keepB, Je, Kb, Jo, Yh, JF, Qh, Qj, Qa, QN, Qg, List.take_length, List.length_cons, List.length_nil, Nat.zero_add, QF, QS, QQ, QU, Zone.row, Qe, Qo, Pt.row, Qi, Qu, Aw.row, Qm, QA, Blk.row, Qb, Qk, Sec.row, Qc, Ql, Rw.row, Qn, QB, Qd, Int.toNat_natCast, Nat.sub_zero, List.length_map, List.append_nil, kf, hR, QeL, elp, k1, k2, JQ, Jy, l1, l2, Option.isSome_some, Option.isSome_none, wv, t1, Jn, Jm, Zt, noref, Q0, Int.reduceToNat, Nat.mul_one, Nat.reduceMul]
    clear hfx
    refine Wy (fun a : (ML × Bool) × Nat => ⟨[(2, .ptr 102 0), (5, .ptr 119 0), (6, .bool a.1.2), (27, .sl 0 2 (s.aws.map (Aw.row 0))), (28, .int .i64 (s.aws.length : Nat)), (29, .int .i64 (a.2 : Nat))], [(102, .box [.int .i64 s.w, .int .i64 s.h, .int .i64 s.lv, .sl 0 3 (s.pts.map Pt.row), .sl 0 2 (s.aws.map (Aw.row 0)), .sl 0 2 (s.secs.map (Sec.row 0)), .sl 0 4 (s.rws.map Rw.row)]), (119, .mp 0 (esL (dS s) a.1.1))]⟩) (fun a => a.2 ≤ s.aws.length ∧ PR s fr L0 a.1.1 a.1.2 (S1 s a.2)) (fun a => s.aws.length - a.2) ((L0, false), 0) ?_ ⟨Nat.zero_le _, hb0, .inl ⟨rfl, rfl, fun a b h => by obtain ⟨i', h1, _⟩ := h; omega⟩⟩ ?_
    · exact ⟨by repeat' (first | exact trivial | refine ⟨.inr rfl, ?_⟩), ⟨rfl, rfl, trivial⟩, cl _ _ (by simp [Qr, Qp]), by simp [keepB, dom]⟩
    rintro ⟨⟨L, ag⟩, i⟩ ⟨hi, hp⟩ NX2 hN2
    simp only at hi hp ⊢
    by_cases hil : i < s.aws.length
    · unfold Kl; simp (config := { maxSteps := 2000000 }) only [bitvec_to_nat, reduceIte, Nat.reduceEqDiff, Nat.reduceAdd, Nat.reduceLeDiff, reduceCtorEq, Nat.reduceBEq, Nat.reduceLT, Nat.reduceMod, List.forall_mem_cons, Q4, Jd, Q3, JG, keepB, Je, Kb, Jo, Yh, JF, Qh, Qj, Qa, QN, Qg, List.take_length, List.length_cons, List.length_nil, Nat.zero_add, QF, QS, QQ, QU, Zone.row, Qe, Qo, Pt.row, Qi, Qu, Aw.row, Qm, QA, Blk.row, Qb, Qk, Sec.row, Qc, Ql, Rw.row, Qn, QB, Qd, Int.toNat_natCast, Nat.sub_zero, List.length_map, List.append_nil, kf, hR, QeL, elp, k1, k2, JQ, Jy, l1, l2, Option.isSome_some, Option.isSome_none, wv, t1, Jn, Jm, Zt, noref, Q0, Int.reduceToNat, Nat.mul_one, Nat.reduceMul]
      refine ⟨fun _ => ⟨by omega, by omega, ?_⟩, fun h => absurd (by omega) h⟩
      have hPl := Sky.small_aw hs (i := i) hil
      have clA : ∀ (E : List (Nat × AV)) (es : List (AV × AV)), (E.all fun q => Qr [102, 119, 108] q.2) = true → closedB ⟨E, [(102, .box [.int .i64 s.w, .int .i64 s.h, .int .i64 s.lv, .sl 0 3 (s.pts.map Pt.row), .sl 0 2 (s.aws.map (Aw.row 0)), .sl 0 2 (s.secs.map (Sec.row 0)), .sl 0 4 (s.rws.map Rw.row)]), (119, .mp 0 es), (108, .box [.str (s.aws.getD i default).nm, .sl 0 1 ((s.aws.getD i default).pts.map QF)])]⟩ = true := fun E es hE => by
        simp only [closedB, Bool.and_eq_true]
        exact ⟨hE, by simp [Qt, Qp, Qr]⟩
      refine Wy (fun a : (ML × Bool) × Nat => ⟨[(2, .ptr 102 0), (5, .ptr 119 0), (6, .bool a.1.2), (8, .ptr 108 0), (9, .int .i64 (a.2 : Nat)), (27, .sl 0 2 (s.aws.map (Aw.row 0))), (28, .int .i64 (s.aws.length : Nat)), (29, .int .i64 (i : Nat))], [(102, .box [.int .i64 s.w, .int .i64 s.h, .int .i64 s.lv, .sl 0 3 (s.pts.map Pt.row), .sl 0 2 (s.aws.map (Aw.row 0)), .sl 0 2 (s.secs.map (Sec.row 0)), .sl 0 4 (s.rws.map Rw.row)]), (119, .mp 0 (esL (dS s) a.1.1)), (108, .box [.str (s.aws.getD i default).nm, .sl 0 1 ((s.aws.getD i default).pts.map QF)])]⟩) (fun a => (1 ≤ a.2 ∧ a.2 ≤ (s.aws.getD i default).pts.length + 1) ∧ PR s fr L0 a.1.1 a.1.2 (S2 s i a.2)) (fun a => (s.aws.getD i default).pts.length + 1 - a.2) ((L, ag), 1) ?_ ⟨⟨by omega, by omega⟩, hp.weak fun a b h => h.elim id fun ⟨k', h1, h2⟩ => by have := h2.2.1; omega⟩ ?_
      · exact ⟨by repeat' (first | exact trivial | refine ⟨.inr rfl, ?_⟩), ⟨rfl, rfl, rfl, trivial⟩, clA _ _ (by simp [Qr, Qp]), by simp [keepB, dom]⟩
      clear hp
      rintro ⟨⟨L, ag⟩, k⟩ ⟨hk, hp⟩ NX3 hN3
      simp only at hk hp ⊢
      have t1 : ((k : Int) - 1).toNat = k - 1 := by omega
      by_cases hkl : k < (s.aws.getD i default).pts.length
      · unfold Kk; simp (config := { maxSteps := 2000000 }) only [bitvec_to_nat, reduceIte, Nat.reduceEqDiff, Nat.reduceAdd, Nat.reduceLeDiff, reduceCtorEq, Nat.reduceBEq, Nat.reduceLT, Nat.reduceMod, List.forall_mem_cons, Q4, Jd, Q3, JG, keepB, Je, Kb, Jo, Yh, JF, Qh, Qj, Qa, QN, Qg, List.take_length, List.length_cons, List.length_nil, Nat.zero_add, QF, QS, QQ, QU, Zone.row, Qe, Qo, Pt.row, Qi, Qu, Aw.row, Qm, QA, Blk.row, Qb, Qk, Sec.row, Qc, Ql, Rw.row, Qn, QB, Qd, Int.toNat_natCast, Nat.sub_zero, List.length_map, List.append_nil, kf, hR, QeL, elp, k1, k2, JQ, Jy, l1, l2, Option.isSome_some, Option.isSome_none, wv, t1, Jn, Jm, Zt, noref, Q0, Int.reduceToNat, Nat.mul_one, Nat.reduceMul]
        refine ⟨fun _ => ⟨⟨by omega, by omega⟩, by omega, by omega, by omega, by omega, by omega, by omega, ⟨by omega, by omega⟩, by omega, by omega, ?_⟩, fun h => absurd (by omega) h⟩
        obtain ⟨EL, hEL⟩ : ∃ EL : List (Nm × Nm), EL = [((s.aws.getD i default).pts.getD (k - 1) default, (s.aws.getD i default).pts.getD k default), ((s.aws.getD i default).pts.getD k default, (s.aws.getD i default).pts.getD (k - 1) default)] := ⟨_, rfl⟩
        have hed : ∀ j, j < 2 → QgF s i k (EL.getD j default).1 (EL.getD j default).2 := fun j hj => by
          have : j = 0 ∨ j = 1 := by omega
          rcases this with rfl | rfl <;> subst hEL
          · exact ⟨hkl, by omega, .inl ⟨rfl, rfl⟩⟩
          · exact ⟨hkl, by omega, .inr ⟨rfl, rfl⟩⟩
        have hEl : EL.length = 2 := by rw [hEL]; rfl
        refine Wy (fun a : (ML × Bool) × Nat => ⟨[(2, .ptr 102 0), (5, .ptr 119 0), (6, .bool a.1.2), (8, .ptr 108 0), (9, .int .i64 (k : Nat)), (27, .sl 0 2 (s.aws.map (Aw.row 0))), (28, .int .i64 (s.aws.length : Nat)), (29, .int .i64 (i : Nat)), (64, .sl 0 2 (EL.map QeL)), (65, .int .i64 2), (66, .int .i64 (a.2 : Nat))], [(102, .box [.int .i64 s.w, .int .i64 s.h, .int .i64 s.lv, .sl 0 3 (s.pts.map Pt.row), .sl 0 2 (s.aws.map (Aw.row 0)), .sl 0 2 (s.secs.map (Sec.row 0)), .sl 0 4 (s.rws.map Rw.row)]), (119, .mp 0 (esL (dS s) a.1.1)), (108, .box [.str (s.aws.getD i default).nm, .sl 0 1 ((s.aws.getD i default).pts.map QF)])]⟩) (fun a => a.2 ≤ 2 ∧ PR s fr L0 a.1.1 a.1.2 (fun x y => S2 s i k x y ∨ ∃ j, j < a.2 ∧ EL.getD j default = (x, y))) (fun a => 2 - a.2) ((L, ag), 0) ?_ ⟨by omega, hp.weak fun a b h => h.elim id fun ⟨j, h1, _⟩ => by omega⟩ ?_
        · exact ⟨by subst hEL; repeat' (first | exact trivial | refine ⟨.inr rfl, ?_⟩), ⟨rfl, rfl, rfl, trivial⟩, clA _ _ (by simp [Qr, Qp]), by simp [keepB, dom]⟩
        clear hp
        rintro ⟨⟨L, ag⟩, j⟩ ⟨hj, hp⟩ NX4 hN4
        simp only at hj hp ⊢
        by_cases hjl : j < 2
        · have ha := hed j hjl
          have hadj : YN s (EL.getD j default).1 (EL.getD j default).2 := ⟨i, hil, k, ha⟩
          obtain ⟨i1, i2⟩ := Qgw hv hadj
          obtain ⟨a1, a2, a3⟩ := Gs i1
          obtain ⟨b1, b2, b3⟩ := Gs i2
          have k1 := VE hv i1
          have k2 := VE hv i2
          have nextS : ∀ j x y, (S2 s i k x y ∨ ∃ j', j' < j + 1 ∧ EL.getD j' default = (x, y)) → (S2 s i k x y ∨ ∃ j', j' < j ∧ EL.getD j' default = (x, y)) ∨ (x = (EL.getD j default).1 ∧ y = (EL.getD j default).2) := fun j x y h => by
            rcases h with h | ⟨j', h1, h2⟩
            · exact .inl (.inl h)
            · rcases Nat.lt_or_ge j' j with q | q
              · exact .inl (.inr ⟨j', q, h2⟩)
              · have e : j' = j := by omega
                subst e; exact .inr (by rw [h2]; exact ⟨rfl, rfl⟩)
          cases hl1 : J2 L (EL.getD j default).1 with
          | none =>
            have l1 := hl1
            unfold JM; simp (config := { maxSteps := 2000000 }) only [bitvec_to_nat, reduceIte, Nat.reduceEqDiff, Nat.reduceAdd, Nat.reduceLeDiff, reduceCtorEq, Nat.reduceBEq, Nat.reduceLT, Nat.reduceMod, List.forall_mem_cons, Q4, Jd, Q3, JG, keepB, Je, Kb, Jo, Yh, JF, Qh, Qj, Qa, QN, Qg, List.take_length, List.length_cons, List.length_nil, Nat.zero_add, QF, QS, QQ, QU, Zone.row, Qe, Qo, Pt.row, Qi, Qu, Aw.row, Qm, QA, Blk.row, Qb, Qk, Sec.row, Qc, Ql, Rw.row, Qn, QB, Qd, Int.toNat_natCast, Nat.sub_zero, List.length_map, List.append_nil, kf, hR, QeL, elp, k1, k2, JQ, Jy, l1, l2, Option.isSome_some, Option.isSome_none, wv, t1, Jn, Jm, Zt, noref, Q0, Int.reduceToNat, Nat.mul_one, Nat.reduceMul]
            refine ⟨fun _ => ⟨by omega, by omega, ⟨by omega, by omega⟩, by omega, ?_⟩, fun h => absurd (by omega) h⟩
            refine hN4 ((L, ag), j + 1) _ ⟨by repeat' (first | exact trivial | refine ⟨.inr rfl, ?_⟩), ⟨rfl, rfl, rfl, trivial⟩, clA _ _ (by simp [Qr, Qp]), by simp [keepB, dom]⟩ ⟨by simp only; omega, ?_⟩ (by simp only; omega)
            exact (hp.skip (x := (EL.getD j default).1) (y := (EL.getD j default).2) fun w hw => by rw [hl1] at hw; cases hw).weak (nextS j)
          | some w =>
            have l1 := hl1
            have hwk := hp.1.w _ _ hl1
            have hwn := hp.1.n _ _ hl1
            have hw0 : 0 < w.length := List.length_pos_iff.2 (Qda hwk)
            have hwl : w.length ≤ 16 := by
              have := Gw hwn.1 hwn.2
              rw [Ji] at this
              exact Nat.le_trans this hv.2.1.1
            have hfb := Qgx (d := dS s) (fun a b => QlD hv a b) w
            have q1 := Zs hv i1
            have q2 := Zs hv i2
            have q3 := QlD hv (EL.getD j default).1 (EL.getD j default).2
            unfold Cell.inn ptC at q1 q2
            simp only at q1 q2
            have hmx : (if max ((s.pts.getD (JD s.pts (EL.getD j default).fst).toNat default).y - (s.pts.getD (JD s.pts (EL.getD j default).snd).toNat default).y) ((s.pts.getD (JD s.pts (EL.getD j default).snd).toNat default).y - (s.pts.getD (JD s.pts (EL.getD j default).fst).toNat default).y) > max ((s.pts.getD (JD s.pts (EL.getD j default).fst).toNat default).x - (s.pts.getD (JD s.pts (EL.getD j default).snd).toNat default).x) ((s.pts.getD (JD s.pts (EL.getD j default).snd).toNat default).x - (s.pts.getD (JD s.pts (EL.getD j default).fst).toNat default).x) then max ((s.pts.getD (JD s.pts (EL.getD j default).fst).toNat default).y - (s.pts.getD (JD s.pts (EL.getD j default).snd).toNat default).y) ((s.pts.getD (JD s.pts (EL.getD j default).snd).toNat default).y - (s.pts.getD (JD s.pts (EL.getD j default).fst).toNat default).y) else max ((s.pts.getD (JD s.pts (EL.getD j default).fst).toNat default).x - (s.pts.getD (JD s.pts (EL.getD j default).snd).toNat default).x) ((s.pts.getD (JD s.pts (EL.getD j default).snd).toNat default).x - (s.pts.getD (JD s.pts (EL.getD j default).fst).toNat default).x)) = dS s (EL.getD j default).1 (EL.getD j default).2 := by
              unfold dS WK Qi1 ptC
              simp only
              split <;> split <;> split <;> omega
            have hC := (QgD 0 w hw0 (by omega)).ren (swp 105 215) (QfR _ _)
            rw [Zg _ _ (show Q0 [AV.sl 0 1 (w.map QF)] = true from rfl)] at hC
            simp only [ren, Qc4, renO, swp, if_true, show 9 < 1000000 from by omega] at hC
            have hfar : KX (dS s) w + dS s (EL.getD j default).1 (EL.getD j default).2 = KX (dS s) (w ++ [(EL.getD j default).2]) := (ZK hwk).symm
            unfold JM; simp (config := { maxSteps := 2000000 }) only [bitvec_to_nat, reduceIte, Nat.reduceEqDiff, Nat.reduceAdd, Nat.reduceLeDiff, reduceCtorEq, Nat.reduceBEq, Nat.reduceLT, Nat.reduceMod, List.forall_mem_cons, Q4, Jd, Q3, JG, keepB, Je, Kb, Jo, Yh, JF, Qh, Qj, Qa, QN, Qg, List.take_length, List.length_cons, List.length_nil, Nat.zero_add, QF, QS, QQ, QU, Zone.row, Qe, Qo, Pt.row, Qi, Qu, Aw.row, Qm, QA, Blk.row, Qb, Qk, Sec.row, Qc, Ql, Rw.row, Qn, QB, Qd, Int.toNat_natCast, Nat.sub_zero, List.length_map, List.append_nil, kf, hR, QeL, elp, k1, k2, JQ, Jy, l1, l2, Option.isSome_some, Option.isSome_none, wv, t1, Jn, Jm, Zt, noref, Q0, Int.reduceToNat, Nat.mul_one, Nat.reduceMul]
            simp only [hmx]
            refine ⟨fun _ => ⟨by omega, by omega, ⟨by omega, by omega⟩, ⟨by omega, by omega⟩, hs, i1, by omega, ⟨by omega, by omega⟩, hs, i2, b3, ⟨by omega, by omega, by omega, by omega⟩, ⟨by omega, by omega, by omega, by omega⟩, ⟨by omega, by omega⟩, ?_⟩, fun h => absurd (by omega) h⟩
            refine ⟨_, _, .inr (.inr (.inl ⟨_, rfl, hC, by simp [getM], by simp [Qr, dom], rfl, by simp [No99], by simp [QeY, Jv]⟩)), ?_⟩
            have tkx : List.take (w.length + 1) (List.map QF w ++ [[AV.str (EL.getD j default).2]]) = (w ++ [(EL.getD j default).2]).map QF := by
              rw [List.take_of_length_le (by simp)]; simp [QF]
            have eP : Zt (esL (dS s) L) (.str (EL.getD j default).2) (.agg [.int .i64 (KX (dS s) (w ++ [(EL.getD j default).2])), .sl 0 1 ((w ++ [(EL.getD j default).2]).map QF)]) = esL (dS s) (QgS L (EL.getD j default).2 (w ++ [(EL.getD j default).2])) := QgE
            cases hl2 : J2 L (EL.getD j default).2 with
            | none =>
              have l2 := hl2
              simp (config := { maxSteps := 2000000 }) only [bitvec_to_nat, reduceIte, Nat.reduceEqDiff, Nat.reduceAdd, Nat.reduceLeDiff, reduceCtorEq, Nat.reduceBEq, Nat.reduceLT, Nat.reduceMod, List.forall_mem_cons, Q4, Jd, Q3, JG, keepB, Je, Kb, Jo, Yh, JF, Qh, Qj, Qa, QN, Qg, List.take_length, List.length_cons, List.length_nil, Nat.zero_add, QF, QS, QQ, QU, Zone.row, Qe, Qo, Pt.row, Qi, Qu, Aw.row, Qm, QA, Blk.row, Qb, Qk, Sec.row, Qc, Ql, Rw.row, Qn, QB, Qd, Int.toNat_natCast, Nat.sub_zero, List.length_map, List.append_nil, kf, hR, QeL, elp, k1, k2, JQ, Jy, l1, l2, Option.isSome_some, Option.isSome_none, wv, t1, Jn, Jm, Zt, noref, Q0, Int.reduceToNat, Nat.mul_one, Nat.reduceMul, tkx, hfar, eP, U3, Qc7, QN, Qg]
              refine ⟨⟨by omega, by omega⟩, by omega, ⟨by omega, by omega⟩, ⟨by omega, by omega⟩, ⟨by omega, by omega⟩, ?_⟩
              exact hN4 ((QgS L (EL.getD j default).2 (w ++ [(EL.getD j default).2]), true), j + 1) _ ⟨by repeat' (first | exact trivial | refine ⟨.inr rfl, ?_⟩), ⟨rfl, rfl, rfl, trivial⟩, clA _ _ (by simp [Qr, Qp]), by simp [keepB, dom]⟩ ⟨by simp only; omega, hp.put hv hl1 hadj (.inl hl2)⟩ (by simp only; omega)
            | some o =>
              have l2 := hl2
              have hwo := Gw (hp.1.n _ _ hl2).1 (hp.1.n _ _ hl2).2
              rw [Ji] at hwo
              have hlo : (w ++ [(EL.getD j default).2]).length ≤ 1048576 := by rw [List.length_append]; simp only [List.length_cons, List.length_nil]; omega
              by_cases hb : btf (KX (dS s) (w ++ [(EL.getD j default).2])) (w ++ [(EL.getD j default).2]) (KX (dS s) o) o
              · simp (config := { maxSteps := 2000000 }) only [bitvec_to_nat, reduceIte, Nat.reduceEqDiff, Nat.reduceAdd, Nat.reduceLeDiff, reduceCtorEq, Nat.reduceBEq, Nat.reduceLT, Nat.reduceMod, List.forall_mem_cons, Q4, Jd, Q3, JG, keepB, Je, Kb, Jo, Yh, JF, Qh, Qj, Qa, QN, Qg, List.take_length, List.length_cons, List.length_nil, Nat.zero_add, QF, QS, QQ, QU, Zone.row, Qe, Qo, Pt.row, Qi, Qu, Aw.row, Qm, QA, Blk.row, Qb, Qk, Sec.row, Qc, Ql, Rw.row, Qn, QB, Qd, Int.toNat_natCast, Nat.sub_zero, List.length_map, List.append_nil, kf, hR, QeL, elp, k1, k2, JQ, Jy, l1, l2, Option.isSome_some, Option.isSome_none, wv, t1, Jn, Jm, Zt, noref, Q0, Int.reduceToNat, Nat.mul_one, Nat.reduceMul, tkx, hfar, eP, U3, Qc7, QN, Qg, hb]
                refine ⟨⟨by omega, by omega⟩, by omega, ⟨by omega, by omega⟩, ⟨hlo, by omega⟩, ⟨by omega, by omega⟩, ⟨by omega, by omega⟩, ?_⟩
                exact hN4 ((QgS L (EL.getD j default).2 (w ++ [(EL.getD j default).2]), true), j + 1) _ ⟨by repeat' (first | exact trivial | refine ⟨.inr rfl, ?_⟩), ⟨rfl, rfl, rfl, trivial⟩, clA _ _ (by simp [Qr, Qp]), by simp [keepB, dom]⟩ ⟨by simp only; omega, hp.put hv hl1 hadj (.inr ⟨o, hl2, hb⟩)⟩ (by simp only; omega)
              · simp (config := { maxSteps := 2000000 }) only [bitvec_to_nat, reduceIte, Nat.reduceEqDiff, Nat.reduceAdd, Nat.reduceLeDiff, reduceCtorEq, Nat.reduceBEq, Nat.reduceLT, Nat.reduceMod, List.forall_mem_cons, Q4, Jd, Q3, JG, keepB, Je, Kb, Jo, Yh, JF, Qh, Qj, Qa, QN, Qg, List.take_length, List.length_cons, List.length_nil, Nat.zero_add, QF, QS, QQ, QU, Zone.row, Qe, Qo, Pt.row, Qi, Qu, Aw.row, Qm, QA, Blk.row, Qb, Qk, Sec.row, Qc, Ql, Rw.row, Qn, QB, Qd, Int.toNat_natCast, Nat.sub_zero, List.length_map, List.append_nil, kf, hR, QeL, elp, k1, k2, JQ, Jy, l1, l2, Option.isSome_some, Option.isSome_none, wv, t1, Jn, Jm, Zt, noref, Q0, Int.reduceToNat, Nat.mul_one, Nat.reduceMul, tkx, hfar, eP, U3, Qc7, QN, Qg, hb]
                refine ⟨⟨by omega, by omega⟩, by omega, ⟨by omega, by omega⟩, ⟨hlo, by omega⟩, ⟨by omega, by omega⟩, ?_⟩
                exact hN4 ((L, ag), j + 1) _ ⟨by repeat' (first | exact trivial | refine ⟨.inr rfl, ?_⟩), ⟨rfl, rfl, rfl, trivial⟩, clA _ _ (by simp [Qr, Qp]), by simp [keepB, dom]⟩ ⟨by simp only; omega, (hp.skip (x := (EL.getD j default).1) (y := (EL.getD j default).2) fun w' hw' => by rw [hl1] at hw'; cases hw'; exact ⟨o, hl2, hb⟩).weak (nextS j)⟩ (by simp only; omega)
        · have ej : j = 2 := by omega
          subst ej
          unfold JM; simp (config := { maxSteps := 2000000 }) only [bitvec_to_nat, reduceIte, Nat.reduceEqDiff, Nat.reduceAdd, Nat.reduceLeDiff, reduceCtorEq, Nat.reduceBEq, Nat.reduceLT, Nat.reduceMod, List.forall_mem_cons, Q4, Jd, Q3, JG, keepB, Je, Kb, Jo, Yh, JF, Qh, Qj, Qa, QN, Qg, List.take_length, List.length_cons, List.length_nil, Nat.zero_add, QF, QS, QQ, QU, Zone.row, Qe, Qo, Pt.row, Qi, Qu, Aw.row, Qm, QA, Blk.row, Qb, Qk, Sec.row, Qc, Ql, Rw.row, Qn, QB, Qd, Int.toNat_natCast, Nat.sub_zero, List.length_map, List.append_nil, kf, hR, QeL, elp, k1, k2, JQ, Jy, l1, l2, Option.isSome_some, Option.isSome_none, wv, t1, Jn, Jm, Zt, noref, Q0, Int.reduceToNat, Nat.mul_one, Nat.reduceMul]
          refine ⟨fun h => absurd h (by omega), fun _ => ⟨⟨by omega, by omega⟩, ?_⟩⟩
          refine hN3 ((L, ag), k + 1) _ ⟨by repeat' (first | exact trivial | refine ⟨.inr rfl, ?_⟩), ⟨rfl, rfl, rfl, trivial⟩, clA _ _ (by simp [Qr, Qp]), by simp [keepB, dom]⟩ ⟨⟨by simp only; omega, by simp only; omega⟩, hp.weak fun x y h => ?_⟩ (by simp only; omega)
          rcases h with h | ⟨k', h1, h2⟩
          · exact .inl (.inl h)
          · rcases Nat.lt_or_ge k' k with q | q
            · exact .inl (.inr ⟨k', q, h2⟩)
            · have e : k' = k := by omega
              subst e; subst hEL
              rcases h2.2.2 with ⟨rfl, rfl⟩ | ⟨rfl, rfl⟩
              · exact .inr ⟨0, by omega, rfl⟩
              · exact .inr ⟨1, by omega, rfl⟩
      · unfold Kk; simp (config := { maxSteps := 2000000 }) only [bitvec_to_nat, reduceIte, Nat.reduceEqDiff, Nat.reduceAdd, Nat.reduceLeDiff, reduceCtorEq, Nat.reduceBEq, Nat.reduceLT, Nat.reduceMod, List.forall_mem_cons, Q4, Jd, Q3, JG, keepB, Je, Kb, Jo, Yh, JF, Qh, Qj, Qa, QN, Qg, List.take_length, List.length_cons, List.length_nil, Nat.zero_add, QF, QS, QQ, QU, Zone.row, Qe, Qo, Pt.row, Qi, Qu, Aw.row, Qm, QA, Blk.row, Qb, Qk, Sec.row, Qc, Ql, Rw.row, Qn, QB, Qd, Int.toNat_natCast, Nat.sub_zero, List.length_map, List.append_nil, kf, hR, QeL, elp, k1, k2, JQ, Jy, l1, l2, Option.isSome_some, Option.isSome_none, wv, t1, Jn, Jm, Zt, noref, Q0, Int.reduceToNat, Nat.mul_one, Nat.reduceMul]
        refine ⟨fun h => absurd h (by omega), fun _ => ⟨⟨by omega, by omega⟩, ?_⟩⟩
        refine hN2 ((L, ag), i + 1) _ ⟨by repeat' (first | exact trivial | refine ⟨.inr rfl, ?_⟩), ⟨rfl, rfl, trivial⟩, cl _ _ (by simp [Qr, Qp]), by simp [keepB, dom]⟩ ⟨by simp only; omega, hp.weak fun x y h => ?_⟩ (by simp only; omega)
        obtain ⟨i', h1, h2, k', h3⟩ := h
        rcases Nat.lt_or_ge i' i with q | q
        · exact .inl ⟨i', q, h2, k', h3⟩
        · have e : i' = i := by omega
          subst e
          exact .inr ⟨k', by have := h3.1; omega, h3⟩
    · have ei : i = s.aws.length := by omega
      subst ei
      unfold Kl; simp (config := { maxSteps := 2000000 }) only [bitvec_to_nat, reduceIte, Nat.reduceEqDiff, Nat.reduceAdd, Nat.reduceLeDiff, reduceCtorEq, Nat.reduceBEq, Nat.reduceLT, Nat.reduceMod, List.forall_mem_cons, Q4, Jd, Q3, JG, keepB, Je, Kb, Jo, Yh, JF, Qh, Qj, Qa, QN, Qg, List.take_length, List.length_cons, List.length_nil, Nat.zero_add, QF, QS, QQ, QU, Zone.row, Qe, Qo, Pt.row, Qi, Qu, Aw.row, Qm, QA, Blk.row, Qb, Qk, Sec.row, Qc, Ql, Rw.row, Qn, QB, Qd, Int.toNat_natCast, Nat.sub_zero, List.length_map, List.append_nil, kf, hR, QeL, elp, k1, k2, JQ, Jy, l1, l2, Option.isSome_some, Option.isSome_none, wv, t1, Jn, Jm, Zt, noref, Q0, Int.reduceToNat, Nat.mul_one, Nat.reduceMul]
      refine ⟨fun h => absurd h (by omega), fun _ => ?_⟩
      refine hN (L, ag) _ ⟨by repeat' (first | exact trivial | refine ⟨.inr rfl, ?_⟩), ⟨rfl, rfl, trivial⟩, cl _ _ (by simp [Qr, Qp]), by simp [keepB, dom]⟩ ⟨hp.1, fun he x y hxy => ?_⟩ ?_
      · rcases hp.2 with ⟨_, _, q⟩ | ⟨q, _⟩
        · obtain ⟨i', h1, k', h2⟩ := hxy
          exact q x y ⟨i', h1, h1, k', h2⟩
        · simp only at he; rw [he] at q; cases q
      · rcases hp.2 with ⟨q, q2, _⟩ | ⟨q, q2⟩
        · subst q; subst q2; simp
        · subst q; simp only [if_true]; omega
end
end Go.Ve

namespace Go.Ve
noncomputable section
open Go.Proofs
set_option linter.unusedSimpArgs false
set_option linter.unusedVariables false
set_option maxRecDepth 100000
open Classical in
def QiH (s : Sky) (a b : Nm) : List Nm := if h : ∃ m, Lst (YN s) (dS s) m a b then h.choose else []
def Vd (s : Sky) (a b : Nm) : List Nm := if 0 ≤ JD s.pts a ∧ 0 ≤ JD s.pts b then QiH s a b else []
theorem QeM {s : Sky} {a b : Nm} {m : List Nm} (h : Lst (YN s) (dS s) m a b) : QiH s a b = m := by
  have hx : ∃ m, Lst (YN s) (dS s) m a b := ⟨m, h⟩
  unfold QiH
  rw [dif_pos hx]
  exact hx.choose_spec.uniq h
theorem QcF {s : Sky} {a b : Nm} (h : ∀ u, ¬ wk (YN s) u a b) : QiH s a b = [] := by
  unfold QiH
  rw [dif_neg]
  rintro ⟨m, hm⟩; exact h m hm.1
theorem QeN {s : Sky} {a b : Nm} {L : ML} (h : BInv (YN s) (dS s) (Jj s) a (J2 L)) (k : ∀ x y, YN s x y → Fx (dS s) L x y) :
    (∀ u, J2 L b = some u → Lst (YN s) (dS s) u a b) ∧ (J2 L b = none → ∀ u, ¬ wk (YN s) u a b) :=
  Qjw h.w h.z (fun x y w ha hw => k x y ha w hw) b
theorem QeO {s : Sky} (hs : s.small) (hv : s.valid) {a : Nm} (ha : 0 ≤ JD s.pts a) (b : Nm) : Lst (YN s) (dS s) (QiH s a b) a b ∨ QiH s a b = [] ∧ ∀ u, ¬ wk (YN s) u a b := by
  obtain ⟨L, ⟨h, k⟩, _⟩ := Qi3 s a hs hv ha
  obtain ⟨h1, h2⟩ := QeN (b := b) h k
  cases e : J2 L b with
  | none => exact .inr ⟨QcF (h2 e), h2 e⟩
  | some u => have := h1 u e; exact .inl (by rw [QeM this]; exact this)
theorem QcG {s : Sky} (hv : s.valid) {a b : Nm} (ha : 0 ≤ JD s.pts a) {m : List Nm} (h : Lst (YN s) (dS s) m a b) : m.Nodup ∧ (∀ z ∈ m, z ∈ Jj s) ∧ m.length ≤ s.pts.length := by
  have h1 := h.nodup (Qiy s)
  have h2 : ∀ z ∈ m, z ∈ Jj s := QaP (fun a b h => XP hv h) h.1 (Up ha)
  have := Gw h1 h2
  rw [Ji] at this
  exact ⟨h1, h2, this⟩
theorem QlE {s : Sky} (hs : s.small) (hv : s.valid) {a to : Nm} (ha : 0 ≤ JD s.pts a) {B : List (List Nm)} (h : Qgz s to B) : B.getD (JD s.pts a).toNat [] = QiH s a to := by
  obtain ⟨p1, p2, p3⟩ := Gs ha
  have e : (Jj s).getD (JD s.pts a).toNat default = a := by rw [GT p1, p2]
  rcases QeO hs hv ha to with q | ⟨q, k⟩
  · exact h.2.1 _ p1 _ (by rw [e]; exact q) (QcG hv ha q).2.2
  · rw [q]
    by_cases hb : B.getD (JD s.pts a).toNat [] = []
    · exact hb
    · have := h.1.2 _ (by rw [Ji]; exact p1) hb
      rw [e] at this
      exact absurd this (k _)
theorem QiI {s : Sky} (hs : s.small) (hv : s.valid) (a b : Nm) : (∀ z ∈ Vd s a b, 0 ≤ JD s.pts z) ∧ (Vd s a b).length ≤ 16 := by
  unfold Vd
  split
  · rename_i h
    rcases QeO hs hv h.1 b with q | ⟨q, _⟩
    · obtain ⟨_, h2, h3⟩ := QcG hv h.1 q
      exact ⟨fun z hz => Wx (h2 z hz), Nat.le_trans h3 hv.2.1.1⟩
    · rw [q]; exact ⟨fun z hz => by simp at hz, by simp⟩
  · exact ⟨fun z hz => by simp at hz, by simp⟩
def QgG (s : Sky) (a b : Nm) : List Nm := if s.valid then Vd s a b else []
def QgH (s : Sky) (a b : Nm) : Int := if QgG s a b = [] then -1 else KX (dS s) (QgG s a b)
theorem Qi4 : ∀ l : List (List Nm), Jt (l.map UZ)
  | [] => trivial
  | x :: l => ⟨⟨⟨by omega, Jv _⟩, trivial⟩, Qi4 l⟩
open Classical in
def QgI (s : Sky) (to : Nm) : List (List Nm) := if h : ∃ B, Qgz s to B ∧ Contract P 72 [.agg (s.row 0), .str to] [] (.sl 0 1 (B.map UZ)) [] then h.choose else []
theorem QeP (s : Sky) (to : Nm) (hs : s.small) (hv : s.valid) (ht : 0 ≤ JD s.pts to) : Qgz s to (QgI s to) ∧ Contract P 72 [.agg (s.row 0), .str to] [] (.sl 0 1 ((QgI s to).map UZ)) [] := by
  have h := QiE s to hs hv ht
  unfold QgI
  rw [dif_pos h]
  exact h.choose_spec
def XW : List AV → Option (Prop × AV)
  | [.agg [.int .i64 s_w, .int .i64 s_h, .int .i64 s_lv, .sl 0 3 s_pts, .sl 0 2 s_aws, .sl 0 2 s_secs, .sl 0 4 s_rws], .str to] => some ((((s_pts.map QO).map Pt.row = s_pts) ∧ ((s_aws.map QR).map (Aw.row 0) = s_aws) ∧ ((s_secs.map Qv).map (Sec.row 0) = s_secs) ∧ ((s_rws.map QT).map Rw.row = s_rws)) ∧ (Sky.small (Sky.mk s_w s_h s_lv (s_pts.map QO) (s_aws.map QR) (s_secs.map Qv) (s_rws.map QT)) ∧ Sky.valid (Sky.mk s_w s_h s_lv (s_pts.map QO) (s_aws.map QR) (s_secs.map Qv) (s_rws.map QT)) ∧ 0 ≤ JD (Sky.pts (Sky.mk s_w s_h s_lv (s_pts.map QO) (s_aws.map QR) (s_secs.map Qv) (s_rws.map QT))) to), .sl 0 1 ((QgI (Sky.mk s_w s_h s_lv (s_pts.map QO) (s_aws.map QR) (s_secs.map Qv) (s_rws.map QT)) to).map UZ))
  | _ => none
theorem QeQ : ∀ args p v, XW args = some (p, v) → p → Contract P 72 args [] v [] ∧ noref v = true ∧ No99 v := by
  intro args p v h1 h2
  unfold XW at h1
  split at h1
  · rename_i s_w s_h s_lv s_pts s_aws s_secs s_rws to
    cases h1
    obtain ⟨⟨e0, e1, e2, e3⟩, HP⟩ := h2
    have := (QeP (Sky.mk s_w s_h s_lv (s_pts.map QO) (s_aws.map QR) (s_secs.map Qv) (s_rws.map QT)) to HP.1 HP.2.1 HP.2.2).2
    exact ⟨by simpa only [e0, e1, e2, e3, Sky.row] using this, rfl, by simp only [No99]; exact ⟨by omega, Qi4 _⟩⟩
  · cases h1
set_option maxHeartbeats 1000000 in
theorem Qky (s : Sky) (a b : Nm) (hs : s.small) (hv : s.valid) : Contract P 33 [.agg (s.row 0), .str a, .str b] [] (.sl 0 1 ((Vd s a b).map QF)) [] := by
  have hs' := hs
  unfold Sky.small at hs'
  by_cases hab : 0 ≤ JD s.pts a ∧ 0 ≤ JD s.pts b
  · have hB := (QeP s b hs hv hab.2).1
    have hW := QlE hs hv hab.1 hB
    have e : Vd s a b = QiH s a b := if_pos hab
    rw [e]
    have hBl : (QgI s b).length = s.pts.length := by rw [hB.1.1, Ji]
    obtain ⟨p1, p2, p3⟩ := Gs hab.1
    have tkw : True := trivial
    simp only [Sky.row]
    refine Qs (((Env.nil P).add 71 Q2 GQ).add 72 XW QeQ) hm UU (Nat.le_of_ble_eq_true rfl) rfl ?_; unfold Xw; simp (config := { maxSteps := 2000000 }) only [bitvec_to_nat, reduceIte, Nat.reduceEqDiff, Nat.reduceAdd, Nat.reduceLeDiff, reduceCtorEq, Nat.reduceBEq, Nat.reduceLT, Nat.reduceMod, List.forall_mem_cons, Q4, Jd, Q3, JG, keepB, Je, Kb, Q2, XW, Qh, Qj, Qa, QN, Qg, List.take_length, List.length_cons, List.length_nil, Nat.zero_add, QF, QS, QQ, QU, Zone.row, Qe, Qo, Pt.row, Qi, Qu, Aw.row, Qm, QA, Blk.row, Qb, Qk, Sec.row, Qc, Ql, Rw.row, Qn, QB, Qd, Int.toNat_natCast, Nat.sub_zero, List.length_map, List.append_nil, tkw, hW, UZ, hBl]
    rw [← hW]
    refine ⟨by omega, fun h => by omega, fun _ => ⟨by omega, fun h => by omega, fun _ => ⟨⟨hs, hv, hab.2⟩, hab.1, by omega, ?_, rfl⟩⟩⟩
    have := hB.2.2 _ p1
    exact Nat.le_trans this (by omega)
  · have e : Vd s a b = [] := if_neg hab
    rw [e]
    have tkw : True := trivial
    have hW : True := trivial
    have hBl : True := trivial
    simp only [Sky.row]
    refine Qs (((Env.nil P).add 71 Q2 GQ).add 72 XW QeQ) hm UU (Nat.le_of_ble_eq_true rfl) rfl ?_; unfold Xw; simp (config := { maxSteps := 2000000 }) only [bitvec_to_nat, reduceIte, Nat.reduceEqDiff, Nat.reduceAdd, Nat.reduceLeDiff, reduceCtorEq, Nat.reduceBEq, Nat.reduceLT, Nat.reduceMod, List.forall_mem_cons, Q4, Jd, Q3, JG, keepB, Je, Kb, Q2, XW, Qh, Qj, Qa, QN, Qg, List.take_length, List.length_cons, List.length_nil, Nat.zero_add, QF, QS, QQ, QU, Zone.row, Qe, Qo, Pt.row, Qi, Qu, Aw.row, Qm, QA, Blk.row, Qb, Qk, Sec.row, Qc, Ql, Rw.row, Qn, QB, Qd, Int.toNat_natCast, Nat.sub_zero, List.length_map, List.append_nil, tkw, hW, UZ, hBl]
    refine ⟨by omega, fun h => ⟨by omega, fun h2 => ?_⟩⟩
    exact absurd ⟨by omega, by omega⟩ hab
def Qbt : List AV → Option (Prop × AV)
  | [.agg [.int .i64 s_w, .int .i64 s_h, .int .i64 s_lv, .sl 0 3 s_pts, .sl 0 2 s_aws, .sl 0 2 s_secs, .sl 0 4 s_rws], .str a, .str b] => some ((((s_pts.map QO).map Pt.row = s_pts) ∧ ((s_aws.map QR).map (Aw.row 0) = s_aws) ∧ ((s_secs.map Qv).map (Sec.row 0) = s_secs) ∧ ((s_rws.map QT).map Rw.row = s_rws)) ∧ (Sky.small (Sky.mk s_w s_h s_lv (s_pts.map QO) (s_aws.map QR) (s_secs.map Qv) (s_rws.map QT)) ∧ Sky.valid (Sky.mk s_w s_h s_lv (s_pts.map QO) (s_aws.map QR) (s_secs.map Qv) (s_rws.map QT))), .sl 0 1 ((Vd (Sky.mk s_w s_h s_lv (s_pts.map QO) (s_aws.map QR) (s_secs.map Qv) (s_rws.map QT)) a b).map QF))
  | _ => none
theorem Qkz : ∀ args p v, Qbt args = some (p, v) → p → Contract P 33 args [] v [] ∧ noref v = true ∧ No99 v := by
  intro args p v h1 h2
  unfold Qbt at h1
  split at h1
  · rename_i s_w s_h s_lv s_pts s_aws s_secs s_rws a b
    cases h1
    obtain ⟨⟨e0, e1, e2, e3⟩, HP⟩ := h2
    have := Qky (Sky.mk s_w s_h s_lv (s_pts.map QO) (s_aws.map QR) (s_secs.map Qv) (s_rws.map QT)) a b HP.1 HP.2
    exact ⟨by simpa only [e0, e1, e2, e3, Sky.row] using this, rfl, by simp only [No99]; exact ⟨by omega, Jv _⟩⟩
  · cases h1
theorem Wz {s : Sky} {a b : Nm} (h : s.valid) : QgG s a b = Vd s a b := if_pos h
theorem Qdr {s : Sky} {a b : Nm} (h : ¬ s.valid) : QgG s a b = [] := if_neg h
theorem QgJ (s : Sky) (a b : Nm) (hs : s.small) : Contract P 10 [.agg (s.row 0), .str a, .str b] [] (.sl 0 1 ((QgG s a b).map QF)) [] := by
  simp only [Sky.row]
  refine Qs (((Env.nil P).add 32 GY Qdk).add 33 Qbt Qkz) hm QaS (Nat.le_of_ble_eq_true rfl) rfl ?_; unfold ZN; simp (config := { maxSteps := 2000000 }) only [bitvec_to_nat, reduceIte, Nat.reduceEqDiff, Nat.reduceAdd, Nat.reduceLeDiff, reduceCtorEq, Nat.reduceBEq, Nat.reduceLT, Nat.reduceMod, List.forall_mem_cons, GY, Qbt, Qh, Qj, Qa, QN, Qg, List.take_length, List.length_cons, List.length_nil, Nat.zero_add, QF, QS, QQ, QU, Zone.row, Qe, Qo, Pt.row, Qi, Qu, Aw.row, Qm, QA, Blk.row, Qb, Qk, Sec.row, Qc, Ql, Rw.row, Qn, QB, Qd, Int.toNat_natCast, Nat.sub_zero, List.length_map, List.append_nil]
  refine ⟨hs, fun h => ⟨⟨hs, h⟩, ?_⟩, fun h => ?_⟩
  · rw [Wz h]
  · rw [Qdr h]; rfl
def Ur : List AV → Option (Prop × AV)
  | [.agg [.int .i64 s_w, .int .i64 s_h, .int .i64 s_lv, .sl 0 3 s_pts, .sl 0 2 s_aws, .sl 0 2 s_secs, .sl 0 4 s_rws], .str a, .str b] => some ((((s_pts.map QO).map Pt.row = s_pts) ∧ ((s_aws.map QR).map (Aw.row 0) = s_aws) ∧ ((s_secs.map Qv).map (Sec.row 0) = s_secs) ∧ ((s_rws.map QT).map Rw.row = s_rws)) ∧ (Sky.small (Sky.mk s_w s_h s_lv (s_pts.map QO) (s_aws.map QR) (s_secs.map Qv) (s_rws.map QT))), .sl 0 1 ((QgG (Sky.mk s_w s_h s_lv (s_pts.map QO) (s_aws.map QR) (s_secs.map Qv) (s_rws.map QT)) a b).map QF))
  | _ => none
theorem QgK : ∀ args p v, Ur args = some (p, v) → p → Contract P 10 args [] v [] ∧ noref v = true ∧ No99 v := by
  intro args p v h1 h2
  unfold Ur at h1
  split at h1
  · rename_i s_w s_h s_lv s_pts s_aws s_secs s_rws a b
    cases h1
    obtain ⟨⟨e0, e1, e2, e3⟩, HP⟩ := h2
    have := QgJ (Sky.mk s_w s_h s_lv (s_pts.map QO) (s_aws.map QR) (s_secs.map Qv) (s_rws.map QT)) a b HP
    exact ⟨by simpa only [e0, e1, e2, e3, Sky.row] using this, rfl, by simp only [No99]; exact ⟨by omega, Jv _⟩⟩
  · cases h1
theorem QgL (s : Sky) (a b : Nm) (hs : s.small) : Contract P 6 [.agg (s.row 0), .str a, .str b] [] (.int .i64 (QgH s a b)) [] := by
  simp only [Sky.row]
  refine Qs (((Env.nil P).add 10 Ur QgK).add 20 G5 QeJ) hm QaQ (Nat.le_of_ble_eq_true rfl) rfl ?_; unfold ZL; simp (config := { maxSteps := 2000000 }) only [bitvec_to_nat, reduceIte, Nat.reduceEqDiff, Nat.reduceAdd, Nat.reduceLeDiff, reduceCtorEq, Nat.reduceBEq, Nat.reduceLT, Nat.reduceMod, List.forall_mem_cons, Ur, G5, Qh, Qj, Qa, QN, Qg, List.take_length, List.length_cons, List.length_nil, Nat.zero_add, QF, QS, QQ, QU, Zone.row, Qe, Qo, Pt.row, Qi, Qu, Aw.row, Qm, QA, Blk.row, Qb, Qk, Sec.row, Qc, Ql, Rw.row, Qn, QB, Qd, Int.toNat_natCast, Nat.sub_zero, List.length_map, List.append_nil]
  unfold QgH
  refine ⟨hs, fun h => ?_, fun h => ?_⟩
  · have e : QgG s a b = [] := List.length_eq_zero_iff.1 (by omega)
    rw [if_pos e]
  · have e : QgG s a b ≠ [] := fun e => h (by rw [e]; rfl)
    have hv : s.valid := Classical.byContradiction fun k => e (Qdr k)
    have ew := Wz (a := a) (b := b) hv
    obtain ⟨h1, h2⟩ := QiI hs hv a b
    rw [if_neg e, ew]
    refine ⟨⟨hs, hv, h1, by omega⟩, rfl⟩
def Us : List AV → Option (Prop × AV)
  | [.agg [.int .i64 s_w, .int .i64 s_h, .int .i64 s_lv, .sl 0 3 s_pts, .sl 0 2 s_aws, .sl 0 2 s_secs, .sl 0 4 s_rws], .str a, .str b] => some ((((s_pts.map QO).map Pt.row = s_pts) ∧ ((s_aws.map QR).map (Aw.row 0) = s_aws) ∧ ((s_secs.map Qv).map (Sec.row 0) = s_secs) ∧ ((s_rws.map QT).map Rw.row = s_rws)) ∧ (Sky.small (Sky.mk s_w s_h s_lv (s_pts.map QO) (s_aws.map QR) (s_secs.map Qv) (s_rws.map QT))), .int .i64 (QgH (Sky.mk s_w s_h s_lv (s_pts.map QO) (s_aws.map QR) (s_secs.map Qv) (s_rws.map QT)) a b))
  | _ => none
theorem QgM : ∀ args p v, Us args = some (p, v) → p → Contract P 6 args [] v [] ∧ noref v = true ∧ No99 v := by
  intro args p v h1 h2
  unfold Us at h1
  split at h1
  · rename_i s_w s_h s_lv s_pts s_aws s_secs s_rws a b
    cases h1
    obtain ⟨⟨e0, e1, e2, e3⟩, HP⟩ := h2
    have := QgL (Sky.mk s_w s_h s_lv (s_pts.map QO) (s_aws.map QR) (s_secs.map Qv) (s_rws.map QT)) a b HP
    exact ⟨by simpa only [e0, e1, e2, e3, Sky.row] using this, rfl, trivial⟩
  · cases h1
theorem QkA (d : Nm → Nm → Int) (L : ML) : QeY (.mp 0 (esL d L)) := by
  induction L with
  | nil => exact ⟨trivial, trivial⟩
  | cons p L ih => exact ⟨⟨trivial, ih.1⟩, ⟨⟨trivial, ⟨by omega, Jv _⟩, trivial⟩, ih.2⟩⟩
theorem QgN {s : Sky} {a b : Nm} (h : ¬ (s.valid ∧ 0 ≤ JD s.pts a ∧ 0 ≤ JD s.pts b)) : QgH s a b = -1 := by
  have e : QgG s a b = [] := by
    by_cases hv : s.valid
    · rw [Wz hv]; unfold Vd; rw [if_neg fun k => h ⟨hv, k⟩]
    · exact Qdr hv
  unfold QgH; rw [if_pos e]
theorem Qmn {s : Sky} {a b : Nm} {w : List Nm} (hv : s.valid) (ha : 0 ≤ JD s.pts a) (hb : 0 ≤ JD s.pts b) (h : Lst (YN s) (dS s) w a b) : QgH s a b = KX (dS s) w := by
  have e : QgG s a b = w := by rw [Wz hv]; unfold Vd; rw [if_pos ⟨ha, hb⟩, QeM h]
  unfold QgH; rw [e, if_neg (Qda h.1)]
theorem Qmo {s : Sky} {a b : Nm} (hv : s.valid) (ha : 0 ≤ JD s.pts a) (hb : 0 ≤ JD s.pts b) (h : ∀ u, ¬ wk (YN s) u a b) : QgH s a b = -1 := by
  have e : QgG s a b = [] := by rw [Wz hv]; unfold Vd; rw [if_pos ⟨ha, hb⟩, QcF h]
  unfold QgH; rw [if_pos e]
set_option maxHeartbeats 1000000 in
theorem QgO (s : Sky) (a b : Nm) (hs : s.small) (hf : s.fitp) : Contract P 8 [.agg (s.row 0), .str a, .str b] [] (.int .i64 (QgH s a b)) [] := by
  have l1 : True := trivial
  simp only [Sky.row]
  refine Qs (((Env.nil P).add 25 KH Qdm).add 26 Jo QeG) hm QaR (Nat.le_of_ble_eq_true rfl) rfl ?_; unfold ZM; simp (config := { maxSteps := 2000000 }) only [bitvec_to_nat, reduceIte, Nat.reduceEqDiff, Nat.reduceAdd, Nat.reduceLeDiff, reduceCtorEq, Nat.reduceBEq, Nat.reduceLT, Nat.reduceMod, List.forall_mem_cons, KH, Jo, Qh, Qj, Qa, QN, Qg, List.take_length, List.length_cons, List.length_nil, Nat.zero_add, QF, QS, QQ, QU, Zone.row, Qe, Qo, Pt.row, Qi, Qu, Aw.row, Qm, QA, Blk.row, Qb, Qk, Sec.row, Qc, Ql, Rw.row, Qn, QB, Qd, Int.toNat_natCast, Nat.sub_zero, List.length_map, List.append_nil, JQ, Jy, l1, Option.isSome_some, Option.isSome_none, wv, Jn, Jm, noref, Q0]
  refine ⟨⟨hs, hf⟩, fun hv => ⟨hs, fun h => ?_, fun ha => ⟨hs, fun h => ?_, fun hb => ?_⟩⟩, fun h => ?_⟩
  · exact (QgN fun k => by omega).symm
  · exact (QgN fun k => by omega).symm
  · obtain ⟨L, ⟨h1, h2⟩, hC⟩ := Qi3 s a hs hv (by omega)
    obtain ⟨g1, g2⟩ := QeN (b := b) h1 h2
    have kb := VE hv (show 0 ≤ JD s.pts b by omega)
    simp only [Sky.row] at hC
    refine ⟨_, _, .inr (.inr (.inl ⟨_, rfl, hC, by simp [getM], by simp [Qr, dom], rfl, by simp [No99], fun p hp => by rw [List.mem_singleton.1 hp]; exact QkA _ _⟩)), ?_⟩
    cases l1 : J2 L b with
    | none =>
      rw [Qmo hv (by omega) (by omega) (g2 l1)]
      simp (config := { maxSteps := 2000000 }) only [bitvec_to_nat, reduceIte, Nat.reduceEqDiff, Nat.reduceAdd, Nat.reduceLeDiff, reduceCtorEq, Nat.reduceBEq, Nat.reduceLT, Nat.reduceMod, List.forall_mem_cons, KH, Jo, Qh, Qj, Qa, QN, Qg, List.take_length, List.length_cons, List.length_nil, Nat.zero_add, QF, QS, QQ, QU, Zone.row, Qe, Qo, Pt.row, Qi, Qu, Aw.row, Qm, QA, Blk.row, Qb, Qk, Sec.row, Qc, Ql, Rw.row, Qn, QB, Qd, Int.toNat_natCast, Nat.sub_zero, List.length_map, List.append_nil, JQ, Jy, l1, Option.isSome_some, Option.isSome_none, wv, Jn, Jm, noref, Q0]
      exact kb
    | some w =>
      rw [Qmn hv (by omega) (by omega) (g1 w l1)]
      simp (config := { maxSteps := 2000000 }) only [bitvec_to_nat, reduceIte, Nat.reduceEqDiff, Nat.reduceAdd, Nat.reduceLeDiff, reduceCtorEq, Nat.reduceBEq, Nat.reduceLT, Nat.reduceMod, List.forall_mem_cons, KH, Jo, Qh, Qj, Qa, QN, Qg, List.take_length, List.length_cons, List.length_nil, Nat.zero_add, QF, QS, QQ, QU, Zone.row, Qe, Qo, Pt.row, Qi, Qu, Aw.row, Qm, QA, Blk.row, Qb, Qk, Sec.row, Qc, Ql, Rw.row, Qn, QB, Qd, Int.toNat_natCast, Nat.sub_zero, List.length_map, List.append_nil, JQ, Jy, l1, Option.isSome_some, Option.isSome_none, wv, Jn, Jm, noref, Q0]
      exact kb
  · exact (QgN fun k => h k.1).symm
def Ut : List AV → Option (Prop × AV)
  | [.agg [.int .i64 s_w, .int .i64 s_h, .int .i64 s_lv, .sl 0 3 s_pts, .sl 0 2 s_aws, .sl 0 2 s_secs, .sl 0 4 s_rws], .str a, .str b] => some ((((s_pts.map QO).map Pt.row = s_pts) ∧ ((s_aws.map QR).map (Aw.row 0) = s_aws) ∧ ((s_secs.map Qv).map (Sec.row 0) = s_secs) ∧ ((s_rws.map QT).map Rw.row = s_rws)) ∧ (Sky.small (Sky.mk s_w s_h s_lv (s_pts.map QO) (s_aws.map QR) (s_secs.map Qv) (s_rws.map QT)) ∧ Sky.fitp (Sky.mk s_w s_h s_lv (s_pts.map QO) (s_aws.map QR) (s_secs.map Qv) (s_rws.map QT))), .int .i64 (QgH (Sky.mk s_w s_h s_lv (s_pts.map QO) (s_aws.map QR) (s_secs.map Qv) (s_rws.map QT)) a b))
  | _ => none
theorem QgP : ∀ args p v, Ut args = some (p, v) → p → Contract P 8 args [] v [] ∧ noref v = true ∧ No99 v := by
  intro args p v h1 h2
  unfold Ut at h1
  split at h1
  · rename_i s_w s_h s_lv s_pts s_aws s_secs s_rws a b
    cases h1
    obtain ⟨⟨e0, e1, e2, e3⟩, HP⟩ := h2
    have := QgO (Sky.mk s_w s_h s_lv (s_pts.map QO) (s_aws.map QR) (s_secs.map Qv) (s_rws.map QT)) a b HP.1 HP.2
    exact ⟨by simpa only [e0, e1, e2, e3, Sky.row] using this, rfl, trivial⟩
  · cases h1
end
end Go.Ve

namespace Go.Ve
noncomputable section
open Go.Proofs
set_option linter.unusedSimpArgs false
set_option linter.unusedVariables false
set_option maxRecDepth 100000
open Go.ChangeShapes Go.WideShapes
theorem WA (s : Sky) (a b : ByteArray) (hf : s.fitp) : Contract P 3 [.agg (s.row 1), .str a, .str b] [] (.bool true) [] := by
  have z3 : 0 ≤ Sky.sz s 1048576 → s.small := fun h => Sky.sz_ok (by omega) h
  simp only [Sky.row]
  refine Qs ((((((Env.nil P).add 5 Qbc QjT).add 6 Us QgM).add 7 Qbm Qkf).add 8 Ut QgP).add 9 Qbn Qkh) hm XY (Nat.le_of_ble_eq_true rfl) rfl ?_; unfold K2; simp (config := { maxSteps := 2000000 }) only [bitvec_to_nat, reduceIte, Nat.reduceEqDiff, Nat.reduceAdd, Nat.reduceLeDiff, reduceCtorEq, Nat.reduceBEq, Nat.reduceLT, Nat.reduceMod, List.forall_mem_cons, Qbc, Us, Qbm, Ut, Qbn, Qh, Qj, Qa, QN, Qg, List.take_length, List.length_cons, List.length_nil, Nat.zero_add, QF, QS, QQ, QU, Zone.row, Qe, Qo, Pt.row, Qi, Qu, Aw.row, Qm, QA, Blk.row, Qb, Qk, Sec.row, Qc, Ql, Rw.row, Qn, QB, Qd, Sky.row]
  generalize Sky.sz s 1048576 = n1 at *
  repeat' (first | with_reducible apply And.intro | with_reducible intro _)
  all_goals first
    | omega
    | with_reducible assumption
    | exact trivial
    | exact z3 (by omega)
    | (have hs := z3 (by omega); unfold Sky.small at hs; omega)
    | exact (z3 (by omega)).2.1.2 _ (by assumption)
    | exact (z3 (by omega)).2.2.1.2 _ (by assumption)
    | trace_state
end
end Go.Ve

