/- Part 5 of the proof: laws and contracts of functions, each proved; they are joined in the last part. No conditions beyond those that the theorems state. -/
import Derived.Test.YtagikldfacbonaaGreatDoorProg
import Derived.Test.YtagikldfacbonaaGreatDoorSi4
set_option linter.all false
namespace Go.Ve
noncomputable section
open Go.Proofs
set_option linter.unusedSimpArgs false
set_option linter.unusedVariables false
set_option maxRecDepth 100000
abbrev ML := List (Nm × List Nm)
def Y0 : ML → Nm → Option (List Nm)
  | [], _ => none
  | (k, v) :: r, a => if k = a then some v else Y0 r a
def Qpj : ML → Nm → List Nm → ML
  | [], b, x => [(b, x)]
  | (k, v) :: r, b, x => if k = b then (k, x) :: r else (k, v) :: Qpj r b x
theorem Qi7 {b : Nm} {x : List Nm} : ∀ (L : ML), Y0 (Qpj L b x) = bup (Y0 L) b x
  | [] => by funext v; simp only [Qpj, Y0, bup]; by_cases h : b = v <;> simp [h, eq_comm]
  | (k, w) :: r => by
    funext v
    have ih := congrFun (Qi7 (b := b) (x := x) r) v
    simp only [Qpj]
    by_cases h : k = b
    · subst h
      simp only [if_true, Y0, bup]
      by_cases h2 : k = v
      · subst h2; simp
      · simp [h2, Ne.symm h2]
    · simp only [h, if_false, Y0, bup] at ih ⊢
      by_cases h2 : k = v
      · subst h2; simp [h]
      · simp only [h2, if_false]; exact ih
def wv (d : Nm → Nm → Int) (w : List Nm) : AV := .agg [.int .i64 (Xb d w), .sl 0 1 (w.map QH)]
def esL (d : Nm → Nm → Int) (L : ML) : List (AV × AV) := L.map fun p => (.str p.1, wv d p.2)
theorem Qhw {a b : Nm} : Xs (.str a) (.str b) = decide (a = b) := Qlg
theorem KC {d : Nm → Nm → Int} {a : Nm} {z : AV} : ∀ {L : ML}, W7 (esL d L) (.str a) z = (match Y0 L a with | some w => wv d w | none => z)
  | [] => rfl
  | (k, v) :: r => by
    have ih := KC (d := d) (a := a) (z := z) (L := r)
    unfold esL at ih ⊢
    simp only [List.map_cons, W7, Qhw, Y0, decide_eq_true_eq]
    by_cases h : k = a
    · simp [h]
    · simp only [h, if_false]; exact ih
theorem Yj {d : Nm → Nm → Int} {a : Nm} : ∀ {L : ML}, Qpl (esL d L) (.str a) = (Y0 L a).isSome
  | [] => rfl
  | (k, v) :: r => by
    have ih := Yj (d := d) (a := a) (L := r)
    unfold esL at ih ⊢
    simp only [List.map_cons, Qpl, Qhw, Y0]
    by_cases h : k = a
    · simp [h]
    · simp only [h, decide_false, Bool.false_or, if_false]; exact ih
theorem Qoq {d : Nm → Nm → Int} {b : Nm} {x : List Nm} : ∀ {L : ML}, Qa3 (esL d L) (.str b) (wv d x) = esL d (Qpj L b x)
  | [] => rfl
  | (k, v) :: r => by
    have ih := Qoq (d := d) (b := b) (x := x) (L := r)
    unfold esL at ih ⊢
    simp only [List.map_cons, Qa3, Qhw, Qpj, decide_eq_true_eq]
    by_cases h : k = b
    · simp [h]
    · simp only [h, if_false, List.map_cons, ih]
theorem QlG {s : Sky} (hv : s.valid) (nm : Nm) : (ptC s nm).inn := by
  by_cases h : 0 ≤ KN s.pts nm
  · exact QaU hv h
  · have e : (KN s.pts nm).toNat = 0 := by omega
    unfold ptC
    rw [e]
    by_cases hn : 0 < s.pts.length
    · have h2 := (hv.2.1.2 0 hn).2.2.1
      have h3 := hv.1
      unfold YP at h2
      unfold G7 at h3
      simp only [Cell.inn]; omega
    · have : s.pts = [] := List.length_eq_zero_iff.1 (by omega)
      rw [this]
      simp only [Cell.inn, List.getD_nil]
      exact ⟨⟨Int.le_refl _, by decide⟩, ⟨Int.le_refl _, by decide⟩⟩
theorem Qu9 {s : Sky} (hv : s.valid) (a b : Nm) : 0 ≤ dS s a b ∧ dS s a b ≤ 15 := QlF (QlG hv a) (QlG hv b)
theorem QdO {s : Sky} (hv : s.valid) {a : Nm} (h : 0 ≤ KN s.pts a) : Qjm 0 (.str a) := by
  obtain ⟨p1, p2, _⟩ := UG h
  have hk := (hv.2.1.2 _ p1).1.1.2
  rw [p2] at hk
  refine ⟨a, rfl, ?_⟩
  rw [J1]; unfold maxLen; omega
/-- An Qu4 that is done with. -/
def Fx (d : Nm → Nm → Int) (L : ML) (a b : Nm) : Prop := ∀ w, Y0 L a = some w → ∃ o, Y0 L b = some o ∧ ¬ bt d (w ++ [b]) o
def PR (s : Sky) (fr : Nm) (L0 L : ML) (ag : Bool) (S : Nm → Nm → Prop) : Prop := BInv (ZJ s) (dS s) (Kd s) fr (Y0 L) ∧ (ag = false ∧ L = L0 ∧ (∀ a b, S a b → Fx (dS s) L a b) ∨ ag = true ∧ tot (dS s) (Kd s) (Y0 L) < tot (dS s) (Kd s) (Y0 L0))
theorem PR.weak {s : Sky} {fr : Nm} {L0 L : ML} {ag : Bool} {S S' : Nm → Nm → Prop} (h : PR s fr L0 L ag S) (k : ∀ a b, S' a b → S a b) : PR s fr L0 L ag S' := ⟨h.1, h.2.elim (fun q => .inl ⟨q.1, q.2.1, fun a b m => q.2.2 a b (k a b m)⟩) .inr⟩
theorem PR.skip {s : Sky} {fr : Nm} {L0 L : ML} {ag : Bool} {S : Nm → Nm → Prop} {x y : Nm} (h : PR s fr L0 L ag S) (k : Fx (dS s) L x y) : PR s fr L0 L ag (fun a b => S a b ∨ (a = x ∧ b = y)) :=
  ⟨h.1, h.2.elim (fun q => .inl ⟨q.1, q.2.1, fun a b m => m.elim (q.2.2 a b) fun e => by rw [e.1, e.2]; exact k⟩) .inr⟩
theorem PR.put {s : Sky} (hv : s.valid) {fr : Nm} {L0 L : ML} {ag : Bool} {S S' : Nm → Nm → Prop} {x y : Nm} {w : List Nm} (h : PR s fr L0 L ag S) (hx : Y0 L x = some w) (ha : ZJ s x y) (hn : Y0 L y = none ∨ ∃ o, Y0 L y = some o ∧ bt (dS s) (w ++ [y]) o) : PR s fr L0 (Qpj L y (w ++ [y])) true S' := by
  have h1 := h.1.upd (Qoh s) hx (WR hv ha) ha hn
  have h2 := h.1.tot_lt (Qoh s) hx (WR hv ha) ha hn
  rw [← Qi7] at h1 h2
  refine ⟨h1, .inr ⟨rfl, ?_⟩⟩
  rcases h.2 with ⟨_, e, _⟩ | ⟨_, q⟩
  · subst e; exact h2
  · omega
end
end Go.Ve

namespace Go.Ve
noncomputable section
open Go.Proofs
set_option linter.unusedSimpArgs false
set_option linter.unusedVariables false
set_option maxRecDepth 100000
def QlH (p : Nm × Nm) : List AV := [.str p.1, .str p.2]
def Qor (s : Sky) (i k : Nat) (a b : Nm) : Prop := k < (s.aws.getD i default).pts.length ∧ 0 < k ∧ Qu4 (s.aws.getD i default).pts a b k
def S1 (s : Sky) (i : Nat) (a b : Nm) : Prop := ∃ i', i' < i ∧ i' < s.aws.length ∧ ∃ k, Qor s i' k a b
def S2 (s : Sky) (i k : Nat) (a b : Nm) : Prop := S1 s i a b ∨ ∃ k', k' < k ∧ Qor s i k' a b
set_option maxHeartbeats 4000000 in
theorem Qr9 (s : Sky) (fr : Nm) (hs : s.small) (hv : s.valid) (hf : 0 ≤ KN s.pts fr) : ∃ L : ML, (BInv (ZJ s) (dS s) (Kd s) fr (Y0 L) ∧ ∀ a b, ZJ s a b → Fx (dS s) L a b) ∧ Contract P 27 [.agg (s.row 0), .str fr] [] (.ptr 119 0) [(119, .mp 0 (esL (dS s) L))] := by
  have kf := QdO hv hf
  have hs' := hs
  unfold Sky.small at hs'
  have hR : True := trivial
  have elp : True := trivial
  have k1 : True := trivial
  have k2 : True := trivial
  have l1 : True := trivial
  have l2 : True := trivial
  have t1 : True := trivial
  refine Qbi ((((Env.nil P).add 68 KJ Qq6).add 69 XQ Quz).add 71 KK Qre) Go.Ve.hm Qdg (Nat.le_of_ble_eq_true rfl) rfl (fun L : ML => BInv (ZJ s) (dS s) (Kd s) fr (Y0 L) ∧ ∀ a b, ZJ s a b → Fx (dS s) L a b) (fun _ => .ptr 119 0) (fun L => [(119, .mp 0 (esL (dS s) L))]) ?_
  unfold VT
  simp only [Sky.row]
  simp (config := { maxSteps := 2000000 }) only [bitvec_to_nat, reduceIte, Nat.reduceEqDiff, Nat.reduceAdd, Nat.reduceLeDiff, reduceCtorEq, Nat.reduceBEq, Nat.reduceLT, Nat.reduceMod, List.forall_mem_cons, Qv, QE, Qu, Q9, keepB, QF, Jc, KJ, XQ, KK, Qk, Qm, Qa, Q3, Qh, List.take_length, List.length_cons, List.length_nil, Nat.zero_add, QH, QX, Q4, Q6, Zone.row, Qf, Qs, Pt.row, Ql, QA, Aw.row, Qo, QB, Blk.row, Qb, Qj, Sec.row, Qc, Qn, Rw.row, Qp, QD, Qd, Int.toNat_natCast, Nat.sub_zero, List.length_map, List.append_nil, kf, hR, QlH, elp, k1, k2, Yj, KC, l1, l2, Option.isSome_some, Option.isSome_none, wv, t1, Ki, Kh, Qa3, noref, JJ, Int.reduceToNat, Nat.mul_one, Nat.reduceMul]
  have e0 : [(AV.str fr, AV.agg [AV.int IntKind.i64 0, AV.sl 0 1 [[AV.str fr]]])] = esL (dS s) [(fr, [fr])] := rfl
  rw [e0]
  have b0 : BInv (ZJ s) (dS s) (Kd s) fr (Y0 [(fr, [fr])]) := by
    have := BInv.start (adj := ZJ s) (d := dS s) (names := Kd s) fr (Qb8 hf)
    have e : (fun v => if v = fr then some [fr] else none) = Y0 [(fr, [fr])] := by
      funext v; simp only [Y0]; by_cases h : v = fr
      · subst h; simp
      · simp [h, Ne.symm h]
    rw [e] at this; exact this
  have cl : ∀ (E : List (Nat × AV)) (es : List (AV × AV)), (E.all fun q => Qr [102, 119] q.2) = true → closedB ⟨E, [(102, .box [.int .i64 s.w, .int .i64 s.h, .int .i64 s.lv, .sl 0 3 (s.pts.map Pt.row), .sl 0 2 (s.aws.map (Aw.row 0)), .sl 0 2 (s.secs.map (Sec.row 0)), .sl 0 4 (s.rws.map Rw.row)]), (119, .mp 0 es)]⟩ = true := fun E es hE => by
    simp only [closedB, Bool.and_eq_true]
    exact ⟨hE, by simp [Qi, Qg, Qr]⟩
  refine Xo (fun a : ML × Bool => ⟨[(2, .ptr 102 0), (5, .ptr 119 0), (6, .bool a.2)], [(102, .box [.int .i64 s.w, .int .i64 s.h, .int .i64 s.lv, .sl 0 3 (s.pts.map Pt.row), .sl 0 2 (s.aws.map (Aw.row 0)), .sl 0 2 (s.secs.map (Sec.row 0)), .sl 0 4 (s.rws.map Rw.row)]), (119, .mp 0 (esL (dS s) a.1))]⟩) (fun a => BInv (ZJ s) (dS s) (Kd s) fr (Y0 a.1) ∧ (a.2 = false → ∀ x y, ZJ s x y → Fx (dS s) a.1 x y)) (fun a => 2 * tot (dS s) (Kd s) (Y0 a.1) + if a.2 = true then 1 else 0) ([(fr, [fr])], true) ?_ ⟨b0, fun h => by cases h⟩ ?_
  · exact ⟨by repeat' (first | exact trivial | refine ⟨.inr rfl, ?_⟩), ⟨rfl, rfl, trivial⟩, cl _ _ (by simp [Qr]), by simp [keepB, dom]⟩
  rintro ⟨L0, ag⟩ ⟨hb0, hfx⟩ NX hN
  simp only at hb0 hfx ⊢
  cases ag
  · unfold GD; simp (config := { maxSteps := 2000000 }) only [bitvec_to_nat, reduceIte, Nat.reduceEqDiff, Nat.reduceAdd, Nat.reduceLeDiff, reduceCtorEq, Nat.reduceBEq, Nat.reduceLT, Nat.reduceMod, List.forall_mem_cons, Qv, QE, Qu, Q9, keepB, QF, Jc, KJ, XQ, KK, Qk, Qm, Qa, Q3, Qh, List.take_length, List.length_cons, List.length_nil, Nat.zero_add, QH, QX, Q4, Q6, Zone.row, Qf, Qs, Pt.row, Ql, QA, Aw.row, Qo, QB, Blk.row, Qb, Qj, Sec.row, Qc, Qn, Rw.row, Qp, QD, Qd, Int.toNat_natCast, Nat.sub_zero, List.length_map, List.append_nil, kf, hR, QlH, elp, k1, k2, Yj, KC, l1, l2, Option.isSome_some, Option.isSome_none, wv, t1, Ki, Kh, Qa3, noref, JJ, Int.reduceToNat, Nat.mul_one, Nat.reduceMul]
    exact ⟨L0, ⟨hb0, hfx rfl⟩, rfl, by simp [Qr], rfl⟩
  · unfold GD; simp (config := { maxSteps := 2000000 }) only [bitvec_to_nat, reduceIte, Nat.reduceEqDiff, Nat.reduceAdd, Nat.reduceLeDiff, reduceCtorEq, Nat.reduceBEq, Nat.reduceLT, Nat.reduceMod, List.forall_mem_cons, Qv, QE, Qu, Q9, keepB, QF, Jc, KJ, XQ, KK, Qk, Qm, Qa, Q3, Qh, List.take_length, List.length_cons, List.length_nil, Nat.zero_add, QH, QX, Q4, Q6, Zone.row, Qf, Qs, Pt.row, Ql, QA, Aw.row, Qo, QB, Blk.row, Qb, Qj, Sec.row, Qc, Qn, Rw.row, Qp, QD, Qd, Int.toNat_natCast, Nat.sub_zero, List.length_map, List.append_nil, kf, hR, QlH, elp, k1, k2, Yj, KC, l1, l2, Option.isSome_some, Option.isSome_none, wv, t1, Ki, Kh, Qa3, noref, JJ, Int.reduceToNat, Nat.mul_one, Nat.reduceMul]
    clear hfx
    refine Xo (fun a : (ML × Bool) × Nat => ⟨[(2, .ptr 102 0), (5, .ptr 119 0), (6, .bool a.1.2), (27, .sl 0 2 (s.aws.map (Aw.row 0))), (28, .int .i64 (s.aws.length : Nat)), (29, .int .i64 (a.2 : Nat))], [(102, .box [.int .i64 s.w, .int .i64 s.h, .int .i64 s.lv, .sl 0 3 (s.pts.map Pt.row), .sl 0 2 (s.aws.map (Aw.row 0)), .sl 0 2 (s.secs.map (Sec.row 0)), .sl 0 4 (s.rws.map Rw.row)]), (119, .mp 0 (esL (dS s) a.1.1))]⟩) (fun a => a.2 ≤ s.aws.length ∧ PR s fr L0 a.1.1 a.1.2 (S1 s a.2)) (fun a => s.aws.length - a.2) ((L0, false), 0) ?_ ⟨Nat.zero_le _, hb0, .inl ⟨rfl, rfl, fun a b h => by obtain ⟨i', h1, _⟩ := h; omega⟩⟩ ?_
    · exact ⟨by repeat' (first | exact trivial | refine ⟨.inr rfl, ?_⟩), ⟨rfl, rfl, trivial⟩, cl _ _ (by simp [Qr, Qg]), by simp [keepB, dom]⟩
    rintro ⟨⟨L, ag⟩, i⟩ ⟨hi, hp⟩ NX2 hN2
    simp only at hi hp ⊢
    by_cases hil : i < s.aws.length
    · unfold GC; simp (config := { maxSteps := 2000000 }) only [bitvec_to_nat, reduceIte, Nat.reduceEqDiff, Nat.reduceAdd, Nat.reduceLeDiff, reduceCtorEq, Nat.reduceBEq, Nat.reduceLT, Nat.reduceMod, List.forall_mem_cons, Qv, QE, Qu, Q9, keepB, QF, Jc, KJ, XQ, KK, Qk, Qm, Qa, Q3, Qh, List.take_length, List.length_cons, List.length_nil, Nat.zero_add, QH, QX, Q4, Q6, Zone.row, Qf, Qs, Pt.row, Ql, QA, Aw.row, Qo, QB, Blk.row, Qb, Qj, Sec.row, Qc, Qn, Rw.row, Qp, QD, Qd, Int.toNat_natCast, Nat.sub_zero, List.length_map, List.append_nil, kf, hR, QlH, elp, k1, k2, Yj, KC, l1, l2, Option.isSome_some, Option.isSome_none, wv, t1, Ki, Kh, Qa3, noref, JJ, Int.reduceToNat, Nat.mul_one, Nat.reduceMul]
      refine ⟨fun _ => ⟨by omega, by omega, ?_⟩, fun h => absurd (by omega) h⟩
      have hPl := Sky.small_aw hs (i := i) hil
      have clA : ∀ (E : List (Nat × AV)) (es : List (AV × AV)), (E.all fun q => Qr [102, 119, 108] q.2) = true → closedB ⟨E, [(102, .box [.int .i64 s.w, .int .i64 s.h, .int .i64 s.lv, .sl 0 3 (s.pts.map Pt.row), .sl 0 2 (s.aws.map (Aw.row 0)), .sl 0 2 (s.secs.map (Sec.row 0)), .sl 0 4 (s.rws.map Rw.row)]), (119, .mp 0 es), (108, .box [.str (s.aws.getD i default).nm, .sl 0 1 ((s.aws.getD i default).pts.map QH)])]⟩ = true := fun E es hE => by
        simp only [closedB, Bool.and_eq_true]
        exact ⟨hE, by simp [Qi, Qg, Qr]⟩
      refine Xo (fun a : (ML × Bool) × Nat => ⟨[(2, .ptr 102 0), (5, .ptr 119 0), (6, .bool a.1.2), (8, .ptr 108 0), (9, .int .i64 (a.2 : Nat)), (27, .sl 0 2 (s.aws.map (Aw.row 0))), (28, .int .i64 (s.aws.length : Nat)), (29, .int .i64 (i : Nat))], [(102, .box [.int .i64 s.w, .int .i64 s.h, .int .i64 s.lv, .sl 0 3 (s.pts.map Pt.row), .sl 0 2 (s.aws.map (Aw.row 0)), .sl 0 2 (s.secs.map (Sec.row 0)), .sl 0 4 (s.rws.map Rw.row)]), (119, .mp 0 (esL (dS s) a.1.1)), (108, .box [.str (s.aws.getD i default).nm, .sl 0 1 ((s.aws.getD i default).pts.map QH)])]⟩) (fun a => (1 ≤ a.2 ∧ a.2 ≤ (s.aws.getD i default).pts.length + 1) ∧ PR s fr L0 a.1.1 a.1.2 (S2 s i a.2)) (fun a => (s.aws.getD i default).pts.length + 1 - a.2) ((L, ag), 1) ?_ ⟨⟨by omega, by omega⟩, hp.weak fun a b h => h.elim id fun ⟨k', h1, h2⟩ => by have := h2.2.1; omega⟩ ?_
      · exact ⟨by repeat' (first | exact trivial | refine ⟨.inr rfl, ?_⟩), ⟨rfl, rfl, rfl, trivial⟩, clA _ _ (by simp [Qr, Qg]), by simp [keepB, dom]⟩
      clear hp
      rintro ⟨⟨L, ag⟩, k⟩ ⟨hk, hp⟩ NX3 hN3
      simp only at hk hp ⊢
      have t1 : ((k : Int) - 1).toNat = k - 1 := by omega
      by_cases hkl : k < (s.aws.getD i default).pts.length
      · unfold GB; simp (config := { maxSteps := 2000000 }) only [bitvec_to_nat, reduceIte, Nat.reduceEqDiff, Nat.reduceAdd, Nat.reduceLeDiff, reduceCtorEq, Nat.reduceBEq, Nat.reduceLT, Nat.reduceMod, List.forall_mem_cons, Qv, QE, Qu, Q9, keepB, QF, Jc, KJ, XQ, KK, Qk, Qm, Qa, Q3, Qh, List.take_length, List.length_cons, List.length_nil, Nat.zero_add, QH, QX, Q4, Q6, Zone.row, Qf, Qs, Pt.row, Ql, QA, Aw.row, Qo, QB, Blk.row, Qb, Qj, Sec.row, Qc, Qn, Rw.row, Qp, QD, Qd, Int.toNat_natCast, Nat.sub_zero, List.length_map, List.append_nil, kf, hR, QlH, elp, k1, k2, Yj, KC, l1, l2, Option.isSome_some, Option.isSome_none, wv, t1, Ki, Kh, Qa3, noref, JJ, Int.reduceToNat, Nat.mul_one, Nat.reduceMul]
        refine ⟨fun _ => ⟨⟨by omega, by omega⟩, by omega, by omega, by omega, by omega, by omega, by omega, ⟨by omega, by omega⟩, by omega, by omega, ?_⟩, fun h => absurd (by omega) h⟩
        obtain ⟨EL, hEL⟩ : ∃ EL : List (Nm × Nm), EL = [((s.aws.getD i default).pts.getD (k - 1) default, (s.aws.getD i default).pts.getD k default), ((s.aws.getD i default).pts.getD k default, (s.aws.getD i default).pts.getD (k - 1) default)] := ⟨_, rfl⟩
        have hed : ∀ j, j < 2 → Qor s i k (EL.getD j default).1 (EL.getD j default).2 := fun j hj => by
          have : j = 0 ∨ j = 1 := by omega
          rcases this with rfl | rfl <;> subst hEL
          · exact ⟨hkl, by omega, .inl ⟨rfl, rfl⟩⟩
          · exact ⟨hkl, by omega, .inr ⟨rfl, rfl⟩⟩
        have hEl : EL.length = 2 := by rw [hEL]; rfl
        refine Xo (fun a : (ML × Bool) × Nat => ⟨[(2, .ptr 102 0), (5, .ptr 119 0), (6, .bool a.1.2), (8, .ptr 108 0), (9, .int .i64 (k : Nat)), (27, .sl 0 2 (s.aws.map (Aw.row 0))), (28, .int .i64 (s.aws.length : Nat)), (29, .int .i64 (i : Nat)), (64, .sl 0 2 (EL.map QlH)), (65, .int .i64 2), (66, .int .i64 (a.2 : Nat))], [(102, .box [.int .i64 s.w, .int .i64 s.h, .int .i64 s.lv, .sl 0 3 (s.pts.map Pt.row), .sl 0 2 (s.aws.map (Aw.row 0)), .sl 0 2 (s.secs.map (Sec.row 0)), .sl 0 4 (s.rws.map Rw.row)]), (119, .mp 0 (esL (dS s) a.1.1)), (108, .box [.str (s.aws.getD i default).nm, .sl 0 1 ((s.aws.getD i default).pts.map QH)])]⟩) (fun a => a.2 ≤ 2 ∧ PR s fr L0 a.1.1 a.1.2 (fun x y => S2 s i k x y ∨ ∃ j, j < a.2 ∧ EL.getD j default = (x, y))) (fun a => 2 - a.2) ((L, ag), 0) ?_ ⟨by omega, hp.weak fun a b h => h.elim id fun ⟨j, h1, _⟩ => by omega⟩ ?_
        · exact ⟨by subst hEL; repeat' (first | exact trivial | refine ⟨.inr rfl, ?_⟩), ⟨rfl, rfl, rfl, trivial⟩, clA _ _ (by simp [Qr, Qg]), by simp [keepB, dom]⟩
        clear hp
        rintro ⟨⟨L, ag⟩, j⟩ ⟨hj, hp⟩ NX4 hN4
        simp only at hj hp ⊢
        by_cases hjl : j < 2
        · have ha := hed j hjl
          have hadj : ZJ s (EL.getD j default).1 (EL.getD j default).2 := ⟨i, hil, k, ha⟩
          obtain ⟨i1, i2⟩ := Qoi hv hadj
          obtain ⟨a1, a2, a3⟩ := UG i1
          obtain ⟨b1, b2, b3⟩ := UG i2
          have k1 := QdO hv i1
          have k2 := QdO hv i2
          have nextS : ∀ j x y, (S2 s i k x y ∨ ∃ j', j' < j + 1 ∧ EL.getD j' default = (x, y)) → (S2 s i k x y ∨ ∃ j', j' < j ∧ EL.getD j' default = (x, y)) ∨ (x = (EL.getD j default).1 ∧ y = (EL.getD j default).2) := fun j x y h => by
            rcases h with h | ⟨j', h1, h2⟩
            · exact .inl (.inl h)
            · rcases Nat.lt_or_ge j' j with q | q
              · exact .inl (.inr ⟨j', q, h2⟩)
              · have e : j' = j := by omega
                subst e; exact .inr (by rw [h2]; exact ⟨rfl, rfl⟩)
          cases hl1 : Y0 L (EL.getD j default).1 with
          | none =>
            have l1 := hl1
            unfold Yc; simp (config := { maxSteps := 2000000 }) only [bitvec_to_nat, reduceIte, Nat.reduceEqDiff, Nat.reduceAdd, Nat.reduceLeDiff, reduceCtorEq, Nat.reduceBEq, Nat.reduceLT, Nat.reduceMod, List.forall_mem_cons, Qv, QE, Qu, Q9, keepB, QF, Jc, KJ, XQ, KK, Qk, Qm, Qa, Q3, Qh, List.take_length, List.length_cons, List.length_nil, Nat.zero_add, QH, QX, Q4, Q6, Zone.row, Qf, Qs, Pt.row, Ql, QA, Aw.row, Qo, QB, Blk.row, Qb, Qj, Sec.row, Qc, Qn, Rw.row, Qp, QD, Qd, Int.toNat_natCast, Nat.sub_zero, List.length_map, List.append_nil, kf, hR, QlH, elp, k1, k2, Yj, KC, l1, l2, Option.isSome_some, Option.isSome_none, wv, t1, Ki, Kh, Qa3, noref, JJ, Int.reduceToNat, Nat.mul_one, Nat.reduceMul]
            refine ⟨fun _ => ⟨by omega, by omega, ⟨by omega, by omega⟩, by omega, ?_⟩, fun h => absurd (by omega) h⟩
            refine hN4 ((L, ag), j + 1) _ ⟨by repeat' (first | exact trivial | refine ⟨.inr rfl, ?_⟩), ⟨rfl, rfl, rfl, trivial⟩, clA _ _ (by simp [Qr, Qg]), by simp [keepB, dom]⟩ ⟨by simp only; omega, ?_⟩ (by simp only; omega)
            exact (hp.skip (x := (EL.getD j default).1) (y := (EL.getD j default).2) fun w hw => by rw [hl1] at hw; cases hw).weak (nextS j)
          | some w =>
            have l1 := hl1
            have hwk := hp.1.w _ _ hl1
            have hwn := hp.1.n _ _ hl1
            have hw0 : 0 < w.length := List.length_pos_iff.2 (Qmk hwk)
            have hwl : w.length ≤ 16 := by
              have := UL hwn.1 hwn.2
              rw [J9] at this
              exact Nat.le_trans this hv.2.1.1
            have hfb := Qoj (d := dS s) (fun a b => Qu9 hv a b) w
            have q1 := QaU hv i1
            have q2 := QaU hv i2
            have q3 := Qu9 hv (EL.getD j default).1 (EL.getD j default).2
            unfold Cell.inn ptC at q1 q2
            simp only at q1 q2
            have hmx : (if max ((s.pts.getD (KN s.pts (EL.getD j default).fst).toNat default).y - (s.pts.getD (KN s.pts (EL.getD j default).snd).toNat default).y) ((s.pts.getD (KN s.pts (EL.getD j default).snd).toNat default).y - (s.pts.getD (KN s.pts (EL.getD j default).fst).toNat default).y) > max ((s.pts.getD (KN s.pts (EL.getD j default).fst).toNat default).x - (s.pts.getD (KN s.pts (EL.getD j default).snd).toNat default).x) ((s.pts.getD (KN s.pts (EL.getD j default).snd).toNat default).x - (s.pts.getD (KN s.pts (EL.getD j default).fst).toNat default).x) then max ((s.pts.getD (KN s.pts (EL.getD j default).fst).toNat default).y - (s.pts.getD (KN s.pts (EL.getD j default).snd).toNat default).y) ((s.pts.getD (KN s.pts (EL.getD j default).snd).toNat default).y - (s.pts.getD (KN s.pts (EL.getD j default).fst).toNat default).y) else max ((s.pts.getD (KN s.pts (EL.getD j default).fst).toNat default).x - (s.pts.getD (KN s.pts (EL.getD j default).snd).toNat default).x) ((s.pts.getD (KN s.pts (EL.getD j default).snd).toNat default).x - (s.pts.getD (KN s.pts (EL.getD j default).fst).toNat default).x)) = dS s (EL.getD j default).1 (EL.getD j default).2 := by
              unfold dS Qfy Qr7 ptC
              simp only
              split <;> split <;> split <;> omega
            have hC := (Qop 0 w hw0 (by omega)).ren (swp 105 215) (J8 _ _)
            rw [QaB _ _ (show JJ [AV.sl 0 1 (w.map QH)] = true from rfl)] at hC
            simp only [ren, X8, renO, swp, if_true, show 9 < 1000000 from by omega] at hC
            have hfar : Xb (dS s) w + dS s (EL.getD j default).1 (EL.getD j default).2 = Xb (dS s) (w ++ [(EL.getD j default).2]) := (Qbl hwk).symm
            unfold Yc; simp (config := { maxSteps := 2000000 }) only [bitvec_to_nat, reduceIte, Nat.reduceEqDiff, Nat.reduceAdd, Nat.reduceLeDiff, reduceCtorEq, Nat.reduceBEq, Nat.reduceLT, Nat.reduceMod, List.forall_mem_cons, Qv, QE, Qu, Q9, keepB, QF, Jc, KJ, XQ, KK, Qk, Qm, Qa, Q3, Qh, List.take_length, List.length_cons, List.length_nil, Nat.zero_add, QH, QX, Q4, Q6, Zone.row, Qf, Qs, Pt.row, Ql, QA, Aw.row, Qo, QB, Blk.row, Qb, Qj, Sec.row, Qc, Qn, Rw.row, Qp, QD, Qd, Int.toNat_natCast, Nat.sub_zero, List.length_map, List.append_nil, kf, hR, QlH, elp, k1, k2, Yj, KC, l1, l2, Option.isSome_some, Option.isSome_none, wv, t1, Ki, Kh, Qa3, noref, JJ, Int.reduceToNat, Nat.mul_one, Nat.reduceMul]
            simp only [hmx]
            refine ⟨fun _ => ⟨by omega, by omega, ⟨by omega, by omega⟩, ⟨by omega, by omega⟩, hs, i1, by omega, ⟨by omega, by omega⟩, hs, i2, b3, ⟨by omega, by omega, by omega, by omega⟩, ⟨by omega, by omega, by omega, by omega⟩, ⟨by omega, by omega⟩, ?_⟩, fun h => absurd (by omega) h⟩
            refine ⟨_, _, .inr (.inr (.inl ⟨_, rfl, hC, by simp [getM], by simp [Qr, dom], rfl, by simp [No99], by simp [VW, Kp]⟩)), ?_⟩
            have tkx : List.take (w.length + 1) (List.map QH w ++ [[AV.str (EL.getD j default).2]]) = (w ++ [(EL.getD j default).2]).map QH := by
              rw [List.take_of_length_le (by simp)]; simp [QH]
            have eP : Qa3 (esL (dS s) L) (.str (EL.getD j default).2) (.agg [.int .i64 (Xb (dS s) (w ++ [(EL.getD j default).2])), .sl 0 1 ((w ++ [(EL.getD j default).2]).map QH)]) = esL (dS s) (Qpj L (EL.getD j default).2 (w ++ [(EL.getD j default).2])) := Qoq
            cases hl2 : Y0 L (EL.getD j default).2 with
            | none =>
              have l2 := hl2
              simp (config := { maxSteps := 2000000 }) only [bitvec_to_nat, reduceIte, Nat.reduceEqDiff, Nat.reduceAdd, Nat.reduceLeDiff, reduceCtorEq, Nat.reduceBEq, Nat.reduceLT, Nat.reduceMod, List.forall_mem_cons, Qv, QE, Qu, Q9, keepB, QF, Jc, KJ, XQ, KK, Qk, Qm, Qa, Q3, Qh, List.take_length, List.length_cons, List.length_nil, Nat.zero_add, QH, QX, Q4, Q6, Zone.row, Qf, Qs, Pt.row, Ql, QA, Aw.row, Qo, QB, Blk.row, Qb, Qj, Sec.row, Qc, Qn, Rw.row, Qp, QD, Qd, Int.toNat_natCast, Nat.sub_zero, List.length_map, List.append_nil, kf, hR, QlH, elp, k1, k2, Yj, KC, l1, l2, Option.isSome_some, Option.isSome_none, wv, t1, Ki, Kh, Qa3, noref, JJ, Int.reduceToNat, Nat.mul_one, Nat.reduceMul, tkx, hfar, eP, KE, QjK, Q3, Qh]
              refine ⟨⟨by omega, by omega⟩, by omega, ⟨by omega, by omega⟩, ⟨by omega, by omega⟩, ⟨by omega, by omega⟩, ?_⟩
              exact hN4 ((Qpj L (EL.getD j default).2 (w ++ [(EL.getD j default).2]), true), j + 1) _ ⟨by repeat' (first | exact trivial | refine ⟨.inr rfl, ?_⟩), ⟨rfl, rfl, rfl, trivial⟩, clA _ _ (by simp [Qr, Qg]), by simp [keepB, dom]⟩ ⟨by simp only; omega, hp.put hv hl1 hadj (.inl hl2)⟩ (by simp only; omega)
            | some o =>
              have l2 := hl2
              have hwo := UL (hp.1.n _ _ hl2).1 (hp.1.n _ _ hl2).2
              rw [J9] at hwo
              have hlo : (w ++ [(EL.getD j default).2]).length ≤ 1048576 := by rw [List.length_append]; simp only [List.length_cons, List.length_nil]; omega
              by_cases hb : btf (Xb (dS s) (w ++ [(EL.getD j default).2])) (w ++ [(EL.getD j default).2]) (Xb (dS s) o) o
              · simp (config := { maxSteps := 2000000 }) only [bitvec_to_nat, reduceIte, Nat.reduceEqDiff, Nat.reduceAdd, Nat.reduceLeDiff, reduceCtorEq, Nat.reduceBEq, Nat.reduceLT, Nat.reduceMod, List.forall_mem_cons, Qv, QE, Qu, Q9, keepB, QF, Jc, KJ, XQ, KK, Qk, Qm, Qa, Q3, Qh, List.take_length, List.length_cons, List.length_nil, Nat.zero_add, QH, QX, Q4, Q6, Zone.row, Qf, Qs, Pt.row, Ql, QA, Aw.row, Qo, QB, Blk.row, Qb, Qj, Sec.row, Qc, Qn, Rw.row, Qp, QD, Qd, Int.toNat_natCast, Nat.sub_zero, List.length_map, List.append_nil, kf, hR, QlH, elp, k1, k2, Yj, KC, l1, l2, Option.isSome_some, Option.isSome_none, wv, t1, Ki, Kh, Qa3, noref, JJ, Int.reduceToNat, Nat.mul_one, Nat.reduceMul, tkx, hfar, eP, KE, QjK, Q3, Qh, hb]
                refine ⟨⟨by omega, by omega⟩, by omega, ⟨by omega, by omega⟩, ⟨hlo, by omega⟩, ⟨by omega, by omega⟩, ⟨by omega, by omega⟩, ?_⟩
                exact hN4 ((Qpj L (EL.getD j default).2 (w ++ [(EL.getD j default).2]), true), j + 1) _ ⟨by repeat' (first | exact trivial | refine ⟨.inr rfl, ?_⟩), ⟨rfl, rfl, rfl, trivial⟩, clA _ _ (by simp [Qr, Qg]), by simp [keepB, dom]⟩ ⟨by simp only; omega, hp.put hv hl1 hadj (.inr ⟨o, hl2, hb⟩)⟩ (by simp only; omega)
              · simp (config := { maxSteps := 2000000 }) only [bitvec_to_nat, reduceIte, Nat.reduceEqDiff, Nat.reduceAdd, Nat.reduceLeDiff, reduceCtorEq, Nat.reduceBEq, Nat.reduceLT, Nat.reduceMod, List.forall_mem_cons, Qv, QE, Qu, Q9, keepB, QF, Jc, KJ, XQ, KK, Qk, Qm, Qa, Q3, Qh, List.take_length, List.length_cons, List.length_nil, Nat.zero_add, QH, QX, Q4, Q6, Zone.row, Qf, Qs, Pt.row, Ql, QA, Aw.row, Qo, QB, Blk.row, Qb, Qj, Sec.row, Qc, Qn, Rw.row, Qp, QD, Qd, Int.toNat_natCast, Nat.sub_zero, List.length_map, List.append_nil, kf, hR, QlH, elp, k1, k2, Yj, KC, l1, l2, Option.isSome_some, Option.isSome_none, wv, t1, Ki, Kh, Qa3, noref, JJ, Int.reduceToNat, Nat.mul_one, Nat.reduceMul, tkx, hfar, eP, KE, QjK, Q3, Qh, hb]
                refine ⟨⟨by omega, by omega⟩, by omega, ⟨by omega, by omega⟩, ⟨hlo, by omega⟩, ⟨by omega, by omega⟩, ?_⟩
                exact hN4 ((L, ag), j + 1) _ ⟨by repeat' (first | exact trivial | refine ⟨.inr rfl, ?_⟩), ⟨rfl, rfl, rfl, trivial⟩, clA _ _ (by simp [Qr, Qg]), by simp [keepB, dom]⟩ ⟨by simp only; omega, (hp.skip (x := (EL.getD j default).1) (y := (EL.getD j default).2) fun w' hw' => by rw [hl1] at hw'; cases hw'; exact ⟨o, hl2, hb⟩).weak (nextS j)⟩ (by simp only; omega)
        · have ej : j = 2 := by omega
          subst ej
          unfold Yc; simp (config := { maxSteps := 2000000 }) only [bitvec_to_nat, reduceIte, Nat.reduceEqDiff, Nat.reduceAdd, Nat.reduceLeDiff, reduceCtorEq, Nat.reduceBEq, Nat.reduceLT, Nat.reduceMod, List.forall_mem_cons, Qv, QE, Qu, Q9, keepB, QF, Jc, KJ, XQ, KK, Qk, Qm, Qa, Q3, Qh, List.take_length, List.length_cons, List.length_nil, Nat.zero_add, QH, QX, Q4, Q6, Zone.row, Qf, Qs, Pt.row, Ql, QA, Aw.row, Qo, QB, Blk.row, Qb, Qj, Sec.row, Qc, Qn, Rw.row, Qp, QD, Qd, Int.toNat_natCast, Nat.sub_zero, List.length_map, List.append_nil, kf, hR, QlH, elp, k1, k2, Yj, KC, l1, l2, Option.isSome_some, Option.isSome_none, wv, t1, Ki, Kh, Qa3, noref, JJ, Int.reduceToNat, Nat.mul_one, Nat.reduceMul]
          refine ⟨fun h => absurd h (by omega), fun _ => ⟨⟨by omega, by omega⟩, ?_⟩⟩
          refine hN3 ((L, ag), k + 1) _ ⟨by repeat' (first | exact trivial | refine ⟨.inr rfl, ?_⟩), ⟨rfl, rfl, rfl, trivial⟩, clA _ _ (by simp [Qr, Qg]), by simp [keepB, dom]⟩ ⟨⟨by simp only; omega, by simp only; omega⟩, hp.weak fun x y h => ?_⟩ (by simp only; omega)
          rcases h with h | ⟨k', h1, h2⟩
          · exact .inl (.inl h)
          · rcases Nat.lt_or_ge k' k with q | q
            · exact .inl (.inr ⟨k', q, h2⟩)
            · have e : k' = k := by omega
              subst e; subst hEL
              rcases h2.2.2 with ⟨rfl, rfl⟩ | ⟨rfl, rfl⟩
              · exact .inr ⟨0, by omega, rfl⟩
              · exact .inr ⟨1, by omega, rfl⟩
      · unfold GB; simp (config := { maxSteps := 2000000 }) only [bitvec_to_nat, reduceIte, Nat.reduceEqDiff, Nat.reduceAdd, Nat.reduceLeDiff, reduceCtorEq, Nat.reduceBEq, Nat.reduceLT, Nat.reduceMod, List.forall_mem_cons, Qv, QE, Qu, Q9, keepB, QF, Jc, KJ, XQ, KK, Qk, Qm, Qa, Q3, Qh, List.take_length, List.length_cons, List.length_nil, Nat.zero_add, QH, QX, Q4, Q6, Zone.row, Qf, Qs, Pt.row, Ql, QA, Aw.row, Qo, QB, Blk.row, Qb, Qj, Sec.row, Qc, Qn, Rw.row, Qp, QD, Qd, Int.toNat_natCast, Nat.sub_zero, List.length_map, List.append_nil, kf, hR, QlH, elp, k1, k2, Yj, KC, l1, l2, Option.isSome_some, Option.isSome_none, wv, t1, Ki, Kh, Qa3, noref, JJ, Int.reduceToNat, Nat.mul_one, Nat.reduceMul]
        refine ⟨fun h => absurd h (by omega), fun _ => ⟨⟨by omega, by omega⟩, ?_⟩⟩
        refine hN2 ((L, ag), i + 1) _ ⟨by repeat' (first | exact trivial | refine ⟨.inr rfl, ?_⟩), ⟨rfl, rfl, trivial⟩, cl _ _ (by simp [Qr, Qg]), by simp [keepB, dom]⟩ ⟨by simp only; omega, hp.weak fun x y h => ?_⟩ (by simp only; omega)
        obtain ⟨i', h1, h2, k', h3⟩ := h
        rcases Nat.lt_or_ge i' i with q | q
        · exact .inl ⟨i', q, h2, k', h3⟩
        · have e : i' = i := by omega
          subst e
          exact .inr ⟨k', by have := h3.1; omega, h3⟩
    · have ei : i = s.aws.length := by omega
      subst ei
      unfold GC; simp (config := { maxSteps := 2000000 }) only [bitvec_to_nat, reduceIte, Nat.reduceEqDiff, Nat.reduceAdd, Nat.reduceLeDiff, reduceCtorEq, Nat.reduceBEq, Nat.reduceLT, Nat.reduceMod, List.forall_mem_cons, Qv, QE, Qu, Q9, keepB, QF, Jc, KJ, XQ, KK, Qk, Qm, Qa, Q3, Qh, List.take_length, List.length_cons, List.length_nil, Nat.zero_add, QH, QX, Q4, Q6, Zone.row, Qf, Qs, Pt.row, Ql, QA, Aw.row, Qo, QB, Blk.row, Qb, Qj, Sec.row, Qc, Qn, Rw.row, Qp, QD, Qd, Int.toNat_natCast, Nat.sub_zero, List.length_map, List.append_nil, kf, hR, QlH, elp, k1, k2, Yj, KC, l1, l2, Option.isSome_some, Option.isSome_none, wv, t1, Ki, Kh, Qa3, noref, JJ, Int.reduceToNat, Nat.mul_one, Nat.reduceMul]
      refine ⟨fun h => absurd h (by omega), fun _ => ?_⟩
      refine hN (L, ag) _ ⟨by repeat' (first | exact trivial | refine ⟨.inr rfl, ?_⟩), ⟨rfl, rfl, trivial⟩, cl _ _ (by simp [Qr, Qg]), by simp [keepB, dom]⟩ ⟨hp.1, fun he x y hxy => ?_⟩ ?_
      · rcases hp.2 with ⟨_, _, q⟩ | ⟨q, _⟩
        · obtain ⟨i', h1, k', h2⟩ := hxy
          exact q x y ⟨i', h1, h1, k', h2⟩
        · simp only at he; rw [he] at q; cases q
      · rcases hp.2 with ⟨q, q2, _⟩ | ⟨q, q2⟩
        · subst q; subst q2; simp
        · subst q; simp only [if_true]; omega
end
end Go.Ve

namespace Go.Ve
noncomputable section
open Go.Proofs
set_option linter.unusedSimpArgs false
set_option linter.unusedVariables false
set_option maxRecDepth 100000
open Classical in
def Qpk (s : Sky) (a b : Nm) : List Nm := if h : ∃ m, Lst (ZJ s) (dS s) m a b then h.choose else []
def Qdh (s : Sky) (a b : Nm) : List Nm := if 0 ≤ KN s.pts a ∧ 0 ≤ KN s.pts b then Qpk s a b else []
theorem QlI {s : Sky} {a b : Nm} {m : List Nm} (h : Lst (ZJ s) (dS s) m a b) : Qpk s a b = m := by
  have hx : ∃ m, Lst (ZJ s) (dS s) m a b := ⟨m, h⟩
  unfold Qpk
  rw [dif_pos hx]
  exact hx.choose_spec.uniq h
theorem Qi8 {s : Sky} {a b : Nm} (h : ∀ u, ¬ wk (ZJ s) u a b) : Qpk s a b = [] := by
  unfold Qpk
  rw [dif_neg]
  rintro ⟨m, hm⟩; exact h m hm.1
theorem QlJ {s : Sky} {a b : Nm} {L : ML} (h : BInv (ZJ s) (dS s) (Kd s) a (Y0 L)) (k : ∀ x y, ZJ s x y → Fx (dS s) L x y) :
    (∀ u, Y0 L b = some u → Lst (ZJ s) (dS s) u a b) ∧ (Y0 L b = none → ∀ u, ¬ wk (ZJ s) u a b) :=
  QsI h.w h.z (fun x y w ha hw => k x y ha w hw) b
theorem QlK {s : Sky} (hs : s.small) (hv : s.valid) {a : Nm} (ha : 0 ≤ KN s.pts a) (b : Nm) : Lst (ZJ s) (dS s) (Qpk s a b) a b ∨ Qpk s a b = [] ∧ ∀ u, ¬ wk (ZJ s) u a b := by
  obtain ⟨L, ⟨h, k⟩, _⟩ := Qr9 s a hs hv ha
  obtain ⟨h1, h2⟩ := QlJ (b := b) h k
  cases e : Y0 L b with
  | none => exact .inr ⟨Qi8 (h2 e), h2 e⟩
  | some u => have := h1 u e; exact .inl (by rw [QlI this]; exact this)
theorem Qi9 {s : Sky} (hv : s.valid) {a b : Nm} (ha : 0 ≤ KN s.pts a) {m : List Nm} (h : Lst (ZJ s) (dS s) m a b) : m.Nodup ∧ (∀ z ∈ m, z ∈ Kd s) ∧ m.length ≤ s.pts.length := by
  have h1 := h.nodup (Qoh s)
  have h2 : ∀ z ∈ m, z ∈ Kd s := QgO (fun a b h => WR hv h) h.1 (Qb8 ha)
  have := UL h1 h2
  rw [J9] at this
  exact ⟨h1, h2, this⟩
theorem Qva {s : Sky} (hs : s.small) (hv : s.valid) {a to : Nm} (ha : 0 ≤ KN s.pts a) {B : List (List Nm)} (h : Qol s to B) : B.getD (KN s.pts a).toNat [] = Qpk s a to := by
  obtain ⟨p1, p2, p3⟩ := UG ha
  have e : (Kd s).getD (KN s.pts a).toNat default = a := by rw [Vj p1, p2]
  rcases QlK hs hv ha to with q | ⟨q, k⟩
  · exact h.2.1 _ p1 _ (by rw [e]; exact q) (Qi9 hv ha q).2.2
  · rw [q]
    by_cases hb : B.getD (KN s.pts a).toNat [] = []
    · exact hb
    · have := h.1.2 _ (by rw [J9]; exact p1) hb
      rw [e] at this
      exact absurd this (k _)
theorem Qrf {s : Sky} (hs : s.small) (hv : s.valid) (a b : Nm) : (∀ z ∈ Qdh s a b, 0 ≤ KN s.pts z) ∧ (Qdh s a b).length ≤ 16 := by
  unfold Qdh
  split
  · rename_i h
    rcases QlK hs hv h.1 b with q | ⟨q, _⟩
    · obtain ⟨_, h2, h3⟩ := Qi9 hv h.1 q
      exact ⟨fun z hz => WQ (h2 z hz), Nat.le_trans h3 hv.2.1.1⟩
    · rw [q]; exact ⟨fun z hz => by simp at hz, by simp⟩
  · exact ⟨fun z hz => by simp at hz, by simp⟩
theorem Qsa : ∀ l : List (List Nm), JW (l.map Qc3)
  | [] => trivial
  | x :: l => ⟨⟨⟨by omega, Kp _⟩, trivial⟩, Qsa l⟩
open Classical in
def Qos (s : Sky) (to : Nm) : List (List Nm) := if h : ∃ B, Qol s to B ∧ Contract P 54 [.agg (s.row 0), .str to] [] (.sl 0 1 (B.map Qc3)) [] then h.choose else []
theorem QlL (s : Sky) (to : Nm) (hs : s.small) (hv : s.valid) (ht : 0 ≤ KN s.pts to) : Qol s to (Qos s to) ∧ Contract P 54 [.agg (s.row 0), .str to] [] (.sl 0 1 ((Qos s to).map Qc3)) [] := by
  have h := Qrc s to hs hv ht
  unfold Qos
  rw [dif_pos h]
  exact h.choose_spec
def W1 : List AV → Option (Prop × AV)
  | [.agg [.int .i64 s_w, .int .i64 s_h, .int .i64 s_lv, .sl 0 3 s_pts, .sl 0 2 s_aws, .sl 0 2 s_secs, .sl 0 4 s_rws], .str to] => some ((((s_pts.map JA).map Pt.row = s_pts) ∧ ((s_aws.map JI).map (Aw.row 0) = s_aws) ∧ ((s_secs.map QP).map (Sec.row 0) = s_secs) ∧ ((s_rws.map JG).map Rw.row = s_rws)) ∧ (Sky.small (Sky.mk s_w s_h s_lv (s_pts.map JA) (s_aws.map JI) (s_secs.map QP) (s_rws.map JG)) ∧ Sky.valid (Sky.mk s_w s_h s_lv (s_pts.map JA) (s_aws.map JI) (s_secs.map QP) (s_rws.map JG)) ∧ 0 ≤ KN (Sky.pts (Sky.mk s_w s_h s_lv (s_pts.map JA) (s_aws.map JI) (s_secs.map QP) (s_rws.map JG))) to), .sl 0 1 ((Qos (Sky.mk s_w s_h s_lv (s_pts.map JA) (s_aws.map JI) (s_secs.map QP) (s_rws.map JG)) to).map Qc3))
  | _ => none
theorem QlM : ∀ args p v, W1 args = some (p, v) → p → Contract P 54 args [] v [] ∧ noref v = true ∧ No99 v := by
  intro args p v h1 h2
  unfold W1 at h1
  split at h1
  · rename_i s_w s_h s_lv s_pts s_aws s_secs s_rws to
    cases h1
    obtain ⟨⟨e0, e1, e2, e3⟩, HP⟩ := h2
    have := (QlL (Sky.mk s_w s_h s_lv (s_pts.map JA) (s_aws.map JI) (s_secs.map QP) (s_rws.map JG)) to HP.1 HP.2.1 HP.2.2).2
    exact ⟨by simpa only [e0, e1, e2, e3, Sky.row] using this, rfl, by simp only [No99]; exact ⟨by omega, Qsa _⟩⟩
  · cases h1
set_option maxHeartbeats 1000000 in
theorem QtH (s : Sky) (a b : Nm) (hs : s.small) (hv : s.valid) : Contract P 19 [.agg (s.row 0), .str a, .str b] [] (.sl 0 1 ((Qdh s a b).map QH)) [] := by
  have hs' := hs
  unfold Sky.small at hs'
  by_cases hab : 0 ≤ KN s.pts a ∧ 0 ≤ KN s.pts b
  · have hB := (QlL s b hs hv hab.2).1
    have hW := Qva hs hv hab.1 hB
    have e : Qdh s a b = Qpk s a b := if_pos hab
    rw [e]
    have hBl : (Qos s b).length = s.pts.length := by rw [hB.1.1, J9]
    obtain ⟨p1, p2, p3⟩ := UG hab.1
    have tkw : True := trivial
    simp only [Sky.row]
    refine Qt (((Env.nil P).add 53 JO Vd).add 54 W1 QlM) hm QcW (Nat.le_of_ble_eq_true rfl) rfl ?_; unfold Wj; simp (config := { maxSteps := 2000000 }) only [bitvec_to_nat, reduceIte, Nat.reduceEqDiff, Nat.reduceAdd, Nat.reduceLeDiff, reduceCtorEq, Nat.reduceBEq, Nat.reduceLT, Nat.reduceMod, List.forall_mem_cons, Qv, QE, Qu, Q9, keepB, QF, Jc, JO, W1, Qk, Qm, Qa, Q3, Qh, List.take_length, List.length_cons, List.length_nil, Nat.zero_add, QH, QX, Q4, Q6, Zone.row, Qf, Qs, Pt.row, Ql, QA, Aw.row, Qo, QB, Blk.row, Qb, Qj, Sec.row, Qc, Qn, Rw.row, Qp, QD, Qd, Int.toNat_natCast, Nat.sub_zero, List.length_map, List.append_nil, tkw, hW, Qc3, hBl]
    rw [← hW]
    refine ⟨by omega, fun h => by omega, fun _ => ⟨by omega, fun h => by omega, fun _ => ⟨⟨hs, hv, hab.2⟩, hab.1, by omega, ?_, rfl⟩⟩⟩
    have := hB.2.2 _ p1
    exact Nat.le_trans this (by omega)
  · have e : Qdh s a b = [] := if_neg hab
    rw [e]
    have tkw : True := trivial
    have hW : True := trivial
    have hBl : True := trivial
    simp only [Sky.row]
    refine Qt (((Env.nil P).add 53 JO Vd).add 54 W1 QlM) hm QcW (Nat.le_of_ble_eq_true rfl) rfl ?_; unfold Wj; simp (config := { maxSteps := 2000000 }) only [bitvec_to_nat, reduceIte, Nat.reduceEqDiff, Nat.reduceAdd, Nat.reduceLeDiff, reduceCtorEq, Nat.reduceBEq, Nat.reduceLT, Nat.reduceMod, List.forall_mem_cons, Qv, QE, Qu, Q9, keepB, QF, Jc, JO, W1, Qk, Qm, Qa, Q3, Qh, List.take_length, List.length_cons, List.length_nil, Nat.zero_add, QH, QX, Q4, Q6, Zone.row, Qf, Qs, Pt.row, Ql, QA, Aw.row, Qo, QB, Blk.row, Qb, Qj, Sec.row, Qc, Qn, Rw.row, Qp, QD, Qd, Int.toNat_natCast, Nat.sub_zero, List.length_map, List.append_nil, tkw, hW, Qc3, hBl]
    refine ⟨by omega, fun h => ⟨by omega, fun h2 => ?_⟩⟩
    exact absurd ⟨by omega, by omega⟩ hab
def GE : List AV → Option (Prop × AV)
  | [.agg [.int .i64 s_w, .int .i64 s_h, .int .i64 s_lv, .sl 0 3 s_pts, .sl 0 2 s_aws, .sl 0 2 s_secs, .sl 0 4 s_rws], .str a, .str b] => some ((((s_pts.map JA).map Pt.row = s_pts) ∧ ((s_aws.map JI).map (Aw.row 0) = s_aws) ∧ ((s_secs.map QP).map (Sec.row 0) = s_secs) ∧ ((s_rws.map JG).map Rw.row = s_rws)) ∧ (Sky.small (Sky.mk s_w s_h s_lv (s_pts.map JA) (s_aws.map JI) (s_secs.map QP) (s_rws.map JG)) ∧ Sky.valid (Sky.mk s_w s_h s_lv (s_pts.map JA) (s_aws.map JI) (s_secs.map QP) (s_rws.map JG))), .sl 0 1 ((Qdh (Sky.mk s_w s_h s_lv (s_pts.map JA) (s_aws.map JI) (s_secs.map QP) (s_rws.map JG)) a b).map QH))
  | _ => none
theorem Qot : ∀ args p v, GE args = some (p, v) → p → Contract P 19 args [] v [] ∧ noref v = true ∧ No99 v := by
  intro args p v h1 h2
  unfold GE at h1
  split at h1
  · rename_i s_w s_h s_lv s_pts s_aws s_secs s_rws a b
    cases h1
    obtain ⟨⟨e0, e1, e2, e3⟩, HP⟩ := h2
    have := QtH (Sky.mk s_w s_h s_lv (s_pts.map JA) (s_aws.map JI) (s_secs.map QP) (s_rws.map JG)) a b HP.1 HP.2
    exact ⟨by simpa only [e0, e1, e2, e3, Sky.row] using this, rfl, by simp only [No99]; exact ⟨by omega, Kp _⟩⟩
  · cases h1
theorem QtI (d : Nm → Nm → Int) (L : ML) : VW (.mp 0 (esL d L)) := by
  induction L with
  | nil => exact ⟨trivial, trivial⟩
  | cons p L ih => exact ⟨⟨trivial, ih.1⟩, ⟨⟨trivial, ⟨by omega, Kp _⟩, trivial⟩, ih.2⟩⟩
end
end Go.Ve

namespace Go.Ve
open Go.Proofs
set_option maxRecDepth 100000
def Zz : SCode := (.seq (jq [jm 15 8 [],jf 16 0 3 [],jl 17 16 [16],jb 18 .lss 15 17 [15,17]] [1,2,3,6,7,8,18] (.cond (.v 18) .skip (.exit 0))) (.seq (.block 1 (jq [jL 22 7 3 [],jm 23 8 [],jm 24 2 [],jm 25 1 [],jn 26 (.build [.int .i64 0,.int .i64 0,.int .i64 0] [(0,1,.v 23),(1,1,.v 24),(2,1,.v 25)]) [23,24,25],jn 27 (.call 52 [.v 22,.v 26]) [22,26],jm 21 27 [27],jn 28 (.ext 0 (.v 21)) [],jn 29 (.ext 1 (.v 21)) [21],jm 9 28 [28],jm 10 29 [10,29]] [1,2,3,6,7,8,9] (jq [jf 30 2 7 [],jl 31 30 [30],jn 32 (.lenL (.v 31)) [31],jm 11 32 [32]] [1,2,3,6,7,8,9,11] (.seq (jq [jm 33 11 [],jc 34 .gtr 33 0 [33],jm 35 34 [34],jt 36 35 (.faddr 2 (.v 7)) [],jt 37 35 (.load1 (.v 36)) [36],jt 38 35 (.mv (.v 11)) [],jt 39 35 (.binN .sub (.v 38) (ci 1)) [38],jt 40 35 (.iaddr 3 (.v 37) (.v 39)) [37,39],jt 41 35 (.faddr 2 (.v 40)) [40],jt 42 35 (.load1 (.v 41)) [41],jt 43 35 (.mv (.v 9)) [],jt 44 35 (.bin .eql (.v 42) (.v 43)) [42,43],jn 45 (.pick (.v 35) (.v 44) (.c (.bool false))) [35,44]] [1,2,3,6,7,8,9,11,45] (.cond (.v 45) (jq [jf 46 2 7 [],jl 47 46 [46],jm 48 11 [11],jn 49 (.binN .sub (.v 48) (ci 1)) [48],jm 50 8 [],ja 51 3 47 49 [47,49],jf 52 1 51 [51],⟨none,.store 1 (.v 52) (.v 50),none,[50,52]⟩] [1,2,3,6,7,8] (.exit 1)) .skip)) (.rg [jf 53 2 7 [],jl 54 53 [53],jm 55 8 [],jm 56 8 [],jm 57 9 [9],jn 58 (.build [.int .i64 0,.int .i64 0,.str ⟨#[]⟩] [(0,1,.v 55),(1,1,.v 56),(2,1,.v 57)]) [55,56,57],jn 59 (.lit 71 3 [.v 58]) [58],jn 60 (.app 160 71 3 (.v 54) (.v 59)) [54,59],jf 61 2 7 [],⟨none,.store 1 (.v 61) (.v 60),none,[60,61]⟩] [1,2,3,6,7,8]))))) (.rg [jm 19 8 [8],jn 20 (.binN .add (.v 19) (ci 1)) [19],jm 8 20 [20]] [1,2,3,6,7,8])))
/-- spec.l8Row: function 18 -/
def Qca : SFun := { n := 63,res := [.cN 6 3],body := (jq [jn 3 (.box 103 (.v 0)) [0],jn 6 (.alloc 106 [.int .i64 0,.int .i64 0,.sl 0 3 []]) []] [1,2,3,6] (jq [jm 12 1 [],jm 13 2 [],jn 14 (.build [.int .i64 0,.int .i64 0,.sl 98 3 []] [(0,1,.v 12),(1,1,.v 13)]) [12,13],jn 7 (.alloc 107 [.int .i64 0,.int .i64 0,.sl 0 3 []]) [],⟨none,.store 3 (.v 7) (.v 14),none,[14]⟩] [1,2,3,6,7] (.seq (jq [jI 8 0 []] [1,2,3,6,7,8] (.block 0 (.gh (.nilB 107 2 160 71) (.loop Zz)))) (jq [jL 62 3 7 [7],⟨none,.store 3 (.v 6) (.v 62),none,[62]⟩] [6] (.gh (.frzB 106 2) .ret))))) }
theorem Qhx : Jd Go.Proofs.Tryz.prog 18 Qca = true := by kernel_rfl
def YQ : SCode := (.seq (jq [jm 20 5 [],jf 21 1 1 [],jl 22 21 [21],jb 23 .lss 20 22 [20,22]] [1,2,3,4,5,23] (.cond (.v 23) .skip (.exit 2))) (.seq (.block 3 (.rgd [jf 26 0 3 [],jl 27 26 [],jL 28 7 1 [],jm 29 4 [],jm 30 5 [],jn 31 (.call 18 [.v 28,.v 29,.v 30]) [],jn 32 (.lit 53 3 [.v 31]) [],jn 33 (.app 133 53 3 (.v 27) (.v 32)) [],jf 34 0 3 [],⟨none,.store 1 (.v 34) (.v 33),none,[]⟩] [1,2,3,4,5] [some [],some [],none,none,none,some [4,3],none,none,none,none])) (.rg [jm 24 5 [5],jn 25 (.binN .add (.v 24) (ci 1)) [24],jm 5 25 [25]] [1,2,3,4,5])))
def YR : SCode := (.seq (jq [jm 14 4 [],jf 15 2 1 [],jl 16 15 [15],jb 17 .leq 14 16 [14,16]] [1,2,3,4,17] (.cond (.v 17) .skip (.exit 0))) (.seq (.block 1 (jq [jI 5 0 []] [1,2,3,4,5] (.block 2 (.loop YQ)))) (.rg [jm 18 4 [4],jn 19 (.binN .add (.v 18) (ci 1)) [18],jm 4 19 [19]] [1,2,3,4])))
def YS : SCode := (.seq (jq [jm 42 7 [],jf 43 3 1 [],jl 44 43 [43],jn 45 (.lenL (.v 44)) [44],jb 46 .lss 42 45 [42,45]] [1,2,3,6,7,46] (.cond (.v 46) .skip (.exit 6))) (.seq (.block 7 (.seq (.rgd [jL 49 7 1 [],jf 50 3 1 [],jl 51 50 [],jm 52 6 [],ja 53 3 51 52 [],jf 54 0 53 [],jl 55 54 [],jf 56 3 1 [],jl 57 56 [],jm 58 7 [],ja 59 3 57 58 [],jf 60 0 59 [],jl 61 60 [],jn 62 (.call 19 [.v 49,.v 55,.v 61]) [],jm 8 62 []] [1,2,3,6,7,8] [none,none,none,none,none,none,none,none,none,none,none,none,none,none,none]) (jq [jm 63 8 [],jn 64 (.lenL (.v 63)) [63],jc 65 .gtr 64 1 [64]] [1,2,3,6,7,8,65] (.cond (.v 65) (.rgd [jf 66 1 3 [],jl 67 66 [],jf 68 3 1 [],jl 69 68 [],jm 70 6 [],ja 71 3 69 70 [],jf 72 0 71 [],jl 73 72 [],jf 74 3 1 [],jl 75 74 [],jm 76 7 [],ja 77 3 75 76 [],jf 78 0 77 [],jl 79 78 [],jL 80 7 1 [],jm 81 8 [],jn 82 (.call 20 [.v 80,.v 81]) [],jm 83 8 [],jn 84 (.iaddr 1 (.v 83) (ci 1)) [],jl 85 84 [],jn 86 (.build [.str ⟨#[]⟩,.str ⟨#[]⟩,.int .i64 0,.str ⟨#[]⟩] [(0,1,.v 73),(1,1,.v 79),(2,1,.v 82),(3,1,.v 85)]) [],jn 87 (.lit 61 4 [.v 86]) [],jn 88 (.app 188 61 4 (.v 67) (.v 87)) [],jf 89 1 3 [],⟨none,.store 1 (.v 89) (.v 88),none,[]⟩] [1,2,3,6,7] [some [],some [],some [],some [],none,some [],some [],some [],some [],some [],none,some [],some [],some [],none,none,some [15,14,13,12,10,9,8,7,6,4,3,2],none,some [1],some [2],none,none,none,none,none]) .skip)))) (.rg [jm 47 7 [7],jn 48 (.binN .add (.v 47) (ci 1)) [47],jm 7 48 [48]] [1,2,3,6,7])))
def YT : SCode := (.seq (jq [jm 35 6 [],jf 36 3 1 [],jl 37 36 [36],jn 38 (.lenL (.v 37)) [37],jb 39 .lss 35 38 [35,38]] [1,2,3,6,39] (.cond (.v 39) .skip (.exit 4))) (.seq (.block 5 (jq [jI 7 0 []] [1,2,3,6,7] (.block 6 (.loop YS)))) (.rg [jm 40 6 [6],jn 41 (.binN .add (.v 40) (ci 1)) [40],jm 6 41 [41]] [1,2,3,6])))
/-- spec.SkyIndexOf: function 5 -/
def GF : SFun := { n := 91,res := [.cN 2 2],body := (jq [jn 1 (.box 101 (.v 0)) [0],jn 2 (.alloc 102 [.sl 0 3 [],.sl 0 4 []]) []] [1,2] (jq [jn 9 (.build [.sl 98 3 [],.sl 98 4 []] []) [],jn 3 (.alloc 103 [.sl 0 3 [],.sl 0 4 []]) [],⟨none,.store 2 (.v 3) (.v 9),none,[9]⟩] [1,2,3] (.gh (.nilB 103 0 133 53) (.gh (.nilB 103 1 188 61) (.seq (jq [jL 10 7 1 [],jn 11 (.call 17 [.v 10]) [10],jn 12 (.not (.v 11)) [11]] [1,2,3,12] (.cond (.v 12) (jq [jL 13 2 3 [3],⟨none,.store 2 (.v 2) (.v 13),none,[13]⟩] [2] (.gh (.frzB 102 0) (.gh (.frzB 102 1) .ret))) .skip)) (.seq (jq [jI 4 1 []] [1,2,3,4] (.block 0 (.loop YR))) (.seq (jq [jI 6 0 []] [1,2,3,6] (.block 4 (.loop YT))) (jq [jL 90 2 3 [3],⟨none,.store 2 (.v 2) (.v 90),none,[90]⟩] [2] (.gh (.frzB 102 0) (.gh (.frzB 102 1) .ret)))))))))) }
theorem Uw : Jd Go.Proofs.Tryz.prog 5 GF = true := by kernel_rfl
end Go.Ve

namespace Go.Ve
noncomputable section
open Go.Proofs
set_option linter.unusedSimpArgs false
set_option linter.unusedVariables false
set_option maxRecDepth 100000
structure Run where
  fr : Int
  to : Int
  nm : ByteArray
  deriving Inhabited, DecidableEq
def Run.row (s : Run) : List AV := [.int .i64 s.fr, .int .i64 s.to, .str s.nm]
def V2 : List AV → Run
  | [.int .i64 vfr, .int .i64 vto, .str vnm] => (Run.mk vfr vto vnm)
  | _ => default
theorem Qou (s : Run) : V2 (Run.row s) = s := by
  cases s; simp only [Run.row, V2]
theorem Q5 (l : List Run) : (l.map Run.row).map V2 = l := by
  rw [List.map_map]; exact List.map_id'' (fun s => Qou s) l
theorem QJ (s : Run) : (Run.mk s.fr s.to s.nm) = s := (rfl)
theorem Qhy (l : List Run) : JW (l.map Run.row) := by
  induction l with
  | nil => simp [JW]
  | cons x l ih => simp only [List.map_cons, JW]; exact ⟨by simp [Run.row, Ko, No99], ih⟩
structure SRow where
  lv : Int
  y : Int
  rs : List Run
  deriving Inhabited, DecidableEq
def SRow.row (t : Nat) (s : SRow) : List AV := [.int .i64 s.lv, .int .i64 s.y, .sl t 3 (s.rs.map Run.row)]
def VU : List AV → SRow
  | [.int .i64 vlv, .int .i64 vy, .sl _ 3 vrs] => (SRow.mk vlv vy (vrs.map V2))
  | _ => default
theorem QmF (t : Nat) (s : SRow) : VU (SRow.row t s) = s := by
  cases s; simp only [SRow.row, VU, Q5]
theorem QW (t : Nat) (l : List SRow) : (l.map (SRow.row t)).map VU = l := by
  rw [List.map_map]; exact List.map_id'' (fun s => QmF t s) l
theorem QL (s : SRow) : (SRow.mk s.lv s.y s.rs) = s := (rfl)
theorem Qov (l : List SRow) : JW (l.map (SRow.row 0)) := by
  induction l with
  | nil => simp [JW]
  | cons x l ih => simp only [List.map_cons, JW]; exact ⟨by simp [SRow.row, Ko, No99, Qhy], ih⟩
structure Hop where
  fr : ByteArray
  to : ByteArray
  far : Int
  nx : ByteArray
  deriving Inhabited, DecidableEq
def Hop.row (s : Hop) : List AV := [.str s.fr, .str s.to, .int .i64 s.far, .str s.nx]
def QeY : List AV → Hop
  | [.str vfr, .str vto, .int .i64 vfar, .str vnx] => (Hop.mk vfr vto vfar vnx)
  | _ => default
theorem Qow (s : Hop) : QeY (Hop.row s) = s := by
  cases s; simp only [Hop.row, QeY]
theorem Q7 (l : List Hop) : (l.map Hop.row).map QeY = l := by
  rw [List.map_map]; exact List.map_id'' (fun s => Qow s) l
theorem QM (s : Hop) : (Hop.mk s.fr s.to s.far s.nx) = s := (rfl)
theorem QlN (l : List Hop) : JW (l.map Hop.row) := by
  induction l with
  | nil => simp [JW]
  | cons x l ih => simp only [List.map_cons, JW]; exact ⟨by simp [Hop.row, Ko, No99], ih⟩
structure SIdx where
  rows : List SRow
  hops : List Hop
  deriving Inhabited, DecidableEq
def SIdx.row (t : Nat) (s : SIdx) : List AV := [.sl t 3 (s.rows.map (SRow.row t)), .sl t 4 (s.hops.map Hop.row)]
def Qox : List AV → SIdx
  | [.sl _ 3 vrows, .sl _ 4 vhops] => (SIdx.mk (vrows.map VU) (vhops.map QeY))
  | _ => default
theorem QmG (t : Nat) (s : SIdx) : Qox (SIdx.row t s) = s := by
  cases s; simp only [SIdx.row, Qox, QW, Q7]
theorem G5 (t : Nat) (l : List SIdx) : (l.map (SIdx.row t)).map Qox = l := by
  rw [List.map_map]; exact List.map_id'' (fun s => QmG t s) l
theorem Yr (s : SIdx) : (SIdx.mk s.rows s.hops) = s := (rfl)
def Qsb (l : List Run) (c : Int) (n : Nm) : List Run := if 0 < l.length ∧ (l.getD (l.length - 1) default).nm = n then l.set (l.length - 1) { l.getD (l.length - 1) default with to := c } else l ++ [⟨c, c, n⟩]
def KM (s : Sky) (lv y : Int) : Nat → List Run
  | 0 => []
  | c + 1 => Qsb (KM s lv y c) c (wNm s.secs c y lv)
theorem Qcb {s : Sky} {lv y : Int} : ∀ c, (KM s lv y c).length ≤ c
  | 0 => by simp [KM]
  | c + 1 => by
    have := Qcb (s := s) (lv := lv) (y := y) c
    simp only [KM, Qsb]
    split
    · rw [List.length_set]; omega
    · simp; omega
theorem WS {l : List Run} {i : Nat} {v : Int} : (l.map Run.row).set i (QT ((l.map Run.row).getD i []) 1 [.int .i64 v]) = (l.set i { l.getD i default with to := v }).map Run.row :=
  JR (α := Run) (f := Run.row) (fun s => { s with to := v }) fun x => by simp [Run.row, QT]
theorem Qja {s : Sky} {lv y : Int} {c : Nat} (h : 0 < (KM s lv y c).length) (k : ((KM s lv y c).getD ((KM s lv y c).length - 1) default).nm = wNm s.secs c y lv) : KM s lv y (c + 1) = (KM s lv y c).set ((KM s lv y c).length - 1) { (KM s lv y c).getD ((KM s lv y c).length - 1) default with to := c } := if_pos ⟨h, k⟩
theorem Qcc {s : Sky} {lv y : Int} {c : Nat} (h : ¬ (0 < (KM s lv y c).length ∧ ((KM s lv y c).getD ((KM s lv y c).length - 1) default).nm = wNm s.secs c y lv)) : KM s lv y (c + 1) = KM s lv y c ++ [⟨c, c, wNm s.secs c y lv⟩] := if_neg h
abbrev QtJ (s : Sky) (lv y : Int) : SRow := ⟨lv, y, KM s lv y s.w.toNat⟩
set_option maxHeartbeats 2000000 in
theorem QtK (s : Sky) (lv y : Int) (hs : s.small) (hw : 0 ≤ s.w ∧ s.w ≤ 16) : Contract P 18 [.agg (s.row 0), .int .i64 lv, .int .i64 y] [] (.agg [.int .i64 lv, .int .i64 y, .sl 0 3 ((KM s lv y s.w.toNat).map Run.row)]) [] := by
  have hsm := hs
  unfold Sky.small at hsm
  have tkl : True := trivial
  have t1 : True := trivial
  have tkx : True := trivial
  refine Qt ((Env.nil P).add 52 Vh Qn9) hm Qhx (Nat.le_of_ble_eq_true rfl) rfl ?_; unfold Qca; simp (config := { maxSteps := 2000000 }) only [bitvec_to_nat, reduceIte, Nat.reduceEqDiff, Nat.reduceAdd, Nat.reduceLeDiff, reduceCtorEq, Nat.reduceBEq, Nat.reduceLT, Nat.reduceMod, List.forall_mem_cons, Qv, QE, Qu, Q9, keepB, QF, Jc, Vh, Qk, Qm, Qa, Q3, Qh, List.take_length, List.length_cons, List.length_nil, Nat.zero_add, QH, QX, Q4, Q6, Zone.row, Qf, Qs, Word.row, Je, Own.row, Jy, Part.row, Jf, Seen.row, Jg, Book.row, Jh, Sector.row, QR, HCraft.row, QS, World.row, Q2, Pt.row, Ql, Aw.row, Qo, Blk.row, Qb, Sec.row, Qc, Rw.row, Qp, Sky.row, Qd, Place.row, QG, Run.row, QJ, SRow.row, QL, Hop.row, QM, SIdx.row, Yr, Jx, JS, Jn, Jo, Jz, QY, QZ, Ji, QA, QB, Qj, Qn, QD, QO, QQ, Q5, QW, Q7, G5, Nat.sub_zero, Sky.row, KE, List.nil_append, tkl, t1, tkx, Run.row, QJ, Q5, WS, Jw]
  refine QV (fun c : Nat => [(8, .int .i64 c)]) (fun c => [(107, .box [.int .i64 lv, .int .i64 y, .own 160 (KM s lv y c).length 0 (KM s lv y c).length]), (160, .arr 71 (KM s lv y c).length 3 ((KM s lv y c).map Run.row))]) (fun c => (c : Int) ≤ s.w) (fun c => s.w.toNat - c) 0 (by simp only [KM]; simp only [JX, JY, JZ, J0, Qw, Qx, Qy, Qz, reduceIte, Nat.reduceEqDiff]; exact ⟨by repeat' (first | exact trivial | refine ⟨.inr rfl, ?_⟩), by repeat' (first | exact trivial | refine ⟨rfl, ?_⟩), by first | rfl | simp [closedB, Qr, Qg, Qi, dom, Qe, *], by first | rfl | simp [keepB, dom]⟩) (by simpa using hw.1) ?_
  intro c hc NX hN
  have hl := Qcb (s := s) (lv := lv) (y := y) c
  have tkl : List.take (KM s lv y c).length ((KM s lv y c).map Run.row) = (KM s lv y c).map Run.row := List.take_of_length_le (by simp)
  have t1 : (((KM s lv y c).length : Int) - 1).toNat = (KM s lv y c).length - 1 := by omega
  by_cases hlt : (c : Int) < s.w
  · unfold Zz; simp (config := { maxSteps := 2000000 }) only [bitvec_to_nat, reduceIte, Nat.reduceEqDiff, Nat.reduceAdd, Nat.reduceLeDiff, reduceCtorEq, Nat.reduceBEq, Nat.reduceLT, Nat.reduceMod, List.forall_mem_cons, Qv, QE, Qu, Q9, keepB, QF, Jc, Vh, Qk, Qm, Qa, Q3, Qh, List.take_length, List.length_cons, List.length_nil, Nat.zero_add, QH, QX, Q4, Q6, Zone.row, Qf, Qs, Word.row, Je, Own.row, Jy, Part.row, Jf, Seen.row, Jg, Book.row, Jh, Sector.row, QR, HCraft.row, QS, World.row, Q2, Pt.row, Ql, Aw.row, Qo, Blk.row, Qb, Sec.row, Qc, Rw.row, Qp, Sky.row, Qd, Place.row, QG, Run.row, QJ, SRow.row, QL, Hop.row, QM, SIdx.row, Yr, Jx, JS, Jn, Jo, Jz, QY, QZ, Ji, QA, QB, Qj, Qn, QD, QO, QQ, Q5, QW, Q7, G5, Nat.sub_zero, Sky.row, KE, List.nil_append, tkl, t1, tkx, Run.row, QJ, Q5, WS, Jw]
    refine ⟨fun _ => ⟨hs, fun h1 => ⟨⟨by omega, by omega⟩, ⟨by omega, by omega⟩, by omega, fun h2 => ⟨⟨by omega, by omega⟩, ⟨by omega, by omega⟩, ⟨by omega, by omega⟩, ?_⟩, fun h2 => ⟨by omega, ⟨by omega, by omega⟩, ?_⟩⟩, fun h1 => ⟨by omega, ⟨by omega, by omega⟩, ?_⟩⟩, fun h => absurd hlt h⟩
    · have e := Qja (s := s) (lv := lv) (y := y) (c := c) (by omega) h2
      refine hN (c + 1) _ (by simp only [e, List.length_set, Run.row, List.length_append, List.length_cons, List.length_nil, Nat.zero_add, List.map_append, List.map_cons, List.map_nil, JX, JY, JZ, J0, Qw, Qx, Qy, Qz, reduceIte, Nat.reduceEqDiff]; exact ⟨by repeat' (first | exact trivial | refine ⟨.inr rfl, ?_⟩), by repeat' (first | exact trivial | refine ⟨rfl, ?_⟩), by first | rfl | simp [closedB, Qr, Qg, Qi, dom, Qe, *], by first | rfl | simp [keepB, dom]⟩) ?_ ?_
      · omega
      · omega
    · have e := Qcc (s := s) (lv := lv) (y := y) (c := c) fun k => h2 k.2
      refine hN (c + 1) _ (by simp only [e, Run.row, List.length_append, List.length_cons, List.length_nil, Nat.zero_add, List.map_append, List.map_cons, List.map_nil, JX, JY, JZ, J0, Qw, Qx, Qy, Qz, reduceIte, Nat.reduceEqDiff]; exact ⟨by repeat' (first | exact trivial | refine ⟨.inr rfl, ?_⟩), by repeat' (first | exact trivial | refine ⟨rfl, ?_⟩), by first | rfl | simp [closedB, Qr, Qg, Qi, dom, Qe, *], by first | rfl | simp [keepB, dom]⟩) ?_ ?_
      · omega
      · omega
    · have e := Qcc (s := s) (lv := lv) (y := y) (c := c) fun k => h1 (by omega)
      refine hN (c + 1) _ (by simp only [e, Run.row, List.length_append, List.length_cons, List.length_nil, Nat.zero_add, List.map_append, List.map_cons, List.map_nil, JX, JY, JZ, J0, Qw, Qx, Qy, Qz, reduceIte, Nat.reduceEqDiff]; exact ⟨by repeat' (first | exact trivial | refine ⟨.inr rfl, ?_⟩), by repeat' (first | exact trivial | refine ⟨rfl, ?_⟩), by first | rfl | simp [closedB, Qr, Qg, Qi, dom, Qe, *], by first | rfl | simp [keepB, dom]⟩) ?_ ?_
      · omega
      · omega
  · have e : s.w.toNat = c := by omega
    unfold Zz; simp (config := { maxSteps := 2000000 }) only [bitvec_to_nat, reduceIte, Nat.reduceEqDiff, Nat.reduceAdd, Nat.reduceLeDiff, reduceCtorEq, Nat.reduceBEq, Nat.reduceLT, Nat.reduceMod, List.forall_mem_cons, Qv, QE, Qu, Q9, keepB, QF, Jc, Vh, Qk, Qm, Qa, Q3, Qh, List.take_length, List.length_cons, List.length_nil, Nat.zero_add, QH, QX, Q4, Q6, Zone.row, Qf, Qs, Word.row, Je, Own.row, Jy, Part.row, Jf, Seen.row, Jg, Book.row, Jh, Sector.row, QR, HCraft.row, QS, World.row, Q2, Pt.row, Ql, Aw.row, Qo, Blk.row, Qb, Sec.row, Qc, Rw.row, Qp, Sky.row, Qd, Place.row, QG, Run.row, QJ, SRow.row, QL, Hop.row, QM, SIdx.row, Yr, Jx, JS, Jn, Jo, Jz, QY, QZ, Ji, QA, QB, Qj, Qn, QD, QO, QQ, Q5, QW, Q7, G5, Nat.sub_zero, Sky.row, KE, List.nil_append, tkl, t1, tkx, Run.row, QJ, Q5, WS, Jw]
    exact ⟨fun h => absurd h hlt, fun _ => by rw [e]⟩
def GG : List AV → Option (Prop × AV)
  | [.agg [.int .i64 s_w, .int .i64 s_h, .int .i64 s_lv, .sl 0 3 s_pts, .sl 0 2 s_aws, .sl 0 2 s_secs, .sl 0 4 s_rws], .int .i64 lv, .int .i64 y] => some ((((s_pts.map JA).map Pt.row = s_pts) ∧ ((s_aws.map JI).map (Aw.row 0) = s_aws) ∧ ((s_secs.map QP).map (Sec.row 0) = s_secs) ∧ ((s_rws.map JG).map Rw.row = s_rws)) ∧ (Sky.small (Sky.mk s_w s_h s_lv (s_pts.map JA) (s_aws.map JI) (s_secs.map QP) (s_rws.map JG)) ∧ (0 ≤ Sky.w (Sky.mk s_w s_h s_lv (s_pts.map JA) (s_aws.map JI) (s_secs.map QP) (s_rws.map JG)) ∧ Sky.w (Sky.mk s_w s_h s_lv (s_pts.map JA) (s_aws.map JI) (s_secs.map QP) (s_rws.map JG)) ≤ 16)), .agg (SRow.row 0 (QtJ (Sky.mk s_w s_h s_lv (s_pts.map JA) (s_aws.map JI) (s_secs.map QP) (s_rws.map JG)) lv y)))
  | _ => none
theorem Qoy : ∀ args p v, GG args = some (p, v) → p → Contract P 18 args [] v [] ∧ noref v = true ∧ No99 v := by
  intro args p v h1 h2
  unfold GG at h1
  split at h1
  · rename_i s_w s_h s_lv s_pts s_aws s_secs s_rws lv y
    cases h1
    obtain ⟨⟨e0, e1, e2, e3⟩, HP⟩ := h2
    have := QtK (Sky.mk s_w s_h s_lv (s_pts.map JA) (s_aws.map JI) (s_secs.map QP) (s_rws.map JG)) lv y HP.1 HP.2
    exact ⟨by simpa only [e0, e1, e2, e3, Sky.row, SRow.row] using this, rfl, by simp [SRow.row, No99, Ko, Qhy]⟩
  · cases h1
def Qka (s : Sky) (lv : Int) (b : Nat) : List SRow := (List.range b).map fun y : Nat => QtJ s lv y
def X3 (s : Sky) (a : Nat) : List SRow := (List.range a).flatMap fun l : Nat => Qka s ((l : Int) + 1) s.h.toNat
def Kx (s : Sky) (a b : Nat) : List SRow := X3 s a ++ Qka s ((a : Int) + 1) b
theorem QdP {s : Sky} {a : Nat} : Kx s a 0 = X3 s a := by simp [Kx, Qka]
theorem QeZ {s : Sky} {a b : Nat} : Kx s a (b + 1) = Kx s a b ++ [QtJ s ((a : Int) + 1) b] := by simp [Kx, Qka, List.range_succ]
theorem QcF {s : Sky} {a : Nat} : Kx s a s.h.toNat = X3 s (a + 1) := by simp [Kx, X3, List.range_succ]
theorem Qjb {s : Sky} {lv : Int} {b : Nat} : (Qka s lv b).length = b := by simp [Qka]
theorem Qoz {s : Sky} {a : Nat} : (X3 s a).length = a * s.h.toNat := by
  induction a with
  | zero => simp [X3]
  | succ a ih => rw [← QcF, Kx, List.length_append, ih, Qjb, Nat.succ_mul]
theorem QmH {s : Sky} {a b : Nat} : (Kx s a b).length = a * s.h.toNat + b := by rw [Kx, List.length_append, Qoz, Qjb]
def Qe0 (s : Sky) (i k : Nat) : List Hop := if 1 < (Qdh s (s.pts.getD i default).nm (s.pts.getD k default).nm).length then [⟨(s.pts.getD i default).nm, (s.pts.getD k default).nm, Xb (dS s) (Qdh s (s.pts.getD i default).nm (s.pts.getD k default).nm), (Qdh s (s.pts.getD i default).nm (s.pts.getD k default).nm).getD 1 default⟩] else []
def Qhz (s : Sky) (i k : Nat) : List Hop := (List.range k).flatMap fun j => Qe0 s i j
def VB (s : Sky) (i : Nat) : List Hop := (List.range i).flatMap fun j => Qhz s j s.pts.length
def Yk (s : Sky) (i k : Nat) : List Hop := VB s i ++ Qhz s i k
theorem QhA {s : Sky} {i : Nat} : Yk s i 0 = VB s i := by simp [Yk, Qhz]
theorem ZA {s : Sky} {i k : Nat} : Yk s i (k + 1) = Yk s i k ++ Qe0 s i k := by simp [Yk, Qhz, List.range_succ, List.flatMap_append]
theorem QcG {s : Sky} {i : Nat} : Yk s i s.pts.length = VB s (i + 1) := by simp [Yk, VB, List.range_succ, List.flatMap_append]
theorem QoA {s : Sky} {i k : Nat} : (Qe0 s i k).length ≤ 1 := by unfold Qe0; split <;> simp
theorem Qjc {s : Sky} {i k : Nat} : (Qhz s i k).length ≤ k := by
  induction k with
  | zero => simp [Qhz]
  | succ k ih =>
    have := QoA (s := s) (i := i) (k := k)
    have e : Qhz s i (k + 1) = Qhz s i k ++ Qe0 s i k := by simp [Qhz, List.range_succ, List.flatMap_append]
    rw [e, List.length_append]; omega
theorem QoB {s : Sky} {i : Nat} : (VB s i).length ≤ i * s.pts.length := by
  induction i with
  | zero => simp [VB]
  | succ i ih =>
    have := Qjc (s := s) (i := i) (k := s.pts.length)
    rw [← QcG, Yk, List.length_append, Nat.succ_mul]; omega
theorem QcH {s : Sky} {i k : Nat} (hp : s.pts.length ≤ 16) (hi : i ≤ 16) (hk : k ≤ 16) : (Yk s i k).length ≤ 272 := by
  have h1 := Qjc (s := s) (i := i) (k := k)
  have h2 := QoB (s := s) (i := i)
  have h3 : i * s.pts.length ≤ 16 * 16 := Nat.mul_le_mul hi hp
  rw [Yk, List.length_append]; omega
theorem Qcd {s : Sky} {a b : Nat} (ha : a ≤ 6) (hh : s.h ≤ 16) (hb : b ≤ 16) : (Kx s a b).length ≤ 112 := by
  have : a * s.h.toNat ≤ 6 * 16 := Nat.mul_le_mul ha (by omega)
  rw [QmH]; omega
def WT (s : Sky) : List SRow := if s.valid then X3 s s.lv.toNat else []
def W2 (s : Sky) : List Hop := if s.valid then VB s s.pts.length else []
set_option maxHeartbeats 4000000 in
theorem Qrg (s : Sky) (hs : s.small) : Contract P 5 [.agg (s.row 0)] [] (.agg [.sl 0 3 ((WT s).map (SRow.row 0)), .sl 0 4 ((W2 s).map Hop.row)]) [] := by
  have hsm := hs
  unfold Sky.small at hsm
  have tkR : True := trivial
  have tkH : True := trivial
  by_cases hv : s.valid
  · have hd := hv.1
    unfold G7 at hd
    have hp16 := hv.2.1.1
    rw [WT, W2, if_pos hv, if_pos hv]
    refine Qt (((((Env.nil P).add 17 J5 QeQ).add 18 GG Qoy).add 19 GE Qot).add 20 KB Qht) hm Uw (Nat.le_of_ble_eq_true rfl) rfl ?_; unfold GF; simp (config := { maxSteps := 2000000 }) only [bitvec_to_nat, reduceIte, Nat.reduceEqDiff, Nat.reduceAdd, Nat.reduceLeDiff, reduceCtorEq, Nat.reduceBEq, Nat.reduceLT, Nat.reduceMod, List.forall_mem_cons, Qv, QE, Qu, Q9, keepB, QF, Jc, J5, GG, GE, KB, Qk, Qm, Qa, Q3, Qh, List.take_length, List.length_cons, List.length_nil, Nat.zero_add, QH, QX, Q4, Q6, Zone.row, Qf, Qs, Word.row, Je, Own.row, Jy, Part.row, Jf, Seen.row, Jg, Book.row, Jh, Sector.row, QR, HCraft.row, QS, World.row, Q2, Pt.row, Ql, Aw.row, Qo, Blk.row, Qb, Sec.row, Qc, Rw.row, Qp, Sky.row, Qd, Place.row, QG, Run.row, QJ, SRow.row, QL, Hop.row, QM, SIdx.row, Yr, Jx, JS, Jn, Jo, Jz, QY, QZ, Ji, QA, QB, Qj, Qn, QD, QO, QQ, Q5, QW, Q7, G5, Nat.sub_zero, Sky.row, KE, List.nil_append, tkR, tkH, Run.row, QJ, Q5, Hop.row, QM, Q7, SRow.row, QL, QW, Jw]
    refine ⟨hs, fun _ => ?_, fun h => absurd hv h⟩
    refine QV (fun a : Nat => [(4, .int .i64 (a + 1))]) (fun a => [(103, .box [.own 133 (X3 s a).length 0 (X3 s a).length, .own 188 0 0 0]), (133, .arr 53 (X3 s a).length 3 ((X3 s a).map (SRow.row 0)))]) (fun a => (a : Int) ≤ s.lv) (fun a => s.lv.toNat - a) 0 (by simp only [show X3 s 0 = [] from rfl]; simp only [JX, JY, JZ, J0, Qw, Qx, Qy, Qz, reduceIte, Nat.reduceEqDiff]; exact ⟨by repeat' (first | exact trivial | refine ⟨.inr rfl, ?_⟩), by repeat' (first | exact trivial | refine ⟨rfl, ?_⟩), by first | rfl | simp [closedB, Qr, Qg, Qi, dom, Qe, *], by first | rfl | simp [keepB, dom]⟩) (by omega) ?_
    intro a ha NX hN
    by_cases hal : (a : Int) < s.lv
    · unfold YR; simp (config := { maxSteps := 2000000 }) only [bitvec_to_nat, reduceIte, Nat.reduceEqDiff, Nat.reduceAdd, Nat.reduceLeDiff, reduceCtorEq, Nat.reduceBEq, Nat.reduceLT, Nat.reduceMod, List.forall_mem_cons, Qv, QE, Qu, Q9, keepB, QF, Jc, J5, GG, GE, KB, Qk, Qm, Qa, Q3, Qh, List.take_length, List.length_cons, List.length_nil, Nat.zero_add, QH, QX, Q4, Q6, Zone.row, Qf, Qs, Word.row, Je, Own.row, Jy, Part.row, Jf, Seen.row, Jg, Book.row, Jh, Sector.row, QR, HCraft.row, QS, World.row, Q2, Pt.row, Ql, Aw.row, Qo, Blk.row, Qb, Sec.row, Qc, Rw.row, Qp, Sky.row, Qd, Place.row, QG, Run.row, QJ, SRow.row, QL, Hop.row, QM, SIdx.row, Yr, Jx, JS, Jn, Jo, Jz, QY, QZ, Ji, QA, QB, Qj, Qn, QD, QO, QQ, Q5, QW, Q7, G5, Nat.sub_zero, Sky.row, KE, List.nil_append, tkR, tkH, Run.row, QJ, Q5, Hop.row, QM, Q7, SRow.row, QL, QW, Jw]
      refine ⟨fun _ => ?_, fun h => absurd (by omega) h⟩
      refine QV (fun b : Nat => [(5, .int .i64 b)]) (fun b => [(103, .box [.own 133 (Kx s a b).length 0 (Kx s a b).length, .own 188 0 0 0]), (133, .arr 53 (Kx s a b).length 3 ((Kx s a b).map (SRow.row 0)))]) (fun b => (b : Int) ≤ s.h) (fun b => s.h.toNat - b) 0 (by simp only [QdP]; simp only [JX, JY, JZ, J0, Qw, Qx, Qy, Qz, reduceIte, Nat.reduceEqDiff]; exact ⟨by repeat' (first | exact trivial | refine ⟨.inr rfl, ?_⟩), by repeat' (first | exact trivial | refine ⟨rfl, ?_⟩), by first | rfl | simp [closedB, Qr, Qg, Qi, dom, Qe, *], by first | rfl | simp [keepB, dom]⟩) (by omega) ?_
      intro b hb NX2 hN2
      have hle := Qcd (s := s) (a := a) (b := b) (by omega) (by omega) (by omega)
      have tkR : List.take (Kx s a b).length ((Kx s a b).map (SRow.row 0)) = (Kx s a b).map (SRow.row 0) := List.take_of_length_le (by simp)
      by_cases hbl : (b : Int) < s.h
      · unfold YQ; simp (config := { maxSteps := 2000000 }) only [bitvec_to_nat, reduceIte, Nat.reduceEqDiff, Nat.reduceAdd, Nat.reduceLeDiff, reduceCtorEq, Nat.reduceBEq, Nat.reduceLT, Nat.reduceMod, List.forall_mem_cons, Qv, QE, Qu, Q9, keepB, QF, Jc, J5, GG, GE, KB, Qk, Qm, Qa, Q3, Qh, List.take_length, List.length_cons, List.length_nil, Nat.zero_add, QH, QX, Q4, Q6, Zone.row, Qf, Qs, Word.row, Je, Own.row, Jy, Part.row, Jf, Seen.row, Jg, Book.row, Jh, Sector.row, QR, HCraft.row, QS, World.row, Q2, Pt.row, Ql, Aw.row, Qo, Blk.row, Qb, Sec.row, Qc, Rw.row, Qp, Sky.row, Qd, Place.row, QG, Run.row, QJ, SRow.row, QL, Hop.row, QM, SIdx.row, Yr, Jx, JS, Jn, Jo, Jz, QY, QZ, Ji, QA, QB, Qj, Qn, QD, QO, QQ, Q5, QW, Q7, G5, Nat.sub_zero, Sky.row, KE, List.nil_append, tkR, tkH, Run.row, QJ, Q5, Hop.row, QM, Q7, SRow.row, QL, QW, Jw]
        refine ⟨fun _ => ⟨⟨hs, by omega, by omega⟩, by omega, ⟨by omega, by omega⟩, ?_⟩, fun h => absurd hbl h⟩
        refine hN2 (b + 1) _ (by simp only [QeZ, SRow.row, List.length_append, List.length_cons, List.length_nil, Nat.zero_add, List.map_append, List.map_cons, List.map_nil, JX, JY, JZ, J0, Qw, Qx, Qy, Qz, reduceIte, Nat.reduceEqDiff]; exact ⟨by repeat' (first | exact trivial | refine ⟨.inr rfl, ?_⟩), by repeat' (first | exact trivial | refine ⟨rfl, ?_⟩), by first | rfl | simp [closedB, Qr, Qg, Qi, dom, Qe, *], by first | rfl | simp [keepB, dom]⟩) ?_ ?_
        · omega
        · omega
      · have e : s.h.toNat = b := by omega
        have e3 := QcF (s := s) (a := a)
        rw [e] at e3
        unfold YQ; simp (config := { maxSteps := 2000000 }) only [bitvec_to_nat, reduceIte, Nat.reduceEqDiff, Nat.reduceAdd, Nat.reduceLeDiff, reduceCtorEq, Nat.reduceBEq, Nat.reduceLT, Nat.reduceMod, List.forall_mem_cons, Qv, QE, Qu, Q9, keepB, QF, Jc, J5, GG, GE, KB, Qk, Qm, Qa, Q3, Qh, List.take_length, List.length_cons, List.length_nil, Nat.zero_add, QH, QX, Q4, Q6, Zone.row, Qf, Qs, Word.row, Je, Own.row, Jy, Part.row, Jf, Seen.row, Jg, Book.row, Jh, Sector.row, QR, HCraft.row, QS, World.row, Q2, Pt.row, Ql, Aw.row, Qo, Blk.row, Qb, Sec.row, Qc, Rw.row, Qp, Sky.row, Qd, Place.row, QG, Run.row, QJ, SRow.row, QL, Hop.row, QM, SIdx.row, Yr, Jx, JS, Jn, Jo, Jz, QY, QZ, Ji, QA, QB, Qj, Qn, QD, QO, QQ, Q5, QW, Q7, G5, Nat.sub_zero, Sky.row, KE, List.nil_append, tkR, tkH, Run.row, QJ, Q5, Hop.row, QM, Q7, SRow.row, QL, QW, Jw]
        refine ⟨fun h => absurd h hbl, fun _ => ⟨⟨by omega, by omega⟩, ?_⟩⟩
        refine hN (a + 1) _ (by simp only [← e3, List.length_append, List.length_cons, List.length_nil, Nat.zero_add, List.map_append, List.map_cons, List.map_nil, JX, JY, JZ, J0, Qw, Qx, Qy, Qz, reduceIte, Nat.reduceEqDiff]; exact ⟨by repeat' (first | exact trivial | refine ⟨.inr rfl, ?_⟩), by repeat' (first | exact trivial | refine ⟨rfl, ?_⟩), by first | rfl | simp [closedB, Qr, Qg, Qi, dom, Qe, *], by first | rfl | simp [keepB, dom]⟩) ?_ ?_
        · omega
        · omega
    · have e : s.lv.toNat = a := by omega
      unfold YR; simp (config := { maxSteps := 2000000 }) only [bitvec_to_nat, reduceIte, Nat.reduceEqDiff, Nat.reduceAdd, Nat.reduceLeDiff, reduceCtorEq, Nat.reduceBEq, Nat.reduceLT, Nat.reduceMod, List.forall_mem_cons, Qv, QE, Qu, Q9, keepB, QF, Jc, J5, GG, GE, KB, Qk, Qm, Qa, Q3, Qh, List.take_length, List.length_cons, List.length_nil, Nat.zero_add, QH, QX, Q4, Q6, Zone.row, Qf, Qs, Word.row, Je, Own.row, Jy, Part.row, Jf, Seen.row, Jg, Book.row, Jh, Sector.row, QR, HCraft.row, QS, World.row, Q2, Pt.row, Ql, Aw.row, Qo, Blk.row, Qb, Sec.row, Qc, Rw.row, Qp, Sky.row, Qd, Place.row, QG, Run.row, QJ, SRow.row, QL, Hop.row, QM, SIdx.row, Yr, Jx, JS, Jn, Jo, Jz, QY, QZ, Ji, QA, QB, Qj, Qn, QD, QO, QQ, Q5, QW, Q7, G5, Nat.sub_zero, Sky.row, KE, List.nil_append, tkR, tkH, Run.row, QJ, Q5, Hop.row, QM, Q7, SRow.row, QL, QW, Jw]
      refine ⟨fun h => absurd h (by omega), fun _ => ?_⟩
      refine QV (fun i : Nat => [(6, .int .i64 i)]) (fun i => [(103, .box [.own 133 (X3 s a).length 0 (X3 s a).length, .own 188 (VB s i).length 0 (VB s i).length]), (188, .arr 61 (VB s i).length 4 ((VB s i).map Hop.row))]) (fun i => i ≤ s.pts.length) (fun i => s.pts.length - i) 0 (by simp only [show VB s 0 = [] from rfl]; simp only [JX, JY, JZ, J0, Qw, Qx, Qy, Qz, reduceIte, Nat.reduceEqDiff]; exact ⟨by repeat' (first | exact trivial | refine ⟨.inr rfl, ?_⟩), by repeat' (first | exact trivial | refine ⟨rfl, ?_⟩), by first | rfl | simp [closedB, Qr, Qg, Qi, dom, Qe, *], by first | rfl | simp [keepB, dom]⟩) (by omega) ?_
      intro i hi NX2 hN2
      by_cases hil : i < s.pts.length
      · unfold YT; simp (config := { maxSteps := 2000000 }) only [bitvec_to_nat, reduceIte, Nat.reduceEqDiff, Nat.reduceAdd, Nat.reduceLeDiff, reduceCtorEq, Nat.reduceBEq, Nat.reduceLT, Nat.reduceMod, List.forall_mem_cons, Qv, QE, Qu, Q9, keepB, QF, Jc, J5, GG, GE, KB, Qk, Qm, Qa, Q3, Qh, List.take_length, List.length_cons, List.length_nil, Nat.zero_add, QH, QX, Q4, Q6, Zone.row, Qf, Qs, Word.row, Je, Own.row, Jy, Part.row, Jf, Seen.row, Jg, Book.row, Jh, Sector.row, QR, HCraft.row, QS, World.row, Q2, Pt.row, Ql, Aw.row, Qo, Blk.row, Qb, Sec.row, Qc, Rw.row, Qp, Sky.row, Qd, Place.row, QG, Run.row, QJ, SRow.row, QL, Hop.row, QM, SIdx.row, Yr, Jx, JS, Jn, Jo, Jz, QY, QZ, Ji, QA, QB, Qj, Qn, QD, QO, QQ, Q5, QW, Q7, G5, Nat.sub_zero, Sky.row, KE, List.nil_append, tkR, tkH, Run.row, QJ, Q5, Hop.row, QM, Q7, SRow.row, QL, QW, Jw]
        refine ⟨fun _ => ?_, fun h => absurd (by omega) h⟩
        refine QV (fun k : Nat => [(7, .int .i64 k)]) (fun k => [(103, .box [.own 133 (X3 s a).length 0 (X3 s a).length, .own 188 (Yk s i k).length 0 (Yk s i k).length]), (188, .arr 61 (Yk s i k).length 4 ((Yk s i k).map Hop.row))]) (fun k => k ≤ s.pts.length) (fun k => s.pts.length - k) 0 (by simp only [QhA]; simp only [JX, JY, JZ, J0, Qw, Qx, Qy, Qz, reduceIte, Nat.reduceEqDiff]; exact ⟨by repeat' (first | exact trivial | refine ⟨.inr rfl, ?_⟩), by repeat' (first | exact trivial | refine ⟨rfl, ?_⟩), by first | rfl | simp [closedB, Qr, Qg, Qi, dom, Qe, *], by first | rfl | simp [keepB, dom]⟩) (by omega) ?_
        intro k hk NX3 hN3
        have hle := QcH (s := s) (i := i) (k := k) hp16 (by omega) (by omega)
        have tkH : List.take (Yk s i k).length ((Yk s i k).map Hop.row) = (Yk s i k).map Hop.row := List.take_of_length_le (by simp)
        by_cases hkl : k < s.pts.length
        · have hw := Qrf hs hv (s.pts.getD i default).nm (s.pts.getD k default).nm
          have hil' : (i : Int) < s.pts.length := by omega
          have hkl' : (k : Int) < s.pts.length := by omega
          unfold YS; simp (config := { maxSteps := 2000000 }) only [bitvec_to_nat, reduceIte, Nat.reduceEqDiff, Nat.reduceAdd, Nat.reduceLeDiff, reduceCtorEq, Nat.reduceBEq, Nat.reduceLT, Nat.reduceMod, List.forall_mem_cons, Qv, QE, Qu, Q9, keepB, QF, Jc, J5, GG, GE, KB, Qk, Qm, Qa, Q3, Qh, List.take_length, List.length_cons, List.length_nil, Nat.zero_add, QH, QX, Q4, Q6, Zone.row, Qf, Qs, Word.row, Je, Own.row, Jy, Part.row, Jf, Seen.row, Jg, Book.row, Jh, Sector.row, QR, HCraft.row, QS, World.row, Q2, Pt.row, Ql, Aw.row, Qo, Blk.row, Qb, Sec.row, Qc, Rw.row, Qp, Sky.row, Qd, Place.row, QG, Run.row, QJ, SRow.row, QL, Hop.row, QM, SIdx.row, Yr, Jx, JS, Jn, Jo, Jz, QY, QZ, Ji, QA, QB, Qj, Qn, QD, QO, QQ, Q5, QW, Q7, G5, Nat.sub_zero, Sky.row, KE, List.nil_append, tkR, tkH, Run.row, QJ, Q5, Hop.row, QM, Q7, SRow.row, QL, QW, Jw]
          refine ⟨fun _ => ⟨by omega, hil', by omega, hkl', ⟨hs, hv⟩, fun h1 => ⟨by omega, hil', by omega, hkl', ⟨hs, hv, hw.1, by omega⟩, by omega, h1, by omega, ⟨by omega, by omega⟩, ?_⟩, fun h1 => ⟨⟨by omega, by omega⟩, ?_⟩⟩, fun h => absurd hkl' h⟩
          · have e3 : Qe0 s i k = [_] := if_pos (by omega)
            refine hN3 (k + 1) _ (by simp only [ZA, e3, Hop.row, List.length_append, List.length_cons, List.length_nil, Nat.zero_add, List.map_append, List.map_cons, List.map_nil, JX, JY, JZ, J0, Qw, Qx, Qy, Qz, reduceIte, Nat.reduceEqDiff]; exact ⟨by repeat' (first | exact trivial | refine ⟨.inr rfl, ?_⟩), by repeat' (first | exact trivial | refine ⟨rfl, ?_⟩), by first | rfl | simp [closedB, Qr, Qg, Qi, dom, Qe, *], by first | rfl | simp [keepB, dom]⟩) ?_ ?_
            · omega
            · omega
          · have e3 : Qe0 s i k = [] := if_neg (by omega)
            refine hN3 (k + 1) _ (by simp only [ZA, e3, List.append_nil, List.length_append, List.length_cons, List.length_nil, Nat.zero_add, List.map_append, List.map_cons, List.map_nil, JX, JY, JZ, J0, Qw, Qx, Qy, Qz, reduceIte, Nat.reduceEqDiff]; exact ⟨by repeat' (first | exact trivial | refine ⟨.inr rfl, ?_⟩), by repeat' (first | exact trivial | refine ⟨rfl, ?_⟩), by first | rfl | simp [closedB, Qr, Qg, Qi, dom, Qe, *], by first | rfl | simp [keepB, dom]⟩) ?_ ?_
            · omega
            · omega
        · have e2 : k = s.pts.length := by omega
          subst e2
          unfold YS; simp (config := { maxSteps := 2000000 }) only [bitvec_to_nat, reduceIte, Nat.reduceEqDiff, Nat.reduceAdd, Nat.reduceLeDiff, reduceCtorEq, Nat.reduceBEq, Nat.reduceLT, Nat.reduceMod, List.forall_mem_cons, Qv, QE, Qu, Q9, keepB, QF, Jc, J5, GG, GE, KB, Qk, Qm, Qa, Q3, Qh, List.take_length, List.length_cons, List.length_nil, Nat.zero_add, QH, QX, Q4, Q6, Zone.row, Qf, Qs, Word.row, Je, Own.row, Jy, Part.row, Jf, Seen.row, Jg, Book.row, Jh, Sector.row, QR, HCraft.row, QS, World.row, Q2, Pt.row, Ql, Aw.row, Qo, Blk.row, Qb, Sec.row, Qc, Rw.row, Qp, Sky.row, Qd, Place.row, QG, Run.row, QJ, SRow.row, QL, Hop.row, QM, SIdx.row, Yr, Jx, JS, Jn, Jo, Jz, QY, QZ, Ji, QA, QB, Qj, Qn, QD, QO, QQ, Q5, QW, Q7, G5, Nat.sub_zero, Sky.row, KE, List.nil_append, tkR, tkH, Run.row, QJ, Q5, Hop.row, QM, Q7, SRow.row, QL, QW, Jw]
          refine ⟨fun h => absurd h (by omega), fun _ => ⟨⟨by omega, by omega⟩, ?_⟩⟩
          refine hN2 (i + 1) _ (by simp only [QcG, List.length_append, List.length_cons, List.length_nil, Nat.zero_add, List.map_append, List.map_cons, List.map_nil, JX, JY, JZ, J0, Qw, Qx, Qy, Qz, reduceIte, Nat.reduceEqDiff]; exact ⟨by repeat' (first | exact trivial | refine ⟨.inr rfl, ?_⟩), by repeat' (first | exact trivial | refine ⟨rfl, ?_⟩), by first | rfl | simp [closedB, Qr, Qg, Qi, dom, Qe, *], by first | rfl | simp [keepB, dom]⟩) ?_ ?_
          · omega
          · omega
      · have e2 : i = s.pts.length := by omega
        subst e2
        have tkR : List.take (X3 s a).length ((X3 s a).map (SRow.row 0)) = (X3 s a).map (SRow.row 0) := List.take_of_length_le (by simp)
        have tkH : List.take (VB s s.pts.length).length ((VB s s.pts.length).map Hop.row) = (VB s s.pts.length).map Hop.row := List.take_of_length_le (by simp)
        unfold YT; simp (config := { maxSteps := 2000000 }) only [bitvec_to_nat, reduceIte, Nat.reduceEqDiff, Nat.reduceAdd, Nat.reduceLeDiff, reduceCtorEq, Nat.reduceBEq, Nat.reduceLT, Nat.reduceMod, List.forall_mem_cons, Qv, QE, Qu, Q9, keepB, QF, Jc, J5, GG, GE, KB, Qk, Qm, Qa, Q3, Qh, List.take_length, List.length_cons, List.length_nil, Nat.zero_add, QH, QX, Q4, Q6, Zone.row, Qf, Qs, Word.row, Je, Own.row, Jy, Part.row, Jf, Seen.row, Jg, Book.row, Jh, Sector.row, QR, HCraft.row, QS, World.row, Q2, Pt.row, Ql, Aw.row, Qo, Blk.row, Qb, Sec.row, Qc, Rw.row, Qp, Sky.row, Qd, Place.row, QG, Run.row, QJ, SRow.row, QL, Hop.row, QM, SIdx.row, Yr, Jx, JS, Jn, Jo, Jz, QY, QZ, Ji, QA, QB, Qj, Qn, QD, QO, QQ, Q5, QW, Q7, G5, Nat.sub_zero, Sky.row, KE, List.nil_append, tkR, tkH, Run.row, QJ, Q5, Hop.row, QM, Q7, SRow.row, QL, QW, Jw]
        refine ⟨fun h => absurd h (by omega), fun _ => ?_⟩
        trace_state
        rw [e]
  · rw [WT, W2, if_neg hv, if_neg hv]
    refine Qt (((((Env.nil P).add 17 J5 QeQ).add 18 GG Qoy).add 19 GE Qot).add 20 KB Qht) hm Uw (Nat.le_of_ble_eq_true rfl) rfl ?_; unfold GF; simp (config := { maxSteps := 2000000 }) only [bitvec_to_nat, reduceIte, Nat.reduceEqDiff, Nat.reduceAdd, Nat.reduceLeDiff, reduceCtorEq, Nat.reduceBEq, Nat.reduceLT, Nat.reduceMod, List.forall_mem_cons, Qv, QE, Qu, Q9, keepB, QF, Jc, J5, GG, GE, KB, Qk, Qm, Qa, Q3, Qh, List.take_length, List.length_cons, List.length_nil, Nat.zero_add, QH, QX, Q4, Q6, Zone.row, Qf, Qs, Word.row, Je, Own.row, Jy, Part.row, Jf, Seen.row, Jg, Book.row, Jh, Sector.row, QR, HCraft.row, QS, World.row, Q2, Pt.row, Ql, Aw.row, Qo, Blk.row, Qb, Sec.row, Qc, Rw.row, Qp, Sky.row, Qd, Place.row, QG, Run.row, QJ, SRow.row, QL, Hop.row, QM, SIdx.row, Yr, Jx, JS, Jn, Jo, Jz, QY, QZ, Ji, QA, QB, Qj, Qn, QD, QO, QQ, Q5, QW, Q7, G5, Nat.sub_zero, Sky.row, KE, List.nil_append, tkR, tkH, Run.row, QJ, Q5, Hop.row, QM, Q7, SRow.row, QL, QW, Jw]
    exact ⟨hs, fun h => absurd h hv⟩
def Kw : List AV → Option (Prop × AV)
  | [.agg [.int .i64 s_w, .int .i64 s_h, .int .i64 s_lv, .sl 0 3 s_pts, .sl 0 2 s_aws, .sl 0 2 s_secs, .sl 0 4 s_rws]] => some ((((s_pts.map JA).map Pt.row = s_pts) ∧ ((s_aws.map JI).map (Aw.row 0) = s_aws) ∧ ((s_secs.map QP).map (Sec.row 0) = s_secs) ∧ ((s_rws.map JG).map Rw.row = s_rws)) ∧ (Sky.small (Sky.mk s_w s_h s_lv (s_pts.map JA) (s_aws.map JI) (s_secs.map QP) (s_rws.map JG))), .agg [.sl 0 3 ((WT (Sky.mk s_w s_h s_lv (s_pts.map JA) (s_aws.map JI) (s_secs.map QP) (s_rws.map JG))).map (SRow.row 0)), .sl 0 4 ((W2 (Sky.mk s_w s_h s_lv (s_pts.map JA) (s_aws.map JI) (s_secs.map QP) (s_rws.map JG))).map Hop.row)])
  | _ => none
theorem Qrh : ∀ args p v, Kw args = some (p, v) → p → Contract P 5 args [] v [] ∧ noref v = true ∧ No99 v := by
  intro args p v h1 h2
  unfold Kw at h1
  split at h1
  · rename_i s_w s_h s_lv s_pts s_aws s_secs s_rws
    cases h1
    obtain ⟨⟨e0, e1, e2, e3⟩, HP⟩ := h2
    have := Qrg (Sky.mk s_w s_h s_lv (s_pts.map JA) (s_aws.map JI) (s_secs.map QP) (s_rws.map JG)) HP
    exact ⟨by simpa only [e0, e1, e2, e3, Sky.row] using this, rfl, by simp [No99, Ko, Qov, QlN]⟩
  · cases h1
end
end Go.Ve

namespace Go.Ve
open Go.Proofs
set_option maxRecDepth 100000
def YU : SCode := (.seq (jq [jm 37 7 [],jf 38 0 1 [],jl 39 38 [38],jb 40 .lss 37 39 [37,39]] [1,2,3,4,5,6,7,40] (.cond (.v 40) .skip (.exit 4))) (.seq (.block 5 (jq [jL 44 7 1 [],jm 45 7 [],jm 46 5 [],jm 47 4 [],jn 48 (.build [.int .i64 0,.int .i64 0,.int .i64 0] [(0,1,.v 45),(1,1,.v 46),(2,1,.v 47)]) [45,46,47],jn 49 (.call 26 [.v 44,.v 48]) [44,48],jm 43 49 [49],jn 50 (.ext 0 (.v 43)) [],jn 51 (.ext 1 (.v 43)) [43],jm 8 50 [50],jm 9 51 [9,51]] [1,2,3,4,5,6,7,8] (jq [jf 52 2 6 [],jl 53 52 [52],jn 54 (.lenL (.v 53)) [53],jn 55 (.binN .sub (.v 54) (ci 1)) [54],jm 10 55 [55]] [1,2,3,4,5,6,7,8,10] (jq [jm 56 10 [],jc 57 .geq 56 0 [56],jm 58 57 [57],jt 59 58 (.faddr 2 (.v 6)) [],jt 60 58 (.load1 (.v 59)) [59],jt 61 58 (.mv (.v 10)) [],jt 62 58 (.iaddr 3 (.v 60) (.v 61)) [60,61],jt 63 58 (.faddr 2 (.v 62)) [62],jt 64 58 (.load1 (.v 63)) [63],jt 65 58 (.mv (.v 8)) [],jt 66 58 (.bin .eql (.v 64) (.v 65)) [64,65],jn 67 (.pick (.v 58) (.v 66) (.c (.bool false))) [58,66]] [1,2,3,4,5,6,7,8,10,67] (.cond (.v 67) (.rg [jf 68 2 6 [],jl 69 68 [68],jm 70 10 [10],jm 71 7 [],ja 72 3 69 70 [69,70],jf 73 1 72 [72],⟨none,.store 1 (.v 73) (.v 71),none,[71,73]⟩] [1,2,3,4,5,6,7]) (.rg [jf 74 2 6 [],jl 75 74 [74],jm 76 7 [],jm 77 7 [],jm 78 8 [8],jn 79 (.build [.int .i64 0,.int .i64 0,.str ⟨#[]⟩] [(0,1,.v 76),(1,1,.v 77),(2,1,.v 78)]) [76,77,78],jn 80 (.lit 71 3 [.v 79]) [79],jn 81 (.app 181 71 3 (.v 75) (.v 80)) [75,80],jf 82 2 6 [],⟨none,.store 1 (.v 82) (.v 81),none,[81,82]⟩] [1,2,3,4,5,6,7])))))) (.rg [jm 41 7 [7],jn 42 (.binN .add (.v 41) (ci 1)) [41],jm 7 42 [42]] [1,2,3,4,5,6,7])))
def YV : SCode := (.seq (jq [jm 28 5 [],jf 29 1 1 [],jl 30 29 [29],jb 31 .lss 28 30 [28,30]] [1,2,3,4,5,31] (.cond (.v 31) .skip (.exit 2))) (.seq (.block 3 (jq [jm 34 4 [],jm 35 5 [],jn 36 (.build [.int .i64 0,.int .i64 0,.sl 98 3 []] [(0,1,.v 34),(1,1,.v 35)]) [34,35],jn 6 (.alloc 106 [.int .i64 0,.int .i64 0,.sl 0 3 []]) [],⟨none,.store 3 (.v 6) (.v 36),none,[36]⟩] [1,2,3,4,5,6] (.seq (jq [jI 7 0 []] [1,2,3,4,5,6,7] (.block 4 (.gh (.nilB 106 2 181 71) (.loop YU)))) (.rg [jf 83 0 3 [],jl 84 83 [83],jL 85 3 6 [6],jn 86 (.litOwn 186 1000053 3 [.v 85]) [85],jn 87 (.appN 187 1000053 3 (.v 84) (.v 86)) [84,86],jf 88 0 3 [],⟨none,.store 1 (.v 88) (.v 87),none,[87,88]⟩] [1,2,3,4,5])))) (.gh (.wk) (.rg [jm 32 5 [5],jn 33 (.binN .add (.v 32) (ci 1)) [32],jm 5 33 [33]] [1,2,3,4,5]))))
def YW : SCode := (.seq (jq [jm 22 4 [],jf 23 2 1 [],jl 24 23 [23],jb 25 .leq 22 24 [22,24]] [1,2,3,4,25] (.cond (.v 25) .skip (.exit 0))) (.seq (.block 1 (jq [jI 5 0 []] [1,2,3,4,5] (.block 2 (.loop YV)))) (.rg [jm 26 4 [4],jn 27 (.binN .add (.v 26) (ci 1)) [26],jm 4 27 [27]] [1,2,3,4])))
def KL : SCode := (jq [jb 104 .lss 103 102 []] [1,2,3,12,13,90,91,92,101,102,103,104] (.seq (.cond (.v 104) .skip (.exit 8)) (.seq (.block 9 (jq [ja 105 3 101 103 [],jL 106 3 105 [105],jn 15 (.alloc 115 [.str ⟨#[]⟩,.int .i64 0,.int .i64 0]) [],⟨none,.store 3 (.v 15) (.v 106),none,[106]⟩] [1,2,3,12,13,15,90,91,92,101,102,103] (jq [jm 108 13 [],jf 109 0 15 [],jl 110 109 [109],jn 111 (.look true 0 (.agg [.int .i64 0,.sl 0 1 []]) (.v 108) (.v 110)) [108,110],jm 107 111 [111],jn 112 (.ext 0 (.v 107)) [],jn 113 (.ext 1 (.v 107)) [107],jn 16 (.alloc 116 [.int .i64 0,.sl 0 1 []]) [],⟨none,.store 2 (.v 16) (.v 112),none,[112]⟩,jm 17 113 [113]] [1,2,3,12,13,15,16,17,90,91,92,101,102,103] (jq [jm 114 17 [17],jm 115 114 [114],jt 116 115 (.faddr 0 (.v 12)) [],jt 117 115 (.load1 (.v 116)) [116],jt 118 115 (.faddr 0 (.v 15)) [],jt 119 115 (.load1 (.v 118)) [118],jt 120 115 (.bin .neq (.v 117) (.v 119)) [117,119],jn 121 (.pick (.v 115) (.v 120) (.c (.bool false))) [115,120]] [1,2,3,12,13,15,16,90,91,92,101,102,103,121] (.cond (.v 121) (.rgd [jf 122 1 3 [],jl 123 122 [],jf 124 0 12 [],jl 125 124 [],jf 126 0 15 [],jl 127 126 [],jf 128 0 16 [],jl 129 128 [],jf 130 1 16 [],jl 131 130 [],jn 132 (.iaddr 1 (.v 131) (ci 1)) [],jl 133 132 [],jn 134 (.build [.str ⟨#[]⟩,.str ⟨#[]⟩,.int .i64 0,.str ⟨#[]⟩] [(0,1,.v 125),(1,1,.v 127),(2,1,.v 129),(3,1,.v 133)]) [],jn 135 (.lit 61 4 [.v 134]) [],jn 136 (.app 236 61 4 (.v 123) (.v 135)) [],jf 137 1 3 [],⟨none,.store 1 (.v 137) (.v 136),none,[]⟩] [1,2,3,12,13,90,91,92,101,102,103] [none,none,none,none,none,none,none,none,none,none,none,none,none,none,none,none,none]) .skip))))) (.rg [jn 138 (.binN .add (.v 103) (ci 1)) [103],jm 103 138 [138]] [1,2,3,12,13,90,91,92,101,102,103]))))
def YX : SCode := (jq [jb 93 .lss 92 91 []] [1,2,3,90,91,92,93] (.seq (.cond (.v 93) .skip (.exit 6)) (.seq (.block 7 (jq [ja 94 3 90 92 [],jL 95 3 94 [94],jn 12 (.alloc 112 [.str ⟨#[]⟩,.int .i64 0,.int .i64 0]) [],⟨none,.store 3 (.v 12) (.v 95),none,[95]⟩] [1,2,3,12,90,91,92] (jq [jL 96 7 1 [],jf 97 0 12 [],jl 98 97 [97],jn 99 (.call 27 [.v 96,.v 98]) [96,98],jm 13 99 [99]] [1,2,3,12,13,90,91,92] (jq [jf 100 3 1 [],jl 101 100 [100],jn 102 (.lenL (.v 101)) [],jI 103 0 []] [1,2,3,12,13,90,91,92,101,102,103] (.block 8 (.loop KL)))))) (.rg [jn 139 (.binN .add (.v 92) (ci 1)) [92],jm 92 139 [139]] [1,2,3,90,91,92]))))
/-- impl.SkyIndexOf: function 7 -/
def GH : SFun := { n := 141,res := [.cN 2 2],body := (jq [jn 1 (.box 101 (.v 0)) [0],jn 2 (.alloc 102 [.sl 0 3 [],.sl 0 4 []]) []] [1,2] (jq [jn 3 (.alloc 103 [.sl 98 3 [],.sl 98 4 []]) []] [1,2,3] (.gh (.nilB 103 0 187 1000053) (.gh (.nilB 103 1 236 61) (.seq (jq [jL 18 7 1 [],jn 19 (.call 25 [.v 18]) [18],jn 20 (.not (.v 19)) [19]] [1,2,3,20] (.cond (.v 20) (jq [jL 21 2 3 [3],⟨none,.store 2 (.v 2) (.v 21),none,[21]⟩] [2] .ret) .skip)) (.seq (jq [jI 4 1 []] [1,2,3,4] (.block 0 (.loop YW))) (.seq (jq [jf 89 3 1 [],jl 90 89 [89],jn 91 (.lenL (.v 90)) [],jI 92 0 []] [1,2,3,90,91,92] (.block 6 (.loop YX))) (jq [jL 140 2 3 [3],⟨none,.store 2 (.v 2) (.v 140),none,[140]⟩] [2] .ret)))))))) }
theorem Ux : Jd Go.Proofs.Tryz.prog 7 GH = true := by kernel_rfl
end Go.Ve

namespace Go.Ve
noncomputable section
open Go.Proofs
set_option linter.unusedSimpArgs false
set_option linter.unusedVariables false
set_option maxRecDepth 100000
def SRow.own (x : SRow) (o : Nat) : List AV := [.int .i64 x.lv, .int .i64 x.y, .own o x.rs.length 0 x.rs.length]
def SRow.ob (x : SRow) : AObj := .arr 71 x.rs.length 3 (x.rs.map Run.row)
def Xw (k : Nat) (l : List SRow) : List NRow := l.mapIdx fun i x => ⟨⟨#[]⟩, x.rs.length, fam k i, x.ob⟩
def J7 (k : Nat) (l : List SRow) : List (List AV) := l.mapIdx fun i x => x.own (fam k i)
theorem Y1 {k : Nat} {l : List SRow} : (J7 k l).length = l.length := by simp [J7]
theorem VC {k : Nat} {l : List SRow} : (Xw k l).length = l.length := by simp [Xw]
theorem Qce {k : Nat} {l : List SRow} {i : Nat} (h : i < l.length) : (J7 k l).getD i [] = (l.getD i default).own (fam k i) := by simp [J7, h]
theorem QlO {k : Nat} {l : List SRow} {i : Nat} (h : i < l.length) : (Xw k l).getD i default = ⟨⟨#[]⟩, (l.getD i default).rs.length, fam k i, (l.getD i default).ob⟩ := by simp [Xw, h]
theorem QhB {k : Nat} {l : List SRow} : VY k (Xw k l) := fun i hi => by
  rw [QlO (by simpa [VC] using hi)]
theorem QmI {k : Nat} {l : List SRow} {x : SRow} : J7 k (l ++ [x]) = J7 k l ++ [x.own (fam k l.length)] := by simp [J7, List.mapIdx_append]
theorem QoC {k : Nat} {l : List SRow} {x : SRow} : QI (Xw k (l ++ [x])) = QI (Xw k l) ++ [(fam k l.length, x.ob)] := by simp [Xw, QI, List.mapIdx_append]
theorem ZB {k : Nat} {l : List SRow} {p : Nat × AObj} (h : p ∈ QI (Xw k l)) : ∃ i, i < l.length ∧ p = (fam k i, (l.getD i default).ob) := by
  obtain ⟨r, hr, rfl⟩ := List.mem_map.1 h
  obtain ⟨i, hi, rfl⟩ := List.mem_iff_getElem.1 hr
  have hi' : i < l.length := by simpa [VC] using hi
  exact ⟨i, hi', by simp [Xw, hi']⟩
theorem W3 {k : Nat} {l : List SRow} {i : Nat} (h : i < l.length) : getM (QI (Xw k l)) (fam k i) = some (l.getD i default).ob := by
  rw [Zg QhB (by rwa [VC]), QlO h]
theorem QoD {k : Nat} {l : List SRow} {i : Nat} (h : i < l.length) : (fam k i, (l.getD i default).ob) ∈ QI (Xw k l) := KO (W3 h)
theorem Qri {k : Nat} {l : List SRow} : getM (QI (Xw k l)) (fam k l.length) = none := QgP (k := k) QhB (Nat.le_of_eq VC)
theorem ZC {k : Nat} {l : List SRow} : QiA (QI (Xw k l)) := fun p hp => by
  obtain ⟨i, _, rfl⟩ := ZB hp
  unfold fam; simp only; omega
theorem VD {k : Nat} {l : List SRow} (hk : k < 1000) (h : 100 ≤ k) : Yz (QI (Xw k l)) := fun p hp => by
  obtain ⟨i, _, rfl⟩ := ZB hp
  simp only [Vr hk]; exact h
theorem QtL {k : Nat} {l : List SRow} : (QI (Xw k l)).Pairwise fun a b => a.1 ≠ b.1 := by
  refine List.pairwise_iff_getElem.2 fun i j hi hj hij e => ?_
  simp only [QI, List.length_map, VC] at hi hj
  simp [QI, Xw] at e
  have := Qct e; omega
theorem W4 {k : Nat} {l : List SRow} {d : List Nat} (h : ∀ i, i < l.length → fam k i ∈ d) : (J7 k l).all (Qg d) = true := by
  rw [List.all_eq_true]
  intro x hx
  obtain ⟨i, hi, rfl⟩ := List.mem_iff_getElem.1 hx
  have hi' : i < l.length := by simpa [Y1] using hi
  simp only [J7, List.getElem_mapIdx, SRow.own, Qg, Qr, Bool.true_and, Bool.and_true]
  rw [List.contains_iff_mem]; exact h i hi'
theorem Qcf {k : Nat} {l : List SRow} {d : List Nat} : ((QI (Xw k l)).all fun p => Qi d p.2) = true := by
  rw [List.all_eq_true]
  intro p hp
  obtain ⟨i, _, rfl⟩ := ZB hp
  simp [SRow.ob, Qi]
theorem QdQ {k i : Nat} {l : List SRow} (h : i < l.length) : fam k i ∈ dom (QI (Xw k l)) := List.mem_map.2 ⟨_, QoD h, rfl⟩
def IO (o v k o2 w : Nat) (l : List SRow) (H : List Hop) : List (Nat × AObj) := (o, .arr (1000000 + 53) v 3 (J7 k l)) :: (o2, .arr 61 w 4 (H.map Hop.row)) :: QI (Xw k l)
theorem QtM {o v k o2 w : Nat} {l : List SRow} {H : List Hop} : ((IO o v k o2 w l H).all fun p => Qi (dom (IO o v k o2 w l H)) p.2) = true := by
  simp only [IO, List.all_cons, Bool.and_eq_true]
  refine ⟨?_, by simp [Qi], Qcf⟩
  simp only [Qi]
  rw [if_neg (by omega)]
  exact W4 fun i hi => List.mem_cons_of_mem _ (List.mem_cons_of_mem _ (QdQ hi))
theorem QhC {a b o : Nat} (h1 : o ≠ a) (h2 : o ≠ b) : swp a b o = o := by unfold swp; rw [if_neg h1, if_neg h2]
theorem Qrj {k a b : Nat} {l : List SRow} (h : ∀ i, i < l.length → fam k i ≠ a ∧ fam k i ≠ b) : X8 (swp a b) (QI (Xw k l)) = QI (Xw k l) := by
  rw [Yo]
  congr 1
  refine List.ext_getElem (by simp) fun i h1 h2 => ?_
  have hi : i < l.length := by simpa [VC] using h2
  simp [Xw, NRow.ren, QhC (h i hi).1 (h i hi).2, SRow.ob, renO]
theorem QoE {k a b : Nat} {l : List SRow} (h : ∀ i, i < l.length → fam k i ≠ a ∧ fam k i ≠ b) : (J7 k l).map (X7 (swp a b)) = J7 k l := by
  refine List.ext_getElem (by simp) fun i h1 h2 => ?_
  have hi : i < l.length := by simpa [Y1] using h2
  simp [J7, SRow.own, X7, ren, QhC (h i hi).1 (h i hi).2]
def IM (s : Sky) (R : List SRow) (H : List Hop) (B : List (Nat × AObj)) : List (Nat × AObj) := (101, .box [.int .i64 s.w, .int .i64 s.h, .int .i64 s.lv, .sl 0 3 (s.pts.map Pt.row), .sl 0 2 (s.aws.map (Aw.row 0)), .sl 0 2 (s.secs.map (Sec.row 0)), .sl 0 4 (s.rws.map Rw.row)]) :: (102, .box [.sl 0 3 [], .sl 0 4 []]) :: (103, .box [.own 187 R.length 0 R.length, .own 236 H.length 0 H.length]) :: (187, .arr 1000053 R.length 3 (J7 181 R)) :: (236, .arr 61 H.length 4 (H.map Hop.row)) :: (QI (Xw 181 R) ++ B)
theorem Qrk {s : Sky} {R : List SRow} {H : List Hop} {B : List (Nat × AObj)} {E : List (Nat × AV)} (hE : (E.all fun p => Qr (dom (IM s R H B)) p.2) = true) (hB : (B.all fun p => Qi (dom (IM s R H B)) p.2) = true) : closedB ⟨E, IM s R H B⟩ = true := by
  unfold closedB
  rw [Bool.and_eq_true]
  refine ⟨hE, ?_⟩
  have hm : ∀ i, i < R.length → fam 181 i ∈ dom (IM s R H B) := fun i hi => by
    have := QdQ (k := 181) hi
    simp only [IM, dom, List.map_cons, List.map_append, List.mem_cons, List.mem_append] at this ⊢
    right; right; right; right; right; left; exact this
  have h5 : (IM s R H B).all (fun p => Qi (dom (IM s R H B)) p.2) = true := by
    generalize hd : dom (IM s R H B) = d at *
    simp only [IM, List.all_cons, List.all_append, Bool.and_eq_true]
    have m1 : 187 ∈ d := by rw [← hd]; simp [IM, dom]
    have m2 : 236 ∈ d := by rw [← hd]; simp [IM, dom]
    refine ⟨by simp [Qi, Qg, Qr], by simp [Qi, Qg, Qr], by simp [Qi, Qg, Qr, m1, m2], ?_, by simp [Qi], Qcf, hB⟩
    simp only [Qi]
    rw [if_neg (by omega)]
    exact W4 hm
  exact h5
theorem Qsc {s : Sky} {R : List SRow} {H : List Hop} {B : List (Nat × AObj)} (hB : Yz B) : Yz (IM s R H B) := Jj (by omega) (Jj (by omega) (Jj (by omega) (Jj (by omega) (Jj (by omega) (UN (VD (by omega) (by omega)) hB)))))
theorem Qvb {s : Sky} {R : List SRow} {H : List Hop} {B B' : List (Nat × AObj)} (hB : ∀ p ∈ B', (103 < p.1 ∧ p.1 ≠ 187 ∧ p.1 ≠ 236 ∧ p.1 < 1000) ∧ getM B p.1 = some p.2) : wkM (IM s R H B) (IM s R H B') := by
  refine ⟨rfl, rfl, rfl, rfl, rfl, ZO fun p hp => ?_⟩
  rcases List.mem_append.1 hp with hp | hp
  · obtain ⟨i, hi, rfl⟩ := ZB hp
    simp only [IM, getM, Jm, Nat.reduceLT, if_false]
    exact KP (W3 hi)
  · obtain ⟨⟨h1, h2, h3, h4⟩, h5⟩ := hB p hp
    simp only [IM, getM, if_neg (show ¬ 101 = p.1 by omega), if_neg (show ¬ 102 = p.1 by omega), if_neg (show ¬ 103 = p.1 by omega), if_neg (show ¬ 187 = p.1 by omega), if_neg (show ¬ 236 = p.1 by omega), if_neg (show ¬ p.1 = 101 by omega), if_neg (show ¬ p.1 = 102 by omega), if_neg (show ¬ p.1 = 103 by omega), if_neg h2, if_neg h3]
    rw [Kq (gB0 ZC h4)]
    exact h5
theorem QoF {s : Sky} {R : List SRow} {H : List Hop} {B B' : List (Nat × AObj)} {E E' : List (Nat × AV)} (hE : wkE E E') (hB : ∀ p ∈ B', (103 < p.1 ∧ p.1 ≠ 187 ∧ p.1 ≠ 236 ∧ p.1 < 1000) ∧ getM B p.1 = some p.2) (hb : Yz B) (h1 : (E'.all fun p => Qr (dom (IM s R H B')) p.2) = true) (h2 : (B'.all fun p => Qi (dom (IM s R H B')) p.2) = true) : Wk ⟨E, IM s R H B⟩ ⟨E', IM s R H B'⟩ :=
  ⟨hE, Qvb hB, Qrk h1 h2, Gt (Qsc hb)⟩
theorem QlP {s : Sky} {R : List SRow} {H : List Hop} {E E' : List (Nat × AV)} (hE : wkE E E') (h1 : (E'.all fun p => Qr (dom (IM s R H [])) p.2) = true) : Wk ⟨E, (101, .box [.int .i64 s.w, .int .i64 s.h, .int .i64 s.lv, .sl 0 3 (s.pts.map Pt.row), .sl 0 2 (s.aws.map (Aw.row 0)), .sl 0 2 (s.secs.map (Sec.row 0)), .sl 0 4 (s.rws.map Rw.row)]) :: (102, .box [.sl 0 3 [], .sl 0 4 []]) :: (103, .box [.own 187 R.length 0 R.length, .own 236 H.length 0 H.length]) :: (187, .arr 1000053 R.length 3 (J7 181 R)) :: (236, .arr 61 H.length 4 (H.map Hop.row)) :: QI (Xw 181 R)⟩ ⟨E', IM s R H []⟩ := by
  have h := QoF (s := s) (R := R) (H := H) (B := []) (B' := []) hE (by simp) GT h1 (by simp)
  simp only [IM, List.append_nil] at h ⊢
  exact h
theorem QtN {s : Sky} {a : Nm} {w : List Nm} (h : Lst (ZJ s) (dS s) w a a) : w.length = 1 := by
  match w, h with
  | [], h => exact h.1.elim
  | [x], _ => rfl
  | x :: y :: t, h =>
    have hn := h.nodup (Qoh s)
    have h1 : x = a := h.1.1
    have h2 := QnD h.1
    rw [List.getLast?_cons_cons] at h2
    have := List.mem_of_getLast? h2
    rw [← h1] at this
    exact absurd this (List.nodup_cons.1 hn).1
theorem QoG {s : Sky} {a b : Nm} {w : List Nm} (hne : a ≠ b) (h : Lst (ZJ s) (dS s) w a b) : 1 < w.length := by
  match w, h with
  | [], h => exact h.1.elim
  | [x], h => exact absurd (h.1.1.symm.trans h.1.2) hne
  | x :: y :: t, _ => simp
set_option maxHeartbeats 8000000 in
theorem Qrl (s : Sky) (hs : s.small) (hf : s.fitp) (hv : s.valid) : Contract P 7 [.agg (s.row 0)] [] (.agg [.own 187 (WT s).length 0 (WT s).length, .own 236 (W2 s).length 0 (W2 s).length]) (IO 187 (WT s).length 181 236 (W2 s).length (WT s) (W2 s)) := by
  have hsm := hs
  unfold Sky.small at hsm
  have tkR : True := trivial
  have tkH : True := trivial
  have tkL : True := trivial
  have t1 : True := trivial
  have bA : True := trivial
  have bR : True := trivial
  have hd := hv.1
  unfold G7 at hd
  have hp16 := hv.2.1.1
  have bg106 : ∀ x y, Yz [(106, x), (181, y)] := fun x y => Jj (by omega) (Jj (by omega) GT)
  rw [WT, W2, if_pos hv, if_pos hv]
  refine Qt (((Env.nil P).add 25 JM QeT).add 26 KA QqO) hm Ux (Nat.le_of_ble_eq_true rfl) rfl ?_; unfold GH; simp (config := { maxSteps := 2000000 }) only [bitvec_to_nat, reduceIte, Nat.reduceEqDiff, Nat.reduceAdd, Nat.reduceLeDiff, reduceCtorEq, Nat.reduceBEq, Nat.reduceLT, Nat.reduceMod, List.forall_mem_cons, Qv, QE, Qu, Q9, keepB, QF, Jc, JM, KA, Qk, Qm, Qa, Q3, Qh, List.take_length, List.length_cons, List.length_nil, Nat.zero_add, QH, QX, Q4, Q6, Zone.row, Qf, Qs, Word.row, Je, Own.row, Jy, Part.row, Jf, Seen.row, Jg, Book.row, Jh, Sector.row, QR, HCraft.row, QS, World.row, Q2, Pt.row, Ql, Aw.row, Qo, Blk.row, Qb, Sec.row, Qc, Rw.row, Qp, Sky.row, Qd, Place.row, QG, Run.row, QJ, SRow.row, QL, Hop.row, QM, Jx, JS, Jn, Jo, Jz, QY, QZ, Ji, QA, QB, Qj, Qn, QD, QO, QQ, Q5, QW, Q7, Nat.sub_zero, Sky.row, KE, List.nil_append, List.append_nil, tkR, tkH, tkL, t1, Run.row, QJ, Q5, Hop.row, QM, Q7, Jw, WS, gB, gB0, sB, sB0, bA, bR, Jm, JK, List.append_assoc, List.cons_append, IM]
  refine ⟨⟨hs, hf⟩, fun _ => ?_, fun h => absurd hv h⟩
  refine Xo (fun a : Nat => ⟨[(1, .ptr 101 0), (2, .ptr 102 0), (3, .ptr 103 0), (4, .int .i64 ((a : Nat) + 1))], IM s (X3 s a) [] []⟩) (fun a => (a : Int) ≤ s.lv) (fun a => s.lv.toNat - a) 0 ?_ (by omega) ?_
  · rw [show X3 s 0 = [] from rfl]
    exact ⟨by repeat' (first | exact trivial | refine ⟨.inr rfl, ?_⟩), ⟨rfl, rfl, rfl, rfl, rfl, trivial⟩, Qrk (by simp [Qr, Qg, IM, dom]) (by simp), rfl⟩
  intro a ha NX hN
  have bA : QiA (QI (Xw 181 (X3 s a))) := ZC
  by_cases hal : (a : Int) < s.lv
  · unfold YW; simp (config := { maxSteps := 2000000 }) only [bitvec_to_nat, reduceIte, Nat.reduceEqDiff, Nat.reduceAdd, Nat.reduceLeDiff, reduceCtorEq, Nat.reduceBEq, Nat.reduceLT, Nat.reduceMod, List.forall_mem_cons, Qv, QE, Qu, Q9, keepB, QF, Jc, JM, KA, Qk, Qm, Qa, Q3, Qh, List.take_length, List.length_cons, List.length_nil, Nat.zero_add, QH, QX, Q4, Q6, Zone.row, Qf, Qs, Word.row, Je, Own.row, Jy, Part.row, Jf, Seen.row, Jg, Book.row, Jh, Sector.row, QR, HCraft.row, QS, World.row, Q2, Pt.row, Ql, Aw.row, Qo, Blk.row, Qb, Sec.row, Qc, Rw.row, Qp, Sky.row, Qd, Place.row, QG, Run.row, QJ, SRow.row, QL, Hop.row, QM, Jx, JS, Jn, Jo, Jz, QY, QZ, Ji, QA, QB, Qj, Qn, QD, QO, QQ, Q5, QW, Q7, Nat.sub_zero, Sky.row, KE, List.nil_append, List.append_nil, tkR, tkH, tkL, t1, Run.row, QJ, Q5, Hop.row, QM, Q7, Jw, WS, gB, gB0, sB, sB0, bA, bR, Jm, JK, List.append_assoc, List.cons_append, IM]
    refine ⟨fun _ => ?_, fun h => absurd (by omega) h⟩
    refine Xo (fun b : Nat => ⟨[(1, .ptr 101 0), (2, .ptr 102 0), (3, .ptr 103 0), (4, .int .i64 ((a : Nat) + 1)), (5, .int .i64 (b : Nat))], IM s (Kx s a b) [] []⟩) (fun b => (b : Int) ≤ s.h) (fun b => s.h.toNat - b) 0 ?_ (by omega) ?_
    · rw [QdP]
      refine QlP (H := []) ?_ ?_ <;> first | (simp [Qr, Qg, IM, dom]; done) | (repeat' (first | exact trivial | refine ⟨.inr rfl, ?_⟩))
    intro b hb NX2 hN2
    have bA : QiA (QI (Xw 181 (Kx s a b))) := ZC
    have hle := Qcd (s := s) (a := a) (b := b) (by omega) (by omega) (by omega)
    by_cases hbl : (b : Int) < s.h
    · unfold YV; simp (config := { maxSteps := 2000000 }) only [bitvec_to_nat, reduceIte, Nat.reduceEqDiff, Nat.reduceAdd, Nat.reduceLeDiff, reduceCtorEq, Nat.reduceBEq, Nat.reduceLT, Nat.reduceMod, List.forall_mem_cons, Qv, QE, Qu, Q9, keepB, QF, Jc, JM, KA, Qk, Qm, Qa, Q3, Qh, List.take_length, List.length_cons, List.length_nil, Nat.zero_add, QH, QX, Q4, Q6, Zone.row, Qf, Qs, Word.row, Je, Own.row, Jy, Part.row, Jf, Seen.row, Jg, Book.row, Jh, Sector.row, QR, HCraft.row, QS, World.row, Q2, Pt.row, Ql, Aw.row, Qo, Blk.row, Qb, Sec.row, Qc, Rw.row, Qp, Sky.row, Qd, Place.row, QG, Run.row, QJ, SRow.row, QL, Hop.row, QM, Jx, JS, Jn, Jo, Jz, QY, QZ, Ji, QA, QB, Qj, Qn, QD, QO, QQ, Q5, QW, Q7, Nat.sub_zero, Sky.row, KE, List.nil_append, List.append_nil, tkR, tkH, tkL, t1, Run.row, QJ, Q5, Hop.row, QM, Q7, Jw, WS, gB, gB0, sB, sB0, bA, bR, Jm, JK, List.append_assoc, List.cons_append, IM]
      refine ⟨fun _ => ?_, fun h => absurd hbl h⟩
      refine Xo (fun c : Nat => ⟨[(1, .ptr 101 0), (2, .ptr 102 0), (3, .ptr 103 0), (4, .int .i64 ((a : Nat) + 1)), (5, .int .i64 (b : Nat)), (6, .ptr 106 0), (7, .int .i64 (c : Nat))], IM s (Kx s a b) [] [(106, .box [.int .i64 ((a : Nat) + 1), .int .i64 (b : Nat), .own 181 (KM s ((a : Nat) + 1) b c).length 0 (KM s ((a : Nat) + 1) b c).length]), (181, .arr 71 (KM s ((a : Nat) + 1) b c).length 3 ((KM s ((a : Nat) + 1) b c).map Run.row))]⟩) (fun c => (c : Int) ≤ s.w) (fun c => s.w.toNat - c) 0 ?_ (by omega) ?_
      · exact QoF (s := s) (R := Kx s a b) (H := []) (B := [(106, .box [.int .i64 ((a : Nat) + 1), .int .i64 (b : Nat), .own 181 0 0 0]), (181, .arr 71 0 3 [])]) (by repeat' (first | exact trivial | refine ⟨.inr rfl, ?_⟩)) (by simp [getM, KM]) (bg106 _ _) (by simp [Qr, Qg, IM, dom]) (by simp [Qi, Qg, Qr, IM, dom])
      intro c hc NX3 hN3
      have hl := Qcb (s := s) (lv := (a : Nat) + 1) (y := b) c
      have tkL : List.take (KM s ((a : Nat) + 1) b c).length ((KM s ((a : Nat) + 1) b c).map Run.row) = (KM s ((a : Nat) + 1) b c).map Run.row := List.take_of_length_le (by simp)
      have t1 : (((KM s ((a : Nat) + 1) b c).length : Int) - 1).toNat = (KM s ((a : Nat) + 1) b c).length - 1 := by omega
      by_cases hcl : (c : Int) < s.w
      · unfold YU; simp (config := { maxSteps := 2000000 }) only [bitvec_to_nat, reduceIte, Nat.reduceEqDiff, Nat.reduceAdd, Nat.reduceLeDiff, reduceCtorEq, Nat.reduceBEq, Nat.reduceLT, Nat.reduceMod, List.forall_mem_cons, Qv, QE, Qu, Q9, keepB, QF, Jc, JM, KA, Qk, Qm, Qa, Q3, Qh, List.take_length, List.length_cons, List.length_nil, Nat.zero_add, QH, QX, Q4, Q6, Zone.row, Qf, Qs, Word.row, Je, Own.row, Jy, Part.row, Jf, Seen.row, Jg, Book.row, Jh, Sector.row, QR, HCraft.row, QS, World.row, Q2, Pt.row, Ql, Aw.row, Qo, Blk.row, Qb, Sec.row, Qc, Rw.row, Qp, Sky.row, Qd, Place.row, QG, Run.row, QJ, SRow.row, QL, Hop.row, QM, Jx, JS, Jn, Jo, Jz, QY, QZ, Ji, QA, QB, Qj, Qn, QD, QO, QQ, Q5, QW, Q7, Nat.sub_zero, Sky.row, KE, List.nil_append, List.append_nil, tkR, tkH, tkL, t1, Run.row, QJ, Q5, Hop.row, QM, Q7, Jw, WS, gB, gB0, sB, sB0, bA, bR, Jm, JK, List.append_assoc, List.cons_append, IM]
        have nx : ∀ L : List Run, L = KM s ((a : Nat) + 1) b (c + 1) → NX3 ⟨[(1, .ptr 101 0), (2, .ptr 102 0), (3, .ptr 103 0), (4, .int .i64 ((a : Nat) + 1)), (5, .int .i64 (b : Nat)), (6, .ptr 106 0), (7, .int .i64 ((c : Nat) + 1))], IM s (Kx s a b) [] [(106, .box [.int .i64 ((a : Nat) + 1), .int .i64 (b : Nat), .own 181 L.length 0 L.length]), (181, .arr 71 L.length 3 (L.map Run.row))]⟩ := fun L e => by
          subst e
          refine hN3 (c + 1) _ ⟨by repeat' (first | exact trivial | refine ⟨.inr rfl, ?_⟩), Qvb (by simp [getM]), ?_, Gt (Qsc (bg106 _ _))⟩ (by omega) (by omega)
          exact Qrk (by simp [Qr, Qg, IM, dom]) (by simp [Qi, Qg, Qr, IM, dom])
        refine ⟨fun _ => ⟨hs, ⟨by omega, by omega⟩, fun h1 => ⟨⟨by omega, by omega⟩, by omega, fun h2 => ⟨⟨by omega, by omega⟩, ⟨by omega, by omega⟩, ?_⟩, fun h2 => ⟨by omega, ⟨by omega, by omega⟩, ?_⟩⟩, fun h1 => ⟨by omega, ⟨by omega, by omega⟩, ?_⟩⟩, fun h => absurd hcl h⟩
        · have e := Qja (s := s) (lv := (a : Nat) + 1) (y := b) (c := c) (by omega) h2
          have := nx _ e.symm
          simp only [List.length_set] at this
          exact this
        · have e := Qcc (s := s) (lv := (a : Nat) + 1) (y := b) (c := c) fun k => h2 k.2
          have := nx _ e.symm
          simp only [List.length_append, List.length_cons, List.length_nil, Nat.zero_add, List.map_append, List.map_cons, List.map_nil] at this
          exact this
        · have e := Qcc (s := s) (lv := (a : Nat) + 1) (y := b) (c := c) fun k => h1 (by omega)
          have := nx _ e.symm
          simp only [List.length_append, List.length_cons, List.length_nil, Nat.zero_add, List.map_append, List.map_cons, List.map_nil] at this
          exact this
      · have ec : s.w.toNat = c := by omega
        have tkR : List.take (Kx s a b).length (J7 181 (Kx s a b)) = J7 181 (Kx s a b) := List.take_of_length_le (by rw [Y1]; exact Nat.le_refl _)
        unfold YU; simp (config := { maxSteps := 2000000 }) only [bitvec_to_nat, reduceIte, Nat.reduceEqDiff, Nat.reduceAdd, Nat.reduceLeDiff, reduceCtorEq, Nat.reduceBEq, Nat.reduceLT, Nat.reduceMod, List.forall_mem_cons, Qv, QE, Qu, Q9, keepB, QF, Jc, JM, KA, Qk, Qm, Qa, Q3, Qh, List.take_length, List.length_cons, List.length_nil, Nat.zero_add, QH, QX, Q4, Q6, Zone.row, Qf, Qs, Word.row, Je, Own.row, Jy, Part.row, Jf, Seen.row, Jg, Book.row, Jh, Sector.row, QR, HCraft.row, QS, World.row, Q2, Pt.row, Ql, Aw.row, Qo, Blk.row, Qb, Sec.row, Qc, Rw.row, Qp, Sky.row, Qd, Place.row, QG, Run.row, QJ, SRow.row, QL, Hop.row, QM, Jx, JS, Jn, Jo, Jz, QY, QZ, Ji, QA, QB, Qj, Qn, QD, QO, QQ, Q5, QW, Q7, Nat.sub_zero, Sky.row, KE, List.nil_append, List.append_nil, tkR, tkH, tkL, t1, Run.row, QJ, Q5, Hop.row, QM, Q7, Jw, WS, gB, gB0, sB, sB0, bA, bR, Jm, JK, List.append_assoc, List.cons_append, IM]
        refine ⟨fun h => absurd h hcl, fun _ => ⟨by omega, swp 181 (fam 181 (Kx s a b).length), ⟨[(1, .ptr 101 0), (2, .ptr 102 0), (3, .ptr 103 0), (4, .int .i64 ((a : Nat) + 1)), (5, .int .i64 (b : Nat))], IM s (Kx s a (b + 1)) [] []⟩, J8 _ _, fun o ho => ?_, ?_, ?_⟩⟩
        · refine QhC (by omega) fun e => ?_
          rw [e, Vr (by omega)] at ho; omega
        · have hfam : ∀ i, i < (Kx s a b).length → fam 181 i ≠ 181 ∧ fam 181 i ≠ fam 181 (Kx s a b).length := fun i hi => ⟨by unfold fam; omega, fun e => by have := Qct e; omega⟩
          simp only [St.ren, Qua, X8, QgT, renO, X7, ren, Qrj hfam, List.map_append, QoE hfam, List.map_cons, List.map_nil, swp, Nat.reduceEqDiff, Nat.reduceLT, JK, if_false, if_true, reduceIte]
          rw [QeZ]
          refine ⟨by repeat' (first | exact trivial | refine ⟨.inr rfl, ?_⟩), ⟨rfl, rfl, ?_, ?_, rfl, ZO fun p hp => ?_⟩, Qrk (by simp [Qr, Qg, IM, dom]) (by simp), Gt (Jj (by omega) (Jj (by omega) (Jj (by omega) (Jj (by omega) (Jj (by omega) (UN (VD (by omega) (by omega)) (by repeat' (first | exact GT | refine Jj (by first | omega | (rw [Vr (by omega)]; omega)) ?_))))))))⟩
          · simp [getM]
          · simp [getM, QmI, SRow.own, ec]
          · rw [List.append_nil, QoC] at hp
            rcases List.mem_append.1 hp with hp | hp
            · obtain ⟨j, hj, rfl⟩ := ZB hp
              simp only [getM, Jm, Nat.reduceLT, if_false, JQ, W3 hj, Option.some_or]
            · rw [List.mem_singleton.1 hp]
              simp only [getM, Jm, JK, Nat.reduceLT, if_false, JQ, Qri, Option.none_or, if_true, SRow.ob, ec]
        · simp (config := { maxSteps := 2000000 }) only [bitvec_to_nat, reduceIte, Nat.reduceEqDiff, Nat.reduceAdd, Nat.reduceLeDiff, reduceCtorEq, Nat.reduceBEq, Nat.reduceLT, Nat.reduceMod, List.forall_mem_cons, Qv, QE, Qu, Q9, keepB, QF, Jc, JM, KA, Qk, Qm, Qa, Q3, Qh, List.take_length, List.length_cons, List.length_nil, Nat.zero_add, QH, QX, Q4, Q6, Zone.row, Qf, Qs, Word.row, Je, Own.row, Jy, Part.row, Jf, Seen.row, Jg, Book.row, Jh, Sector.row, QR, HCraft.row, QS, World.row, Q2, Pt.row, Ql, Aw.row, Qo, Blk.row, Qb, Sec.row, Qc, Rw.row, Qp, Sky.row, Qd, Place.row, QG, Run.row, QJ, SRow.row, QL, Hop.row, QM, Jx, JS, Jn, Jo, Jz, QY, QZ, Ji, QA, QB, Qj, Qn, QD, QO, QQ, Q5, QW, Q7, Nat.sub_zero, Sky.row, KE, List.nil_append, List.append_nil, tkR, tkH, tkL, t1, Run.row, QJ, Q5, Hop.row, QM, Q7, Jw, WS, gB, gB0, sB, sB0, bA, bR, Jm, JK, List.append_assoc, List.cons_append, IM]
          refine ⟨⟨by omega, by omega⟩, ?_⟩
          refine hN2 (b + 1) _ (by refine QlP (H := []) ?_ ?_ <;> first | (simp [Qr, Qg, IM, dom]; done) | (repeat' (first | exact trivial | refine ⟨.inr rfl, ?_⟩))) (by omega) (by omega)
    · have eb : s.h.toNat = b := by omega
      have e3 := QcF (s := s) (a := a)
      rw [eb] at e3
      unfold YV; simp (config := { maxSteps := 2000000 }) only [bitvec_to_nat, reduceIte, Nat.reduceEqDiff, Nat.reduceAdd, Nat.reduceLeDiff, reduceCtorEq, Nat.reduceBEq, Nat.reduceLT, Nat.reduceMod, List.forall_mem_cons, Qv, QE, Qu, Q9, keepB, QF, Jc, JM, KA, Qk, Qm, Qa, Q3, Qh, List.take_length, List.length_cons, List.length_nil, Nat.zero_add, QH, QX, Q4, Q6, Zone.row, Qf, Qs, Word.row, Je, Own.row, Jy, Part.row, Jf, Seen.row, Jg, Book.row, Jh, Sector.row, QR, HCraft.row, QS, World.row, Q2, Pt.row, Ql, Aw.row, Qo, Blk.row, Qb, Sec.row, Qc, Rw.row, Qp, Sky.row, Qd, Place.row, QG, Run.row, QJ, SRow.row, QL, Hop.row, QM, Jx, JS, Jn, Jo, Jz, QY, QZ, Ji, QA, QB, Qj, Qn, QD, QO, QQ, Q5, QW, Q7, Nat.sub_zero, Sky.row, KE, List.nil_append, List.append_nil, tkR, tkH, tkL, t1, Run.row, QJ, Q5, Hop.row, QM, Q7, Jw, WS, gB, gB0, sB, sB0, bA, bR, Jm, JK, List.append_assoc, List.cons_append, IM]
      refine ⟨fun h => absurd h hbl, fun _ => ⟨⟨by omega, by omega⟩, ?_⟩⟩
      rw [e3]
      exact hN (a + 1) _ (by refine QlP (H := []) ?_ ?_ <;> first | (simp [Qr, Qg, IM, dom]; done) | (repeat' (first | exact trivial | refine ⟨.inr rfl, ?_⟩))) (by omega) (by omega)
  · have ea : s.lv.toNat = a := by omega
    rw [ea]
    have hle := Qcd (s := s) (a := a) (b := 0) (by omega) (by omega) (by omega)
    rw [QdP] at hle
    unfold YW; simp (config := { maxSteps := 2000000 }) only [bitvec_to_nat, reduceIte, Nat.reduceEqDiff, Nat.reduceAdd, Nat.reduceLeDiff, reduceCtorEq, Nat.reduceBEq, Nat.reduceLT, Nat.reduceMod, List.forall_mem_cons, Qv, QE, Qu, Q9, keepB, QF, Jc, JM, KA, Qk, Qm, Qa, Q3, Qh, List.take_length, List.length_cons, List.length_nil, Nat.zero_add, QH, QX, Q4, Q6, Zone.row, Qf, Qs, Word.row, Je, Own.row, Jy, Part.row, Jf, Seen.row, Jg, Book.row, Jh, Sector.row, QR, HCraft.row, QS, World.row, Q2, Pt.row, Ql, Aw.row, Qo, Blk.row, Qb, Sec.row, Qc, Rw.row, Qp, Sky.row, Qd, Place.row, QG, Run.row, QJ, SRow.row, QL, Hop.row, QM, Jx, JS, Jn, Jo, Jz, QY, QZ, Ji, QA, QB, Qj, Qn, QD, QO, QQ, Q5, QW, Q7, Nat.sub_zero, Sky.row, KE, List.nil_append, List.append_nil, tkR, tkH, tkL, t1, Run.row, QJ, Q5, Hop.row, QM, Q7, Jw, WS, gB, gB0, sB, sB0, bA, bR, Jm, JK, List.append_assoc, List.cons_append, IM]
    refine ⟨fun h => absurd h (by omega), fun _ => ?_⟩
    generalize hR : X3 s a = R at *
    refine Xo (fun i : Nat => ⟨[(1, .ptr 101 0), (2, .ptr 102 0), (3, .ptr 103 0), (90, .sl 0 3 (s.pts.map Pt.row)), (91, .int .i64 (s.pts.length : Nat)), (92, .int .i64 (i : Nat))], IM s R (VB s i) []⟩) (fun i => i ≤ s.pts.length) (fun i => s.pts.length - i) 0 ?_ (Nat.zero_le _) ?_
    · rw [show VB s 0 = [] from rfl]
      refine QlP (H := []) ?_ ?_ <;> first | (simp [Qr, Qg, IM, dom]; done) | (repeat' (first | exact trivial | refine ⟨.inr rfl, ?_⟩))
    intro i hi NX2 hN2
    by_cases hil : i < s.pts.length
    · unfold YX; simp (config := { maxSteps := 2000000 }) only [bitvec_to_nat, reduceIte, Nat.reduceEqDiff, Nat.reduceAdd, Nat.reduceLeDiff, reduceCtorEq, Nat.reduceBEq, Nat.reduceLT, Nat.reduceMod, List.forall_mem_cons, Qv, QE, Qu, Q9, keepB, QF, Jc, JM, KA, Qk, Qm, Qa, Q3, Qh, List.take_length, List.length_cons, List.length_nil, Nat.zero_add, QH, QX, Q4, Q6, Zone.row, Qf, Qs, Word.row, Je, Own.row, Jy, Part.row, Jf, Seen.row, Jg, Book.row, Jh, Sector.row, QR, HCraft.row, QS, World.row, Q2, Pt.row, Ql, Aw.row, Qo, Blk.row, Qb, Sec.row, Qc, Rw.row, Qp, Sky.row, Qd, Place.row, QG, Run.row, QJ, SRow.row, QL, Hop.row, QM, Jx, JS, Jn, Jo, Jz, QY, QZ, Ji, QA, QB, Qj, Qn, QD, QO, QQ, Q5, QW, Q7, Nat.sub_zero, Sky.row, KE, List.nil_append, List.append_nil, tkR, tkH, tkL, t1, Run.row, QJ, Q5, Hop.row, QM, Q7, Jw, WS, gB, gB0, sB, sB0, bA, bR, Jm, JK, List.append_assoc, List.cons_append, IM]
      have hil' : (i : Int) < s.pts.length := by omega
      have i1 : 0 ≤ KN s.pts (s.pts.getD i default).nm := WQ (List.mem_map.2 ⟨_, JD hil, rfl⟩)
      obtain ⟨L, ⟨h1, h2⟩, hC⟩ := Qr9 s (s.pts.getD i default).nm hs hv i1
      simp only [Sky.row] at hC
      have bg112 : ∀ x y, Yz [(112, x), (119, y)] := fun x y => Jj (by omega) (Jj (by omega) GT)
      refine ⟨fun _ => ⟨by omega, hil', _, _, .inr (.inr (.inl ⟨_, rfl, hC, fun p hp => ?_, by simp [Qr, dom], rfl, by simp [No99], fun p hp => by rw [List.mem_singleton.1 hp]; exact QtI _ _⟩)), ?_⟩, fun h => absurd hil' h⟩
      · rw [List.mem_singleton.1 hp]
        simp only [getM, Nat.reduceEqDiff, if_false]
        rw [Kq (gB0 ZC (by omega))]
        rfl
      have bA : QiA (QI (Xw 181 R)) := ZC
      simp (config := { maxSteps := 2000000 }) only [bitvec_to_nat, reduceIte, Nat.reduceEqDiff, Nat.reduceAdd, Nat.reduceLeDiff, reduceCtorEq, Nat.reduceBEq, Nat.reduceLT, Nat.reduceMod, List.forall_mem_cons, Qv, QE, Qu, Q9, keepB, QF, Jc, JM, KA, Qk, Qm, Qa, Q3, Qh, List.take_length, List.length_cons, List.length_nil, Nat.zero_add, QH, QX, Q4, Q6, Zone.row, Qf, Qs, Word.row, Je, Own.row, Jy, Part.row, Jf, Seen.row, Jg, Book.row, Jh, Sector.row, QR, HCraft.row, QS, World.row, Q2, Pt.row, Ql, Aw.row, Qo, Blk.row, Qb, Sec.row, Qc, Rw.row, Qp, Sky.row, Qd, Place.row, QG, Run.row, QJ, SRow.row, QL, Hop.row, QM, Jx, JS, Jn, Jo, Jz, QY, QZ, Ji, QA, QB, Qj, Qn, QD, QO, QQ, Q5, QW, Q7, Nat.sub_zero, Sky.row, KE, List.nil_append, List.append_nil, tkR, tkH, tkL, t1, Run.row, QJ, Q5, Hop.row, QM, Q7, Jw, WS, gB, gB0, sB, sB0, bA, bR, Jm, JK, List.append_assoc, List.cons_append, IM]
      refine Xo (fun k : Nat => ⟨[(1, .ptr 101 0), (2, .ptr 102 0), (3, .ptr 103 0), (12, .ptr 112 0), (13, .ptr 119 0), (90, .sl 0 3 (s.pts.map Pt.row)), (91, .int .i64 (s.pts.length : Nat)), (92, .int .i64 (i : Nat)), (101, .sl 0 3 (s.pts.map Pt.row)), (102, .int .i64 (s.pts.length : Nat)), (103, .int .i64 (k : Nat))], IM s R (Yk s i k) [(112, .box [.str (s.pts.getD i default).nm, .int .i64 (s.pts.getD i default).x, .int .i64 (s.pts.getD i default).y]), (119, .mp 0 (esL (dS s) L))]⟩) (fun k => k ≤ s.pts.length) (fun k => s.pts.length - k) 0 ?_ (Nat.zero_le _) ?_
      · rw [QhA]
        refine QoF (s := s) (R := R) (H := VB s i) (B := [(112, .box [.str (s.pts.getD i default).nm, .int .i64 (s.pts.getD i default).x, .int .i64 (s.pts.getD i default).y]), (119, .mp 0 (esL (dS s) L))]) ?_ (by simp [getM]) (bg112 _ _) (by simp [Qr, Qg, IM, dom]) (by simp [Qi, Qg, Qr, IM, dom])
        exact by repeat' (first | exact trivial | refine ⟨.inr rfl, ?_⟩)
      intro k hk NX3 hN3
      have hlh := QcH (s := s) (i := i) (k := k) hp16 (by omega) (by omega)
      have tkH : List.take (Yk s i k).length ((Yk s i k).map Hop.row) = (Yk s i k).map Hop.row := List.take_of_length_le (by simp)
      have l2 : True := trivial
      by_cases hkl : k < s.pts.length
      · have hkl' : (k : Int) < s.pts.length := by omega
        have i2 : 0 ≤ KN s.pts (s.pts.getD k default).nm := WQ (List.mem_map.2 ⟨_, JD hkl, rfl⟩)
        have kk := QdO hv i2
        obtain ⟨g1, g2⟩ := QlJ (b := (s.pts.getD k default).nm) h1 h2
        have ew : Qdh s (s.pts.getD i default).nm (s.pts.getD k default).nm = Qpk s (s.pts.getD i default).nm (s.pts.getD k default).nm := if_pos ⟨i1, i2⟩
        have nx : ∀ (H : List Hop) (B : List (Nat × AObj)), H = Yk s i (k + 1) → (∀ p ∈ [(112, .box [.str (s.pts.getD i default).nm, .int .i64 (s.pts.getD i default).x, .int .i64 (s.pts.getD i default).y]), (119, .mp 0 (esL (dS s) L))], (103 < p.1 ∧ p.1 ≠ 187 ∧ p.1 ≠ 236 ∧ p.1 < 1000) ∧ getM B p.1 = some p.2) → Yz B → NX3 ⟨[(1, .ptr 101 0), (2, .ptr 102 0), (3, .ptr 103 0), (12, .ptr 112 0), (13, .ptr 119 0), (90, .sl 0 3 (s.pts.map Pt.row)), (91, .int .i64 (s.pts.length : Nat)), (92, .int .i64 (i : Nat)), (101, .sl 0 3 (s.pts.map Pt.row)), (102, .int .i64 (s.pts.length : Nat)), (103, .int .i64 ((k : Nat) + 1))], IM s R H B⟩ := fun H B e hB hb => by
          subst e
          refine hN3 (k + 1) _ (QoF ?_ hB hb (by simp [Qr, Qg, IM, dom]) (by simp [Qi, Qg, Qr, IM, dom])) (by omega) (by omega)
          exact by repeat' (first | exact trivial | refine ⟨.inr rfl, ?_⟩)
        have bg4 : ∀ x y z t, Yz [(112, x), (119, y), (115, z), (116, t)] := fun x y z t => Jj (by omega) (Jj (by omega) (Jj (by omega) (Jj (by omega) GT)))
        cases l1 : Y0 L (s.pts.getD k default).nm with
        | none =>
          have e3 : Qe0 s i k = [] := if_neg (by rw [ew, Qi8 (g2 l1)]; simp)
          unfold KL; simp (config := { maxSteps := 2000000 }) only [bitvec_to_nat, reduceIte, Nat.reduceEqDiff, Nat.reduceAdd, Nat.reduceLeDiff, reduceCtorEq, Nat.reduceBEq, Nat.reduceLT, Nat.reduceMod, List.forall_mem_cons, Qv, QE, Qu, Q9, keepB, QF, Jc, JM, KA, Qk, Qm, Qa, Q3, Qh, List.take_length, List.length_cons, List.length_nil, Nat.zero_add, QH, QX, Q4, Q6, Zone.row, Qf, Qs, Word.row, Je, Own.row, Jy, Part.row, Jf, Seen.row, Jg, Book.row, Jh, Sector.row, QR, HCraft.row, QS, World.row, Q2, Pt.row, Ql, Aw.row, Qo, Blk.row, Qb, Sec.row, Qc, Rw.row, Qp, Sky.row, Qd, Place.row, QG, Run.row, QJ, SRow.row, QL, Hop.row, QM, Jx, JS, Jn, Jo, Jz, QY, QZ, Ji, QA, QB, Qj, Qn, QD, QO, QQ, Q5, QW, Q7, Nat.sub_zero, Sky.row, KE, List.nil_append, List.append_nil, tkR, tkH, tkL, t1, Run.row, QJ, Q5, Hop.row, QM, Q7, Jw, WS, gB, gB0, sB, sB0, bA, bR, Jm, JK, List.append_assoc, List.cons_append, IM, Yj, KC, l1, l2, Option.isSome_some, Option.isSome_none, wv, Ki, Kh, noref, JJ, Int.toNat_one]
          refine ⟨fun _ => ⟨by omega, hkl', kk, ⟨by omega, by omega⟩, ?_⟩, fun h => absurd hkl' h⟩
          exact nx _ [_, _, _, _] (by rw [ZA, e3, List.append_nil]) (by simp [getM]) (bg4 _ _ _ _)
        | some w =>
          have hL := g1 w l1
          have ew2 : Qdh s (s.pts.getD i default).nm (s.pts.getD k default).nm = w := ew.trans (QlI hL)
          unfold KL; simp (config := { maxSteps := 2000000 }) only [bitvec_to_nat, reduceIte, Nat.reduceEqDiff, Nat.reduceAdd, Nat.reduceLeDiff, reduceCtorEq, Nat.reduceBEq, Nat.reduceLT, Nat.reduceMod, List.forall_mem_cons, Qv, QE, Qu, Q9, keepB, QF, Jc, JM, KA, Qk, Qm, Qa, Q3, Qh, List.take_length, List.length_cons, List.length_nil, Nat.zero_add, QH, QX, Q4, Q6, Zone.row, Qf, Qs, Word.row, Je, Own.row, Jy, Part.row, Jf, Seen.row, Jg, Book.row, Jh, Sector.row, QR, HCraft.row, QS, World.row, Q2, Pt.row, Ql, Aw.row, Qo, Blk.row, Qb, Sec.row, Qc, Rw.row, Qp, Sky.row, Qd, Place.row, QG, Run.row, QJ, SRow.row, QL, Hop.row, QM, Jx, JS, Jn, Jo, Jz, QY, QZ, Ji, QA, QB, Qj, Qn, QD, QO, QQ, Q5, QW, Q7, Nat.sub_zero, Sky.row, KE, List.nil_append, List.append_nil, tkR, tkH, tkL, t1, Run.row, QJ, Q5, Hop.row, QM, Q7, Jw, WS, gB, gB0, sB, sB0, bA, bR, Jm, JK, List.append_assoc, List.cons_append, IM, Yj, KC, l1, l2, Option.isSome_some, Option.isSome_none, wv, Ki, Kh, noref, JJ, Int.toNat_one]
          refine ⟨fun _ => ⟨by omega, hkl', kk, fun h => ⟨⟨by omega, by omega⟩, ?_⟩, fun h => ⟨by omega, ?_, by omega, ⟨by omega, by omega⟩, ?_⟩⟩, fun h => absurd hkl' h⟩
          · have e3 : Qe0 s i k = [] := if_neg (by rw [ew2]; rw [← h] at hL; have := QtN hL; omega)
            exact nx _ [_, _, _, _] (by rw [ZA, e3, List.append_nil]) (by simp [getM]) (bg4 _ _ _ _)
          · have := QoG h hL; omega
          · have h2 := QoG h hL
            have e3 : Qe0 s i k = [⟨(s.pts.getD i default).nm, (s.pts.getD k default).nm, Xb (dS s) w, w.getD 1 default⟩] := by unfold Qe0; rw [ew2, if_pos h2]
            have := nx (Yk s i k ++ [⟨(s.pts.getD i default).nm, (s.pts.getD k default).nm, Xb (dS s) w, w.getD 1 default⟩]) [(112, .box [.str (s.pts.getD i default).nm, .int .i64 (s.pts.getD i default).x, .int .i64 (s.pts.getD i default).y]), (119, .mp 0 (esL (dS s) L)), (115, .box [.str (s.pts.getD k default).nm, .int .i64 (s.pts.getD k default).x, .int .i64 (s.pts.getD k default).y]), (116, .box [.int .i64 (Xb (dS s) w), .sl 0 1 (w.map QH)])] (by rw [ZA, e3]) (by simp [getM]) (bg4 _ _ _ _)
            simp only [IM, List.length_append, List.length_cons, List.length_nil, Nat.zero_add, List.map_append, List.map_cons, List.map_nil, Hop.row] at this
            exact this
      · have ek : k = s.pts.length := by omega
        subst ek
        have l1 : True := trivial
        unfold KL; simp (config := { maxSteps := 2000000 }) only [bitvec_to_nat, reduceIte, Nat.reduceEqDiff, Nat.reduceAdd, Nat.reduceLeDiff, reduceCtorEq, Nat.reduceBEq, Nat.reduceLT, Nat.reduceMod, List.forall_mem_cons, Qv, QE, Qu, Q9, keepB, QF, Jc, JM, KA, Qk, Qm, Qa, Q3, Qh, List.take_length, List.length_cons, List.length_nil, Nat.zero_add, QH, QX, Q4, Q6, Zone.row, Qf, Qs, Word.row, Je, Own.row, Jy, Part.row, Jf, Seen.row, Jg, Book.row, Jh, Sector.row, QR, HCraft.row, QS, World.row, Q2, Pt.row, Ql, Aw.row, Qo, Blk.row, Qb, Sec.row, Qc, Rw.row, Qp, Sky.row, Qd, Place.row, QG, Run.row, QJ, SRow.row, QL, Hop.row, QM, Jx, JS, Jn, Jo, Jz, QY, QZ, Ji, QA, QB, Qj, Qn, QD, QO, QQ, Q5, QW, Q7, Nat.sub_zero, Sky.row, KE, List.nil_append, List.append_nil, tkR, tkH, tkL, t1, Run.row, QJ, Q5, Hop.row, QM, Q7, Jw, WS, gB, gB0, sB, sB0, bA, bR, Jm, JK, List.append_assoc, List.cons_append, IM, Yj, KC, l1, l2, Option.isSome_some, Option.isSome_none, wv, Ki, Kh, noref, JJ, Int.toNat_one]
        refine ⟨fun h => absurd h (by omega), fun _ => ⟨⟨by omega, by omega⟩, ?_⟩⟩
        rw [QcG]
        refine hN2 (i + 1) _ ?_ (by omega) (by omega)
        refine QoF (s := s) (R := R) (H := VB s (i + 1)) ?_ (by simp) (bg112 _ _) (by simp [Qr, Qg, IM, dom]) (by simp)
        exact by repeat' (first | exact trivial | refine ⟨.inr rfl, ?_⟩)
    · have ei : i = s.pts.length := by omega
      subst ei
      have tkR : List.take R.length (J7 181 R) = J7 181 R := List.take_of_length_le (by rw [Y1]; exact Nat.le_refl _)
      unfold YX; simp (config := { maxSteps := 2000000 }) only [bitvec_to_nat, reduceIte, Nat.reduceEqDiff, Nat.reduceAdd, Nat.reduceLeDiff, reduceCtorEq, Nat.reduceBEq, Nat.reduceLT, Nat.reduceMod, List.forall_mem_cons, Qv, QE, Qu, Q9, keepB, QF, Jc, JM, KA, Qk, Qm, Qa, Q3, Qh, List.take_length, List.length_cons, List.length_nil, Nat.zero_add, QH, QX, Q4, Q6, Zone.row, Qf, Qs, Word.row, Je, Own.row, Jy, Part.row, Jf, Seen.row, Jg, Book.row, Jh, Sector.row, QR, HCraft.row, QS, World.row, Q2, Pt.row, Ql, Aw.row, Qo, Blk.row, Qb, Sec.row, Qc, Rw.row, Qp, Sky.row, Qd, Place.row, QG, Run.row, QJ, SRow.row, QL, Hop.row, QM, Jx, JS, Jn, Jo, Jz, QY, QZ, Ji, QA, QB, Qj, Qn, QD, QO, QQ, Q5, QW, Q7, Nat.sub_zero, Sky.row, KE, List.nil_append, List.append_nil, tkR, tkH, tkL, t1, Run.row, QJ, Q5, Hop.row, QM, Q7, Jw, WS, gB, gB0, sB, sB0, bA, bR, Jm, JK, List.append_assoc, List.cons_append, IM]
      refine ⟨fun h => absurd h (by omega), fun _ => ⟨⟨rfl, rfl, ZO fun p hp => ?_⟩, QtM, by simp [Qr, IO], ?_⟩⟩
      · obtain ⟨j, hj, rfl⟩ := ZB hp
        simp only [getM, Jm, Nat.reduceLT, if_false, W3 hj]
      · simp only [Bool.true_or, Bool.true_and]
        rw [List.all_eq_true]
        intro o ho
        obtain ⟨p, hp, rfl⟩ := List.mem_map.1 ho
        have := VD (k := 181) (l := R) (by omega) (by omega) p hp
        simp [this]
end
end Go.Ve

namespace Go.Ve
open Go.Proofs
set_option maxRecDepth 100000
def K7 : SCode := (.seq (jq [jm 8 4 [],jm 9 0 [],jn 10 (.lenL (.v 9)) [9],jb 11 .lss 8 10 [8,10]] [0,3,4,11] (.cond (.v 11) .skip (.exit 0))) (.seq (.block 1 (.rg [jm 14 3 [],jm 15 4 [],jm 16 0 [],jm 17 4 [],ja 18 2 16 17 [16,17],jL 19 2 18 [18],jn 20 (.call 57 [.v 19]) [19],ja 21 2 14 15 [14,15],⟨none,.store 2 (.v 21) (.v 20),none,[20,21]⟩] [0,3,4])) (.rg [jm 12 4 [4],jn 13 (.binN .add (.v 12) (ci 1)) [12],jm 4 13 [13]] [0,3,4])))
/-- laws.toSkyAirwayS: function 22 -/
def XS : SFun := { n := 23,res := [.t 2],body := (jq [jn 2 (.mv (.c (.sl 0 2 []))) [2]] [0] (jq [jm 5 0 [],jn 6 (.lenL (.v 5)) [5],⟨some 7,.mk 107 1000108 2 [.str ⟨#[]⟩,.sl 0 1 []] (.v 6),none,[6]⟩,jm 3 7 [7]] [0,3] (.seq (jq [jI 4 0 []] [0,3,4] (.block 0 (.loop K7))) (jq [jm 22 3 [3],jm 2 22 [22]] [2] .ret)))) }
theorem Qag : Jd Go.Proofs.Tryz.prog 22 XS = true := by kernel_rfl
def K8 : SCode := (.seq (jq [jm 8 4 [],jm 9 0 [],jn 10 (.lenL (.v 9)) [9],jb 11 .lss 8 10 [8,10]] [0,3,4,11] (.cond (.v 11) .skip (.exit 0))) (.seq (.block 1 (.rg [jm 14 3 [],jm 15 4 [],jm 16 0 [],jm 17 4 [],ja 18 2 16 17 [16,17],jL 19 2 18 [18],jn 20 (.call 58 [.v 19]) [19],ja 21 2 14 15 [14,15],⟨none,.store 2 (.v 21) (.v 20),none,[20,21]⟩] [0,3,4])) (.rg [jm 12 4 [4],jn 13 (.binN .add (.v 12) (ci 1)) [12],jm 4 13 [13]] [0,3,4])))
/-- laws.toSkySectorS: function 23 -/
def XU : SFun := { n := 23,res := [.t 2],body := (jq [jn 2 (.mv (.c (.sl 0 2 []))) [2]] [0] (jq [jm 5 0 [],jn 6 (.lenL (.v 5)) [5],⟨some 7,.mk 107 1000112 2 [.str ⟨#[]⟩,.sl 0 6 []] (.v 6),none,[6]⟩,jm 3 7 [7]] [0,3] (.seq (jq [jI 4 0 []] [0,3,4] (.block 0 (.loop K8))) (jq [jm 22 3 [3],jm 2 22 [22]] [2] .ret)))) }
theorem Qah : Jd Go.Proofs.Tryz.prog 23 XU = true := by kernel_rfl
def ZD : SCode := (.seq (jq [jm 8 4 [],jm 9 0 [],jn 10 (.lenL (.v 9)) [9],jb 11 .lss 8 10 [8,10]] [0,3,4,11] (.cond (.v 11) .skip (.exit 0))) (.seq (.block 1 (.rg [jm 14 3 [],jm 15 4 [],jm 16 0 [],jm 17 4 [],ja 18 1 16 17 [16,17],jl 19 18 [18],ja 20 1 14 15 [14,15],⟨none,.store 1 (.v 20) (.v 19),none,[19,20]⟩] [0,3,4])) (.rg [jm 12 4 [4],jn 13 (.binN .add (.v 12) (ci 1)) [12],jm 4 13 [13]] [0,3,4])))
/-- laws.toStringS: function 98 -/
def Vk : SFun := { n := 22,res := [.t 2],body := (jq [jn 2 (.mv (.c (.sl 0 1 []))) [2]] [0] (jq [jm 5 0 [],jn 6 (.lenL (.v 5)) [5],⟨some 7,.mk 107 9 1 [.str ⟨#[]⟩] (.v 6),none,[6]⟩,jm 3 7 [7]] [0,3] (.seq (jq [jI 4 0 []] [0,3,4] (.block 0 (.loop ZD))) (jq [jm 21 3 [3],jm 2 21 [21]] [2] .ret)))) }
theorem QcI : Jd Go.Proofs.Tryz.prog 98 Vk = true := by kernel_rfl
def Xp : SCode := (.seq (jq [jm 8 4 [],jm 9 0 [],jn 10 (.lenL (.v 9)) [9],jb 11 .lss 8 10 [8,10]] [0,3,4,11] (.cond (.v 11) .skip (.exit 0))) (.seq (.block 1 (.rg [jm 14 3 [],jm 15 4 [],jm 16 0 [],jm 17 4 [],ja 18 3 16 17 [16,17],jL 19 3 18 [18],jn 20 (.call 56 [.v 19]) [19],ja 21 3 14 15 [14,15],⟨none,.store 3 (.v 21) (.v 20),none,[20,21]⟩] [0,3,4])) (.rg [jm 12 4 [4],jn 13 (.binN .add (.v 12) (ci 1)) [12],jm 4 13 [13]] [0,3,4])))
/-- laws.toSkyPointS: function 21 -/
def ZE : SFun := { n := 23,res := [.t 2],body := (jq [jn 2 (.mv (.c (.sl 0 3 []))) [2]] [0] (jq [jm 5 0 [],jn 6 (.lenL (.v 5)) [5],⟨some 7,.mk 107 58 3 [.str ⟨#[]⟩,.int .i64 0,.int .i64 0] (.v 6),none,[6]⟩,jm 3 7 [7]] [0,3] (.seq (jq [jI 4 0 []] [0,3,4] (.block 0 (.loop Xp))) (jq [jm 22 3 [3],jm 2 22 [22]] [2] .ret)))) }
theorem QaV : Jd Go.Proofs.Tryz.prog 21 ZE = true := by kernel_rfl
def Xq : SCode := (.seq (jq [jm 8 4 [],jm 9 0 [],jn 10 (.lenL (.v 9)) [9],jb 11 .lss 8 10 [8,10]] [0,3,4,11] (.cond (.v 11) .skip (.exit 0))) (.seq (.block 1 (.rg [jm 14 3 [],jm 15 4 [],jm 16 0 [],jm 17 4 [],ja 18 6 16 17 [16,17],jL 19 6 18 [18],jn 20 (.call 107 [.v 19]) [19],ja 21 6 14 15 [14,15],⟨none,.store 6 (.v 21) (.v 20),none,[20,21]⟩] [0,3,4])) (.rg [jm 12 4 [4],jn 13 (.binN .add (.v 12) (ci 1)) [12],jm 4 13 [13]] [0,3,4])))
/-- laws.toSkyBlockS: function 99 -/
def ZF : SFun := { n := 23,res := [.t 2],body := (jq [jn 2 (.mv (.c (.sl 0 6 []))) [2]] [0] (jq [jm 5 0 [],jn 6 (.lenL (.v 5)) [5],jn 7 (.mk 107 122 6 [.int .i64 0,.int .i64 0,.int .i64 0,.int .i64 0,.int .i64 0,.int .i64 0] (.v 6)) [6],jm 3 7 [7]] [0,3] (.seq (jq [jI 4 0 []] [0,3,4] (.block 0 (.loop Xq))) (jq [jm 22 3 [3],jm 2 22 [22]] [2] .ret)))) }
theorem QaW : Jd Go.Proofs.Tryz.prog 99 ZF = true := by kernel_rfl
def GP : SCode := (.seq (jq [jm 8 4 [],jm 9 0 [],jn 10 (.lenL (.v 9)) [9],jb 11 .lss 8 10 [8,10]] [0,3,4,11] (.cond (.v 11) .skip (.exit 0))) (.seq (.block 1 (.rg [jm 14 3 [],jm 15 4 [],jm 16 0 [],jm 17 4 [],ja 18 4 16 17 [16,17],jL 19 4 18 [18],jn 20 (.call 59 [.v 19]) [19],ja 21 4 14 15 [14,15],⟨none,.store 4 (.v 21) (.v 20),none,[20,21]⟩] [0,3,4])) (.rg [jm 12 4 [4],jn 13 (.binN .add (.v 12) (ci 1)) [12],jm 4 13 [13]] [0,3,4])))
/-- laws.toSkyRunwayS: function 24 -/
def XV : SFun := { n := 23,res := [.t 2],body := (jq [jn 2 (.mv (.c (.sl 0 4 []))) [2]] [0] (jq [jm 5 0 [],jn 6 (.lenL (.v 5)) [5],⟨some 7,.mk 107 114 4 [.str ⟨#[]⟩,.int .i64 0,.int .i64 0,.int .i64 0] (.v 6),none,[6]⟩,jm 3 7 [7]] [0,3] (.seq (jq [jI 4 0 []] [0,3,4] (.block 0 (.loop GP))) (jq [jm 22 3 [3],jm 2 22 [22]] [2] .ret)))) }
theorem Qai : Jd Go.Proofs.Tryz.prog 24 XV = true := by kernel_rfl
end Go.Ve

namespace Go.Ve
noncomputable section
open Go.Proofs
set_option linter.unusedSimpArgs false
set_option linter.unusedVariables false
set_option maxRecDepth 100000
theorem Qe1 (t : Nat) (a : List ByteArray) (ha : a.length ≤ 1048576) : Contract P 98 [.sl t 1 (a.map QH)] [] (.own 107 0 0 a.length) [(107, .arr 9 0 1 (a.map QH))] := by
  have tkA : List.take a.length (a.map QH) = a.map QH := List.take_of_length_le (by simp)
  refine Qt (Env.nil P) hm QcI (Nat.le_of_ble_eq_true rfl) rfl ?_; unfold Vk; simp (config := { maxSteps := 2000000 }) only [bitvec_to_nat, reduceIte, Nat.reduceEqDiff, Nat.reduceAdd, Nat.reduceLeDiff, reduceCtorEq, Nat.reduceBEq, Nat.reduceLT, Nat.reduceMod, List.forall_mem_cons, Qv, QE, Qu, Q9, keepB, QF, Jc, Qk, Qm, Qa, Q3, Qh, List.take_length, List.length_cons, List.length_nil, Nat.zero_add, QH, QX, Q4, Q6, Pt.row, Ql, Aw.row, Qo, Blk.row, Qb, Sec.row, Qc, Rw.row, Qp, Sky.row, Qd, Place.row, QG, QA, QB, Qj, Qn, QD, QO, QQ, X2, Nat.sub_zero]
  have m0 : List.replicate a.length [.str ⟨#[]⟩] = (J2 a 0).map QH := by simp [J2, QH]
  refine ⟨by omega, ?_⟩
  refine QV (fun i : Nat => [(4, .int .i64 i)]) (fun i => [(107, .arr 9 0 1 ((J2 a i).map QH))]) (fun i => i ≤ a.length) (fun i => a.length - i) 0 (by simp only [JX, JY, JZ, J0, Qw, Qx, Qy, Qz, reduceIte, Nat.reduceEqDiff]; exact ⟨by repeat' (first | exact trivial | refine ⟨.inr rfl, ?_⟩), ⟨congrArg (fun g => some (AObj.arr 9 0 1 g)) m0, trivial⟩, rfl, rfl⟩) (Nat.zero_le _) ?_
  intro i hi NX hN
  unfold ZD; simp (config := { maxSteps := 2000000 }) only [bitvec_to_nat, reduceIte, Nat.reduceEqDiff, Nat.reduceAdd, Nat.reduceLeDiff, reduceCtorEq, Nat.reduceBEq, Nat.reduceLT, Nat.reduceMod, List.forall_mem_cons, Qv, QE, Qu, Q9, keepB, QF, Jc, Qk, Qm, Qa, Q3, Qh, List.take_length, List.length_cons, List.length_nil, Nat.zero_add, QH, QX, Q4, Q6, Pt.row, Ql, Aw.row, Qo, Blk.row, Qb, Sec.row, Qc, Rw.row, Qp, Sky.row, Qd, Place.row, QG, QA, QB, Qj, Qn, QD, QO, QQ, X2, Nat.sub_zero]
  refine ⟨fun h => ?_, fun h => ?_⟩
  · repeat' (first | with_reducible apply And.intro | with_reducible intro _)
    all_goals first
      | omega
      | rfl
      | (have e := WN (a := a) (i := i) (by omega)
         try simp only [QH] at *
         refine hN (i + 1) _ ⟨by repeat' (first | exact trivial | refine ⟨.inr rfl, ?_⟩), ⟨congrArg (fun g => some (AObj.arr 9 0 1 (List.map QH g))) e, trivial⟩, rfl, rfl⟩ ?_ ?_ <;> omega)
  · have e : i = a.length := by omega
    subst e
    simp only [J2, List.take_length, Nat.sub_self, List.replicate_zero, List.append_nil]
    exact ⟨trivial, rfl, rfl⟩
theorem Qrm (t : Nat) (a : List Pt) (ha : a.length ≤ 1048576) : Contract P 21 [.sl t 3 (a.map Pt.row)] [] (.own 107 0 0 a.length) [(107, .arr 58 0 3 (a.map Pt.row))] := by
  have tkA : List.take a.length (a.map Pt.row) = a.map Pt.row := List.take_of_length_le (by simp)
  refine Qt ((Env.nil P).add 56 Qc1 Qr4) hm QaV (Nat.le_of_ble_eq_true rfl) rfl ?_; unfold ZE; simp (config := { maxSteps := 2000000 }) only [bitvec_to_nat, reduceIte, Nat.reduceEqDiff, Nat.reduceAdd, Nat.reduceLeDiff, reduceCtorEq, Nat.reduceBEq, Nat.reduceLT, Nat.reduceMod, List.forall_mem_cons, Qv, QE, Qu, Q9, keepB, QF, Jc, Qc1, Qk, Qm, Qa, Q3, Qh, List.take_length, List.length_cons, List.length_nil, Nat.zero_add, QH, QX, Q4, Q6, Pt.row, Ql, Aw.row, Qo, Blk.row, Qb, Sec.row, Qc, Rw.row, Qp, Sky.row, Qd, Place.row, QG, QA, QB, Qj, Qn, QD, QO, QQ, Qly, Nat.sub_zero]
  have m0 : List.replicate a.length [.str ⟨#[]⟩, .int .i64 0, .int .i64 0] = (QcD a 0).map Pt.row := by simp [QcD, Pt.row]
  refine ⟨by omega, ?_⟩
  refine QV (fun i : Nat => [(4, .int .i64 i)]) (fun i => [(107, .arr 58 0 3 ((QcD a i).map Pt.row))]) (fun i => i ≤ a.length) (fun i => a.length - i) 0 (by simp only [JX, JY, JZ, J0, Qw, Qx, Qy, Qz, reduceIte, Nat.reduceEqDiff]; exact ⟨by repeat' (first | exact trivial | refine ⟨.inr rfl, ?_⟩), ⟨congrArg (fun g => some (AObj.arr 58 0 3 g)) m0, trivial⟩, rfl, rfl⟩) (Nat.zero_le _) ?_
  intro i hi NX hN
  unfold Xp; simp (config := { maxSteps := 2000000 }) only [bitvec_to_nat, reduceIte, Nat.reduceEqDiff, Nat.reduceAdd, Nat.reduceLeDiff, reduceCtorEq, Nat.reduceBEq, Nat.reduceLT, Nat.reduceMod, List.forall_mem_cons, Qv, QE, Qu, Q9, keepB, QF, Jc, Qc1, Qk, Qm, Qa, Q3, Qh, List.take_length, List.length_cons, List.length_nil, Nat.zero_add, QH, QX, Q4, Q6, Pt.row, Ql, Aw.row, Qo, Blk.row, Qb, Sec.row, Qc, Rw.row, Qp, Sky.row, Qd, Place.row, QG, QA, QB, Qj, Qn, QD, QO, QQ, Qly, Nat.sub_zero]
  refine ⟨fun h => ?_, fun h => ?_⟩
  · repeat' (first | with_reducible apply And.intro | with_reducible intro _)
    all_goals first
      | omega
      | rfl
      | (have e := Qlz (a := a) (i := i) (by omega)
         try simp only [Pt.row] at *
         refine hN (i + 1) _ ⟨by repeat' (first | exact trivial | refine ⟨.inr rfl, ?_⟩), ⟨congrArg (fun g => some (AObj.arr 58 0 3 (List.map Pt.row g))) e, trivial⟩, rfl, rfl⟩ ?_ ?_ <;> omega)
  · have e : i = a.length := by omega
    subst e
    simp only [QcD, List.take_length, Nat.sub_self, List.replicate_zero, List.append_nil]
    exact ⟨trivial, rfl, rfl⟩
theorem QoH (t : Nat) (a : List Blk) (ha : a.length ≤ 1048576) : Contract P 99 [.sl t 6 (a.map Blk.row)] [] (.own 107 0 0 a.length) [(107, .arr 122 0 6 (a.map Blk.row))] := by
  have tkA : List.take a.length (a.map Blk.row) = a.map Blk.row := List.take_of_length_le (by simp)
  refine Qt ((Env.nil P).add 107 WO Qoa) hm QaW (Nat.le_of_ble_eq_true rfl) rfl ?_; unfold ZF; simp (config := { maxSteps := 2000000 }) only [bitvec_to_nat, reduceIte, Nat.reduceEqDiff, Nat.reduceAdd, Nat.reduceLeDiff, reduceCtorEq, Nat.reduceBEq, Nat.reduceLT, Nat.reduceMod, List.forall_mem_cons, Qv, QE, Qu, Q9, keepB, QF, Jc, WO, Qk, Qm, Qa, Q3, Qh, List.take_length, List.length_cons, List.length_nil, Nat.zero_add, QH, QX, Q4, Q6, Pt.row, Ql, Aw.row, Qo, Blk.row, Qb, Sec.row, Qc, Rw.row, Qp, Sky.row, Qd, Place.row, QG, QA, QB, Qj, Qn, QD, QO, QQ, Qhl, Nat.sub_zero]
  have m0 : List.replicate a.length [.int .i64 0, .int .i64 0, .int .i64 0, .int .i64 0, .int .i64 0, .int .i64 0] = (Vi a 0).map Blk.row := by simp [Vi, Blk.row]
  refine ⟨by omega, ?_⟩
  refine QV (fun i : Nat => [(4, .int .i64 i)]) (fun i => [(107, .arr 122 0 6 ((Vi a i).map Blk.row))]) (fun i => i ≤ a.length) (fun i => a.length - i) 0 (by simp only [JX, JY, JZ, J0, Qw, Qx, Qy, Qz, reduceIte, Nat.reduceEqDiff]; exact ⟨by repeat' (first | exact trivial | refine ⟨.inr rfl, ?_⟩), ⟨congrArg (fun g => some (AObj.arr 122 0 6 g)) m0, trivial⟩, rfl, rfl⟩) (Nat.zero_le _) ?_
  intro i hi NX hN
  unfold Xq; simp (config := { maxSteps := 2000000 }) only [bitvec_to_nat, reduceIte, Nat.reduceEqDiff, Nat.reduceAdd, Nat.reduceLeDiff, reduceCtorEq, Nat.reduceBEq, Nat.reduceLT, Nat.reduceMod, List.forall_mem_cons, Qv, QE, Qu, Q9, keepB, QF, Jc, WO, Qk, Qm, Qa, Q3, Qh, List.take_length, List.length_cons, List.length_nil, Nat.zero_add, QH, QX, Q4, Q6, Pt.row, Ql, Aw.row, Qo, Blk.row, Qb, Sec.row, Qc, Rw.row, Qp, Sky.row, Qd, Place.row, QG, QA, QB, Qj, Qn, QD, QO, QQ, Qhl, Nat.sub_zero]
  refine ⟨fun h => ?_, fun h => ?_⟩
  · repeat' (first | with_reducible apply And.intro | with_reducible intro _)
    all_goals first
      | omega
      | rfl
      | (have e := QiZ (a := a) (i := i) (by omega)
         try simp only [Blk.row] at *
         refine hN (i + 1) _ ⟨by repeat' (first | exact trivial | refine ⟨.inr rfl, ?_⟩), ⟨congrArg (fun g => some (AObj.arr 122 0 6 (List.map Blk.row g))) e, trivial⟩, rfl, rfl⟩ ?_ ?_ <;> omega)
  · have e : i = a.length := by omega
    subst e
    simp only [Vi, List.take_length, Nat.sub_self, List.replicate_zero, List.append_nil]
    exact ⟨trivial, rfl, rfl⟩
theorem Qrn (t : Nat) (a : List Rw) (ha : a.length ≤ 1048576) : Contract P 24 [.sl t 4 (a.map Rw.row)] [] (.own 107 0 0 a.length) [(107, .arr 114 0 4 (a.map Rw.row))] := by
  have tkA : List.take a.length (a.map Rw.row) = a.map Rw.row := List.take_of_length_le (by simp)
  refine Qt ((Env.nil P).add 59 Qc2 Qr5) hm Qai (Nat.le_of_ble_eq_true rfl) rfl ?_; unfold XV; simp (config := { maxSteps := 2000000 }) only [bitvec_to_nat, reduceIte, Nat.reduceEqDiff, Nat.reduceAdd, Nat.reduceLeDiff, reduceCtorEq, Nat.reduceBEq, Nat.reduceLT, Nat.reduceMod, List.forall_mem_cons, Qv, QE, Qu, Q9, keepB, QF, Jc, Qc2, Qk, Qm, Qa, Q3, Qh, List.take_length, List.length_cons, List.length_nil, Nat.zero_add, QH, QX, Q4, Q6, Pt.row, Ql, Aw.row, Qo, Blk.row, Qb, Sec.row, Qc, Rw.row, Qp, Sky.row, Qd, Place.row, QG, QA, QB, Qj, Qn, QD, QO, QQ, QlA, Nat.sub_zero]
  have m0 : List.replicate a.length [.str ⟨#[]⟩, .int .i64 0, .int .i64 0, .int .i64 0] = (QcE a 0).map Rw.row := by simp [QcE, Rw.row]
  refine ⟨by omega, ?_⟩
  refine QV (fun i : Nat => [(4, .int .i64 i)]) (fun i => [(107, .arr 114 0 4 ((QcE a i).map Rw.row))]) (fun i => i ≤ a.length) (fun i => a.length - i) 0 (by simp only [JX, JY, JZ, J0, Qw, Qx, Qy, Qz, reduceIte, Nat.reduceEqDiff]; exact ⟨by repeat' (first | exact trivial | refine ⟨.inr rfl, ?_⟩), ⟨congrArg (fun g => some (AObj.arr 114 0 4 g)) m0, trivial⟩, rfl, rfl⟩) (Nat.zero_le _) ?_
  intro i hi NX hN
  unfold GP; simp (config := { maxSteps := 2000000 }) only [bitvec_to_nat, reduceIte, Nat.reduceEqDiff, Nat.reduceAdd, Nat.reduceLeDiff, reduceCtorEq, Nat.reduceBEq, Nat.reduceLT, Nat.reduceMod, List.forall_mem_cons, Qv, QE, Qu, Q9, keepB, QF, Jc, Qc2, Qk, Qm, Qa, Q3, Qh, List.take_length, List.length_cons, List.length_nil, Nat.zero_add, QH, QX, Q4, Q6, Pt.row, Ql, Aw.row, Qo, Blk.row, Qb, Sec.row, Qc, Rw.row, Qp, Sky.row, Qd, Place.row, QG, QA, QB, Qj, Qn, QD, QO, QQ, QlA, Nat.sub_zero]
  refine ⟨fun h => ?_, fun h => ?_⟩
  · repeat' (first | with_reducible apply And.intro | with_reducible intro _)
    all_goals first
      | omega
      | rfl
      | (have e := QlB (a := a) (i := i) (by omega)
         try simp only [Rw.row] at *
         refine hN (i + 1) _ ⟨by repeat' (first | exact trivial | refine ⟨.inr rfl, ?_⟩), ⟨congrArg (fun g => some (AObj.arr 114 0 4 (List.map Rw.row g))) e, trivial⟩, rfl, rfl⟩ ?_ ?_ <;> omega)
  · have e : i = a.length := by omega
    subst e
    simp only [QcE, List.take_length, Nat.sub_self, List.replicate_zero, List.append_nil]
    exact ⟨trivial, rfl, rfl⟩
end
end Go.Ve

namespace Go.Ve
noncomputable section
open Go.Proofs
set_option linter.unusedSimpArgs false
set_option linter.unusedVariables false
set_option maxRecDepth 100000
def awP (x : Aw) : ByteArray × List (List AV) := (x.nm, x.pts.map QH)
def XW (x : Sec) : ByteArray × List (List AV) := (x.nm, x.bl.map Blk.row)
def Vl (l : List NRow) (n sz : Nat) : List (List AV) := l.map NRow.row ++ List.replicate n [.str ⟨#[]⟩, .sl 0 sz []]
theorem Qjd {l : List NRow} {n sz : Nat} {r : NRow} {ls : List AV} (hl : ls = r.row) : (Vl l (n + 1) sz).set l.length (QT ((Vl l (n + 1) sz).getD l.length []) 0 ls) = Vl (l ++ [r]) n sz := by
  subst hl
  simp [Vl, List.replicate_succ, NRow.row, QT]
def Uy : RTab
  | [.sl bt 1 bx], M => some ⟨(M 601 = none) ∧ (((bx.map unS).map QH = bx)) ∧ ((bx.map unS).length ≤ 1048576), fun _ : Unit => True, fun _ => .own 601 0 0 (bx.map unS).length, fun _ => [(601, .arr 9 0 1 bx)]⟩
  | _, _ => none
theorem Qje : okTab P 98 Uy := by
  intro args M o h hp
  unfold Uy at h
  split at h
  · rename_i bt bx
    cases h
    obtain ⟨hn, e0, HP⟩ := hp
    have hC := (Qe1 bt (bx.map unS) HP).ren (swp 107 601) (J8 107 601)
    simp only [X7, ren, X8, renO, swp, reduceIte, Nat.reduceEqDiff, Nat.reduceLT, e0] at hC
    refine ⟨(), trivial, .inr (.inr (.inl ⟨_, by simp only [W8, pur, Option.map_some], hC, fun p hp => ?_, ?_, rfl, ?_, ?_⟩))⟩
    · simp only [List.mem_cons, List.not_mem_nil, or_false] at hp
      subst hp; exact hn
    · simp [Qr, Qg, dom]
    · exact trivial
    · intro p hp
      simp only [List.mem_cons, List.not_mem_nil, or_false] at hp
      subst hp; rw [← e0]; exact Kp _
  · cases h
def Qcg : RTab
  | [.sl bt 6 bx], M => some ⟨(M 601 = none) ∧ (((bx.map Yp).map Blk.row = bx)) ∧ ((bx.map Yp).length ≤ 1048576), fun _ : Unit => True, fun _ => .own 601 0 0 (bx.map Yp).length, fun _ => [(601, .arr 122 0 6 bx)]⟩
  | _, _ => none
theorem QoI : okTab P 99 Qcg := by
  intro args M o h hp
  unfold Qcg at h
  split at h
  · rename_i bt bx
    cases h
    obtain ⟨hn, e0, HP⟩ := hp
    have hC := (QoH bt (bx.map Yp) HP).ren (swp 107 601) (J8 107 601)
    simp only [X7, ren, X8, renO, swp, reduceIte, Nat.reduceEqDiff, Nat.reduceLT, e0] at hC
    refine ⟨(), trivial, .inr (.inr (.inl ⟨_, by simp only [W8, pur, Option.map_some], hC, fun p hp => ?_, ?_, rfl, ?_, ?_⟩))⟩
    · simp only [List.mem_cons, List.not_mem_nil, or_false] at hp
      subst hp; exact hn
    · simp [Qr, Qg, dom]
    · exact trivial
    · intro p hp
      simp only [List.mem_cons, List.not_mem_nil, or_false] at hp
      subst hp; rw [← e0]; exact KI _
  · cases h
theorem QtO (s : Aw) (hs : s.pts.length ≤ 1048576) : Contract P 57 [.agg (s.row 1)] [] (.agg [.str s.nm, .own 601 0 0 s.pts.length]) [(601, .arr 9 0 1 (s.pts.map QH))] := by
  simp only [Aw.row]
  refine Qt ((Env.nil P).addR 98 Uy Qje) hm Z7 (Nat.le_of_ble_eq_true rfl) rfl ?_; unfold Gv; simp (config := { maxSteps := 2000000 }) only [bitvec_to_nat, reduceIte, Nat.reduceEqDiff, Nat.reduceAdd, Nat.reduceLeDiff, reduceCtorEq, Nat.reduceBEq, Nat.reduceLT, Nat.reduceMod, List.forall_mem_cons, Qv, QE, Qu, Q9, keepB, QF, Jc, Uy, Qj, Q4, List.length_map, Int.toNat_natCast, Nat.zero_add, Nat.sub_zero, noref, flatOk, Qh, Q3, List.nil_append, Qlo, KE, Aw.row, Sec.row]
  repeat' (first | with_reducible apply And.intro | with_reducible intro _)
  all_goals first | omega | rfl | (simp [Qr]; done)
def Gl (a : List Aw) (i : Nat) : List NRow := Ka 107 9 1 ((a.take i).map awP)
theorem QoJ {a : List Aw} {i : Nat} (h : i ≤ a.length) : (Gl a i).length = i := by simp [Gl, Ya]; omega
theorem QmJ {a : List Aw} {i : Nat} (h : i < a.length) : Gl a (i + 1) = Gl a i ++ [⟨(a.getD i default).nm, (a.getD i default).pts.length, fam 107 i, .arr 9 0 1 ((a.getD i default).pts.map QH)⟩] := by
  have e : (a.take (i + 1)).map awP = (a.take i).map awP ++ [awP (a.getD i default)] := by
    rw [List.take_succ_eq_append_getElem h, List.map_append]; simp [h]
  have hl : ((a.take i).map awP).length = i := by simp; omega
  rw [Gl, e, Qix, hl]
  simp [awP, Gl]
set_option maxHeartbeats 1000000 in
theorem Qro (t : Nat) (a : List Aw) (ha : a.length ≤ 1048576) (hs : ∀ x ∈ a, x.small) : Contract P 22 [.sl t 2 (a.map (Aw.row 1))] [] (.own 107 0 0 a.length) ((107, .arr (1000000 + 108) 0 2 ((Ka 107 9 1 (a.map awP)).map NRow.row)) :: QI (Ka 107 9 1 (a.map awP))) := by
  have hs1 : True := trivial
  have hs2 : True := trivial
  have wm : ∀ (x : AObj) (i : Nat) {l : List NRow}, Gl a i = l → wkM ((107, x) :: QI (Gl a i)) (QI l) := fun x i l e => by
    subst e
    refine Wf (k := 107) KG fun j hj => ?_
    simp only [getM, Jm (show 107 < 1000 from by omega), if_false]
    exact Zg KG hj
  have rr : ∀ (d : List Nat) (i : Nat), (∀ r ∈ Gl a i, d.contains r.o = true) → ∀ m, (Vl (Gl a i) m 1).all (Qg d) = true := fun d i h m => by
    unfold Vl; rw [List.all_append, YY h, Bool.true_and, List.all_eq_true]
    intro x hx; rw [List.eq_of_mem_replicate hx]; rfl
  have dm : ∀ (x : AObj) (i : Nat), ∀ r ∈ Gl a i, (dom ((107, x) :: QI (Gl a i))).contains r.o = true := fun x i r hr => by
    simp only [dom, List.map_cons, List.contains_cons, Bool.or_eq_true]
    right
    simp only [List.contains_iff_mem, QI, List.map_map, List.mem_map]
    exact ⟨r, hr, rfl⟩
  have cl : ∀ (t' i : Nat), closedB ⟨[(0, .sl t 2 (a.map (Aw.row 1))), (3, .own 107 0 0 a.length), (4, .int .i64 ((i : Nat) : Int))], (107, .arr (1000000 + 108) 0 2 (Vl (Gl a i) (a.length - i) 1)) :: QI (Gl a i)⟩ = true := fun _ i => by
    simp only [closedB, List.all_cons, Bool.and_eq_true]
    refine ⟨⟨rfl, by simp [Qr, dom], rfl, rfl⟩, ?_, Yn (by omega)⟩
    simp only [Qi]
    rw [if_neg (by omega)]
    exact rr _ i (dm _ i) _
  have cf : (((107, AObj.arr (1000000 + 108) 0 2 ((Ka 107 9 1 (a.map awP)).map NRow.row)) :: QI (Ka 107 9 1 (a.map awP))).all fun p => Qi (dom ((107, AObj.arr (1000000 + 108) 0 2 ((Ka 107 9 1 (a.map awP)).map NRow.row)) :: QI (Ka 107 9 1 (a.map awP)))) p.2) = true := by
    have ez : Gl a a.length = Ka 107 9 1 (a.map awP) := by simp [Gl]
    simp only [List.all_cons, Bool.and_eq_true]
    refine ⟨?_, Yn (by omega)⟩
    simp only [Qi]
    rw [if_neg (by omega)]
    have := dm (AObj.arr (1000000 + 108) 0 2 ((Ka 107 9 1 (a.map awP)).map NRow.row)) a.length
    rw [ez] at this
    exact YY this
  have kp : ∀ (x : AObj) (i : Nat) (M' : List (Nat × AObj)), keepB ((107, x) :: QI (Gl a i)) M' = true := fun x i M' => by
    unfold keepB
    show ((decide (100 ≤ 107 % 1000) || _) && (dom (QI (Gl a i))).all _) = true
    rw [show decide (100 ≤ 107 % 1000) = true from rfl, Bool.true_or, Bool.true_and]
    exact Qiy (by omega) (by omega)
  refine Qt (Env.nil P) hm Qag (Nat.le_of_ble_eq_true rfl) rfl ?_; unfold XS; simp (config := { maxSteps := 2000000 }) only [bitvec_to_nat, reduceIte, Nat.reduceEqDiff, Nat.reduceAdd, Nat.reduceLeDiff, reduceCtorEq, Nat.reduceBEq, Nat.reduceLT, Nat.reduceMod, List.forall_mem_cons, Qv, QE, Qu, Q9, keepB, QF, Jc, Qk, Qm, Qa, Q3, Qh, List.take_length, List.length_cons, List.length_nil, Nat.zero_add, QH, QX, Q4, Q6, Pt.row, Ql, Aw.row, Qo, Blk.row, Qb, Sec.row, Qc, Rw.row, Qp, Sky.row, Qd, Place.row, QG, QA, QB, Qj, Qn, QD, QO, QQ, Nat.sub_zero, Jm, JK, hs1, hs2, Aw.row, Sec.row, awP, XW]
  refine ⟨by omega, ?_⟩
  refine Xo (fun i : Nat => ⟨[(0, .sl t 2 (a.map (Aw.row 1))), (3, .own 107 0 0 a.length), (4, .int .i64 i)], (107, .arr (1000000 + 108) 0 2 (Vl (Gl a i) (a.length - i) 1)) :: QI (Gl a i)⟩) (fun i => i ≤ a.length) (fun i => a.length - i) 0 ?_ (Nat.zero_le _) ?_
  · exact ⟨by repeat' (first | exact trivial | refine ⟨.inr rfl, ?_⟩), ⟨by simp [getM, Vl, Gl, Ka], by simp [Gl, Ka, QI, wkM]⟩, by simp [closedB, Qr, Qg, Qi, dom, Vl, Gl, Ka, QI], by simp [keepB, dom, Gl, Ka, QI]⟩
  intro i hi NX hN
  by_cases h : i < a.length
  · have hx := hs _ (JD h)
    have hC := (QtO (a.getD i default) (by unfold Aw.small at hx; omega)).ren (swp 601 (fam 107 i)) (J8 _ _)
    simp only [X7, ren, X8, renO, swp, reduceIte, Nat.reduceLT, Aw.row] at hC
    have hlen := QoJ (a := a) (i := i) hi
    have hfr : getM (QI (Gl a i)) (fam 107 i) = none := QgP (k := 107) KG (Nat.le_of_eq hlen)
    have hsu := QmJ h
    have hs1 := Qbm (x := AObj.arr 9 0 1 ((a.getD i default).pts.map QH)) hfr
    have hs2 := Qjd (l := Gl a i) (n := a.length - i - 1) (sz := 1) (r := ⟨(a.getD i default).nm, (a.getD i default).pts.length, fam 107 i, .arr 9 0 1 ((a.getD i default).pts.map QH)⟩) rfl
    rw [hlen, ← hsu, show a.length - i - 1 + 1 = a.length - i from by omega] at hs2
    simp only [NRow.row] at hs2
    unfold K7; simp (config := { maxSteps := 2000000 }) only [bitvec_to_nat, reduceIte, Nat.reduceEqDiff, Nat.reduceAdd, Nat.reduceLeDiff, reduceCtorEq, Nat.reduceBEq, Nat.reduceLT, Nat.reduceMod, List.forall_mem_cons, Qv, QE, Qu, Q9, keepB, QF, Jc, Qk, Qm, Qa, Q3, Qh, List.take_length, List.length_cons, List.length_nil, Nat.zero_add, QH, QX, Q4, Q6, Pt.row, Ql, Aw.row, Qo, Blk.row, Qb, Sec.row, Qc, Rw.row, Qp, Sky.row, Qd, Place.row, QG, QA, QB, Qj, Qn, QD, QO, QQ, Nat.sub_zero, Jm, JK, hs1, hs2, Aw.row, Sec.row, awP, XW]
    refine ⟨fun _ => ⟨by omega, by omega, _, _, .inr (.inr (.inl ⟨_, by simp only [W8, pur, Option.map_some], hC, by simp [getM, Jm, hfr], by simp [Qr, Qg, dom], by simp [Qi], by simp [No99, Ko, JW], by simp [VW, Kp]⟩)), ?_⟩, fun h' => absurd (by omega) h'⟩
    simp (config := { maxSteps := 2000000 }) only [bitvec_to_nat, reduceIte, Nat.reduceEqDiff, Nat.reduceAdd, Nat.reduceLeDiff, reduceCtorEq, Nat.reduceBEq, Nat.reduceLT, Nat.reduceMod, List.forall_mem_cons, Qv, QE, Qu, Q9, keepB, QF, Jc, Qk, Qm, Qa, Q3, Qh, List.take_length, List.length_cons, List.length_nil, Nat.zero_add, QH, QX, Q4, Q6, Pt.row, Ql, Aw.row, Qo, Blk.row, Qb, Sec.row, Qc, Rw.row, Qp, Sky.row, Qd, Place.row, QG, QA, QB, Qj, Qn, QD, QO, QQ, Nat.sub_zero, Jm, JK, hs1, hs2, Aw.row, Sec.row, awP, XW]
    refine ⟨by omega, by omega, hN (i + 1) _ ?_ h (by omega)⟩
    have em : ∀ x, ((107, x) :: (QI (Gl a i) ++ [(fam 107 i, AObj.arr 9 0 1 ((a.getD i default).pts.map QH))])) = (107, x) :: QI (Gl a (i + 1)) := fun x => by rw [hsu, Qiw]; rfl
    rw [em]
    exact ⟨by repeat' (first | exact trivial | refine ⟨.inr rfl, ?_⟩), ⟨rfl, wm _ _ rfl⟩, cl 0 (i + 1), kp _ _ _⟩
  · have e : i = a.length := by omega
    subst e
    have ez : Gl a a.length = Ka 107 9 1 (a.map awP) := by simp [Gl]
    have hs1 : Vl (Ka 107 9 1 (a.map awP)) (a.length - a.length) 1 = (Ka 107 9 1 (a.map awP)).map NRow.row := by simp [Vl]
    have hs2 := ez
    have cl' := cl 0 a.length
    unfold K7; simp (config := { maxSteps := 2000000 }) only [bitvec_to_nat, reduceIte, Nat.reduceEqDiff, Nat.reduceAdd, Nat.reduceLeDiff, reduceCtorEq, Nat.reduceBEq, Nat.reduceLT, Nat.reduceMod, List.forall_mem_cons, Qv, QE, Qu, Q9, keepB, QF, Jc, Qk, Qm, Qa, Q3, Qh, List.take_length, List.length_cons, List.length_nil, Nat.zero_add, QH, QX, Q4, Q6, Pt.row, Ql, Aw.row, Qo, Blk.row, Qb, Sec.row, Qc, Rw.row, Qp, Sky.row, Qd, Place.row, QG, QA, QB, Qj, Qn, QD, QO, QQ, Nat.sub_zero, Jm, JK, hs1, hs2, Aw.row, Sec.row, awP, XW]
    refine ⟨fun h' => absurd h' (by omega), fun _ => ?_⟩
    have wm' := fun x => wm x a.length ez
    have kp' := fun x M' => kp x a.length M'
    rw [ez] at wm' kp'
    refine ⟨?_, cf, rfl, kp' .gone ((107, .arr (1000000 + 108) 0 2 ((Ka 107 9 1 (a.map awP)).map NRow.row)) :: QI (Ka 107 9 1 (a.map awP)))⟩
    first | exact wm' _ | exact ⟨rfl, wm' _⟩
theorem Qrp (s : Sec) (hs : s.bl.length ≤ 1048576) : Contract P 58 [.agg (s.row 1)] [] (.agg [.str s.nm, .own 601 0 0 s.bl.length]) [(601, .arr 122 0 6 (s.bl.map Blk.row))] := by
  simp only [Sec.row]
  refine Qt ((Env.nil P).addR 99 Qcg QoI) hm Z8 (Nat.le_of_ble_eq_true rfl) rfl ?_; unfold Gw; simp (config := { maxSteps := 2000000 }) only [bitvec_to_nat, reduceIte, Nat.reduceEqDiff, Nat.reduceAdd, Nat.reduceLeDiff, reduceCtorEq, Nat.reduceBEq, Nat.reduceLT, Nat.reduceMod, List.forall_mem_cons, Qv, QE, Qu, Q9, keepB, QF, Jc, Qcg, Qj, Q4, List.length_map, Int.toNat_natCast, Nat.zero_add, Nat.sub_zero, noref, flatOk, Qh, Q3, List.nil_append, Qlo, KE, Aw.row, Sec.row]
  repeat' (first | with_reducible apply And.intro | with_reducible intro _)
  all_goals first | omega | rfl | (simp [Qr]; done)
def Ky (a : List Sec) (i : Nat) : List NRow := Ka 107 122 6 ((a.take i).map XW)
theorem QmK {a : List Sec} {i : Nat} (h : i ≤ a.length) : (Ky a i).length = i := by simp [Ky, Ya]; omega
theorem Qkb {a : List Sec} {i : Nat} (h : i < a.length) : Ky a (i + 1) = Ky a i ++ [⟨(a.getD i default).nm, (a.getD i default).bl.length, fam 107 i, .arr 122 0 6 ((a.getD i default).bl.map Blk.row)⟩] := by
  have e : (a.take (i + 1)).map XW = (a.take i).map XW ++ [XW (a.getD i default)] := by
    rw [List.take_succ_eq_append_getElem h, List.map_append]; simp [h]
  have hl : ((a.take i).map XW).length = i := by simp; omega
  rw [Ky, e, Qix, hl]
  simp [XW, Ky]
set_option maxHeartbeats 1000000 in
theorem QoK (t : Nat) (a : List Sec) (ha : a.length ≤ 1048576) (hs : ∀ x ∈ a, x.small) : Contract P 23 [.sl t 2 (a.map (Sec.row 1))] [] (.own 107 0 0 a.length) ((107, .arr (1000000 + 112) 0 2 ((Ka 107 122 6 (a.map XW)).map NRow.row)) :: QI (Ka 107 122 6 (a.map XW))) := by
  have hs1 : True := trivial
  have hs2 : True := trivial
  have wm : ∀ (x : AObj) (i : Nat) {l : List NRow}, Ky a i = l → wkM ((107, x) :: QI (Ky a i)) (QI l) := fun x i l e => by
    subst e
    refine Wf (k := 107) KG fun j hj => ?_
    simp only [getM, Jm (show 107 < 1000 from by omega), if_false]
    exact Zg KG hj
  have rr : ∀ (d : List Nat) (i : Nat), (∀ r ∈ Ky a i, d.contains r.o = true) → ∀ m, (Vl (Ky a i) m 6).all (Qg d) = true := fun d i h m => by
    unfold Vl; rw [List.all_append, YY h, Bool.true_and, List.all_eq_true]
    intro x hx; rw [List.eq_of_mem_replicate hx]; rfl
  have dm : ∀ (x : AObj) (i : Nat), ∀ r ∈ Ky a i, (dom ((107, x) :: QI (Ky a i))).contains r.o = true := fun x i r hr => by
    simp only [dom, List.map_cons, List.contains_cons, Bool.or_eq_true]
    right
    simp only [List.contains_iff_mem, QI, List.map_map, List.mem_map]
    exact ⟨r, hr, rfl⟩
  have cl : ∀ (t' i : Nat), closedB ⟨[(0, .sl t 2 (a.map (Sec.row 1))), (3, .own 107 0 0 a.length), (4, .int .i64 ((i : Nat) : Int))], (107, .arr (1000000 + 112) 0 2 (Vl (Ky a i) (a.length - i) 6)) :: QI (Ky a i)⟩ = true := fun _ i => by
    simp only [closedB, List.all_cons, Bool.and_eq_true]
    refine ⟨⟨rfl, by simp [Qr, dom], rfl, rfl⟩, ?_, Yn (by omega)⟩
    simp only [Qi]
    rw [if_neg (by omega)]
    exact rr _ i (dm _ i) _
  have cf : (((107, AObj.arr (1000000 + 112) 0 2 ((Ka 107 122 6 (a.map XW)).map NRow.row)) :: QI (Ka 107 122 6 (a.map XW))).all fun p => Qi (dom ((107, AObj.arr (1000000 + 112) 0 2 ((Ka 107 122 6 (a.map XW)).map NRow.row)) :: QI (Ka 107 122 6 (a.map XW)))) p.2) = true := by
    have ez : Ky a a.length = Ka 107 122 6 (a.map XW) := by simp [Ky]
    simp only [List.all_cons, Bool.and_eq_true]
    refine ⟨?_, Yn (by omega)⟩
    simp only [Qi]
    rw [if_neg (by omega)]
    have := dm (AObj.arr (1000000 + 112) 0 2 ((Ka 107 122 6 (a.map XW)).map NRow.row)) a.length
    rw [ez] at this
    exact YY this
  have kp : ∀ (x : AObj) (i : Nat) (M' : List (Nat × AObj)), keepB ((107, x) :: QI (Ky a i)) M' = true := fun x i M' => by
    unfold keepB
    show ((decide (100 ≤ 107 % 1000) || _) && (dom (QI (Ky a i))).all _) = true
    rw [show decide (100 ≤ 107 % 1000) = true from rfl, Bool.true_or, Bool.true_and]
    exact Qiy (by omega) (by omega)
  refine Qt (Env.nil P) hm Qah (Nat.le_of_ble_eq_true rfl) rfl ?_; unfold XU; simp (config := { maxSteps := 2000000 }) only [bitvec_to_nat, reduceIte, Nat.reduceEqDiff, Nat.reduceAdd, Nat.reduceLeDiff, reduceCtorEq, Nat.reduceBEq, Nat.reduceLT, Nat.reduceMod, List.forall_mem_cons, Qv, QE, Qu, Q9, keepB, QF, Jc, Qk, Qm, Qa, Q3, Qh, List.take_length, List.length_cons, List.length_nil, Nat.zero_add, QH, QX, Q4, Q6, Pt.row, Ql, Aw.row, Qo, Blk.row, Qb, Sec.row, Qc, Rw.row, Qp, Sky.row, Qd, Place.row, QG, QA, QB, Qj, Qn, QD, QO, QQ, Nat.sub_zero, Jm, JK, hs1, hs2, Aw.row, Sec.row, awP, XW]
  refine ⟨by omega, ?_⟩
  refine Xo (fun i : Nat => ⟨[(0, .sl t 2 (a.map (Sec.row 1))), (3, .own 107 0 0 a.length), (4, .int .i64 i)], (107, .arr (1000000 + 112) 0 2 (Vl (Ky a i) (a.length - i) 6)) :: QI (Ky a i)⟩) (fun i => i ≤ a.length) (fun i => a.length - i) 0 ?_ (Nat.zero_le _) ?_
  · exact ⟨by repeat' (first | exact trivial | refine ⟨.inr rfl, ?_⟩), ⟨by simp [getM, Vl, Ky, Ka], by simp [Ky, Ka, QI, wkM]⟩, by simp [closedB, Qr, Qg, Qi, dom, Vl, Ky, Ka, QI], by simp [keepB, dom, Ky, Ka, QI]⟩
  intro i hi NX hN
  by_cases h : i < a.length
  · have hx := hs _ (JD h)
    have hC := (Qrp (a.getD i default) (by unfold Sec.small at hx; omega)).ren (swp 601 (fam 107 i)) (J8 _ _)
    simp only [X7, ren, X8, renO, swp, reduceIte, Nat.reduceLT, Sec.row] at hC
    have hlen := QmK (a := a) (i := i) hi
    have hfr : getM (QI (Ky a i)) (fam 107 i) = none := QgP (k := 107) KG (Nat.le_of_eq hlen)
    have hsu := Qkb h
    have hs1 := Qbm (x := AObj.arr 122 0 6 ((a.getD i default).bl.map Blk.row)) hfr
    have hs2 := Qjd (l := Ky a i) (n := a.length - i - 1) (sz := 6) (r := ⟨(a.getD i default).nm, (a.getD i default).bl.length, fam 107 i, .arr 122 0 6 ((a.getD i default).bl.map Blk.row)⟩) rfl
    rw [hlen, ← hsu, show a.length - i - 1 + 1 = a.length - i from by omega] at hs2
    simp only [NRow.row] at hs2
    unfold K8; simp (config := { maxSteps := 2000000 }) only [bitvec_to_nat, reduceIte, Nat.reduceEqDiff, Nat.reduceAdd, Nat.reduceLeDiff, reduceCtorEq, Nat.reduceBEq, Nat.reduceLT, Nat.reduceMod, List.forall_mem_cons, Qv, QE, Qu, Q9, keepB, QF, Jc, Qk, Qm, Qa, Q3, Qh, List.take_length, List.length_cons, List.length_nil, Nat.zero_add, QH, QX, Q4, Q6, Pt.row, Ql, Aw.row, Qo, Blk.row, Qb, Sec.row, Qc, Rw.row, Qp, Sky.row, Qd, Place.row, QG, QA, QB, Qj, Qn, QD, QO, QQ, Nat.sub_zero, Jm, JK, hs1, hs2, Aw.row, Sec.row, awP, XW]
    refine ⟨fun _ => ⟨by omega, by omega, _, _, .inr (.inr (.inl ⟨_, by simp only [W8, pur, Option.map_some], hC, by simp [getM, Jm, hfr], by simp [Qr, Qg, dom], by simp [Qi], by simp [No99, Ko, JW], by simp [VW, KI]⟩)), ?_⟩, fun h' => absurd (by omega) h'⟩
    simp (config := { maxSteps := 2000000 }) only [bitvec_to_nat, reduceIte, Nat.reduceEqDiff, Nat.reduceAdd, Nat.reduceLeDiff, reduceCtorEq, Nat.reduceBEq, Nat.reduceLT, Nat.reduceMod, List.forall_mem_cons, Qv, QE, Qu, Q9, keepB, QF, Jc, Qk, Qm, Qa, Q3, Qh, List.take_length, List.length_cons, List.length_nil, Nat.zero_add, QH, QX, Q4, Q6, Pt.row, Ql, Aw.row, Qo, Blk.row, Qb, Sec.row, Qc, Rw.row, Qp, Sky.row, Qd, Place.row, QG, QA, QB, Qj, Qn, QD, QO, QQ, Nat.sub_zero, Jm, JK, hs1, hs2, Aw.row, Sec.row, awP, XW]
    refine ⟨by omega, by omega, hN (i + 1) _ ?_ h (by omega)⟩
    have em : ∀ x, ((107, x) :: (QI (Ky a i) ++ [(fam 107 i, AObj.arr 122 0 6 ((a.getD i default).bl.map Blk.row))])) = (107, x) :: QI (Ky a (i + 1)) := fun x => by rw [hsu, Qiw]; rfl
    rw [em]
    exact ⟨by repeat' (first | exact trivial | refine ⟨.inr rfl, ?_⟩), ⟨rfl, wm _ _ rfl⟩, cl 0 (i + 1), kp _ _ _⟩
  · have e : i = a.length := by omega
    subst e
    have ez : Ky a a.length = Ka 107 122 6 (a.map XW) := by simp [Ky]
    have hs1 : Vl (Ka 107 122 6 (a.map XW)) (a.length - a.length) 6 = (Ka 107 122 6 (a.map XW)).map NRow.row := by simp [Vl]
    have hs2 := ez
    have cl' := cl 0 a.length
    unfold K8; simp (config := { maxSteps := 2000000 }) only [bitvec_to_nat, reduceIte, Nat.reduceEqDiff, Nat.reduceAdd, Nat.reduceLeDiff, reduceCtorEq, Nat.reduceBEq, Nat.reduceLT, Nat.reduceMod, List.forall_mem_cons, Qv, QE, Qu, Q9, keepB, QF, Jc, Qk, Qm, Qa, Q3, Qh, List.take_length, List.length_cons, List.length_nil, Nat.zero_add, QH, QX, Q4, Q6, Pt.row, Ql, Aw.row, Qo, Blk.row, Qb, Sec.row, Qc, Rw.row, Qp, Sky.row, Qd, Place.row, QG, QA, QB, Qj, Qn, QD, QO, QQ, Nat.sub_zero, Jm, JK, hs1, hs2, Aw.row, Sec.row, awP, XW]
    refine ⟨fun h' => absurd h' (by omega), fun _ => ?_⟩
    have wm' := fun x => wm x a.length ez
    have kp' := fun x M' => kp x a.length M'
    rw [ez] at wm' kp'
    refine ⟨?_, cf, rfl, kp' .gone ((107, .arr (1000000 + 112) 0 2 ((Ka 107 122 6 (a.map XW)).map NRow.row)) :: QI (Ka 107 122 6 (a.map XW)))⟩
    first | exact wm' _ | exact ⟨rfl, wm' _⟩
end
end Go.Ve

namespace Go.Ve
noncomputable section
open Go.Proofs
set_option linter.unusedSimpArgs false
set_option linter.unusedVariables false
set_option maxRecDepth 100000
def Uz : RTab
  | [.sl bt 3 bx], M => some ⟨(M 611 = none) ∧ (((bx.map JA).map Pt.row = bx)) ∧ ((bx.map JA).length ≤ 1048576), fun _ : Unit => True, fun _ => .own 611 0 0 (bx.map JA).length, fun _ => [(611, .arr 58 0 3 bx)]⟩
  | _, _ => none
theorem Qrq : okTab P 21 Uz := by
  intro args M o h hp
  unfold Uz at h
  split at h
  · rename_i bt bx
    cases h
    obtain ⟨hn, e0, HP⟩ := hp
    have hC := (Qrm bt (bx.map JA) HP).ren (swp 107 611) (J8 107 611)
    simp only [X7, ren, X8, renO, swp, reduceIte, Nat.reduceEqDiff, Nat.reduceLT, e0] at hC
    refine ⟨(), trivial, .inr (.inr (.inl ⟨_, by simp only [W8, pur, Option.map_some], hC, fun p hp => ?_, ?_, rfl, ?_, ?_⟩))⟩
    · simp only [List.mem_cons, List.not_mem_nil, or_false] at hp
      subst hp; exact hn
    · simp [Qr, Qg, dom]
    · exact trivial
    · intro p hp
      simp only [List.mem_cons, List.not_mem_nil, or_false] at hp
      subst hp; rw [← e0]; exact Gc _
  · cases h
def UA : RTab
  | [.sl bt 4 bx], M => some ⟨(M 612 = none) ∧ (((bx.map JG).map Rw.row = bx)) ∧ ((bx.map JG).length ≤ 1048576), fun _ : Unit => True, fun _ => .own 612 0 0 (bx.map JG).length, fun _ => [(612, .arr 114 0 4 bx)]⟩
  | _, _ => none
theorem Qrr : okTab P 24 UA := by
  intro args M o h hp
  unfold UA at h
  split at h
  · rename_i bt bx
    cases h
    obtain ⟨hn, e0, HP⟩ := hp
    have hC := (Qrn bt (bx.map JG) HP).ren (swp 107 612) (J8 107 612)
    simp only [X7, ren, X8, renO, swp, reduceIte, Nat.reduceEqDiff, Nat.reduceLT, e0] at hC
    refine ⟨(), trivial, .inr (.inr (.inl ⟨_, by simp only [W8, pur, Option.map_some], hC, fun p hp => ?_, ?_, rfl, ?_, ?_⟩))⟩
    · simp only [List.mem_cons, List.not_mem_nil, or_false] at hp
      subst hp; exact hn
    · simp [Qr, Qg, dom]
    · exact trivial
    · intro p hp
      simp only [List.mem_cons, List.not_mem_nil, or_false] at hp
      subst hp; rw [← e0]; exact Gd _
  · cases h
def fA (k : Nat) (s : Sky) : List NRow := Ka k 9 1 (s.aws.map awP)
def fS (k : Nat) (s : Sky) : List NRow := Ka k 122 6 (s.secs.map XW)
def V3 (s : Sky) (a b c d : Nat) : AV := .agg [.int .i64 s.w, .int .i64 s.h, .int .i64 s.lv, .own a 0 0 s.pts.length, .own b 0 0 s.aws.length, .own c 0 0 s.secs.length, .own d 0 0 s.rws.length]
def Vn (s : Sky) (a b c d kA kS : Nat) : List (Nat × AObj) := (a, .arr 58 0 3 (s.pts.map Pt.row)) :: (b, .arr (1000000 + 108) 0 2 ((fA kA s).map NRow.row)) :: (c, .arr (1000000 + 112) 0 2 ((fS kS s).map NRow.row)) :: (d, .arr 114 0 4 (s.rws.map Rw.row)) :: (QI (fA kA s) ++ QI (fS kS s))
theorem Qch (l : List NRow) : JW (l.map NRow.row) := by
  induction l with
  | nil => simp [JW]
  | cons x l ih => simp only [List.map_cons, JW]; exact ⟨by simp [NRow.row, Ko, No99], ih⟩
theorem Qsd (s : Sky) (p : Nat × AObj) (k : Nat) (h : p ∈ QI (fA k s)) : VW p.2 := by
  obtain ⟨i, hi, rfl⟩ := Yh h
  have hi' : i < s.aws.length := by simpa using hi
  simp only [VW]
  rw [show (s.aws.map awP).getD i default = awP (s.aws.getD i default) from by simp [hi']]
  exact Kp _
theorem QoL (s : Sky) (p : Nat × AObj) (k : Nat) (h : p ∈ QI (fS k s)) : VW p.2 := by
  obtain ⟨i, hi, rfl⟩ := Yh h
  have hi' : i < s.secs.length := by simpa using hi
  simp only [VW]
  rw [show (s.secs.map XW).getD i default = XW (s.secs.getD i default) from by simp [hi']]
  exact KI _
theorem W5 {k e sz o : Nat} {y : AObj} {x : List (ByteArray × List (List AV))} {T : Nat} (he : e < 1000000) : (((o, AObj.arr (1000000 + T) 0 2 ((Ka k e sz x).map NRow.row)) :: QI (Ka k e sz x)).all fun p => Qi (dom ((o, y) :: QI (Ka k e sz x))) p.2) = true := by
  simp only [List.all_cons, Bool.and_eq_true]
  refine ⟨?_, Yn he⟩
  simp only [Qi]
  rw [if_neg (by omega)]
  refine YY fun r hr => ?_
  simp only [dom, List.map_cons, List.contains_cons, Bool.or_eq_true]
  right
  simp only [List.contains_iff_mem, QI, List.map_map, List.mem_map]
  exact ⟨r, hr, rfl⟩
theorem QtP {s : Sky} {a b c d kA kS : Nat} {M : List (Nat × AObj)} (h1 : getM M a = some (.arr 58 0 3 (s.pts.map Pt.row))) (h2 : getM M b = some (.arr (1000000 + 108) 0 2 ((fA kA s).map NRow.row)))
    (h3 : getM M c = some (.arr (1000000 + 112) 0 2 ((fS kS s).map NRow.row))) (h4 : getM M d = some (.arr 114 0 4 (s.rws.map Rw.row)))
    (h5 : ∀ i, i < s.aws.length → getM M (fam kA i) = some (.arr 9 0 1 ((s.aws.map awP).getD i default).2)) (h6 : ∀ i, i < s.secs.length → getM M (fam kS i) = some (.arr 122 0 6 ((s.secs.map XW).getD i default).2)) : wkM M (Vn s a b c d kA kS) := by
  refine ⟨h1, h2, h3, h4, QnK.2 ⟨Wf KG fun i hi => ?_, Wf KG fun i hi => ?_⟩⟩
  · simp only [fA, Ya] at hi ⊢
    rw [ZP hi]; exact h5 i (by simpa using hi)
  · simp only [fS, Ya] at hi ⊢
    rw [ZP hi]; exact h6 i (by simpa using hi)
theorem QcJ {s : Sky} {a b c d kA kS : Nat} : dom (Vn s a b c d kA kS) = a :: b :: c :: d :: ((fA kA s).map (·.o) ++ (fS kS s).map (·.o)) := by
  simp [Vn, dom, QI]; rfl
theorem QlQ {s : Sky} {a b c d kA kS : Nat} : ((Vn s a b c d kA kS).all fun p => Qi (dom (Vn s a b c d kA kS)) p.2) = true := by
  rw [QcJ]
  simp only [Vn, List.all_cons, List.all_append, Bool.and_eq_true]
  refine ⟨rfl, ?_, ?_, rfl, Yn (by omega), Yn (by omega)⟩
  · simp only [Qi]
    rw [if_neg (by omega)]
    refine YY fun r hr => ?_
    simp only [List.contains_iff_mem, List.mem_cons, List.mem_append, List.mem_map]
    exact .inr (.inr (.inr (.inr (.inl ⟨r, hr, rfl⟩))))
  · simp only [Qi]
    rw [if_neg (by omega)]
    refine YY fun r hr => ?_
    simp only [List.contains_iff_mem, List.mem_cons, List.mem_append, List.mem_map]
    exact .inr (.inr (.inr (.inr (.inr ⟨r, hr, rfl⟩))))
theorem Qrs {s : Sky} {a b c d kA kS : Nat} : Qr (dom (Vn s a b c d kA kS)) (V3 s a b c d) = true := by
  rw [QcJ]; simp [V3, Qr, Qg]
theorem QoM (s : Sky) (hs : s.small) : Contract P 22 [.sl 1 2 (s.aws.map (Aw.row 1))] [] (.own 613 0 0 s.aws.length) ((613, .arr (1000000 + 108) 0 2 ((fA 107 s).map NRow.row)) :: QI (fA 107 s)) := by
  unfold Sky.small at hs
  have h := (Qro 1 s.aws (by omega) hs.2.1.2).ren (swp 107 613) (J8 _ _)
  simp only [X7, ren, X8, renO, swp, reduceIte, Nat.reduceLT, Nat.reduceAdd] at h
  rw [Yo, QaD, QdD (by omega) (by omega) (by omega)] at h
  exact h
theorem QmL (s : Sky) (hs : s.small) : Contract P 23 [.sl 1 2 (s.secs.map (Sec.row 1))] [] (.own 614 0 0 s.secs.length) ((614, .arr (1000000 + 112) 0 2 ((fS 108 s).map NRow.row)) :: QI (fS 108 s)) := by
  unfold Sky.small at hs
  have h := ((QoK 1 s.secs (by omega) hs.2.2.1.2).ren (swp 107 614) (J8 _ _)).ren (QhQ 107 108) (Zh (by omega) (by omega))
  have e : QhQ 107 108 (swp 107 614 107) = 614 := by rfl
  simp only [X7, ren, X8, renO, e, Nat.reduceLT, Nat.reduceAdd, reduceIte] at h
  rw [Yo, Yo, QaD, QaD, QdD (by omega) (by omega) (by omega), Qiz (by omega) (by omega)] at h
  exact h
set_option maxHeartbeats 2000000 in
theorem Qrt (s : Sky) (hs : s.small) : Contract P 6 [.agg (s.row 1)] [] (V3 s 611 613 614 612) (Vn s 611 613 614 612 107 108) := by
  have hA := QoM s hs
  have hS := QmL s hs
  have bA : QiA (QI (fA 107 s)).reverse := Qln Gs
  have bS : QiA (QI (fS 108 s)).reverse := Qln Gs
  unfold Sky.small at hs
  refine Qt (((Env.nil P).addR 21 Uz Qrq).addR 24 UA Qrr) hm QcU (Nat.le_of_ble_eq_true rfl) rfl ?_; unfold Wh; simp (config := { maxSteps := 2000000 }) only [bitvec_to_nat, reduceIte, Nat.reduceEqDiff, Nat.reduceAdd, Nat.reduceLeDiff, reduceCtorEq, Nat.reduceBEq, Nat.reduceLT, Nat.reduceMod, List.forall_mem_cons, Qv, QE, Qu, Q9, keepB, QF, Jc, Uz, UA, Qk, Qm, Qa, Q3, Qh, List.take_length, List.length_cons, List.length_nil, Nat.zero_add, QH, QX, Q4, Q6, Pt.row, Ql, Aw.row, Qo, Blk.row, Qb, Sec.row, Qc, Rw.row, Qp, Sky.row, Qd, Place.row, QG, QA, QB, Qj, Qn, QD, QO, QQ, Nat.sub_zero, Sky.row, V3]
  refine ⟨by omega, fun _ => ⟨_, _, .inr (.inr (.inl ⟨_, by simp only [W8, pur, Option.map_some], hA, ?_, rfl, W5 (by omega), trivial, ?_⟩)), ?_⟩⟩
  · intro p hp
    rcases List.mem_cons.1 hp with rfl | hp
    · simp [getM]
    · obtain ⟨i, _, rfl⟩ := Yh hp
      simp only [getM, Jm (show (101 : Nat) < 1000 from by omega), Jm (show (102 : Nat) < 1000 from by omega), Jm (show (103 : Nat) < 1000 from by omega), Jm (show (611 : Nat) < 1000 from by omega), if_false]
  · intro p hp
    rcases List.mem_cons.1 hp with rfl | hp
    · exact Qch _
    · exact Qsd s p _ hp
  simp (config := { maxSteps := 2000000 }) only [bitvec_to_nat, reduceIte, Nat.reduceEqDiff, Nat.reduceAdd, Nat.reduceLeDiff, reduceCtorEq, Nat.reduceBEq, Nat.reduceLT, Nat.reduceMod, List.forall_mem_cons, Qv, QE, Qu, Q9, keepB, QF, Jc, Uz, UA, Qk, Qm, Qa, Q3, Qh, List.take_length, List.length_cons, List.length_nil, Nat.zero_add, QH, QX, Q4, Q6, Pt.row, Ql, Aw.row, Qo, Blk.row, Qb, Sec.row, Qc, Rw.row, Qp, Sky.row, Qd, Place.row, QG, QA, QB, Qj, Qn, QD, QO, QQ, Nat.sub_zero, Sky.row, V3]
  rw [aU (U := QI (fA 107 s)) (fun p hp => by
    obtain ⟨i, _, rfl⟩ := Yh hp
    simp only [getM, Jm, Nat.reduceLT, if_false]) QaE]
  simp (config := { maxSteps := 2000000 }) only [bitvec_to_nat, reduceIte, Nat.reduceEqDiff, Nat.reduceAdd, Nat.reduceLeDiff, reduceCtorEq, Nat.reduceBEq, Nat.reduceLT, Nat.reduceMod, List.forall_mem_cons, Qv, QE, Qu, Q9, keepB, QF, Jc, Uz, UA, Qk, Qm, Qa, Q3, Qh, List.take_length, List.length_cons, List.length_nil, Nat.zero_add, QH, QX, Q4, Q6, Pt.row, Ql, Aw.row, Qo, Blk.row, Qb, Sec.row, Qc, Rw.row, Qp, Sky.row, Qd, Place.row, QG, QA, QB, Qj, Qn, QD, QO, QQ, Nat.sub_zero, Sky.row, gB, gB0, sB, sB0, bA, bS, List.append_assoc, List.cons_append, List.nil_append, List.append_nil]
  refine ⟨_, _, .inr (.inr (.inl ⟨_, by simp only [W8, pur, Option.map_some], hS, ?_, rfl, W5 (by omega), trivial, ?_⟩)), ?_⟩
  · intro p hp
    rcases List.mem_cons.1 hp with rfl | hp
    · simp only [getM, gB bA, Nat.reduceLT, Nat.reduceEqDiff, reduceIte]
    · obtain ⟨i, _, rfl⟩ := Yh hp
      simp only [getM, Jm, Nat.reduceLT, if_false, JQ, fA, Qbn, UM, ne_eq, Nat.reduceEqDiff, not_false_eq_true, Option.none_or]
  · intro p hp
    rcases List.mem_cons.1 hp with rfl | hp
    · exact Qch _
    · exact QoL s p _ hp
  simp (config := { maxSteps := 2000000 }) only [bitvec_to_nat, reduceIte, Nat.reduceEqDiff, Nat.reduceAdd, Nat.reduceLeDiff, reduceCtorEq, Nat.reduceBEq, Nat.reduceLT, Nat.reduceMod, List.forall_mem_cons, Qv, QE, Qu, Q9, keepB, QF, Jc, Uz, UA, Qk, Qm, Qa, Q3, Qh, List.take_length, List.length_cons, List.length_nil, Nat.zero_add, QH, QX, Q4, Q6, Pt.row, Ql, Aw.row, Qo, Blk.row, Qb, Sec.row, Qc, Rw.row, Qp, Sky.row, Qd, Place.row, QG, QA, QB, Qj, Qn, QD, QO, QQ, Nat.sub_zero, Sky.row, gB, gB0, sB, sB0, bA, bS, List.append_assoc, List.cons_append, List.nil_append, List.append_nil]
  rw [aU (U := QI (fS 108 s)) (fun p hp => by
    obtain ⟨i, _, rfl⟩ := Yh hp
    simp only [getM, Jm, Nat.reduceLT, if_false, JQ, fA, Qbn, UM, ne_eq, Nat.reduceEqDiff, not_false_eq_true, Option.none_or]) QaE]
  simp (config := { maxSteps := 2000000 }) only [bitvec_to_nat, reduceIte, Nat.reduceEqDiff, Nat.reduceAdd, Nat.reduceLeDiff, reduceCtorEq, Nat.reduceBEq, Nat.reduceLT, Nat.reduceMod, List.forall_mem_cons, Qv, QE, Qu, Q9, keepB, QF, Jc, Uz, UA, Qk, Qm, Qa, Q3, Qh, List.take_length, List.length_cons, List.length_nil, Nat.zero_add, QH, QX, Q4, Q6, Pt.row, Ql, Aw.row, Qo, Blk.row, Qb, Sec.row, Qc, Rw.row, Qp, Sky.row, Qd, Place.row, QG, QA, QB, Qj, Qn, QD, QO, QQ, Nat.sub_zero, Sky.row, gB, gB0, sB, sB0, bA, bS, List.append_assoc, List.cons_append, List.nil_append, List.append_nil]
  refine ⟨by omega, fun _ => ⟨QtP ?_ ?_ ?_ ?_ (fun i hi => ?_) (fun i hi => ?_), QlQ, by rw [show List.map (fun x => x.1) (Vn s 611 613 614 612 107 108) = dom (Vn s 611 613 614 612 107 108) from rfl, QcJ]; simp [Qr], ?_⟩⟩
  · simp only [getM, Nat.reduceEqDiff, reduceIte]
  · simp only [getM, gB bA, Nat.reduceLT, Nat.reduceEqDiff, reduceIte]
  · simp only [getM, gB bA, gB bS, Nat.reduceLT, Nat.reduceEqDiff, reduceIte]
  · simp only [getM, gB bA, gB bS, Nat.reduceLT, Nat.reduceEqDiff, reduceIte]
  · simp only [getM, Jm, Nat.reduceLT, if_false, JQ, fA, Qbn, WX (x := s.aws.map awP) (by simpa using hi), Option.some_or]
  · simp only [getM, Jm, Nat.reduceLT, if_false, JQ, fA, fS, Qbn, UM, ne_eq, Nat.reduceEqDiff, not_false_eq_true, Option.none_or, WX (x := s.secs.map XW) (by simpa using hi), Option.some_or]
  · exact Gt (M' := Vn s 611 613 614 612 107 108) (M := (101, .gone) :: (102, .gone) :: (103, .gone) :: (611, .gone) :: ((QI (fA 107 s)).reverse ++ (613, _) :: ((QI (fS 108 s)).reverse ++ [(614, _), (612, _)])))
      (Jj (by omega) (Jj (by omega) (Jj (by omega) (Jj (by omega) (UN (QfO (Qer (by omega) (by omega))) (Jj (by omega) (UN (QfO (Qer (by omega) (by omega))) (Jj (by omega) (Jj (by omega) GT)))))))))

end
end Go.Ve

namespace Go.Ve
noncomputable section
open Go.Proofs
set_option linter.unusedSimpArgs false
set_option linter.unusedVariables false
set_option maxRecDepth 100000
def dch (i : Nat) : ByteArray := ⟨#[Qki [AV.int .u8 (IntKind.u8.wrap (48 + (i : Int) % 10))]]⟩
theorem Qse (i : Nat) : QdX [[AV.int .u8 (IntKind.u8.wrap (48 + (i : Int) % 10))]] = dch i := rfl
def dg (k : Nat) (o : ByteArray) : ByteArray := if h : k = 0 then o else dg (k / 10) (dch k ++ o)
termination_by k
decreasing_by omega
theorem QtQ (o : ByteArray) : dg 0 o = o := by rw [dg]; simp
theorem QtR {k : Nat} (o : ByteArray) (h : 0 < k) : dg k o = dg (k / 10) (dch k ++ o) := by rw [dg]; simp [show k ≠ 0 by omega]
def mtx (k : Int) : ByteArray := if k ≤ 0 then ⟨#[109, 48]⟩ else ⟨#[109]⟩ ++ dg k.toNat ⟨#[]⟩
theorem QtS (i : Nat) : (dch i).toList.length = 1 := by rw [← J1]; rfl
theorem QtT (a b : ByteArray) : (a ++ b).toList.length = a.toList.length + b.toList.length := by simp only [← J1, ByteArray.size_append]
theorem QtU (w : Int) : QhV [AV.int .u8 (IntKind.u8.wrap w)] = true := by
  simp [QhV, IntKind.wrap, IntKind.bits, IntKind.signed]
  try omega
theorem Qv8 : (⟨#[109]⟩ : ByteArray).toList.length = 1 := by rw [← J1]; rfl
theorem Qv9 : (⟨#[]⟩ : ByteArray).toList.length = 0 := by rw [← J1]; rfl
theorem QmM (k : Int) (hk : 0 ≤ k ∧ k ≤ 1152921504606846976) : Contract P 78 [.int .i64 k] [] (.str (mtx k)) [] := by
  refine Qt (Env.nil P) hm QeF (Nat.le_of_ble_eq_true rfl) rfl ?_; unfold Wv; simp (config := { maxSteps := 2000000 }) only [bitvec_to_nat, reduceIte, Nat.reduceEqDiff, Nat.reduceAdd, Nat.reduceLeDiff, reduceCtorEq, Nat.reduceBEq, Nat.reduceLT, Nat.reduceMod, List.forall_mem_cons, Nat.zero_add, Q4, List.map_cons, List.map_nil, Qh, Qse]
  refine ⟨fun h => by rw [mtx, if_pos h], fun hp => ?_⟩
  have hkk : ((k.toNat : Nat) : Int) = k := by omega
  refine QV (fun a : Nat × ByteArray => [(0, .int .i64 a.1), (3, .str a.2)]) (fun _ => []) (fun a => dg a.1 a.2 = dg k.toNat ⟨#[]⟩ ∧ a.2.toList.length + a.1 ≤ 1152921504606846976) (fun a => a.1) (k.toNat, ⟨#[]⟩) (by simp only [hkk]; simp only [JX, JY, JZ, J0, Qw, Qx, Qy, Qz, reduceIte, Nat.reduceEqDiff]; exact ⟨by repeat' (first | exact trivial | refine ⟨.inr rfl, ?_⟩), by repeat' (first | exact trivial | refine ⟨rfl, ?_⟩), by first | rfl | simp [closedB, Qr, Qg, Qi, dom, Qe, *], by first | rfl | simp [keepB, dom]⟩) ⟨rfl, by simp only [Qv9]; omega⟩ ?_
  rintro ⟨i, s⟩ ⟨h1, h2⟩ NX hN
  simp only at h1 h2
  unfold U7; simp (config := { maxSteps := 2000000 }) only [bitvec_to_nat, reduceIte, Nat.reduceEqDiff, Nat.reduceAdd, Nat.reduceLeDiff, reduceCtorEq, Nat.reduceBEq, Nat.reduceLT, Nat.reduceMod, List.forall_mem_cons, Nat.zero_add, Q4, List.map_cons, List.map_nil, Qh, Qse]
  refine ⟨fun g => ⟨by omega, by omega, by simp only [List.all_cons, List.all_nil, QtU, Bool.and_true], ?_⟩, fun g => ?_⟩
  · have e1 := QtS i
    refine ⟨by rw [e1]; omega, by omega, ?_⟩
    have e2 : ((i : Int) / 10) = ((i / 10 : Nat) : Int) := by omega
    simp only [e2]
    refine hN (i / 10, dch i ++ s) _ (by simp only [JX, JY, JZ, J0, Qw, Qx, Qy, Qz, reduceIte, Nat.reduceEqDiff]; exact ⟨by repeat' (first | exact trivial | refine ⟨.inr rfl, ?_⟩), by repeat' (first | exact trivial | refine ⟨rfl, ?_⟩), by first | rfl | simp [closedB, Qr, Qg, Qi, dom, Qe, *], by first | rfl | simp [keepB, dom]⟩) ?_ ?_
    · exact ⟨by rw [← QtR s (by omega)]; exact h1, by simp only [QtT, e1]; omega⟩
    · simp only; omega
  · have e : i = 0 := by omega
    subst e
    rw [QtQ] at h1
    refine ⟨by rw [Qv8]; omega, ?_⟩
    rw [mtx, if_neg hp, ← h1]
def Q0 : List AV → Option (Prop × AV)
  | [.int .i64 k] => some ((True) ∧ (0 ≤ k ∧ k ≤ 1152921504606846976), .str (mtx k))
  | _ => none
theorem Ys : ∀ args p v, Q0 args = some (p, v) → p → Contract P 78 args [] v [] ∧ noref v = true ∧ No99 v := by
  intro args p v h1 h2
  unfold Q0 at h1
  split at h1
  · rename_i k
    cases h1
    obtain ⟨_, HP⟩ := h2
    have := QmM k HP
    exact ⟨this, rfl, trivial⟩
  · cases h1
theorem J3 {α : Type} {l : List α} {i : Nat} {x d : α} (h : i < l.length) : (l.set i x).getD i d = x := by simp [h]
theorem Kj {α : Type} {l : List α} {i j : Nat} {x d : α} (h : i ≠ j) : (l.set i x).getD j d = l.getD j d := by simp [List.getElem?_set_ne h]
def UB (k : Int) : ByteArray := mtx k
def Gj (k : Int) (n : Nat) : List ByteArray := (List.range n).map fun j : Nat => UB (k + (j : Int))
theorem Qdi {k : Int} {n : Nat} : (Gj k n).length = n := by simp [Gj]
theorem Qdj {k : Int} {n j : Nat} (h : j < n) : (Gj k n).getD j default = UB (k + (j : Int)) := by simp [Gj, h]
theorem UI {l : List ByteArray} {i : Nat} {v : ByteArray} : (l.map QH).set i (QT ((l.map QH).getD i []) 0 [.str v]) = (l.set i v).map QH :=
  JR (α := ByteArray) (f := QH) (fun _ => v) fun x => by simp [QH, QT]
set_option maxHeartbeats 1000000 in
theorem Qdk (v : Nat) (k : Int) (a : List ByteArray) (ha : a.length ≤ 1048577) (hk : 0 ≤ k ∧ k ≤ 1125899906842624) : Contract P 79 [.own 3 v 0 a.length, .int .i64 k] [(3, .arr 9 v 1 (a.map QH))] (.int .i64 (k + a.length)) [(3, .arr 9 v 1 ((Gj k a.length).map QH))] := by
  have hz : ((0 : Nat) : Int) = 0 := rfl
  have gs : True := trivial
  refine Qt ((Env.nil P).add 78 Q0 Ys) hm QbO (Nat.le_of_ble_eq_true rfl) rfl ?_; unfold Ud; simp (config := { maxSteps := 2000000 }) only [bitvec_to_nat, reduceIte, Nat.reduceEqDiff, Nat.reduceAdd, Nat.reduceLeDiff, reduceCtorEq, Nat.reduceBEq, Nat.reduceLT, Nat.reduceMod, List.forall_mem_cons, Qv, QE, Qu, Q9, keepB, QF, Jc, Q0, UI, List.set_set, gs, QX, QH, Int.toNat_natCast, List.length_map, List.length_set, Nat.sub_zero, Nat.zero_add, hz]
  refine QV (fun b : Nat × List ByteArray => [(1, .int .i64 (k + b.1)), (5, .int .i64 b.1)]) (fun b => [(3, .arr 9 v 1 (b.2.map QH))]) (fun b => b.2.length = a.length ∧ b.1 ≤ a.length ∧ ∀ j, j < b.1 → b.2.getD j default = UB (k + (j : Int))) (fun b => a.length - b.1) (0, a) ?_ ⟨rfl, Nat.zero_le _, fun j hj => absurd hj (Nat.not_lt_zero _)⟩ ?_
  · have e0 : k + ((0 : Nat) : Int) = k := by omega
    simp only [e0]
    simp only [JX, JY, JZ, J0, Qw, Qx, Qy, Qz, reduceIte, Nat.reduceEqDiff]; exact ⟨by repeat' (first | exact trivial | refine ⟨.inr rfl, ?_⟩), by repeat' (first | exact trivial | refine ⟨rfl, ?_⟩), by first | rfl | simp [closedB, Qr, Qg, Qi, dom, Qe, *], by first | rfl | simp [keepB, dom]⟩
  rintro ⟨i, l⟩ ⟨h1, h2, h3⟩ NX hN
  simp only at h1 h2 h3
  have gs : i < a.length → ∀ x : ByteArray, (l.set i x).getD i default = x := fun h x => J3 (by omega)
  by_cases hi : i < a.length
  · have gs := gs hi
    have e5 : k + ((i + 1 : Nat) : Int) = k + (i : Int) + 1 := by omega
    unfold YM; simp (config := { maxSteps := 2000000 }) only [bitvec_to_nat, reduceIte, Nat.reduceEqDiff, Nat.reduceAdd, Nat.reduceLeDiff, reduceCtorEq, Nat.reduceBEq, Nat.reduceLT, Nat.reduceMod, List.forall_mem_cons, Qv, QE, Qu, Q9, keepB, QF, Jc, Q0, UI, List.set_set, gs, QX, QH, Int.toNat_natCast, List.length_map, List.length_set, Nat.sub_zero, Nat.zero_add, hz]
    repeat' (first | with_reducible apply And.intro | with_reducible intro _)
    all_goals first
      | omega
      | (refine hN (i + 1, l.set i (UB (k + (i : Int)))) _ (by simp only [e5]; simp only [JX, JY, JZ, J0, Qw, Qx, Qy, Qz, reduceIte, Nat.reduceEqDiff]; exact ⟨by repeat' (first | exact trivial | refine ⟨.inr rfl, ?_⟩), by repeat' (first | exact trivial | refine ⟨rfl, ?_⟩), by first | rfl | simp [closedB, Qr, Qg, Qi, dom, Qe, *], by first | rfl | simp [keepB, dom]⟩) ⟨by simp only [List.length_set]; exact h1, hi, fun j hj => ?_⟩ (by simp only; omega)
         simp only at hj ⊢
         by_cases e : j = i
         · subst e; exact J3 (by omega)
         · rw [Kj (Ne.symm e)]; exact h3 j (by omega))
      | (exfalso; omega)
  · have hl : l = Gj k a.length := XR (by rw [Qdi]; exact h1) fun j hj => by rw [Qdj (by omega)]; exact h3 j (by omega)
    have hi' : ¬ (i : Int) < a.length := by omega
    unfold YM; simp (config := { maxSteps := 2000000 }) only [bitvec_to_nat, reduceIte, Nat.reduceEqDiff, Nat.reduceAdd, Nat.reduceLeDiff, reduceCtorEq, Nat.reduceBEq, Nat.reduceLT, Nat.reduceMod, List.forall_mem_cons, Qv, QE, Qu, Q9, keepB, QF, Jc, Q0, UI, List.set_set, gs, QX, QH, Int.toNat_natCast, List.length_map, List.length_set, Nat.sub_zero, Nat.zero_add, hz, hi']
    refine ⟨by omega, ?_⟩
    rw [hl]
theorem Qdl (v : Nat) (k : Int) (a : List ByteArray) (ha : a.length ≤ 1048577) (hk : 0 ≤ k ∧ k ≤ 1125899906842624) : Contract P 79 [.own 3 v 0 a.length, .int .i64 k] [(3, .arr 9 v 1 (a.map QH))] (.int .i64 (k + a.length)) [(3, .gone)] :=
  (Qdk v k a ha hk).gone rfl
def Qru (k : Int) : Pt := ⟨mtx (k), k + 1, k + 1 + 1⟩
def QmN (k : Int) (n : Nat) : List Pt := (List.range n).map fun j : Nat => Qru (k + 3 * (j : Int))
theorem QoN {k : Int} {n : Nat} : (QmN k n).length = n := by simp [QmN]
theorem QoO {k : Int} {n j : Nat} (h : j < n) : (QmN k n).getD j default = Qru (k + 3 * (j : Int)) := by simp [QmN, h]
theorem QhD {l : List Pt} {i : Nat} {v : ByteArray} : (l.map Pt.row).set i (QT ((l.map Pt.row).getD i []) 0 [.str v]) = (l.set i { l.getD i default with nm := v }).map Pt.row :=
  JR (α := Pt) (f := Pt.row) (fun s => { s with nm := v }) fun x => by simp [Pt.row, QT]
theorem QhE {l : List Pt} {i : Nat} {v : Int} : (l.map Pt.row).set i (QT ((l.map Pt.row).getD i []) 1 [.int .i64 v]) = (l.set i { l.getD i default with x := v }).map Pt.row :=
  JR (α := Pt) (f := Pt.row) (fun s => { s with x := v }) fun x => by simp [Pt.row, QT]
theorem QhF {l : List Pt} {i : Nat} {v : Int} : (l.map Pt.row).set i (QT ((l.map Pt.row).getD i []) 2 [.int .i64 v]) = (l.set i { l.getD i default with y := v }).map Pt.row :=
  JR (α := Pt) (f := Pt.row) (fun s => { s with y := v }) fun x => by simp [Pt.row, QT]
set_option maxHeartbeats 1000000 in
theorem QoP (v : Nat) (k : Int) (a : List Pt) (ha : a.length ≤ 1048577) (hk : 0 ≤ k ∧ k ≤ 1125899906842624) : Contract P 34 [.own 3 v 0 a.length, .int .i64 k] [(3, .arr 58 v 3 (a.map Pt.row))] (.int .i64 (k + 3 * a.length)) [(3, .arr 58 v 3 ((QmN k a.length).map Pt.row))] := by
  have hz : ((0 : Nat) : Int) = 0 := rfl
  have gs : True := trivial
  refine Qt ((Env.nil P).add 78 Q0 Ys) hm Qaa (Nat.le_of_ble_eq_true rfl) rfl ?_; unfold XC; simp (config := { maxSteps := 2000000 }) only [bitvec_to_nat, reduceIte, Nat.reduceEqDiff, Nat.reduceAdd, Nat.reduceLeDiff, reduceCtorEq, Nat.reduceBEq, Nat.reduceLT, Nat.reduceMod, List.forall_mem_cons, Qv, QE, Qu, Q9, keepB, QF, Jc, Q0, QhD, QhE, QhF, List.set_set, gs, Pt.row, QX, QH, Int.toNat_natCast, List.length_map, List.length_set, Nat.sub_zero, Nat.zero_add, hz]
  refine QV (fun b : Nat × List Pt => [(1, .int .i64 (k + 3 * b.1)), (5, .int .i64 b.1)]) (fun b => [(3, .arr 58 v 3 (b.2.map Pt.row))]) (fun b => b.2.length = a.length ∧ b.1 ≤ a.length ∧ ∀ j, j < b.1 → b.2.getD j default = Qru (k + 3 * (j : Int))) (fun b => a.length - b.1) (0, a) ?_ ⟨rfl, Nat.zero_le _, fun j hj => absurd hj (Nat.not_lt_zero _)⟩ ?_
  · have e0 : k + 3 * ((0 : Nat) : Int) = k := by omega
    simp only [e0]
    simp only [JX, JY, JZ, J0, Qw, Qx, Qy, Qz, reduceIte, Nat.reduceEqDiff]; exact ⟨by repeat' (first | exact trivial | refine ⟨.inr rfl, ?_⟩), by repeat' (first | exact trivial | refine ⟨rfl, ?_⟩), by first | rfl | simp [closedB, Qr, Qg, Qi, dom, Qe, *], by first | rfl | simp [keepB, dom]⟩
  rintro ⟨i, l⟩ ⟨h1, h2, h3⟩ NX hN
  simp only at h1 h2 h3
  have gs : i < a.length → ∀ x : Pt, (l.set i x).getD i default = x := fun h x => J3 (by omega)
  by_cases hi : i < a.length
  · have gs := gs hi
    have e5 : k + 3 * ((i + 1 : Nat) : Int) = k + 3 * (i : Int) + 1 + 1 + 1 := by omega
    unfold K4; simp (config := { maxSteps := 2000000 }) only [bitvec_to_nat, reduceIte, Nat.reduceEqDiff, Nat.reduceAdd, Nat.reduceLeDiff, reduceCtorEq, Nat.reduceBEq, Nat.reduceLT, Nat.reduceMod, List.forall_mem_cons, Qv, QE, Qu, Q9, keepB, QF, Jc, Q0, QhD, QhE, QhF, List.set_set, gs, Pt.row, QX, QH, Int.toNat_natCast, List.length_map, List.length_set, Nat.sub_zero, Nat.zero_add, hz]
    repeat' (first | with_reducible apply And.intro | with_reducible intro _)
    all_goals first
      | omega
      | (refine hN (i + 1, l.set i (Qru (k + 3 * (i : Int)))) _ (by simp only [e5]; simp only [JX, JY, JZ, J0, Qw, Qx, Qy, Qz, reduceIte, Nat.reduceEqDiff]; exact ⟨by repeat' (first | exact trivial | refine ⟨.inr rfl, ?_⟩), by repeat' (first | exact trivial | refine ⟨rfl, ?_⟩), by first | rfl | simp [closedB, Qr, Qg, Qi, dom, Qe, *], by first | rfl | simp [keepB, dom]⟩) ⟨by simp only [List.length_set]; exact h1, hi, fun j hj => ?_⟩ (by simp only; omega)
         simp only at hj ⊢
         by_cases e : j = i
         · subst e; exact J3 (by omega)
         · rw [Kj (Ne.symm e)]; exact h3 j (by omega))
      | (exfalso; omega)
  · have hl : l = QmN k a.length := XR (by rw [QoN]; exact h1) fun j hj => by rw [QoO (by omega)]; exact h3 j (by omega)
    have hi' : ¬ (i : Int) < a.length := by omega
    unfold K4; simp (config := { maxSteps := 2000000 }) only [bitvec_to_nat, reduceIte, Nat.reduceEqDiff, Nat.reduceAdd, Nat.reduceLeDiff, reduceCtorEq, Nat.reduceBEq, Nat.reduceLT, Nat.reduceMod, List.forall_mem_cons, Qv, QE, Qu, Q9, keepB, QF, Jc, Q0, QhD, QhE, QhF, List.set_set, gs, Pt.row, QX, QH, Int.toNat_natCast, List.length_map, List.length_set, Nat.sub_zero, Nat.zero_add, hz, hi']
    refine ⟨by omega, ?_⟩
    rw [hl]
theorem QoQ (v : Nat) (k : Int) (a : List Pt) (ha : a.length ≤ 1048577) (hk : 0 ≤ k ∧ k ≤ 1125899906842624) : Contract P 34 [.own 3 v 0 a.length, .int .i64 k] [(3, .arr 58 v 3 (a.map Pt.row))] (.int .i64 (k + 3 * a.length)) [(3, .gone)] :=
  (QoP v k a ha hk).gone rfl
def QlR (k : Int) : Blk := ⟨k, k + 1, k + 1 + 1, k + 1 + 1 + 1, k + 1 + 1 + 1 + 1, k + 1 + 1 + 1 + 1 + 1⟩
def QfX (k : Int) (n : Nat) : List Blk := (List.range n).map fun j : Nat => QlR (k + 6 * (j : Int))
theorem QmO {k : Int} {n : Nat} : (QfX k n).length = n := by simp [QfX]
theorem QmP {k : Int} {n j : Nat} (h : j < n) : (QfX k n).getD j default = QlR (k + 6 * (j : Int)) := by simp [QfX, h]
theorem Qe2 {l : List Blk} {i : Nat} {v : Int} : (l.map Blk.row).set i (QT ((l.map Blk.row).getD i []) 0 [.int .i64 v]) = (l.set i { l.getD i default with x0 := v }).map Blk.row :=
  JR (α := Blk) (f := Blk.row) (fun s => { s with x0 := v }) fun x => by simp [Blk.row, QT]
theorem Qe3 {l : List Blk} {i : Nat} {v : Int} : (l.map Blk.row).set i (QT ((l.map Blk.row).getD i []) 1 [.int .i64 v]) = (l.set i { l.getD i default with y0 := v }).map Blk.row :=
  JR (α := Blk) (f := Blk.row) (fun s => { s with y0 := v }) fun x => by simp [Blk.row, QT]
theorem Qe4 {l : List Blk} {i : Nat} {v : Int} : (l.map Blk.row).set i (QT ((l.map Blk.row).getD i []) 2 [.int .i64 v]) = (l.set i { l.getD i default with x1 := v }).map Blk.row :=
  JR (α := Blk) (f := Blk.row) (fun s => { s with x1 := v }) fun x => by simp [Blk.row, QT]
theorem Qe5 {l : List Blk} {i : Nat} {v : Int} : (l.map Blk.row).set i (QT ((l.map Blk.row).getD i []) 3 [.int .i64 v]) = (l.set i { l.getD i default with y1 := v }).map Blk.row :=
  JR (α := Blk) (f := Blk.row) (fun s => { s with y1 := v }) fun x => by simp [Blk.row, QT]
theorem Qe6 {l : List Blk} {i : Nat} {v : Int} : (l.map Blk.row).set i (QT ((l.map Blk.row).getD i []) 4 [.int .i64 v]) = (l.set i { l.getD i default with lo := v }).map Blk.row :=
  JR (α := Blk) (f := Blk.row) (fun s => { s with lo := v }) fun x => by simp [Blk.row, QT]
theorem Qe7 {l : List Blk} {i : Nat} {v : Int} : (l.map Blk.row).set i (QT ((l.map Blk.row).getD i []) 5 [.int .i64 v]) = (l.set i { l.getD i default with hi := v }).map Blk.row :=
  JR (α := Blk) (f := Blk.row) (fun s => { s with hi := v }) fun x => by simp [Blk.row, QT]
set_option maxHeartbeats 1000000 in
theorem QmQ (v : Nat) (k : Int) (a : List Blk) (ha : a.length ≤ 1048577) (hk : 0 ≤ k ∧ k ≤ 1125899906842624) : Contract P 80 [.own 3 v 0 a.length, .int .i64 k] [(3, .arr 122 v 6 (a.map Blk.row))] (.int .i64 (k + 6 * a.length)) [(3, .arr 122 v 6 ((QfX k a.length).map Blk.row))] := by
  have hz : ((0 : Nat) : Int) = 0 := rfl
  have gs : True := trivial
  refine Qt (Env.nil P) hm Qac (Nat.le_of_ble_eq_true rfl) rfl ?_; unfold XL; simp (config := { maxSteps := 2000000 }) only [bitvec_to_nat, reduceIte, Nat.reduceEqDiff, Nat.reduceAdd, Nat.reduceLeDiff, reduceCtorEq, Nat.reduceBEq, Nat.reduceLT, Nat.reduceMod, List.forall_mem_cons, Qv, QE, Qu, Q9, keepB, QF, Jc, Qe2, Qe3, Qe4, Qe5, Qe6, Qe7, List.set_set, gs, Blk.row, QX, QH, Int.toNat_natCast, List.length_map, List.length_set, Nat.sub_zero, Nat.zero_add, hz]
  refine QV (fun b : Nat × List Blk => [(1, .int .i64 (k + 6 * b.1)), (5, .int .i64 b.1)]) (fun b => [(3, .arr 122 v 6 (b.2.map Blk.row))]) (fun b => b.2.length = a.length ∧ b.1 ≤ a.length ∧ ∀ j, j < b.1 → b.2.getD j default = QlR (k + 6 * (j : Int))) (fun b => a.length - b.1) (0, a) ?_ ⟨rfl, Nat.zero_le _, fun j hj => absurd hj (Nat.not_lt_zero _)⟩ ?_
  · have e0 : k + 6 * ((0 : Nat) : Int) = k := by omega
    simp only [e0]
    simp only [JX, JY, JZ, J0, Qw, Qx, Qy, Qz, reduceIte, Nat.reduceEqDiff]; exact ⟨by repeat' (first | exact trivial | refine ⟨.inr rfl, ?_⟩), by repeat' (first | exact trivial | refine ⟨rfl, ?_⟩), by first | rfl | simp [closedB, Qr, Qg, Qi, dom, Qe, *], by first | rfl | simp [keepB, dom]⟩
  rintro ⟨i, l⟩ ⟨h1, h2, h3⟩ NX hN
  simp only at h1 h2 h3
  have gs : i < a.length → ∀ x : Blk, (l.set i x).getD i default = x := fun h x => J3 (by omega)
  by_cases hi : i < a.length
  · have gs := gs hi
    have e5 : k + 6 * ((i + 1 : Nat) : Int) = k + 6 * (i : Int) + 1 + 1 + 1 + 1 + 1 + 1 := by omega
    unfold K5; simp (config := { maxSteps := 2000000 }) only [bitvec_to_nat, reduceIte, Nat.reduceEqDiff, Nat.reduceAdd, Nat.reduceLeDiff, reduceCtorEq, Nat.reduceBEq, Nat.reduceLT, Nat.reduceMod, List.forall_mem_cons, Qv, QE, Qu, Q9, keepB, QF, Jc, Qe2, Qe3, Qe4, Qe5, Qe6, Qe7, List.set_set, gs, Blk.row, QX, QH, Int.toNat_natCast, List.length_map, List.length_set, Nat.sub_zero, Nat.zero_add, hz]
    repeat' (first | with_reducible apply And.intro | with_reducible intro _)
    all_goals first
      | omega
      | (refine hN (i + 1, l.set i (QlR (k + 6 * (i : Int)))) _ (by simp only [e5]; simp only [JX, JY, JZ, J0, Qw, Qx, Qy, Qz, reduceIte, Nat.reduceEqDiff]; exact ⟨by repeat' (first | exact trivial | refine ⟨.inr rfl, ?_⟩), by repeat' (first | exact trivial | refine ⟨rfl, ?_⟩), by first | rfl | simp [closedB, Qr, Qg, Qi, dom, Qe, *], by first | rfl | simp [keepB, dom]⟩) ⟨by simp only [List.length_set]; exact h1, hi, fun j hj => ?_⟩ (by simp only; omega)
         simp only at hj ⊢
         by_cases e : j = i
         · subst e; exact J3 (by omega)
         · rw [Kj (Ne.symm e)]; exact h3 j (by omega))
      | (exfalso; omega)
  · have hl : l = QfX k a.length := XR (by rw [QmO]; exact h1) fun j hj => by rw [QmP (by omega)]; exact h3 j (by omega)
    have hi' : ¬ (i : Int) < a.length := by omega
    unfold K5; simp (config := { maxSteps := 2000000 }) only [bitvec_to_nat, reduceIte, Nat.reduceEqDiff, Nat.reduceAdd, Nat.reduceLeDiff, reduceCtorEq, Nat.reduceBEq, Nat.reduceLT, Nat.reduceMod, List.forall_mem_cons, Qv, QE, Qu, Q9, keepB, QF, Jc, Qe2, Qe3, Qe4, Qe5, Qe6, Qe7, List.set_set, gs, Blk.row, QX, QH, Int.toNat_natCast, List.length_map, List.length_set, Nat.sub_zero, Nat.zero_add, hz, hi']
    refine ⟨by omega, ?_⟩
    rw [hl]
theorem QmR (v : Nat) (k : Int) (a : List Blk) (ha : a.length ≤ 1048577) (hk : 0 ≤ k ∧ k ≤ 1125899906842624) : Contract P 80 [.own 3 v 0 a.length, .int .i64 k] [(3, .arr 122 v 6 (a.map Blk.row))] (.int .i64 (k + 6 * a.length)) [(3, .gone)] :=
  (QmQ v k a ha hk).gone rfl
def Qrv (k : Int) : Rw := ⟨mtx (k), k + 1, k + 1 + 1, k + 1 + 1 + 1⟩
def QmS (k : Int) (n : Nat) : List Rw := (List.range n).map fun j : Nat => Qrv (k + 4 * (j : Int))
theorem QoR {k : Int} {n : Nat} : (QmS k n).length = n := by simp [QmS]
theorem QoS {k : Int} {n j : Nat} (h : j < n) : (QmS k n).getD j default = Qrv (k + 4 * (j : Int)) := by simp [QmS, h]
theorem QhG {l : List Rw} {i : Nat} {v : ByteArray} : (l.map Rw.row).set i (QT ((l.map Rw.row).getD i []) 0 [.str v]) = (l.set i { l.getD i default with nm := v }).map Rw.row :=
  JR (α := Rw) (f := Rw.row) (fun s => { s with nm := v }) fun x => by simp [Rw.row, QT]
theorem QhH {l : List Rw} {i : Nat} {v : Int} : (l.map Rw.row).set i (QT ((l.map Rw.row).getD i []) 1 [.int .i64 v]) = (l.set i { l.getD i default with x := v }).map Rw.row :=
  JR (α := Rw) (f := Rw.row) (fun s => { s with x := v }) fun x => by simp [Rw.row, QT]
theorem QhI {l : List Rw} {i : Nat} {v : Int} : (l.map Rw.row).set i (QT ((l.map Rw.row).getD i []) 2 [.int .i64 v]) = (l.set i { l.getD i default with y := v }).map Rw.row :=
  JR (α := Rw) (f := Rw.row) (fun s => { s with y := v }) fun x => by simp [Rw.row, QT]
theorem QhJ {l : List Rw} {i : Nat} {v : Int} : (l.map Rw.row).set i (QT ((l.map Rw.row).getD i []) 3 [.int .i64 v]) = (l.set i { l.getD i default with tn := v }).map Rw.row :=
  JR (α := Rw) (f := Rw.row) (fun s => { s with tn := v }) fun x => by simp [Rw.row, QT]
set_option maxHeartbeats 1000000 in
theorem QoT (v : Nat) (k : Int) (a : List Rw) (ha : a.length ≤ 1048577) (hk : 0 ≤ k ∧ k ≤ 1125899906842624) : Contract P 37 [.own 3 v 0 a.length, .int .i64 k] [(3, .arr 114 v 4 (a.map Rw.row))] (.int .i64 (k + 4 * a.length)) [(3, .arr 114 v 4 ((QmS k a.length).map Rw.row))] := by
  have hz : ((0 : Nat) : Int) = 0 := rfl
  have gs : True := trivial
  refine Qt ((Env.nil P).add 78 Q0 Ys) hm Wp (Nat.le_of_ble_eq_true rfl) rfl ?_; unfold Xn; simp (config := { maxSteps := 2000000 }) only [bitvec_to_nat, reduceIte, Nat.reduceEqDiff, Nat.reduceAdd, Nat.reduceLeDiff, reduceCtorEq, Nat.reduceBEq, Nat.reduceLT, Nat.reduceMod, List.forall_mem_cons, Qv, QE, Qu, Q9, keepB, QF, Jc, Q0, QhG, QhH, QhI, QhJ, List.set_set, gs, Rw.row, QX, QH, Int.toNat_natCast, List.length_map, List.length_set, Nat.sub_zero, Nat.zero_add, hz]
  refine QV (fun b : Nat × List Rw => [(1, .int .i64 (k + 4 * b.1)), (5, .int .i64 b.1)]) (fun b => [(3, .arr 114 v 4 (b.2.map Rw.row))]) (fun b => b.2.length = a.length ∧ b.1 ≤ a.length ∧ ∀ j, j < b.1 → b.2.getD j default = Qrv (k + 4 * (j : Int))) (fun b => a.length - b.1) (0, a) ?_ ⟨rfl, Nat.zero_le _, fun j hj => absurd hj (Nat.not_lt_zero _)⟩ ?_
  · have e0 : k + 4 * ((0 : Nat) : Int) = k := by omega
    simp only [e0]
    simp only [JX, JY, JZ, J0, Qw, Qx, Qy, Qz, reduceIte, Nat.reduceEqDiff]; exact ⟨by repeat' (first | exact trivial | refine ⟨.inr rfl, ?_⟩), by repeat' (first | exact trivial | refine ⟨rfl, ?_⟩), by first | rfl | simp [closedB, Qr, Qg, Qi, dom, Qe, *], by first | rfl | simp [keepB, dom]⟩
  rintro ⟨i, l⟩ ⟨h1, h2, h3⟩ NX hN
  simp only at h1 h2 h3
  have gs : i < a.length → ∀ x : Rw, (l.set i x).getD i default = x := fun h x => J3 (by omega)
  by_cases hi : i < a.length
  · have gs := gs hi
    have e5 : k + 4 * ((i + 1 : Nat) : Int) = k + 4 * (i : Int) + 1 + 1 + 1 + 1 := by omega
    unfold KY; simp (config := { maxSteps := 2000000 }) only [bitvec_to_nat, reduceIte, Nat.reduceEqDiff, Nat.reduceAdd, Nat.reduceLeDiff, reduceCtorEq, Nat.reduceBEq, Nat.reduceLT, Nat.reduceMod, List.forall_mem_cons, Qv, QE, Qu, Q9, keepB, QF, Jc, Q0, QhG, QhH, QhI, QhJ, List.set_set, gs, Rw.row, QX, QH, Int.toNat_natCast, List.length_map, List.length_set, Nat.sub_zero, Nat.zero_add, hz]
    repeat' (first | with_reducible apply And.intro | with_reducible intro _)
    all_goals first
      | omega
      | (refine hN (i + 1, l.set i (Qrv (k + 4 * (i : Int)))) _ (by simp only [e5]; simp only [JX, JY, JZ, J0, Qw, Qx, Qy, Qz, reduceIte, Nat.reduceEqDiff]; exact ⟨by repeat' (first | exact trivial | refine ⟨.inr rfl, ?_⟩), by repeat' (first | exact trivial | refine ⟨rfl, ?_⟩), by first | rfl | simp [closedB, Qr, Qg, Qi, dom, Qe, *], by first | rfl | simp [keepB, dom]⟩) ⟨by simp only [List.length_set]; exact h1, hi, fun j hj => ?_⟩ (by simp only; omega)
         simp only at hj ⊢
         by_cases e : j = i
         · subst e; exact J3 (by omega)
         · rw [Kj (Ne.symm e)]; exact h3 j (by omega))
      | (exfalso; omega)
  · have hl : l = QmS k a.length := XR (by rw [QoR]; exact h1) fun j hj => by rw [QoS (by omega)]; exact h3 j (by omega)
    have hi' : ¬ (i : Int) < a.length := by omega
    unfold KY; simp (config := { maxSteps := 2000000 }) only [bitvec_to_nat, reduceIte, Nat.reduceEqDiff, Nat.reduceAdd, Nat.reduceLeDiff, reduceCtorEq, Nat.reduceBEq, Nat.reduceLT, Nat.reduceMod, List.forall_mem_cons, Qv, QE, Qu, Q9, keepB, QF, Jc, Q0, QhG, QhH, QhI, QhJ, List.set_set, gs, Rw.row, QX, QH, Int.toNat_natCast, List.length_map, List.length_set, Nat.sub_zero, Nat.zero_add, hz, hi']
    refine ⟨by omega, ?_⟩
    rw [hl]
theorem QoU (v : Nat) (k : Int) (a : List Rw) (ha : a.length ≤ 1048577) (hk : 0 ≤ k ∧ k ≤ 1125899906842624) : Contract P 37 [.own 3 v 0 a.length, .int .i64 k] [(3, .arr 114 v 4 (a.map Rw.row))] (.int .i64 (k + 4 * a.length)) [(3, .gone)] :=
  (QoT v k a ha hk).gone rfl
end
end Go.Ve

namespace Go.Ve
noncomputable section
open Go.Proofs
set_option linter.unusedSimpArgs false
set_option linter.unusedVariables false
set_option maxRecDepth 100000
theorem GI {M : List (Nat × AObj)} : keepB M M = true := by
  unfold keepB
  rw [List.all_eq_true]
  intro o ho
  simp only [Bool.or_eq_true]
  right; simpa using ho
theorem QfY {k : Nat} {l : List NRow} {o : Nat} {x : AObj} (hf : VY k l) (ho : o < 1000) : wkM ((o, x) :: QI l) (QI l) := by
  refine Wf hf fun j hj => ?_
  simp only [getM, Jm ho, if_false]
  exact Zg hf hj
theorem QoV {k o e sz : Nat} {y : AObj} {x : List (ByteArray × List (List AV))} (hk : k < 100) (ho : o < 100) : (dom ((o, y) :: QI (Ka k e sz x))).all (decide <| · % 1000 < 100) = true := by
  rw [List.all_eq_true]
  intro q hq
  simp only [dom, List.map_cons, List.mem_cons] at hq
  rcases hq with rfl | hq
  · simp; omega
  · obtain ⟨p, hp, rfl⟩ := List.mem_map.1 hq
    obtain ⟨i, _, rfl⟩ := Yh hp
    simp only [decide_eq_true_eq, Vr (show k < 1000 by omega)]; exact hk
def QcK (l : List NRow) : Prop := ∀ i, i < l.length → (l.getD i default).ob = .gone ∨ ∃ e v sz xs, e < 1000000 ∧ (l.getD i default).ob = .arr e v sz xs
theorem Qkc {l : List NRow} {d : List Nat} (h : QcK l) : ((QI l).all fun p => Qi d p.2) = true := by
  rw [List.all_eq_true]
  intro p hp
  obtain ⟨r, hr, rfl⟩ := List.mem_map.1 hp
  obtain ⟨i, hi, rfl⟩ := List.mem_iff_getElem.1 hr
  have := h i hi
  simp only [List.getD_eq_getElem?_getD, List.getElem?_eq_getElem hi, Option.getD_some] at this
  rcases this with h | ⟨e, v, sz, xs, he, h⟩
  · show Qi d l[i].ob = true; rw [h]; rfl
  · show Qi d l[i].ob = true; rw [h]; simp only [Qi, he, if_true]
theorem Qrw {l : List NRow} {o : Nat} {x : AObj} : ∀ r ∈ l, (dom ((o, x) :: QI l)).contains r.o = true := fun r hr => by
  simp only [dom, List.map_cons, List.contains_cons, Bool.or_eq_true]
  right
  simp only [List.contains_iff_mem, QI, List.map_map, List.mem_map]
  exact ⟨r, hr, rfl⟩
theorem Qci {l : List NRow} {o T : Nat} {y : AObj} (h : QcK l) : (((o, AObj.arr (1000000 + T) 0 2 (l.map NRow.row)) :: QI l).all fun p => Qi (dom ((o, y) :: QI l)) p.2) = true := by
  simp only [List.all_cons, Bool.and_eq_true]
  refine ⟨?_, Qkc h⟩
  simp only [Qi]
  rw [if_neg (by omega)]
  exact YY Qrw
theorem Xr {l : List NRow} {i : Nat} {v : ByteArray} : (l.map NRow.row).set i (QT ((l.map NRow.row).getD i []) 0 [.str v]) = (l.set i { l.getD i default with nm := v }).map NRow.row :=
  JR (α := NRow) (f := NRow.row) (fun s => { s with nm := v }) fun x => by simp [NRow.row, QT]
theorem QlS {k : Nat} {l m : List NRow} (hl : VY k l) (hm : VY k m) (h : l.length = m.length) : (QI l).map (fun p => (p.1, AObj.gone)) = (QI m).map (fun p => (p.1, AObj.gone)) := by
  refine List.ext_getElem (by simp [QI, h]) fun i h1 h2 => ?_
  have h1' : i < l.length := by simpa [QI] using h1
  have h2' : i < m.length := by omega
  have := hl i h1'
  have h3 := hm i h2'
  simp only [List.getD_eq_getElem?_getD, List.getElem?_eq_getElem h1', List.getElem?_eq_getElem h2', Option.getD_some] at this h3
  simp [QI, this, h3]
def Xx (a : List Aw) (i : Nat) : Nat := ((a.take i).map fun x => 1 + x.pts.length).sum
theorem QfZ {a : List Aw} {i : Nat} (h : i < a.length) : Xx a (i + 1) = Xx a i + (1 + (a.getD i default).pts.length) := by
  unfold Xx
  rw [List.take_succ_eq_append_getElem h, List.map_append, List.sum_append]; simp [h]
theorem QhK {a : List Aw} (hs : ∀ x ∈ a, x.small) {i : Nat} (h : i ≤ a.length) : Xx a i ≤ i * 6291457 := by
  induction i with
  | zero => simp [Xx]
  | succ i ih =>
    have h' := ih (by omega)
    have := hs _ (JD (show i < a.length from h))
    unfold Aw.small at this
    rw [QfZ h]; omega
set_option maxHeartbeats 2000000 in
theorem QoW (k : Int) (a : List Aw) (ha : a.length ≤ 1048577) (hs : ∀ x ∈ a, x.small) (hk : 0 ≤ k ∧ k ≤ 35184372088832) : Contract P 35 [.own 3 0 0 a.length, .int .i64 k] ((3, .arr (1000000 + 108) 0 2 ((Ka 7 9 1 (a.map awP)).map NRow.row)) :: QI (Ka 7 9 1 (a.map awP)))
    (.int .i64 (k + Xx a a.length)) (((3, .arr (1000000 + 108) 0 2 ((Ka 7 9 1 (a.map awP)).map NRow.row)) :: QI (Ka 7 9 1 (a.map awP))).map fun p => (p.1, .gone)) := by
  have hz : ((0 : Nat) : Int) = 0 := rfl
  have gs : True := trivial
  have hli : True := trivial
  have hgm : True := trivial
  have hrw : True := trivial
  have hs1 : True := trivial
  suffices hC : ∃ l : List NRow, (VY 7 l ∧ l.length = a.length) ∧ Contract P 35 [.own 3 0 0 a.length, .int .i64 k] ((3, .arr (1000000 + 108) 0 2 ((Ka 7 9 1 (a.map awP)).map NRow.row)) :: QI (Ka 7 9 1 (a.map awP)))
      (.int .i64 (k + Xx a a.length)) ((3, .arr (1000000 + 108) 0 2 (l.map NRow.row)) :: QI l) by
    obtain ⟨l, ⟨h1, h2⟩, h3⟩ := hC
    have h4 := h3.gone rfl
    simp only [List.map_cons] at h4 ⊢
    rw [QlS h1 (KG (k := 7) (e := 9) (sz := 1) (l := a.map awP)) (by rw [Ya, List.length_map]; exact h2)] at h4
    exact h4
  refine Qbi ((Env.nil P).add 78 Q0 Ys) hm Wn (Nat.le_of_ble_eq_true rfl) ?_ (fun l : List NRow => VY 7 l ∧ l.length = a.length) (fun _ => .int .i64 (k + Xx a a.length)) (fun l => (3, .arr (1000000 + 108) 0 2 (l.map NRow.row)) :: QI l) ?_
  · exact QoV (by omega) (by omega)
  unfold Xl
  simp (config := { maxSteps := 2000000 }) only [bitvec_to_nat, reduceIte, Nat.reduceEqDiff, Nat.reduceAdd, Nat.reduceLeDiff, reduceCtorEq, Nat.reduceBEq, Nat.reduceLT, Nat.reduceMod, List.forall_mem_cons, Qv, QE, Qu, Q9, keepB, QF, Jc, Q0, NRow.row, Xr, gs, hli, hgm, hrw, Int.toNat_natCast, List.length_map, List.length_set, Nat.sub_zero, Nat.zero_add, hz, Jm, JK, hs1, List.set_set]
  refine Xo (fun b : Nat × List NRow => ⟨[(0, .own 3 0 0 a.length), (1, .int .i64 (k + Xx a b.1)), (5, .int .i64 b.1)], (3, .arr (1000000 + 108) 0 2 (b.2.map NRow.row)) :: QI b.2⟩)
    (fun b => b.1 ≤ a.length ∧ b.2.length = a.length ∧ VY 7 b.2 ∧ QcK b.2 ∧ ∀ j, b.1 ≤ j → j < a.length → b.2.getD j default = ⟨(a.getD j default).nm, (a.getD j default).pts.length, fam 7 j, .arr 9 0 1 ((a.getD j default).pts.map QH)⟩)
    (fun b => a.length - b.1) (0, Ka 7 9 1 (a.map awP)) ?_ ⟨Nat.zero_le _, by rw [Ya, List.length_map], KG, fun i hi => ?_, fun j _ hj => ?_⟩ ?_
  · have e0 : k + ((Xx a 0 : Nat) : Int) = k := by simp [Xx]
    simp only [e0]
    refine ⟨by repeat' (first | exact trivial | refine ⟨.inr rfl, ?_⟩), ⟨rfl, QfY KG (by omega)⟩, ?_, GI⟩
    simp only [closedB, List.all_cons, Bool.and_eq_true]
    exact ⟨⟨by simp [Qr, dom], rfl, rfl, rfl⟩, by simpa only [List.all_cons, Bool.and_eq_true] using W5 (k := 7) (o := 3) (e := 9) (sz := 1) (x := a.map awP) (T := 108) (y := .arr (1000000 + 108) 0 2 ((Ka 7 9 1 (a.map awP)).map NRow.row)) (by omega)⟩
  · have hi' : i < a.length := by simpa [Ya] using hi
    rw [ZP (by simpa using hi')]
    exact .inr ⟨_, _, _, _, by omega, rfl⟩
  · rw [ZP (by simpa using hj)]
    simp [awP, hj]
  rintro ⟨i, l⟩ ⟨h1, h2, h3, h4, h5⟩ NX hN
  simp only at h1 h2 h3 h4 h5
  have hct := QhK hs h1
  by_cases hi : i < a.length
  · have hli := h5 i (Nat.le_refl _) hi
    have hil : i < l.length := by omega
    have hx := hs _ (JD hi)
    unfold Aw.small at hx
    have hgm : getM (QI l) (fam 7 i) = some (.arr 9 0 1 ((a.getD i default).pts.map QH)) := by rw [Zg h3 hil, hli]
    have gs : ∀ x : NRow, (l.set i x).getD i default = x := fun x => J3 hil
    have e5 : k + ((Xx a (i + 1) : Nat) : Int) = k + (Xx a i : Int) + 1 + ((a.getD i default).pts.length : Int) := by rw [QfZ hi]; omega
    unfold KW; simp (config := { maxSteps := 2000000 }) only [bitvec_to_nat, reduceIte, Nat.reduceEqDiff, Nat.reduceAdd, Nat.reduceLeDiff, reduceCtorEq, Nat.reduceBEq, Nat.reduceLT, Nat.reduceMod, List.forall_mem_cons, Qv, QE, Qu, Q9, keepB, QF, Jc, Q0, NRow.row, Xr, gs, hli, hgm, hrw, Int.toNat_natCast, List.length_map, List.length_set, Nat.sub_zero, Nat.zero_add, hz, Jm, JK, hs1, List.set_set]
    have hM := (Qdl 0 (k + Xx a i + 1) (a.getD i default).pts (by omega) (by omega)).ren (swp 3 (fam 7 i)) (J8 _ _)
    simp only [X7, ren, X8, renO, swp, reduceIte, Nat.reduceLT] at hM
    refine ⟨fun _ => ⟨by omega, by omega, by omega, by omega, hil, _, _, .inl ⟨_, hM, by simp [getM, Jm, hgm], by simp [dom], by simp [dom], by simp [Qg, Qr, dom], by simp [Qi], rfl, by simp [Qi]⟩, ?_⟩, fun h => absurd (by omega) h⟩
    have hs1 : KD (QI l) (fam 7 i) .gone = QI (l.set i ⟨mtx (k + Xx a i), (a.getD i default).pts.length, fam 7 i, .gone⟩) := by
      rw [QgR h3 hil, hli]; simp [QI, List.map_set]
    have hrw : (l.set i ⟨mtx (k + Xx a i), (a.getD i default).pts.length, fam 7 i, .arr 9 0 1 ((a.getD i default).pts.map QH)⟩).map NRow.row = (l.set i ⟨mtx (k + Xx a i), (a.getD i default).pts.length, fam 7 i, .gone⟩).map NRow.row := by
      simp [List.map_set, NRow.row]
    simp (config := { maxSteps := 2000000 }) only [bitvec_to_nat, reduceIte, Nat.reduceEqDiff, Nat.reduceAdd, Nat.reduceLeDiff, reduceCtorEq, Nat.reduceBEq, Nat.reduceLT, Nat.reduceMod, List.forall_mem_cons, Qv, QE, Qu, Q9, keepB, QF, Jc, Q0, NRow.row, Xr, gs, hli, hgm, hrw, Int.toNat_natCast, List.length_map, List.length_set, Nat.sub_zero, Nat.zero_add, hz, Jm, JK, hs1, List.set_set]
    rw [← e5]
    have hf' : VY 7 (l.set i ⟨mtx (k + Xx a i), (a.getD i default).pts.length, fam 7 i, .gone⟩) := fun j hj => by
      by_cases e : j = i
      · subst e; rw [gs]
      · rw [Kj (Ne.symm e)]; exact h3 j (by simpa using hj)
    have ho' : QcK (l.set i ⟨mtx (k + Xx a i), (a.getD i default).pts.length, fam 7 i, .gone⟩) := fun j hj => by
      by_cases e : j = i
      · subst e; rw [gs]; exact .inl rfl
      · rw [Kj (Ne.symm e)]; exact h4 j (by simpa using hj)
    refine ⟨by omega, hN (i + 1, l.set i ⟨mtx (k + Xx a i), (a.getD i default).pts.length, fam 7 i, .gone⟩) _ ⟨by repeat' (first | exact trivial | refine ⟨.inr rfl, ?_⟩), ⟨rfl, QfY hf' (by omega)⟩, ?_, GI⟩ ⟨hi, by rw [List.length_set]; exact h2, hf', ho', fun j h6 h7 => ?_⟩ (by simp only; omega)⟩
    · simp only [closedB, List.all_cons, Bool.and_eq_true]
      exact ⟨⟨by simp [Qr, dom], rfl, rfl, rfl⟩, by simpa only [List.all_cons, Bool.and_eq_true] using Qci (T := 108) (o := 3) (y := .arr (1000000 + 108) 0 2 ((l.set i ⟨mtx (k + Xx a i), (a.getD i default).pts.length, fam 7 i, .gone⟩).map NRow.row)) ho'⟩
    · simp only at h6 ⊢
      rw [Kj (by omega)]; exact h5 j (by omega) h7
  · have hi' : ¬ (i : Int) < a.length := by omega
    have e : i = a.length := by omega
    subst e
    unfold KW; simp (config := { maxSteps := 2000000 }) only [bitvec_to_nat, reduceIte, Nat.reduceEqDiff, Nat.reduceAdd, Nat.reduceLeDiff, reduceCtorEq, Nat.reduceBEq, Nat.reduceLT, Nat.reduceMod, List.forall_mem_cons, Qv, QE, Qu, Q9, keepB, QF, Jc, Q0, NRow.row, Xr, gs, hli, hgm, hrw, Int.toNat_natCast, List.length_map, List.length_set, Nat.sub_zero, Nat.zero_add, hz, Jm, JK, hs1, List.set_set, hi']
    exact ⟨l, ⟨h3, h2⟩, ⟨rfl, QfY h3 (by omega)⟩, Qci (T := 108) (o := 3) (y := .gone) h4, GI (M := (3, .gone) :: QI l)⟩
def Yd (a : List Sec) (i : Nat) : Nat := ((a.take i).map fun x => 1 + 6 * x.bl.length).sum
theorem Qe8 {a : List Sec} {i : Nat} (h : i < a.length) : Yd a (i + 1) = Yd a i + (1 + 6 * (a.getD i default).bl.length) := by
  unfold Yd
  rw [List.take_succ_eq_append_getElem h, List.map_append, List.sum_append]; simp [h]
theorem Qe9 {a : List Sec} (hs : ∀ x ∈ a, x.small) {i : Nat} (h : i ≤ a.length) : Yd a i ≤ i * 6291457 := by
  induction i with
  | zero => simp [Yd]
  | succ i ih =>
    have h' := ih (by omega)
    have := hs _ (JD (show i < a.length from h))
    unfold Sec.small at this
    rw [Qe8 h]; omega
set_option maxHeartbeats 2000000 in
theorem QmT (k : Int) (a : List Sec) (ha : a.length ≤ 1048577) (hs : ∀ x ∈ a, x.small) (hk : 0 ≤ k ∧ k ≤ 35184372088832) : Contract P 36 [.own 3 0 0 a.length, .int .i64 k] ((3, .arr (1000000 + 112) 0 2 ((Ka 7 122 6 (a.map XW)).map NRow.row)) :: QI (Ka 7 122 6 (a.map XW)))
    (.int .i64 (k + Yd a a.length)) (((3, .arr (1000000 + 112) 0 2 ((Ka 7 122 6 (a.map XW)).map NRow.row)) :: QI (Ka 7 122 6 (a.map XW))).map fun p => (p.1, .gone)) := by
  have hz : ((0 : Nat) : Int) = 0 := rfl
  have gs : True := trivial
  have hli : True := trivial
  have hgm : True := trivial
  have hrw : True := trivial
  have hs1 : True := trivial
  suffices hC : ∃ l : List NRow, (VY 7 l ∧ l.length = a.length) ∧ Contract P 36 [.own 3 0 0 a.length, .int .i64 k] ((3, .arr (1000000 + 112) 0 2 ((Ka 7 122 6 (a.map XW)).map NRow.row)) :: QI (Ka 7 122 6 (a.map XW)))
      (.int .i64 (k + Yd a a.length)) ((3, .arr (1000000 + 112) 0 2 (l.map NRow.row)) :: QI l) by
    obtain ⟨l, ⟨h1, h2⟩, h3⟩ := hC
    have h4 := h3.gone rfl
    simp only [List.map_cons] at h4 ⊢
    rw [QlS h1 (KG (k := 7) (e := 122) (sz := 6) (l := a.map XW)) (by rw [Ya, List.length_map]; exact h2)] at h4
    exact h4
  refine Qbi ((Env.nil P).add 78 Q0 Ys) hm Wo (Nat.le_of_ble_eq_true rfl) ?_ (fun l : List NRow => VY 7 l ∧ l.length = a.length) (fun _ => .int .i64 (k + Yd a a.length)) (fun l => (3, .arr (1000000 + 112) 0 2 (l.map NRow.row)) :: QI l) ?_
  · exact QoV (by omega) (by omega)
  unfold Xm
  simp (config := { maxSteps := 2000000 }) only [bitvec_to_nat, reduceIte, Nat.reduceEqDiff, Nat.reduceAdd, Nat.reduceLeDiff, reduceCtorEq, Nat.reduceBEq, Nat.reduceLT, Nat.reduceMod, List.forall_mem_cons, Qv, QE, Qu, Q9, keepB, QF, Jc, Q0, NRow.row, Xr, gs, hli, hgm, hrw, Int.toNat_natCast, List.length_map, List.length_set, Nat.sub_zero, Nat.zero_add, hz, Jm, JK, hs1, List.set_set]
  refine Xo (fun b : Nat × List NRow => ⟨[(0, .own 3 0 0 a.length), (1, .int .i64 (k + Yd a b.1)), (5, .int .i64 b.1)], (3, .arr (1000000 + 112) 0 2 (b.2.map NRow.row)) :: QI b.2⟩)
    (fun b => b.1 ≤ a.length ∧ b.2.length = a.length ∧ VY 7 b.2 ∧ QcK b.2 ∧ ∀ j, b.1 ≤ j → j < a.length → b.2.getD j default = ⟨(a.getD j default).nm, (a.getD j default).bl.length, fam 7 j, .arr 122 0 6 ((a.getD j default).bl.map Blk.row)⟩)
    (fun b => a.length - b.1) (0, Ka 7 122 6 (a.map XW)) ?_ ⟨Nat.zero_le _, by rw [Ya, List.length_map], KG, fun i hi => ?_, fun j _ hj => ?_⟩ ?_
  · have e0 : k + ((Yd a 0 : Nat) : Int) = k := by simp [Yd]
    simp only [e0]
    refine ⟨by repeat' (first | exact trivial | refine ⟨.inr rfl, ?_⟩), ⟨rfl, QfY KG (by omega)⟩, ?_, GI⟩
    simp only [closedB, List.all_cons, Bool.and_eq_true]
    exact ⟨⟨by simp [Qr, dom], rfl, rfl, rfl⟩, by simpa only [List.all_cons, Bool.and_eq_true] using W5 (k := 7) (o := 3) (e := 122) (sz := 6) (x := a.map XW) (T := 112) (y := .arr (1000000 + 112) 0 2 ((Ka 7 122 6 (a.map XW)).map NRow.row)) (by omega)⟩
  · have hi' : i < a.length := by simpa [Ya] using hi
    rw [ZP (by simpa using hi')]
    exact .inr ⟨_, _, _, _, by omega, rfl⟩
  · rw [ZP (by simpa using hj)]
    simp [XW, hj]
  rintro ⟨i, l⟩ ⟨h1, h2, h3, h4, h5⟩ NX hN
  simp only at h1 h2 h3 h4 h5
  have hct := Qe9 hs h1
  by_cases hi : i < a.length
  · have hli := h5 i (Nat.le_refl _) hi
    have hil : i < l.length := by omega
    have hx := hs _ (JD hi)
    unfold Sec.small at hx
    have hgm : getM (QI l) (fam 7 i) = some (.arr 122 0 6 ((a.getD i default).bl.map Blk.row)) := by rw [Zg h3 hil, hli]
    have gs : ∀ x : NRow, (l.set i x).getD i default = x := fun x => J3 hil
    have e5 : k + ((Yd a (i + 1) : Nat) : Int) = k + (Yd a i : Int) + 1 + 6 * ((a.getD i default).bl.length : Int) := by rw [Qe8 hi]; omega
    unfold KX; simp (config := { maxSteps := 2000000 }) only [bitvec_to_nat, reduceIte, Nat.reduceEqDiff, Nat.reduceAdd, Nat.reduceLeDiff, reduceCtorEq, Nat.reduceBEq, Nat.reduceLT, Nat.reduceMod, List.forall_mem_cons, Qv, QE, Qu, Q9, keepB, QF, Jc, Q0, NRow.row, Xr, gs, hli, hgm, hrw, Int.toNat_natCast, List.length_map, List.length_set, Nat.sub_zero, Nat.zero_add, hz, Jm, JK, hs1, List.set_set]
    have hM := (QmR 0 (k + Yd a i + 1) (a.getD i default).bl (by omega) (by omega)).ren (swp 3 (fam 7 i)) (J8 _ _)
    simp only [X7, ren, X8, renO, swp, reduceIte, Nat.reduceLT] at hM
    refine ⟨fun _ => ⟨by omega, by omega, by omega, by omega, hil, _, _, .inl ⟨_, hM, by simp [getM, Jm, hgm], by simp [dom], by simp [dom], by simp [Qg, Qr, dom], by simp [Qi], rfl, by simp [Qi]⟩, ?_⟩, fun h => absurd (by omega) h⟩
    have hs1 : KD (QI l) (fam 7 i) .gone = QI (l.set i ⟨mtx (k + Yd a i), (a.getD i default).bl.length, fam 7 i, .gone⟩) := by
      rw [QgR h3 hil, hli]; simp [QI, List.map_set]
    have hrw : (l.set i ⟨mtx (k + Yd a i), (a.getD i default).bl.length, fam 7 i, .arr 122 0 6 ((a.getD i default).bl.map Blk.row)⟩).map NRow.row = (l.set i ⟨mtx (k + Yd a i), (a.getD i default).bl.length, fam 7 i, .gone⟩).map NRow.row := by
      simp [List.map_set, NRow.row]
    simp (config := { maxSteps := 2000000 }) only [bitvec_to_nat, reduceIte, Nat.reduceEqDiff, Nat.reduceAdd, Nat.reduceLeDiff, reduceCtorEq, Nat.reduceBEq, Nat.reduceLT, Nat.reduceMod, List.forall_mem_cons, Qv, QE, Qu, Q9, keepB, QF, Jc, Q0, NRow.row, Xr, gs, hli, hgm, hrw, Int.toNat_natCast, List.length_map, List.length_set, Nat.sub_zero, Nat.zero_add, hz, Jm, JK, hs1, List.set_set]
    rw [← e5]
    have hf' : VY 7 (l.set i ⟨mtx (k + Yd a i), (a.getD i default).bl.length, fam 7 i, .gone⟩) := fun j hj => by
      by_cases e : j = i
      · subst e; rw [gs]
      · rw [Kj (Ne.symm e)]; exact h3 j (by simpa using hj)
    have ho' : QcK (l.set i ⟨mtx (k + Yd a i), (a.getD i default).bl.length, fam 7 i, .gone⟩) := fun j hj => by
      by_cases e : j = i
      · subst e; rw [gs]; exact .inl rfl
      · rw [Kj (Ne.symm e)]; exact h4 j (by simpa using hj)
    refine ⟨by omega, hN (i + 1, l.set i ⟨mtx (k + Yd a i), (a.getD i default).bl.length, fam 7 i, .gone⟩) _ ⟨by repeat' (first | exact trivial | refine ⟨.inr rfl, ?_⟩), ⟨rfl, QfY hf' (by omega)⟩, ?_, GI⟩ ⟨hi, by rw [List.length_set]; exact h2, hf', ho', fun j h6 h7 => ?_⟩ (by simp only; omega)⟩
    · simp only [closedB, List.all_cons, Bool.and_eq_true]
      exact ⟨⟨by simp [Qr, dom], rfl, rfl, rfl⟩, by simpa only [List.all_cons, Bool.and_eq_true] using Qci (T := 112) (o := 3) (y := .arr (1000000 + 112) 0 2 ((l.set i ⟨mtx (k + Yd a i), (a.getD i default).bl.length, fam 7 i, .gone⟩).map NRow.row)) ho'⟩
    · simp only at h6 ⊢
      rw [Kj (by omega)]; exact h5 j (by omega) h7
  · have hi' : ¬ (i : Int) < a.length := by omega
    have e : i = a.length := by omega
    subst e
    unfold KX; simp (config := { maxSteps := 2000000 }) only [bitvec_to_nat, reduceIte, Nat.reduceEqDiff, Nat.reduceAdd, Nat.reduceLeDiff, reduceCtorEq, Nat.reduceBEq, Nat.reduceLT, Nat.reduceMod, List.forall_mem_cons, Qv, QE, Qu, Q9, keepB, QF, Jc, Q0, NRow.row, Xr, gs, hli, hgm, hrw, Int.toNat_natCast, List.length_map, List.length_set, Nat.sub_zero, Nat.zero_add, hz, Jm, JK, hs1, List.set_set, hi']
    exact ⟨l, ⟨h3, h2⟩, ⟨rfl, QfY h3 (by omega)⟩, Qci (T := 112) (o := 3) (y := .gone) h4, GI (M := (3, .gone) :: QI l)⟩
end
end Go.Ve

namespace Go.Ve
noncomputable section
open Go.Proofs
set_option linter.unusedSimpArgs false
set_option linter.unusedVariables false
set_option maxRecDepth 100000
theorem Qfa {l : List (Nat × AObj)} (h : QiA l) : QiA (gone l) := fun p hp => by
  obtain ⟨q, hq, rfl⟩ := List.mem_map.1 hp
  exact h q hq
theorem QfB {U M : List (Nat × AObj)} {o : Nat} {x : AObj} (h : ∀ p ∈ U, p.1 ≠ o) : Jb ((o, x) :: M) U = (o, x) :: Jb M U := by
  induction U with
  | nil => rfl
  | cons p U ih =>
    show KD (Jb ((o, x) :: M) U) p.1 p.2 = _
    rw [ih fun q hq => h q (by simp [hq])]
    show KD ((o, x) :: Jb M U) p.1 p.2 = (o, x) :: KD (Jb M U) p.1 p.2
    simp only [KD]
    rw [if_neg (h p (by simp))]
theorem Qvc {U B : List (Nat × AObj)} (h : U.Pairwise fun a b => a.1 ≠ b.1) : Jb (U ++ B) (gone U) = gone U ++ B := by
  induction U with
  | nil => rfl
  | cons p U ih =>
    rw [List.pairwise_cons] at h
    obtain ⟨k, x⟩ := p
    show KD (Jb ((k, x) :: (U ++ B)) (gone U)) k .gone = (k, .gone) :: (gone U ++ B)
    rw [QfB, ih h.2]
    · simp [KD]
    · intro q hq e
      obtain ⟨y, hy, rfl⟩ := List.mem_map.1 hq
      exact h.1 y hy e.symm
theorem Qwa {A U B : List (Nat × AObj)} (h : ∀ p ∈ U, getM A p.1 = none) : Jb (A ++ B) U = A ++ Jb B U := by
  induction A with
  | nil => rfl
  | cons p A ih =>
    obtain ⟨k, x⟩ := p
    rw [List.cons_append, QfB, ih]
    · rfl
    · intro p hp
      have := h p hp
      simp only [getM] at this
      split at this
      · cases this
      · exact this
    · intro p hp e
      have := h p hp
      simp [getM, e] at this
theorem QtV (k : Int) (s : Sky) (hs : s.small) (hk : 0 ≤ k ∧ k ≤ 1125899906842624) : Contract P 34 [.own 3 0 0 s.pts.length, .int .i64 k] [(3, .arr 58 0 3 (s.pts.map Pt.row))] (.int .i64 (k + 3 * s.pts.length)) [(3, .gone)] :=
  QoQ 0 k s.pts (by unfold Sky.small at hs; omega) hk
theorem QtW (k : Int) (s : Sky) (hs : s.small) (hk : 0 ≤ k ∧ k ≤ 1125899906842624) : Contract P 37 [.own 6 0 0 s.rws.length, .int .i64 k] [(6, .arr 114 0 4 (s.rws.map Rw.row))] (.int .i64 (k + 4 * s.rws.length)) [(6, .gone)] := by
  have h := (QoU 0 k s.rws (by unfold Sky.small at hs; omega) hk).ren (swp 3 6) (J8 _ _)
  simp only [X7, ren, X8, renO, swp, reduceIte, Nat.reduceLT] at h
  exact h
def Qub (s : Sky) : List (Nat × AObj) := (4, .arr (1000000 + 108) 0 2 ((fA 7 s).map NRow.row)) :: QI (fA 7 s)
def Quc (s : Sky) : List (Nat × AObj) := (5, .arr (1000000 + 112) 0 2 ((fS 8 s).map NRow.row)) :: QI (fS 8 s)
theorem QtX (k : Int) (s : Sky) (hs : s.small) (hk : 0 ≤ k ∧ k ≤ 35184372088832) : Contract P 35 [.own 4 0 0 s.aws.length, .int .i64 k] (Qub s) (.int .i64 (k + Xx s.aws s.aws.length)) (gone (Qub s)) := by
  unfold Sky.small at hs
  have h := (QoW k s.aws (by omega) hs.2.1.2 hk).ren (swp 3 4) (J8 _ _)
  have e : X8 (swp 3 4) ((3, .arr (1000000 + 108) 0 2 ((Ka 7 9 1 (s.aws.map awP)).map NRow.row)) :: QI (Ka 7 9 1 (s.aws.map awP))) = Qub s := by
    simp only [X8, renO, swp, reduceIte, Nat.reduceLT, Nat.reduceAdd]
    rw [Yo, QaD, QdD (by omega) (by omega) (by omega)]; rfl
  rw [show (((3, AObj.arr (1000000 + 108) 0 2 ((Ka 7 9 1 (s.aws.map awP)).map NRow.row)) :: QI (Ka 7 9 1 (s.aws.map awP))).map fun p => (p.1, AObj.gone)) = gone ((3, AObj.arr (1000000 + 108) 0 2 ((Ka 7 9 1 (s.aws.map awP)).map NRow.row)) :: QI (Ka 7 9 1 (s.aws.map awP))) from rfl, Qbq, e] at h
  simpa only [X7, ren, swp, reduceIte] using h
theorem Qrx (k : Int) (s : Sky) (hs : s.small) (hk : 0 ≤ k ∧ k ≤ 35184372088832) : Contract P 36 [.own 5 0 0 s.secs.length, .int .i64 k] (Quc s) (.int .i64 (k + Yd s.secs s.secs.length)) (gone (Quc s)) := by
  unfold Sky.small at hs
  have h := ((QmT k s.secs (by omega) hs.2.2.1.2 hk).ren (swp 3 5) (J8 _ _)).ren (QhQ 7 8) (Zh (by omega) (by omega))
  have e5 : QhQ 7 8 (swp 3 5 3) = 5 := rfl
  have e : X8 (QhQ 7 8) (X8 (swp 3 5) ((3, .arr (1000000 + 112) 0 2 ((Ka 7 122 6 (s.secs.map XW)).map NRow.row)) :: QI (Ka 7 122 6 (s.secs.map XW)))) = Quc s := by
    simp only [X8, renO, e5, reduceIte, Nat.reduceLT, Nat.reduceAdd]
    rw [Yo, Yo, QaD, QaD, QdD (by omega) (by omega) (by omega), Qiz (by omega) (by omega)]; rfl
  rw [show (((3, AObj.arr (1000000 + 112) 0 2 ((Ka 7 122 6 (s.secs.map XW)).map NRow.row)) :: QI (Ka 7 122 6 (s.secs.map XW))).map fun p => (p.1, AObj.gone)) = gone ((3, AObj.arr (1000000 + 112) 0 2 ((Ka 7 122 6 (s.secs.map XW)).map NRow.row)) :: QI (Ka 7 122 6 (s.secs.map XW))) from rfl, Qbq, Qbq, e] at h
  simpa only [X7, ren, e5] using h
theorem gpA {s : Sky} : gone (Qub s) = (4, .gone) :: gone (QI (fA 7 s)) := rfl
theorem gpS {s : Sky} : gone (Quc s) = (5, .gone) :: gone (QI (fS 8 s)) := rfl
theorem Yl {k e sz o : Nat} {x : List (ByteArray × List (List AV))} (ho : o < 1000) : ∀ p ∈ gone (QI (Ka k e sz x)), p.1 ≠ o := fun p hp e9 => by
  have := Qfa (Gs (k := k) (e := e) (sz := sz) (x := x)) p hp
  omega
theorem apA {s : Sky} {x3 x4 x5 x6 : AObj} {B : List (Nat × AObj)} : Jb ((3, x3) :: (4, x4) :: (5, x5) :: (6, x6) :: (QI (fA 7 s) ++ B)) (gone (QI (fA 7 s))) = (3, x3) :: (4, x4) :: (5, x5) :: (6, x6) :: (gone (QI (fA 7 s)) ++ B) := by
  simp only [fA, fS]
  rw [QfB (Yl (by omega)), QfB (Yl (by omega)), QfB (Yl (by omega)), QfB (Yl (by omega)), Qvc QaE]
theorem apS {s : Sky} {x3 x4 x5 x6 : AObj} {B : List (Nat × AObj)} : Jb ((3, x3) :: (4, x4) :: (5, x5) :: (6, x6) :: (gone (QI (fA 7 s)) ++ (QI (fS 8 s) ++ B))) (gone (QI (fS 8 s))) = (3, x3) :: (4, x4) :: (5, x5) :: (6, x6) :: (gone (QI (fA 7 s)) ++ (gone (QI (fS 8 s)) ++ B)) := by
  simp only [fA, fS]
  rw [QfB (Yl (by omega)), QfB (Yl (by omega)), QfB (Yl (by omega)), QfB (Yl (by omega)), Qwa, Qvc QaE]
  intro p hp
  obtain ⟨q, hq, rfl⟩ := List.mem_map.1 hp
  obtain ⟨i, _, rfl⟩ := Yh hq
  rw [Qbp, UM (by omega) (by omega) (by omega)]; rfl
theorem QtY {M M' : List (Nat × AObj)} (h : ∀ p ∈ M, 100 ≤ p.1 % 1000 ∨ p.1 ∈ dom M') : keepB M M' = true := by
  unfold keepB
  rw [List.all_eq_true]
  intro o ho
  obtain ⟨p, hp, rfl⟩ := List.mem_map.1 ho
  rcases h p hp with h | h
  · simp [h]
  · simp [h]
def Qjf (s : Sky) : Nat := 3 * s.pts.length + Xx s.aws s.aws.length + Yd s.secs s.secs.length + 4 * s.rws.length
theorem QtZ {s : Sky} : (dom (Vn s 3 4 5 6 7 8)).all (decide <| · % 1000 < 100) = true := by
  rw [QcJ, List.all_eq_true]
  intro o ho
  simp only [List.mem_cons, List.mem_append, List.mem_map] at ho
  rcases ho with rfl | rfl | rfl | rfl | ⟨r, hr, rfl⟩ | ⟨r, hr, rfl⟩
  · rfl
  · rfl
  · rfl
  · rfl
  · rw [QgS (k := 7) (by omega) hr]; rfl
  · rw [QgS (k := 8) (by omega) hr]; rfl
set_option maxHeartbeats 2000000 in
theorem QoX (k : Int) (s : Sky) (hs : s.small) (hk : 0 ≤ k ∧ k ≤ 1000000) : Contract P 10 [V3 s 3 4 5 6, .int .i64 k] (Vn s 3 4 5 6 7 8) (.int .i64 (k + Qjf s)) (gone (Vn s 3 4 5 6 7 8)) := by
  have hct := QhK hs.2.1.2 (Nat.le_refl _)
  have hct2 := Qe9 hs.2.2.1.2 (Nat.le_refl _)
  have bA : QiA (QI (fA 7 s)) := Gs
  have bS : QiA (QI (fS 8 s)) := Gs
  have bGA := Qfa bA
  have bGS := Qfa bS
  have hm := hs
  unfold Sky.small at hm
  refine Qt (Env.nil P) Go.Ve.hm Qfs (Nat.le_of_ble_eq_true rfl) QtZ ?_; unfold Qak
  simp (config := { maxSteps := 2000000 }) only [bitvec_to_nat, reduceIte, Nat.reduceEqDiff, Nat.reduceAdd, Nat.reduceLeDiff, reduceCtorEq, Nat.reduceBEq, Nat.reduceLT, Nat.reduceMod, List.forall_mem_cons, Qv, QE, Qu, Q9, keepB, QF, Jc, V3, Jm, JK, Nat.sub_zero, Nat.zero_add, gB, gB0, sB, sB0, bA, bS, List.append_assoc, List.cons_append, List.nil_append, List.append_nil, Vn, bGA, bGS, gpA, gpS, apA, apS]
  refine ⟨_, _, UQ (pre := [(3, .arr 58 0 3 (s.pts.map Pt.row))]) (QtV k s hs (by omega)) (by simp [getM]) (by simp [Qg, Qr, dom]) (by simp [Qi]) rfl, ?_⟩
  simp only [gone, List.map_cons, List.map_nil]
  simp (config := { maxSteps := 2000000 }) only [bitvec_to_nat, reduceIte, Nat.reduceEqDiff, Nat.reduceAdd, Nat.reduceLeDiff, reduceCtorEq, Nat.reduceBEq, Nat.reduceLT, Nat.reduceMod, List.forall_mem_cons, Qv, QE, Qu, Q9, keepB, QF, Jc, V3, Jm, JK, Nat.sub_zero, Nat.zero_add, gB, gB0, sB, sB0, bA, bS, List.append_assoc, List.cons_append, List.nil_append, List.append_nil, Vn, bGA, bGS, gpA, gpS, apA, apS]
  refine ⟨_, _, UQ (pre := Qub s) (QtX (k + 3 * s.pts.length) s hs (by omega)) (fun p hp => ?_) (by simp [Qg, Qr, dom, Qub]) (W5 (by omega)) rfl, ?_⟩
  · rcases List.mem_cons.1 hp with rfl | hp
    · simp only [getM, Nat.reduceEqDiff, reduceIte]
    · obtain ⟨i, hi, rfl⟩ := Yh hp
      simp only [getM, Jm, Nat.reduceLT, if_false, JQ, fA, WX hi, Option.some_or]
  simp (config := { maxSteps := 2000000 }) only [bitvec_to_nat, reduceIte, Nat.reduceEqDiff, Nat.reduceAdd, Nat.reduceLeDiff, reduceCtorEq, Nat.reduceBEq, Nat.reduceLT, Nat.reduceMod, List.forall_mem_cons, Qv, QE, Qu, Q9, keepB, QF, Jc, V3, Jm, JK, Nat.sub_zero, Nat.zero_add, gB, gB0, sB, sB0, bA, bS, List.append_assoc, List.cons_append, List.nil_append, List.append_nil, Vn, bGA, bGS, gpA, gpS, apA, apS]
  refine ⟨_, _, UQ (pre := Quc s) (Qrx (k + 3 * s.pts.length + Xx s.aws s.aws.length) s hs (by omega)) (fun p hp => ?_) (by simp [Qg, Qr, dom, Quc]) (W5 (by omega)) rfl, ?_⟩
  · rcases List.mem_cons.1 hp with rfl | hp
    · simp only [getM, Nat.reduceEqDiff, reduceIte]
    · obtain ⟨i, hi, rfl⟩ := Yh hp
      simp only [getM, Jm, Nat.reduceLT, if_false, JQ, Qbp, fA, fS, UM, ne_eq, Nat.reduceEqDiff, not_false_eq_true, Option.map_none, Option.none_or, WX hi, Option.some_or]
  simp (config := { maxSteps := 2000000 }) only [bitvec_to_nat, reduceIte, Nat.reduceEqDiff, Nat.reduceAdd, Nat.reduceLeDiff, reduceCtorEq, Nat.reduceBEq, Nat.reduceLT, Nat.reduceMod, List.forall_mem_cons, Qv, QE, Qu, Q9, keepB, QF, Jc, V3, Jm, JK, Nat.sub_zero, Nat.zero_add, gB, gB0, sB, sB0, bA, bS, List.append_assoc, List.cons_append, List.nil_append, List.append_nil, Vn, bGA, bGS, gpA, gpS, apA, apS]
  refine ⟨_, _, UQ (pre := [(6, .arr 114 0 4 (s.rws.map Rw.row))]) (QtW (k + 3 * s.pts.length + Xx s.aws s.aws.length + Yd s.secs s.secs.length) s hs (by omega)) (by simp [getM]) (by simp [Qg, Qr, dom]) (by simp [Qi]) rfl, ?_⟩
  simp only [gone, List.map_cons, List.map_nil]
  simp (config := { maxSteps := 2000000 }) only [bitvec_to_nat, reduceIte, Nat.reduceEqDiff, Nat.reduceAdd, Nat.reduceLeDiff, reduceCtorEq, Nat.reduceBEq, Nat.reduceLT, Nat.reduceMod, List.forall_mem_cons, Qv, QE, Qu, Q9, keepB, QF, Jc, V3, Jm, JK, Nat.sub_zero, Nat.zero_add, gB, gB0, sB, sB0, bA, bS, List.append_assoc, List.cons_append, List.nil_append, List.append_nil, Vn, bGA, bGS, gpA, gpS, apA, apS]
  refine ⟨by unfold Qjf; omega, ZO fun p hp => ?_, QiC, ?_⟩
  · obtain ⟨q, hq, rfl⟩ := List.mem_map.1 hp
    rcases List.mem_append.1 hq with hq | hq
    · obtain ⟨i, hi, rfl⟩ := Yh hq
      show getM (_ :: _ :: _ :: _ :: (gone _ ++ (gone _ ++ _))) _ = _
      simp only [getM, Jm, Nat.reduceLT, if_false, JQ, Qbp, fA, WX hi, Option.map_some, Option.some_or]
    · obtain ⟨i, hi, rfl⟩ := Yh hq
      show getM (_ :: _ :: _ :: _ :: (gone _ ++ (gone _ ++ _))) _ = _
      simp only [getM, Jm, Nat.reduceLT, if_false, JQ, Qbp, fA, fS, UM, ne_eq, Nat.reduceEqDiff, not_false_eq_true, Option.map_none, Option.none_or, WX hi, Option.map_some, Option.some_or]
  · refine QtY (M := (3, .gone) :: (4, .gone) :: (5, .gone) :: (6, .gone) :: (gone (QI (fA 7 s)) ++ (gone (QI (fS 8 s)) ++ [(102, _)]))) (M' := (3, .gone) :: (4, .gone) :: (5, .gone) :: (6, .gone) :: gone (QI (fA 7 s) ++ QI (fS 8 s))) fun p hp => ?_
    simp only [List.mem_cons, List.mem_append, List.not_mem_nil, or_false] at hp
    simp only [dom, List.map_cons, List.mem_cons, List.mem_map, Qqv, List.mem_append]
    rcases hp with rfl | rfl | rfl | rfl | hp | hp | rfl
    · exact .inr (.inl rfl)
    · exact .inr (.inr (.inl rfl))
    · exact .inr (.inr (.inr (.inl rfl)))
    · exact .inr (.inr (.inr (.inr (.inl rfl))))
    · exact .inr (.inr (.inr (.inr (.inr ⟨p, .inl hp, rfl⟩))))
    · exact .inr (.inr (.inr (.inr (.inr ⟨p, .inr hp, rfl⟩))))
    · exact .inl (by simp)
end
end Go.Ve

namespace Go.Ve
noncomputable section
open Go.Proofs
set_option linter.unusedSimpArgs false
set_option linter.unusedVariables false
set_option maxRecDepth 100000
theorem QlT {M K : Nat → Option AObj} {s : Sky} {a b c d kA kS : Nat} (hM : ∀ p ∈ Vn s a b c d kA kS, M p.1 = some p.2) (hK : ∀ p ∈ Vn s a b c d kA kS, K p.1 = some p.2) : Wa M K (V3 s a b c d) = some (.agg (s.row 99)) := by
  have h1 := hM _ (show (a, AObj.arr 58 0 3 (s.pts.map Pt.row)) ∈ Vn s a b c d kA kS from by simp [Vn])
  have h2 := hM _ (show (b, AObj.arr (1000000 + 108) 0 2 ((fA kA s).map NRow.row)) ∈ Vn s a b c d kA kS from by simp [Vn])
  have h3 := hM _ (show (c, AObj.arr (1000000 + 112) 0 2 ((fS kS s).map NRow.row)) ∈ Vn s a b c d kA kS from by simp [Vn])
  have h4 := hM _ (show (d, AObj.arr 114 0 4 (s.rws.map Rw.row)) ∈ Vn s a b c d kA kS from by simp [Vn])
  simp only at h1 h2 h3 h4
  have hA := QfQ K (k := kA) (e := 9) (sz := 1) (by omega) (x := s.aws.map awP) fun p hp => hK p (by simp only [Vn, List.mem_cons, List.mem_append]; exact .inr (.inr (.inr (.inr (.inl hp)))))
  have hS := QfQ K (k := kS) (e := 122) (sz := 6) (by omega) (x := s.secs.map XW) fun p hp => hK p (by simp only [Vn, List.mem_cons, List.mem_append]; exact .inr (.inr (.inr (.inr (.inr hp)))))
  have t1 : (s.pts.map Pt.row).take s.pts.length = s.pts.map Pt.row := List.take_of_length_le (by simp)
  have t2 : ((fA kA s).map NRow.row).take s.aws.length = (fA kA s).map NRow.row := List.take_of_length_le (by simp [fA, Ya])
  have t3 : ((fS kS s).map NRow.row).take s.secs.length = (fS kS s).map NRow.row := List.take_of_length_le (by simp [fS, Ya])
  have t4 : (s.rws.map Rw.row).take s.rws.length = s.rws.map Rw.row := List.take_of_length_le (by simp)
  have f1 : W9 K (s.pts.map Pt.row) = some (s.pts.map Pt.row) := WY K fun r hr => by obtain ⟨x, _, rfl⟩ := List.mem_map.1 hr; rfl
  have f4 : W9 K (s.rws.map Rw.row) = some (s.rws.map Rw.row) := WY K fun r hr => by obtain ⟨x, _, rfl⟩ := List.mem_map.1 hr; rfl
  simp only [fA, fS] at t2 t3 h2 h3
  simp only [List.map_map] at hA hS
  simp only [V3, Wa, UE, h1, h2, h3, h4, if_true, List.drop_zero, t1, t2, t3, t4, f1, f4, fA, fS, hA, hS, Option.map_some, Sky.row]
  rfl
theorem QoY (t : Nat) (s : Sky) : tag0 (.agg (s.row t)) = .agg (s.row 0) := by
  simp only [Sky.row, tag0, Y7]
  rw [WZ (f := Pt.row) (fun _ => rfl), WZ (f := Rw.row) (fun _ => rfl), QgV (f := Aw.row) (fun x => by simp only [Aw.row, Y7, tag0]; rw [WZ (f := QH) fun _ => rfl]), QgV (f := Sec.row) (fun x => by simp only [Sec.row, Y7, tag0]; rw [WZ (f := Blk.row) fun _ => rfl])]
theorem QhL (t : Nat) (ht : t ≠ 98) (s : Sky) : QiB (.agg (s.row t)) = true := by
  simp only [Sky.row, QiB, Zi]
  rw [Gu (f := Pt.row) (fun _ => rfl), Gu (f := Rw.row) (fun _ => rfl), Gu (f := Aw.row t) (fun x => by simp only [Aw.row, Zi, QiB]; rw [Gu (f := QH) fun _ => rfl]; simp [ht]), Gu (f := Sec.row t) (fun x => by simp only [Sec.row, Zi, QiB]; rw [Gu (f := Blk.row) fun _ => rfl]; simp [ht])]
  simp [ht]
end
end Go.Ve

namespace Go.Ve
noncomputable section
open Go.Proofs
set_option linter.unusedSimpArgs false
set_option linter.unusedVariables false
set_option maxRecDepth 100000
theorem W6 {s : Sky} {a b c d kA kS kA' kS' : Nat} {σ : Nat → Nat} (hA : ∀ i, σ (fam kA i) = fam kA' i) (hS : ∀ i, σ (fam kS i) = fam kS' i) : X8 σ (Vn s a b c d kA kS) = Vn s (σ a) (σ b) (σ c) (σ d) kA' kS' := by
  have eA : (fA kA s).map (NRow.ren σ) = fA kA' s := by
    refine List.ext_getElem (by simp [fA, Ka]) fun i h1 h2 => ?_
    simp [fA, Ka, NRow.ren, hA, renO]
  have eS : (fS kS s).map (NRow.ren σ) = fS kS' s := by
    refine List.ext_getElem (by simp [fS, Ka]) fun i h1 h2 => ?_
    simp [fS, Ka, NRow.ren, hS, renO]
  simp only [Vn, X8, renO, QgT, Yo, eA, eS, QaD]
  rfl
theorem Qry {s : Sky} {a b c d : Nat} {σ : Nat → Nat} : ren σ (V3 s a b c d) = V3 s (σ a) (σ b) (σ c) (σ d) := by simp only [V3, ren, X7]
/-- The sky that the law holds. -/
abbrev K0 (s : Sky) : List (Nat × AObj) := Vn s 611 613 614 612 107 108
theorem QoZ (s : Sky) : ∀ p ∈ K0 s, p.1 = 611 ∨ p.1 = 613 ∨ p.1 = 614 ∨ p.1 = 612 ∨ 1000 ≤ p.1 := by
  intro p hp
  simp only [K0, Vn, List.mem_cons, List.mem_append] at hp
  rcases hp with rfl | rfl | rfl | rfl | hp | hp
  · simp
  · simp
  · simp
  · simp
  · exact .inr (.inr (.inr (.inr (Gs p hp))))
  · exact .inr (.inr (.inr (.inr (Gs p hp))))
theorem Qvd (s : Sky) : (K0 s).Pairwise fun a b => a.1 ≠ b.1 := by
  have big : ∀ p ∈ QI (fA 107 s) ++ QI (fS 108 s), 1000 ≤ p.1 := fun p hp => (List.mem_append.1 hp).elim (Gs p) (Gs p)
  simp only [K0, Vn, List.pairwise_cons, List.mem_cons]
  refine ⟨?_, ?_, ?_, ?_, ?_⟩
  · rintro p (rfl | rfl | rfl | hp)
    · simp
    · simp
    · simp
    · have := big p hp; (try simp only); omega
  · rintro p (rfl | rfl | hp)
    · simp
    · simp
    · have := big p hp; (try simp only); omega
  · rintro p (rfl | hp)
    · simp
    · have := big p hp; (try simp only); omega
  · rintro p hp
    have := big p hp; (try simp only); omega
  · rw [List.pairwise_append]
    refine ⟨QaE, QaE, fun p hp q hq e => ?_⟩
    obtain ⟨i, _, rfl⟩ := Yh hp
    obtain ⟨j, _, rfl⟩ := Yh hq
    simp only [fam] at e; omega
theorem Qrz {s : Sky} : Qr (dom (K0 s).reverse) (V3 s 611 613 614 612) = true := by
  rw [QjR, K0, QcJ]; simp [V3, Qr, Qg]
theorem QrA {s : Sky} : ((K0 s).reverse.all fun p => Qi (dom (K0 s).reverse) p.2) = true := by
  rw [List.all_reverse, QjR, K0, QcJ]
  simp only [Vn, List.all_cons, List.all_append, Bool.and_eq_true]
  refine ⟨rfl, ?_, ?_, rfl, Yn (by omega), Yn (by omega)⟩
  · simp only [Qi]
    rw [if_neg (by omega)]
    refine YY fun r hr => ?_
    simp only [List.contains_iff_mem, List.mem_reverse, List.mem_cons, List.mem_append, List.mem_map]
    exact .inr (.inr (.inr (.inr (.inl ⟨r, hr, rfl⟩))))
  · simp only [Qi]
    rw [if_neg (by omega)]
    refine YY fun r hr => ?_
    simp only [List.contains_iff_mem, List.mem_reverse, List.mem_cons, List.mem_append, List.mem_map]
    exact .inr (.inr (.inr (.inr (.inr ⟨r, hr, rfl⟩))))
theorem Qwb {s : Sky} : ∀ p ∈ (K0 s).reverse, VW p.2 := by
  intro p hp
  have hp := List.mem_reverse.1 hp
  simp only [K0, Vn, List.mem_cons, List.mem_append] at hp
  rcases hp with rfl | rfl | rfl | rfl | hp | hp
  · exact Gc _
  · exact Qch _
  · exact Qch _
  · exact Gd _
  · exact Qsd s p _ hp
  · exact QoL s p _ hp
theorem Qt0 {s : Sky} {k : Int} : Qg (dom (K0 s)) [V3 s 611 613 614 612, .int .i64 k] = true := by
  simp only [Qg, Qrs, Qr, Bool.and_self]
theorem Qve (s : Sky) (hs : s.small) : Contract P 6 [.agg (s.row 1)] [] (V3 s 611 613 614 612) (K0 s).reverse :=
  (Qrt s hs).post_eq (funext fun o => QdE (Qvd s) o)
theorem QrB (k : Int) (s : Sky) (hs : s.small) (hk : 0 ≤ k ∧ k ≤ 1000000) : Contract P 10 [V3 s 611 613 614 612, .int .i64 k] (K0 s) (.int .i64 (k + Qjf s)) (gone (K0 s)) := by
  have h := ((((((QoX k s hs hk).ren (swp 3 611) (J8 _ _)).ren (swp 4 613) (J8 _ _)).ren (swp 5 614) (J8 _ _)).ren (swp 6 612) (J8 _ _)).ren (QhQ 7 107) (Zh (by omega) (by omega))).ren (QhQ 8 108) (Zh (by omega) (by omega))
  simp only [Qbq, X7, Qry, ren] at h
  rw [W6 (kA' := 7) (kS' := 8) (fun i => Yg (by omega) (by omega)) (fun i => Yg (by omega) (by omega)),
    W6 (kA' := 7) (kS' := 8) (fun i => Yg (by omega) (by omega)) (fun i => Yg (by omega) (by omega)),
    W6 (kA' := 7) (kS' := 8) (fun i => Yg (by omega) (by omega)) (fun i => Yg (by omega) (by omega)),
    W6 (kA' := 7) (kS' := 8) (fun i => Yg (by omega) (by omega)) (fun i => Yg (by omega) (by omega)),
    W6 (kA' := 107) (kS' := 8) (fun i => Vs (by omega)) (fun i => QnM (by omega) (by omega) (by omega)),
    W6 (kA' := 107) (kS' := 108) (fun i => QnM (by omega) (by omega) (by omega)) (fun i => Vs (by omega))] at h
  exact h
theorem Qvf (s : Sky) (hs : s.small) : Contract P 9 [.agg (s.row 0), .agg (s.row 0)] [] (.bool true) [] := by
  have h := Qtq s s (by have := hs; unfold Sky.small at this; exact ⟨by omega, by omega, by omega, by omega, this.2.1.2, this.2.2.1.2⟩)
  simpa using h
end
end Go.Ve

