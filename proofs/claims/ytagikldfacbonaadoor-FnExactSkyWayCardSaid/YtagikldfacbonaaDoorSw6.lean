/- Part 6 of the proof: laws and contracts of functions, each proved; they are joined in the last part. No conditions beyond those that the theorems state. -/
import Derived.Test.YtagikldfacbonaaDoorProg
import Derived.Test.YtagikldfacbonaaDoorSw5
set_option linter.all false
namespace Go.Ve
noncomputable section
open Go.Proofs
set_option linter.unusedSimpArgs false
set_option linter.unusedVariables false
set_option maxRecDepth 100000
def QdL (l : List Nm) : List AV := [.sl 0 1 (l.map Ko)]
theorem G4 (s : Sky) : (G6 s).length = s.pts.length := List.length_map ..
theorem WC {s : Sky} {i : Nat} (h : i < s.pts.length) : (G6 s).getD i default = (s.pts.getD i default).nm := by simp [G6, h]
theorem Qa0 {α : Type} (F : α → St) (good : α → Prop) (μ : α → Nat) (a0 : α) {body : (XT → St → Prop) → St → Prop} {Q : XT → St → Prop} {st : St}
    (h0 : Wk st (F a0)) (g0 : good a0)
    (step : ∀ a, good a → ∀ NX : St → Prop, (∀ a' st', Wk st' (F a') → good a' → μ a' < μ a → NX st') → body (Qcc NX Q) (F a)) : QeF body Q st :=
  Qlq F good μ a0 h0 g0 fun a ga => step a ga _ fun a' st' h1 h2 h3 => ⟨μ a', _, h1, ⟨a', rfl, h2, rfl⟩, h3⟩
theorem QpT {f : Nat → Nm} {n : Nat} (h : ∀ i, 0 < i → i < n → slt (f (i - 1)) (f i)) : ∀ j i, j < i → i < n → slt (f j) (f i) := by
  intro j i
  induction i with
  | zero => intro h1; omega
  | succ i ih =>
    intro h1 h2
    have q := h (i + 1) (by omega) h2
    rw [Nat.add_sub_cancel] at q
    rcases Nat.lt_or_ge j i with q1 | q1
    · exact QhG (ih q1 (by omega)) q
    · rw [show j = i from by omega]; exact q
theorem Qma {s : Sky} (hv : s.valid) {i j : Nat} (hi : i < s.pts.length) (hj : j < s.pts.length) (e : (s.pts.getD i default).nm = (s.pts.getD j default).nm) : i = j := by
  have hm := QpT (f := fun i => (s.pts.getD i default).nm) (n := s.pts.length) fun i h0 hi => (hv.2.1.2 i hi).2.1 h0
  rcases Nat.lt_trichotomy i j with q | q | q
  · have := hm i j q hj; simp only [e] at this; exact absurd this (Xk _)
  · exact q
  · have := hm j i q hi; simp only [e] at this; exact absurd this (Xk _)
/-- What spec's list of ways keeps to. -/
def WI (s : Sky) (to : Nm) (B : List (List Nm)) : Prop := Qrj (V4 s) (G6 s) to B ∧ ∀ i, i < s.pts.length → (B.getD i []).Nodup
theorem WI.nm {s : Sky} {to : Nm} {B : List (List Nm)} (hv : s.valid) (h : WI s to B) {i : Nat} (hi : i < s.pts.length) : ∀ z ∈ B.getD i [], 0 ≤ Xm s.pts z := fun z hz => by
  have hw := h.1.2 i (by rw [G4]; exact hi) (fun e => by rw [e] at hz; cases hz)
  refine Qfd (Qgh (fun a b h => QaZ hv h) hw ?_ z hz)
  rw [WC hi]
  exact List.mem_map.2 ⟨_, Gi hi, rfl⟩
theorem WI.len {s : Sky} {to : Nm} {B : List (List Nm)} (hv : s.valid) (h : WI s to B) {i : Nat} (hi : i < s.pts.length) : (B.getD i []).length ≤ 16 := by
  have := V9 (h.2 i hi) fun z hz => QcY (h.nm hv hi z hz)
  rw [G4] at this
  exact Nat.le_trans this hv.2.1.1
theorem WI.start {s : Sky} {to : Nm} (hv : s.valid) (ht : 0 ≤ Xm s.pts to) : WI s to ((List.replicate s.pts.length []).set (Xm s.pts to).toNat [to]) ∧ Dn (V4 s) (dS s) (G6 s) to ((List.replicate s.pts.length []).set (Xm s.pts to).toNat [to]) s.pts.length 1 := by
  obtain ⟨p1, p2, p3⟩ := V3 ht
  generalize (Xm s.pts to).toNat = p at p1 p2
  have g1 : ((List.replicate s.pts.length ([] : List Nm)).set p [to]).getD p [] = [to] := by simp [List.getD_eq_getElem?_getD, p1]
  have g2 : ∀ i, i ≠ p → ((List.replicate s.pts.length ([] : List Nm)).set p [to]).getD i [] = [] := fun i hi => by
    rw [List.getD_eq_getElem?_getD, List.getElem?_set_ne (Ne.symm hi), List.getElem?_replicate]; split <;> rfl
  refine ⟨⟨⟨by simp [G4], fun i hi hne => ?_⟩, fun i hi => ?_⟩, fun i hi m hm hl => ?_⟩
  · by_cases e : i = p
    · subst e; rw [g1, WC (by rwa [G4] at hi)]; exact ⟨p2.symm, rfl⟩
    · exact absurd (g2 i e) hne
  · by_cases e : i = p
    · subst e; rw [g1]; simp
    · rw [g2 i e]; simp
  · match m, hm, hl with
    | [], hm, _ => exact hm.1.elim
    | [x], hm, _ =>
      obtain ⟨h1, h2⟩ := hm.1
      rw [WC hi] at h1
      have e : i = p := Qma hv hi p1 (by rw [← h1, h2, p2])
      rw [e, g1, ← h2]
    | x :: y :: t, _, hl => simp at hl
def Qmb (s : Sky) (to : Nm) (B : List (List Nm)) : Prop := Qrj (V4 s) (G6 s) to B ∧ Dn (V4 s) (dS s) (G6 s) to B s.pts.length s.pts.length ∧ ∀ i, i < s.pts.length → (B.getD i []).length ≤ 16
set_option maxHeartbeats 4000000 in
theorem QnP (s : Sky) (to : Nm) (hs : s.small) (hv : s.valid) (ht : 0 ≤ Xm s.pts to) : ∃ B, Qmb s to B ∧ Contract P 72 [.agg (s.row 0), .str to] [] (.sl 0 1 (B.map QdL)) [] := by
  obtain ⟨p1, p2, p3⟩ := V3 ht
  have tkw : True := trivial
  have el_w1 : True := trivial
  have tk1 : ∀ (a : Nm) (l : List Nm), List.take (1 + l.length) ([AV.str a] :: l.map Ko) = (a :: l).map Ko := fun a l => List.take_of_length_le (by simp; omega)
  have hs' := hs
  unfold Sky.small at hs'
  refine Qcg (((((Env.nil P).add 71 Y6 Wy).add 89 ZX QnM).add 90 V6 QpS).add 91 Xz QkK) Go.Ve.hm QfD (Nat.le_of_ble_eq_true rfl) rfl (Qmb s to) (fun B => .sl 0 1 (B.map QdL)) (fun _ => []) ?_
  unfold Qbv
  simp only [Sky.row]
  simp (config := { maxSteps := 2000000 }) only [bitvec_to_nat, reduceIte, Nat.reduceEqDiff, Nat.reduceAdd, Nat.reduceLeDiff, reduceCtorEq, Nat.reduceBEq, Nat.reduceLT, Nat.reduceMod, List.forall_mem_cons, JA, Ky, Jz, YS, keepB, Kz, YY, Y6, ZX, V6, Xz, Qr, Qt, Qa, Yw, Ql, List.take_length, List.length_cons, List.length_nil, Nat.zero_add, Ko, Yx, Yy, YG, Zone.row, Qj, QK, Pt.row, Qs, Jw, Aw.row, Qv, Jx, Blk.row, Qg, Qp, Sec.row, Qh, Qu, Rw.row, Qw, Jy, Qi, Int.toNat_natCast, Nat.sub_zero, List.length_map, QdL, tkw, el_w1, List.append_nil]
  obtain ⟨w0, d0⟩ := WI.start hv ht
  have eS : (List.replicate s.pts.length [AV.sl 0 1 []]).set (Xm s.pts to).toNat (YB ((List.replicate s.pts.length [AV.sl 0 1 []]).getD (Xm s.pts to).toNat []) 0 [AV.sl 0 1 [[AV.str to]]]) = ((List.replicate s.pts.length []).set (Xm s.pts to).toNat [to]).map QdL := by
    rw [List.map_set, List.map_replicate]
    have : (List.replicate s.pts.length [AV.sl 0 1 []]).getD (Xm s.pts to).toNat [] = [AV.sl 0 1 []] := by simp [p1]
    rw [this]
    rfl
  rw [eS]
  refine ⟨⟨by omega, by omega⟩, by omega, ⟨by omega, by omega⟩, ?_⟩
  have hN : ∀ a b, V4 s a b → b ∈ G6 s := fun a b h => QaZ hv h
  have cl : ∀ (E : List (Nat × AV)) (B : List (List Nm)), (E.all fun q => Qx [102, 113] q.2) = true → closedB ⟨E, [(102, .box [.int .i64 s.w, .int .i64 s.h, .int .i64 s.lv, .sl 0 3 (s.pts.map Pt.row), .sl 0 2 (s.aws.map (Aw.row 0)), .sl 0 2 (s.secs.map (Sec.row 0)), .sl 0 4 (s.rws.map Rw.row)]), (113, .arr 39 0 1 ((B).map QdL))]⟩ = true := fun E B hE => by
    simp only [closedB, Bool.and_eq_true]
    exact ⟨hE, by simp [Qb, Qo, Qx]⟩
  refine Qa0 (fun a : Nat × List (List Nm) => ⟨[(2, .ptr 102 0), (5, .own 113 0 0 s.pts.length), (6, .int .i64 (a.1 : Nat))], [(102, .box [.int .i64 s.w, .int .i64 s.h, .int .i64 s.lv, .sl 0 3 (s.pts.map Pt.row), .sl 0 2 (s.aws.map (Aw.row 0)), .sl 0 2 (s.secs.map (Sec.row 0)), .sl 0 4 (s.rws.map Rw.row)]), (113, .arr 39 0 1 ((a.2).map QdL))]⟩) (fun a => a.1 ≤ s.pts.length ∧ WI s to a.2 ∧ Dn (V4 s) (dS s) (G6 s) to a.2 s.pts.length (a.1 + 1)) (fun a => s.pts.length - a.1) (0, (List.replicate s.pts.length []).set (Xm s.pts to).toNat [to]) ?_ ⟨Nat.zero_le _, w0, d0⟩ ?_
  · exact ⟨by repeat' (first | exact trivial | refine ⟨.inr rfl, ?_⟩), ⟨rfl, rfl, trivial⟩, cl _ _ (by simp [Qx]), by simp [keepB, dom]⟩
  rintro ⟨n, B⟩ ⟨hn, hw, hd⟩ NX hN1
  simp only at hn hw hd ⊢
  have hW := hw
  by_cases hlt : n < s.pts.length
  · unfold Um; simp (config := { maxSteps := 2000000 }) only [bitvec_to_nat, reduceIte, Nat.reduceEqDiff, Nat.reduceAdd, Nat.reduceLeDiff, reduceCtorEq, Nat.reduceBEq, Nat.reduceLT, Nat.reduceMod, List.forall_mem_cons, JA, Ky, Jz, YS, keepB, Kz, YY, Y6, ZX, V6, Xz, Qr, Qt, Qa, Yw, Ql, List.take_length, List.length_cons, List.length_nil, Nat.zero_add, Ko, Yx, Yy, YG, Zone.row, Qj, QK, Pt.row, Qs, Jw, Aw.row, Qv, Jx, Blk.row, Qg, Qp, Sec.row, Qh, Qu, Rw.row, Qw, Jy, Qi, Int.toNat_natCast, Nat.sub_zero, List.length_map, QdL, tkw, el_w1, List.append_nil]
    refine ⟨fun _ => ?_, fun h => absurd (by omega) h⟩
    refine Qa0 (fun a : Nat × List (List Nm) => ⟨[(2, .ptr 102 0), (5, .own 113 0 0 s.pts.length), (6, .int .i64 (n : Nat)), (7, .int .i64 (a.1 : Nat))], [(102, .box [.int .i64 s.w, .int .i64 s.h, .int .i64 s.lv, .sl 0 3 (s.pts.map Pt.row), .sl 0 2 (s.aws.map (Aw.row 0)), .sl 0 2 (s.secs.map (Sec.row 0)), .sl 0 4 (s.rws.map Rw.row)]), (113, .arr 39 0 1 ((a.2).map QdL))]⟩) (fun a => a.1 ≤ s.pts.length ∧ WI s to a.2 ∧ Dn (V4 s) (dS s) (G6 s) to a.2 s.pts.length (n + 1) ∧ Dn (V4 s) (dS s) (G6 s) to a.2 a.1 (n + 2)) (fun a => s.pts.length - a.1) (0, B) ?_ ⟨Nat.zero_le _, hw, hd, fun i hi => absurd hi (by omega)⟩ ?_
    · exact ⟨by repeat' (first | exact trivial | refine ⟨.inr rfl, ?_⟩), ⟨rfl, rfl, trivial⟩, cl _ _ (by simp [Qx]), by simp [keepB, dom]⟩
    clear hW hw hd
    rintro ⟨i, B⟩ ⟨hi, hw, hd, hI⟩ NX2 hN2
    simp only at hi hw hd hI ⊢
    by_cases hil : i < s.pts.length
    · unfold Ul; simp (config := { maxSteps := 2000000 }) only [bitvec_to_nat, reduceIte, Nat.reduceEqDiff, Nat.reduceAdd, Nat.reduceLeDiff, reduceCtorEq, Nat.reduceBEq, Nat.reduceLT, Nat.reduceMod, List.forall_mem_cons, JA, Ky, Jz, YS, keepB, Kz, YY, Y6, ZX, V6, Xz, Qr, Qt, Qa, Yw, Ql, List.take_length, List.length_cons, List.length_nil, Nat.zero_add, Ko, Yx, Yy, YG, Zone.row, Qj, QK, Pt.row, Qs, Jw, Aw.row, Qv, Jx, Blk.row, Qg, Qp, Sec.row, Qh, Qu, Rw.row, Qw, Jy, Qi, Int.toNat_natCast, Nat.sub_zero, List.length_map, QdL, tkw, el_w1, List.append_nil]
      refine ⟨fun _ => ?_, fun h => absurd (by omega) h⟩
      refine Qa0 (fun a : Nat × List (List Nm) => ⟨[(2, .ptr 102 0), (5, .own 113 0 0 s.pts.length), (6, .int .i64 (n : Nat)), (7, .int .i64 (i : Nat)), (8, .int .i64 (a.1 : Nat))], [(102, .box [.int .i64 s.w, .int .i64 s.h, .int .i64 s.lv, .sl 0 3 (s.pts.map Pt.row), .sl 0 2 (s.aws.map (Aw.row 0)), .sl 0 2 (s.secs.map (Sec.row 0)), .sl 0 4 (s.rws.map Rw.row)]), (113, .arr 39 0 1 ((a.2).map QdL))]⟩) (fun a => a.1 ≤ s.pts.length ∧ WI s to a.2 ∧ Dn (V4 s) (dS s) (G6 s) to a.2 s.pts.length (n + 1) ∧ Dn (V4 s) (dS s) (G6 s) to a.2 i (n + 2) ∧ Kn (V4 s) (dS s) (G6 s) to a.2 i a.1 (n + 1)) (fun a => s.pts.length - a.1) (0, B) ?_ ⟨Nat.zero_le _, hw, hd, hI, fun k hk => absurd hk (by omega)⟩ ?_
      · exact ⟨by repeat' (first | exact trivial | refine ⟨.inr rfl, ?_⟩), ⟨rfl, rfl, trivial⟩, cl _ _ (by simp [Qx]), by simp [keepB, dom]⟩
      clear hw hd hI
      rintro ⟨k, B⟩ ⟨hk, hw, hd, hI, hK⟩ NX3 hN3
      simp only at hk hw hd hI hK ⊢
      have hBl : B.length = s.pts.length := by rw [hw.1.1, G4]
      by_cases hkl : k < s.pts.length
      · unfold Uk; simp (config := { maxSteps := 2000000 }) only [bitvec_to_nat, reduceIte, Nat.reduceEqDiff, Nat.reduceAdd, Nat.reduceLeDiff, reduceCtorEq, Nat.reduceBEq, Nat.reduceLT, Nat.reduceMod, List.forall_mem_cons, JA, Ky, Jz, YS, keepB, Kz, YY, Y6, ZX, V6, Xz, Qr, Qt, Qa, Yw, Ql, List.take_length, List.length_cons, List.length_nil, Nat.zero_add, Ko, Yx, Yy, YG, Zone.row, Qj, QK, Pt.row, Qs, Jw, Aw.row, Qv, Jx, Blk.row, Qg, Qp, Sec.row, Qh, Qu, Rw.row, Qw, Jy, Qi, Int.toNat_natCast, Nat.sub_zero, List.length_map, QdL, tkw, el_w1, List.append_nil]
        simp only [show (default : List Nm) = [] from rfl, tk1, Yy]
        have hi' : i < (G6 s).length := by rw [G4]; exact hil
        have hk' : k < (G6 s).length := by rw [G4]; exact hkl
        have hd' : Dn (V4 s) (dS s) (G6 s) to B (G6 s).length (n + 1) := by rw [G4]; exact hd
        have eni := WC hil
        have enk := WC hkl
        have sk : (B.getD k [] = [] ∨ ¬ V4 s (s.pts.getD i default).nm (s.pts.getD k default).nm ∨ (s.pts.getD i default).nm ∈ B.getD k []) → Kn (V4 s) (dS s) (G6 s) to B i (k + 1) (n + 1) := fun h => QlB (QnI s) hi' hk' hd' hK (by rw [eni, enk]; exact h)
        have skN : (B.getD k [] = [] ∨ ¬ V4 s (s.pts.getD i default).nm (s.pts.getD k default).nm ∨ (s.pts.getD i default).nm ∈ B.getD k []) → NX3 ⟨[(2, .ptr 102 0), (5, .own 113 0 0 s.pts.length), (6, .int .i64 (n : Nat)), (7, .int .i64 (i : Nat)), (8, .int .i64 ((k : Nat) + 1))], [(102, .box [.int .i64 s.w, .int .i64 s.h, .int .i64 s.lv, .sl 0 3 (s.pts.map Pt.row), .sl 0 2 (s.aws.map (Aw.row 0)), .sl 0 2 (s.secs.map (Sec.row 0)), .sl 0 4 (s.rws.map Rw.row)]), (113, .arr 39 0 1 ((B).map QdL))]⟩ := fun h =>
          hN3 (k + 1, B) _ ⟨by repeat' (first | exact trivial | refine ⟨.inr rfl, ?_⟩), ⟨rfl, rfl, trivial⟩, cl _ _ (by simp [Qx]), by simp [keepB, dom]⟩ ⟨by simp only; omega, hw, hd, hI, sk h⟩ (by simp only; omega)
        refine ⟨fun _ => ⟨⟨by omega, by omega⟩, by omega, fun h1 => ⟨by omega, skN (.inl (List.length_eq_zero_iff.1 (by omega)))⟩, fun h1 => ⟨by omega, by omega, by omega, by omega, hs, fun h2 => ⟨⟨by omega, by omega⟩, by omega, by omega, by omega, by have := hw.len hv hkl; omega, fun h3 => ⟨by omega, skN (.inr (.inr h3))⟩, fun h3 => ?_⟩, fun h2 => ⟨by omega, skN (.inr (.inl h2))⟩⟩⟩, fun h => absurd (by omega) h⟩
        have hne : B.getD k [] ≠ [] := fun e => h1 (by rw [e]; rfl)
        have hlk := hw.len hv hkl
        have hli := hw.len hv hil
        have eR : ∀ w : List Nm, (B.map QdL).set i (YB ((B.map QdL).getD i []) 0 [AV.sl 0 1 (w.map Ko)]) = (B.set i w).map QdL := fun w => by
          rw [List.map_set]
          have : (B.map QdL).getD i [] = QdL (B.getD i []) := by simp [hBl, hil]
          rw [this]; rfl
        have step := fun B' => Qm8 (d := dS s) (to := to) (B := B) (B' := B') (r := n + 1) (r2 := n + 2) hi' hk' hw.1 hne (by rw [eni, enk]; exact h2) hd' hI hK
        rw [eni, G4] at step
        have nd : ∀ j, j < s.pts.length → ((B.set i ((s.pts.getD i default).nm :: B.getD k [])).getD j []).Nodup := fun j hj => by
          by_cases e : j = i
          · subst e
            rw [show (B.set j ((s.pts.getD j default).nm :: B.getD k [])).getD j [] = (s.pts.getD j default).nm :: B.getD k [] from by simp [List.getD_eq_getElem?_getD, hBl, hil]]
            exact List.nodup_cons.2 ⟨h3, hw.2 k hkl⟩
          · rw [show (B.set i ((s.pts.getD i default).nm :: B.getD k [])).getD j [] = B.getD j [] from by simp [List.getD_eq_getElem?_getD, List.getElem?_set_ne (Ne.symm e)]]
            exact hw.2 j hj
        refine ⟨by omega, by omega, ⟨by omega, by omega⟩, by omega, by omega, ⟨by omega, by omega⟩, by omega, ⟨trivial, hs, hv, fun z hz => ?_, hw.nm hv hil, by omega, by omega⟩, fun h4 => ⟨⟨by omega, by omega⟩, by omega, ?_⟩, fun h4 => ⟨by omega, ?_⟩⟩
        · rcases List.mem_cons.1 hz with rfl | hz
          · exact Qfd (List.mem_map.2 ⟨_, Gi hil, rfl⟩)
          · exact hw.nm hv hkl z hz
        · rw [eR]
          obtain ⟨g1, g2, g3, g4⟩ := step _ (.inl ⟨h4, rfl⟩)
          exact hN3 (k + 1, B.set i ((s.pts.getD i default).nm :: B.getD k [])) _ ⟨by repeat' (first | exact trivial | refine ⟨.inr rfl, ?_⟩), ⟨rfl, rfl, trivial⟩, cl _ _ (by simp [Qx]), by simp [keepB, dom]⟩ ⟨by simp only; omega, ⟨g1, nd⟩, g2, g3, g4⟩ (by simp only; omega)
        · obtain ⟨g1, g2, g3, g4⟩ := step _ (.inr ⟨h4, rfl⟩)
          exact hN3 (k + 1, B) _ ⟨by repeat' (first | exact trivial | refine ⟨.inr rfl, ?_⟩), ⟨rfl, rfl, trivial⟩, cl _ _ (by simp [Qx]), by simp [keepB, dom]⟩ ⟨by simp only; omega, hw, g2, g3, g4⟩ (by simp only; omega)
      · have ek : k = s.pts.length := by omega
        subst ek
        unfold Uk; simp (config := { maxSteps := 2000000 }) only [bitvec_to_nat, reduceIte, Nat.reduceEqDiff, Nat.reduceAdd, Nat.reduceLeDiff, reduceCtorEq, Nat.reduceBEq, Nat.reduceLT, Nat.reduceMod, List.forall_mem_cons, JA, Ky, Jz, YS, keepB, Kz, YY, Y6, ZX, V6, Xz, Qr, Qt, Qa, Yw, Ql, List.take_length, List.length_cons, List.length_nil, Nat.zero_add, Ko, Yx, Yy, YG, Zone.row, Qj, QK, Pt.row, Qs, Jw, Aw.row, Qv, Jx, Blk.row, Qg, Qp, Sec.row, Qh, Qu, Rw.row, Qw, Jy, Qi, Int.toNat_natCast, Nat.sub_zero, List.length_map, QdL, tkw, el_w1, List.append_nil]
        refine ⟨fun h => absurd h (by omega), fun _ => ⟨by omega, ?_⟩⟩
        have hi' : i < (G6 s).length := by rw [G4]; exact hil
        have re := Qo0 (d := dS s) hN hi' (show 1 ≤ n + 1 by omega) (by rw [G4]; exact hd) hI (by rw [G4]; exact hK)
        exact hN2 (i + 1, B) _ ⟨by repeat' (first | exact trivial | refine ⟨.inr rfl, ?_⟩), ⟨rfl, rfl, trivial⟩, cl _ _ (by simp [Qx]), by simp [keepB, dom]⟩ ⟨by simp only; omega, hw, hd, re⟩ (by simp only; omega)
    · have ei : i = s.pts.length := by omega
      subst ei
      unfold Ul; simp (config := { maxSteps := 2000000 }) only [bitvec_to_nat, reduceIte, Nat.reduceEqDiff, Nat.reduceAdd, Nat.reduceLeDiff, reduceCtorEq, Nat.reduceBEq, Nat.reduceLT, Nat.reduceMod, List.forall_mem_cons, JA, Ky, Jz, YS, keepB, Kz, YY, Y6, ZX, V6, Xz, Qr, Qt, Qa, Yw, Ql, List.take_length, List.length_cons, List.length_nil, Nat.zero_add, Ko, Yx, Yy, YG, Zone.row, Qj, QK, Pt.row, Qs, Jw, Aw.row, Qv, Jx, Blk.row, Qg, Qp, Sec.row, Qh, Qu, Rw.row, Qw, Jy, Qi, Int.toNat_natCast, Nat.sub_zero, List.length_map, QdL, tkw, el_w1, List.append_nil]
      refine ⟨fun h => absurd h (by omega), fun _ => ⟨by omega, ?_⟩⟩
      exact hN1 (n + 1, B) _ ⟨by repeat' (first | exact trivial | refine ⟨.inr rfl, ?_⟩), ⟨rfl, rfl, trivial⟩, cl _ _ (by simp [Qx]), by simp [keepB, dom]⟩ ⟨by simp only; omega, hw, hI⟩ (by simp only; omega)
  · have en : n = s.pts.length := by omega
    subst en
    unfold Um; simp (config := { maxSteps := 2000000 }) only [bitvec_to_nat, reduceIte, Nat.reduceEqDiff, Nat.reduceAdd, Nat.reduceLeDiff, reduceCtorEq, Nat.reduceBEq, Nat.reduceLT, Nat.reduceMod, List.forall_mem_cons, JA, Ky, Jz, YS, keepB, Kz, YY, Y6, ZX, V6, Xz, Qr, Qt, Qa, Yw, Ql, List.take_length, List.length_cons, List.length_nil, Nat.zero_add, Ko, Yx, Yy, YG, Zone.row, Qj, QK, Pt.row, Qs, Jw, Aw.row, Qv, Jx, Blk.row, Qg, Qp, Sec.row, Qh, Qu, Rw.row, Qw, Jy, Qi, Int.toNat_natCast, Nat.sub_zero, List.length_map, QdL, tkw, el_w1, List.append_nil]
    refine ⟨fun h => absurd h (by omega), fun _ => ?_⟩
    exact ⟨B, ⟨hw.1, fun i hi m hm hl => hd i hi m hm (by omega), fun i hi => hw.len hv hi⟩, by rw [List.take_of_length_le (by rw [hw.1.1, G4]; omega)]⟩
end
end Go.Ve

namespace Go.Ve
noncomputable section
open Go.Proofs
set_option linter.unusedSimpArgs false
set_option linter.unusedVariables false
set_option maxRecDepth 100000
theorem QpU (a : Nm) : Contract P 96 [.str a] [] (.bool false) [] := by
  refine QP (Env.nil P) hm QcN (Nat.le_of_ble_eq_true rfl) rfl ?_; unfold VO; simp (config := { maxSteps := 2000000 }) only [bitvec_to_nat, reduceIte, Nat.reduceEqDiff, Nat.reduceAdd, Nat.reduceLeDiff, reduceCtorEq, Nat.reduceBEq, Nat.reduceLT, Nat.reduceMod, List.forall_mem_cons, Qr, Qt, Qa, Yw, Ql, List.take_length, List.length_cons, List.length_nil, Nat.zero_add, Ko, Yx, Yy, YG, Zone.row, Qj, QK, Pt.row, Qs, Jw, Aw.row, Qv, Jx, Blk.row, Qg, Qp, Sec.row, Qh, Qu, Rw.row, Qw, Jy, Qi, Int.toNat_natCast, Nat.sub_zero, List.length_map, List.append_nil]
  all_goals first | trivial | simp
def QgR : List AV → Option (Prop × AV)
  | [.str a] => some ((True) ∧ (True), .bool false)
  | _ => none
theorem QpV : ∀ args p v, QgR args = some (p, v) → p → Contract P 96 args [] v [] ∧ noref v = true ∧ No99 v := by
  intro args p v h1 h2
  unfold QgR at h1
  split at h1
  · rename_i a
    cases h1
    obtain ⟨_, HP⟩ := h2
    have := QpU a
    exact ⟨this, rfl, trivial⟩
  · cases h1
def sgn (a b : Nm) : Int := if slt a b then -1 else if slt b a then 1 else 0
theorem Qil {a b : Nm} : sgn a b = 0 ↔ a = b := by
  unfold sgn
  rcases QeJ a b with h | h | h
  · rw [if_pos h]; constructor
    · intro q; omega
    · rintro rfl; exact absurd h (Xk _)
  · subst h; simp [Xk]
  · rw [if_neg (QeI h), if_pos h]; constructor
    · intro q; omega
    · rintro rfl; exact absurd h (Xk _)
theorem Qq8 {a b : Nm} : sgn a b < 0 ↔ slt a b := by
  unfold sgn
  by_cases h : slt a b
  · simp [h]
  · by_cases k : slt b a <;> simp [h, k]
theorem Qq9 (a b : Nm) : Contract P 94 [.str a, .str b] [] (.int .i64 (sgn a b)) [] := by
  refine QP ((Env.nil P).add 96 QgR QpV) hm Qbf (Nat.le_of_ble_eq_true rfl) rfl ?_; unfold UG; simp (config := { maxSteps := 2000000 }) only [bitvec_to_nat, reduceIte, Nat.reduceEqDiff, Nat.reduceAdd, Nat.reduceLeDiff, reduceCtorEq, Nat.reduceBEq, Nat.reduceLT, Nat.reduceMod, List.forall_mem_cons, QgR, Qr, Qt, Qa, Yw, Ql, List.take_length, List.length_cons, List.length_nil, Nat.zero_add, Ko, Yx, Yy, YG, Zone.row, Qj, QK, Pt.row, Qs, Jw, Aw.row, Qv, Jx, Blk.row, Qg, Qp, Sec.row, Qh, Qu, Rw.row, Qw, Jy, Qi, Int.toNat_natCast, Nat.sub_zero, List.length_map, List.append_nil]
  unfold sgn
  repeat' (first | with_reducible apply And.intro | with_reducible intro _)
  all_goals first
    | (simp only [*, if_true, if_false]; done)
    | trace_state
def Qim : List AV → Option (Prop × AV)
  | [.str a, .str b] => some ((True) ∧ (True), .int .i64 (sgn a b))
  | _ => none
theorem Qra : ∀ args p v, Qim args = some (p, v) → p → Contract P 94 args [] v [] ∧ noref v = true ∧ No99 v := by
  intro args p v h1 h2
  unfold Qim at h1
  split at h1
  · rename_i a b
    cases h1
    obtain ⟨_, HP⟩ := h2
    have := Qq9 a b
    exact ⟨this, rfl, trivial⟩
  · cases h1
def Qmc : List Nm → List Nm → Int
  | x :: xs, y :: ys => if sgn x y ≠ 0 then sgn x y else Qmc xs ys
  | _, _ => 0
theorem Qmd : ∀ {a b : List Nm} {i : Nat}, i < a.length → i < b.length → (∀ j, j < i → a.getD j default = b.getD j default) → sgn (a.getD i default) (b.getD i default) ≠ 0 → Qmc a b = sgn (a.getD i default) (b.getD i default)
  | [], _, i, h, _, _, _ => by simp at h
  | _ :: _, [], i, _, h, _, _ => by simp at h
  | x :: a, y :: b, 0, _, _, k, n => by
    simp only [List.getD_cons_zero] at n ⊢
    simp only [Qmc, if_pos n]
  | x :: a, y :: b, i + 1, h, hi, k, n => by
    have e := k 0 (by omega)
    simp only [List.getD_cons_zero] at e
    subst e
    have ih := Qmd (a := a) (b := b) (i := i) (by simpa using h) (by simpa using hi) (fun j hj => by simpa using k (j + 1) (by omega)) (by simpa using n)
    have z : sgn x x = 0 := Qil.2 rfl
    simp only [Qmc, z, ne_eq, not_true_eq_false, if_false, List.getD_cons_succ, ih]
theorem Qin : ∀ a : List Nm, Qmc a a = 0
  | [] => rfl
  | x :: a => by
    have z : sgn x x = 0 := Qil.2 rfl
    simp only [Qmc, z, ne_eq, not_true_eq_false, if_false, Qin a]
theorem Qme : ∀ {a b : List Nm}, a.length = b.length → (Qmc a b < 0 ↔ lx a b)
  | [], [], _ => by simp [Qmc, lx]
  | [], _ :: _, h => by simp at h
  | _ :: _, [], h => by simp at h
  | x :: a, y :: b, h => by
    have ih := Qme (a := a) (b := b) (by simpa using h)
    simp only [Qmc, lx]
    by_cases e : x = y
    · subst e
      have z : sgn x x = 0 := Qil.2 rfl
      simp only [z, ne_eq, not_true_eq_false, if_false, ih, Xk, false_or, true_and]
    · have n : sgn x y ≠ 0 := fun q => e (Qil.1 q)
      rw [if_pos n, Qq8]
      simp only [e, false_and, or_false]
theorem QpW (t t' : Nat) (a b : List Nm) (hl : a.length = b.length) (h : a.length ≤ 1048576) : Contract P 80 [.sl t 1 (a.map Ko), .sl t' 1 (b.map Ko)] [] (.int .i64 (Qmc a b)) [] := by
  refine QP ((Env.nil P).add 94 Qim Qra) hm WR (Nat.le_of_ble_eq_true rfl) rfl ?_; unfold Zq; simp (config := { maxSteps := 2000000 }) only [bitvec_to_nat, reduceIte, Nat.reduceEqDiff, Nat.reduceAdd, Nat.reduceLeDiff, reduceCtorEq, Nat.reduceBEq, Nat.reduceLT, Nat.reduceMod, List.forall_mem_cons, Qim, Qr, Qt, Qa, Yw, Ql, List.take_length, List.length_cons, List.length_nil, Nat.zero_add, Ko, Yx, Yy, YG, Zone.row, Qj, QK, Pt.row, Qs, Jw, Aw.row, Qv, Jx, Blk.row, Qg, Qp, Sec.row, Qh, Qu, Rw.row, Qw, Jy, Qi, Int.toNat_natCast, Nat.sub_zero, List.length_map, List.append_nil]
  refine Yz (fun i : Nat => [(11, .int .i64 i)]) (fun _ => []) (fun i => i ≤ a.length ∧ ∀ j, j < i → a.getD j default = b.getD j default) (fun i => a.length - i) 0 (by simp only [YC, YD, YE, YF, Qc, Qd, Qe, Qf, reduceIte, Nat.reduceEqDiff]; exact ⟨by repeat' (first | exact trivial | refine ⟨.inr rfl, ?_⟩), by repeat' (first | exact trivial | refine ⟨rfl, ?_⟩), by first | rfl | simp [closedB, Qx, Qo, Qb, dom, Qm, *], by first | rfl | simp [keepB, dom]⟩) ⟨Nat.zero_le _, by intro j hj; omega⟩ ?_
  intro i hi NX hN
  unfold X8; simp (config := { maxSteps := 2000000 }) only [bitvec_to_nat, reduceIte, Nat.reduceEqDiff, Nat.reduceAdd, Nat.reduceLeDiff, reduceCtorEq, Nat.reduceBEq, Nat.reduceLT, Nat.reduceMod, List.forall_mem_cons, Qim, Qr, Qt, Qa, Yw, Ql, List.take_length, List.length_cons, List.length_nil, Nat.zero_add, Ko, Yx, Yy, YG, Zone.row, Qj, QK, Pt.row, Qs, Jw, Aw.row, Qv, Jx, Blk.row, Qg, Qp, Sec.row, Qh, Qu, Rw.row, Qw, Jy, Qi, Int.toNat_natCast, Nat.sub_zero, List.length_map, List.append_nil]
  refine ⟨fun q => ⟨by omega, q, fun e => by omega, fun _ => ⟨by omega, by omega, fun e => (Qmd (by omega) (by omega) hi.2 e).symm, fun e => ⟨by omega, ?_⟩⟩⟩, fun q => ⟨fun e => by omega, fun _ => ?_⟩⟩
  · refine hN (i + 1) _ (by simp only [YC, YD, YE, YF, Qc, Qd, Qe, Qf, reduceIte, Nat.reduceEqDiff]; exact ⟨by repeat' (first | exact trivial | refine ⟨.inr rfl, ?_⟩), by repeat' (first | exact trivial | refine ⟨rfl, ?_⟩), by first | rfl | simp [closedB, Qx, Qo, Qb, dom, Qm, *], by first | rfl | simp [keepB, dom]⟩) ?_ ?_
    · refine ⟨by omega, fun j hj => ?_⟩
      rcases Nat.lt_or_ge j i with q2 | q2
      · exact hi.2 j q2
      · rw [show j = i from by omega]; exact Qil.1 e
    · omega
  · rw [Qov hl fun j hj => hi.2 j (by omega), Qin]
def QgS : List AV → Option (Prop × AV)
  | [.sl ut 1 ux, .sl vt 1 vx] => some ((((ux.map unS).map Ko = ux) ∧ ((vx.map unS).map Ko = vx)) ∧ ((ux.map unS).length = (vx.map unS).length ∧ (ux.map unS).length ≤ 1048576), .int .i64 (Qmc (ux.map unS) (vx.map unS)))
  | _ => none
theorem QpX : ∀ args p v, QgS args = some (p, v) → p → Contract P 80 args [] v [] ∧ noref v = true ∧ No99 v := by
  intro args p v h1 h2
  unfold QgS at h1
  split at h1
  · rename_i ut ux vt vx
    cases h1
    obtain ⟨⟨e0, e1⟩, HP⟩ := h2
    have := QpW ut vt (ux.map unS) (vx.map unS) HP.1 HP.2
    exact ⟨by simpa only [e0, e1] using this, rfl, trivial⟩
  · cases h1
def btf (fu : Int) (u : List Nm) (fw : Int) (w : List Nm) : Prop := fu < fw ∨ (fu = fw ∧ (u.length < w.length ∨ (u.length = w.length ∧ lx u w)))
noncomputable instance (fu : Int) (u : List Nm) (fw : Int) (w : List Nm) : Decidable (btf fu u fw w) := Classical.propDecidable _
theorem QnQ (t t' : Nat) (fu fw : Int) (u w : List Nm) (hu : u.length ≤ 1048576) (hw : w.length ≤ 1048576) : Contract P 60 [.agg [.int .i64 fu, .sl t 1 (u.map Ko)], .agg [.int .i64 fw, .sl t' 1 (w.map Ko)]] [] (.bool (decide (btf fu u fw w))) [] := by
  refine QP ((Env.nil P).add 80 QgS QpX) hm Qbd (Nat.le_of_ble_eq_true rfl) rfl ?_; unfold Uv; simp (config := { maxSteps := 2000000 }) only [bitvec_to_nat, reduceIte, Nat.reduceEqDiff, Nat.reduceAdd, Nat.reduceLeDiff, reduceCtorEq, Nat.reduceBEq, Nat.reduceLT, Nat.reduceMod, List.forall_mem_cons, QgS, Qr, Qt, Qa, Yw, Ql, List.take_length, List.length_cons, List.length_nil, Nat.zero_add, Ko, Yx, Yy, YG, Zone.row, Qj, QK, Pt.row, Qs, Jw, Aw.row, Qv, Jx, Blk.row, Qg, Qp, Sec.row, Qh, Qu, Rw.row, Qw, Jy, Qi, Int.toNat_natCast, Nat.sub_zero, List.length_map, List.append_nil]
  simp only [decide_eq_decide]
  refine ⟨fun h => ?_, fun h => ⟨fun h2 => ?_, fun h2 => ⟨⟨by omega, hu⟩, ?_⟩⟩⟩
  · unfold btf; exact ⟨.inl, fun q => q.elim id fun q => absurd q.1 h⟩
  · unfold btf; exact ⟨fun q => .inr ⟨h, .inl (by omega)⟩, fun q => q.elim (fun q => by omega) fun q => q.2.elim (fun q => by omega) fun q => by omega⟩
  · rw [Qme (by omega)]
    unfold btf; exact ⟨fun q => .inr ⟨h, .inr ⟨by omega, q⟩⟩, fun q => q.elim (fun q => by omega) fun q => q.2.elim (fun q => by omega) fun q => q.2⟩
def Xb : List AV → Option (Prop × AV)
  | [.agg [.int .i64 fu, .sl ut 1 ux], .agg [.int .i64 fw, .sl wt 1 wx]] => some (((ux.map unS).map Ko = ux ∧ (wx.map unS).map Ko = wx) ∧ (ux.map unS).length ≤ 1048576 ∧ (wx.map unS).length ≤ 1048576, .bool (decide (btf fu (ux.map unS) fw (wx.map unS))))
  | _ => none
theorem QnR : ∀ args p v, Xb args = some (p, v) → p → Contract P 60 args [] v [] ∧ noref v = true ∧ No99 v := by
  intro args p v h1 h2
  unfold Xb at h1
  split at h1
  · rename_i fu ut ux fw wt wx
    cases h1
    obtain ⟨⟨e0, e1⟩, HP⟩ := h2
    have := QnQ ut wt fu fw (ux.map unS) (wx.map unS) HP.1 HP.2
    exact ⟨by simpa only [e0, e1] using this, rfl, trivial⟩
  · cases h1
theorem Qmf (t : Nat) (w : List Nm) (h0 : 0 < w.length) (hw : w.length ≤ 1048576) : Contract P 59 [.sl t 1 (w.map Ko)] [] (.own 105 1 0 w.length) [(105, .arr 9 1 1 (w.map Ko))] := by
  have tkc : List.take w.length (w.map Ko) = w.map Ko := List.take_of_length_le (by simp)
  have hne : True := trivial
  refine QP (Env.nil P) hm Qai (Nat.le_of_ble_eq_true rfl) rfl ?_; unfold ZD; simp (config := { maxSteps := 2000000 }) only [bitvec_to_nat, reduceIte, Nat.reduceEqDiff, Nat.reduceAdd, Nat.reduceLeDiff, reduceCtorEq, Nat.reduceBEq, Nat.reduceLT, Nat.reduceMod, List.forall_mem_cons, JA, Ky, Jz, YS, keepB, Kz, YY, Qr, Qt, Qa, Yw, Ql, List.take_length, List.length_cons, List.length_nil, Nat.zero_add, Ko, Yx, Yy, YG, Zone.row, Qj, QK, Pt.row, Qs, Jw, Aw.row, Qv, Jx, Blk.row, Qg, Qp, Sec.row, Qh, Qu, Rw.row, Qw, Jy, Qi, Int.toNat_natCast, Nat.sub_zero, List.length_map, List.append_nil, tkc, hne]
  exact ⟨h0, by omega, by simp [Qx], rfl⟩
end
end Go.Ve

namespace Go.Ve
noncomputable section
open Go.Proofs
set_option linter.unusedSimpArgs false
set_option linter.unusedVariables false
set_option maxRecDepth 100000
abbrev ML := List (Nm × List Nm)
def Zh : ML → Nm → Option (List Nm)
  | [], _ => none
  | (k, v) :: r, a => if k = a then some v else Zh r a
def QpY : ML → Nm → List Nm → ML
  | [], b, x => [(b, x)]
  | (k, v) :: r, b, x => if k = b then (k, x) :: r else (k, v) :: QpY r b x
theorem Qio {b : Nm} {x : List Nm} : ∀ (L : ML), Zh (QpY L b x) = bup (Zh L) b x
  | [] => by funext v; simp only [QpY, Zh, bup]; by_cases h : b = v <;> simp [h, eq_comm]
  | (k, w) :: r => by
    funext v
    have ih := congrFun (Qio (b := b) (x := x) r) v
    simp only [QpY]
    by_cases h : k = b
    · subst h
      simp only [if_true, Zh, bup]
      by_cases h2 : k = v
      · subst h2; simp
      · simp [h2, Ne.symm h2]
    · simp only [h, if_false, Zh, bup] at ih ⊢
      by_cases h2 : k = v
      · subst h2; simp [h]
      · simp only [h2, if_false]; exact ih
theorem QgT {a b : Nm} : Uh (.str a) (.str b) = decide (a = b) := Km
theorem Qj2 {s : Sky} (hv : s.valid) (nm : Nm) : (ptC s nm).inn := by
  by_cases h : 0 ≤ Xm s.pts nm
  · exact QbX hv h
  · have e : (Xm s.pts nm).toNat = 0 := by omega
    unfold ptC
    rw [e]
    by_cases hn : 0 < s.pts.length
    · have h2 := (hv.2.1.2 0 hn).2.2.1
      have h3 := hv.1
      unfold X6 at h2
      unfold Uj at h3
      simp only [Cell.inn]; omega
    · have : s.pts = [] := List.length_eq_zero_iff.1 (by omega)
      rw [this]
      simp only [Cell.inn, List.getD_nil]
      exact ⟨⟨Int.le_refl _, by decide⟩, ⟨Int.le_refl _, by decide⟩⟩
theorem Qrb {s : Sky} (hv : s.valid) (a b : Nm) : 0 ≤ dS s a b ∧ dS s a b ≤ 15 := Qj1 (Qj2 hv a) (Qj2 hv b)
theorem Qc1 {s : Sky} (hv : s.valid) {a : Nm} (h : 0 ≤ Xm s.pts a) : Qiw 0 (.str a) := by
  obtain ⟨p1, p2, _⟩ := V3 h
  have hk := (hv.2.1.2 _ p1).1.1.2
  rw [p2] at hk
  refine ⟨a, rfl, ?_⟩
  rw [Gp]; unfold maxLen; omega
/-- An Qq6 that is done with. -/
def Fx (d : Nm → Nm → Int) (L : ML) (a b : Nm) : Prop := ∀ w, Zh L a = some w → ∃ o, Zh L b = some o ∧ ¬ bt d (w ++ [b]) o
def PR (s : Sky) (fr : Nm) (L0 L : ML) (ag : Bool) (S : Nm → Nm → Prop) : Prop := BInv (V4 s) (dS s) (G6 s) fr (Zh L) ∧ (ag = false ∧ L = L0 ∧ (∀ a b, S a b → Fx (dS s) L a b) ∨ ag = true ∧ tot (dS s) (G6 s) (Zh L) < tot (dS s) (G6 s) (Zh L0))
theorem PR.weak {s : Sky} {fr : Nm} {L0 L : ML} {ag : Bool} {S S' : Nm → Nm → Prop} (h : PR s fr L0 L ag S) (k : ∀ a b, S' a b → S a b) : PR s fr L0 L ag S' := ⟨h.1, h.2.elim (fun q => .inl ⟨q.1, q.2.1, fun a b m => q.2.2 a b (k a b m)⟩) .inr⟩
theorem PR.skip {s : Sky} {fr : Nm} {L0 L : ML} {ag : Bool} {S : Nm → Nm → Prop} {x y : Nm} (h : PR s fr L0 L ag S) (k : Fx (dS s) L x y) : PR s fr L0 L ag (fun a b => S a b ∨ (a = x ∧ b = y)) :=
  ⟨h.1, h.2.elim (fun q => .inl ⟨q.1, q.2.1, fun a b m => m.elim (q.2.2 a b) fun e => by rw [e.1, e.2]; exact k⟩) .inr⟩
theorem PR.put {s : Sky} (hv : s.valid) {fr : Nm} {L0 L : ML} {ag : Bool} {S S' : Nm → Nm → Prop} {x y : Nm} {w : List Nm} (h : PR s fr L0 L ag S) (hx : Zh L x = some w) (ha : V4 s x y) (hn : Zh L y = none ∨ ∃ o, Zh L y = some o ∧ bt (dS s) (w ++ [y]) o) : PR s fr L0 (QpY L y (w ++ [y])) true S' := by
  have h1 := h.1.upd (QnI s) hx (QaZ hv ha) ha hn
  have h2 := h.1.tot_lt (QnI s) hx (QaZ hv ha) ha hn
  rw [← Qio] at h1 h2
  refine ⟨h1, .inr ⟨rfl, ?_⟩⟩
  rcases h.2 with ⟨_, e, _⟩ | ⟨_, q⟩
  · subst e; exact h2
  · omega
end
end Go.Ve

namespace Go.Ve
noncomputable section
open Go.Proofs
set_option linter.unusedSimpArgs false
set_option linter.unusedVariables false
set_option maxRecDepth 100000
abbrev MO := List (Nm × List Nm × Nat)
def vr (i : Nat) : Nat := if i = 0 then 0 else 2
def prj (L : MO) : ML := L.map fun p => (p.1, p.2.1)
def ow (i : Nat) (n : Nat) : AV := .own (fam 130 i) (vr i) 0 n
def wvO (d : Nm → Nm → Int) (p : List Nm × Nat) : AV := .agg [.int .i64 (Up d p.1), ow p.2 p.1.length]
def eO (d : Nm → Nm → Int) (L : MO) : List (AV × AV) := L.map fun p => (.str p.1, wvO d p.2)
def obO (p : List Nm × Nat) : AObj := .arr 9 (vr p.2) 1 (p.1.map Ko)
def oO (L : MO) : List (Nat × AObj) := L.map fun p => (fam 130 p.2.2, obO p.2)
def QbY : MO → Nm → Option (List Nm × Nat)
  | [], _ => none
  | (k, v) :: r, a => if k = a then some v else QbY r a
def Qip : MO → Nm → List Nm × Nat → MO
  | [], b, x => [(b, x)]
  | (k, v) :: r, b, x => if k = b then (k, x) :: r else (k, v) :: Qip r b x
theorem VW {a : Nm} : ∀ {L : MO}, Zh (prj L) a = (QbY L a).map (·.1)
  | [] => rfl
  | (k, v) :: r => by
    have ih := VW (a := a) (L := r)
    unfold prj at ih ⊢
    simp only [List.map_cons, Zh, QbY]
    by_cases h : k = a
    · simp [h]
    · simp only [h, if_false]; exact ih
theorem Qjd {b : Nm} {x : List Nm × Nat} : ∀ {L : MO}, prj (Qip L b x) = QpY (prj L) b x.1
  | [] => rfl
  | (k, v) :: r => by
    have ih := Qjd (b := b) (x := x) (L := r)
    unfold prj at ih ⊢
    simp only [Qip, List.map_cons, QpY]
    by_cases h : k = b
    · simp [h]
    · simp only [h, if_false, List.map_cons, ih]
theorem G0 {d : Nm → Nm → Int} {a : Nm} {z : AV} : ∀ {L : MO}, Qba (eO d L) (.str a) z = (match QbY L a with | some w => wvO d w | none => z)
  | [] => rfl
  | (k, v) :: r => by
    have ih := G0 (d := d) (a := a) (z := z) (L := r)
    unfold eO at ih ⊢
    simp only [List.map_cons, Qba, QgT, QbY, decide_eq_true_eq]
    by_cases h : k = a
    · simp [h]
    · simp only [h, if_false]; exact ih
theorem Xi {d : Nm → Nm → Int} {a : Nm} : ∀ {L : MO}, QmM (eO d L) (.str a) = (QbY L a).isSome
  | [] => rfl
  | (k, v) :: r => by
    have ih := Xi (d := d) (a := a) (L := r)
    unfold eO at ih ⊢
    simp only [List.map_cons, QmM, QgT, QbY]
    by_cases h : k = a
    · simp [h]
    · simp only [h, decide_false, Bool.false_or, if_false]; exact ih
theorem Qmg {d : Nm → Nm → Int} {b : Nm} {x : List Nm × Nat} : ∀ {L : MO}, W0 (eO d L) (.str b) (wvO d x) = eO d (Qip L b x)
  | [] => rfl
  | (k, v) :: r => by
    have ih := Qmg (d := d) (b := b) (x := x) (L := r)
    unfold eO at ih ⊢
    simp only [List.map_cons, W0, QgT, Qip, decide_eq_true_eq]
    by_cases h : k = b
    · simp [h]
    · simp only [h, if_false, List.map_cons, ih]
theorem Qj3 {σ : Nat → Nat} {k x : AV} : ∀ {es : List (AV × AV)}, (W0 es k x).map (fun e => (e.1, ren σ e.2)) = W0 (es.map fun e => (e.1, ren σ e.2)) k (ren σ x)
  | [] => rfl
  | (a, b) :: r => by
    have ih := Qj3 (σ := σ) (k := k) (x := x) (es := r)
    simp only [W0, List.map_cons]
    split
    · rfl
    · simp only [List.map_cons, ih]
/-- Numbers of objects: each once, below a bound. -/
def okW (L : MO) (c : Nat) : Prop := (∀ p ∈ L, p.2.2 < c) ∧ L.Pairwise fun p q => p.2.2 ≠ q.2.2
theorem Qei {b : Nm} {x : List Nm × Nat} : ∀ {L : MO} {p}, p ∈ Qip L b x → p ∈ L ∨ p.2 = x
  | [], p, h => by simp only [Qip, List.mem_singleton] at h; subst h; exact .inr rfl
  | (k, v) :: r, p, h => by
    simp only [Qip] at h
    split at h
    · rcases List.mem_cons.1 h with rfl | h
      · exact .inr rfl
      · exact .inl (List.mem_cons_of_mem _ h)
    · rcases List.mem_cons.1 h with rfl | h
      · exact .inl (by simp)
      · exact (Qei h).imp (List.mem_cons_of_mem _) id
theorem okW.put {L : MO} {c : Nat} (h : okW L c) (b : Nm) (w : List Nm) : okW (Qip L b (w, c)) (c + 1) := by
  refine ⟨fun p hp => ?_, ?_⟩
  · rcases Qei hp with hp | hp
    · have := h.1 p hp; omega
    · rw [hp]; exact Nat.lt_succ_self _
  · induction L with
    | nil => simp [Qip]
    | cons q r ih =>
      obtain ⟨k, v⟩ := q
      have h1 := List.pairwise_cons.1 h.2
      have hr : okW r c := ⟨fun p hp => h.1 p (List.mem_cons_of_mem _ hp), h1.2⟩
      simp only [Qip]
      split
      · refine List.pairwise_cons.2 ⟨fun p hp => ?_, h1.2⟩
        have := h.1 p (List.mem_cons_of_mem _ hp)
        simp only; omega
      · refine List.pairwise_cons.2 ⟨fun p hp => ?_, ih hr⟩
        rcases Qei hp with hp | hp
        · exact h1.1 p hp
        · rw [hp]; have := h.1 (k, v) (by simp); simp only at this ⊢; omega
theorem Qej {a : Nm} {x : List Nm × Nat} : ∀ {L : MO}, QbY L a = some x → (a, x) ∈ L
  | [], h => by simp [QbY] at h
  | (k, v) :: r, h => by
    simp only [QbY] at h
    split at h
    · rename_i e; cases h; subst e; simp
    · exact List.mem_cons_of_mem _ (Qej h)
theorem Zd {L : MO} : Qhd (oO L) := fun p hp => by
  obtain ⟨q, _, rfl⟩ := List.mem_map.1 hp
  simp only [fam]; omega
theorem Qa1 {L : MO} : Zm (oO L) := fun p hp => by
  obtain ⟨q, _, rfl⟩ := List.mem_map.1 hp
  simp only [QbF (show 130 < 1000 by omega)]; omega
theorem QfZ {L : MO} {c : Nat} (h : okW L c) {p : Nm × List Nm × Nat} (hp : p ∈ L) : getM (oO L) (fam 130 p.2.2) = some (obO p.2) := by
  induction L with
  | nil => cases hp
  | cons q r ih =>
    have h1 := List.pairwise_cons.1 h.2
    simp only [oO, List.map_cons, getM]
    rcases List.mem_cons.1 hp with rfl | hp
    · simp
    · have hne : ¬ fam 130 p.2.2 = fam 130 q.2.2 := fun e => h1.1 p hp (WO e).symm
      rw [if_neg hne]
      exact ih ⟨fun p hp => h.1 p (List.mem_cons_of_mem _ hp), h1.2⟩ hp
theorem QpZ {L : MO} {c : Nat} (h : okW L c) : getM (oO L) (fam 130 c) = none := by
  cases hg : getM (oO L) (fam 130 c) with
  | none => rfl
  | some x =>
    obtain ⟨q, hq, e⟩ := List.mem_map.1 (Xa hg)
    simp only [Prod.mk.injEq] at e
    have := WO e.1
    have := h.1 q hq; omega
theorem Qj4 {L : MO} {p : Nm × List Nm × Nat} (hp : p ∈ L) : fam 130 p.2.2 ∈ dom (oO L) := List.mem_map.2 ⟨_, List.mem_map.2 ⟨p, hp, rfl⟩, rfl⟩
theorem QgU {L : MO} {d : List Nat} : ((oO L).all fun p => Qb d p.2) = true := by
  rw [List.all_eq_true]
  intro p hp
  obtain ⟨q, _, rfl⟩ := List.mem_map.1 hp
  simp [obO, Qb]
theorem QgV {d : Nm → Nm → Int} {L : MO} {D : List Nat} (h : ∀ p ∈ L, fam 130 p.2.2 ∈ D) : Qo D ((eO d L).map (·.2)) = true := by
  induction L with
  | nil => rfl
  | cons p r ih =>
    have ih := ih fun q hq => h q (List.mem_cons_of_mem _ hq)
    unfold eO at ih ⊢
    simp only [List.map_cons, Qo, wvO, ow, Qx, Bool.and_true, Bool.true_and, Bool.and_eq_true]
    exact ⟨by rw [List.contains_iff_mem]; exact h p (by simp), ih⟩
theorem Uc {a b o : Nat} (h1 : o ≠ a) (h2 : o ≠ b) : swp a b o = o := by unfold swp; rw [if_neg h1, if_neg h2]
theorem Qow {L : MO} {a b : Nat} (h : ∀ p ∈ L, fam 130 p.2.2 ≠ a ∧ fam 130 p.2.2 ≠ b) : ZB (swp a b) (oO L) = oO L := by
  induction L with
  | nil => rfl
  | cons p r ih =>
    have ih := ih fun q hq => h q (List.mem_cons_of_mem _ hq)
    unfold oO at ih ⊢
    simp only [List.map_cons, ZB, ih]
    have h1 := h p (by simp)
    have : swp a b (fam 130 p.2.2) = fam 130 p.2.2 := by unfold swp; rw [if_neg h1.1, if_neg h1.2]
    rw [this]
    simp [obO, renO]
theorem Qox {d : Nm → Nm → Int} {L : MO} {a b : Nat} (h : ∀ p ∈ L, fam 130 p.2.2 ≠ a ∧ fam 130 p.2.2 ≠ b) : (eO d L).map (fun e => (e.1, ren (swp a b) e.2)) = eO d L := by
  unfold eO
  rw [List.map_map]
  refine List.map_congr_left fun p hp => ?_
  have h1 := h p hp
  have : swp a b (fam 130 p.2.2) = fam 130 p.2.2 := by unfold swp; rw [if_neg h1.1, if_neg h1.2]
  simp [wvO, ow, ren, Ui, this]
theorem Qmh (d : Nm → Nm → Int) (L : MO) : Qbb (.mp 1000 (eO d L)) := by
  simp only [Qbb, eO]
  induction L with
  | nil => exact ⟨trivial, trivial⟩
  | cons p L ih => exact ⟨⟨trivial, ih.1⟩, ⟨⟨trivial, trivial, trivial⟩, ih.2⟩⟩
theorem Qmi (L : MO) : ∀ p ∈ oO L, Qbb p.2 := fun p hp => by
  obtain ⟨q, _, rfl⟩ := List.mem_map.1 hp
  exact G3 _
def WM (s : Sky) (L : MO) (B : List (Nat × AObj)) : List (Nat × AObj) := (102, .box [.int .i64 s.w, .int .i64 s.h, .int .i64 s.lv, .sl 0 3 (s.pts.map Pt.row), .sl 0 2 (s.aws.map (Aw.row 0)), .sl 0 2 (s.secs.map (Sec.row 0)), .sl 0 4 (s.rws.map Rw.row)]) :: (119, .mp 1000 (eO (dS s) L)) :: (oO L ++ B)
theorem QnS {s : Sky} {L : MO} {B : List (Nat × AObj)} {E : List (Nat × AV)} (hE : (E.all fun p => Qx (dom (WM s L B)) p.2) = true) (hB : (B.all fun p => Qb (dom (WM s L B)) p.2) = true) : closedB ⟨E, WM s L B⟩ = true := by
  unfold closedB
  rw [Bool.and_eq_true]
  refine ⟨hE, ?_⟩
  have hm : ∀ p ∈ L, fam 130 p.2.2 ∈ dom (WM s L B) := fun p hp => by
    have := Qj4 hp
    simp only [WM, dom, List.map_cons, List.map_append, List.mem_cons, List.mem_append] at this ⊢
    right; right; left; exact this
  show (WM s L B).all (fun p => Qb (dom (WM s L B)) p.2) = true
  generalize hd : dom (WM s L B) = D at *
  simp only [WM, List.all_cons, List.all_append, Bool.and_eq_true]
  refine ⟨by simp [Qb, Qo, Qx], ?_, QgU, hB⟩
  simp only [Qb]
  rw [if_neg (by omega)]
  exact QgV hm
theorem Qrc {s : Sky} {L : MO} {B : List (Nat × AObj)} (hB : Zm B) : Zm (WM s L B) := YV (by omega) (YV (by omega) (Qa5 Qa1 hB))
theorem Qrt {s : Sky} {L : MO} {c : Nat} (hL : okW L c) {B B' : List (Nat × AObj)} (hB : ∀ p ∈ B', (102 < p.1 ∧ p.1 ≠ 119 ∧ p.1 < 1000) ∧ getM B p.1 = some p.2) : wkM (WM s L B) (WM s L B') := by
  refine ⟨rfl, rfl, Qd6 fun p hp => ?_⟩
  rcases List.mem_append.1 hp with hp | hp
  · obtain ⟨q, hq, rfl⟩ := List.mem_map.1 hp
    simp only [WM, getM, YI, Nat.reduceLT, if_false]
    exact XS (QfZ hL hq)
  · obtain ⟨⟨h1, h2, h3⟩, h4⟩ := hB p hp
    simp only [WM, getM, if_neg (show ¬ p.1 = 102 by omega), if_neg h2]
    rw [Gj (gB0 Zd h3)]
    exact h4
theorem Qje {s : Sky} {L : MO} {c : Nat} (hL : okW L c) {B B' : List (Nat × AObj)} {E E' : List (Nat × AV)} (hE : wkE E E') (hB : ∀ p ∈ B', (102 < p.1 ∧ p.1 ≠ 119 ∧ p.1 < 1000) ∧ getM B p.1 = some p.2) (hb : Zm B) (h1 : (E'.all fun p => Qx (dom (WM s L B')) p.2) = true) (h2 : (B'.all fun p => Qb (dom (WM s L B')) p.2) = true) : Wk ⟨E, WM s L B⟩ ⟨E', WM s L B'⟩ :=
  ⟨hE, Qrt hL hB, QnS h1 h2, Qgm (Qrc hb)⟩
theorem Qoy {s : Sky} {L : MO} {c : Nat} (hL : okW L c) {E E' : List (Nat × AV)} (hE : wkE E E') (h1 : (E'.all fun p => Qx (dom (WM s L [])) p.2) = true) : Wk ⟨E, (102, .box [.int .i64 s.w, .int .i64 s.h, .int .i64 s.lv, .sl 0 3 (s.pts.map Pt.row), .sl 0 2 (s.aws.map (Aw.row 0)), .sl 0 2 (s.secs.map (Sec.row 0)), .sl 0 4 (s.rws.map Rw.row)]) :: (119, .mp 1000 (eO (dS s) L)) :: oO L⟩ ⟨E', WM s L []⟩ := by
  have h := Qje (s := s) (L := L) hL (B := []) (B' := []) hE (by simp) Xs h1 (by simp)
  simp only [WM, List.append_nil] at h ⊢
  exact h
theorem Qmj {s : Sky} {σ : Nat → Nat} : renO σ (.box [.int .i64 s.w, .int .i64 s.h, .int .i64 s.lv, .sl 0 3 (s.pts.map Pt.row), .sl 0 2 (s.aws.map (Aw.row 0)), .sl 0 2 (s.secs.map (Sec.row 0)), .sl 0 4 (s.rws.map Rw.row)]) = .box [.int .i64 s.w, .int .i64 s.h, .int .i64 s.lv, .sl 0 3 (s.pts.map Pt.row), .sl 0 2 (s.aws.map (Aw.row 0)), .sl 0 2 (s.secs.map (Sec.row 0)), .sl 0 4 (s.rws.map Rw.row)] := by simp [renO, Ui, ren]
theorem QnT {s : Sky} {L : MO} {c : Nat} (hL : okW L c) {M B : List (Nat × AObj)} (h1 : getM M 102 = some (.box [.int .i64 s.w, .int .i64 s.h, .int .i64 s.lv, .sl 0 3 (s.pts.map Pt.row), .sl 0 2 (s.aws.map (Aw.row 0)), .sl 0 2 (s.secs.map (Sec.row 0)), .sl 0 4 (s.rws.map Rw.row)])) (h2 : getM M 119 = some (.mp 1000 (eO (dS s) L))) (h3 : ∀ p ∈ L, getM M (fam 130 p.2.2) = some (obO p.2)) (h4 : ∀ p ∈ B, getM M p.1 = some p.2) : wkM M (WM s L B) := by
  refine ⟨h1, h2, Qd6 fun p hp => ?_⟩
  rcases List.mem_append.1 hp with hp | hp
  · obtain ⟨q, hq, rfl⟩ := List.mem_map.1 hp
    exact h3 q hq
  · exact h4 p hp
theorem QgW {L : MO} {c : Nat} (h : okW L c) : ∀ p ∈ L, fam 130 p.2.2 ≠ 215 ∧ fam 130 p.2.2 ≠ fam 130 c := fun p hp => ⟨by unfold fam; omega, fun e => by have := WO e; have := h.1 p hp; omega⟩
theorem WZ {c : Nat} {B : List (Nat × AObj)} (h : Zm B) : Zm (ZB (swp 215 (fam 130 c)) B) := by
  induction B with
  | nil => exact Xs
  | cons p B ih =>
    obtain ⟨o, x⟩ := p
    simp only [ZB]
    refine YV ?_ (ih fun q hq => h q (List.mem_cons_of_mem _ hq))
    have := h (o, x) (by simp)
    unfold swp
    split
    · rw [QbF (by omega)]; omega
    · split
      · omega
      · exact this
theorem Qmk {s : Sky} {L : MO} {c : Nat} (hL : okW L c) {B B' : List (Nat × AObj)} {E E' : List (Nat × AV)} (hE : wkE (Qkr (swp 215 (fam 130 c)) E) E') (hB : ∀ p ∈ B', (102 < p.1 ∧ p.1 ≠ 119 ∧ p.1 < 1000) ∧ getM (ZB (swp 215 (fam 130 c)) B) p.1 = some p.2) (hb : Zm (ZB (swp 215 (fam 130 c)) B)) (h1 : (E'.all fun p => Qx (dom (WM s L B')) p.2) = true) (h2 : (B'.all fun p => Qb (dom (WM s L B')) p.2) = true) : Wk (St.ren ⟨E, WM s L B⟩ (swp 215 (fam 130 c))) ⟨E', WM s L B'⟩ := by
  have e : St.ren ⟨E, WM s L B⟩ (swp 215 (fam 130 c)) = ⟨Qkr (swp 215 (fam 130 c)) E, WM s L (ZB (swp 215 (fam 130 c)) B)⟩ := by
    simp only [St.ren, WM, ZB, Qgk, Qow (QgW hL), Qmj]
    rw [show swp 215 (fam 130 c) 102 = 102 from Uc (by omega) (by unfold fam; omega), show swp 215 (fam 130 c) 119 = 119 from Uc (by omega) (by unfold fam; omega)]
    simp only [renO]
    rw [if_neg (by omega), Qox (QgW hL)]
  rw [e]
  exact Qje hL hE hB hb h1 h2
theorem Qp0 {s : Sky} {L : MO} {c : Nat} (hL : okW L c) (hc : c ≠ 0) {b : Nm} {w : List Nm} {B B' : List (Nat × AObj)} {E E' : List (Nat × AV)} (hE : wkE (Qkr (swp 215 (fam 130 c)) E) E') (hB : ∀ p ∈ B', (102 < p.1 ∧ p.1 ≠ 119 ∧ p.1 < 1000) ∧ getM (ZB (swp 215 (fam 130 c)) B) p.1 = some p.2) (hb : Zm (ZB (swp 215 (fam 130 c)) B)) (hw : getM B 215 = some (.arr 9 2 1 (w.map Ko))) (h1 : (E'.all fun p => Qx (dom (WM s (Qip L b (w, c)) B')) p.2) = true) (h2 : (B'.all fun p => Qb (dom (WM s (Qip L b (w, c)) B')) p.2) = true) :
    Wk (St.ren ⟨E, (102, .box [.int .i64 s.w, .int .i64 s.h, .int .i64 s.lv, .sl 0 3 (s.pts.map Pt.row), .sl 0 2 (s.aws.map (Aw.row 0)), .sl 0 2 (s.secs.map (Sec.row 0)), .sl 0 4 (s.rws.map Rw.row)]) :: (119, .mp 1000 (W0 (eO (dS s) L) (.str b) (.agg [.int .i64 (Up (dS s) w), .own 215 2 0 w.length]))) :: (oO L ++ B)⟩ (swp 215 (fam 130 c))) ⟨E', WM s (Qip L b (w, c)) B'⟩ := by
  have s1 : swp 215 (fam 130 c) 102 = 102 := Uc (by omega) (by unfold fam; omega)
  have s2 : swp 215 (fam 130 c) 119 = 119 := Uc (by omega) (by unfold fam; omega)
  have s3 : swp 215 (fam 130 c) 215 = fam 130 c := by unfold swp; rw [if_pos rfl]
  have s4 : swp 215 (fam 130 c) (fam 130 c) = 215 := by unfold swp; rw [if_neg (by unfold fam; omega), if_pos rfl]
  have e : St.ren ⟨E, (102, .box [.int .i64 s.w, .int .i64 s.h, .int .i64 s.lv, .sl 0 3 (s.pts.map Pt.row), .sl 0 2 (s.aws.map (Aw.row 0)), .sl 0 2 (s.secs.map (Sec.row 0)), .sl 0 4 (s.rws.map Rw.row)]) :: (119, .mp 1000 (W0 (eO (dS s) L) (.str b) (.agg [.int .i64 (Up (dS s) w), .own 215 2 0 w.length]))) :: (oO L ++ B)⟩ (swp 215 (fam 130 c)) = ⟨Qkr (swp 215 (fam 130 c)) E, (102, .box [.int .i64 s.w, .int .i64 s.h, .int .i64 s.lv, .sl 0 3 (s.pts.map Pt.row), .sl 0 2 (s.aws.map (Aw.row 0)), .sl 0 2 (s.secs.map (Sec.row 0)), .sl 0 4 (s.rws.map Rw.row)]) :: (119, .mp 1000 (eO (dS s) (Qip L b (w, c)))) :: (oO L ++ ZB (swp 215 (fam 130 c)) B)⟩ := by
    simp only [St.ren, ZB, Qgk, Qow (QgW hL), Qmj, s1, s2]
    simp only [renO]
    rw [if_neg (by omega), Qj3, Qox (QgW hL)]
    simp only [ren, Ui, s3]
    have hv : vr c = 2 := if_neg hc
    have := Qmg (d := dS s) (b := b) (x := (w, c)) (L := L)
    simp only [wvO, ow, hv] at this
    rw [this]
  rw [e]
  have hL' := hL.put b w
  refine ⟨hE, QnT hL' rfl rfl (fun p hp => ?_) (fun p hp => ?_), QnS h1 h2, Qgm (YV (by omega) (YV (by omega) (Qa5 Qa1 hb)))⟩
  · simp only [getM, YI, Nat.reduceLT, if_false]
    rcases Qei hp with hp | hp
    · exact XS (QfZ hL hp)
    · rw [hp]
      rw [Gj (QpZ hL), ZZ (GV _ _), s4, hw]
      simp [renO, obO, vr, hc]
  · obtain ⟨⟨h1, h2, h3⟩, h4⟩ := hB p hp
    simp only [getM, if_neg (show ¬ p.1 = 102 by omega), if_neg h2]
    rw [Gj (gB0 Zd h3)]
    exact h4
end
end Go.Ve

namespace Go.Ve
noncomputable section
open Go.Proofs
set_option linter.unusedSimpArgs false
set_option linter.unusedVariables false
set_option maxRecDepth 100000
def Qek (p : Nm × Nm) : List AV := [.str p.1, .str p.2]
def Qml (s : Sky) (i k : Nat) (a b : Nm) : Prop := k < (s.aws.getD i default).pts.length ∧ 0 < k ∧ Qq6 (s.aws.getD i default).pts a b k
def S1 (s : Sky) (i : Nat) (a b : Nm) : Prop := ∃ i', i' < i ∧ i' < s.aws.length ∧ ∃ k, Qml s i' k a b
def S2 (s : Sky) (i k : Nat) (a b : Nm) : Prop := S1 s i a b ∨ ∃ k', k' < k ∧ Qml s i k' a b
set_option maxHeartbeats 8000000 in
theorem Qjf (s : Sky) (fr : Nm) (hs : s.small) (hv : s.valid) (hf : 0 ≤ Xm s.pts fr) : ∃ L : MO, ((∃ c, okW L c) ∧ BInv (V4 s) (dS s) (G6 s) fr (Zh (prj L)) ∧ ∀ a b, V4 s a b → Fx (dS s) (prj L) a b) ∧ Contract P 27 [.agg (s.row 0), .str fr] [] (.ptr 119 0) ((119, .mp 1000 (eO (dS s) L)) :: oO L) := by
  have kf := Qc1 hv hf
  have hs' := hs
  unfold Sky.small at hs'
  have hR : True := trivial
  have elp : True := trivial
  have k1 : True := trivial
  have k2 : True := trivial
  have l1 : True := trivial
  have l2 : True := trivial
  have t1 : True := trivial
  have bA : True := trivial
  have hg1 : True := trivial
  have hg2 : True := trivial
  have tko : True := trivial
  refine Qcg ((((Env.nil P).add 26 Gg Qeh).add 58 Zf QqE).add 60 Xb QnR) Go.Ve.hm QdW (Nat.le_of_ble_eq_true rfl) rfl (fun L : MO => (∃ c, okW L c) ∧ BInv (V4 s) (dS s) (G6 s) fr (Zh (prj L)) ∧ ∀ a b, V4 s a b → Fx (dS s) (prj L) a b) (fun _ => .ptr 119 0) (fun L => (119, .mp 1000 (eO (dS s) L)) :: oO L) ?_
  unfold W9
  simp only [Sky.row]
  simp (config := { maxSteps := 2000000 }) only [bitvec_to_nat, reduceIte, Nat.reduceEqDiff, Nat.reduceAdd, Nat.reduceLeDiff, reduceCtorEq, Nat.reduceBEq, Nat.reduceLT, Nat.reduceMod, List.forall_mem_cons, JA, Ky, Jz, YS, keepB, Kz, YY, Gg, Zf, Xb, Qr, Qt, Qa, Yw, Ql, List.take_length, List.length_cons, List.length_nil, Nat.zero_add, Ko, Yx, Yy, YG, Zone.row, Qj, QK, Pt.row, Qs, Jw, Aw.row, Qv, Jx, Blk.row, Qg, Qp, Sec.row, Qh, Qu, Rw.row, Qw, Jy, Qi, Int.toNat_natCast, Nat.sub_zero, List.length_map, List.append_nil, kf, hR, Qek, elp, k1, k2, Xi, G0, l1, l2, Option.isSome_some, Option.isSome_none, wvO, ow, t1, WM, gB, gB0, sB, sB0, bA, hg1, hg2, YI, Y5, List.append_assoc, List.cons_append, List.nil_append, G2, G1, W0, noref, YT, Int.reduceToNat, Nat.mul_one, Nat.reduceMul]
  have b0 : BInv (V4 s) (dS s) (G6 s) fr (Zh (prj [(fr, [fr], 0)])) := by
    have := BInv.start (adj := V4 s) (d := dS s) (names := G6 s) fr (QcY hf)
    have e : (fun v => if v = fr then some [fr] else none) = Zh (prj [(fr, [fr], 0)]) := by
      funext v; simp only [prj, List.map_cons, List.map_nil, Zh]; by_cases h : v = fr
      · subst h; simp
      · simp [h, Ne.symm h]
    rw [e] at this; exact this
  refine ⟨swp 122 (fam 130 0), ⟨[(2, .ptr 102 0), (5, .ptr 119 0)], WM s [(fr, [fr], 0)] []⟩, GV _ _, fun o ho => ?_, ⟨by repeat' (first | exact trivial | refine ⟨.inr rfl, ?_⟩), ⟨rfl, rfl, rfl, trivial⟩, QnS (by simp [Qx, Qo, WM, dom]) (by simp), by simp [keepB, dom, St.ren, ZB, swp, fam]⟩, ?_⟩
  · unfold swp
    rw [if_neg (by omega), if_neg fun e => ?_]
    rw [e, QbF (by omega)] at ho; omega
  refine Qa0 (fun a : (MO × Nat) × Bool => ⟨[(2, .ptr 102 0), (5, .ptr 119 0), (6, .bool a.2)], WM s a.1.1 []⟩) (fun a => okW a.1.1 a.1.2 ∧ a.1.2 ≠ 0 ∧ BInv (V4 s) (dS s) (G6 s) fr (Zh (prj a.1.1)) ∧ (a.2 = false → ∀ x y, V4 s x y → Fx (dS s) (prj a.1.1) x y)) (fun a => 2 * tot (dS s) (G6 s) (Zh (prj a.1.1)) + if a.2 = true then 1 else 0) (([(fr, [fr], 0)], 1), true) ?_ ⟨⟨fun p hp => by rw [List.mem_singleton.1 hp]; exact Nat.zero_lt_one, by simp⟩, by simp, b0, fun h => by cases h⟩ ?_
  · exact ⟨by repeat' (first | exact trivial | refine ⟨.inr rfl, ?_⟩), ⟨rfl, rfl, rfl, trivial⟩, QnS (by simp [Qx, Qo, WM, dom]) (by simp), by simp [keepB, dom, WM, oO, fam]⟩
  rintro ⟨⟨L0, c0⟩, ag⟩ ⟨hok0, hcz0, hb0, hfx⟩ NX hN
  simp only at hok0 hcz0 hb0 hfx ⊢
  have bA : Qhd (oO L0) := Zd
  cases ag
  · unfold Zy; simp (config := { maxSteps := 2000000 }) only [bitvec_to_nat, reduceIte, Nat.reduceEqDiff, Nat.reduceAdd, Nat.reduceLeDiff, reduceCtorEq, Nat.reduceBEq, Nat.reduceLT, Nat.reduceMod, List.forall_mem_cons, JA, Ky, Jz, YS, keepB, Kz, YY, Gg, Zf, Xb, Qr, Qt, Qa, Yw, Ql, List.take_length, List.length_cons, List.length_nil, Nat.zero_add, Ko, Yx, Yy, YG, Zone.row, Qj, QK, Pt.row, Qs, Jw, Aw.row, Qv, Jx, Blk.row, Qg, Qp, Sec.row, Qh, Qu, Rw.row, Qw, Jy, Qi, Int.toNat_natCast, Nat.sub_zero, List.length_map, List.append_nil, kf, hR, Qek, elp, k1, k2, Xi, G0, l1, l2, Option.isSome_some, Option.isSome_none, wvO, ow, t1, WM, gB, gB0, sB, sB0, bA, hg1, hg2, YI, Y5, List.append_assoc, List.cons_append, List.nil_append, G2, G1, W0, noref, YT, Int.reduceToNat, Nat.mul_one, Nat.reduceMul]
    refine ⟨L0, ⟨⟨c0, hok0⟩, hb0, hfx rfl⟩, ⟨rfl, Qd6 fun p hp => ?_⟩, ?_, ?_, ?_⟩
    · obtain ⟨q, hq, rfl⟩ := List.mem_map.1 hp
      simp only [getM, YI, Nat.reduceLT, if_false]
      exact QfZ hok0 hq
    · rw [Bool.and_eq_true]
      refine ⟨QgV fun p hp => List.mem_cons_of_mem _ (Qj4 hp), ?_⟩
      exact QgU (L := L0)
    · simp [Qx]
    · simp only [Bool.true_or, Bool.true_and]
      rw [List.all_eq_true]
      intro o ho
      obtain ⟨p, hp, rfl⟩ := List.mem_map.1 ho
      have := Qa1 p hp
      simp [this]
  · unfold Zy; simp (config := { maxSteps := 2000000 }) only [bitvec_to_nat, reduceIte, Nat.reduceEqDiff, Nat.reduceAdd, Nat.reduceLeDiff, reduceCtorEq, Nat.reduceBEq, Nat.reduceLT, Nat.reduceMod, List.forall_mem_cons, JA, Ky, Jz, YS, keepB, Kz, YY, Gg, Zf, Xb, Qr, Qt, Qa, Yw, Ql, List.take_length, List.length_cons, List.length_nil, Nat.zero_add, Ko, Yx, Yy, YG, Zone.row, Qj, QK, Pt.row, Qs, Jw, Aw.row, Qv, Jx, Blk.row, Qg, Qp, Sec.row, Qh, Qu, Rw.row, Qw, Jy, Qi, Int.toNat_natCast, Nat.sub_zero, List.length_map, List.append_nil, kf, hR, Qek, elp, k1, k2, Xi, G0, l1, l2, Option.isSome_some, Option.isSome_none, wvO, ow, t1, WM, gB, gB0, sB, sB0, bA, hg1, hg2, YI, Y5, List.append_assoc, List.cons_append, List.nil_append, G2, G1, W0, noref, YT, Int.reduceToNat, Nat.mul_one, Nat.reduceMul]
    clear hfx
    refine Qa0 (fun a : ((MO × Nat) × Bool) × Nat => ⟨[(2, .ptr 102 0), (5, .ptr 119 0), (6, .bool a.1.2), (27, .sl 0 2 (s.aws.map (Aw.row 0))), (28, .int .i64 (s.aws.length : Nat)), (29, .int .i64 (a.2 : Nat))], WM s a.1.1.1 []⟩) (fun a => a.2 ≤ s.aws.length ∧ okW a.1.1.1 a.1.1.2 ∧ a.1.1.2 ≠ 0 ∧ PR s fr (prj L0) (prj a.1.1.1) a.1.2 (S1 s a.2)) (fun a => s.aws.length - a.2) (((L0, c0), false), 0) ?_ ⟨Nat.zero_le _, hok0, hcz0, hb0, .inl ⟨rfl, rfl, fun a b h => by obtain ⟨i', h1, _⟩ := h; omega⟩⟩ ?_
    · refine Qoy hok0 ?_ (by simp [Qx, Qo, WM, dom])
      exact by repeat' (first | exact trivial | refine ⟨.inr rfl, ?_⟩)
    rintro ⟨⟨⟨L, c⟩, ag⟩, i⟩ ⟨hi, hok, hcz, hp⟩ NX2 hN2
    simp only at hi hok hcz hp ⊢
    have bA : Qhd (oO L) := Zd
    by_cases hil : i < s.aws.length
    · unfold Zx; simp (config := { maxSteps := 2000000 }) only [bitvec_to_nat, reduceIte, Nat.reduceEqDiff, Nat.reduceAdd, Nat.reduceLeDiff, reduceCtorEq, Nat.reduceBEq, Nat.reduceLT, Nat.reduceMod, List.forall_mem_cons, JA, Ky, Jz, YS, keepB, Kz, YY, Gg, Zf, Xb, Qr, Qt, Qa, Yw, Ql, List.take_length, List.length_cons, List.length_nil, Nat.zero_add, Ko, Yx, Yy, YG, Zone.row, Qj, QK, Pt.row, Qs, Jw, Aw.row, Qv, Jx, Blk.row, Qg, Qp, Sec.row, Qh, Qu, Rw.row, Qw, Jy, Qi, Int.toNat_natCast, Nat.sub_zero, List.length_map, List.append_nil, kf, hR, Qek, elp, k1, k2, Xi, G0, l1, l2, Option.isSome_some, Option.isSome_none, wvO, ow, t1, WM, gB, gB0, sB, sB0, bA, hg1, hg2, YI, Y5, List.append_assoc, List.cons_append, List.nil_append, G2, G1, W0, noref, YT, Int.reduceToNat, Nat.mul_one, Nat.reduceMul]
      refine ⟨fun _ => ⟨by omega, by omega, ?_⟩, fun h => absurd (by omega) h⟩
      have hPl := Sky.small_aw hs (i := i) hil
      refine Qa0 (fun a : ((MO × Nat) × Bool) × Nat => ⟨[(2, .ptr 102 0), (5, .ptr 119 0), (6, .bool a.1.2), (8, .ptr 108 0), (9, .int .i64 (a.2 : Nat)), (27, .sl 0 2 (s.aws.map (Aw.row 0))), (28, .int .i64 (s.aws.length : Nat)), (29, .int .i64 (i : Nat))], WM s a.1.1.1 [(108, .box [.str (s.aws.getD i default).nm, .sl 0 1 ((s.aws.getD i default).pts.map Ko)])]⟩) (fun a => (1 ≤ a.2 ∧ a.2 ≤ (s.aws.getD i default).pts.length + 1) ∧ okW a.1.1.1 a.1.1.2 ∧ a.1.1.2 ≠ 0 ∧ PR s fr (prj L0) (prj a.1.1.1) a.1.2 (S2 s i a.2)) (fun a => (s.aws.getD i default).pts.length + 1 - a.2) (((L, c), ag), 1) ?_ ⟨⟨by omega, by omega⟩, hok, hcz, hp.weak fun a b h => h.elim id fun ⟨k', h1, h2⟩ => by have := h2.2.1; omega⟩ ?_
      · refine Qje (s := s) (L := L) (B := [(108, .box [.str (s.aws.getD i default).nm, .sl 0 1 ((s.aws.getD i default).pts.map Ko)])]) hok ?_ (by simp [getM]) (YV (by omega) Xs) (by simp [Qx, Qo, WM, dom]) (by simp [Qb, Qo, Qx])
        exact by repeat' (first | exact trivial | refine ⟨.inr rfl, ?_⟩)
      clear hp hok hcz
      rintro ⟨⟨⟨L, c⟩, ag⟩, k⟩ ⟨hk, hok, hcz, hp⟩ NX3 hN3
      simp only at hk hok hcz hp ⊢
      have bA : Qhd (oO L) := Zd
      have t1 : ((k : Int) - 1).toNat = k - 1 := by omega
      by_cases hkl : k < (s.aws.getD i default).pts.length
      · unfold Zw; simp (config := { maxSteps := 2000000 }) only [bitvec_to_nat, reduceIte, Nat.reduceEqDiff, Nat.reduceAdd, Nat.reduceLeDiff, reduceCtorEq, Nat.reduceBEq, Nat.reduceLT, Nat.reduceMod, List.forall_mem_cons, JA, Ky, Jz, YS, keepB, Kz, YY, Gg, Zf, Xb, Qr, Qt, Qa, Yw, Ql, List.take_length, List.length_cons, List.length_nil, Nat.zero_add, Ko, Yx, Yy, YG, Zone.row, Qj, QK, Pt.row, Qs, Jw, Aw.row, Qv, Jx, Blk.row, Qg, Qp, Sec.row, Qh, Qu, Rw.row, Qw, Jy, Qi, Int.toNat_natCast, Nat.sub_zero, List.length_map, List.append_nil, kf, hR, Qek, elp, k1, k2, Xi, G0, l1, l2, Option.isSome_some, Option.isSome_none, wvO, ow, t1, WM, gB, gB0, sB, sB0, bA, hg1, hg2, YI, Y5, List.append_assoc, List.cons_append, List.nil_append, G2, G1, W0, noref, YT, Int.reduceToNat, Nat.mul_one, Nat.reduceMul]
        refine ⟨fun _ => ⟨⟨by omega, by omega⟩, by omega, by omega, by omega, by omega, by omega, by omega, ⟨by omega, by omega⟩, by omega, by omega, ?_⟩, fun h => absurd (by omega) h⟩
        obtain ⟨EL, hEL⟩ : ∃ EL : List (Nm × Nm), EL = [((s.aws.getD i default).pts.getD (k - 1) default, (s.aws.getD i default).pts.getD k default), ((s.aws.getD i default).pts.getD k default, (s.aws.getD i default).pts.getD (k - 1) default)] := ⟨_, rfl⟩
        have hed : ∀ j, j < 2 → Qml s i k (EL.getD j default).1 (EL.getD j default).2 := fun j hj => by
          have : j = 0 ∨ j = 1 := by omega
          rcases this with rfl | rfl <;> subst hEL
          · exact ⟨hkl, by omega, .inl ⟨rfl, rfl⟩⟩
          · exact ⟨hkl, by omega, .inr ⟨rfl, rfl⟩⟩
        have hEl : EL.length = 2 := by rw [hEL]; rfl
        refine Qa0 (fun a : ((MO × Nat) × Bool) × Nat => ⟨[(2, .ptr 102 0), (5, .ptr 119 0), (6, .bool a.1.2), (8, .ptr 108 0), (9, .int .i64 (k : Nat)), (27, .sl 0 2 (s.aws.map (Aw.row 0))), (28, .int .i64 (s.aws.length : Nat)), (29, .int .i64 (i : Nat)), (64, .sl 0 2 (EL.map Qek)), (65, .int .i64 2), (66, .int .i64 (a.2 : Nat))], WM s a.1.1.1 [(108, .box [.str (s.aws.getD i default).nm, .sl 0 1 ((s.aws.getD i default).pts.map Ko)])]⟩) (fun a => a.2 ≤ 2 ∧ okW a.1.1.1 a.1.1.2 ∧ a.1.1.2 ≠ 0 ∧ PR s fr (prj L0) (prj a.1.1.1) a.1.2 (fun x y => S2 s i k x y ∨ ∃ j, j < a.2 ∧ EL.getD j default = (x, y))) (fun a => 2 - a.2) (((L, c), ag), 0) ?_ ⟨by omega, hok, hcz, hp.weak fun a b h => h.elim id fun ⟨j, h1, _⟩ => by omega⟩ ?_
        · refine Qje (s := s) (L := L) (B := [(108, .box [.str (s.aws.getD i default).nm, .sl 0 1 ((s.aws.getD i default).pts.map Ko)])]) hok ?_ (by simp [getM]) (YV (by omega) Xs) (by simp [Qx, Qo, WM, dom]) (by simp [Qb, Qo, Qx])
          subst hEL
          exact by repeat' (first | exact trivial | refine ⟨.inr rfl, ?_⟩)
        clear hp hok hcz
        rintro ⟨⟨⟨L, c⟩, ag⟩, j⟩ ⟨hj, hok, hcz, hp⟩ NX4 hN4
        simp only at hj hok hcz hp ⊢
        have bA : Qhd (oO L) := Zd
        have s102 : swp 215 (fam 130 c) 102 = 102 := Uc (by omega) (by unfold fam; omega)
        have s108 : swp 215 (fam 130 c) 108 = 108 := Uc (by omega) (by unfold fam; omega)
        have s119 : swp 215 (fam 130 c) 119 = 119 := Uc (by omega) (by unfold fam; omega)
        have hB1 : ∀ B : List (Nat × AObj), getM B 108 = some (.box [.str (s.aws.getD i default).nm, .sl 0 1 ((s.aws.getD i default).pts.map Ko)]) → ∀ p ∈ [(108, .box [.str (s.aws.getD i default).nm, .sl 0 1 ((s.aws.getD i default).pts.map Ko)])], (102 < p.1 ∧ p.1 ≠ 119 ∧ p.1 < 1000) ∧ getM (ZB (swp 215 (fam 130 c)) B) p.1 = some p.2 := fun B hB p hp => by
          rw [List.mem_singleton.1 hp]
          refine ⟨by simp, ?_⟩
          rw [ZZ (GV _ _), s108, hB]
          simp [renO, Ui, ren]
        have so : ∀ o, o % 1000 < 100 → swp 215 (fam 130 c) o = o := fun o ho => Uc (by omega) fun e => by rw [e, QbF (by omega)] at ho; omega
        have b8 : ∀ x, Zm [(108, x)] := fun x => YV (by omega) Xs
        by_cases hjl : j < 2
        · have ha := hed j hjl
          have hadj : V4 s (EL.getD j default).1 (EL.getD j default).2 := ⟨i, hil, k, ha⟩
          obtain ⟨i1, i2⟩ := Ql8 hv hadj
          obtain ⟨a1, a2, a3⟩ := V3 i1
          obtain ⟨b1, b2, b3⟩ := V3 i2
          have k1 := Qc1 hv i1
          have k2 := Qc1 hv i2
          have nextS : ∀ j x y, (S2 s i k x y ∨ ∃ j', j' < j + 1 ∧ EL.getD j' default = (x, y)) → (S2 s i k x y ∨ ∃ j', j' < j ∧ EL.getD j' default = (x, y)) ∨ (x = (EL.getD j default).1 ∧ y = (EL.getD j default).2) := fun j x y h => by
            rcases h with h | ⟨j', h1, h2⟩
            · exact .inl (.inl h)
            · rcases Nat.lt_or_ge j' j with q | q
              · exact .inl (.inr ⟨j', q, h2⟩)
              · have e : j' = j := by omega
                subst e; exact .inr (by rw [h2]; exact ⟨rfl, rfl⟩)
          have go : ∀ (L' : MO) (c' : Nat) (ag' : Bool), okW L' c' → c' ≠ 0 → PR s fr (prj L0) (prj L') ag' (fun x y => S2 s i k x y ∨ ∃ j', j' < j + 1 ∧ EL.getD j' default = (x, y)) → NX4 ⟨[(2, .ptr 102 0), (5, .ptr 119 0), (6, .bool ag'), (8, .ptr 108 0), (9, .int .i64 (k : Nat)), (27, .sl 0 2 (s.aws.map (Aw.row 0))), (28, .int .i64 (s.aws.length : Nat)), (29, .int .i64 (i : Nat)), (64, .sl 0 2 (EL.map Qek)), (65, .int .i64 2), (66, .int .i64 ((j : Nat) + 1))], WM s L' [(108, .box [.str (s.aws.getD i default).nm, .sl 0 1 ((s.aws.getD i default).pts.map Ko)])]⟩ := fun L' c' ag' h1 h2 h3 => by
            refine hN4 (((L', c'), ag'), j + 1) _ (Qje h1 ?_ (by simp [getM]) (b8 _) (by simp [Qx, Qo, WM, dom]) (by simp [Qb, Qo, Qx])) ⟨by simp only; omega, h1, h2, h3⟩ (by simp only; omega)
            exact by repeat' (first | exact trivial | refine ⟨.inr rfl, ?_⟩)
          cases hl1 : QbY L (EL.getD j default).1 with
          | none =>
            have l1 := hl1
            unfold XK; simp (config := { maxSteps := 2000000 }) only [bitvec_to_nat, reduceIte, Nat.reduceEqDiff, Nat.reduceAdd, Nat.reduceLeDiff, reduceCtorEq, Nat.reduceBEq, Nat.reduceLT, Nat.reduceMod, List.forall_mem_cons, JA, Ky, Jz, YS, keepB, Kz, YY, Gg, Zf, Xb, Qr, Qt, Qa, Yw, Ql, List.take_length, List.length_cons, List.length_nil, Nat.zero_add, Ko, Yx, Yy, YG, Zone.row, Qj, QK, Pt.row, Qs, Jw, Aw.row, Qv, Jx, Blk.row, Qg, Qp, Sec.row, Qh, Qu, Rw.row, Qw, Jy, Qi, Int.toNat_natCast, Nat.sub_zero, List.length_map, List.append_nil, kf, hR, Qek, elp, k1, k2, Xi, G0, l1, l2, Option.isSome_some, Option.isSome_none, wvO, ow, t1, WM, gB, gB0, sB, sB0, bA, hg1, hg2, YI, Y5, List.append_assoc, List.cons_append, List.nil_append, G2, G1, W0, noref, YT, Int.reduceToNat, Nat.mul_one, Nat.reduceMul]
            refine ⟨fun _ => ⟨by omega, by omega, ⟨by omega, by omega⟩, ?_⟩, fun h => absurd (by omega) h⟩
            refine ⟨swp 215 (fam 130 c), ⟨[(2, .ptr 102 0), (5, .ptr 119 0), (6, .bool ag), (8, .ptr 108 0), (9, .int .i64 (k : Nat)), (27, .sl 0 2 (s.aws.map (Aw.row 0))), (28, .int .i64 (s.aws.length : Nat)), (29, .int .i64 (i : Nat)), (64, .sl 0 2 (EL.map Qek)), (65, .int .i64 2), (66, .int .i64 (j : Nat))], WM s L [(108, .box [.str (s.aws.getD i default).nm, .sl 0 1 ((s.aws.getD i default).pts.map Ko)])]⟩, GV _ _, so, ?_, ?_⟩
            · refine Qmk (L := L) (B := [_, _, _]) hok ?_ (hB1 _ rfl) (WZ (YV (by omega) (YV (by omega) (YV (by omega) Xs)))) (by simp [Qx, Qo, WM, dom]) (by simp [Qb, Qo, Qx])
              simp only [Qkr, ren, s102, s108, s119]
              exact by repeat' (first | exact trivial | refine ⟨.inr rfl, ?_⟩)
            · simp (config := { maxSteps := 2000000 }) only [bitvec_to_nat, reduceIte, Nat.reduceEqDiff, Nat.reduceAdd, Nat.reduceLeDiff, reduceCtorEq, Nat.reduceBEq, Nat.reduceLT, Nat.reduceMod, List.forall_mem_cons, JA, Ky, Jz, YS, keepB, Kz, YY, Gg, Zf, Xb, Qr, Qt, Qa, Yw, Ql, List.take_length, List.length_cons, List.length_nil, Nat.zero_add, Ko, Yx, Yy, YG, Zone.row, Qj, QK, Pt.row, Qs, Jw, Aw.row, Qv, Jx, Blk.row, Qg, Qp, Sec.row, Qh, Qu, Rw.row, Qw, Jy, Qi, Int.toNat_natCast, Nat.sub_zero, List.length_map, List.append_nil, kf, hR, Qek, elp, k1, k2, Xi, G0, l1, l2, Option.isSome_some, Option.isSome_none, wvO, ow, t1, WM, gB, gB0, sB, sB0, bA, hg1, hg2, YI, Y5, List.append_assoc, List.cons_append, List.nil_append, G2, G1, W0, noref, YT, Int.reduceToNat, Nat.mul_one, Nat.reduceMul]
              refine ⟨⟨by omega, by omega⟩, go L c ag hok hcz ?_⟩
              exact (hp.skip (x := (EL.getD j default).1) (y := (EL.getD j default).2) fun w hw => by rw [VW, hl1] at hw; cases hw).weak (nextS j)
          | some p =>
            obtain ⟨w, id⟩ := p
            have l1 := hl1
            have hlL : Zh (prj L) (EL.getD j default).1 = some w := by rw [VW, hl1]; rfl
            have hg1 : ∀ B, getM (oO L ++ B) (fam 130 id) = some (.arr 9 (vr id) 1 (w.map Ko)) := fun B => XS (QfZ hok (Qej hl1))
            have hwk := hp.1.w _ _ hlL
            have hwn := hp.1.n _ _ hlL
            have hw0 : 0 < w.length := List.length_pos_iff.2 (QiV hwk)
            have hwl : w.length ≤ 16 := by
              have := V9 hwn.1 hwn.2
              rw [G4] at this
              exact Nat.le_trans this hv.2.1.1
            have hfb := Ql9 (d := dS s) (fun a b => Qrb hv a b) w
            have q1 := QbX hv i1
            have q2 := QbX hv i2
            have q3 := Qrb hv (EL.getD j default).1 (EL.getD j default).2
            unfold Cell.inn ptC at q1 q2
            simp only at q1 q2
            have tkw : List.take w.length (w.map Ko) = w.map Ko := List.take_of_length_le (by simp)
            have hfar : Up (dS s) w + dS s (EL.getD j default).1 (EL.getD j default).2 = Up (dS s) (w ++ [(EL.getD j default).2]) := (Qci hwk).symm
            have hmx : (if max ((s.pts.getD (Xm s.pts (EL.getD j default).fst).toNat default).y - (s.pts.getD (Xm s.pts (EL.getD j default).snd).toNat default).y) ((s.pts.getD (Xm s.pts (EL.getD j default).snd).toNat default).y - (s.pts.getD (Xm s.pts (EL.getD j default).fst).toNat default).y) > max ((s.pts.getD (Xm s.pts (EL.getD j default).fst).toNat default).x - (s.pts.getD (Xm s.pts (EL.getD j default).snd).toNat default).x) ((s.pts.getD (Xm s.pts (EL.getD j default).snd).toNat default).x - (s.pts.getD (Xm s.pts (EL.getD j default).fst).toNat default).x) then max ((s.pts.getD (Xm s.pts (EL.getD j default).fst).toNat default).y - (s.pts.getD (Xm s.pts (EL.getD j default).snd).toNat default).y) ((s.pts.getD (Xm s.pts (EL.getD j default).snd).toNat default).y - (s.pts.getD (Xm s.pts (EL.getD j default).fst).toNat default).y) else max ((s.pts.getD (Xm s.pts (EL.getD j default).fst).toNat default).x - (s.pts.getD (Xm s.pts (EL.getD j default).snd).toNat default).x) ((s.pts.getD (Xm s.pts (EL.getD j default).snd).toNat default).x - (s.pts.getD (Xm s.pts (EL.getD j default).fst).toNat default).x)) = dS s (EL.getD j default).1 (EL.getD j default).2 := by
              unfold dS QfB Qou ptC
              simp only
              split <;> split <;> split <;> omega
            have hC := (Qmf 99 w hw0 (by omega)).ren (swp 105 215) (GV _ _)
            rw [QbD _ _ (show YT [AV.sl 99 1 (w.map Ko)] = true from rfl)] at hC
            simp only [ren, ZB, renO, swp, if_true, show 9 < 1000000 from by omega] at hC
            unfold XK; simp (config := { maxSteps := 2000000 }) only [bitvec_to_nat, reduceIte, Nat.reduceEqDiff, Nat.reduceAdd, Nat.reduceLeDiff, reduceCtorEq, Nat.reduceBEq, Nat.reduceLT, Nat.reduceMod, List.forall_mem_cons, JA, Ky, Jz, YS, keepB, Kz, YY, Gg, Zf, Xb, Qr, Qt, Qa, Yw, Ql, List.take_length, List.length_cons, List.length_nil, Nat.zero_add, Ko, Yx, Yy, YG, Zone.row, Qj, QK, Pt.row, Qs, Jw, Aw.row, Qv, Jx, Blk.row, Qg, Qp, Sec.row, Qh, Qu, Rw.row, Qw, Jy, Qi, Int.toNat_natCast, Nat.sub_zero, List.length_map, List.append_nil, kf, hR, Qek, elp, k1, k2, Xi, G0, l1, l2, Option.isSome_some, Option.isSome_none, wvO, ow, t1, WM, gB, gB0, sB, sB0, bA, hg1, hg2, YI, Y5, List.append_assoc, List.cons_append, List.nil_append, G2, G1, W0, noref, YT, Int.reduceToNat, Nat.mul_one, Nat.reduceMul]
            simp only [hmx]
            refine ⟨fun _ => ⟨by omega, by omega, ⟨by omega, by omega⟩, ⟨by omega, by omega⟩, hs, i1, by omega, ⟨by omega, by omega⟩, hs, i2, b3, ⟨by omega, by omega, by omega, by omega⟩, ⟨by omega, by omega, by omega, by omega⟩, ⟨by omega, by omega⟩, ?_⟩, fun h => absurd (by omega) h⟩
            refine ⟨_, _, .inr (.inr (.inl ⟨[.sl 99 1 (w.map Ko)], ?_, hC, fun p hp => ?_, by simp [Qx, dom], rfl, by simp [No99], by simp [Qbb, G3]⟩)), ?_⟩
            · simp only [Y7, pur, getM, YI, Nat.reduceLT, if_false, hg1, if_true, List.drop_zero, tkw, Option.map_some]
            · rw [List.mem_singleton.1 hp]
              simp only [getM, Nat.reduceEqDiff, if_false]
              rw [Gj (gB0 Zd (by omega))]
              rfl
            have tkx : List.take (w.length + 1) (List.map Ko w ++ [[AV.str (EL.getD j default).2]]) = (w ++ [(EL.getD j default).2]).map Ko := by
              rw [List.take_of_length_le (by simp)]; simp [Ko]
            have hwx : (w ++ [(EL.getD j default).2]).length = w.length + 1 := by simp
            have ne1 : ∀ q, q < 1000 → (!q == fam 130 id) = true := fun q hq => by simp [fam]; omega
            have ne2 : ∀ q, q < 1000 → (!fam 130 id == q) = true := fun q hq => by simp [fam]; omega
            have upk := fun {B : List (Nat × AObj)} {E : List (Nat × AV)} hE hB hb hw => Qp0 (s := s) (L := L) (b := (EL.getD j default).2) (w := w ++ [(EL.getD j default).2]) (B := B) (B' := [(108, .box [.str (s.aws.getD i default).nm, .sl 0 1 ((s.aws.getD i default).pts.map Ko)])]) (E := E) (E' := [(2, .ptr 102 0), (5, .ptr 119 0), (6, .bool true), (8, .ptr 108 0), (9, .int .i64 (k : Nat)), (27, .sl 0 2 (s.aws.map (Aw.row 0))), (28, .int .i64 (s.aws.length : Nat)), (29, .int .i64 (i : Nat)), (64, .sl 0 2 (EL.map Qek)), (65, .int .i64 2), (66, .int .i64 (j : Nat))]) hok hcz hE hB hb hw (by simp [Qx, Qo, WM, dom]) (by simp [Qb, Qo, Qx])
            simp only [hwx] at upk
            cases hl2 : QbY L (EL.getD j default).2 with
            | none =>
              have l2 := hl2
              have hb : True := trivial
              simp (config := { maxSteps := 2000000 }) only [bitvec_to_nat, reduceIte, Nat.reduceEqDiff, Nat.reduceAdd, Nat.reduceLeDiff, reduceCtorEq, Nat.reduceBEq, Nat.reduceLT, Nat.reduceMod, List.forall_mem_cons, JA, Ky, Jz, YS, keepB, Kz, YY, Gg, Zf, Xb, Qr, Qt, Qa, Yw, Ql, List.take_length, List.length_cons, List.length_nil, Nat.zero_add, Ko, Yx, Yy, YG, Zone.row, Qj, QK, Pt.row, Qs, Jw, Aw.row, Qv, Jx, Blk.row, Qg, Qp, Sec.row, Qh, Qu, Rw.row, Qw, Jy, Qi, Int.toNat_natCast, Nat.sub_zero, List.length_map, List.append_nil, kf, hR, Qek, elp, k1, k2, Xi, G0, l1, l2, Option.isSome_some, Option.isSome_none, wvO, ow, t1, WM, gB, gB0, sB, sB0, bA, hg1, hg2, YI, Y5, List.append_assoc, List.cons_append, List.nil_append, G2, G1, W0, noref, YT, Int.reduceToNat, Nat.mul_one, Nat.reduceMul, tkx, hfar, tkw, tko, hwx, hb, KH, KJ, Yw, Ql]
              refine ⟨ne1 112 (by omega), ⟨by omega, by omega⟩, ne2 111 (by omega), ne2 111 (by omega), by omega, ne2 116 (by omega), ⟨by omega, by omega⟩, ⟨by omega, by omega⟩, swp 215 (fam 130 c), ⟨[(2, .ptr 102 0), (5, .ptr 119 0), (6, .bool true), (8, .ptr 108 0), (9, .int .i64 (k : Nat)), (27, .sl 0 2 (s.aws.map (Aw.row 0))), (28, .int .i64 (s.aws.length : Nat)), (29, .int .i64 (i : Nat)), (64, .sl 0 2 (EL.map Qek)), (65, .int .i64 2), (66, .int .i64 (j : Nat))], WM s (Qip L (EL.getD j default).2 (w ++ [(EL.getD j default).2], c)) [(108, .box [.str (s.aws.getD i default).nm, .sl 0 1 ((s.aws.getD i default).pts.map Ko)])]⟩, GV _ _, so, ?_, ?_⟩
              · refine upk ?_ (hB1 _ rfl) (WZ (by repeat' (first | exact Xs | refine YV (by omega) ?_))) (by simp [getM, Ko])
                simp only [Qkr, ren, s102, s108, s119]
                exact by repeat' (first | exact trivial | refine ⟨.inr rfl, ?_⟩)
              · simp (config := { maxSteps := 2000000 }) only [bitvec_to_nat, reduceIte, Nat.reduceEqDiff, Nat.reduceAdd, Nat.reduceLeDiff, reduceCtorEq, Nat.reduceBEq, Nat.reduceLT, Nat.reduceMod, List.forall_mem_cons, JA, Ky, Jz, YS, keepB, Kz, YY, Gg, Zf, Xb, Qr, Qt, Qa, Yw, Ql, List.take_length, List.length_cons, List.length_nil, Nat.zero_add, Ko, Yx, Yy, YG, Zone.row, Qj, QK, Pt.row, Qs, Jw, Aw.row, Qv, Jx, Blk.row, Qg, Qp, Sec.row, Qh, Qu, Rw.row, Qw, Jy, Qi, Int.toNat_natCast, Nat.sub_zero, List.length_map, List.append_nil, kf, hR, Qek, elp, k1, k2, Xi, G0, l1, l2, Option.isSome_some, Option.isSome_none, wvO, ow, t1, WM, gB, gB0, sB, sB0, bA, hg1, hg2, YI, Y5, List.append_assoc, List.cons_append, List.nil_append, G2, G1, W0, noref, YT, Int.reduceToNat, Nat.mul_one, Nat.reduceMul]
                refine ⟨⟨by omega, by omega⟩, go _ (c + 1) true (hok.put _ _) (by omega) ?_⟩
                rw [Qjd]
                exact hp.put hv hlL hadj (.inl (by rw [VW, hl2]; rfl))
            | some po =>
              obtain ⟨o, io⟩ := po
              have l2 := hl2
              have hlO : Zh (prj L) (EL.getD j default).2 = some o := by rw [VW, hl2]; rfl
              have hg2 : ∀ B, getM (oO L ++ B) (fam 130 io) = some (.arr 9 (vr io) 1 (o.map Ko)) := fun B => XS (QfZ hok (Qej hl2))
              have tko : List.take o.length (o.map Ko) = o.map Ko := List.take_of_length_le (by simp)
              have hwo := V9 (hp.1.n _ _ hlO).1 (hp.1.n _ _ hlO).2
              rw [G4] at hwo
              have hlo : (w ++ [(EL.getD j default).2]).length ≤ 1048576 := by omega
              by_cases hb : btf (Up (dS s) (w ++ [(EL.getD j default).2])) (w ++ [(EL.getD j default).2]) (Up (dS s) o) o
              · simp (config := { maxSteps := 2000000 }) only [bitvec_to_nat, reduceIte, Nat.reduceEqDiff, Nat.reduceAdd, Nat.reduceLeDiff, reduceCtorEq, Nat.reduceBEq, Nat.reduceLT, Nat.reduceMod, List.forall_mem_cons, JA, Ky, Jz, YS, keepB, Kz, YY, Gg, Zf, Xb, Qr, Qt, Qa, Yw, Ql, List.take_length, List.length_cons, List.length_nil, Nat.zero_add, Ko, Yx, Yy, YG, Zone.row, Qj, QK, Pt.row, Qs, Jw, Aw.row, Qv, Jx, Blk.row, Qg, Qp, Sec.row, Qh, Qu, Rw.row, Qw, Jy, Qi, Int.toNat_natCast, Nat.sub_zero, List.length_map, List.append_nil, kf, hR, Qek, elp, k1, k2, Xi, G0, l1, l2, Option.isSome_some, Option.isSome_none, wvO, ow, t1, WM, gB, gB0, sB, sB0, bA, hg1, hg2, YI, Y5, List.append_assoc, List.cons_append, List.nil_append, G2, G1, W0, noref, YT, Int.reduceToNat, Nat.mul_one, Nat.reduceMul, tkx, hfar, tkw, tko, hwx, hb, KH, KJ, Yw, Ql]
                refine ⟨ne1 112 (by omega), ⟨by omega, by omega⟩, ne2 111 (by omega), ne2 111 (by omega), by omega, ne2 116 (by omega), ⟨by omega, by omega⟩, ⟨by omega, by omega⟩, ⟨by omega, by omega⟩, swp 215 (fam 130 c), ⟨[(2, .ptr 102 0), (5, .ptr 119 0), (6, .bool true), (8, .ptr 108 0), (9, .int .i64 (k : Nat)), (27, .sl 0 2 (s.aws.map (Aw.row 0))), (28, .int .i64 (s.aws.length : Nat)), (29, .int .i64 (i : Nat)), (64, .sl 0 2 (EL.map Qek)), (65, .int .i64 2), (66, .int .i64 (j : Nat))], WM s (Qip L (EL.getD j default).2 (w ++ [(EL.getD j default).2], c)) [(108, .box [.str (s.aws.getD i default).nm, .sl 0 1 ((s.aws.getD i default).pts.map Ko)])]⟩, GV _ _, so, ?_, ?_⟩
                · refine upk ?_ (hB1 _ rfl) (WZ (by repeat' (first | exact Xs | refine YV (by omega) ?_))) (by simp [getM, Ko])
                  simp only [Qkr, ren, s102, s108, s119]
                  exact by repeat' (first | exact trivial | refine ⟨.inr rfl, ?_⟩)
                · simp (config := { maxSteps := 2000000 }) only [bitvec_to_nat, reduceIte, Nat.reduceEqDiff, Nat.reduceAdd, Nat.reduceLeDiff, reduceCtorEq, Nat.reduceBEq, Nat.reduceLT, Nat.reduceMod, List.forall_mem_cons, JA, Ky, Jz, YS, keepB, Kz, YY, Gg, Zf, Xb, Qr, Qt, Qa, Yw, Ql, List.take_length, List.length_cons, List.length_nil, Nat.zero_add, Ko, Yx, Yy, YG, Zone.row, Qj, QK, Pt.row, Qs, Jw, Aw.row, Qv, Jx, Blk.row, Qg, Qp, Sec.row, Qh, Qu, Rw.row, Qw, Jy, Qi, Int.toNat_natCast, Nat.sub_zero, List.length_map, List.append_nil, kf, hR, Qek, elp, k1, k2, Xi, G0, l1, l2, Option.isSome_some, Option.isSome_none, wvO, ow, t1, WM, gB, gB0, sB, sB0, bA, hg1, hg2, YI, Y5, List.append_assoc, List.cons_append, List.nil_append, G2, G1, W0, noref, YT, Int.reduceToNat, Nat.mul_one, Nat.reduceMul]
                  refine ⟨⟨by omega, by omega⟩, go _ (c + 1) true (hok.put _ _) (by omega) ?_⟩
                  rw [Qjd]
                  exact hp.put hv hlL hadj (.inr ⟨o, hlO, hb⟩)
              · simp (config := { maxSteps := 2000000 }) only [bitvec_to_nat, reduceIte, Nat.reduceEqDiff, Nat.reduceAdd, Nat.reduceLeDiff, reduceCtorEq, Nat.reduceBEq, Nat.reduceLT, Nat.reduceMod, List.forall_mem_cons, JA, Ky, Jz, YS, keepB, Kz, YY, Gg, Zf, Xb, Qr, Qt, Qa, Yw, Ql, List.take_length, List.length_cons, List.length_nil, Nat.zero_add, Ko, Yx, Yy, YG, Zone.row, Qj, QK, Pt.row, Qs, Jw, Aw.row, Qv, Jx, Blk.row, Qg, Qp, Sec.row, Qh, Qu, Rw.row, Qw, Jy, Qi, Int.toNat_natCast, Nat.sub_zero, List.length_map, List.append_nil, kf, hR, Qek, elp, k1, k2, Xi, G0, l1, l2, Option.isSome_some, Option.isSome_none, wvO, ow, t1, WM, gB, gB0, sB, sB0, bA, hg1, hg2, YI, Y5, List.append_assoc, List.cons_append, List.nil_append, G2, G1, W0, noref, YT, Int.reduceToNat, Nat.mul_one, Nat.reduceMul, tkx, hfar, tkw, tko, hwx, hb, KH, KJ, Yw, Ql]
                refine ⟨ne1 112 (by omega), ⟨by omega, by omega⟩, ne2 111 (by omega), ne2 111 (by omega), by omega, ne2 116 (by omega), ⟨by omega, by omega⟩, ⟨by omega, by omega⟩, swp 215 (fam 130 c), ⟨[(2, .ptr 102 0), (5, .ptr 119 0), (6, .bool ag), (8, .ptr 108 0), (9, .int .i64 (k : Nat)), (27, .sl 0 2 (s.aws.map (Aw.row 0))), (28, .int .i64 (s.aws.length : Nat)), (29, .int .i64 (i : Nat)), (64, .sl 0 2 (EL.map Qek)), (65, .int .i64 2), (66, .int .i64 (j : Nat))], WM s L [(108, .box [.str (s.aws.getD i default).nm, .sl 0 1 ((s.aws.getD i default).pts.map Ko)])]⟩, GV _ _, so, ?_, ?_⟩
                · refine Qmk (L := L) (B := [_, _, _, _, _, _, _, _]) hok ?_ (hB1 _ rfl) (WZ (by repeat' (first | exact Xs | refine YV (by omega) ?_))) (by simp [Qx, Qo, WM, dom]) (by simp [Qb, Qo, Qx])
                  simp only [Qkr, ren, s102, s108, s119]
                  exact by repeat' (first | exact trivial | refine ⟨.inr rfl, ?_⟩)
                · simp (config := { maxSteps := 2000000 }) only [bitvec_to_nat, reduceIte, Nat.reduceEqDiff, Nat.reduceAdd, Nat.reduceLeDiff, reduceCtorEq, Nat.reduceBEq, Nat.reduceLT, Nat.reduceMod, List.forall_mem_cons, JA, Ky, Jz, YS, keepB, Kz, YY, Gg, Zf, Xb, Qr, Qt, Qa, Yw, Ql, List.take_length, List.length_cons, List.length_nil, Nat.zero_add, Ko, Yx, Yy, YG, Zone.row, Qj, QK, Pt.row, Qs, Jw, Aw.row, Qv, Jx, Blk.row, Qg, Qp, Sec.row, Qh, Qu, Rw.row, Qw, Jy, Qi, Int.toNat_natCast, Nat.sub_zero, List.length_map, List.append_nil, kf, hR, Qek, elp, k1, k2, Xi, G0, l1, l2, Option.isSome_some, Option.isSome_none, wvO, ow, t1, WM, gB, gB0, sB, sB0, bA, hg1, hg2, YI, Y5, List.append_assoc, List.cons_append, List.nil_append, G2, G1, W0, noref, YT, Int.reduceToNat, Nat.mul_one, Nat.reduceMul]
                  refine ⟨⟨by omega, by omega⟩, go L c ag hok hcz ?_⟩
                  exact (hp.skip (x := (EL.getD j default).1) (y := (EL.getD j default).2) fun w' hw' => by rw [hlL] at hw'; cases hw'; exact ⟨o, hlO, hb⟩).weak (nextS j)
        · have ej : j = 2 := by omega
          subst ej
          unfold XK; simp (config := { maxSteps := 2000000 }) only [bitvec_to_nat, reduceIte, Nat.reduceEqDiff, Nat.reduceAdd, Nat.reduceLeDiff, reduceCtorEq, Nat.reduceBEq, Nat.reduceLT, Nat.reduceMod, List.forall_mem_cons, JA, Ky, Jz, YS, keepB, Kz, YY, Gg, Zf, Xb, Qr, Qt, Qa, Yw, Ql, List.take_length, List.length_cons, List.length_nil, Nat.zero_add, Ko, Yx, Yy, YG, Zone.row, Qj, QK, Pt.row, Qs, Jw, Aw.row, Qv, Jx, Blk.row, Qg, Qp, Sec.row, Qh, Qu, Rw.row, Qw, Jy, Qi, Int.toNat_natCast, Nat.sub_zero, List.length_map, List.append_nil, kf, hR, Qek, elp, k1, k2, Xi, G0, l1, l2, Option.isSome_some, Option.isSome_none, wvO, ow, t1, WM, gB, gB0, sB, sB0, bA, hg1, hg2, YI, Y5, List.append_assoc, List.cons_append, List.nil_append, G2, G1, W0, noref, YT, Int.reduceToNat, Nat.mul_one, Nat.reduceMul]
          refine ⟨fun h => absurd h (by omega), fun _ => ⟨⟨by omega, by omega⟩, ?_⟩⟩
          refine hN3 (((L, c), ag), k + 1) _ (Qje hok ?_ (by simp [getM]) (b8 _) (by simp [Qx, Qo, WM, dom]) (by simp [Qb, Qo, Qx])) ⟨⟨by simp only; omega, by simp only; omega⟩, hok, hcz, hp.weak fun x y h => ?_⟩ (by simp only; omega)
          · exact by repeat' (first | exact trivial | refine ⟨.inr rfl, ?_⟩)
          rcases h with h | ⟨k', h1, h2⟩
          · exact .inl (.inl h)
          · rcases Nat.lt_or_ge k' k with q | q
            · exact .inl (.inr ⟨k', q, h2⟩)
            · have e : k' = k := by omega
              subst e; subst hEL
              rcases h2.2.2 with ⟨rfl, rfl⟩ | ⟨rfl, rfl⟩
              · exact .inr ⟨0, by omega, rfl⟩
              · exact .inr ⟨1, by omega, rfl⟩
      · unfold Zw; simp (config := { maxSteps := 2000000 }) only [bitvec_to_nat, reduceIte, Nat.reduceEqDiff, Nat.reduceAdd, Nat.reduceLeDiff, reduceCtorEq, Nat.reduceBEq, Nat.reduceLT, Nat.reduceMod, List.forall_mem_cons, JA, Ky, Jz, YS, keepB, Kz, YY, Gg, Zf, Xb, Qr, Qt, Qa, Yw, Ql, List.take_length, List.length_cons, List.length_nil, Nat.zero_add, Ko, Yx, Yy, YG, Zone.row, Qj, QK, Pt.row, Qs, Jw, Aw.row, Qv, Jx, Blk.row, Qg, Qp, Sec.row, Qh, Qu, Rw.row, Qw, Jy, Qi, Int.toNat_natCast, Nat.sub_zero, List.length_map, List.append_nil, kf, hR, Qek, elp, k1, k2, Xi, G0, l1, l2, Option.isSome_some, Option.isSome_none, wvO, ow, t1, WM, gB, gB0, sB, sB0, bA, hg1, hg2, YI, Y5, List.append_assoc, List.cons_append, List.nil_append, G2, G1, W0, noref, YT, Int.reduceToNat, Nat.mul_one, Nat.reduceMul]
        refine ⟨fun h => absurd h (by omega), fun _ => ⟨⟨by omega, by omega⟩, ?_⟩⟩
        refine hN2 (((L, c), ag), i + 1) _ ?_ ⟨by simp only; omega, hok, hcz, hp.weak fun x y h => ?_⟩ (by simp only; omega)
        · refine Qje (s := s) (L := L) hok ?_ (by simp) (YV (by omega) Xs) (by simp [Qx, Qo, WM, dom]) (by simp)
          exact by repeat' (first | exact trivial | refine ⟨.inr rfl, ?_⟩)
        obtain ⟨i', h1, h2, k', h3⟩ := h
        rcases Nat.lt_or_ge i' i with q | q
        · exact .inl ⟨i', q, h2, k', h3⟩
        · have e : i' = i := by omega
          subst e
          exact .inr ⟨k', by have := h3.1; omega, h3⟩
    · have ei : i = s.aws.length := by omega
      subst ei
      unfold Zx; simp (config := { maxSteps := 2000000 }) only [bitvec_to_nat, reduceIte, Nat.reduceEqDiff, Nat.reduceAdd, Nat.reduceLeDiff, reduceCtorEq, Nat.reduceBEq, Nat.reduceLT, Nat.reduceMod, List.forall_mem_cons, JA, Ky, Jz, YS, keepB, Kz, YY, Gg, Zf, Xb, Qr, Qt, Qa, Yw, Ql, List.take_length, List.length_cons, List.length_nil, Nat.zero_add, Ko, Yx, Yy, YG, Zone.row, Qj, QK, Pt.row, Qs, Jw, Aw.row, Qv, Jx, Blk.row, Qg, Qp, Sec.row, Qh, Qu, Rw.row, Qw, Jy, Qi, Int.toNat_natCast, Nat.sub_zero, List.length_map, List.append_nil, kf, hR, Qek, elp, k1, k2, Xi, G0, l1, l2, Option.isSome_some, Option.isSome_none, wvO, ow, t1, WM, gB, gB0, sB, sB0, bA, hg1, hg2, YI, Y5, List.append_assoc, List.cons_append, List.nil_append, G2, G1, W0, noref, YT, Int.reduceToNat, Nat.mul_one, Nat.reduceMul]
      refine ⟨fun h => absurd h (by omega), fun _ => ?_⟩
      refine hN ((L, c), ag) _ ?_ ⟨hok, hcz, hp.1, fun he x y hxy => ?_⟩ ?_
      · refine Qoy hok ?_ (by simp [Qx, Qo, WM, dom])
        exact by repeat' (first | exact trivial | refine ⟨.inr rfl, ?_⟩)
      · rcases hp.2 with ⟨_, _, q⟩ | ⟨q, _⟩
        · obtain ⟨i', h1, k', h2⟩ := hxy
          exact q x y ⟨i', h1, h1, k', h2⟩
        · simp only at he; rw [he] at q; cases q
      · rcases hp.2 with ⟨q, q2, _⟩ | ⟨q, q2⟩
        · subst q
          simp only at q2 ⊢
          rw [q2]; simp
        · subst q; simp only [if_true]; omega
end
end Go.Ve

namespace Go.Ve
noncomputable section
open Go.Proofs
set_option linter.unusedSimpArgs false
set_option linter.unusedVariables false
set_option maxRecDepth 100000
open Classical in
def Qmm (s : Sky) (a b : Nm) : List Nm := if h : ∃ m, Lst (V4 s) (dS s) m a b then h.choose else []
def QfE (s : Sky) (a b : Nm) : List Nm := if 0 ≤ Xm s.pts a ∧ 0 ≤ Xm s.pts b then Qmm s a b else []
theorem QgX {s : Sky} {a b : Nm} {m : List Nm} (h : Lst (V4 s) (dS s) m a b) : Qmm s a b = m := by
  have hx : ∃ m, Lst (V4 s) (dS s) m a b := ⟨m, h⟩
  unfold Qmm
  rw [dif_pos hx]
  exact hx.choose_spec.uniq h
theorem Qiq {s : Sky} {a b : Nm} (h : ∀ u, ¬ wk (V4 s) u a b) : Qmm s a b = [] := by
  unfold Qmm
  rw [dif_neg]
  rintro ⟨m, hm⟩; exact h m hm.1
theorem QgY {s : Sky} {a b : Nm} {L : ML} (h : BInv (V4 s) (dS s) (G6 s) a (Zh L)) (k : ∀ x y, V4 s x y → Fx (dS s) L x y) :
    (∀ u, Zh L b = some u → Lst (V4 s) (dS s) u a b) ∧ (Zh L b = none → ∀ u, ¬ wk (V4 s) u a b) :=
  QoZ h.w h.z (fun x y w ha hw => k x y ha w hw) b
theorem Qj5 {s : Sky} (hs : s.small) (hv : s.valid) {a : Nm} (ha : 0 ≤ Xm s.pts a) (b : Nm) : Lst (V4 s) (dS s) (Qmm s a b) a b ∨ Qmm s a b = [] ∧ ∀ u, ¬ wk (V4 s) u a b := by
  obtain ⟨L, ⟨_, h, k⟩, _⟩ := Qjf s a hs hv ha
  obtain ⟨h1, h2⟩ := QgY (b := b) h k
  cases e : Zh (prj L) b with
  | none => exact .inr ⟨Qiq (h2 e), h2 e⟩
  | some u => have := h1 u e; exact .inl (by rw [QgX this]; exact this)
theorem Qir {s : Sky} (hv : s.valid) {a b : Nm} (ha : 0 ≤ Xm s.pts a) {m : List Nm} (h : Lst (V4 s) (dS s) m a b) : m.Nodup ∧ (∀ z ∈ m, z ∈ G6 s) ∧ m.length ≤ s.pts.length := by
  have h1 := h.nodup (QnI s)
  have h2 : ∀ z ∈ m, z ∈ G6 s := Qgh (fun a b h => QaZ hv h) h.1 (QcY ha)
  have := V9 h1 h2
  rw [G4] at this
  exact ⟨h1, h2, this⟩
theorem Qrd {s : Sky} (hs : s.small) (hv : s.valid) {a to : Nm} (ha : 0 ≤ Xm s.pts a) {B : List (List Nm)} (h : Qmb s to B) : B.getD (Xm s.pts a).toNat [] = Qmm s a to := by
  obtain ⟨p1, p2, p3⟩ := V3 ha
  have e : (G6 s).getD (Xm s.pts a).toNat default = a := by rw [WC p1, p2]
  rcases Qj5 hs hv ha to with q | ⟨q, k⟩
  · exact h.2.1 _ p1 _ (by rw [e]; exact q) (Qir hv ha q).2.2
  · rw [q]
    by_cases hb : B.getD (Xm s.pts a).toNat [] = []
    · exact hb
    · have := h.1.2 _ (by rw [G4]; exact p1) hb
      rw [e] at this
      exact absurd this (k _)
theorem QnU {s : Sky} (hs : s.small) (hv : s.valid) (a b : Nm) : (∀ z ∈ QfE s a b, 0 ≤ Xm s.pts z) ∧ (QfE s a b).length ≤ 16 := by
  unfold QfE
  split
  · rename_i h
    rcases Qj5 hs hv h.1 b with q | ⟨q, _⟩
    · obtain ⟨_, h2, h3⟩ := Qir hv h.1 q
      exact ⟨fun z hz => Qfd (h2 z hz), Nat.le_trans h3 hv.2.1.1⟩
    · rw [q]; exact ⟨fun z hz => by simp at hz, by simp⟩
  · exact ⟨fun z hz => by simp at hz, by simp⟩
def Qfr (s : Sky) (a b : Nm) : List Nm := if s.valid then QfE s a b else []
theorem Qoz : ∀ l : List (List Nm), GW (l.map QdL)
  | [] => trivial
  | x :: l => ⟨⟨⟨by omega, G3 _⟩, trivial⟩, Qoz l⟩
open Classical in
def Qmn (s : Sky) (to : Nm) : List (List Nm) := if h : ∃ B, Qmb s to B ∧ Contract P 72 [.agg (s.row 0), .str to] [] (.sl 0 1 (B.map QdL)) [] then h.choose else []
theorem Qj6 (s : Sky) (to : Nm) (hs : s.small) (hv : s.valid) (ht : 0 ≤ Xm s.pts to) : Qmb s to (Qmn s to) ∧ Contract P 72 [.agg (s.row 0), .str to] [] (.sl 0 1 ((Qmn s to).map QdL)) [] := by
  have h := QnP s to hs hv ht
  unfold Qmn
  rw [dif_pos h]
  exact h.choose_spec
def Qa7 : List AV → Option (Prop × AV)
  | [.agg [.int .i64 s_w, .int .i64 s_h, .int .i64 s_lv, .sl 0 3 s_pts, .sl 0 2 s_aws, .sl 0 2 s_secs, .sl 0 4 s_rws], .str to] => some ((((s_pts.map Y1).map Pt.row = s_pts) ∧ ((s_aws.map Y4).map (Aw.row 0) = s_aws) ∧ ((s_secs.map KC).map (Sec.row 0) = s_secs) ∧ ((s_rws.map Y2).map Rw.row = s_rws)) ∧ (Sky.small (Sky.mk s_w s_h s_lv (s_pts.map Y1) (s_aws.map Y4) (s_secs.map KC) (s_rws.map Y2)) ∧ Sky.valid (Sky.mk s_w s_h s_lv (s_pts.map Y1) (s_aws.map Y4) (s_secs.map KC) (s_rws.map Y2)) ∧ 0 ≤ Xm (Sky.pts (Sky.mk s_w s_h s_lv (s_pts.map Y1) (s_aws.map Y4) (s_secs.map KC) (s_rws.map Y2))) to), .sl 0 1 ((Qmn (Sky.mk s_w s_h s_lv (s_pts.map Y1) (s_aws.map Y4) (s_secs.map KC) (s_rws.map Y2)) to).map QdL))
  | _ => none
theorem Qj7 : ∀ args p v, Qa7 args = some (p, v) → p → Contract P 72 args [] v [] ∧ noref v = true ∧ No99 v := by
  intro args p v h1 h2
  unfold Qa7 at h1
  split at h1
  · rename_i s_w s_h s_lv s_pts s_aws s_secs s_rws to
    cases h1
    obtain ⟨⟨e0, e1, e2, e3⟩, HP⟩ := h2
    have := (Qj6 (Sky.mk s_w s_h s_lv (s_pts.map Y1) (s_aws.map Y4) (s_secs.map KC) (s_rws.map Y2)) to HP.1 HP.2.1 HP.2.2).2
    exact ⟨by simpa only [e0, e1, e2, e3, Sky.row] using this, rfl, by simp only [No99]; exact ⟨by omega, Qoz _⟩⟩
  · cases h1
set_option maxHeartbeats 1000000 in
theorem Qp1 (s : Sky) (a b : Nm) (hs : s.small) (hv : s.valid) : Contract P 33 [.agg (s.row 0), .str a, .str b] [] (.sl 0 1 ((QfE s a b).map Ko)) [] := by
  have hs' := hs
  unfold Sky.small at hs'
  by_cases hab : 0 ≤ Xm s.pts a ∧ 0 ≤ Xm s.pts b
  · have hB := (Qj6 s b hs hv hab.2).1
    have hW := Qrd hs hv hab.1 hB
    have e : QfE s a b = Qmm s a b := if_pos hab
    rw [e]
    have hBl : (Qmn s b).length = s.pts.length := by rw [hB.1.1, G4]
    obtain ⟨p1, p2, p3⟩ := V3 hab.1
    have tkw : True := trivial
    simp only [Sky.row]
    refine QP (((Env.nil P).add 71 Y6 Wy).add 72 Qa7 Qj7) hm QdE (Nat.le_of_ble_eq_true rfl) rfl ?_; unfold Qaz; simp (config := { maxSteps := 2000000 }) only [bitvec_to_nat, reduceIte, Nat.reduceEqDiff, Nat.reduceAdd, Nat.reduceLeDiff, reduceCtorEq, Nat.reduceBEq, Nat.reduceLT, Nat.reduceMod, List.forall_mem_cons, JA, Ky, Jz, YS, keepB, Kz, YY, Y6, Qa7, Qr, Qt, Qa, Yw, Ql, List.take_length, List.length_cons, List.length_nil, Nat.zero_add, Ko, Yx, Yy, YG, Zone.row, Qj, QK, Pt.row, Qs, Jw, Aw.row, Qv, Jx, Blk.row, Qg, Qp, Sec.row, Qh, Qu, Rw.row, Qw, Jy, Qi, Int.toNat_natCast, Nat.sub_zero, List.length_map, List.append_nil, tkw, hW, QdL, hBl]
    rw [← hW]
    refine ⟨by omega, fun h => by omega, fun _ => ⟨by omega, fun h => by omega, fun _ => ⟨⟨hs, hv, hab.2⟩, hab.1, by omega, ?_, rfl⟩⟩⟩
    have := hB.2.2 _ p1
    exact Nat.le_trans this (by omega)
  · have e : QfE s a b = [] := if_neg hab
    rw [e]
    have tkw : True := trivial
    have hW : True := trivial
    have hBl : True := trivial
    simp only [Sky.row]
    refine QP (((Env.nil P).add 71 Y6 Wy).add 72 Qa7 Qj7) hm QdE (Nat.le_of_ble_eq_true rfl) rfl ?_; unfold Qaz; simp (config := { maxSteps := 2000000 }) only [bitvec_to_nat, reduceIte, Nat.reduceEqDiff, Nat.reduceAdd, Nat.reduceLeDiff, reduceCtorEq, Nat.reduceBEq, Nat.reduceLT, Nat.reduceMod, List.forall_mem_cons, JA, Ky, Jz, YS, keepB, Kz, YY, Y6, Qa7, Qr, Qt, Qa, Yw, Ql, List.take_length, List.length_cons, List.length_nil, Nat.zero_add, Ko, Yx, Yy, YG, Zone.row, Qj, QK, Pt.row, Qs, Jw, Aw.row, Qv, Jx, Blk.row, Qg, Qp, Sec.row, Qh, Qu, Rw.row, Qw, Jy, Qi, Int.toNat_natCast, Nat.sub_zero, List.length_map, List.append_nil, tkw, hW, QdL, hBl]
    refine ⟨by omega, fun h => ⟨by omega, fun h2 => ?_⟩⟩
    exact absurd ⟨by omega, by omega⟩ hab
def QgZ : List AV → Option (Prop × AV)
  | [.agg [.int .i64 s_w, .int .i64 s_h, .int .i64 s_lv, .sl 0 3 s_pts, .sl 0 2 s_aws, .sl 0 2 s_secs, .sl 0 4 s_rws], .str a, .str b] => some ((((s_pts.map Y1).map Pt.row = s_pts) ∧ ((s_aws.map Y4).map (Aw.row 0) = s_aws) ∧ ((s_secs.map KC).map (Sec.row 0) = s_secs) ∧ ((s_rws.map Y2).map Rw.row = s_rws)) ∧ (Sky.small (Sky.mk s_w s_h s_lv (s_pts.map Y1) (s_aws.map Y4) (s_secs.map KC) (s_rws.map Y2)) ∧ Sky.valid (Sky.mk s_w s_h s_lv (s_pts.map Y1) (s_aws.map Y4) (s_secs.map KC) (s_rws.map Y2))), .sl 0 1 ((QfE (Sky.mk s_w s_h s_lv (s_pts.map Y1) (s_aws.map Y4) (s_secs.map KC) (s_rws.map Y2)) a b).map Ko))
  | _ => none
theorem Qp2 : ∀ args p v, QgZ args = some (p, v) → p → Contract P 33 args [] v [] ∧ noref v = true ∧ No99 v := by
  intro args p v h1 h2
  unfold QgZ at h1
  split at h1
  · rename_i s_w s_h s_lv s_pts s_aws s_secs s_rws a b
    cases h1
    obtain ⟨⟨e0, e1, e2, e3⟩, HP⟩ := h2
    have := Qp1 (Sky.mk s_w s_h s_lv (s_pts.map Y1) (s_aws.map Y4) (s_secs.map KC) (s_rws.map Y2)) a b HP.1 HP.2
    exact ⟨by simpa only [e0, e1, e2, e3, Sky.row] using this, rfl, by simp only [No99]; exact ⟨by omega, G3 _⟩⟩
  · cases h1
theorem Qg0 {s : Sky} {a b : Nm} (h : s.valid) : Qfr s a b = QfE s a b := if_pos h
theorem Qg1 {s : Sky} {a b : Nm} (h : ¬ s.valid) : Qfr s a b = [] := if_neg h
theorem Qmo (s : Sky) (a b : Nm) (hs : s.small) : Contract P 10 [.agg (s.row 0), .str a, .str b] [] (.sl 0 1 ((Qfr s a b).map Ko)) [] := by
  simp only [Sky.row]
  refine QP (((Env.nil P).add 32 WS Qi6).add 33 QgZ Qp2) hm Qgn (Nat.le_of_ble_eq_true rfl) rfl ?_; unfold Qco; simp (config := { maxSteps := 2000000 }) only [bitvec_to_nat, reduceIte, Nat.reduceEqDiff, Nat.reduceAdd, Nat.reduceLeDiff, reduceCtorEq, Nat.reduceBEq, Nat.reduceLT, Nat.reduceMod, List.forall_mem_cons, WS, QgZ, Qr, Qt, Qa, Yw, Ql, List.take_length, List.length_cons, List.length_nil, Nat.zero_add, Ko, Yx, Yy, YG, Zone.row, Qj, QK, Pt.row, Qs, Jw, Aw.row, Qv, Jx, Blk.row, Qg, Qp, Sec.row, Qh, Qu, Rw.row, Qw, Jy, Qi, Int.toNat_natCast, Nat.sub_zero, List.length_map, List.append_nil]
  refine ⟨hs, fun h => ⟨⟨hs, h⟩, ?_⟩, fun h => ?_⟩
  · rw [Qg0 h]
  · rw [Qg1 h]; rfl
def Ge : List AV → Option (Prop × AV)
  | [.agg [.int .i64 s_w, .int .i64 s_h, .int .i64 s_lv, .sl 0 3 s_pts, .sl 0 2 s_aws, .sl 0 2 s_secs, .sl 0 4 s_rws], .str a, .str b] => some ((((s_pts.map Y1).map Pt.row = s_pts) ∧ ((s_aws.map Y4).map (Aw.row 0) = s_aws) ∧ ((s_secs.map KC).map (Sec.row 0) = s_secs) ∧ ((s_rws.map Y2).map Rw.row = s_rws)) ∧ (Sky.small (Sky.mk s_w s_h s_lv (s_pts.map Y1) (s_aws.map Y4) (s_secs.map KC) (s_rws.map Y2))), .sl 0 1 ((Qfr (Sky.mk s_w s_h s_lv (s_pts.map Y1) (s_aws.map Y4) (s_secs.map KC) (s_rws.map Y2)) a b).map Ko))
  | _ => none
theorem Qis : ∀ args p v, Ge args = some (p, v) → p → Contract P 10 args [] v [] ∧ noref v = true ∧ No99 v := by
  intro args p v h1 h2
  unfold Ge at h1
  split at h1
  · rename_i s_w s_h s_lv s_pts s_aws s_secs s_rws a b
    cases h1
    obtain ⟨⟨e0, e1, e2, e3⟩, HP⟩ := h2
    have := Qmo (Sky.mk s_w s_h s_lv (s_pts.map Y1) (s_aws.map Y4) (s_secs.map KC) (s_rws.map Y2)) a b HP
    exact ⟨by simpa only [e0, e1, e2, e3, Sky.row] using this, rfl, by simp only [No99]; exact ⟨by omega, G3 _⟩⟩
  · cases h1
theorem Qmp {s : Sky} {a b : Nm} (h : ¬ (s.valid ∧ 0 ≤ Xm s.pts a ∧ 0 ≤ Xm s.pts b)) : Qfr s a b = [] := by
  by_cases hv : s.valid
  · rw [Qg0 hv]; unfold QfE; rw [if_neg fun k => h ⟨hv, k⟩]
  · exact Qg1 hv
theorem QoA {s : Sky} {a b : Nm} (hv : s.valid) (ha : 0 ≤ Xm s.pts a) (hb : 0 ≤ Xm s.pts b) : Qfr s a b = Qmm s a b := by rw [Qg0 hv]; exact if_pos ⟨ha, hb⟩
theorem QnV (s : Sky) (a b : Nm) (hs : s.small) : (Qfr s a b).length ≤ 16 := by
  by_cases hv : s.valid
  · rw [Qg0 hv]; exact (QnU hs hv a b).2
  · rw [Qg1 hv]; simp
set_option maxHeartbeats 2000000 in
theorem Qp3 (s : Sky) (a b : Nm) (hs : s.small) (hf : s.fitp) (hw : Qfr s a b ≠ []) : ∃ v, Contract P 11 [.agg (s.row 0), .str a, .str b] [] (.own 110 v 0 (Qfr s a b).length) [(110, .arr 9 v 1 ((Qfr s a b).map Ko))] := by
  have hv : s.valid := Classical.byContradiction fun k => hw (Qg1 k)
  have hab : s.valid ∧ 0 ≤ Xm s.pts a ∧ 0 ≤ Xm s.pts b := Classical.byContradiction fun k => hw (Qmp k)
  obtain ⟨_, ha, hb⟩ := hab
  obtain ⟨L, ⟨⟨c, hok⟩, h1, h2⟩, hC⟩ := Qjf s a hs hv ha
  obtain ⟨g1, g2⟩ := QgY (b := b) h1 h2
  rw [QoA hv ha hb] at hw ⊢
  have kb := Qc1 hv hb
  simp only [Sky.row] at hC
  cases l1 : QbY L b with
  | none => exact absurd (Qiq (g2 (by rw [VW, l1]; rfl))) hw
  | some p =>
    obtain ⟨w, id⟩ := p
    have hl : Zh (prj L) b = some w := by rw [VW, l1]; rfl
    have e : Qmm s a b = w := QgX (g1 w hl)
    rw [e] at hw ⊢
    have hmm := Qej l1
    have hg1 : getM (oO L) (fam 130 id) = some (.arr 9 (vr id) 1 (w.map Ko)) := QfZ hok hmm
    have hpw : (oO L).Pairwise fun a b => a.1 ≠ b.1 := by
      unfold oO; rw [List.pairwise_map]; exact hok.2.imp fun h e => h (WO e)
    have apX : ∀ x y, YU [(103, x)] ((119, y) :: oO L) = (103, x) :: ((oO L).reverse ++ [(119, y)]) := fun x y => by
      rw [aU]
      · simp
      · intro p hp
        rcases List.mem_cons.1 hp with rfl | hp
        · simp [getM]
        · have := Zd p hp
          simp only [getM, if_neg (show ¬ p.1 = 103 by omega)]
      · refine List.pairwise_cons.2 ⟨fun p hp => ?_, hpw⟩
        have := Zd p hp
        (try simp only); omega
    have hgA : ∀ x y, getM ((103, x) :: ((oO L).reverse ++ [(119, y)])) 119 = some y := fun x y => by
      simp only [getM, Nat.reduceEqDiff, if_false]
      rw [Gj (gB0 (Qd8 Zd) (by omega))]
      rfl
    have hgB : ∀ x y, getM ((103, x) :: ((oO L).reverse ++ [(119, y)])) (fam 130 id) = some (.arr 9 (vr id) 1 (w.map Ko)) := fun x y => by
      simp only [getM, YI, Nat.reduceLT, if_false]
      exact XS (by rw [Qgl hpw]; exact hg1)
    have hC2 : Contract P 11 [.agg (s.row 0), .str a, .str b] [] (.own (fam 130 id) (vr id) 0 w.length) [(fam 130 id, .arr 9 (vr id) 1 (w.map Ko))] := by
      simp only [Sky.row]
      refine QP (((Env.nil P).add 25 Xn QbV).add 26 Gg Qeh) hm V5 (Nat.le_of_ble_eq_true rfl) rfl ?_; unfold ZW; simp (config := { maxSteps := 2000000 }) only [bitvec_to_nat, reduceIte, Nat.reduceEqDiff, Nat.reduceAdd, Nat.reduceLeDiff, reduceCtorEq, Nat.reduceBEq, Nat.reduceLT, Nat.reduceMod, List.forall_mem_cons, JA, Ky, Jz, YS, keepB, Kz, YY, Xn, Gg, Qr, Qt, Qa, Yw, Ql, List.take_length, List.length_cons, List.length_nil, Nat.zero_add, Ko, Yx, Yy, YG, Zone.row, Qj, QK, Pt.row, Qs, Jw, Aw.row, Qv, Jx, Blk.row, Qg, Qp, Sec.row, Qh, Qu, Rw.row, Qw, Jy, Qi, Int.toNat_natCast, Nat.sub_zero, List.length_map, List.append_nil, Xi, G0, l1, Option.isSome_some, Option.isSome_none, wvO, ow, G2, G1, noref, YT, KH, apX, hgA, hgB]
      refine ⟨⟨hs, hf⟩, fun _ => ⟨hs, fun h => by omega, fun _ => ⟨hs, fun h => by omega, fun _ => ?_⟩⟩, fun h => absurd hv h⟩
      refine ⟨_, _, .inr (.inr (.inl ⟨_, rfl, hC, fun p hp => ?_, by simp [Qx, dom], ?_, by simp [No99], fun p hp => ?_⟩)), ?_⟩
      · rcases List.mem_cons.1 hp with rfl | hp
        · simp [getM]
        · have := Zd p hp
          simp only [getM, if_neg (show ¬ p.1 = 103 by omega)]
      · simp only [List.all_cons, Bool.and_eq_true]
        refine ⟨?_, QgU⟩
        simp only [Qb]
        rw [if_neg (by omega)]
        exact QgV fun p hp => List.mem_cons_of_mem _ (Qj4 hp)
      · rcases List.mem_cons.1 hp with rfl | hp
        · exact Qmh _ _
        · exact Qmi L p hp
      · simp (config := { maxSteps := 2000000 }) only [bitvec_to_nat, reduceIte, Nat.reduceEqDiff, Nat.reduceAdd, Nat.reduceLeDiff, reduceCtorEq, Nat.reduceBEq, Nat.reduceLT, Nat.reduceMod, List.forall_mem_cons, JA, Ky, Jz, YS, keepB, Kz, YY, Xn, Gg, Qr, Qt, Qa, Yw, Ql, List.take_length, List.length_cons, List.length_nil, Nat.zero_add, Ko, Yx, Yy, YG, Zone.row, Qj, QK, Pt.row, Qs, Jw, Aw.row, Qv, Jx, Blk.row, Qg, Qp, Sec.row, Qh, Qu, Rw.row, Qw, Jy, Qi, Int.toNat_natCast, Nat.sub_zero, List.length_map, List.append_nil, Xi, G0, l1, Option.isSome_some, Option.isSome_none, wvO, ow, G2, G1, noref, YT, KH, apX, hgA, hgB]
        refine ⟨kb, by simp [Qx], ?_⟩
        simp only [Bool.true_or, Bool.true_and]
        rw [List.all_eq_true]
        intro o ho
        simp only [List.map_append, List.mem_append, List.map_cons, List.map_nil, List.mem_singleton, List.map_reverse, List.mem_reverse] at ho
        rcases ho with ho | rfl
        · obtain ⟨p, hp, rfl⟩ := List.mem_map.1 ho
          have := Qa1 p hp
          simp [this]
        · simp
    have h := hC2.ren (swp (fam 130 id) 110) (GV _ _)
    rw [show Ui (swp (fam 130 id) 110) [AV.agg (s.row 0), .str a, .str b] = [AV.agg (s.row 0), .str a, .str b] from rfl] at h
    simp only [ren, ZB, renO, swp, if_true, show 9 < 1000000 from by omega] at h
    exact ⟨_, h⟩
theorem Qp4 (s : Sky) (a b : Nm) (hs : s.small) (hf : s.fitp) (hw : Qfr s a b = []) : Contract P 11 [.agg (s.row 0), .str a, .str b] [] (.sl 98 1 []) [] := by
  have l1 : True := trivial
  have hg1 : True := trivial
  have apX : True := trivial
  have hgA : True := trivial
  have hgB : True := trivial
  simp only [Sky.row]
  by_cases hab : s.valid ∧ 0 ≤ Xm s.pts a ∧ 0 ≤ Xm s.pts b
  · obtain ⟨hv, ha, hb⟩ := hab
    obtain ⟨L, ⟨⟨c, hok⟩, h1, h2⟩, hC⟩ := Qjf s a hs hv ha
    obtain ⟨g1, g2⟩ := QgY (b := b) h1 h2
    rw [QoA hv ha hb] at hw
    have kb := Qc1 hv hb
    have l1 : QbY L b = none := by
      cases e : QbY L b with
      | none => rfl
      | some p =>
        have := g1 p.1 (by rw [VW, e]; rfl)
        exact absurd (by rw [← hw, QgX this]) (QiV this.1)
    simp only [Sky.row] at hC
    have hpw : (oO L).Pairwise fun a b => a.1 ≠ b.1 := by
      unfold oO; rw [List.pairwise_map]; exact hok.2.imp fun h e => h (WO e)
    have apX : ∀ x y, YU [(103, x)] ((119, y) :: oO L) = (103, x) :: ((oO L).reverse ++ [(119, y)]) := fun x y => by
      rw [aU]
      · simp
      · intro p hp
        rcases List.mem_cons.1 hp with rfl | hp
        · simp [getM]
        · have := Zd p hp
          simp only [getM, if_neg (show ¬ p.1 = 103 by omega)]
      · refine List.pairwise_cons.2 ⟨fun p hp => ?_, hpw⟩
        have := Zd p hp
        (try simp only); omega
    have hgA : ∀ x y, getM ((103, x) :: ((oO L).reverse ++ [(119, y)])) 119 = some y := fun x y => by
      simp only [getM, Nat.reduceEqDiff, if_false]
      rw [Gj (gB0 (Qd8 Zd) (by omega))]
      rfl
    refine QP (((Env.nil P).add 25 Xn QbV).add 26 Gg Qeh) hm V5 (Nat.le_of_ble_eq_true rfl) rfl ?_; unfold ZW; simp (config := { maxSteps := 2000000 }) only [bitvec_to_nat, reduceIte, Nat.reduceEqDiff, Nat.reduceAdd, Nat.reduceLeDiff, reduceCtorEq, Nat.reduceBEq, Nat.reduceLT, Nat.reduceMod, List.forall_mem_cons, JA, Ky, Jz, YS, keepB, Kz, YY, Xn, Gg, Qr, Qt, Qa, Yw, Ql, List.take_length, List.length_cons, List.length_nil, Nat.zero_add, Ko, Yx, Yy, YG, Zone.row, Qj, QK, Pt.row, Qs, Jw, Aw.row, Qv, Jx, Blk.row, Qg, Qp, Sec.row, Qh, Qu, Rw.row, Qw, Jy, Qi, Int.toNat_natCast, Nat.sub_zero, List.length_map, List.append_nil, Xi, G0, l1, Option.isSome_some, Option.isSome_none, wvO, ow, G2, G1, noref, YT, KH, apX, hgA, hgB]
    refine ⟨⟨hs, hf⟩, fun _ => ⟨hs, fun _ => ⟨hs, fun _ => ?_⟩⟩⟩
    refine ⟨_, _, .inr (.inr (.inl ⟨_, rfl, hC, fun p hp => ?_, by simp [Qx, dom], ?_, by simp [No99], fun p hp => ?_⟩)), ?_⟩
    · rcases List.mem_cons.1 hp with rfl | hp
      · simp [getM]
      · have := Zd p hp
        simp only [getM, if_neg (show ¬ p.1 = 103 by omega)]
    · simp only [List.all_cons, Bool.and_eq_true]
      refine ⟨?_, QgU⟩
      simp only [Qb]
      rw [if_neg (by omega)]
      exact QgV fun p hp => List.mem_cons_of_mem _ (Qj4 hp)
    · rcases List.mem_cons.1 hp with rfl | hp
      · exact Qmh _ _
      · exact Qmi L p hp
    · simp (config := { maxSteps := 2000000 }) only [bitvec_to_nat, reduceIte, Nat.reduceEqDiff, Nat.reduceAdd, Nat.reduceLeDiff, reduceCtorEq, Nat.reduceBEq, Nat.reduceLT, Nat.reduceMod, List.forall_mem_cons, JA, Ky, Jz, YS, keepB, Kz, YY, Xn, Gg, Qr, Qt, Qa, Yw, Ql, List.take_length, List.length_cons, List.length_nil, Nat.zero_add, Ko, Yx, Yy, YG, Zone.row, Qj, QK, Pt.row, Qs, Jw, Aw.row, Qv, Jx, Blk.row, Qg, Qp, Sec.row, Qh, Qu, Rw.row, Qw, Jy, Qi, Int.toNat_natCast, Nat.sub_zero, List.length_map, List.append_nil, Xi, G0, l1, Option.isSome_some, Option.isSome_none, wvO, ow, G2, G1, noref, YT, KH, apX, hgA, hgB]
      refine ⟨kb, ?_⟩
      rw [List.all_eq_true]
      intro o ho
      simp only [List.map_append, List.mem_append, List.map_cons, List.map_nil, List.mem_singleton, List.map_reverse, List.mem_reverse] at ho
      rcases ho with ho | rfl
      · obtain ⟨p, hp, rfl⟩ := List.mem_map.1 ho
        have := Qa1 p hp
        simp [this]
      · simp
  · refine QP (((Env.nil P).add 25 Xn QbV).add 26 Gg Qeh) hm V5 (Nat.le_of_ble_eq_true rfl) rfl ?_; unfold ZW; simp (config := { maxSteps := 2000000 }) only [bitvec_to_nat, reduceIte, Nat.reduceEqDiff, Nat.reduceAdd, Nat.reduceLeDiff, reduceCtorEq, Nat.reduceBEq, Nat.reduceLT, Nat.reduceMod, List.forall_mem_cons, JA, Ky, Jz, YS, keepB, Kz, YY, Xn, Gg, Qr, Qt, Qa, Yw, Ql, List.take_length, List.length_cons, List.length_nil, Nat.zero_add, Ko, Yx, Yy, YG, Zone.row, Qj, QK, Pt.row, Qs, Jw, Aw.row, Qv, Jx, Blk.row, Qg, Qp, Sec.row, Qh, Qu, Rw.row, Qw, Jy, Qi, Int.toNat_natCast, Nat.sub_zero, List.length_map, List.append_nil, Xi, G0, l1, Option.isSome_some, Option.isSome_none, wvO, ow, G2, G1, noref, YT, KH, apX, hgA, hgB]
    exact ⟨⟨hs, hf⟩, fun hv => ⟨hs, fun ha => ⟨hs, fun hb => absurd ⟨hv, by omega, by omega⟩ hab⟩⟩⟩
end
end Go.Ve

namespace Go.Ve
open Go.Proofs
set_option maxRecDepth 100000
def XE : SCode := (.seq (jq [jm 8 4 [],jm 9 0 [],jn 10 (.lenL (.v 9)) [9],jb 11 .lss 8 10 [8,10]] [0,3,4,11] (.cond (.v 11) .skip (.exit 0))) (.seq (.block 1 (.rg [jm 14 3 [],jm 15 4 [],jm 16 0 [],jm 17 4 [],ja 18 2 16 17 [16,17],jL 19 2 18 [18],jn 20 (.call 45 [.v 19]) [19],ja 21 2 14 15 [14,15],⟨none,.store 2 (.v 21) (.v 20),none,[20,21]⟩] [0,3,4])) (.rg [jm 12 4 [4],jn 13 (.binN .add (.v 12) (ci 1)) [12],jm 4 13 [13]] [0,3,4])))
/-- laws.toSkyAirwayS: function 22 -/
def UH : SFun := { n := 23,res := [.t 2],body := (jq [jn 2 (.mv (.c (.sl 0 2 []))) [2]] [0] (jq [jm 5 0 [],jn 6 (.lenL (.v 5)) [5],⟨some 7,.mk 107 1000084 2 [.str ⟨#[]⟩,.sl 0 1 []] (.v 6),none,[6]⟩,jm 3 7 [7]] [0,3] (.seq (jq [jI 4 0 []] [0,3,4] (.block 0 (.loop XE))) (jq [jm 22 3 [3],jm 2 22 [22]] [2] .ret)))) }
theorem Qbi : YM Go.Proofs.Tryd.prog 22 UH = true := by kernel_rfl
def XF : SCode := (.seq (jq [jm 8 4 [],jm 9 0 [],jn 10 (.lenL (.v 9)) [9],jb 11 .lss 8 10 [8,10]] [0,3,4,11] (.cond (.v 11) .skip (.exit 0))) (.seq (.block 1 (.rg [jm 14 3 [],jm 15 4 [],jm 16 0 [],jm 17 4 [],ja 18 2 16 17 [16,17],jL 19 2 18 [18],jn 20 (.call 46 [.v 19]) [19],ja 21 2 14 15 [14,15],⟨none,.store 2 (.v 21) (.v 20),none,[20,21]⟩] [0,3,4])) (.rg [jm 12 4 [4],jn 13 (.binN .add (.v 12) (ci 1)) [12],jm 4 13 [13]] [0,3,4])))
/-- laws.toSkySectorS: function 23 -/
def UI : SFun := { n := 23,res := [.t 2],body := (jq [jn 2 (.mv (.c (.sl 0 2 []))) [2]] [0] (jq [jm 5 0 [],jn 6 (.lenL (.v 5)) [5],⟨some 7,.mk 107 1000088 2 [.str ⟨#[]⟩,.sl 0 6 []] (.v 6),none,[6]⟩,jm 3 7 [7]] [0,3] (.seq (jq [jI 4 0 []] [0,3,4] (.block 0 (.loop XF))) (jq [jm 22 3 [3],jm 2 22 [22]] [2] .ret)))) }
theorem Qbj : YM Go.Proofs.Tryd.prog 23 UI = true := by kernel_rfl
def Vg : SCode := (.seq (jq [jm 8 4 [],jm 9 0 [],jn 10 (.lenL (.v 9)) [9],jb 11 .lss 8 10 [8,10]] [0,3,4,11] (.cond (.v 11) .skip (.exit 0))) (.seq (.block 1 (.rg [jm 14 3 [],jm 15 4 [],jm 16 0 [],jm 17 4 [],ja 18 1 16 17 [16,17],jl 19 18 [18],ja 20 1 14 15 [14,15],⟨none,.store 1 (.v 20) (.v 19),none,[19,20]⟩] [0,3,4])) (.rg [jm 12 4 [4],jn 13 (.binN .add (.v 12) (ci 1)) [12],jm 4 13 [13]] [0,3,4])))
/-- laws.toStringS: function 78 -/
def WD : SFun := { n := 22,res := [.t 2],body := (jq [jn 2 (.mv (.c (.sl 0 1 []))) [2]] [0] (jq [jm 5 0 [],jn 6 (.lenL (.v 5)) [5],⟨some 7,.mk 107 9 1 [.str ⟨#[]⟩] (.v 6),none,[6]⟩,jm 3 7 [7]] [0,3] (.seq (jq [jI 4 0 []] [0,3,4] (.block 0 (.loop Vg))) (jq [jm 21 3 [3],jm 2 21 [21]] [2] .ret)))) }
theorem Qdp : YM Go.Proofs.Tryd.prog 78 WD = true := by kernel_rfl
def Ud : SCode := (.seq (jq [jm 8 4 [],jm 9 0 [],jn 10 (.lenL (.v 9)) [9],jb 11 .lss 8 10 [8,10]] [0,3,4,11] (.cond (.v 11) .skip (.exit 0))) (.seq (.block 1 (.rg [jm 14 3 [],jm 15 4 [],jm 16 0 [],jm 17 4 [],ja 18 3 16 17 [16,17],jL 19 3 18 [18],jn 20 (.call 44 [.v 19]) [19],ja 21 3 14 15 [14,15],⟨none,.store 3 (.v 21) (.v 20),none,[20,21]⟩] [0,3,4])) (.rg [jm 12 4 [4],jn 13 (.binN .add (.v 12) (ci 1)) [12],jm 4 13 [13]] [0,3,4])))
/-- laws.toSkyPointS: function 21 -/
def Vh : SFun := { n := 23,res := [.t 2],body := (jq [jn 2 (.mv (.c (.sl 0 3 []))) [2]] [0] (jq [jm 5 0 [],jn 6 (.lenL (.v 5)) [5],⟨some 7,.mk 107 82 3 [.str ⟨#[]⟩,.int .i64 0,.int .i64 0] (.v 6),none,[6]⟩,jm 3 7 [7]] [0,3] (.seq (jq [jI 4 0 []] [0,3,4] (.block 0 (.loop Ud))) (jq [jm 22 3 [3],jm 2 22 [22]] [2] .ret)))) }
theorem QbZ : YM Go.Proofs.Tryd.prog 21 Vh = true := by kernel_rfl
def Ue : SCode := (.seq (jq [jm 8 4 [],jm 9 0 [],jn 10 (.lenL (.v 9)) [9],jb 11 .lss 8 10 [8,10]] [0,3,4,11] (.cond (.v 11) .skip (.exit 0))) (.seq (.block 1 (.rg [jm 14 3 [],jm 15 4 [],jm 16 0 [],jm 17 4 [],ja 18 6 16 17 [16,17],jL 19 6 18 [18],jn 20 (.call 93 [.v 19]) [19],ja 21 6 14 15 [14,15],⟨none,.store 6 (.v 21) (.v 20),none,[20,21]⟩] [0,3,4])) (.rg [jm 12 4 [4],jn 13 (.binN .add (.v 12) (ci 1)) [12],jm 4 13 [13]] [0,3,4])))
/-- laws.toSkyBlockS: function 79 -/
def Vi : SFun := { n := 23,res := [.t 2],body := (jq [jn 2 (.mv (.c (.sl 0 6 []))) [2]] [0] (jq [jm 5 0 [],jn 6 (.lenL (.v 5)) [5],jn 7 (.mk 107 99 6 [.int .i64 0,.int .i64 0,.int .i64 0,.int .i64 0,.int .i64 0,.int .i64 0] (.v 6)) [6],jm 3 7 [7]] [0,3] (.seq (jq [jI 4 0 []] [0,3,4] (.block 0 (.loop Ue))) (jq [jm 22 3 [3],jm 2 22 [22]] [2] .ret)))) }
theorem Qb0 : YM Go.Proofs.Tryd.prog 79 Vi = true := by kernel_rfl
def ZE : SCode := (.seq (jq [jm 8 4 [],jm 9 0 [],jn 10 (.lenL (.v 9)) [9],jb 11 .lss 8 10 [8,10]] [0,3,4,11] (.cond (.v 11) .skip (.exit 0))) (.seq (.block 1 (.rg [jm 14 3 [],jm 15 4 [],jm 16 0 [],jm 17 4 [],ja 18 4 16 17 [16,17],jL 19 4 18 [18],jn 20 (.call 47 [.v 19]) [19],ja 21 4 14 15 [14,15],⟨none,.store 4 (.v 21) (.v 20),none,[20,21]⟩] [0,3,4])) (.rg [jm 12 4 [4],jn 13 (.binN .add (.v 12) (ci 1)) [12],jm 4 13 [13]] [0,3,4])))
/-- laws.toSkyRunwayS: function 24 -/
def UJ : SFun := { n := 23,res := [.t 2],body := (jq [jn 2 (.mv (.c (.sl 0 4 []))) [2]] [0] (jq [jm 5 0 [],jn 6 (.lenL (.v 5)) [5],⟨some 7,.mk 107 90 4 [.str ⟨#[]⟩,.int .i64 0,.int .i64 0,.int .i64 0] (.v 6),none,[6]⟩,jm 3 7 [7]] [0,3] (.seq (jq [jI 4 0 []] [0,3,4] (.block 0 (.loop ZE))) (jq [jm 22 3 [3],jm 2 22 [22]] [2] .ret)))) }
theorem Qbk : YM Go.Proofs.Tryd.prog 24 UJ = true := by kernel_rfl
end Go.Ve

namespace Go.Ve
noncomputable section
open Go.Proofs
set_option linter.unusedSimpArgs false
set_option linter.unusedVariables false
set_option maxRecDepth 100000
theorem Qfe (t : Nat) (a : List ByteArray) (ha : a.length ≤ 1048576) : Contract P 78 [.sl t 1 (a.map Ko)] [] (.own 107 0 0 a.length) [(107, .arr 9 0 1 (a.map Ko))] := by
  have tkA : List.take a.length (a.map Ko) = a.map Ko := List.take_of_length_le (by simp)
  refine QP (Env.nil P) hm Qdp (Nat.le_of_ble_eq_true rfl) rfl ?_; unfold WD; simp (config := { maxSteps := 2000000 }) only [bitvec_to_nat, reduceIte, Nat.reduceEqDiff, Nat.reduceAdd, Nat.reduceLeDiff, reduceCtorEq, Nat.reduceBEq, Nat.reduceLT, Nat.reduceMod, List.forall_mem_cons, JA, Ky, Jz, YS, keepB, Kz, YY, Qr, Qt, Qa, Yw, Ql, List.take_length, List.length_cons, List.length_nil, Nat.zero_add, Ko, Yx, Yy, YG, Pt.row, Qs, Aw.row, Qv, Blk.row, Qg, Sec.row, Qh, Rw.row, Qw, Sky.row, Qi, Place.row, Gn, Jw, Jx, Qp, Qu, Jy, YK, G9, UP, Nat.sub_zero]
  have m0 : List.replicate a.length [.str ⟨#[]⟩] = (Gq a 0).map Ko := by simp [Gq, Ko]
  refine ⟨by omega, ?_⟩
  refine Yz (fun i : Nat => [(4, .int .i64 i)]) (fun i => [(107, .arr 9 0 1 ((Gq a i).map Ko))]) (fun i => i ≤ a.length) (fun i => a.length - i) 0 (by simp only [YC, YD, YE, YF, Qc, Qd, Qe, Qf, reduceIte, Nat.reduceEqDiff]; exact ⟨by repeat' (first | exact trivial | refine ⟨.inr rfl, ?_⟩), ⟨congrArg (fun g => some (AObj.arr 9 0 1 g)) m0, trivial⟩, rfl, rfl⟩) (Nat.zero_le _) ?_
  intro i hi NX hN
  unfold Vg; simp (config := { maxSteps := 2000000 }) only [bitvec_to_nat, reduceIte, Nat.reduceEqDiff, Nat.reduceAdd, Nat.reduceLeDiff, reduceCtorEq, Nat.reduceBEq, Nat.reduceLT, Nat.reduceMod, List.forall_mem_cons, JA, Ky, Jz, YS, keepB, Kz, YY, Qr, Qt, Qa, Yw, Ql, List.take_length, List.length_cons, List.length_nil, Nat.zero_add, Ko, Yx, Yy, YG, Pt.row, Qs, Aw.row, Qv, Blk.row, Qg, Sec.row, Qh, Rw.row, Qw, Sky.row, Qi, Place.row, Gn, Jw, Jx, Qp, Qu, Jy, YK, G9, UP, Nat.sub_zero]
  refine ⟨fun h => ?_, fun h => ?_⟩
  · repeat' (first | with_reducible apply And.intro | with_reducible intro _)
    all_goals first
      | omega
      | rfl
      | (have e := QaW (a := a) (i := i) (by omega)
         try simp only [Ko] at *
         refine hN (i + 1) _ ⟨by repeat' (first | exact trivial | refine ⟨.inr rfl, ?_⟩), ⟨congrArg (fun g => some (AObj.arr 9 0 1 (List.map Ko g))) e, trivial⟩, rfl, rfl⟩ ?_ ?_ <;> omega)
  · have e : i = a.length := by omega
    subst e
    simp only [Gq, List.take_length, Nat.sub_self, List.replicate_zero, List.append_nil]
    exact ⟨trivial, rfl, rfl⟩
theorem QnW (t : Nat) (a : List Pt) (ha : a.length ≤ 1048576) : Contract P 21 [.sl t 3 (a.map Pt.row)] [] (.own 107 0 0 a.length) [(107, .arr 82 0 3 (a.map Pt.row))] := by
  have tkA : List.take a.length (a.map Pt.row) = a.map Pt.row := List.take_of_length_le (by simp)
  refine QP ((Env.nil P).add 44 QdJ Qor) hm QbZ (Nat.le_of_ble_eq_true rfl) rfl ?_; unfold Vh; simp (config := { maxSteps := 2000000 }) only [bitvec_to_nat, reduceIte, Nat.reduceEqDiff, Nat.reduceAdd, Nat.reduceLeDiff, reduceCtorEq, Nat.reduceBEq, Nat.reduceLT, Nat.reduceMod, List.forall_mem_cons, JA, Ky, Jz, YS, keepB, Kz, YY, QdJ, Qr, Qt, Qa, Yw, Ql, List.take_length, List.length_cons, List.length_nil, Nat.zero_add, Ko, Yx, Yy, YG, Pt.row, Qs, Aw.row, Qv, Blk.row, Qg, Sec.row, Qh, Rw.row, Qw, Sky.row, Qi, Place.row, Gn, Jw, Jx, Qp, Qu, Jy, YK, G9, QjU, Nat.sub_zero]
  have m0 : List.replicate a.length [.str ⟨#[]⟩, .int .i64 0, .int .i64 0] = (Qdn a 0).map Pt.row := by simp [Qdn, Pt.row]
  refine ⟨by omega, ?_⟩
  refine Yz (fun i : Nat => [(4, .int .i64 i)]) (fun i => [(107, .arr 82 0 3 ((Qdn a i).map Pt.row))]) (fun i => i ≤ a.length) (fun i => a.length - i) 0 (by simp only [YC, YD, YE, YF, Qc, Qd, Qe, Qf, reduceIte, Nat.reduceEqDiff]; exact ⟨by repeat' (first | exact trivial | refine ⟨.inr rfl, ?_⟩), ⟨congrArg (fun g => some (AObj.arr 82 0 3 g)) m0, trivial⟩, rfl, rfl⟩) (Nat.zero_le _) ?_
  intro i hi NX hN
  unfold Ud; simp (config := { maxSteps := 2000000 }) only [bitvec_to_nat, reduceIte, Nat.reduceEqDiff, Nat.reduceAdd, Nat.reduceLeDiff, reduceCtorEq, Nat.reduceBEq, Nat.reduceLT, Nat.reduceMod, List.forall_mem_cons, JA, Ky, Jz, YS, keepB, Kz, YY, QdJ, Qr, Qt, Qa, Yw, Ql, List.take_length, List.length_cons, List.length_nil, Nat.zero_add, Ko, Yx, Yy, YG, Pt.row, Qs, Aw.row, Qv, Blk.row, Qg, Sec.row, Qh, Rw.row, Qw, Sky.row, Qi, Place.row, Gn, Jw, Jx, Qp, Qu, Jy, YK, G9, QjU, Nat.sub_zero]
  refine ⟨fun h => ?_, fun h => ?_⟩
  · repeat' (first | with_reducible apply And.intro | with_reducible intro _)
    all_goals first
      | omega
      | rfl
      | (have e := QjV (a := a) (i := i) (by omega)
         try simp only [Pt.row] at *
         refine hN (i + 1) _ ⟨by repeat' (first | exact trivial | refine ⟨.inr rfl, ?_⟩), ⟨congrArg (fun g => some (AObj.arr 82 0 3 (List.map Pt.row g))) e, trivial⟩, rfl, rfl⟩ ?_ ?_ <;> omega)
  · have e : i = a.length := by omega
    subst e
    simp only [Qdn, List.take_length, Nat.sub_self, List.replicate_zero, List.append_nil]
    exact ⟨trivial, rfl, rfl⟩
theorem Qmq (t : Nat) (a : List Blk) (ha : a.length ≤ 1048576) : Contract P 79 [.sl t 6 (a.map Blk.row)] [] (.own 107 0 0 a.length) [(107, .arr 99 0 6 (a.map Blk.row))] := by
  have tkA : List.take a.length (a.map Blk.row) = a.map Blk.row := List.take_of_length_le (by simp)
  refine QP ((Env.nil P).add 93 QaX Ql0) hm Qb0 (Nat.le_of_ble_eq_true rfl) rfl ?_; unfold Vi; simp (config := { maxSteps := 2000000 }) only [bitvec_to_nat, reduceIte, Nat.reduceEqDiff, Nat.reduceAdd, Nat.reduceLeDiff, reduceCtorEq, Nat.reduceBEq, Nat.reduceLT, Nat.reduceMod, List.forall_mem_cons, JA, Ky, Jz, YS, keepB, Kz, YY, QaX, Qr, Qt, Qa, Yw, Ql, List.take_length, List.length_cons, List.length_nil, Nat.zero_add, Ko, Yx, Yy, YG, Pt.row, Qs, Aw.row, Qv, Blk.row, Qg, Sec.row, Qh, Rw.row, Qw, Sky.row, Qi, Place.row, Gn, Jw, Jx, Qp, Qu, Jy, YK, G9, QgJ, Nat.sub_zero]
  have m0 : List.replicate a.length [.int .i64 0, .int .i64 0, .int .i64 0, .int .i64 0, .int .i64 0, .int .i64 0] = (WB a 0).map Blk.row := by simp [WB, Blk.row]
  refine ⟨by omega, ?_⟩
  refine Yz (fun i : Nat => [(4, .int .i64 i)]) (fun i => [(107, .arr 99 0 6 ((WB a i).map Blk.row))]) (fun i => i ≤ a.length) (fun i => a.length - i) 0 (by simp only [YC, YD, YE, YF, Qc, Qd, Qe, Qf, reduceIte, Nat.reduceEqDiff]; exact ⟨by repeat' (first | exact trivial | refine ⟨.inr rfl, ?_⟩), ⟨congrArg (fun g => some (AObj.arr 99 0 6 g)) m0, trivial⟩, rfl, rfl⟩) (Nat.zero_le _) ?_
  intro i hi NX hN
  unfold Ue; simp (config := { maxSteps := 2000000 }) only [bitvec_to_nat, reduceIte, Nat.reduceEqDiff, Nat.reduceAdd, Nat.reduceLeDiff, reduceCtorEq, Nat.reduceBEq, Nat.reduceLT, Nat.reduceMod, List.forall_mem_cons, JA, Ky, Jz, YS, keepB, Kz, YY, QaX, Qr, Qt, Qa, Yw, Ql, List.take_length, List.length_cons, List.length_nil, Nat.zero_add, Ko, Yx, Yy, YG, Pt.row, Qs, Aw.row, Qv, Blk.row, Qg, Sec.row, Qh, Rw.row, Qw, Sky.row, Qi, Place.row, Gn, Jw, Jx, Qp, Qu, Jy, YK, G9, QgJ, Nat.sub_zero]
  refine ⟨fun h => ?_, fun h => ?_⟩
  · repeat' (first | with_reducible apply And.intro | with_reducible intro _)
    all_goals first
      | omega
      | rfl
      | (have e := Qig (a := a) (i := i) (by omega)
         try simp only [Blk.row] at *
         refine hN (i + 1) _ ⟨by repeat' (first | exact trivial | refine ⟨.inr rfl, ?_⟩), ⟨congrArg (fun g => some (AObj.arr 99 0 6 (List.map Blk.row g))) e, trivial⟩, rfl, rfl⟩ ?_ ?_ <;> omega)
  · have e : i = a.length := by omega
    subst e
    simp only [WB, List.take_length, Nat.sub_self, List.replicate_zero, List.append_nil]
    exact ⟨trivial, rfl, rfl⟩
theorem QnX (t : Nat) (a : List Rw) (ha : a.length ≤ 1048576) : Contract P 24 [.sl t 4 (a.map Rw.row)] [] (.own 107 0 0 a.length) [(107, .arr 90 0 4 (a.map Rw.row))] := by
  have tkA : List.take a.length (a.map Rw.row) = a.map Rw.row := List.take_of_length_le (by simp)
  refine QP ((Env.nil P).add 47 QdK Qos) hm Qbk (Nat.le_of_ble_eq_true rfl) rfl ?_; unfold UJ; simp (config := { maxSteps := 2000000 }) only [bitvec_to_nat, reduceIte, Nat.reduceEqDiff, Nat.reduceAdd, Nat.reduceLeDiff, reduceCtorEq, Nat.reduceBEq, Nat.reduceLT, Nat.reduceMod, List.forall_mem_cons, JA, Ky, Jz, YS, keepB, Kz, YY, QdK, Qr, Qt, Qa, Yw, Ql, List.take_length, List.length_cons, List.length_nil, Nat.zero_add, Ko, Yx, Yy, YG, Pt.row, Qs, Aw.row, Qv, Blk.row, Qg, Sec.row, Qh, Rw.row, Qw, Sky.row, Qi, Place.row, Gn, Jw, Jx, Qp, Qu, Jy, YK, G9, QjW, Nat.sub_zero]
  have m0 : List.replicate a.length [.str ⟨#[]⟩, .int .i64 0, .int .i64 0, .int .i64 0] = (Qdo a 0).map Rw.row := by simp [Qdo, Rw.row]
  refine ⟨by omega, ?_⟩
  refine Yz (fun i : Nat => [(4, .int .i64 i)]) (fun i => [(107, .arr 90 0 4 ((Qdo a i).map Rw.row))]) (fun i => i ≤ a.length) (fun i => a.length - i) 0 (by simp only [YC, YD, YE, YF, Qc, Qd, Qe, Qf, reduceIte, Nat.reduceEqDiff]; exact ⟨by repeat' (first | exact trivial | refine ⟨.inr rfl, ?_⟩), ⟨congrArg (fun g => some (AObj.arr 90 0 4 g)) m0, trivial⟩, rfl, rfl⟩) (Nat.zero_le _) ?_
  intro i hi NX hN
  unfold ZE; simp (config := { maxSteps := 2000000 }) only [bitvec_to_nat, reduceIte, Nat.reduceEqDiff, Nat.reduceAdd, Nat.reduceLeDiff, reduceCtorEq, Nat.reduceBEq, Nat.reduceLT, Nat.reduceMod, List.forall_mem_cons, JA, Ky, Jz, YS, keepB, Kz, YY, QdK, Qr, Qt, Qa, Yw, Ql, List.take_length, List.length_cons, List.length_nil, Nat.zero_add, Ko, Yx, Yy, YG, Pt.row, Qs, Aw.row, Qv, Blk.row, Qg, Sec.row, Qh, Rw.row, Qw, Sky.row, Qi, Place.row, Gn, Jw, Jx, Qp, Qu, Jy, YK, G9, QjW, Nat.sub_zero]
  refine ⟨fun h => ?_, fun h => ?_⟩
  · repeat' (first | with_reducible apply And.intro | with_reducible intro _)
    all_goals first
      | omega
      | rfl
      | (have e := QjX (a := a) (i := i) (by omega)
         try simp only [Rw.row] at *
         refine hN (i + 1) _ ⟨by repeat' (first | exact trivial | refine ⟨.inr rfl, ?_⟩), ⟨congrArg (fun g => some (AObj.arr 90 0 4 (List.map Rw.row g))) e, trivial⟩, rfl, rfl⟩ ?_ ?_ <;> omega)
  · have e : i = a.length := by omega
    subst e
    simp only [Qdo, List.take_length, Nat.sub_self, List.replicate_zero, List.append_nil]
    exact ⟨trivial, rfl, rfl⟩
end
end Go.Ve

namespace Go.Ve
noncomputable section
open Go.Proofs
set_option linter.unusedSimpArgs false
set_option linter.unusedVariables false
set_option maxRecDepth 100000
def awP (x : Aw) : ByteArray × List (List AV) := (x.nm, x.pts.map Ko)
def UK (x : Sec) : ByteArray × List (List AV) := (x.nm, x.bl.map Blk.row)
def WE (l : List NRow) (n sz : Nat) : List (List AV) := l.map NRow.row ++ List.replicate n [.str ⟨#[]⟩, .sl 0 sz []]
theorem Qit {l : List NRow} {n sz : Nat} {r : NRow} {ls : List AV} (hl : ls = r.row) : (WE l (n + 1) sz).set l.length (YB ((WE l (n + 1) sz).getD l.length []) 0 ls) = WE (l ++ [r]) n sz := by
  subst hl
  simp [WE, List.replicate_succ, NRow.row, YB]
def VX : RTab
  | [.sl bt 1 bx], M => some ⟨(M 601 = none) ∧ (((bx.map unS).map Ko = bx)) ∧ ((bx.map unS).length ≤ 1048576), fun _ : Unit => True, fun _ => .own 601 0 0 (bx.map unS).length, fun _ => [(601, .arr 9 0 1 bx)]⟩
  | _, _ => none
theorem Qiu : okTab P 78 VX := by
  intro args M o h hp
  unfold VX at h
  split at h
  · rename_i bt bx
    cases h
    obtain ⟨hn, e0, HP⟩ := hp
    have hC := (Qfe bt (bx.map unS) HP).ren (swp 107 601) (GV 107 601)
    simp only [Ui, ren, ZB, renO, swp, reduceIte, Nat.reduceEqDiff, Nat.reduceLT, e0] at hC
    refine ⟨(), trivial, .inr (.inr (.inl ⟨_, by simp only [Y7, pur, Option.map_some], hC, fun p hp => ?_, ?_, rfl, ?_, ?_⟩))⟩
    · simp only [List.mem_cons, List.not_mem_nil, or_false] at hp
      subst hp; exact hn
    · simp [Qx, Qo, dom]
    · exact trivial
    · intro p hp
      simp only [List.mem_cons, List.not_mem_nil, or_false] at hp
      subst hp; rw [← e0]; exact G3 _
  · cases h
def Qc2 : RTab
  | [.sl bt 6 bx], M => some ⟨(M 601 = none) ∧ (((bx.map XV).map Blk.row = bx)) ∧ ((bx.map XV).length ≤ 1048576), fun _ : Unit => True, fun _ => .own 601 0 0 (bx.map XV).length, fun _ => [(601, .arr 99 0 6 bx)]⟩
  | _, _ => none
theorem Qmr : okTab P 79 Qc2 := by
  intro args M o h hp
  unfold Qc2 at h
  split at h
  · rename_i bt bx
    cases h
    obtain ⟨hn, e0, HP⟩ := hp
    have hC := (Qmq bt (bx.map XV) HP).ren (swp 107 601) (GV 107 601)
    simp only [Ui, ren, ZB, renO, swp, reduceIte, Nat.reduceEqDiff, Nat.reduceLT, e0] at hC
    refine ⟨(), trivial, .inr (.inr (.inl ⟨_, by simp only [Y7, pur, Option.map_some], hC, fun p hp => ?_, ?_, rfl, ?_, ?_⟩))⟩
    · simp only [List.mem_cons, List.not_mem_nil, or_false] at hp
      subst hp; exact hn
    · simp [Qx, Qo, dom]
    · exact trivial
    · intro p hp
      simp only [List.mem_cons, List.not_mem_nil, or_false] at hp
      subst hp; rw [← e0]; exact Xr _
  · cases h
theorem Qp5 (s : Aw) (hs : s.pts.length ≤ 1048576) : Contract P 45 [.agg (s.row 1)] [] (.agg [.str s.nm, .own 601 0 0 s.pts.length]) [(601, .arr 9 0 1 (s.pts.map Ko))] := by
  simp only [Aw.row]
  refine QP ((Env.nil P).addR 78 VX Qiu) hm Vz (Nat.le_of_ble_eq_true rfl) rfl ?_; unfold Zo; simp (config := { maxSteps := 2000000 }) only [bitvec_to_nat, reduceIte, Nat.reduceEqDiff, Nat.reduceAdd, Nat.reduceLeDiff, reduceCtorEq, Nat.reduceBEq, Nat.reduceLT, Nat.reduceMod, List.forall_mem_cons, JA, Ky, Jz, YS, keepB, Kz, YY, VX, Qp, Yy, List.length_map, Int.toNat_natCast, Nat.zero_add, Nat.sub_zero, noref, flatOk, Ql, Yw, List.nil_append, QjK, KH, Aw.row, Sec.row]
  repeat' (first | with_reducible apply And.intro | with_reducible intro _)
  all_goals first | omega | rfl | (simp [Qx]; done)
def Zi (a : List Aw) (i : Nat) : List NRow := G5 107 9 1 ((a.take i).map awP)
theorem Qms {a : List Aw} {i : Nat} (h : i ≤ a.length) : (Zi a i).length = i := by simp [Zi, XH]; omega
theorem QkL {a : List Aw} {i : Nat} (h : i < a.length) : Zi a (i + 1) = Zi a i ++ [⟨(a.getD i default).nm, (a.getD i default).pts.length, fam 107 i, .arr 9 0 1 ((a.getD i default).pts.map Ko)⟩] := by
  have e : (a.take (i + 1)).map awP = (a.take i).map awP ++ [awP (a.getD i default)] := by
    rw [List.take_succ_eq_append_getElem h, List.map_append]; simp [h]
  have hl : ((a.take i).map awP).length = i := by simp; omega
  rw [Zi, e, QhU, hl]
  simp [awP, Zi]
set_option maxHeartbeats 1000000 in
theorem QnY (t : Nat) (a : List Aw) (ha : a.length ≤ 1048576) (hs : ∀ x ∈ a, x.small) : Contract P 22 [.sl t 2 (a.map (Aw.row 1))] [] (.own 107 0 0 a.length) ((107, .arr (1000000 + 84) 0 2 ((G5 107 9 1 (a.map awP)).map NRow.row)) :: KD (G5 107 9 1 (a.map awP))) := by
  have hs1 : True := trivial
  have hs2 : True := trivial
  have wm : ∀ (x : AObj) (i : Nat) {l : List NRow}, Zi a i = l → wkM ((107, x) :: KD (Zi a i)) (KD l) := fun x i l e => by
    subst e
    refine Qat (k := 107) Xp fun j hj => ?_
    simp only [getM, YI (show 107 < 1000 from by omega), if_false]
    exact Wa Xp hj
  have rr : ∀ (d : List Nat) (i : Nat), (∀ r ∈ Zi a i, d.contains r.o = true) → ∀ m, (WE (Zi a i) m 1).all (Qo d) = true := fun d i h m => by
    unfold WE; rw [List.all_append, X7 h, Bool.true_and, List.all_eq_true]
    intro x hx; rw [List.eq_of_mem_replicate hx]; rfl
  have dm : ∀ (x : AObj) (i : Nat), ∀ r ∈ Zi a i, (dom ((107, x) :: KD (Zi a i))).contains r.o = true := fun x i r hr => by
    simp only [dom, List.map_cons, List.contains_cons, Bool.or_eq_true]
    right
    simp only [List.contains_iff_mem, KD, List.map_map, List.mem_map]
    exact ⟨r, hr, rfl⟩
  have cl : ∀ (t' i : Nat), closedB ⟨[(0, .sl t 2 (a.map (Aw.row 1))), (3, .own 107 0 0 a.length), (4, .int .i64 ((i : Nat) : Int))], (107, .arr (1000000 + 84) 0 2 (WE (Zi a i) (a.length - i) 1)) :: KD (Zi a i)⟩ = true := fun _ i => by
    simp only [closedB, List.all_cons, Bool.and_eq_true]
    refine ⟨⟨rfl, by simp [Qx, dom], rfl, rfl⟩, ?_, XU (by omega)⟩
    simp only [Qb]
    rw [if_neg (by omega)]
    exact rr _ i (dm _ i) _
  have cf : (((107, AObj.arr (1000000 + 84) 0 2 ((G5 107 9 1 (a.map awP)).map NRow.row)) :: KD (G5 107 9 1 (a.map awP))).all fun p => Qb (dom ((107, AObj.arr (1000000 + 84) 0 2 ((G5 107 9 1 (a.map awP)).map NRow.row)) :: KD (G5 107 9 1 (a.map awP)))) p.2) = true := by
    have ez : Zi a a.length = G5 107 9 1 (a.map awP) := by simp [Zi]
    simp only [List.all_cons, Bool.and_eq_true]
    refine ⟨?_, XU (by omega)⟩
    simp only [Qb]
    rw [if_neg (by omega)]
    have := dm (AObj.arr (1000000 + 84) 0 2 ((G5 107 9 1 (a.map awP)).map NRow.row)) a.length
    rw [ez] at this
    exact X7 this
  have kp : ∀ (x : AObj) (i : Nat) (M' : List (Nat × AObj)), keepB ((107, x) :: KD (Zi a i)) M' = true := fun x i M' => by
    unfold keepB
    show ((decide (100 ≤ 107 % 1000) || _) && (dom (KD (Zi a i))).all _) = true
    rw [show decide (100 ≤ 107 % 1000) = true from rfl, Bool.true_or, Bool.true_and]
    exact QhV (by omega) (by omega)
  refine QP (Env.nil P) hm Qbi (Nat.le_of_ble_eq_true rfl) rfl ?_; unfold UH; simp (config := { maxSteps := 2000000 }) only [bitvec_to_nat, reduceIte, Nat.reduceEqDiff, Nat.reduceAdd, Nat.reduceLeDiff, reduceCtorEq, Nat.reduceBEq, Nat.reduceLT, Nat.reduceMod, List.forall_mem_cons, JA, Ky, Jz, YS, keepB, Kz, YY, Qr, Qt, Qa, Yw, Ql, List.take_length, List.length_cons, List.length_nil, Nat.zero_add, Ko, Yx, Yy, YG, Pt.row, Qs, Aw.row, Qv, Blk.row, Qg, Sec.row, Qh, Rw.row, Qw, Sky.row, Qi, Place.row, Gn, Jw, Jx, Qp, Qu, Jy, YK, G9, Nat.sub_zero, YI, Y5, hs1, hs2, Aw.row, Sec.row, awP, UK]
  refine ⟨by omega, ?_⟩
  refine Qa0 (fun i : Nat => ⟨[(0, .sl t 2 (a.map (Aw.row 1))), (3, .own 107 0 0 a.length), (4, .int .i64 i)], (107, .arr (1000000 + 84) 0 2 (WE (Zi a i) (a.length - i) 1)) :: KD (Zi a i)⟩) (fun i => i ≤ a.length) (fun i => a.length - i) 0 ?_ (Nat.zero_le _) ?_
  · exact ⟨by repeat' (first | exact trivial | refine ⟨.inr rfl, ?_⟩), ⟨by simp [getM, WE, Zi, G5], by simp [Zi, G5, KD, wkM]⟩, by simp [closedB, Qx, Qo, Qb, dom, WE, Zi, G5, KD], by simp [keepB, dom, Zi, G5, KD]⟩
  intro i hi NX hN
  by_cases h : i < a.length
  · have hx := hs _ (Gi h)
    have hC := (Qp5 (a.getD i default) (by unfold Aw.small at hx; omega)).ren (swp 601 (fam 107 i)) (GV _ _)
    simp only [Ui, ren, ZB, renO, swp, reduceIte, Nat.reduceLT, Aw.row] at hC
    have hlen := Qms (a := a) (i := i) hi
    have hfr : getM (KD (Zi a i)) (fam 107 i) = none := QjG (k := 107) Xp (Nat.le_of_eq hlen)
    have hsu := QkL h
    have hs1 := Qd5 (x := AObj.arr 9 0 1 ((a.getD i default).pts.map Ko)) hfr
    have hs2 := Qit (l := Zi a i) (n := a.length - i - 1) (sz := 1) (r := ⟨(a.getD i default).nm, (a.getD i default).pts.length, fam 107 i, .arr 9 0 1 ((a.getD i default).pts.map Ko)⟩) rfl
    rw [hlen, ← hsu, show a.length - i - 1 + 1 = a.length - i from by omega] at hs2
    simp only [NRow.row] at hs2
    unfold XE; simp (config := { maxSteps := 2000000 }) only [bitvec_to_nat, reduceIte, Nat.reduceEqDiff, Nat.reduceAdd, Nat.reduceLeDiff, reduceCtorEq, Nat.reduceBEq, Nat.reduceLT, Nat.reduceMod, List.forall_mem_cons, JA, Ky, Jz, YS, keepB, Kz, YY, Qr, Qt, Qa, Yw, Ql, List.take_length, List.length_cons, List.length_nil, Nat.zero_add, Ko, Yx, Yy, YG, Pt.row, Qs, Aw.row, Qv, Blk.row, Qg, Sec.row, Qh, Rw.row, Qw, Sky.row, Qi, Place.row, Gn, Jw, Jx, Qp, Qu, Jy, YK, G9, Nat.sub_zero, YI, Y5, hs1, hs2, Aw.row, Sec.row, awP, UK]
    refine ⟨fun _ => ⟨by omega, by omega, _, _, .inr (.inr (.inl ⟨_, by simp only [Y7, pur, Option.map_some], hC, by simp [getM, YI, hfr], by simp [Qx, Qo, dom], by simp [Qb], by simp [No99, Xl, GW], by simp [Qbb, G3]⟩)), ?_⟩, fun h' => absurd (by omega) h'⟩
    simp (config := { maxSteps := 2000000 }) only [bitvec_to_nat, reduceIte, Nat.reduceEqDiff, Nat.reduceAdd, Nat.reduceLeDiff, reduceCtorEq, Nat.reduceBEq, Nat.reduceLT, Nat.reduceMod, List.forall_mem_cons, JA, Ky, Jz, YS, keepB, Kz, YY, Qr, Qt, Qa, Yw, Ql, List.take_length, List.length_cons, List.length_nil, Nat.zero_add, Ko, Yx, Yy, YG, Pt.row, Qs, Aw.row, Qv, Blk.row, Qg, Sec.row, Qh, Rw.row, Qw, Sky.row, Qi, Place.row, Gn, Jw, Jx, Qp, Qu, Jy, YK, G9, Nat.sub_zero, YI, Y5, hs1, hs2, Aw.row, Sec.row, awP, UK]
    refine ⟨by omega, by omega, hN (i + 1) _ ?_ h (by omega)⟩
    have em : ∀ x, ((107, x) :: (KD (Zi a i) ++ [(fam 107 i, AObj.arr 9 0 1 ((a.getD i default).pts.map Ko))])) = (107, x) :: KD (Zi a (i + 1)) := fun x => by rw [hsu, QhT]; rfl
    rw [em]
    exact ⟨by repeat' (first | exact trivial | refine ⟨.inr rfl, ?_⟩), ⟨rfl, wm _ _ rfl⟩, cl 0 (i + 1), kp _ _ _⟩
  · have e : i = a.length := by omega
    subst e
    have ez : Zi a a.length = G5 107 9 1 (a.map awP) := by simp [Zi]
    have hs1 : WE (G5 107 9 1 (a.map awP)) (a.length - a.length) 1 = (G5 107 9 1 (a.map awP)).map NRow.row := by simp [WE]
    have hs2 := ez
    have cl' := cl 0 a.length
    unfold XE; simp (config := { maxSteps := 2000000 }) only [bitvec_to_nat, reduceIte, Nat.reduceEqDiff, Nat.reduceAdd, Nat.reduceLeDiff, reduceCtorEq, Nat.reduceBEq, Nat.reduceLT, Nat.reduceMod, List.forall_mem_cons, JA, Ky, Jz, YS, keepB, Kz, YY, Qr, Qt, Qa, Yw, Ql, List.take_length, List.length_cons, List.length_nil, Nat.zero_add, Ko, Yx, Yy, YG, Pt.row, Qs, Aw.row, Qv, Blk.row, Qg, Sec.row, Qh, Rw.row, Qw, Sky.row, Qi, Place.row, Gn, Jw, Jx, Qp, Qu, Jy, YK, G9, Nat.sub_zero, YI, Y5, hs1, hs2, Aw.row, Sec.row, awP, UK]
    refine ⟨fun h' => absurd h' (by omega), fun _ => ?_⟩
    have wm' := fun x => wm x a.length ez
    have kp' := fun x M' => kp x a.length M'
    rw [ez] at wm' kp'
    refine ⟨?_, cf, rfl, kp' .gone ((107, .arr (1000000 + 84) 0 2 ((G5 107 9 1 (a.map awP)).map NRow.row)) :: KD (G5 107 9 1 (a.map awP)))⟩
    first | exact wm' _ | exact ⟨rfl, wm' _⟩
theorem QnZ (s : Sec) (hs : s.bl.length ≤ 1048576) : Contract P 46 [.agg (s.row 1)] [] (.agg [.str s.nm, .own 601 0 0 s.bl.length]) [(601, .arr 99 0 6 (s.bl.map Blk.row))] := by
  simp only [Sec.row]
  refine QP ((Env.nil P).addR 79 Qc2 Qmr) hm VA (Nat.le_of_ble_eq_true rfl) rfl ?_; unfold Zp; simp (config := { maxSteps := 2000000 }) only [bitvec_to_nat, reduceIte, Nat.reduceEqDiff, Nat.reduceAdd, Nat.reduceLeDiff, reduceCtorEq, Nat.reduceBEq, Nat.reduceLT, Nat.reduceMod, List.forall_mem_cons, JA, Ky, Jz, YS, keepB, Kz, YY, Qc2, Qp, Yy, List.length_map, Int.toNat_natCast, Nat.zero_add, Nat.sub_zero, noref, flatOk, Ql, Yw, List.nil_append, QjK, KH, Aw.row, Sec.row]
  repeat' (first | with_reducible apply And.intro | with_reducible intro _)
  all_goals first | omega | rfl | (simp [Qx]; done)
def Xj (a : List Sec) (i : Nat) : List NRow := G5 107 99 6 ((a.take i).map UK)
theorem QkM {a : List Sec} {i : Nat} (h : i ≤ a.length) : (Xj a i).length = i := by simp [Xj, XH]; omega
theorem Qjg {a : List Sec} {i : Nat} (h : i < a.length) : Xj a (i + 1) = Xj a i ++ [⟨(a.getD i default).nm, (a.getD i default).bl.length, fam 107 i, .arr 99 0 6 ((a.getD i default).bl.map Blk.row)⟩] := by
  have e : (a.take (i + 1)).map UK = (a.take i).map UK ++ [UK (a.getD i default)] := by
    rw [List.take_succ_eq_append_getElem h, List.map_append]; simp [h]
  have hl : ((a.take i).map UK).length = i := by simp; omega
  rw [Xj, e, QhU, hl]
  simp [UK, Xj]
set_option maxHeartbeats 1000000 in
theorem Qmt (t : Nat) (a : List Sec) (ha : a.length ≤ 1048576) (hs : ∀ x ∈ a, x.small) : Contract P 23 [.sl t 2 (a.map (Sec.row 1))] [] (.own 107 0 0 a.length) ((107, .arr (1000000 + 88) 0 2 ((G5 107 99 6 (a.map UK)).map NRow.row)) :: KD (G5 107 99 6 (a.map UK))) := by
  have hs1 : True := trivial
  have hs2 : True := trivial
  have wm : ∀ (x : AObj) (i : Nat) {l : List NRow}, Xj a i = l → wkM ((107, x) :: KD (Xj a i)) (KD l) := fun x i l e => by
    subst e
    refine Qat (k := 107) Xp fun j hj => ?_
    simp only [getM, YI (show 107 < 1000 from by omega), if_false]
    exact Wa Xp hj
  have rr : ∀ (d : List Nat) (i : Nat), (∀ r ∈ Xj a i, d.contains r.o = true) → ∀ m, (WE (Xj a i) m 6).all (Qo d) = true := fun d i h m => by
    unfold WE; rw [List.all_append, X7 h, Bool.true_and, List.all_eq_true]
    intro x hx; rw [List.eq_of_mem_replicate hx]; rfl
  have dm : ∀ (x : AObj) (i : Nat), ∀ r ∈ Xj a i, (dom ((107, x) :: KD (Xj a i))).contains r.o = true := fun x i r hr => by
    simp only [dom, List.map_cons, List.contains_cons, Bool.or_eq_true]
    right
    simp only [List.contains_iff_mem, KD, List.map_map, List.mem_map]
    exact ⟨r, hr, rfl⟩
  have cl : ∀ (t' i : Nat), closedB ⟨[(0, .sl t 2 (a.map (Sec.row 1))), (3, .own 107 0 0 a.length), (4, .int .i64 ((i : Nat) : Int))], (107, .arr (1000000 + 88) 0 2 (WE (Xj a i) (a.length - i) 6)) :: KD (Xj a i)⟩ = true := fun _ i => by
    simp only [closedB, List.all_cons, Bool.and_eq_true]
    refine ⟨⟨rfl, by simp [Qx, dom], rfl, rfl⟩, ?_, XU (by omega)⟩
    simp only [Qb]
    rw [if_neg (by omega)]
    exact rr _ i (dm _ i) _
  have cf : (((107, AObj.arr (1000000 + 88) 0 2 ((G5 107 99 6 (a.map UK)).map NRow.row)) :: KD (G5 107 99 6 (a.map UK))).all fun p => Qb (dom ((107, AObj.arr (1000000 + 88) 0 2 ((G5 107 99 6 (a.map UK)).map NRow.row)) :: KD (G5 107 99 6 (a.map UK)))) p.2) = true := by
    have ez : Xj a a.length = G5 107 99 6 (a.map UK) := by simp [Xj]
    simp only [List.all_cons, Bool.and_eq_true]
    refine ⟨?_, XU (by omega)⟩
    simp only [Qb]
    rw [if_neg (by omega)]
    have := dm (AObj.arr (1000000 + 88) 0 2 ((G5 107 99 6 (a.map UK)).map NRow.row)) a.length
    rw [ez] at this
    exact X7 this
  have kp : ∀ (x : AObj) (i : Nat) (M' : List (Nat × AObj)), keepB ((107, x) :: KD (Xj a i)) M' = true := fun x i M' => by
    unfold keepB
    show ((decide (100 ≤ 107 % 1000) || _) && (dom (KD (Xj a i))).all _) = true
    rw [show decide (100 ≤ 107 % 1000) = true from rfl, Bool.true_or, Bool.true_and]
    exact QhV (by omega) (by omega)
  refine QP (Env.nil P) hm Qbj (Nat.le_of_ble_eq_true rfl) rfl ?_; unfold UI; simp (config := { maxSteps := 2000000 }) only [bitvec_to_nat, reduceIte, Nat.reduceEqDiff, Nat.reduceAdd, Nat.reduceLeDiff, reduceCtorEq, Nat.reduceBEq, Nat.reduceLT, Nat.reduceMod, List.forall_mem_cons, JA, Ky, Jz, YS, keepB, Kz, YY, Qr, Qt, Qa, Yw, Ql, List.take_length, List.length_cons, List.length_nil, Nat.zero_add, Ko, Yx, Yy, YG, Pt.row, Qs, Aw.row, Qv, Blk.row, Qg, Sec.row, Qh, Rw.row, Qw, Sky.row, Qi, Place.row, Gn, Jw, Jx, Qp, Qu, Jy, YK, G9, Nat.sub_zero, YI, Y5, hs1, hs2, Aw.row, Sec.row, awP, UK]
  refine ⟨by omega, ?_⟩
  refine Qa0 (fun i : Nat => ⟨[(0, .sl t 2 (a.map (Sec.row 1))), (3, .own 107 0 0 a.length), (4, .int .i64 i)], (107, .arr (1000000 + 88) 0 2 (WE (Xj a i) (a.length - i) 6)) :: KD (Xj a i)⟩) (fun i => i ≤ a.length) (fun i => a.length - i) 0 ?_ (Nat.zero_le _) ?_
  · exact ⟨by repeat' (first | exact trivial | refine ⟨.inr rfl, ?_⟩), ⟨by simp [getM, WE, Xj, G5], by simp [Xj, G5, KD, wkM]⟩, by simp [closedB, Qx, Qo, Qb, dom, WE, Xj, G5, KD], by simp [keepB, dom, Xj, G5, KD]⟩
  intro i hi NX hN
  by_cases h : i < a.length
  · have hx := hs _ (Gi h)
    have hC := (QnZ (a.getD i default) (by unfold Sec.small at hx; omega)).ren (swp 601 (fam 107 i)) (GV _ _)
    simp only [Ui, ren, ZB, renO, swp, reduceIte, Nat.reduceLT, Sec.row] at hC
    have hlen := QkM (a := a) (i := i) hi
    have hfr : getM (KD (Xj a i)) (fam 107 i) = none := QjG (k := 107) Xp (Nat.le_of_eq hlen)
    have hsu := Qjg h
    have hs1 := Qd5 (x := AObj.arr 99 0 6 ((a.getD i default).bl.map Blk.row)) hfr
    have hs2 := Qit (l := Xj a i) (n := a.length - i - 1) (sz := 6) (r := ⟨(a.getD i default).nm, (a.getD i default).bl.length, fam 107 i, .arr 99 0 6 ((a.getD i default).bl.map Blk.row)⟩) rfl
    rw [hlen, ← hsu, show a.length - i - 1 + 1 = a.length - i from by omega] at hs2
    simp only [NRow.row] at hs2
    unfold XF; simp (config := { maxSteps := 2000000 }) only [bitvec_to_nat, reduceIte, Nat.reduceEqDiff, Nat.reduceAdd, Nat.reduceLeDiff, reduceCtorEq, Nat.reduceBEq, Nat.reduceLT, Nat.reduceMod, List.forall_mem_cons, JA, Ky, Jz, YS, keepB, Kz, YY, Qr, Qt, Qa, Yw, Ql, List.take_length, List.length_cons, List.length_nil, Nat.zero_add, Ko, Yx, Yy, YG, Pt.row, Qs, Aw.row, Qv, Blk.row, Qg, Sec.row, Qh, Rw.row, Qw, Sky.row, Qi, Place.row, Gn, Jw, Jx, Qp, Qu, Jy, YK, G9, Nat.sub_zero, YI, Y5, hs1, hs2, Aw.row, Sec.row, awP, UK]
    refine ⟨fun _ => ⟨by omega, by omega, _, _, .inr (.inr (.inl ⟨_, by simp only [Y7, pur, Option.map_some], hC, by simp [getM, YI, hfr], by simp [Qx, Qo, dom], by simp [Qb], by simp [No99, Xl, GW], by simp [Qbb, Xr]⟩)), ?_⟩, fun h' => absurd (by omega) h'⟩
    simp (config := { maxSteps := 2000000 }) only [bitvec_to_nat, reduceIte, Nat.reduceEqDiff, Nat.reduceAdd, Nat.reduceLeDiff, reduceCtorEq, Nat.reduceBEq, Nat.reduceLT, Nat.reduceMod, List.forall_mem_cons, JA, Ky, Jz, YS, keepB, Kz, YY, Qr, Qt, Qa, Yw, Ql, List.take_length, List.length_cons, List.length_nil, Nat.zero_add, Ko, Yx, Yy, YG, Pt.row, Qs, Aw.row, Qv, Blk.row, Qg, Sec.row, Qh, Rw.row, Qw, Sky.row, Qi, Place.row, Gn, Jw, Jx, Qp, Qu, Jy, YK, G9, Nat.sub_zero, YI, Y5, hs1, hs2, Aw.row, Sec.row, awP, UK]
    refine ⟨by omega, by omega, hN (i + 1) _ ?_ h (by omega)⟩
    have em : ∀ x, ((107, x) :: (KD (Xj a i) ++ [(fam 107 i, AObj.arr 99 0 6 ((a.getD i default).bl.map Blk.row))])) = (107, x) :: KD (Xj a (i + 1)) := fun x => by rw [hsu, QhT]; rfl
    rw [em]
    exact ⟨by repeat' (first | exact trivial | refine ⟨.inr rfl, ?_⟩), ⟨rfl, wm _ _ rfl⟩, cl 0 (i + 1), kp _ _ _⟩
  · have e : i = a.length := by omega
    subst e
    have ez : Xj a a.length = G5 107 99 6 (a.map UK) := by simp [Xj]
    have hs1 : WE (G5 107 99 6 (a.map UK)) (a.length - a.length) 6 = (G5 107 99 6 (a.map UK)).map NRow.row := by simp [WE]
    have hs2 := ez
    have cl' := cl 0 a.length
    unfold XF; simp (config := { maxSteps := 2000000 }) only [bitvec_to_nat, reduceIte, Nat.reduceEqDiff, Nat.reduceAdd, Nat.reduceLeDiff, reduceCtorEq, Nat.reduceBEq, Nat.reduceLT, Nat.reduceMod, List.forall_mem_cons, JA, Ky, Jz, YS, keepB, Kz, YY, Qr, Qt, Qa, Yw, Ql, List.take_length, List.length_cons, List.length_nil, Nat.zero_add, Ko, Yx, Yy, YG, Pt.row, Qs, Aw.row, Qv, Blk.row, Qg, Sec.row, Qh, Rw.row, Qw, Sky.row, Qi, Place.row, Gn, Jw, Jx, Qp, Qu, Jy, YK, G9, Nat.sub_zero, YI, Y5, hs1, hs2, Aw.row, Sec.row, awP, UK]
    refine ⟨fun h' => absurd h' (by omega), fun _ => ?_⟩
    have wm' := fun x => wm x a.length ez
    have kp' := fun x M' => kp x a.length M'
    rw [ez] at wm' kp'
    refine ⟨?_, cf, rfl, kp' .gone ((107, .arr (1000000 + 88) 0 2 ((G5 107 99 6 (a.map UK)).map NRow.row)) :: KD (G5 107 99 6 (a.map UK)))⟩
    first | exact wm' _ | exact ⟨rfl, wm' _⟩
end
end Go.Ve

namespace Go.Ve
noncomputable section
open Go.Proofs
set_option linter.unusedSimpArgs false
set_option linter.unusedVariables false
set_option maxRecDepth 100000
def VY : RTab
  | [.sl bt 3 bx], M => some ⟨(M 611 = none) ∧ (((bx.map Y1).map Pt.row = bx)) ∧ ((bx.map Y1).length ≤ 1048576), fun _ : Unit => True, fun _ => .own 611 0 0 (bx.map Y1).length, fun _ => [(611, .arr 82 0 3 bx)]⟩
  | _, _ => none
theorem Qn0 : okTab P 21 VY := by
  intro args M o h hp
  unfold VY at h
  split at h
  · rename_i bt bx
    cases h
    obtain ⟨hn, e0, HP⟩ := hp
    have hC := (QnW bt (bx.map Y1) HP).ren (swp 107 611) (GV 107 611)
    simp only [Ui, ren, ZB, renO, swp, reduceIte, Nat.reduceEqDiff, Nat.reduceLT, e0] at hC
    refine ⟨(), trivial, .inr (.inr (.inl ⟨_, by simp only [Y7, pur, Option.map_some], hC, fun p hp => ?_, ?_, rfl, ?_, ?_⟩))⟩
    · simp only [List.mem_cons, List.not_mem_nil, or_false] at hp
      subst hp; exact hn
    · simp [Qx, Qo, dom]
    · exact trivial
    · intro p hp
      simp only [List.mem_cons, List.not_mem_nil, or_false] at hp
      subst hp; rw [← e0]; exact X4 _
  · cases h
def VZ : RTab
  | [.sl bt 4 bx], M => some ⟨(M 612 = none) ∧ (((bx.map Y2).map Rw.row = bx)) ∧ ((bx.map Y2).length ≤ 1048576), fun _ : Unit => True, fun _ => .own 612 0 0 (bx.map Y2).length, fun _ => [(612, .arr 90 0 4 bx)]⟩
  | _, _ => none
theorem Qn1 : okTab P 24 VZ := by
  intro args M o h hp
  unfold VZ at h
  split at h
  · rename_i bt bx
    cases h
    obtain ⟨hn, e0, HP⟩ := hp
    have hC := (QnX bt (bx.map Y2) HP).ren (swp 107 612) (GV 107 612)
    simp only [Ui, ren, ZB, renO, swp, reduceIte, Nat.reduceEqDiff, Nat.reduceLT, e0] at hC
    refine ⟨(), trivial, .inr (.inr (.inl ⟨_, by simp only [Y7, pur, Option.map_some], hC, fun p hp => ?_, ?_, rfl, ?_, ?_⟩))⟩
    · simp only [List.mem_cons, List.not_mem_nil, or_false] at hp
      subst hp; exact hn
    · simp [Qx, Qo, dom]
    · exact trivial
    · intro p hp
      simp only [List.mem_cons, List.not_mem_nil, or_false] at hp
      subst hp; rw [← e0]; exact X5 _
  · cases h
def fA (k : Nat) (s : Sky) : List NRow := G5 k 9 1 (s.aws.map awP)
def fS (k : Nat) (s : Sky) : List NRow := G5 k 99 6 (s.secs.map UK)
def V0 (s : Sky) (a b c d : Nat) : AV := .agg [.int .i64 s.w, .int .i64 s.h, .int .i64 s.lv, .own a 0 0 s.pts.length, .own b 0 0 s.aws.length, .own c 0 0 s.secs.length, .own d 0 0 s.rws.length]
def ZS (s : Sky) (a b c d kA kS : Nat) : List (Nat × AObj) := (a, .arr 82 0 3 (s.pts.map Pt.row)) :: (b, .arr (1000000 + 84) 0 2 ((fA kA s).map NRow.row)) :: (c, .arr (1000000 + 88) 0 2 ((fS kS s).map NRow.row)) :: (d, .arr 90 0 4 (s.rws.map Rw.row)) :: (KD (fA kA s) ++ KD (fS kS s))
theorem Qc3 (l : List NRow) : GW (l.map NRow.row) := by
  induction l with
  | nil => simp [GW]
  | cons x l ih => simp only [List.map_cons, GW]; exact ⟨by simp [NRow.row, Xl, No99], ih⟩
theorem QoB (s : Sky) (p : Nat × AObj) (k : Nat) (h : p ∈ KD (fA k s)) : Qbb p.2 := by
  obtain ⟨i, hi, rfl⟩ := XO h
  have hi' : i < s.aws.length := by simpa using hi
  simp only [Qbb]
  rw [show (s.aws.map awP).getD i default = awP (s.aws.getD i default) from by simp [hi']]
  exact G3 _
theorem Qmu (s : Sky) (p : Nat × AObj) (k : Nat) (h : p ∈ KD (fS k s)) : Qbb p.2 := by
  obtain ⟨i, hi, rfl⟩ := XO h
  have hi' : i < s.secs.length := by simpa using hi
  simp only [Qbb]
  rw [show (s.secs.map UK).getD i default = UK (s.secs.getD i default) from by simp [hi']]
  exact Xr _
theorem Qa8 {k e sz o : Nat} {y : AObj} {x : List (ByteArray × List (List AV))} {T : Nat} (he : e < 1000000) : (((o, AObj.arr (1000000 + T) 0 2 ((G5 k e sz x).map NRow.row)) :: KD (G5 k e sz x)).all fun p => Qb (dom ((o, y) :: KD (G5 k e sz x))) p.2) = true := by
  simp only [List.all_cons, Bool.and_eq_true]
  refine ⟨?_, XU he⟩
  simp only [Qb]
  rw [if_neg (by omega)]
  refine X7 fun r hr => ?_
  simp only [dom, List.map_cons, List.contains_cons, Bool.or_eq_true]
  right
  simp only [List.contains_iff_mem, KD, List.map_map, List.mem_map]
  exact ⟨r, hr, rfl⟩
theorem Qp6 {s : Sky} {a b c d kA kS : Nat} {M : List (Nat × AObj)} (h1 : getM M a = some (.arr 82 0 3 (s.pts.map Pt.row))) (h2 : getM M b = some (.arr (1000000 + 84) 0 2 ((fA kA s).map NRow.row)))
    (h3 : getM M c = some (.arr (1000000 + 88) 0 2 ((fS kS s).map NRow.row))) (h4 : getM M d = some (.arr 90 0 4 (s.rws.map Rw.row)))
    (h5 : ∀ i, i < s.aws.length → getM M (fam kA i) = some (.arr 9 0 1 ((s.aws.map awP).getD i default).2)) (h6 : ∀ i, i < s.secs.length → getM M (fam kS i) = some (.arr 99 0 6 ((s.secs.map UK).getD i default).2)) : wkM M (ZS s a b c d kA kS) := by
  refine ⟨h1, h2, h3, h4, Qo1.2 ⟨Qat Xp fun i hi => ?_, Qat Xp fun i hi => ?_⟩⟩
  · simp only [fA, XH] at hi ⊢
    rw [Vo hi]; exact h5 i (by simpa using hi)
  · simp only [fS, XH] at hi ⊢
    rw [Vo hi]; exact h6 i (by simpa using hi)
theorem Qdq {s : Sky} {a b c d kA kS : Nat} : dom (ZS s a b c d kA kS) = a :: b :: c :: d :: ((fA kA s).map (·.o) ++ (fS kS s).map (·.o)) := by
  simp [ZS, dom, KD]; rfl
theorem Qg2 {s : Sky} {a b c d kA kS : Nat} : ((ZS s a b c d kA kS).all fun p => Qb (dom (ZS s a b c d kA kS)) p.2) = true := by
  rw [Qdq]
  simp only [ZS, List.all_cons, List.all_append, Bool.and_eq_true]
  refine ⟨rfl, ?_, ?_, rfl, XU (by omega), XU (by omega)⟩
  · simp only [Qb]
    rw [if_neg (by omega)]
    refine X7 fun r hr => ?_
    simp only [List.contains_iff_mem, List.mem_cons, List.mem_append, List.mem_map]
    exact .inr (.inr (.inr (.inr (.inl ⟨r, hr, rfl⟩))))
  · simp only [Qb]
    rw [if_neg (by omega)]
    refine X7 fun r hr => ?_
    simp only [List.contains_iff_mem, List.mem_cons, List.mem_append, List.mem_map]
    exact .inr (.inr (.inr (.inr (.inr ⟨r, hr, rfl⟩))))
theorem Qn2 {s : Sky} {a b c d kA kS : Nat} : Qx (dom (ZS s a b c d kA kS)) (V0 s a b c d) = true := by
  rw [Qdq]; simp [V0, Qx, Qo]
theorem Qmv (s : Sky) (hs : s.small) : Contract P 22 [.sl 1 2 (s.aws.map (Aw.row 1))] [] (.own 613 0 0 s.aws.length) ((613, .arr (1000000 + 84) 0 2 ((fA 107 s).map NRow.row)) :: KD (fA 107 s)) := by
  unfold Sky.small at hs
  have h := (QnY 1 s.aws (by omega) hs.2.1.2).ren (swp 107 613) (GV _ _)
  simp only [Ui, ren, ZB, renO, swp, reduceIte, Nat.reduceLT, Nat.reduceAdd] at h
  rw [ZI, QbG, Qd7 (by omega) (by omega) (by omega)] at h
  exact h
theorem QkN (s : Sky) (hs : s.small) : Contract P 23 [.sl 1 2 (s.secs.map (Sec.row 1))] [] (.own 614 0 0 s.secs.length) ((614, .arr (1000000 + 88) 0 2 ((fS 108 s).map NRow.row)) :: KD (fS 108 s)) := by
  unfold Sky.small at hs
  have h := ((Qmt 1 s.secs (by omega) hs.2.2.1.2).ren (swp 107 614) (GV _ _)).ren (QiX 107 108) (Qcj (by omega) (by omega))
  have e : QiX 107 108 (swp 107 614 107) = 614 := by rfl
  simp only [Ui, ren, ZB, renO, e, Nat.reduceLT, Nat.reduceAdd, reduceIte] at h
  rw [ZI, ZI, QbG, QbG, Qd7 (by omega) (by omega) (by omega), QhW (by omega) (by omega)] at h
  exact h
set_option maxHeartbeats 2000000 in
theorem Qn3 (s : Sky) (hs : s.small) : Contract P 7 [.agg (s.row 1)] [] (V0 s 611 613 614 612) (ZS s 611 613 614 612 107 108) := by
  have hA := Qmv s hs
  have hS := QkN s hs
  have bA : Qhd (KD (fA 107 s)).reverse := Qd8 Zl
  have bS : Qhd (KD (fS 108 s)).reverse := Qd8 Zl
  unfold Sky.small at hs
  refine QP (((Env.nil P).addR 21 VY Qn0).addR 24 VZ Qn1) hm QdC (Nat.le_of_ble_eq_true rfl) rfl ?_; unfold Qav; simp (config := { maxSteps := 2000000 }) only [bitvec_to_nat, reduceIte, Nat.reduceEqDiff, Nat.reduceAdd, Nat.reduceLeDiff, reduceCtorEq, Nat.reduceBEq, Nat.reduceLT, Nat.reduceMod, List.forall_mem_cons, JA, Ky, Jz, YS, keepB, Kz, YY, VY, VZ, Qr, Qt, Qa, Yw, Ql, List.take_length, List.length_cons, List.length_nil, Nat.zero_add, Ko, Yx, Yy, YG, Pt.row, Qs, Aw.row, Qv, Blk.row, Qg, Sec.row, Qh, Rw.row, Qw, Sky.row, Qi, Place.row, Gn, Jw, Jx, Qp, Qu, Jy, YK, G9, Nat.sub_zero, Sky.row, V0]
  refine ⟨by omega, fun _ => ⟨_, _, .inr (.inr (.inl ⟨_, by simp only [Y7, pur, Option.map_some], hA, ?_, rfl, Qa8 (by omega), trivial, ?_⟩)), ?_⟩⟩
  · intro p hp
    rcases List.mem_cons.1 hp with rfl | hp
    · simp [getM]
    · obtain ⟨i, _, rfl⟩ := XO hp
      simp only [getM, YI (show (101 : Nat) < 1000 from by omega), YI (show (102 : Nat) < 1000 from by omega), YI (show (103 : Nat) < 1000 from by omega), YI (show (611 : Nat) < 1000 from by omega), if_false]
  · intro p hp
    rcases List.mem_cons.1 hp with rfl | hp
    · exact Qc3 _
    · exact QoB s p _ hp
  simp (config := { maxSteps := 2000000 }) only [bitvec_to_nat, reduceIte, Nat.reduceEqDiff, Nat.reduceAdd, Nat.reduceLeDiff, reduceCtorEq, Nat.reduceBEq, Nat.reduceLT, Nat.reduceMod, List.forall_mem_cons, JA, Ky, Jz, YS, keepB, Kz, YY, VY, VZ, Qr, Qt, Qa, Yw, Ql, List.take_length, List.length_cons, List.length_nil, Nat.zero_add, Ko, Yx, Yy, YG, Pt.row, Qs, Aw.row, Qv, Blk.row, Qg, Sec.row, Qh, Rw.row, Qw, Sky.row, Qi, Place.row, Gn, Jw, Jx, Qp, Qu, Jy, YK, G9, Nat.sub_zero, Sky.row, V0]
  rw [aU (U := KD (fA 107 s)) (fun p hp => by
    obtain ⟨i, _, rfl⟩ := XO hp
    simp only [getM, YI, Nat.reduceLT, if_false]) QbH]
  simp (config := { maxSteps := 2000000 }) only [bitvec_to_nat, reduceIte, Nat.reduceEqDiff, Nat.reduceAdd, Nat.reduceLeDiff, reduceCtorEq, Nat.reduceBEq, Nat.reduceLT, Nat.reduceMod, List.forall_mem_cons, JA, Ky, Jz, YS, keepB, Kz, YY, VY, VZ, Qr, Qt, Qa, Yw, Ql, List.take_length, List.length_cons, List.length_nil, Nat.zero_add, Ko, Yx, Yy, YG, Pt.row, Qs, Aw.row, Qv, Blk.row, Qg, Sec.row, Qh, Rw.row, Qw, Sky.row, Qi, Place.row, Gn, Jw, Jx, Qp, Qu, Jy, YK, G9, Nat.sub_zero, Sky.row, gB, gB0, sB, sB0, bA, bS, List.append_assoc, List.cons_append, List.nil_append, List.append_nil]
  refine ⟨_, _, .inr (.inr (.inl ⟨_, by simp only [Y7, pur, Option.map_some], hS, ?_, rfl, Qa8 (by omega), trivial, ?_⟩)), ?_⟩
  · intro p hp
    rcases List.mem_cons.1 hp with rfl | hp
    · simp only [getM, gB bA, Nat.reduceLT, Nat.reduceEqDiff, reduceIte]
    · obtain ⟨i, _, rfl⟩ := XO hp
      simp only [getM, YI, Nat.reduceLT, if_false, Ga, fA, Qck, U0, ne_eq, Nat.reduceEqDiff, not_false_eq_true, Option.none_or]
  · intro p hp
    rcases List.mem_cons.1 hp with rfl | hp
    · exact Qc3 _
    · exact Qmu s p _ hp
  simp (config := { maxSteps := 2000000 }) only [bitvec_to_nat, reduceIte, Nat.reduceEqDiff, Nat.reduceAdd, Nat.reduceLeDiff, reduceCtorEq, Nat.reduceBEq, Nat.reduceLT, Nat.reduceMod, List.forall_mem_cons, JA, Ky, Jz, YS, keepB, Kz, YY, VY, VZ, Qr, Qt, Qa, Yw, Ql, List.take_length, List.length_cons, List.length_nil, Nat.zero_add, Ko, Yx, Yy, YG, Pt.row, Qs, Aw.row, Qv, Blk.row, Qg, Sec.row, Qh, Rw.row, Qw, Sky.row, Qi, Place.row, Gn, Jw, Jx, Qp, Qu, Jy, YK, G9, Nat.sub_zero, Sky.row, gB, gB0, sB, sB0, bA, bS, List.append_assoc, List.cons_append, List.nil_append, List.append_nil]
  rw [aU (U := KD (fS 108 s)) (fun p hp => by
    obtain ⟨i, _, rfl⟩ := XO hp
    simp only [getM, YI, Nat.reduceLT, if_false, Ga, fA, Qck, U0, ne_eq, Nat.reduceEqDiff, not_false_eq_true, Option.none_or]) QbH]
  simp (config := { maxSteps := 2000000 }) only [bitvec_to_nat, reduceIte, Nat.reduceEqDiff, Nat.reduceAdd, Nat.reduceLeDiff, reduceCtorEq, Nat.reduceBEq, Nat.reduceLT, Nat.reduceMod, List.forall_mem_cons, JA, Ky, Jz, YS, keepB, Kz, YY, VY, VZ, Qr, Qt, Qa, Yw, Ql, List.take_length, List.length_cons, List.length_nil, Nat.zero_add, Ko, Yx, Yy, YG, Pt.row, Qs, Aw.row, Qv, Blk.row, Qg, Sec.row, Qh, Rw.row, Qw, Sky.row, Qi, Place.row, Gn, Jw, Jx, Qp, Qu, Jy, YK, G9, Nat.sub_zero, Sky.row, gB, gB0, sB, sB0, bA, bS, List.append_assoc, List.cons_append, List.nil_append, List.append_nil]
  refine ⟨by omega, fun _ => ⟨Qp6 ?_ ?_ ?_ ?_ (fun i hi => ?_) (fun i hi => ?_), Qg2, by rw [show List.map (fun x => x.1) (ZS s 611 613 614 612 107 108) = dom (ZS s 611 613 614 612 107 108) from rfl, Qdq]; simp [Qx], ?_⟩⟩
  · simp only [getM, Nat.reduceEqDiff, reduceIte]
  · simp only [getM, gB bA, Nat.reduceLT, Nat.reduceEqDiff, reduceIte]
  · simp only [getM, gB bA, gB bS, Nat.reduceLT, Nat.reduceEqDiff, reduceIte]
  · simp only [getM, gB bA, gB bS, Nat.reduceLT, Nat.reduceEqDiff, reduceIte]
  · simp only [getM, YI, Nat.reduceLT, if_false, Ga, fA, Qck, Vp (x := s.aws.map awP) (by simpa using hi), Option.some_or]
  · simp only [getM, YI, Nat.reduceLT, if_false, Ga, fA, fS, Qck, U0, ne_eq, Nat.reduceEqDiff, not_false_eq_true, Option.none_or, Vp (x := s.secs.map UK) (by simpa using hi), Option.some_or]
  · exact Qgm (M' := ZS s 611 613 614 612 107 108) (M := (101, .gone) :: (102, .gone) :: (103, .gone) :: (611, .gone) :: ((KD (fA 107 s)).reverse ++ (613, _) :: ((KD (fS 108 s)).reverse ++ [(614, _), (612, _)])))
      (YV (by omega) (YV (by omega) (YV (by omega) (YV (by omega) (Qa5 (QfT (WQ (by omega) (by omega))) (YV (by omega) (Qa5 (QfT (WQ (by omega) (by omega))) (YV (by omega) (YV (by omega) Xs)))))))))

end
end Go.Ve

namespace Go.Ve
noncomputable section
open Go.Proofs
set_option linter.unusedSimpArgs false
set_option linter.unusedVariables false
set_option maxRecDepth 100000
def dch (i : Nat) : ByteArray := ⟨#[Qjj [AV.int .u8 (IntKind.u8.wrap (48 + (i : Int) % 10))]]⟩
theorem QoC (i : Nat) : Qeo [[AV.int .u8 (IntKind.u8.wrap (48 + (i : Int) % 10))]] = dch i := rfl
def dg (k : Nat) (o : ByteArray) : ByteArray := if h : k = 0 then o else dg (k / 10) (dch k ++ o)
termination_by k
decreasing_by omega
theorem Qp7 (o : ByteArray) : dg 0 o = o := by rw [dg]; simp
theorem Qp8 {k : Nat} (o : ByteArray) (h : 0 < k) : dg k o = dg (k / 10) (dch k ++ o) := by rw [dg]; simp [show k ≠ 0 by omega]
def mtx (k : Int) : ByteArray := if k ≤ 0 then ⟨#[109, 48]⟩ else ⟨#[109]⟩ ++ dg k.toNat ⟨#[]⟩
theorem Qp9 (i : Nat) : (dch i).toList.length = 1 := by rw [← Gp]; rfl
theorem Qqa (a b : ByteArray) : (a ++ b).toList.length = a.toList.length + b.toList.length := by simp only [← Gp, ByteArray.size_append]
theorem Qqb (w : Int) : Qhh [AV.int .u8 (IntKind.u8.wrap w)] = true := by
  simp [Qhh, IntKind.wrap, IntKind.bits, IntKind.signed]
  try omega
theorem Qru : (⟨#[109]⟩ : ByteArray).toList.length = 1 := by rw [← Gp]; rfl
theorem Qrv : (⟨#[]⟩ : ByteArray).toList.length = 0 := by rw [← Gp]; rfl
theorem QkO (k : Int) (hk : 0 ≤ k ∧ k ≤ 1152921504606846976) : Contract P 38 [.int .i64 k] [] (.str (mtx k)) [] := by
  refine QP (Env.nil P) hm QeU (Nat.le_of_ble_eq_true rfl) rfl ?_; unfold QaD; simp (config := { maxSteps := 2000000 }) only [bitvec_to_nat, reduceIte, Nat.reduceEqDiff, Nat.reduceAdd, Nat.reduceLeDiff, reduceCtorEq, Nat.reduceBEq, Nat.reduceLT, Nat.reduceMod, List.forall_mem_cons, Nat.zero_add, Yy, List.map_cons, List.map_nil, Ql, QoC]
  refine ⟨fun h => by rw [mtx, if_pos h], fun hp => ?_⟩
  have hkk : ((k.toNat : Nat) : Int) = k := by omega
  refine Yz (fun a : Nat × ByteArray => [(0, .int .i64 a.1), (3, .str a.2)]) (fun _ => []) (fun a => dg a.1 a.2 = dg k.toNat ⟨#[]⟩ ∧ a.2.toList.length + a.1 ≤ 1152921504606846976) (fun a => a.1) (k.toNat, ⟨#[]⟩) (by simp only [hkk]; simp only [YC, YD, YE, YF, Qc, Qd, Qe, Qf, reduceIte, Nat.reduceEqDiff]; exact ⟨by repeat' (first | exact trivial | refine ⟨.inr rfl, ?_⟩), by repeat' (first | exact trivial | refine ⟨rfl, ?_⟩), by first | rfl | simp [closedB, Qx, Qo, Qb, dom, Qm, *], by first | rfl | simp [keepB, dom]⟩) ⟨rfl, by simp only [Qrv]; omega⟩ ?_
  rintro ⟨i, s⟩ ⟨h1, h2⟩ NX hN
  simp only at h1 h2
  unfold Wl; simp (config := { maxSteps := 2000000 }) only [bitvec_to_nat, reduceIte, Nat.reduceEqDiff, Nat.reduceAdd, Nat.reduceLeDiff, reduceCtorEq, Nat.reduceBEq, Nat.reduceLT, Nat.reduceMod, List.forall_mem_cons, Nat.zero_add, Yy, List.map_cons, List.map_nil, Ql, QoC]
  refine ⟨fun g => ⟨by omega, by omega, by simp only [List.all_cons, List.all_nil, Qqb, Bool.and_true], ?_⟩, fun g => ?_⟩
  · have e1 := Qp9 i
    refine ⟨by rw [e1]; omega, by omega, ?_⟩
    have e2 : ((i : Int) / 10) = ((i / 10 : Nat) : Int) := by omega
    simp only [e2]
    refine hN (i / 10, dch i ++ s) _ (by simp only [YC, YD, YE, YF, Qc, Qd, Qe, Qf, reduceIte, Nat.reduceEqDiff]; exact ⟨by repeat' (first | exact trivial | refine ⟨.inr rfl, ?_⟩), by repeat' (first | exact trivial | refine ⟨rfl, ?_⟩), by first | rfl | simp [closedB, Qx, Qo, Qb, dom, Qm, *], by first | rfl | simp [keepB, dom]⟩) ?_ ?_
    · exact ⟨by rw [← Qp8 s (by omega)]; exact h1, by simp only [Qqa, e1]; omega⟩
    · simp only; omega
  · have e : i = 0 := by omega
    subst e
    rw [Qp7] at h1
    refine ⟨by rw [Qru]; omega, ?_⟩
    rw [mtx, if_neg hp, ← h1]
def YH : List AV → Option (Prop × AV)
  | [.int .i64 k] => some ((True) ∧ (0 ≤ k ∧ k ≤ 1152921504606846976), .str (mtx k))
  | _ => none
theorem ZT : ∀ args p v, YH args = some (p, v) → p → Contract P 38 args [] v [] ∧ noref v = true ∧ No99 v := by
  intro args p v h1 h2
  unfold YH at h1
  split at h1
  · rename_i k
    cases h1
    obtain ⟨_, HP⟩ := h2
    have := QkO k HP
    exact ⟨this, rfl, trivial⟩
  · cases h1
theorem XA {α : Type} {l : List α} {i : Nat} {x d : α} (h : i < l.length) : (l.set i x).getD i d = x := by simp [h]
theorem XB {α : Type} {l : List α} {i j : Nat} {x d : α} (h : i ≠ j) : (l.set i x).getD j d = l.getD j d := by simp [List.getElem?_set_ne h]
def Uf (k : Int) : ByteArray := mtx k
def Xf (k : Int) (n : Nat) : List ByteArray := (List.range n).map fun j : Nat => Uf (k + (j : Int))
theorem KA {k : Int} {n : Nat} : (Xf k n).length = n := by simp [Xf]
theorem Qaa {k : Int} {n j : Nat} (h : j < n) : (Xf k n).getD j default = Uf (k + (j : Int)) := by simp [Xf, h]
theorem V7 {l : List ByteArray} {i : Nat} {v : ByteArray} : (l.map Ko).set i (YB ((l.map Ko).getD i []) 0 [.str v]) = (l.set i v).map Ko :=
  G8 (α := ByteArray) (f := Ko) (fun _ => v) fun x => by simp [Ko, YB]
set_option maxHeartbeats 1000000 in
theorem Qab (v : Nat) (k : Int) (a : List ByteArray) (ha : a.length ≤ 1048577) (hk : 0 ≤ k ∧ k ≤ 1125899906842624) : Contract P 14 [.own 3 v 0 a.length, .int .i64 k] [(3, .arr 9 v 1 (a.map Ko))] (.int .i64 (k + a.length)) [(3, .arr 9 v 1 ((Xf k a.length).map Ko))] := by
  have hz : ((0 : Nat) : Int) = 0 := rfl
  have gs : True := trivial
  refine QP ((Env.nil P).add 38 YH ZT) hm Vr (Nat.le_of_ble_eq_true rfl) rfl ?_; unfold Zn; simp (config := { maxSteps := 2000000 }) only [bitvec_to_nat, reduceIte, Nat.reduceEqDiff, Nat.reduceAdd, Nat.reduceLeDiff, reduceCtorEq, Nat.reduceBEq, Nat.reduceLT, Nat.reduceMod, List.forall_mem_cons, JA, Ky, Jz, YS, keepB, Kz, YY, YH, V7, List.set_set, gs, Yx, Ko, Int.toNat_natCast, List.length_map, List.length_set, Nat.sub_zero, Nat.zero_add, hz]
  refine Yz (fun b : Nat × List ByteArray => [(1, .int .i64 (k + b.1)), (5, .int .i64 b.1)]) (fun b => [(3, .arr 9 v 1 (b.2.map Ko))]) (fun b => b.2.length = a.length ∧ b.1 ≤ a.length ∧ ∀ j, j < b.1 → b.2.getD j default = Uf (k + (j : Int))) (fun b => a.length - b.1) (0, a) ?_ ⟨rfl, Nat.zero_le _, fun j hj => absurd hj (Nat.not_lt_zero _)⟩ ?_
  · have e0 : k + ((0 : Nat) : Int) = k := by omega
    simp only [e0]
    simp only [YC, YD, YE, YF, Qc, Qd, Qe, Qf, reduceIte, Nat.reduceEqDiff]; exact ⟨by repeat' (first | exact trivial | refine ⟨.inr rfl, ?_⟩), by repeat' (first | exact trivial | refine ⟨rfl, ?_⟩), by first | rfl | simp [closedB, Qx, Qo, Qb, dom, Qm, *], by first | rfl | simp [keepB, dom]⟩
  rintro ⟨i, l⟩ ⟨h1, h2, h3⟩ NX hN
  simp only at h1 h2 h3
  have gs : i < a.length → ∀ x : ByteArray, (l.set i x).getD i default = x := fun h x => XA (by omega)
  by_cases hi : i < a.length
  · have gs := gs hi
    have e5 : k + ((i + 1 : Nat) : Int) = k + (i : Int) + 1 := by omega
    unfold Xq; simp (config := { maxSteps := 2000000 }) only [bitvec_to_nat, reduceIte, Nat.reduceEqDiff, Nat.reduceAdd, Nat.reduceLeDiff, reduceCtorEq, Nat.reduceBEq, Nat.reduceLT, Nat.reduceMod, List.forall_mem_cons, JA, Ky, Jz, YS, keepB, Kz, YY, YH, V7, List.set_set, gs, Yx, Ko, Int.toNat_natCast, List.length_map, List.length_set, Nat.sub_zero, Nat.zero_add, hz]
    repeat' (first | with_reducible apply And.intro | with_reducible intro _)
    all_goals first
      | omega
      | (refine hN (i + 1, l.set i (Uf (k + (i : Int)))) _ (by simp only [e5]; simp only [YC, YD, YE, YF, Qc, Qd, Qe, Qf, reduceIte, Nat.reduceEqDiff]; exact ⟨by repeat' (first | exact trivial | refine ⟨.inr rfl, ?_⟩), by repeat' (first | exact trivial | refine ⟨rfl, ?_⟩), by first | rfl | simp [closedB, Qx, Qo, Qb, dom, Qm, *], by first | rfl | simp [keepB, dom]⟩) ⟨by simp only [List.length_set]; exact h1, hi, fun j hj => ?_⟩ (by simp only; omega)
         simp only at hj ⊢
         by_cases e : j = i
         · subst e; exact XA (by omega)
         · rw [XB (Ne.symm e)]; exact h3 j (by omega))
      | (exfalso; omega)
  · have hl : l = Xf k a.length := Qbt (by rw [KA]; exact h1) fun j hj => by rw [Qaa (by omega)]; exact h3 j (by omega)
    have hi' : ¬ (i : Int) < a.length := by omega
    unfold Xq; simp (config := { maxSteps := 2000000 }) only [bitvec_to_nat, reduceIte, Nat.reduceEqDiff, Nat.reduceAdd, Nat.reduceLeDiff, reduceCtorEq, Nat.reduceBEq, Nat.reduceLT, Nat.reduceMod, List.forall_mem_cons, JA, Ky, Jz, YS, keepB, Kz, YY, YH, V7, List.set_set, gs, Yx, Ko, Int.toNat_natCast, List.length_map, List.length_set, Nat.sub_zero, Nat.zero_add, hz, hi']
    refine ⟨by omega, ?_⟩
    rw [hl]
theorem QdX (v : Nat) (k : Int) (a : List ByteArray) (ha : a.length ≤ 1048577) (hk : 0 ≤ k ∧ k ≤ 1125899906842624) : Contract P 14 [.own 3 v 0 a.length, .int .i64 k] [(3, .arr 9 v 1 (a.map Ko))] (.int .i64 (k + a.length)) [(3, .gone)] :=
  (Qab v k a ha hk).gone rfl
def Qn4 (k : Int) : Pt := ⟨mtx (k), k + 1, k + 1 + 1⟩
def QkP (k : Int) (n : Nat) : List Pt := (List.range n).map fun j : Nat => Qn4 (k + 3 * (j : Int))
theorem Qmw {k : Int} {n : Nat} : (QkP k n).length = n := by simp [QkP]
theorem Qmx {k : Int} {n j : Nat} (h : j < n) : (QkP k n).getD j default = Qn4 (k + 3 * (j : Int)) := by simp [QkP, h]
theorem Qg3 {l : List Pt} {i : Nat} {v : ByteArray} : (l.map Pt.row).set i (YB ((l.map Pt.row).getD i []) 0 [.str v]) = (l.set i { l.getD i default with nm := v }).map Pt.row :=
  G8 (α := Pt) (f := Pt.row) (fun s => { s with nm := v }) fun x => by simp [Pt.row, YB]
theorem Qg4 {l : List Pt} {i : Nat} {v : Int} : (l.map Pt.row).set i (YB ((l.map Pt.row).getD i []) 1 [.int .i64 v]) = (l.set i { l.getD i default with x := v }).map Pt.row :=
  G8 (α := Pt) (f := Pt.row) (fun s => { s with x := v }) fun x => by simp [Pt.row, YB]
theorem Qg5 {l : List Pt} {i : Nat} {v : Int} : (l.map Pt.row).set i (YB ((l.map Pt.row).getD i []) 2 [.int .i64 v]) = (l.set i { l.getD i default with y := v }).map Pt.row :=
  G8 (α := Pt) (f := Pt.row) (fun s => { s with y := v }) fun x => by simp [Pt.row, YB]
set_option maxHeartbeats 1000000 in
theorem Qmy (v : Nat) (k : Int) (a : List Pt) (ha : a.length ≤ 1048577) (hk : 0 ≤ k ∧ k ≤ 1125899906842624) : Contract P 34 [.own 3 v 0 a.length, .int .i64 k] [(3, .arr 82 v 3 (a.map Pt.row))] (.int .i64 (k + 3 * a.length)) [(3, .arr 82 v 3 ((QkP k a.length).map Pt.row))] := by
  have hz : ((0 : Nat) : Int) = 0 := rfl
  have gs : True := trivial
  refine QP ((Env.nil P).add 38 YH ZT) hm Qbc (Nat.le_of_ble_eq_true rfl) rfl ?_; unfold Uu; simp (config := { maxSteps := 2000000 }) only [bitvec_to_nat, reduceIte, Nat.reduceEqDiff, Nat.reduceAdd, Nat.reduceLeDiff, reduceCtorEq, Nat.reduceBEq, Nat.reduceLT, Nat.reduceMod, List.forall_mem_cons, JA, Ky, Jz, YS, keepB, Kz, YY, YH, Qg3, Qg4, Qg5, List.set_set, gs, Pt.row, Yx, Ko, Int.toNat_natCast, List.length_map, List.length_set, Nat.sub_zero, Nat.zero_add, hz]
  refine Yz (fun b : Nat × List Pt => [(1, .int .i64 (k + 3 * b.1)), (5, .int .i64 b.1)]) (fun b => [(3, .arr 82 v 3 (b.2.map Pt.row))]) (fun b => b.2.length = a.length ∧ b.1 ≤ a.length ∧ ∀ j, j < b.1 → b.2.getD j default = Qn4 (k + 3 * (j : Int))) (fun b => a.length - b.1) (0, a) ?_ ⟨rfl, Nat.zero_le _, fun j hj => absurd hj (Nat.not_lt_zero _)⟩ ?_
  · have e0 : k + 3 * ((0 : Nat) : Int) = k := by omega
    simp only [e0]
    simp only [YC, YD, YE, YF, Qc, Qd, Qe, Qf, reduceIte, Nat.reduceEqDiff]; exact ⟨by repeat' (first | exact trivial | refine ⟨.inr rfl, ?_⟩), by repeat' (first | exact trivial | refine ⟨rfl, ?_⟩), by first | rfl | simp [closedB, Qx, Qo, Qb, dom, Qm, *], by first | rfl | simp [keepB, dom]⟩
  rintro ⟨i, l⟩ ⟨h1, h2, h3⟩ NX hN
  simp only at h1 h2 h3
  have gs : i < a.length → ∀ x : Pt, (l.set i x).getD i default = x := fun h x => XA (by omega)
  by_cases hi : i < a.length
  · have gs := gs hi
    have e5 : k + 3 * ((i + 1 : Nat) : Int) = k + 3 * (i : Int) + 1 + 1 + 1 := by omega
    unfold XC; simp (config := { maxSteps := 2000000 }) only [bitvec_to_nat, reduceIte, Nat.reduceEqDiff, Nat.reduceAdd, Nat.reduceLeDiff, reduceCtorEq, Nat.reduceBEq, Nat.reduceLT, Nat.reduceMod, List.forall_mem_cons, JA, Ky, Jz, YS, keepB, Kz, YY, YH, Qg3, Qg4, Qg5, List.set_set, gs, Pt.row, Yx, Ko, Int.toNat_natCast, List.length_map, List.length_set, Nat.sub_zero, Nat.zero_add, hz]
    repeat' (first | with_reducible apply And.intro | with_reducible intro _)
    all_goals first
      | omega
      | (refine hN (i + 1, l.set i (Qn4 (k + 3 * (i : Int)))) _ (by simp only [e5]; simp only [YC, YD, YE, YF, Qc, Qd, Qe, Qf, reduceIte, Nat.reduceEqDiff]; exact ⟨by repeat' (first | exact trivial | refine ⟨.inr rfl, ?_⟩), by repeat' (first | exact trivial | refine ⟨rfl, ?_⟩), by first | rfl | simp [closedB, Qx, Qo, Qb, dom, Qm, *], by first | rfl | simp [keepB, dom]⟩) ⟨by simp only [List.length_set]; exact h1, hi, fun j hj => ?_⟩ (by simp only; omega)
         simp only at hj ⊢
         by_cases e : j = i
         · subst e; exact XA (by omega)
         · rw [XB (Ne.symm e)]; exact h3 j (by omega))
      | (exfalso; omega)
  · have hl : l = QkP k a.length := Qbt (by rw [Qmw]; exact h1) fun j hj => by rw [Qmx (by omega)]; exact h3 j (by omega)
    have hi' : ¬ (i : Int) < a.length := by omega
    unfold XC; simp (config := { maxSteps := 2000000 }) only [bitvec_to_nat, reduceIte, Nat.reduceEqDiff, Nat.reduceAdd, Nat.reduceLeDiff, reduceCtorEq, Nat.reduceBEq, Nat.reduceLT, Nat.reduceMod, List.forall_mem_cons, JA, Ky, Jz, YS, keepB, Kz, YY, YH, Qg3, Qg4, Qg5, List.set_set, gs, Pt.row, Yx, Ko, Int.toNat_natCast, List.length_map, List.length_set, Nat.sub_zero, Nat.zero_add, hz, hi']
    refine ⟨by omega, ?_⟩
    rw [hl]
theorem Qmz (v : Nat) (k : Int) (a : List Pt) (ha : a.length ≤ 1048577) (hk : 0 ≤ k ∧ k ≤ 1125899906842624) : Contract P 34 [.own 3 v 0 a.length, .int .i64 k] [(3, .arr 82 v 3 (a.map Pt.row))] (.int .i64 (k + 3 * a.length)) [(3, .gone)] :=
  (Qmy v k a ha hk).gone rfl
def Qj8 (k : Int) : Blk := ⟨k, k + 1, k + 1 + 1, k + 1 + 1 + 1, k + 1 + 1 + 1 + 1, k + 1 + 1 + 1 + 1 + 1⟩
def Qf0 (k : Int) (n : Nat) : List Blk := (List.range n).map fun j : Nat => Qj8 (k + 6 * (j : Int))
theorem QkQ {k : Int} {n : Nat} : (Qf0 k n).length = n := by simp [Qf0]
theorem QkR {k : Int} {n j : Nat} (h : j < n) : (Qf0 k n).getD j default = Qj8 (k + 6 * (j : Int)) := by simp [Qf0, h]
theorem Qff {l : List Blk} {i : Nat} {v : Int} : (l.map Blk.row).set i (YB ((l.map Blk.row).getD i []) 0 [.int .i64 v]) = (l.set i { l.getD i default with x0 := v }).map Blk.row :=
  G8 (α := Blk) (f := Blk.row) (fun s => { s with x0 := v }) fun x => by simp [Blk.row, YB]
theorem Qfg {l : List Blk} {i : Nat} {v : Int} : (l.map Blk.row).set i (YB ((l.map Blk.row).getD i []) 1 [.int .i64 v]) = (l.set i { l.getD i default with y0 := v }).map Blk.row :=
  G8 (α := Blk) (f := Blk.row) (fun s => { s with y0 := v }) fun x => by simp [Blk.row, YB]
theorem Qfh {l : List Blk} {i : Nat} {v : Int} : (l.map Blk.row).set i (YB ((l.map Blk.row).getD i []) 2 [.int .i64 v]) = (l.set i { l.getD i default with x1 := v }).map Blk.row :=
  G8 (α := Blk) (f := Blk.row) (fun s => { s with x1 := v }) fun x => by simp [Blk.row, YB]
theorem Qfi {l : List Blk} {i : Nat} {v : Int} : (l.map Blk.row).set i (YB ((l.map Blk.row).getD i []) 3 [.int .i64 v]) = (l.set i { l.getD i default with y1 := v }).map Blk.row :=
  G8 (α := Blk) (f := Blk.row) (fun s => { s with y1 := v }) fun x => by simp [Blk.row, YB]
theorem Qfj {l : List Blk} {i : Nat} {v : Int} : (l.map Blk.row).set i (YB ((l.map Blk.row).getD i []) 4 [.int .i64 v]) = (l.set i { l.getD i default with lo := v }).map Blk.row :=
  G8 (α := Blk) (f := Blk.row) (fun s => { s with lo := v }) fun x => by simp [Blk.row, YB]
theorem Qfk {l : List Blk} {i : Nat} {v : Int} : (l.map Blk.row).set i (YB ((l.map Blk.row).getD i []) 5 [.int .i64 v]) = (l.set i { l.getD i default with hi := v }).map Blk.row :=
  G8 (α := Blk) (f := Blk.row) (fun s => { s with hi := v }) fun x => by simp [Blk.row, YB]
set_option maxHeartbeats 1000000 in
theorem QkS (v : Nat) (k : Int) (a : List Blk) (ha : a.length ≤ 1048577) (hk : 0 ≤ k ∧ k ≤ 1125899906842624) : Contract P 73 [.own 3 v 0 a.length, .int .i64 k] [(3, .arr 99 v 6 (a.map Blk.row))] (.int .i64 (k + 6 * a.length)) [(3, .arr 99 v 6 ((Qf0 k a.length).map Blk.row))] := by
  have hz : ((0 : Nat) : Int) = 0 := rfl
  have gs : True := trivial
  refine QP (Env.nil P) hm Qbe (Nat.le_of_ble_eq_true rfl) rfl ?_; unfold UD; simp (config := { maxSteps := 2000000 }) only [bitvec_to_nat, reduceIte, Nat.reduceEqDiff, Nat.reduceAdd, Nat.reduceLeDiff, reduceCtorEq, Nat.reduceBEq, Nat.reduceLT, Nat.reduceMod, List.forall_mem_cons, JA, Ky, Jz, YS, keepB, Kz, YY, Qff, Qfg, Qfh, Qfi, Qfj, Qfk, List.set_set, gs, Blk.row, Yx, Ko, Int.toNat_natCast, List.length_map, List.length_set, Nat.sub_zero, Nat.zero_add, hz]
  refine Yz (fun b : Nat × List Blk => [(1, .int .i64 (k + 6 * b.1)), (5, .int .i64 b.1)]) (fun b => [(3, .arr 99 v 6 (b.2.map Blk.row))]) (fun b => b.2.length = a.length ∧ b.1 ≤ a.length ∧ ∀ j, j < b.1 → b.2.getD j default = Qj8 (k + 6 * (j : Int))) (fun b => a.length - b.1) (0, a) ?_ ⟨rfl, Nat.zero_le _, fun j hj => absurd hj (Nat.not_lt_zero _)⟩ ?_
  · have e0 : k + 6 * ((0 : Nat) : Int) = k := by omega
    simp only [e0]
    simp only [YC, YD, YE, YF, Qc, Qd, Qe, Qf, reduceIte, Nat.reduceEqDiff]; exact ⟨by repeat' (first | exact trivial | refine ⟨.inr rfl, ?_⟩), by repeat' (first | exact trivial | refine ⟨rfl, ?_⟩), by first | rfl | simp [closedB, Qx, Qo, Qb, dom, Qm, *], by first | rfl | simp [keepB, dom]⟩
  rintro ⟨i, l⟩ ⟨h1, h2, h3⟩ NX hN
  simp only at h1 h2 h3
  have gs : i < a.length → ∀ x : Blk, (l.set i x).getD i default = x := fun h x => XA (by omega)
  by_cases hi : i < a.length
  · have gs := gs hi
    have e5 : k + 6 * ((i + 1 : Nat) : Int) = k + 6 * (i : Int) + 1 + 1 + 1 + 1 + 1 + 1 := by omega
    unfold XD; simp (config := { maxSteps := 2000000 }) only [bitvec_to_nat, reduceIte, Nat.reduceEqDiff, Nat.reduceAdd, Nat.reduceLeDiff, reduceCtorEq, Nat.reduceBEq, Nat.reduceLT, Nat.reduceMod, List.forall_mem_cons, JA, Ky, Jz, YS, keepB, Kz, YY, Qff, Qfg, Qfh, Qfi, Qfj, Qfk, List.set_set, gs, Blk.row, Yx, Ko, Int.toNat_natCast, List.length_map, List.length_set, Nat.sub_zero, Nat.zero_add, hz]
    repeat' (first | with_reducible apply And.intro | with_reducible intro _)
    all_goals first
      | omega
      | (refine hN (i + 1, l.set i (Qj8 (k + 6 * (i : Int)))) _ (by simp only [e5]; simp only [YC, YD, YE, YF, Qc, Qd, Qe, Qf, reduceIte, Nat.reduceEqDiff]; exact ⟨by repeat' (first | exact trivial | refine ⟨.inr rfl, ?_⟩), by repeat' (first | exact trivial | refine ⟨rfl, ?_⟩), by first | rfl | simp [closedB, Qx, Qo, Qb, dom, Qm, *], by first | rfl | simp [keepB, dom]⟩) ⟨by simp only [List.length_set]; exact h1, hi, fun j hj => ?_⟩ (by simp only; omega)
         simp only at hj ⊢
         by_cases e : j = i
         · subst e; exact XA (by omega)
         · rw [XB (Ne.symm e)]; exact h3 j (by omega))
      | (exfalso; omega)
  · have hl : l = Qf0 k a.length := Qbt (by rw [QkQ]; exact h1) fun j hj => by rw [QkR (by omega)]; exact h3 j (by omega)
    have hi' : ¬ (i : Int) < a.length := by omega
    unfold XD; simp (config := { maxSteps := 2000000 }) only [bitvec_to_nat, reduceIte, Nat.reduceEqDiff, Nat.reduceAdd, Nat.reduceLeDiff, reduceCtorEq, Nat.reduceBEq, Nat.reduceLT, Nat.reduceMod, List.forall_mem_cons, JA, Ky, Jz, YS, keepB, Kz, YY, Qff, Qfg, Qfh, Qfi, Qfj, Qfk, List.set_set, gs, Blk.row, Yx, Ko, Int.toNat_natCast, List.length_map, List.length_set, Nat.sub_zero, Nat.zero_add, hz, hi']
    refine ⟨by omega, ?_⟩
    rw [hl]
theorem QkT (v : Nat) (k : Int) (a : List Blk) (ha : a.length ≤ 1048577) (hk : 0 ≤ k ∧ k ≤ 1125899906842624) : Contract P 73 [.own 3 v 0 a.length, .int .i64 k] [(3, .arr 99 v 6 (a.map Blk.row))] (.int .i64 (k + 6 * a.length)) [(3, .gone)] :=
  (QkS v k a ha hk).gone rfl
def Qn5 (k : Int) : Rw := ⟨mtx (k), k + 1, k + 1 + 1, k + 1 + 1 + 1⟩
def QkU (k : Int) (n : Nat) : List Rw := (List.range n).map fun j : Nat => Qn5 (k + 4 * (j : Int))
theorem QmA {k : Int} {n : Nat} : (QkU k n).length = n := by simp [QkU]
theorem QmB {k : Int} {n j : Nat} (h : j < n) : (QkU k n).getD j default = Qn5 (k + 4 * (j : Int)) := by simp [QkU, h]
theorem Qg6 {l : List Rw} {i : Nat} {v : ByteArray} : (l.map Rw.row).set i (YB ((l.map Rw.row).getD i []) 0 [.str v]) = (l.set i { l.getD i default with nm := v }).map Rw.row :=
  G8 (α := Rw) (f := Rw.row) (fun s => { s with nm := v }) fun x => by simp [Rw.row, YB]
theorem Qg7 {l : List Rw} {i : Nat} {v : Int} : (l.map Rw.row).set i (YB ((l.map Rw.row).getD i []) 1 [.int .i64 v]) = (l.set i { l.getD i default with x := v }).map Rw.row :=
  G8 (α := Rw) (f := Rw.row) (fun s => { s with x := v }) fun x => by simp [Rw.row, YB]
theorem Qg8 {l : List Rw} {i : Nat} {v : Int} : (l.map Rw.row).set i (YB ((l.map Rw.row).getD i []) 2 [.int .i64 v]) = (l.set i { l.getD i default with y := v }).map Rw.row :=
  G8 (α := Rw) (f := Rw.row) (fun s => { s with y := v }) fun x => by simp [Rw.row, YB]
theorem Qg9 {l : List Rw} {i : Nat} {v : Int} : (l.map Rw.row).set i (YB ((l.map Rw.row).getD i []) 3 [.int .i64 v]) = (l.set i { l.getD i default with tn := v }).map Rw.row :=
  G8 (α := Rw) (f := Rw.row) (fun s => { s with tn := v }) fun x => by simp [Rw.row, YB]
set_option maxHeartbeats 1000000 in
theorem QmC (v : Nat) (k : Int) (a : List Rw) (ha : a.length ≤ 1048577) (hk : 0 ≤ k ∧ k ≤ 1125899906842624) : Contract P 37 [.own 3 v 0 a.length, .int .i64 k] [(3, .arr 90 v 4 (a.map Rw.row))] (.int .i64 (k + 4 * a.length)) [(3, .arr 90 v 4 ((QkU k a.length).map Rw.row))] := by
  have hz : ((0 : Nat) : Int) = 0 := rfl
  have gs : True := trivial
  refine QP ((Env.nil P).add 38 YH ZT) hm QaC (Nat.le_of_ble_eq_true rfl) rfl ?_; unfold Ub; simp (config := { maxSteps := 2000000 }) only [bitvec_to_nat, reduceIte, Nat.reduceEqDiff, Nat.reduceAdd, Nat.reduceLeDiff, reduceCtorEq, Nat.reduceBEq, Nat.reduceLT, Nat.reduceMod, List.forall_mem_cons, JA, Ky, Jz, YS, keepB, Kz, YY, YH, Qg6, Qg7, Qg8, Qg9, List.set_set, gs, Rw.row, Yx, Ko, Int.toNat_natCast, List.length_map, List.length_set, Nat.sub_zero, Nat.zero_add, hz]
  refine Yz (fun b : Nat × List Rw => [(1, .int .i64 (k + 4 * b.1)), (5, .int .i64 b.1)]) (fun b => [(3, .arr 90 v 4 (b.2.map Rw.row))]) (fun b => b.2.length = a.length ∧ b.1 ≤ a.length ∧ ∀ j, j < b.1 → b.2.getD j default = Qn5 (k + 4 * (j : Int))) (fun b => a.length - b.1) (0, a) ?_ ⟨rfl, Nat.zero_le _, fun j hj => absurd hj (Nat.not_lt_zero _)⟩ ?_
  · have e0 : k + 4 * ((0 : Nat) : Int) = k := by omega
    simp only [e0]
    simp only [YC, YD, YE, YF, Qc, Qd, Qe, Qf, reduceIte, Nat.reduceEqDiff]; exact ⟨by repeat' (first | exact trivial | refine ⟨.inr rfl, ?_⟩), by repeat' (first | exact trivial | refine ⟨rfl, ?_⟩), by first | rfl | simp [closedB, Qx, Qo, Qb, dom, Qm, *], by first | rfl | simp [keepB, dom]⟩
  rintro ⟨i, l⟩ ⟨h1, h2, h3⟩ NX hN
  simp only at h1 h2 h3
  have gs : i < a.length → ∀ x : Rw, (l.set i x).getD i default = x := fun h x => XA (by omega)
  by_cases hi : i < a.length
  · have gs := gs hi
    have e5 : k + 4 * ((i + 1 : Nat) : Int) = k + 4 * (i : Int) + 1 + 1 + 1 + 1 := by omega
    unfold Xv; simp (config := { maxSteps := 2000000 }) only [bitvec_to_nat, reduceIte, Nat.reduceEqDiff, Nat.reduceAdd, Nat.reduceLeDiff, reduceCtorEq, Nat.reduceBEq, Nat.reduceLT, Nat.reduceMod, List.forall_mem_cons, JA, Ky, Jz, YS, keepB, Kz, YY, YH, Qg6, Qg7, Qg8, Qg9, List.set_set, gs, Rw.row, Yx, Ko, Int.toNat_natCast, List.length_map, List.length_set, Nat.sub_zero, Nat.zero_add, hz]
    repeat' (first | with_reducible apply And.intro | with_reducible intro _)
    all_goals first
      | omega
      | (refine hN (i + 1, l.set i (Qn5 (k + 4 * (i : Int)))) _ (by simp only [e5]; simp only [YC, YD, YE, YF, Qc, Qd, Qe, Qf, reduceIte, Nat.reduceEqDiff]; exact ⟨by repeat' (first | exact trivial | refine ⟨.inr rfl, ?_⟩), by repeat' (first | exact trivial | refine ⟨rfl, ?_⟩), by first | rfl | simp [closedB, Qx, Qo, Qb, dom, Qm, *], by first | rfl | simp [keepB, dom]⟩) ⟨by simp only [List.length_set]; exact h1, hi, fun j hj => ?_⟩ (by simp only; omega)
         simp only at hj ⊢
         by_cases e : j = i
         · subst e; exact XA (by omega)
         · rw [XB (Ne.symm e)]; exact h3 j (by omega))
      | (exfalso; omega)
  · have hl : l = QkU k a.length := Qbt (by rw [QmA]; exact h1) fun j hj => by rw [QmB (by omega)]; exact h3 j (by omega)
    have hi' : ¬ (i : Int) < a.length := by omega
    unfold Xv; simp (config := { maxSteps := 2000000 }) only [bitvec_to_nat, reduceIte, Nat.reduceEqDiff, Nat.reduceAdd, Nat.reduceLeDiff, reduceCtorEq, Nat.reduceBEq, Nat.reduceLT, Nat.reduceMod, List.forall_mem_cons, JA, Ky, Jz, YS, keepB, Kz, YY, YH, Qg6, Qg7, Qg8, Qg9, List.set_set, gs, Rw.row, Yx, Ko, Int.toNat_natCast, List.length_map, List.length_set, Nat.sub_zero, Nat.zero_add, hz, hi']
    refine ⟨by omega, ?_⟩
    rw [hl]
theorem QmD (v : Nat) (k : Int) (a : List Rw) (ha : a.length ≤ 1048577) (hk : 0 ≤ k ∧ k ≤ 1125899906842624) : Contract P 37 [.own 3 v 0 a.length, .int .i64 k] [(3, .arr 90 v 4 (a.map Rw.row))] (.int .i64 (k + 4 * a.length)) [(3, .gone)] :=
  (QmC v k a ha hk).gone rfl
end
end Go.Ve

namespace Go.Ve
noncomputable section
open Go.Proofs
set_option linter.unusedSimpArgs false
set_option linter.unusedVariables false
set_option maxRecDepth 100000
theorem WF {M : List (Nat × AObj)} : keepB M M = true := by
  unfold keepB
  rw [List.all_eq_true]
  intro o ho
  simp only [Bool.or_eq_true]
  right; simpa using ho
theorem Qf1 {k : Nat} {l : List NRow} {o : Nat} {x : AObj} (hf : Qas k l) (ho : o < 1000) : wkM ((o, x) :: KD l) (KD l) := by
  refine Qat hf fun j hj => ?_
  simp only [getM, YI ho, if_false]
  exact Wa hf hj
theorem QmE {k o e sz : Nat} {y : AObj} {x : List (ByteArray × List (List AV))} (hk : k < 100) (ho : o < 100) : (dom ((o, y) :: KD (G5 k e sz x))).all (decide <| · % 1000 < 100) = true := by
  rw [List.all_eq_true]
  intro q hq
  simp only [dom, List.map_cons, List.mem_cons] at hq
  rcases hq with rfl | hq
  · simp; omega
  · obtain ⟨p, hp, rfl⟩ := List.mem_map.1 hq
    obtain ⟨i, _, rfl⟩ := XO hp
    simp only [decide_eq_true_eq, QbF (show k < 1000 by omega)]; exact hk
def Qdr (l : List NRow) : Prop := ∀ i, i < l.length → (l.getD i default).ob = .gone ∨ ∃ e v sz xs, e < 1000000 ∧ (l.getD i default).ob = .arr e v sz xs
theorem Qjh {l : List NRow} {d : List Nat} (h : Qdr l) : ((KD l).all fun p => Qb d p.2) = true := by
  rw [List.all_eq_true]
  intro p hp
  obtain ⟨r, hr, rfl⟩ := List.mem_map.1 hp
  obtain ⟨i, hi, rfl⟩ := List.mem_iff_getElem.1 hr
  have := h i hi
  simp only [List.getD_eq_getElem?_getD, List.getElem?_eq_getElem hi, Option.getD_some] at this
  rcases this with h | ⟨e, v, sz, xs, he, h⟩
  · show Qb d l[i].ob = true; rw [h]; rfl
  · show Qb d l[i].ob = true; rw [h]; simp only [Qb, he, if_true]
theorem Qn6 {l : List NRow} {o : Nat} {x : AObj} : ∀ r ∈ l, (dom ((o, x) :: KD l)).contains r.o = true := fun r hr => by
  simp only [dom, List.map_cons, List.contains_cons, Bool.or_eq_true]
  right
  simp only [List.contains_iff_mem, KD, List.map_map, List.mem_map]
  exact ⟨r, hr, rfl⟩
theorem Qc4 {l : List NRow} {o T : Nat} {y : AObj} (h : Qdr l) : (((o, AObj.arr (1000000 + T) 0 2 (l.map NRow.row)) :: KD l).all fun p => Qb (dom ((o, y) :: KD l)) p.2) = true := by
  simp only [List.all_cons, Bool.and_eq_true]
  refine ⟨?_, Qjh h⟩
  simp only [Qb]
  rw [if_neg (by omega)]
  exact X7 Qn6
theorem Ug {l : List NRow} {i : Nat} {v : ByteArray} : (l.map NRow.row).set i (YB ((l.map NRow.row).getD i []) 0 [.str v]) = (l.set i { l.getD i default with nm := v }).map NRow.row :=
  G8 (α := NRow) (f := NRow.row) (fun s => { s with nm := v }) fun x => by simp [NRow.row, YB]
theorem Qj9 {k : Nat} {l m : List NRow} (hl : Qas k l) (hm : Qas k m) (h : l.length = m.length) : (KD l).map (fun p => (p.1, AObj.gone)) = (KD m).map (fun p => (p.1, AObj.gone)) := by
  refine List.ext_getElem (by simp [KD, h]) fun i h1 h2 => ?_
  have h1' : i < l.length := by simpa [KD] using h1
  have h2' : i < m.length := by omega
  have := hl i h1'
  have h3 := hm i h2'
  simp only [List.getD_eq_getElem?_getD, List.getElem?_eq_getElem h1', List.getElem?_eq_getElem h2', Option.getD_some] at this h3
  simp [KD, this, h3]
def Un (a : List Aw) (i : Nat) : Nat := ((a.take i).map fun x => 1 + x.pts.length).sum
theorem Qf2 {a : List Aw} {i : Nat} (h : i < a.length) : Un a (i + 1) = Un a i + (1 + (a.getD i default).pts.length) := by
  unfold Un
  rw [List.take_succ_eq_append_getElem h, List.map_append, List.sum_append]; simp [h]
theorem Qel {a : List Aw} (hs : ∀ x ∈ a, x.small) {i : Nat} (h : i ≤ a.length) : Un a i ≤ i * 6291457 := by
  induction i with
  | zero => simp [Un]
  | succ i ih =>
    have h' := ih (by omega)
    have := hs _ (Gi (show i < a.length from h))
    unfold Aw.small at this
    rw [Qf2 h]; omega
set_option maxHeartbeats 2000000 in
theorem QmF (k : Int) (a : List Aw) (ha : a.length ≤ 1048577) (hs : ∀ x ∈ a, x.small) (hk : 0 ≤ k ∧ k ≤ 35184372088832) : Contract P 35 [.own 3 0 0 a.length, .int .i64 k] ((3, .arr (1000000 + 84) 0 2 ((G5 7 9 1 (a.map awP)).map NRow.row)) :: KD (G5 7 9 1 (a.map awP)))
    (.int .i64 (k + Un a a.length)) (((3, .arr (1000000 + 84) 0 2 ((G5 7 9 1 (a.map awP)).map NRow.row)) :: KD (G5 7 9 1 (a.map awP))).map fun p => (p.1, .gone)) := by
  have hz : ((0 : Nat) : Int) = 0 := rfl
  have gs : True := trivial
  have hli : True := trivial
  have hgm : True := trivial
  have hrw : True := trivial
  have hs1 : True := trivial
  suffices hC : ∃ l : List NRow, (Qas 7 l ∧ l.length = a.length) ∧ Contract P 35 [.own 3 0 0 a.length, .int .i64 k] ((3, .arr (1000000 + 84) 0 2 ((G5 7 9 1 (a.map awP)).map NRow.row)) :: KD (G5 7 9 1 (a.map awP)))
      (.int .i64 (k + Un a a.length)) ((3, .arr (1000000 + 84) 0 2 (l.map NRow.row)) :: KD l) by
    obtain ⟨l, ⟨h1, h2⟩, h3⟩ := hC
    have h4 := h3.gone rfl
    simp only [List.map_cons] at h4 ⊢
    rw [Qj9 h1 (Xp (k := 7) (e := 9) (sz := 1) (l := a.map awP)) (by rw [XH, List.length_map]; exact h2)] at h4
    exact h4
  refine Qcg ((Env.nil P).add 38 YH ZT) hm QaA (Nat.le_of_ble_eq_true rfl) ?_ (fun l : List NRow => Qas 7 l ∧ l.length = a.length) (fun _ => .int .i64 (k + Un a a.length)) (fun l => (3, .arr (1000000 + 84) 0 2 (l.map NRow.row)) :: KD l) ?_
  · exact QmE (by omega) (by omega)
  unfold Z9
  simp (config := { maxSteps := 2000000 }) only [bitvec_to_nat, reduceIte, Nat.reduceEqDiff, Nat.reduceAdd, Nat.reduceLeDiff, reduceCtorEq, Nat.reduceBEq, Nat.reduceLT, Nat.reduceMod, List.forall_mem_cons, JA, Ky, Jz, YS, keepB, Kz, YY, YH, NRow.row, Ug, gs, hli, hgm, hrw, Int.toNat_natCast, List.length_map, List.length_set, Nat.sub_zero, Nat.zero_add, hz, YI, Y5, hs1, List.set_set]
  refine Qa0 (fun b : Nat × List NRow => ⟨[(0, .own 3 0 0 a.length), (1, .int .i64 (k + Un a b.1)), (5, .int .i64 b.1)], (3, .arr (1000000 + 84) 0 2 (b.2.map NRow.row)) :: KD b.2⟩)
    (fun b => b.1 ≤ a.length ∧ b.2.length = a.length ∧ Qas 7 b.2 ∧ Qdr b.2 ∧ ∀ j, b.1 ≤ j → j < a.length → b.2.getD j default = ⟨(a.getD j default).nm, (a.getD j default).pts.length, fam 7 j, .arr 9 0 1 ((a.getD j default).pts.map Ko)⟩)
    (fun b => a.length - b.1) (0, G5 7 9 1 (a.map awP)) ?_ ⟨Nat.zero_le _, by rw [XH, List.length_map], Xp, fun i hi => ?_, fun j _ hj => ?_⟩ ?_
  · have e0 : k + ((Un a 0 : Nat) : Int) = k := by simp [Un]
    simp only [e0]
    refine ⟨by repeat' (first | exact trivial | refine ⟨.inr rfl, ?_⟩), ⟨rfl, Qf1 Xp (by omega)⟩, ?_, WF⟩
    simp only [closedB, List.all_cons, Bool.and_eq_true]
    exact ⟨⟨by simp [Qx, dom], rfl, rfl, rfl⟩, by simpa only [List.all_cons, Bool.and_eq_true] using Qa8 (k := 7) (o := 3) (e := 9) (sz := 1) (x := a.map awP) (T := 84) (y := .arr (1000000 + 84) 0 2 ((G5 7 9 1 (a.map awP)).map NRow.row)) (by omega)⟩
  · have hi' : i < a.length := by simpa [XH] using hi
    rw [Vo (by simpa using hi')]
    exact .inr ⟨_, _, _, _, by omega, rfl⟩
  · rw [Vo (by simpa using hj)]
    simp [awP, hj]
  rintro ⟨i, l⟩ ⟨h1, h2, h3, h4, h5⟩ NX hN
  simp only at h1 h2 h3 h4 h5
  have hct := Qel hs h1
  by_cases hi : i < a.length
  · have hli := h5 i (Nat.le_refl _) hi
    have hil : i < l.length := by omega
    have hx := hs _ (Gi hi)
    unfold Aw.small at hx
    have hgm : getM (KD l) (fam 7 i) = some (.arr 9 0 1 ((a.getD i default).pts.map Ko)) := by rw [Wa h3 hil, hli]
    have gs : ∀ x : NRow, (l.set i x).getD i default = x := fun x => XA hil
    have e5 : k + ((Un a (i + 1) : Nat) : Int) = k + (Un a i : Int) + 1 + ((a.getD i default).pts.length : Int) := by rw [Qf2 hi]; omega
    unfold Xt; simp (config := { maxSteps := 2000000 }) only [bitvec_to_nat, reduceIte, Nat.reduceEqDiff, Nat.reduceAdd, Nat.reduceLeDiff, reduceCtorEq, Nat.reduceBEq, Nat.reduceLT, Nat.reduceMod, List.forall_mem_cons, JA, Ky, Jz, YS, keepB, Kz, YY, YH, NRow.row, Ug, gs, hli, hgm, hrw, Int.toNat_natCast, List.length_map, List.length_set, Nat.sub_zero, Nat.zero_add, hz, YI, Y5, hs1, List.set_set]
    have hM := (QdX 0 (k + Un a i + 1) (a.getD i default).pts (by omega) (by omega)).ren (swp 3 (fam 7 i)) (GV _ _)
    simp only [Ui, ren, ZB, renO, swp, reduceIte, Nat.reduceLT] at hM
    refine ⟨fun _ => ⟨by omega, by omega, by omega, by omega, hil, _, _, .inl ⟨_, hM, by simp [getM, YI, hgm], by simp [dom], by simp [dom], by simp [Qo, Qx, dom], by simp [Qb], rfl, by simp [Qb]⟩, ?_⟩, fun h => absurd (by omega) h⟩
    have hs1 : Xx (KD l) (fam 7 i) .gone = KD (l.set i ⟨mtx (k + Un a i), (a.getD i default).pts.length, fam 7 i, .gone⟩) := by
      rw [QjH h3 hil, hli]; simp [KD, List.map_set]
    have hrw : (l.set i ⟨mtx (k + Un a i), (a.getD i default).pts.length, fam 7 i, .arr 9 0 1 ((a.getD i default).pts.map Ko)⟩).map NRow.row = (l.set i ⟨mtx (k + Un a i), (a.getD i default).pts.length, fam 7 i, .gone⟩).map NRow.row := by
      simp [List.map_set, NRow.row]
    simp (config := { maxSteps := 2000000 }) only [bitvec_to_nat, reduceIte, Nat.reduceEqDiff, Nat.reduceAdd, Nat.reduceLeDiff, reduceCtorEq, Nat.reduceBEq, Nat.reduceLT, Nat.reduceMod, List.forall_mem_cons, JA, Ky, Jz, YS, keepB, Kz, YY, YH, NRow.row, Ug, gs, hli, hgm, hrw, Int.toNat_natCast, List.length_map, List.length_set, Nat.sub_zero, Nat.zero_add, hz, YI, Y5, hs1, List.set_set]
    rw [← e5]
    have hf' : Qas 7 (l.set i ⟨mtx (k + Un a i), (a.getD i default).pts.length, fam 7 i, .gone⟩) := fun j hj => by
      by_cases e : j = i
      · subst e; rw [gs]
      · rw [XB (Ne.symm e)]; exact h3 j (by simpa using hj)
    have ho' : Qdr (l.set i ⟨mtx (k + Un a i), (a.getD i default).pts.length, fam 7 i, .gone⟩) := fun j hj => by
      by_cases e : j = i
      · subst e; rw [gs]; exact .inl rfl
      · rw [XB (Ne.symm e)]; exact h4 j (by simpa using hj)
    refine ⟨by omega, hN (i + 1, l.set i ⟨mtx (k + Un a i), (a.getD i default).pts.length, fam 7 i, .gone⟩) _ ⟨by repeat' (first | exact trivial | refine ⟨.inr rfl, ?_⟩), ⟨rfl, Qf1 hf' (by omega)⟩, ?_, WF⟩ ⟨hi, by rw [List.length_set]; exact h2, hf', ho', fun j h6 h7 => ?_⟩ (by simp only; omega)⟩
    · simp only [closedB, List.all_cons, Bool.and_eq_true]
      exact ⟨⟨by simp [Qx, dom], rfl, rfl, rfl⟩, by simpa only [List.all_cons, Bool.and_eq_true] using Qc4 (T := 84) (o := 3) (y := .arr (1000000 + 84) 0 2 ((l.set i ⟨mtx (k + Un a i), (a.getD i default).pts.length, fam 7 i, .gone⟩).map NRow.row)) ho'⟩
    · simp only at h6 ⊢
      rw [XB (by omega)]; exact h5 j (by omega) h7
  · have hi' : ¬ (i : Int) < a.length := by omega
    have e : i = a.length := by omega
    subst e
    unfold Xt; simp (config := { maxSteps := 2000000 }) only [bitvec_to_nat, reduceIte, Nat.reduceEqDiff, Nat.reduceAdd, Nat.reduceLeDiff, reduceCtorEq, Nat.reduceBEq, Nat.reduceLT, Nat.reduceMod, List.forall_mem_cons, JA, Ky, Jz, YS, keepB, Kz, YY, YH, NRow.row, Ug, gs, hli, hgm, hrw, Int.toNat_natCast, List.length_map, List.length_set, Nat.sub_zero, Nat.zero_add, hz, YI, Y5, hs1, List.set_set, hi']
    exact ⟨l, ⟨h3, h2⟩, ⟨rfl, Qf1 h3 (by omega)⟩, Qc4 (T := 84) (o := 3) (y := .gone) h4, WF (M := (3, .gone) :: KD l)⟩
def XL (a : List Sec) (i : Nat) : Nat := ((a.take i).map fun x => 1 + 6 * x.bl.length).sum
theorem Qfl {a : List Sec} {i : Nat} (h : i < a.length) : XL a (i + 1) = XL a i + (1 + 6 * (a.getD i default).bl.length) := by
  unfold XL
  rw [List.take_succ_eq_append_getElem h, List.map_append, List.sum_append]; simp [h]
theorem Qc5 {a : List Sec} (hs : ∀ x ∈ a, x.small) {i : Nat} (h : i ≤ a.length) : XL a i ≤ i * 6291457 := by
  induction i with
  | zero => simp [XL]
  | succ i ih =>
    have h' := ih (by omega)
    have := hs _ (Gi (show i < a.length from h))
    unfold Sec.small at this
    rw [Qfl h]; omega
set_option maxHeartbeats 2000000 in
theorem QkV (k : Int) (a : List Sec) (ha : a.length ≤ 1048577) (hs : ∀ x ∈ a, x.small) (hk : 0 ≤ k ∧ k ≤ 35184372088832) : Contract P 36 [.own 3 0 0 a.length, .int .i64 k] ((3, .arr (1000000 + 88) 0 2 ((G5 7 99 6 (a.map UK)).map NRow.row)) :: KD (G5 7 99 6 (a.map UK)))
    (.int .i64 (k + XL a a.length)) (((3, .arr (1000000 + 88) 0 2 ((G5 7 99 6 (a.map UK)).map NRow.row)) :: KD (G5 7 99 6 (a.map UK))).map fun p => (p.1, .gone)) := by
  have hz : ((0 : Nat) : Int) = 0 := rfl
  have gs : True := trivial
  have hli : True := trivial
  have hgm : True := trivial
  have hrw : True := trivial
  have hs1 : True := trivial
  suffices hC : ∃ l : List NRow, (Qas 7 l ∧ l.length = a.length) ∧ Contract P 36 [.own 3 0 0 a.length, .int .i64 k] ((3, .arr (1000000 + 88) 0 2 ((G5 7 99 6 (a.map UK)).map NRow.row)) :: KD (G5 7 99 6 (a.map UK)))
      (.int .i64 (k + XL a a.length)) ((3, .arr (1000000 + 88) 0 2 (l.map NRow.row)) :: KD l) by
    obtain ⟨l, ⟨h1, h2⟩, h3⟩ := hC
    have h4 := h3.gone rfl
    simp only [List.map_cons] at h4 ⊢
    rw [Qj9 h1 (Xp (k := 7) (e := 99) (sz := 6) (l := a.map UK)) (by rw [XH, List.length_map]; exact h2)] at h4
    exact h4
  refine Qcg ((Env.nil P).add 38 YH ZT) hm QaB (Nat.le_of_ble_eq_true rfl) ?_ (fun l : List NRow => Qas 7 l ∧ l.length = a.length) (fun _ => .int .i64 (k + XL a a.length)) (fun l => (3, .arr (1000000 + 88) 0 2 (l.map NRow.row)) :: KD l) ?_
  · exact QmE (by omega) (by omega)
  unfold Ua
  simp (config := { maxSteps := 2000000 }) only [bitvec_to_nat, reduceIte, Nat.reduceEqDiff, Nat.reduceAdd, Nat.reduceLeDiff, reduceCtorEq, Nat.reduceBEq, Nat.reduceLT, Nat.reduceMod, List.forall_mem_cons, JA, Ky, Jz, YS, keepB, Kz, YY, YH, NRow.row, Ug, gs, hli, hgm, hrw, Int.toNat_natCast, List.length_map, List.length_set, Nat.sub_zero, Nat.zero_add, hz, YI, Y5, hs1, List.set_set]
  refine Qa0 (fun b : Nat × List NRow => ⟨[(0, .own 3 0 0 a.length), (1, .int .i64 (k + XL a b.1)), (5, .int .i64 b.1)], (3, .arr (1000000 + 88) 0 2 (b.2.map NRow.row)) :: KD b.2⟩)
    (fun b => b.1 ≤ a.length ∧ b.2.length = a.length ∧ Qas 7 b.2 ∧ Qdr b.2 ∧ ∀ j, b.1 ≤ j → j < a.length → b.2.getD j default = ⟨(a.getD j default).nm, (a.getD j default).bl.length, fam 7 j, .arr 99 0 6 ((a.getD j default).bl.map Blk.row)⟩)
    (fun b => a.length - b.1) (0, G5 7 99 6 (a.map UK)) ?_ ⟨Nat.zero_le _, by rw [XH, List.length_map], Xp, fun i hi => ?_, fun j _ hj => ?_⟩ ?_
  · have e0 : k + ((XL a 0 : Nat) : Int) = k := by simp [XL]
    simp only [e0]
    refine ⟨by repeat' (first | exact trivial | refine ⟨.inr rfl, ?_⟩), ⟨rfl, Qf1 Xp (by omega)⟩, ?_, WF⟩
    simp only [closedB, List.all_cons, Bool.and_eq_true]
    exact ⟨⟨by simp [Qx, dom], rfl, rfl, rfl⟩, by simpa only [List.all_cons, Bool.and_eq_true] using Qa8 (k := 7) (o := 3) (e := 99) (sz := 6) (x := a.map UK) (T := 88) (y := .arr (1000000 + 88) 0 2 ((G5 7 99 6 (a.map UK)).map NRow.row)) (by omega)⟩
  · have hi' : i < a.length := by simpa [XH] using hi
    rw [Vo (by simpa using hi')]
    exact .inr ⟨_, _, _, _, by omega, rfl⟩
  · rw [Vo (by simpa using hj)]
    simp [UK, hj]
  rintro ⟨i, l⟩ ⟨h1, h2, h3, h4, h5⟩ NX hN
  simp only at h1 h2 h3 h4 h5
  have hct := Qc5 hs h1
  by_cases hi : i < a.length
  · have hli := h5 i (Nat.le_refl _) hi
    have hil : i < l.length := by omega
    have hx := hs _ (Gi hi)
    unfold Sec.small at hx
    have hgm : getM (KD l) (fam 7 i) = some (.arr 99 0 6 ((a.getD i default).bl.map Blk.row)) := by rw [Wa h3 hil, hli]
    have gs : ∀ x : NRow, (l.set i x).getD i default = x := fun x => XA hil
    have e5 : k + ((XL a (i + 1) : Nat) : Int) = k + (XL a i : Int) + 1 + 6 * ((a.getD i default).bl.length : Int) := by rw [Qfl hi]; omega
    unfold Xu; simp (config := { maxSteps := 2000000 }) only [bitvec_to_nat, reduceIte, Nat.reduceEqDiff, Nat.reduceAdd, Nat.reduceLeDiff, reduceCtorEq, Nat.reduceBEq, Nat.reduceLT, Nat.reduceMod, List.forall_mem_cons, JA, Ky, Jz, YS, keepB, Kz, YY, YH, NRow.row, Ug, gs, hli, hgm, hrw, Int.toNat_natCast, List.length_map, List.length_set, Nat.sub_zero, Nat.zero_add, hz, YI, Y5, hs1, List.set_set]
    have hM := (QkT 0 (k + XL a i + 1) (a.getD i default).bl (by omega) (by omega)).ren (swp 3 (fam 7 i)) (GV _ _)
    simp only [Ui, ren, ZB, renO, swp, reduceIte, Nat.reduceLT] at hM
    refine ⟨fun _ => ⟨by omega, by omega, by omega, by omega, hil, _, _, .inl ⟨_, hM, by simp [getM, YI, hgm], by simp [dom], by simp [dom], by simp [Qo, Qx, dom], by simp [Qb], rfl, by simp [Qb]⟩, ?_⟩, fun h => absurd (by omega) h⟩
    have hs1 : Xx (KD l) (fam 7 i) .gone = KD (l.set i ⟨mtx (k + XL a i), (a.getD i default).bl.length, fam 7 i, .gone⟩) := by
      rw [QjH h3 hil, hli]; simp [KD, List.map_set]
    have hrw : (l.set i ⟨mtx (k + XL a i), (a.getD i default).bl.length, fam 7 i, .arr 99 0 6 ((a.getD i default).bl.map Blk.row)⟩).map NRow.row = (l.set i ⟨mtx (k + XL a i), (a.getD i default).bl.length, fam 7 i, .gone⟩).map NRow.row := by
      simp [List.map_set, NRow.row]
    simp (config := { maxSteps := 2000000 }) only [bitvec_to_nat, reduceIte, Nat.reduceEqDiff, Nat.reduceAdd, Nat.reduceLeDiff, reduceCtorEq, Nat.reduceBEq, Nat.reduceLT, Nat.reduceMod, List.forall_mem_cons, JA, Ky, Jz, YS, keepB, Kz, YY, YH, NRow.row, Ug, gs, hli, hgm, hrw, Int.toNat_natCast, List.length_map, List.length_set, Nat.sub_zero, Nat.zero_add, hz, YI, Y5, hs1, List.set_set]
    rw [← e5]
    have hf' : Qas 7 (l.set i ⟨mtx (k + XL a i), (a.getD i default).bl.length, fam 7 i, .gone⟩) := fun j hj => by
      by_cases e : j = i
      · subst e; rw [gs]
      · rw [XB (Ne.symm e)]; exact h3 j (by simpa using hj)
    have ho' : Qdr (l.set i ⟨mtx (k + XL a i), (a.getD i default).bl.length, fam 7 i, .gone⟩) := fun j hj => by
      by_cases e : j = i
      · subst e; rw [gs]; exact .inl rfl
      · rw [XB (Ne.symm e)]; exact h4 j (by simpa using hj)
    refine ⟨by omega, hN (i + 1, l.set i ⟨mtx (k + XL a i), (a.getD i default).bl.length, fam 7 i, .gone⟩) _ ⟨by repeat' (first | exact trivial | refine ⟨.inr rfl, ?_⟩), ⟨rfl, Qf1 hf' (by omega)⟩, ?_, WF⟩ ⟨hi, by rw [List.length_set]; exact h2, hf', ho', fun j h6 h7 => ?_⟩ (by simp only; omega)⟩
    · simp only [closedB, List.all_cons, Bool.and_eq_true]
      exact ⟨⟨by simp [Qx, dom], rfl, rfl, rfl⟩, by simpa only [List.all_cons, Bool.and_eq_true] using Qc4 (T := 88) (o := 3) (y := .arr (1000000 + 88) 0 2 ((l.set i ⟨mtx (k + XL a i), (a.getD i default).bl.length, fam 7 i, .gone⟩).map NRow.row)) ho'⟩
    · simp only at h6 ⊢
      rw [XB (by omega)]; exact h5 j (by omega) h7
  · have hi' : ¬ (i : Int) < a.length := by omega
    have e : i = a.length := by omega
    subst e
    unfold Xu; simp (config := { maxSteps := 2000000 }) only [bitvec_to_nat, reduceIte, Nat.reduceEqDiff, Nat.reduceAdd, Nat.reduceLeDiff, reduceCtorEq, Nat.reduceBEq, Nat.reduceLT, Nat.reduceMod, List.forall_mem_cons, JA, Ky, Jz, YS, keepB, Kz, YY, YH, NRow.row, Ug, gs, hli, hgm, hrw, Int.toNat_natCast, List.length_map, List.length_set, Nat.sub_zero, Nat.zero_add, hz, YI, Y5, hs1, List.set_set, hi']
    exact ⟨l, ⟨h3, h2⟩, ⟨rfl, Qf1 h3 (by omega)⟩, Qc4 (T := 88) (o := 3) (y := .gone) h4, WF (M := (3, .gone) :: KD l)⟩
end
end Go.Ve

namespace Go.Ve
noncomputable section
open Go.Proofs
set_option linter.unusedSimpArgs false
set_option linter.unusedVariables false
set_option maxRecDepth 100000
theorem Qfm {l : List (Nat × AObj)} (h : Qhd l) : Qhd (gone l) := fun p hp => by
  obtain ⟨q, hq, rfl⟩ := List.mem_map.1 hp
  exact h q hq
theorem QfF {U M : List (Nat × AObj)} {o : Nat} {x : AObj} (h : ∀ p ∈ U, p.1 ≠ o) : YU ((o, x) :: M) U = (o, x) :: YU M U := by
  induction U with
  | nil => rfl
  | cons p U ih =>
    show Xx (YU ((o, x) :: M) U) p.1 p.2 = _
    rw [ih fun q hq => h q (by simp [hq])]
    show Xx ((o, x) :: YU M U) p.1 p.2 = (o, x) :: Xx (YU M U) p.1 p.2
    simp only [Xx]
    rw [if_neg (h p (by simp))]
theorem Qqc {U B : List (Nat × AObj)} (h : U.Pairwise fun a b => a.1 ≠ b.1) : YU (U ++ B) (gone U) = gone U ++ B := by
  induction U with
  | nil => rfl
  | cons p U ih =>
    rw [List.pairwise_cons] at h
    obtain ⟨k, x⟩ := p
    show Xx (YU ((k, x) :: (U ++ B)) (gone U)) k .gone = (k, .gone) :: (gone U ++ B)
    rw [QfF, ih h.2]
    · simp [Xx]
    · intro q hq e
      obtain ⟨y, hy, rfl⟩ := List.mem_map.1 hq
      exact h.1 y hy e.symm
theorem Qre {A U B : List (Nat × AObj)} (h : ∀ p ∈ U, getM A p.1 = none) : YU (A ++ B) U = A ++ YU B U := by
  induction A with
  | nil => rfl
  | cons p A ih =>
    obtain ⟨k, x⟩ := p
    rw [List.cons_append, QfF, ih]
    · rfl
    · intro p hp
      have := h p hp
      simp only [getM] at this
      split at this
      · cases this
      · exact this
    · intro p hp e
      have := h p hp
      simp [getM, e] at this
theorem Qqd (k : Int) (s : Sky) (hs : s.small) (hk : 0 ≤ k ∧ k ≤ 1125899906842624) : Contract P 34 [.own 3 0 0 s.pts.length, .int .i64 k] [(3, .arr 82 0 3 (s.pts.map Pt.row))] (.int .i64 (k + 3 * s.pts.length)) [(3, .gone)] :=
  Qmz 0 k s.pts (by unfold Sky.small at hs; omega) hk
theorem Qqe (k : Int) (s : Sky) (hs : s.small) (hk : 0 ≤ k ∧ k ≤ 1125899906842624) : Contract P 37 [.own 6 0 0 s.rws.length, .int .i64 k] [(6, .arr 90 0 4 (s.rws.map Rw.row))] (.int .i64 (k + 4 * s.rws.length)) [(6, .gone)] := by
  have h := (QmD 0 k s.rws (by unfold Sky.small at hs; omega) hk).ren (swp 3 6) (GV _ _)
  simp only [Ui, ren, ZB, renO, swp, reduceIte, Nat.reduceLT] at h
  exact h
def Qqn (s : Sky) : List (Nat × AObj) := (4, .arr (1000000 + 84) 0 2 ((fA 7 s).map NRow.row)) :: KD (fA 7 s)
def Qqo (s : Sky) : List (Nat × AObj) := (5, .arr (1000000 + 88) 0 2 ((fS 8 s).map NRow.row)) :: KD (fS 8 s)
theorem Qqf (k : Int) (s : Sky) (hs : s.small) (hk : 0 ≤ k ∧ k ≤ 35184372088832) : Contract P 35 [.own 4 0 0 s.aws.length, .int .i64 k] (Qqn s) (.int .i64 (k + Un s.aws s.aws.length)) (gone (Qqn s)) := by
  unfold Sky.small at hs
  have h := (QmF k s.aws (by omega) hs.2.1.2 hk).ren (swp 3 4) (GV _ _)
  have e : ZB (swp 3 4) ((3, .arr (1000000 + 84) 0 2 ((G5 7 9 1 (s.aws.map awP)).map NRow.row)) :: KD (G5 7 9 1 (s.aws.map awP))) = Qqn s := by
    simp only [ZB, renO, swp, reduceIte, Nat.reduceLT, Nat.reduceAdd]
    rw [ZI, QbG, Qd7 (by omega) (by omega) (by omega)]; rfl
  rw [show (((3, AObj.arr (1000000 + 84) 0 2 ((G5 7 9 1 (s.aws.map awP)).map NRow.row)) :: KD (G5 7 9 1 (s.aws.map awP))).map fun p => (p.1, AObj.gone)) = gone ((3, AObj.arr (1000000 + 84) 0 2 ((G5 7 9 1 (s.aws.map awP)).map NRow.row)) :: KD (G5 7 9 1 (s.aws.map awP))) from rfl, Qcn, e] at h
  simpa only [Ui, ren, swp, reduceIte] using h
theorem Qn7 (k : Int) (s : Sky) (hs : s.small) (hk : 0 ≤ k ∧ k ≤ 35184372088832) : Contract P 36 [.own 5 0 0 s.secs.length, .int .i64 k] (Qqo s) (.int .i64 (k + XL s.secs s.secs.length)) (gone (Qqo s)) := by
  unfold Sky.small at hs
  have h := ((QkV k s.secs (by omega) hs.2.2.1.2 hk).ren (swp 3 5) (GV _ _)).ren (QiX 7 8) (Qcj (by omega) (by omega))
  have e5 : QiX 7 8 (swp 3 5 3) = 5 := rfl
  have e : ZB (QiX 7 8) (ZB (swp 3 5) ((3, .arr (1000000 + 88) 0 2 ((G5 7 99 6 (s.secs.map UK)).map NRow.row)) :: KD (G5 7 99 6 (s.secs.map UK)))) = Qqo s := by
    simp only [ZB, renO, e5, reduceIte, Nat.reduceLT, Nat.reduceAdd]
    rw [ZI, ZI, QbG, QbG, Qd7 (by omega) (by omega) (by omega), QhW (by omega) (by omega)]; rfl
  rw [show (((3, AObj.arr (1000000 + 88) 0 2 ((G5 7 99 6 (s.secs.map UK)).map NRow.row)) :: KD (G5 7 99 6 (s.secs.map UK))).map fun p => (p.1, AObj.gone)) = gone ((3, AObj.arr (1000000 + 88) 0 2 ((G5 7 99 6 (s.secs.map UK)).map NRow.row)) :: KD (G5 7 99 6 (s.secs.map UK))) from rfl, Qcn, Qcn, e] at h
  simpa only [Ui, ren, e5] using h
theorem gpA {s : Sky} : gone (Qqn s) = (4, .gone) :: gone (KD (fA 7 s)) := rfl
theorem gpS {s : Sky} : gone (Qqo s) = (5, .gone) :: gone (KD (fS 8 s)) := rfl
theorem XQ {k e sz o : Nat} {x : List (ByteArray × List (List AV))} (ho : o < 1000) : ∀ p ∈ gone (KD (G5 k e sz x)), p.1 ≠ o := fun p hp e9 => by
  have := Qfm (Zl (k := k) (e := e) (sz := sz) (x := x)) p hp
  omega
theorem apA {s : Sky} {x3 x4 x5 x6 : AObj} {B : List (Nat × AObj)} : YU ((3, x3) :: (4, x4) :: (5, x5) :: (6, x6) :: (KD (fA 7 s) ++ B)) (gone (KD (fA 7 s))) = (3, x3) :: (4, x4) :: (5, x5) :: (6, x6) :: (gone (KD (fA 7 s)) ++ B) := by
  simp only [fA, fS]
  rw [QfF (XQ (by omega)), QfF (XQ (by omega)), QfF (XQ (by omega)), QfF (XQ (by omega)), Qqc QbH]
theorem apS {s : Sky} {x3 x4 x5 x6 : AObj} {B : List (Nat × AObj)} : YU ((3, x3) :: (4, x4) :: (5, x5) :: (6, x6) :: (gone (KD (fA 7 s)) ++ (KD (fS 8 s) ++ B))) (gone (KD (fS 8 s))) = (3, x3) :: (4, x4) :: (5, x5) :: (6, x6) :: (gone (KD (fA 7 s)) ++ (gone (KD (fS 8 s)) ++ B)) := by
  simp only [fA, fS]
  rw [QfF (XQ (by omega)), QfF (XQ (by omega)), QfF (XQ (by omega)), QfF (XQ (by omega)), Qre, Qqc QbH]
  intro p hp
  obtain ⟨q, hq, rfl⟩ := List.mem_map.1 hp
  obtain ⟨i, _, rfl⟩ := XO hq
  rw [Qau, U0 (by omega) (by omega) (by omega)]; rfl
theorem QmG {M M' : List (Nat × AObj)} (h : ∀ p ∈ M, 100 ≤ p.1 % 1000 ∨ p.1 ∈ dom M') : keepB M M' = true := by
  unfold keepB
  rw [List.all_eq_true]
  intro o ho
  obtain ⟨p, hp, rfl⟩ := List.mem_map.1 ho
  rcases h p hp with h | h
  · simp [h]
  · simp [h]
def Qfn (s : Sky) : Nat := 3 * s.pts.length + Un s.aws s.aws.length + XL s.secs s.secs.length + 4 * s.rws.length
theorem Qqg {s : Sky} : (dom (ZS s 3 4 5 6 7 8)).all (decide <| · % 1000 < 100) = true := by
  rw [Qdq, List.all_eq_true]
  intro o ho
  simp only [List.mem_cons, List.mem_append, List.mem_map] at ho
  rcases ho with rfl | rfl | rfl | rfl | ⟨r, hr, rfl⟩ | ⟨r, hr, rfl⟩
  · rfl
  · rfl
  · rfl
  · rfl
  · rw [Qgi (k := 7) (by omega) hr]; rfl
  · rw [Qgi (k := 8) (by omega) hr]; rfl
set_option maxHeartbeats 2000000 in
theorem QmH (k : Int) (s : Sky) (hs : s.small) (hk : 0 ≤ k ∧ k ≤ 1000000) : Contract P 13 [V0 s 3 4 5 6, .int .i64 k] (ZS s 3 4 5 6 7 8) (.int .i64 (k + Qfn s)) (gone (ZS s 3 4 5 6 7 8)) := by
  have hct := Qel hs.2.1.2 (Nat.le_refl _)
  have hct2 := Qc5 hs.2.2.1.2 (Nat.le_refl _)
  have bA : Qhd (KD (fA 7 s)) := Zl
  have bS : Qhd (KD (fS 8 s)) := Zl
  have bGA := Qfm bA
  have bGS := Qfm bS
  have hm := hs
  unfold Sky.small at hm
  refine QP (Env.nil P) Go.Ve.hm Qfw (Nat.le_of_ble_eq_true rfl) Qqg ?_; unfold Qbp
  simp (config := { maxSteps := 2000000 }) only [bitvec_to_nat, reduceIte, Nat.reduceEqDiff, Nat.reduceAdd, Nat.reduceLeDiff, reduceCtorEq, Nat.reduceBEq, Nat.reduceLT, Nat.reduceMod, List.forall_mem_cons, JA, Ky, Jz, YS, keepB, Kz, YY, V0, YI, Y5, Nat.sub_zero, Nat.zero_add, gB, gB0, sB, sB0, bA, bS, List.append_assoc, List.cons_append, List.nil_append, List.append_nil, ZS, bGA, bGS, gpA, gpS, apA, apS]
  refine ⟨_, _, UT (pre := [(3, .arr 82 0 3 (s.pts.map Pt.row))]) (Qqd k s hs (by omega)) (by simp [getM]) (by simp [Qo, Qx, dom]) (by simp [Qb]) rfl, ?_⟩
  simp only [gone, List.map_cons, List.map_nil]
  simp (config := { maxSteps := 2000000 }) only [bitvec_to_nat, reduceIte, Nat.reduceEqDiff, Nat.reduceAdd, Nat.reduceLeDiff, reduceCtorEq, Nat.reduceBEq, Nat.reduceLT, Nat.reduceMod, List.forall_mem_cons, JA, Ky, Jz, YS, keepB, Kz, YY, V0, YI, Y5, Nat.sub_zero, Nat.zero_add, gB, gB0, sB, sB0, bA, bS, List.append_assoc, List.cons_append, List.nil_append, List.append_nil, ZS, bGA, bGS, gpA, gpS, apA, apS]
  refine ⟨_, _, UT (pre := Qqn s) (Qqf (k + 3 * s.pts.length) s hs (by omega)) (fun p hp => ?_) (by simp [Qo, Qx, dom, Qqn]) (Qa8 (by omega)) rfl, ?_⟩
  · rcases List.mem_cons.1 hp with rfl | hp
    · simp only [getM, Nat.reduceEqDiff, reduceIte]
    · obtain ⟨i, hi, rfl⟩ := XO hp
      simp only [getM, YI, Nat.reduceLT, if_false, Ga, fA, Vp hi, Option.some_or]
  simp (config := { maxSteps := 2000000 }) only [bitvec_to_nat, reduceIte, Nat.reduceEqDiff, Nat.reduceAdd, Nat.reduceLeDiff, reduceCtorEq, Nat.reduceBEq, Nat.reduceLT, Nat.reduceMod, List.forall_mem_cons, JA, Ky, Jz, YS, keepB, Kz, YY, V0, YI, Y5, Nat.sub_zero, Nat.zero_add, gB, gB0, sB, sB0, bA, bS, List.append_assoc, List.cons_append, List.nil_append, List.append_nil, ZS, bGA, bGS, gpA, gpS, apA, apS]
  refine ⟨_, _, UT (pre := Qqo s) (Qn7 (k + 3 * s.pts.length + Un s.aws s.aws.length) s hs (by omega)) (fun p hp => ?_) (by simp [Qo, Qx, dom, Qqo]) (Qa8 (by omega)) rfl, ?_⟩
  · rcases List.mem_cons.1 hp with rfl | hp
    · simp only [getM, Nat.reduceEqDiff, reduceIte]
    · obtain ⟨i, hi, rfl⟩ := XO hp
      simp only [getM, YI, Nat.reduceLT, if_false, Ga, Qau, fA, fS, U0, ne_eq, Nat.reduceEqDiff, not_false_eq_true, Option.map_none, Option.none_or, Vp hi, Option.some_or]
  simp (config := { maxSteps := 2000000 }) only [bitvec_to_nat, reduceIte, Nat.reduceEqDiff, Nat.reduceAdd, Nat.reduceLeDiff, reduceCtorEq, Nat.reduceBEq, Nat.reduceLT, Nat.reduceMod, List.forall_mem_cons, JA, Ky, Jz, YS, keepB, Kz, YY, V0, YI, Y5, Nat.sub_zero, Nat.zero_add, gB, gB0, sB, sB0, bA, bS, List.append_assoc, List.cons_append, List.nil_append, List.append_nil, ZS, bGA, bGS, gpA, gpS, apA, apS]
  refine ⟨_, _, UT (pre := [(6, .arr 90 0 4 (s.rws.map Rw.row))]) (Qqe (k + 3 * s.pts.length + Un s.aws s.aws.length + XL s.secs s.secs.length) s hs (by omega)) (by simp [getM]) (by simp [Qo, Qx, dom]) (by simp [Qb]) rfl, ?_⟩
  simp only [gone, List.map_cons, List.map_nil]
  simp (config := { maxSteps := 2000000 }) only [bitvec_to_nat, reduceIte, Nat.reduceEqDiff, Nat.reduceAdd, Nat.reduceLeDiff, reduceCtorEq, Nat.reduceBEq, Nat.reduceLT, Nat.reduceMod, List.forall_mem_cons, JA, Ky, Jz, YS, keepB, Kz, YY, V0, YI, Y5, Nat.sub_zero, Nat.zero_add, gB, gB0, sB, sB0, bA, bS, List.append_assoc, List.cons_append, List.nil_append, List.append_nil, ZS, bGA, bGS, gpA, gpS, apA, apS]
  refine ⟨by unfold Qfn; omega, Qd6 fun p hp => ?_, QhX, ?_⟩
  · obtain ⟨q, hq, rfl⟩ := List.mem_map.1 hp
    rcases List.mem_append.1 hq with hq | hq
    · obtain ⟨i, hi, rfl⟩ := XO hq
      show getM (_ :: _ :: _ :: _ :: (gone _ ++ (gone _ ++ _))) _ = _
      simp only [getM, YI, Nat.reduceLT, if_false, Ga, Qau, fA, Vp hi, Option.map_some, Option.some_or]
    · obtain ⟨i, hi, rfl⟩ := XO hq
      show getM (_ :: _ :: _ :: _ :: (gone _ ++ (gone _ ++ _))) _ = _
      simp only [getM, YI, Nat.reduceLT, if_false, Ga, Qau, fA, fS, U0, ne_eq, Nat.reduceEqDiff, not_false_eq_true, Option.map_none, Option.none_or, Vp hi, Option.map_some, Option.some_or]
  · refine QmG (M := (3, .gone) :: (4, .gone) :: (5, .gone) :: (6, .gone) :: (gone (KD (fA 7 s)) ++ (gone (KD (fS 8 s)) ++ [(102, _)]))) (M' := (3, .gone) :: (4, .gone) :: (5, .gone) :: (6, .gone) :: gone (KD (fA 7 s) ++ KD (fS 8 s))) fun p hp => ?_
    simp only [List.mem_cons, List.mem_append, List.not_mem_nil, or_false] at hp
    simp only [dom, List.map_cons, List.mem_cons, List.mem_map, Qnb, List.mem_append]
    rcases hp with rfl | rfl | rfl | rfl | hp | hp | rfl
    · exact .inr (.inl rfl)
    · exact .inr (.inr (.inl rfl))
    · exact .inr (.inr (.inr (.inl rfl)))
    · exact .inr (.inr (.inr (.inr (.inl rfl))))
    · exact .inr (.inr (.inr (.inr (.inr ⟨p, .inl hp, rfl⟩))))
    · exact .inr (.inr (.inr (.inr (.inr ⟨p, .inr hp, rfl⟩))))
    · exact .inl (by simp)
end
end Go.Ve

namespace Go.Ve
noncomputable section
open Go.Proofs
set_option linter.unusedSimpArgs false
set_option linter.unusedVariables false
set_option maxRecDepth 100000
theorem Qn8 {M K : Nat → Option AObj} {s : Sky} {a b c d kA kS : Nat} (hM : ∀ p ∈ ZS s a b c d kA kS, M p.1 = some p.2) (hK : ∀ p ∈ ZS s a b c d kA kS, K p.1 = some p.2) : Qbm M K (V0 s a b c d) = some (.agg (s.row 99)) := by
  have h1 := hM _ (show (a, AObj.arr 82 0 3 (s.pts.map Pt.row)) ∈ ZS s a b c d kA kS from by simp [ZS])
  have h2 := hM _ (show (b, AObj.arr (1000000 + 84) 0 2 ((fA kA s).map NRow.row)) ∈ ZS s a b c d kA kS from by simp [ZS])
  have h3 := hM _ (show (c, AObj.arr (1000000 + 88) 0 2 ((fS kS s).map NRow.row)) ∈ ZS s a b c d kA kS from by simp [ZS])
  have h4 := hM _ (show (d, AObj.arr 90 0 4 (s.rws.map Rw.row)) ∈ ZS s a b c d kA kS from by simp [ZS])
  simp only at h1 h2 h3 h4
  have hA := QfW K (k := kA) (e := 9) (sz := 1) (by omega) (x := s.aws.map awP) fun p hp => hK p (by simp only [ZS, List.mem_cons, List.mem_append]; exact .inr (.inr (.inr (.inr (.inl hp)))))
  have hS := QfW K (k := kS) (e := 99) (sz := 6) (by omega) (x := s.secs.map UK) fun p hp => hK p (by simp only [ZS, List.mem_cons, List.mem_append]; exact .inr (.inr (.inr (.inr (.inr hp)))))
  have t1 : (s.pts.map Pt.row).take s.pts.length = s.pts.map Pt.row := List.take_of_length_le (by simp)
  have t2 : ((fA kA s).map NRow.row).take s.aws.length = (fA kA s).map NRow.row := List.take_of_length_le (by simp [fA, XH])
  have t3 : ((fS kS s).map NRow.row).take s.secs.length = (fS kS s).map NRow.row := List.take_of_length_le (by simp [fS, XH])
  have t4 : (s.rws.map Rw.row).take s.rws.length = s.rws.map Rw.row := List.take_of_length_le (by simp)
  have f1 : QdN K (s.pts.map Pt.row) = some (s.pts.map Pt.row) := Qdf K fun r hr => by obtain ⟨x, _, rfl⟩ := List.mem_map.1 hr; rfl
  have f4 : QdN K (s.rws.map Rw.row) = some (s.rws.map Rw.row) := Qdf K fun r hr => by obtain ⟨x, _, rfl⟩ := List.mem_map.1 hr; rfl
  simp only [fA, fS] at t2 t3 h2 h3
  simp only [List.map_map] at hA hS
  simp only [V0, Qbm, Qad, h1, h2, h3, h4, if_true, List.drop_zero, t1, t2, t3, t4, f1, f4, fA, fS, hA, hS, Option.map_some, Sky.row]
  rfl
theorem Qn9 {s : Sky} {a b c d kA kS : Nat} (ha : a < 1000) (hb : b < 1000) (hc : c < 1000) (hd : d < 1000) (hab : b ≠ a) (hac : c ≠ a) (had : d ≠ a) (hbc : c ≠ b) (hbd : d ≠ b) (hcd : d ≠ c) (hA : kA < 1000) (hS : kS < 1000) (hAS : kA ≠ kS) :
    ∀ p ∈ ZS s a b c d kA kS, getM (ZS s a b c d kA kS) p.1 = some p.2 := by
  intro p hp
  simp only [ZS, List.mem_cons, List.mem_append] at hp
  rcases hp with rfl | rfl | rfl | rfl | hp | hp
  · simp [ZS, getM]
  · simp [ZS, getM, hab]
  · simp [ZS, getM, hac, hbc]
  · simp [ZS, getM, had, hbd, hcd]
  · obtain ⟨i, hi, rfl⟩ := XO hp
    simp only [ZS, getM, YI ha, YI hb, YI hc, YI hd, if_false, Ga, fA, Vp hi, Option.some_or]
  · obtain ⟨i, hi, rfl⟩ := XO hp
    simp only [ZS, getM, YI ha, YI hb, YI hc, YI hd, if_false, Ga, fA, fS, U0 hA hS hAS, Vp hi, Option.none_or]
theorem Qrw {M K : List (Nat × AObj)} (h : ∀ p ∈ K, getM M p.1 = some p.2) : YU M K = M := by
  induction K with
  | nil => rfl
  | cons p K ih =>
    show Xx (YU M K) p.1 p.2 = M
    rw [ih fun q hq => h q (by simp [hq])]
    have := h p (by simp)
    clear ih h
    induction M with
    | nil => simp [getM] at this
    | cons q M ih =>
      obtain ⟨k, x⟩ := q
      simp only [getM] at this
      simp only [Xx]
      split at this
      · rename_i e; cases this; rw [if_pos e]
      · rename_i e; rw [if_neg e, ih this]
theorem Qji (t : Nat) (s : Sky) : tag0 (.agg (s.row t)) = .agg (s.row 0) := by
  simp only [Sky.row, tag0, ZJ]
  rw [Qd9 (f := Pt.row) (fun _ => rfl), Qd9 (f := Rw.row) (fun _ => rfl), QjJ (f := Aw.row) (fun x => by simp only [Aw.row, ZJ, tag0]; rw [Qd9 (f := Ko) fun _ => rfl]), QjJ (f := Sec.row) (fun x => by simp only [Sec.row, ZJ, tag0]; rw [Qd9 (f := Blk.row) fun _ => rfl])]
theorem Qha (t : Nat) (ht : t ≠ 98) (s : Sky) : QlF (.agg (s.row t)) = true := by
  simp only [Sky.row, QlF, Qaf]
  rw [Wc (f := Pt.row) (fun _ => rfl), Wc (f := Rw.row) (fun _ => rfl), Wc (f := Aw.row t) (fun x => by simp only [Aw.row, Qaf, QlF]; rw [Wc (f := Ko) fun _ => rfl]; simp [ht]), Wc (f := Sec.row t) (fun x => by simp only [Sec.row, Qaf, QlF]; rw [Wc (f := Blk.row) fun _ => rfl]; simp [ht])]
  simp [ht]
/-- A call that only looks at a sky of the function's own. -/
theorem Qc6 {f : FuncId} {s : Sky} {a b c d kA kS : Nat} {rest rest' : List AV} {r : AV} {news : List (Nat × AObj)} {M : Nat → Option AObj} (hC : Contract P f (.agg (s.row 0) :: ZJ rest') [] r news)
    (hM : ∀ p ∈ ZS s a b c d kA kS, M p.1 = some p.2) (hself : ∀ p ∈ ZS s a b c d kA kS, getM (ZS s a b c d kA kS) p.1 = some p.2)
    (hr : Qad M (getM (ZS s a b c d kA kS)) rest = some rest') (h98 : Qaf rest' = true) (hp : Qbo r = true) (hpo : (news.all fun p => QjI p.2) = true) (hn : ∀ p ∈ news, M p.1 = none) (hrf : Qx (dom news) r = true)
    (hro : (news.all fun p => Qb (dom news) p.2) = true) (h9 : No99 r) (h9o : ∀ p ∈ news, Qbb p.2) : Qb7 P f (V0 s a b c d :: rest) M r (news ++ ZS s a b c d kA kS) := by
  refine .inr (.inr (.inr ⟨.agg (s.row 99) :: rest', ZS s a b c d kA kS, news, rfl, hM, ?_, ?_, hn, hrf, hro, h9, h9o⟩))
  · simp only [Qad, Qn8 hM hself, hr]
  · refine Contract.tag ?_ ?_ hp hpo
    · simp only [ZJ, Qji]; exact hC
    · simp only [Qaf, Qha 99 (by omega), h98, Bool.and_self]

end
end Go.Ve

namespace Go.Ve
noncomputable section
open Go.Proofs
set_option linter.unusedSimpArgs false
set_option linter.unusedVariables false
set_option maxRecDepth 100000
theorem Qa9 {s : Sky} {a b c d kA kS kA' kS' : Nat} {σ : Nat → Nat} (hA : ∀ i, σ (fam kA i) = fam kA' i) (hS : ∀ i, σ (fam kS i) = fam kS' i) : ZB σ (ZS s a b c d kA kS) = ZS s (σ a) (σ b) (σ c) (σ d) kA' kS' := by
  have eA : (fA kA s).map (NRow.ren σ) = fA kA' s := by
    refine List.ext_getElem (by simp [fA, G5]) fun i h1 h2 => ?_
    simp [fA, G5, NRow.ren, hA, renO]
  have eS : (fS kS s).map (NRow.ren σ) = fS kS' s := by
    refine List.ext_getElem (by simp [fS, G5]) fun i h1 h2 => ?_
    simp [fS, G5, NRow.ren, hS, renO]
  simp only [ZS, ZB, renO, Qgk, ZI, eA, eS, QbG]
  rfl
theorem Qoa {s : Sky} {a b c d : Nat} {σ : Nat → Nat} : ren σ (V0 s a b c d) = V0 s (σ a) (σ b) (σ c) (σ d) := by simp only [V0, ren, Ui]
/-- The sky that the law holds. -/
abbrev K0 (s : Sky) : List (Nat × AObj) := ZS s 611 613 614 612 107 108
theorem Qfo (s : Sky) : ∀ p ∈ K0 s, getM (K0 s) p.1 = some p.2 := Qn9 (by omega) (by omega) (by omega) (by omega) (by omega) (by omega) (by omega) (by omega) (by omega) (by omega) (by omega) (by omega) (by omega)
theorem Qds (s : Sky) : ∀ p ∈ K0 s, p.1 = 611 ∨ p.1 = 613 ∨ p.1 = 614 ∨ p.1 = 612 ∨ 1000 ≤ p.1 := by
  intro p hp
  simp only [K0, ZS, List.mem_cons, List.mem_append] at hp
  rcases hp with rfl | rfl | rfl | rfl | hp | hp
  · simp
  · simp
  · simp
  · simp
  · exact .inr (.inr (.inr (.inr (Zl p hp))))
  · exact .inr (.inr (.inr (.inr (Zl p hp))))
theorem Qqh (s : Sky) : (K0 s).Pairwise fun a b => a.1 ≠ b.1 := by
  have big : ∀ p ∈ KD (fA 107 s) ++ KD (fS 108 s), 1000 ≤ p.1 := fun p hp => (List.mem_append.1 hp).elim (Zl p) (Zl p)
  simp only [K0, ZS, List.pairwise_cons, List.mem_cons]
  refine ⟨?_, ?_, ?_, ?_, ?_⟩
  · rintro p (rfl | rfl | rfl | hp)
    · simp
    · simp
    · simp
    · have := big p hp; (try simp only); omega
  · rintro p (rfl | rfl | hp)
    · simp
    · simp
    · have := big p hp; (try simp only); omega
  · rintro p (rfl | hp)
    · simp
    · have := big p hp; (try simp only); omega
  · rintro p hp
    have := big p hp; (try simp only); omega
  · rw [List.pairwise_append]
    refine ⟨QbH, QbH, fun p hp q hq e => ?_⟩
    obtain ⟨i, _, rfl⟩ := XO hp
    obtain ⟨j, _, rfl⟩ := XO hq
    simp only [fam] at e; omega
theorem QdM {s : Sky} {B : List (Nat × AObj)} {o : Nat} (h : o < 611) : getM (K0 s ++ B) o = getM B o := Gj (by
  cases hg : getM (K0 s) o with
  | none => rfl
  | some x => have := Qds s _ (Xa hg); simp only at this; omega)
theorem Uo {s : Sky} {B : List (Nat × AObj)} {o : Nat} (h : 614 < o) (h2 : o < 1000) : getM (K0 s ++ B) o = getM B o := Gj (by
  cases hg : getM (K0 s) o with
  | none => rfl
  | some x => have := Qds s _ (Xa hg); simp only at this; omega)
theorem QfG {s : Sky} {B : List (Nat × AObj)} {o : Nat} {x : AObj} (h : o < 611) : Xx (K0 s ++ B) o x = K0 s ++ Xx B o x := Qa4 (by have := QdM (s := s) (B := []) h; simpa [getM] using this)
theorem WG {s : Sky} {B : List (Nat × AObj)} {o : Nat} {x : AObj} (h : 614 < o) (h2 : o < 1000) : Xx (K0 s ++ B) o x = K0 s ++ Xx B o x := Qa4 (by have := Uo (s := s) (B := []) h h2; simpa [getM] using this)
theorem Qbw {l : List (Nat × AObj)} {o : Nat} (h : getM l o = none) : getM (gone l) o = none := by rw [Qau, h]; rfl
theorem gG {s : Sky} {B : List (Nat × AObj)} {o : Nat} (h : o < 611) : getM (gone (K0 s) ++ B) o = getM B o := Gj (Qbw (by have := QdM (s := s) (B := []) h; simpa [getM] using this))
theorem gG' {s : Sky} {B : List (Nat × AObj)} {o : Nat} (h : 614 < o) (h2 : o < 1000) : getM (gone (K0 s) ++ B) o = getM B o := Gj (Qbw (by have := Uo (s := s) (B := []) h h2; simpa [getM] using this))
theorem sG {s : Sky} {B : List (Nat × AObj)} {o : Nat} {x : AObj} (h : o < 611) : Xx (gone (K0 s) ++ B) o x = gone (K0 s) ++ Xx B o x := Qa4 (by have := gG (s := s) (B := []) h; simpa [getM] using this)
theorem sG' {s : Sky} {B : List (Nat × AObj)} {o : Nat} {x : AObj} (h : 614 < o) (h2 : o < 1000) : Xx (gone (K0 s) ++ B) o x = gone (K0 s) ++ Xx B o x := Qa4 (by have := gG' (s := s) (B := []) h h2; simpa [getM] using this)
theorem WH {s : Sky} {o : Nat} {x : AObj} (h : o < 611) : Xx (K0 s) o x = K0 s ++ [(o, x)] := by
  have := QfG (s := s) (B := []) (x := x) h
  simpa [Xx] using this
theorem WJ {s : Sky} {o : Nat} (h : o < 611) : getM (K0 s) o = none := by
  have := QdM (s := s) (B := []) h
  simpa [getM] using this
theorem gs1 {s : Sky} {B : List (Nat × AObj)} : getM (K0 s ++ B) 611 = some (.arr 82 0 3 (s.pts.map Pt.row)) := rfl
theorem gs2 {s : Sky} {B : List (Nat × AObj)} : getM (K0 s ++ B) 613 = some (.arr (1000000 + 84) 0 2 ((fA 107 s).map NRow.row)) := rfl
theorem gs3 {s : Sky} {B : List (Nat × AObj)} : getM (K0 s ++ B) 614 = some (.arr (1000000 + 88) 0 2 ((fS 108 s).map NRow.row)) := rfl
theorem gs4 {s : Sky} {B : List (Nat × AObj)} : getM (K0 s ++ B) 612 = some (.arr 90 0 4 (s.rws.map Rw.row)) := rfl
theorem Qrx {s : Sky} {A B : List (Nat × AObj)} (hA : ∀ p ∈ A, p.1 < 611) : ∀ p ∈ K0 s, getM (A ++ (K0 s ++ B)) p.1 = some p.2 := fun p hp => by
  rw [Gj, XS (Qfo s p hp)]
  cases hg : getM A p.1 with
  | none => rfl
  | some x => have := hA _ (Xa hg); have := Qds s p hp; simp only at *; omega
theorem Qfp {s : Sky} {o : Nat} {x : AObj} {B : List (Nat × AObj)} (ho : o < 611) : ∀ p ∈ K0 s, getM ((o, x) :: (K0 s ++ B)) p.1 = some p.2 := Qrx (A := [(o, x)]) (by simpa using ho)
theorem Qry {s : Sky} {A : List (Nat × AObj)} (hA : ∀ p ∈ A, p.1 < 611) : YU A (K0 s).reverse = A ++ (K0 s ++ []) := by
  rw [aU, List.reverse_reverse, List.append_nil]
  · intro p hp
    cases hg : getM A p.1 with
    | none => rfl
    | some x => have := hA _ (Xa hg); have := Qds s p (List.mem_reverse.1 hp); simp only at *; omega
  · rw [List.pairwise_reverse]
    exact (Qqh s).imp fun h => Ne.symm h
theorem Qrf {s : Sky} {A B : List (Nat × AObj)} (hA : ∀ p ∈ A, p.1 < 611) : YU (A ++ (K0 s ++ B)) (gone (K0 s)) = A ++ (gone (K0 s) ++ B) := by
  rw [Qre, Qqc (Qqh s)]
  intro p hp
  obtain ⟨q, hq, rfl⟩ := List.mem_map.1 hp
  cases hg : getM A q.1 with
  | none => rfl
  | some x => have := hA _ (Xa hg); have := Qds s q hq; simp only at *; omega
theorem kG {s : Sky} {B : List (Nat × AObj)} : keepB (gone (K0 s) ++ B) [] = keepB B [] := by
  have h : keepB (gone (K0 s)) [] = true := QmG fun p hp => by
    obtain ⟨q, hq, rfl⟩ := List.mem_map.1 hp
    left
    simp only [K0, ZS, List.mem_cons, List.mem_append] at hq
    rcases hq with rfl | rfl | rfl | rfl | hq | hq
    · simp
    · simp
    · simp
    · simp
    · exact WQ (by omega) (by omega) q hq
    · exact WQ (by omega) (by omega) q hq
  unfold keepB at h ⊢
  rw [Qo2, List.all_append, h, Bool.true_and]
theorem Qf3 {s : Sky} {o : Nat} {x : AObj} {B : List (Nat × AObj)} (ho : o < 611) : YU ((o, x) :: (K0 s ++ B)) (K0 s) = (o, x) :: (K0 s ++ B) := Qrw (Qfp ho)
theorem Zg {s : Sky} {o : Nat} {x : AObj} (ho : o < 611) : YU [(o, x)] (K0 s).reverse = (o, x) :: (K0 s ++ []) := Qry (A := [(o, x)]) (by simpa using ho)
theorem Qf4 {s : Sky} {o : Nat} {x : AObj} {B : List (Nat × AObj)} (ho : o < 611) : YU ((o, x) :: (K0 s ++ B)) (gone (K0 s)) = (o, x) :: (gone (K0 s) ++ B) := Qrf (A := [(o, x)]) (by simpa using ho)
theorem QmI {s : Sky} {A : List (Nat × AObj)} (hA : ∀ p ∈ A, p.1 < 611) : ∀ p ∈ (K0 s).reverse, getM A p.1 = none := by
  intro p hp
  cases hg : getM A p.1 with
  | none => rfl
  | some x => have := hA _ (Xa hg); have := Qds s p (List.mem_reverse.1 hp); simp only at *; omega
theorem Qka {s : Sky} : Qx (dom (K0 s).reverse) (V0 s 611 613 614 612) = true := by
  rw [QlI, K0, Qdq]; simp [V0, Qx, Qo]
theorem Qkb {s : Sky} : ((K0 s).reverse.all fun p => Qb (dom (K0 s).reverse) p.2) = true := by
  rw [List.all_reverse, QlI, K0, Qdq]
  simp only [ZS, List.all_cons, List.all_append, Bool.and_eq_true]
  refine ⟨rfl, ?_, ?_, rfl, XU (by omega), XU (by omega)⟩
  · simp only [Qb]
    rw [if_neg (by omega)]
    refine X7 fun r hr => ?_
    simp only [List.contains_iff_mem, List.mem_reverse, List.mem_cons, List.mem_append, List.mem_map]
    exact .inr (.inr (.inr (.inr (.inl ⟨r, hr, rfl⟩))))
  · simp only [Qb]
    rw [if_neg (by omega)]
    refine X7 fun r hr => ?_
    simp only [List.contains_iff_mem, List.mem_reverse, List.mem_cons, List.mem_append, List.mem_map]
    exact .inr (.inr (.inr (.inr (.inr ⟨r, hr, rfl⟩))))
theorem Qrg {s : Sky} : ∀ p ∈ (K0 s).reverse, Qbb p.2 := by
  intro p hp
  have hp := List.mem_reverse.1 hp
  simp only [K0, ZS, List.mem_cons, List.mem_append] at hp
  rcases hp with rfl | rfl | rfl | rfl | hp | hp
  · exact X4 _
  · exact Qc3 _
  · exact Qc3 _
  · exact X5 _
  · exact QoB s p _ hp
  · exact Qmu s p _ hp
theorem QmJ {s : Sky} {k : Int} : Qo (dom (K0 s)) [V0 s 611 613 614 612, .int .i64 k] = true := by
  simp only [Qo, Qn2, Qx, Bool.and_self]
theorem QoD (s : Sky) (hs : s.small) : Contract P 7 [.agg (s.row 1)] [] (V0 s 611 613 614 612) (K0 s).reverse :=
  (Qn3 s hs).post_eq (funext fun o => Qgl (Qqh s) o)
theorem Qkc (k : Int) (s : Sky) (hs : s.small) (hk : 0 ≤ k ∧ k ≤ 1000000) : Contract P 13 [V0 s 611 613 614 612, .int .i64 k] (K0 s) (.int .i64 (k + Qfn s)) (gone (K0 s)) := by
  have h := ((((((QmH k s hs hk).ren (swp 3 611) (GV _ _)).ren (swp 4 613) (GV _ _)).ren (swp 5 614) (GV _ _)).ren (swp 6 612) (GV _ _)).ren (QiX 7 107) (Qcj (by omega) (by omega))).ren (QiX 8 108) (Qcj (by omega) (by omega))
  simp only [Qcn, Ui, Qoa, ren] at h
  rw [Qa9 (kA' := 7) (kS' := 8) (fun i => WP (by omega) (by omega)) (fun i => WP (by omega) (by omega)),
    Qa9 (kA' := 7) (kS' := 8) (fun i => WP (by omega) (by omega)) (fun i => WP (by omega) (by omega)),
    Qa9 (kA' := 7) (kS' := 8) (fun i => WP (by omega) (by omega)) (fun i => WP (by omega) (by omega)),
    Qa9 (kA' := 7) (kS' := 8) (fun i => WP (by omega) (by omega)) (fun i => WP (by omega) (by omega)),
    Qa9 (kA' := 107) (kS' := 8) (fun i => Qgj (by omega)) (fun i => QlE (by omega) (by omega) (by omega)),
    Qa9 (kA' := 107) (kS' := 108) (fun i => QlE (by omega) (by omega) (by omega)) (fun i => Qgj (by omega))] at h
  exact h
theorem QoE (s : Sky) (hs : s.small) : Contract P 9 [.agg (s.row 0), .agg (s.row 0)] [] (.bool true) [] := by
  have h := QpH s s (by have := hs; unfold Sky.small at this; exact ⟨by omega, by omega, by omega, by omega, this.2.1.2, this.2.2.1.2⟩)
  simpa using h
end
end Go.Ve

namespace Go.Ve
noncomputable section
open Go.Proofs
set_option linter.unusedSimpArgs false
set_option linter.unusedVariables false
set_option maxRecDepth 100000
open Go.ChangeShapes Go.WideShapes
set_option maxHeartbeats 1000000 in
theorem QdY (t : Nat) (k : Int) (n : Nat) (ha : n ≤ 1048577) (hk : 0 ≤ k ∧ k ≤ 1125899906842624) : Contract P 15 [.sl t 1 ((Xf k n).map Ko), .int .i64 k] [] (.int .i64 (k + n)) [] := by
  have hz : ((0 : Nat) : Int) = 0 := rfl
  refine QP ((Env.nil P).add 38 YH ZT) hm Qcp (Nat.le_of_ble_eq_true rfl) rfl ?_; unfold Vs; simp (config := { maxSteps := 2000000 }) only [bitvec_to_nat, reduceIte, Nat.reduceEqDiff, Nat.reduceAdd, Nat.reduceLeDiff, reduceCtorEq, Nat.reduceBEq, Nat.reduceLT, Nat.reduceMod, List.forall_mem_cons, YH, Yx, Ko, Int.toNat_natCast, List.length_map, Nat.sub_zero, Nat.zero_add, hz, eq_self, KA]
  refine Yz (fun i : Nat => [(1, .int .i64 (k + i)), (5, .int .i64 i)]) (fun _ => []) (fun i => i ≤ n) (fun i => n - i) 0 ?_ (Nat.zero_le _) ?_
  · have e0 : k + ((0 : Nat) : Int) = k := by omega
    simp only [e0]
    simp only [YC, YD, YE, YF, Qc, Qd, Qe, Qf, reduceIte, Nat.reduceEqDiff]; exact ⟨by repeat' (first | exact trivial | refine ⟨.inr rfl, ?_⟩), by repeat' (first | exact trivial | refine ⟨rfl, ?_⟩), by first | rfl | simp [closedB, Qx, Qo, Qb, dom, Qm, *], by first | rfl | simp [keepB, dom]⟩
  intro i hi NX hN
  have e5 : k + ((i + 1 : Nat) : Int) = k + (i : Int) + 1 := by omega
  by_cases h : i < n
  · have hg := Qaa (k := k) h
    have h' : (i : Int) < n := by omega
    unfold XX; simp (config := { maxSteps := 2000000 }) only [bitvec_to_nat, reduceIte, Nat.reduceEqDiff, Nat.reduceAdd, Nat.reduceLeDiff, reduceCtorEq, Nat.reduceBEq, Nat.reduceLT, Nat.reduceMod, List.forall_mem_cons, YH, Yx, Ko, Int.toNat_natCast, List.length_map, Nat.sub_zero, Nat.zero_add, hz, eq_self, KA, h', hg, Uf, not_true_eq_false, ne_eq, bne_self_eq_false]
    repeat' (first | with_reducible apply And.intro | with_reducible intro _)
    all_goals first
      | omega
      | rfl
      | (rename_i h; exact absurd rfl h)
      | (refine hN (i + 1) _ (by simp only [e5]; simp only [YC, YD, YE, YF, Qc, Qd, Qe, Qf, reduceIte, Nat.reduceEqDiff]; exact ⟨by repeat' (first | exact trivial | refine ⟨.inr rfl, ?_⟩), by repeat' (first | exact trivial | refine ⟨rfl, ?_⟩), by first | rfl | simp [closedB, Qx, Qo, Qb, dom, Qm, *], by first | rfl | simp [keepB, dom]⟩) ?_ ?_ <;> omega)
  · have h' : ¬ (i : Int) < n := by omega
    unfold XX; simp (config := { maxSteps := 2000000 }) only [bitvec_to_nat, reduceIte, Nat.reduceEqDiff, Nat.reduceAdd, Nat.reduceLeDiff, reduceCtorEq, Nat.reduceBEq, Nat.reduceLT, Nat.reduceMod, List.forall_mem_cons, YH, Yx, Ko, Int.toNat_natCast, List.length_map, Nat.sub_zero, Nat.zero_add, hz, eq_self, KA, h']
    omega
theorem Qdt (t : Nat) (k : Int) : Contract P 14 [.sl t 1 [], .int .i64 k] [] (.int .i64 k) [] := by
  refine QP ((Env.nil P).add 38 YH ZT) hm Vr (Nat.le_of_ble_eq_true rfl) rfl ?_; unfold Zn; simp (config := { maxSteps := 2000000 }) only [bitvec_to_nat, reduceIte, Nat.reduceEqDiff, Nat.reduceAdd, Nat.reduceLeDiff, reduceCtorEq, Nat.reduceBEq, Nat.reduceLT, Nat.reduceMod, List.forall_mem_cons, YH, List.map_nil, List.length_nil]
  refine Yz (fun _ : Nat => [(5, .int .i64 0)]) (fun _ => []) (fun _ => True) (fun i => i) 0 (by simp only [YC, YD, YE, YF, Qc, Qd, Qe, Qf, reduceIte, Nat.reduceEqDiff]; exact ⟨by repeat' (first | exact trivial | refine ⟨.inr rfl, ?_⟩), by repeat' (first | exact trivial | refine ⟨rfl, ?_⟩), by first | rfl | simp [closedB, Qx, Qo, Qb, dom, Qm, *], by first | rfl | simp [keepB, dom]⟩) trivial ?_
  intro i _ NX hN
  unfold Xq; simp (config := { maxSteps := 2000000 }) only [bitvec_to_nat, reduceIte, Nat.reduceEqDiff, Nat.reduceAdd, Nat.reduceLeDiff, reduceCtorEq, Nat.reduceBEq, Nat.reduceLT, Nat.reduceMod, List.forall_mem_cons, YH, List.map_nil, List.length_nil]
  first
    | exact fun h => absurd h (by omega)
    | exact ⟨fun h => absurd h (by omega), fun _ => by first | trivial | rfl⟩
def KB : List AV → Option (Prop × AV)
  | [.sl _ 1 zx, .int .i64 k] => some (zx = (Xf k zx.length).map Ko ∧ zx.length ≤ 1048577 ∧ (0 ≤ k ∧ k ≤ 1125899906842624), .int .i64 (k + (zx.length : Nat)))
  | _ => none
theorem Qac : ∀ args p v, KB args = some (p, v) → p → Contract P 15 args [] v [] ∧ noref v = true ∧ No99 v := by
  intro args p v h1 h2
  unfold KB at h1
  split at h1
  · rename_i t zx k
    cases h1
    obtain ⟨e1, h3, h4⟩ := h2
    have := QdY t k zx.length h3 h4
    rw [← e1] at this
    exact ⟨this, rfl, trivial⟩
  · cases h1
set_option maxHeartbeats 8000000 in
theorem Qqi (s : Sky) (a b : Nm) (hf : s.fitp) (hv : Qfr s a b ≠ []) : Contract P 4 [.agg (s.row 1), .str a, .str b] [] (.bool true) [] := by
  have hlz : True := trivial
  have tkZ : List.take (Qfr s a b).length ((Qfr s a b).map Ko) = (Qfr s a b).map Ko := List.take_of_length_le (by simp)
  have tkM : ∀ k : Int, List.take (Qfr s a b).length ((Xf k (Qfr s a b).length).map Ko) = (Xf k (Qfr s a b).length).map Ko := fun k => List.take_of_length_le (by rw [List.length_map, KA]; omega)
  have z2 : Sky.sz s 1048576 ≤ 1048576 := by have := (QjP s 1048576 (by omega)).2.2; omega
  generalize hn1 : Sky.sz s 1048576 = n1 at *
  simp only [Sky.row]
  refine QP (((((Env.nil P).add 5 Xe QlZ).add 10 Ge Qis).add 12 YJ QbW).add 15 KB Qac) hm Uq (Nat.le_of_ble_eq_true rfl) rfl ?_; unfold XW; simp (config := { maxSteps := 2000000 }) only [bitvec_to_nat, reduceIte, Nat.reduceEqDiff, Nat.reduceAdd, Nat.reduceLeDiff, reduceCtorEq, Nat.reduceBEq, Nat.reduceLT, Nat.reduceMod, List.forall_mem_cons, Xe, Ge, YJ, KB, Qr, Qt, Qa, Yw, Ql, List.take_length, List.length_cons, List.length_nil, Nat.zero_add, Ko, Yx, Yy, YG, Zone.row, Qj, QK, Pt.row, Qs, Jw, Aw.row, Qv, Jx, Blk.row, Qg, Qp, Sec.row, Qh, Qu, Rw.row, Qw, Jy, Qi, Sky.row, KA, List.length_map, QdM, Uo, QfG, WG, WJ, WH, gG, gG', sG, sG', kG, gs1, gs2, gs3, gs4, tkZ, tkM, not_true_eq_false, ne_eq, eq_self, bne_self_eq_false, Int.toNat_natCast, Nat.sub_zero, and_self, hlz, hn1, Qf3, Zg, Qf4, V0, List.cons_append, List.nil_append]
  refine fun _ _ => ⟨⟨by omega, hf⟩, fun g1 => ?_⟩
  have hs : s.small := Sky.sz_ok (a := 1048576) (by omega) (by omega)
  have hsm := hs
  unfold Sky.small at hsm
  have hT := Ql3 s hs
  have n9T : No99 (.agg (s.row 0)) := by simp [Sky.row, No99, Xl, X4, Zt, XI, X5]
  have hTO := QoD s hs
  have hEq := QoE s hs
  have hMk := Qkc 1 s hs (by omega)
  have hct1 := Qel hs.2.1.2 (Nat.le_refl _)
  have hct2 := Qc5 hs.2.2.1.2 (Nat.le_refl _)
  have hcs : Qfn s ≤ 100000000000000 := by unfold Qfn; omega
  have hlen := QnV s a b hs
  obtain ⟨v, hI⟩ := Qp3 s a b hs hf hv
  have hI1 := hI.ren (swp 110 731) (GV _ _)
  have hI2 := hI.ren (swp 110 741) (GV _ _)
  have hZ := (Qab v 1 (Qfr s a b) (by omega) (by omega)).ren (swp 3 731) (GV _ _)
  rw [show Ui (swp 110 731) [AV.agg (s.row 0), .str a, .str b] = [.agg (s.row 0), .str a, .str b] from rfl] at hI1
  rw [show Ui (swp 110 741) [AV.agg (s.row 0), .str a, .str b] = [.agg (s.row 0), .str a, .str b] from rfl] at hI2
  simp only [Ui, ren, ZB, renO, swp, reduceIte, Nat.reduceEqDiff, Nat.reduceLT, List.length_map] at hI1 hI2 hZ
  simp only [Sky.row] at hT n9T hTO
  refine ⟨_, _, .inr (.inl ⟨rfl, _, rfl, hT, rfl, n9T⟩), ?_⟩
  simp (config := { maxSteps := 2000000 }) only [bitvec_to_nat, reduceIte, Nat.reduceEqDiff, Nat.reduceAdd, Nat.reduceLeDiff, reduceCtorEq, Nat.reduceBEq, Nat.reduceLT, Nat.reduceMod, List.forall_mem_cons, Xe, Ge, YJ, KB, Qr, Qt, Qa, Yw, Ql, List.take_length, List.length_cons, List.length_nil, Nat.zero_add, Ko, Yx, Yy, YG, Zone.row, Qj, QK, Pt.row, Qs, Jw, Aw.row, Qv, Jx, Blk.row, Qg, Qp, Sec.row, Qh, Qu, Rw.row, Qw, Jy, Qi, Sky.row, KA, List.length_map, QdM, Uo, QfG, WG, WJ, WH, gG, gG', sG, sG', kG, gs1, gs2, gs3, gs4, tkZ, tkM, not_true_eq_false, ne_eq, eq_self, bne_self_eq_false, Int.toNat_natCast, Nat.sub_zero, and_self, hlz, hn1, Qf3, Zg, Qf4, V0, List.cons_append, List.nil_append]
  refine ⟨hs, _, _, .inr (.inr (.inl ⟨_, rfl, hTO, QmI (by simp), Qka, Qkb, by simp [V0, No99, Xl], Qrg⟩)), ?_⟩
  simp (config := { maxSteps := 2000000 }) only [bitvec_to_nat, reduceIte, Nat.reduceEqDiff, Nat.reduceAdd, Nat.reduceLeDiff, reduceCtorEq, Nat.reduceBEq, Nat.reduceLT, Nat.reduceMod, List.forall_mem_cons, Xe, Ge, YJ, KB, Qr, Qt, Qa, Yw, Ql, List.take_length, List.length_cons, List.length_nil, Nat.zero_add, Ko, Yx, Yy, YG, Zone.row, Qj, QK, Pt.row, Qs, Jw, Aw.row, Qv, Jx, Blk.row, Qg, Qp, Sec.row, Qh, Qu, Rw.row, Qw, Jy, Qi, Sky.row, KA, List.length_map, QdM, Uo, QfG, WG, WJ, WH, gG, gG', sG, sG', kG, gs1, gs2, gs3, gs4, tkZ, tkM, not_true_eq_false, ne_eq, eq_self, bne_self_eq_false, Int.toNat_natCast, Nat.sub_zero, and_self, hlz, hn1, Qf3, Zg, Qf4, V0, List.cons_append, List.nil_append]
  refine ⟨_, _, Qc6 (s := s) (a := 611) (b := 613) (c := 614) (d := 612) (kA := 107) (kS := 108) (rest' := [.str a, .str b]) (by simp only [ZJ, tag0]; exact hI1) (Qfp (by omega)) (Qfo s) rfl rfl rfl (by simp [QjI, Ko, Qcm, Qbo]) (by simp only [List.forall_mem_cons, fm0, and_true, QQ, QR, QdM, Uo, gG, gG', Nat.reduceLT, Nat.reduceEqDiff, reduceIte]) (by simp [Qx, Qo, dom]) (by simp [Qb]) (by simp [No99, Xl, GW]) (by simp only [List.forall_mem_cons, fm0, and_true]; exact G3 _), ?_⟩
  simp (config := { maxSteps := 2000000 }) only [bitvec_to_nat, reduceIte, Nat.reduceEqDiff, Nat.reduceAdd, Nat.reduceLeDiff, reduceCtorEq, Nat.reduceBEq, Nat.reduceLT, Nat.reduceMod, List.forall_mem_cons, Xe, Ge, YJ, KB, Qr, Qt, Qa, Yw, Ql, List.take_length, List.length_cons, List.length_nil, Nat.zero_add, Ko, Yx, Yy, YG, Zone.row, Qj, QK, Pt.row, Qs, Jw, Aw.row, Qv, Jx, Blk.row, Qg, Qp, Sec.row, Qh, Qu, Rw.row, Qw, Jy, Qi, Sky.row, KA, List.length_map, QdM, Uo, QfG, WG, WJ, WH, gG, gG', sG, sG', kG, gs1, gs2, gs3, gs4, tkZ, tkM, not_true_eq_false, ne_eq, eq_self, bne_self_eq_false, Int.toNat_natCast, Nat.sub_zero, and_self, hlz, hn1, Qf3, Zg, Qf4, V0, List.cons_append, List.nil_append]
  refine ⟨by omega, _, _, .inr (.inl ⟨rfl, _, rfl, hT, rfl, n9T⟩), ?_⟩
  simp (config := { maxSteps := 2000000 }) only [bitvec_to_nat, reduceIte, Nat.reduceEqDiff, Nat.reduceAdd, Nat.reduceLeDiff, reduceCtorEq, Nat.reduceBEq, Nat.reduceLT, Nat.reduceMod, List.forall_mem_cons, Xe, Ge, YJ, KB, Qr, Qt, Qa, Yw, Ql, List.take_length, List.length_cons, List.length_nil, Nat.zero_add, Ko, Yx, Yy, YG, Zone.row, Qj, QK, Pt.row, Qs, Jw, Aw.row, Qv, Jx, Blk.row, Qg, Qp, Sec.row, Qh, Qu, Rw.row, Qw, Jy, Qi, Sky.row, KA, List.length_map, QdM, Uo, QfG, WG, WJ, WH, gG, gG', sG, sG', kG, gs1, gs2, gs3, gs4, tkZ, tkM, not_true_eq_false, ne_eq, eq_self, bne_self_eq_false, Int.toNat_natCast, Nat.sub_zero, and_self, hlz, hn1, Qf3, Zg, Qf4, V0, List.cons_append, List.nil_append]
  refine ⟨_, _, Qc6 (s := s) (a := 611) (b := 613) (c := 614) (d := 612) (kA := 107) (kS := 108) (news := []) (r := .bool true) (rest' := [.agg (s.row 0)]) (by simp only [ZJ, Qji]; exact hEq) (Qfp (by omega)) (Qfo s) rfl (by simp only [Qaf, Qha 0 (by omega), Bool.and_self]) rfl rfl (by simp) rfl rfl trivial (by simp), ?_⟩
  simp (config := { maxSteps := 2000000 }) only [bitvec_to_nat, reduceIte, Nat.reduceEqDiff, Nat.reduceAdd, Nat.reduceLeDiff, reduceCtorEq, Nat.reduceBEq, Nat.reduceLT, Nat.reduceMod, List.forall_mem_cons, Xe, Ge, YJ, KB, Qr, Qt, Qa, Yw, Ql, List.take_length, List.length_cons, List.length_nil, Nat.zero_add, Ko, Yx, Yy, YG, Zone.row, Qj, QK, Pt.row, Qs, Jw, Aw.row, Qv, Jx, Blk.row, Qg, Qp, Sec.row, Qh, Qu, Rw.row, Qw, Jy, Qi, Sky.row, KA, List.length_map, QdM, Uo, QfG, WG, WJ, WH, gG, gG', sG, sG', kG, gs1, gs2, gs3, gs4, tkZ, tkM, not_true_eq_false, ne_eq, eq_self, bne_self_eq_false, Int.toNat_natCast, Nat.sub_zero, and_self, hlz, hn1, Qf3, Zg, Qf4, V0, List.cons_append, List.nil_append]
  refine ⟨_, _, UT hMk (Qfp (by omega)) QmJ Qg2 rfl, ?_⟩
  simp (config := { maxSteps := 2000000 }) only [bitvec_to_nat, reduceIte, Nat.reduceEqDiff, Nat.reduceAdd, Nat.reduceLeDiff, reduceCtorEq, Nat.reduceBEq, Nat.reduceLT, Nat.reduceMod, List.forall_mem_cons, Xe, Ge, YJ, KB, Qr, Qt, Qa, Yw, Ql, List.take_length, List.length_cons, List.length_nil, Nat.zero_add, Ko, Yx, Yy, YG, Zone.row, Qj, QK, Pt.row, Qs, Jw, Aw.row, Qv, Jx, Blk.row, Qg, Qp, Sec.row, Qh, Qu, Rw.row, Qw, Jy, Qi, Sky.row, KA, List.length_map, QdM, Uo, QfG, WG, WJ, WH, gG, gG', sG, sG', kG, gs1, gs2, gs3, gs4, tkZ, tkM, not_true_eq_false, ne_eq, eq_self, bne_self_eq_false, Int.toNat_natCast, Nat.sub_zero, and_self, hlz, hn1, Qf3, Zg, Qf4, V0, List.cons_append, List.nil_append]
  refine ⟨fun h => by omega, fun _ => ⟨by omega, _, _, .inl ⟨_, hZ, by simp only [List.forall_mem_cons, fm0, and_true, QQ, QR, QdM, Uo, gG, gG', Nat.reduceLT, Nat.reduceEqDiff, reduceIte], by simp [dom], rfl, rfl, rfl, rfl, rfl⟩, ?_⟩⟩
  simp (config := { maxSteps := 2000000 }) only [bitvec_to_nat, reduceIte, Nat.reduceEqDiff, Nat.reduceAdd, Nat.reduceLeDiff, reduceCtorEq, Nat.reduceBEq, Nat.reduceLT, Nat.reduceMod, List.forall_mem_cons, Xe, Ge, YJ, KB, Qr, Qt, Qa, Yw, Ql, List.take_length, List.length_cons, List.length_nil, Nat.zero_add, Ko, Yx, Yy, YG, Zone.row, Qj, QK, Pt.row, Qs, Jw, Aw.row, Qv, Jx, Blk.row, Qg, Qp, Sec.row, Qh, Qu, Rw.row, Qw, Jy, Qi, Sky.row, KA, List.length_map, QdM, Uo, QfG, WG, WJ, WH, gG, gG', sG, sG', kG, gs1, gs2, gs3, gs4, tkZ, tkM, not_true_eq_false, ne_eq, eq_self, bne_self_eq_false, Int.toNat_natCast, Nat.sub_zero, and_self, hlz, hn1, Qf3, Zg, Qf4, V0, List.cons_append, List.nil_append]
  refine ⟨by omega, fun h => by omega, fun _ => ⟨_, _, .inr (.inl ⟨rfl, _, rfl, hT, rfl, n9T⟩), ?_⟩⟩
  simp (config := { maxSteps := 2000000 }) only [bitvec_to_nat, reduceIte, Nat.reduceEqDiff, Nat.reduceAdd, Nat.reduceLeDiff, reduceCtorEq, Nat.reduceBEq, Nat.reduceLT, Nat.reduceMod, List.forall_mem_cons, Xe, Ge, YJ, KB, Qr, Qt, Qa, Yw, Ql, List.take_length, List.length_cons, List.length_nil, Nat.zero_add, Ko, Yx, Yy, YG, Zone.row, Qj, QK, Pt.row, Qs, Jw, Aw.row, Qv, Jx, Blk.row, Qg, Qp, Sec.row, Qh, Qu, Rw.row, Qw, Jy, Qi, Sky.row, KA, List.length_map, QdM, Uo, QfG, WG, WJ, WH, gG, gG', sG, sG', kG, gs1, gs2, gs3, gs4, tkZ, tkM, not_true_eq_false, ne_eq, eq_self, bne_self_eq_false, Int.toNat_natCast, Nat.sub_zero, and_self, hlz, hn1, Qf3, Zg, Qf4, V0, List.cons_append, List.nil_append]
  refine ⟨_, _, .inr (.inr (.inl ⟨_, rfl, hI2, by simp only [List.forall_mem_cons, fm0, and_true, QQ, QR, QdM, Uo, gG, gG', Nat.reduceLT, Nat.reduceEqDiff, reduceIte], by simp [Qx, Qo, dom], rfl, by simp [No99, Xl, GW], by simp only [List.forall_mem_cons, fm0, and_true]; exact G3 _⟩)), ?_⟩
  simp (config := { maxSteps := 2000000 }) only [bitvec_to_nat, reduceIte, Nat.reduceEqDiff, Nat.reduceAdd, Nat.reduceLeDiff, reduceCtorEq, Nat.reduceBEq, Nat.reduceLT, Nat.reduceMod, List.forall_mem_cons, Xe, Ge, YJ, KB, Qr, Qt, Qa, Yw, Ql, List.take_length, List.length_cons, List.length_nil, Nat.zero_add, Ko, Yx, Yy, YG, Zone.row, Qj, QK, Pt.row, Qs, Jw, Aw.row, Qv, Jx, Blk.row, Qg, Qp, Sec.row, Qh, Qu, Rw.row, Qw, Jy, Qi, Sky.row, KA, List.length_map, QdM, Uo, QfG, WG, WJ, WH, gG, gG', sG, sG', kG, gs1, gs2, gs3, gs4, tkZ, tkM, not_true_eq_false, ne_eq, eq_self, bne_self_eq_false, Int.toNat_natCast, Nat.sub_zero, and_self, hlz, hn1, Qf3, Zg, Qf4, V0, List.cons_append, List.nil_append]
  exact ⟨by omega, ⟨by omega, by omega, by omega⟩, fun h => by omega⟩

set_option maxHeartbeats 8000000 in
theorem Qqj (s : Sky) (a b : Nm) (hf : s.fitp) (hv : Qfr s a b = []) : Contract P 4 [.agg (s.row 1), .str a, .str b] [] (.bool true) [] := by
  have hlz : Qfr s a b = [] := hv
  have tkZ : True := trivial
  have tkM : True := trivial
  have z2 : Sky.sz s 1048576 ≤ 1048576 := by have := (QjP s 1048576 (by omega)).2.2; omega
  generalize hn1 : Sky.sz s 1048576 = n1 at *
  simp only [Sky.row]
  refine QP (((((Env.nil P).add 5 Xe QlZ).add 10 Ge Qis).add 12 YJ QbW).add 15 KB Qac) hm Uq (Nat.le_of_ble_eq_true rfl) rfl ?_; unfold XW; simp (config := { maxSteps := 2000000 }) only [bitvec_to_nat, reduceIte, Nat.reduceEqDiff, Nat.reduceAdd, Nat.reduceLeDiff, reduceCtorEq, Nat.reduceBEq, Nat.reduceLT, Nat.reduceMod, List.forall_mem_cons, Xe, Ge, YJ, KB, Qr, Qt, Qa, Yw, Ql, List.take_length, List.length_cons, List.length_nil, Nat.zero_add, Ko, Yx, Yy, YG, Zone.row, Qj, QK, Pt.row, Qs, Jw, Aw.row, Qv, Jx, Blk.row, Qg, Qp, Sec.row, Qh, Qu, Rw.row, Qw, Jy, Qi, Sky.row, KA, List.length_map, QdM, Uo, QfG, WG, WJ, WH, gG, gG', sG, sG', kG, gs1, gs2, gs3, gs4, tkZ, tkM, not_true_eq_false, ne_eq, eq_self, bne_self_eq_false, Int.toNat_natCast, Nat.sub_zero, and_self, hlz, hn1, Qf3, Zg, Qf4, V0, List.cons_append, List.nil_append]
  refine fun _ _ => ⟨⟨by omega, hf⟩, fun g1 => ?_⟩
  have hs : s.small := Sky.sz_ok (a := 1048576) (by omega) (by omega)
  have hsm := hs
  unfold Sky.small at hsm
  have hT := Ql3 s hs
  have n9T : No99 (.agg (s.row 0)) := by simp [Sky.row, No99, Xl, X4, Zt, XI, X5]
  have hTO := QoD s hs
  have hEq := QoE s hs
  have hMk := Qkc 1 s hs (by omega)
  have hct1 := Qel hs.2.1.2 (Nat.le_refl _)
  have hct2 := Qc5 hs.2.2.1.2 (Nat.le_refl _)
  have hcs : Qfn s ≤ 100000000000000 := by unfold Qfn; omega
  have hI1 := Qp4 s a b hs hf hv
  simp only [Sky.row] at hT n9T hTO
  refine ⟨_, _, .inr (.inl ⟨rfl, _, rfl, hT, rfl, n9T⟩), ?_⟩
  simp (config := { maxSteps := 2000000 }) only [bitvec_to_nat, reduceIte, Nat.reduceEqDiff, Nat.reduceAdd, Nat.reduceLeDiff, reduceCtorEq, Nat.reduceBEq, Nat.reduceLT, Nat.reduceMod, List.forall_mem_cons, Xe, Ge, YJ, KB, Qr, Qt, Qa, Yw, Ql, List.take_length, List.length_cons, List.length_nil, Nat.zero_add, Ko, Yx, Yy, YG, Zone.row, Qj, QK, Pt.row, Qs, Jw, Aw.row, Qv, Jx, Blk.row, Qg, Qp, Sec.row, Qh, Qu, Rw.row, Qw, Jy, Qi, Sky.row, KA, List.length_map, QdM, Uo, QfG, WG, WJ, WH, gG, gG', sG, sG', kG, gs1, gs2, gs3, gs4, tkZ, tkM, not_true_eq_false, ne_eq, eq_self, bne_self_eq_false, Int.toNat_natCast, Nat.sub_zero, and_self, hlz, hn1, Qf3, Zg, Qf4, V0, List.cons_append, List.nil_append]
  refine ⟨hs, _, _, .inr (.inr (.inl ⟨_, rfl, hTO, QmI (by simp), Qka, Qkb, by simp [V0, No99, Xl], Qrg⟩)), ?_⟩
  simp (config := { maxSteps := 2000000 }) only [bitvec_to_nat, reduceIte, Nat.reduceEqDiff, Nat.reduceAdd, Nat.reduceLeDiff, reduceCtorEq, Nat.reduceBEq, Nat.reduceLT, Nat.reduceMod, List.forall_mem_cons, Xe, Ge, YJ, KB, Qr, Qt, Qa, Yw, Ql, List.take_length, List.length_cons, List.length_nil, Nat.zero_add, Ko, Yx, Yy, YG, Zone.row, Qj, QK, Pt.row, Qs, Jw, Aw.row, Qv, Jx, Blk.row, Qg, Qp, Sec.row, Qh, Qu, Rw.row, Qw, Jy, Qi, Sky.row, KA, List.length_map, QdM, Uo, QfG, WG, WJ, WH, gG, gG', sG, sG', kG, gs1, gs2, gs3, gs4, tkZ, tkM, not_true_eq_false, ne_eq, eq_self, bne_self_eq_false, Int.toNat_natCast, Nat.sub_zero, and_self, hlz, hn1, Qf3, Zg, Qf4, V0, List.cons_append, List.nil_append]
  refine ⟨_, _, Qc6 (s := s) (a := 611) (b := 613) (c := 614) (d := 612) (kA := 107) (kS := 108) (rest' := [.str a, .str b]) (by simp only [ZJ, tag0]; exact hI1) (Qfp (by omega)) (Qfo s) rfl rfl rfl (rfl) (by simp) (by simp [Qx, Qo, dom]) (by simp [Qb]) (by simp [No99, Xl, GW]) (by simp), ?_⟩
  simp (config := { maxSteps := 2000000 }) only [bitvec_to_nat, reduceIte, Nat.reduceEqDiff, Nat.reduceAdd, Nat.reduceLeDiff, reduceCtorEq, Nat.reduceBEq, Nat.reduceLT, Nat.reduceMod, List.forall_mem_cons, Xe, Ge, YJ, KB, Qr, Qt, Qa, Yw, Ql, List.take_length, List.length_cons, List.length_nil, Nat.zero_add, Ko, Yx, Yy, YG, Zone.row, Qj, QK, Pt.row, Qs, Jw, Aw.row, Qv, Jx, Blk.row, Qg, Qp, Sec.row, Qh, Qu, Rw.row, Qw, Jy, Qi, Sky.row, KA, List.length_map, QdM, Uo, QfG, WG, WJ, WH, gG, gG', sG, sG', kG, gs1, gs2, gs3, gs4, tkZ, tkM, not_true_eq_false, ne_eq, eq_self, bne_self_eq_false, Int.toNat_natCast, Nat.sub_zero, and_self, hlz, hn1, Qf3, Zg, Qf4, V0, List.cons_append, List.nil_append]
  refine ⟨_, _, .inr (.inl ⟨rfl, _, rfl, hT, rfl, n9T⟩), ?_⟩
  simp (config := { maxSteps := 2000000 }) only [bitvec_to_nat, reduceIte, Nat.reduceEqDiff, Nat.reduceAdd, Nat.reduceLeDiff, reduceCtorEq, Nat.reduceBEq, Nat.reduceLT, Nat.reduceMod, List.forall_mem_cons, Xe, Ge, YJ, KB, Qr, Qt, Qa, Yw, Ql, List.take_length, List.length_cons, List.length_nil, Nat.zero_add, Ko, Yx, Yy, YG, Zone.row, Qj, QK, Pt.row, Qs, Jw, Aw.row, Qv, Jx, Blk.row, Qg, Qp, Sec.row, Qh, Qu, Rw.row, Qw, Jy, Qi, Sky.row, KA, List.length_map, QdM, Uo, QfG, WG, WJ, WH, gG, gG', sG, sG', kG, gs1, gs2, gs3, gs4, tkZ, tkM, not_true_eq_false, ne_eq, eq_self, bne_self_eq_false, Int.toNat_natCast, Nat.sub_zero, and_self, hlz, hn1, Qf3, Zg, Qf4, V0, List.cons_append, List.nil_append]
  refine ⟨_, _, Qc6 (s := s) (a := 611) (b := 613) (c := 614) (d := 612) (kA := 107) (kS := 108) (news := []) (r := .bool true) (rest' := [.agg (s.row 0)]) (by simp only [ZJ, Qji]; exact hEq) (Qfp (by omega)) (Qfo s) rfl (by simp only [Qaf, Qha 0 (by omega), Bool.and_self]) rfl rfl (by simp) rfl rfl trivial (by simp), ?_⟩
  simp (config := { maxSteps := 2000000 }) only [bitvec_to_nat, reduceIte, Nat.reduceEqDiff, Nat.reduceAdd, Nat.reduceLeDiff, reduceCtorEq, Nat.reduceBEq, Nat.reduceLT, Nat.reduceMod, List.forall_mem_cons, Xe, Ge, YJ, KB, Qr, Qt, Qa, Yw, Ql, List.take_length, List.length_cons, List.length_nil, Nat.zero_add, Ko, Yx, Yy, YG, Zone.row, Qj, QK, Pt.row, Qs, Jw, Aw.row, Qv, Jx, Blk.row, Qg, Qp, Sec.row, Qh, Qu, Rw.row, Qw, Jy, Qi, Sky.row, KA, List.length_map, QdM, Uo, QfG, WG, WJ, WH, gG, gG', sG, sG', kG, gs1, gs2, gs3, gs4, tkZ, tkM, not_true_eq_false, ne_eq, eq_self, bne_self_eq_false, Int.toNat_natCast, Nat.sub_zero, and_self, hlz, hn1, Qf3, Zg, Qf4, V0, List.cons_append, List.nil_append]
  refine ⟨_, _, UT hMk (Qfp (by omega)) QmJ Qg2 rfl, ?_⟩
  simp (config := { maxSteps := 2000000 }) only [bitvec_to_nat, reduceIte, Nat.reduceEqDiff, Nat.reduceAdd, Nat.reduceLeDiff, reduceCtorEq, Nat.reduceBEq, Nat.reduceLT, Nat.reduceMod, List.forall_mem_cons, Xe, Ge, YJ, KB, Qr, Qt, Qa, Yw, Ql, List.take_length, List.length_cons, List.length_nil, Nat.zero_add, Ko, Yx, Yy, YG, Zone.row, Qj, QK, Pt.row, Qs, Jw, Aw.row, Qv, Jx, Blk.row, Qg, Qp, Sec.row, Qh, Qu, Rw.row, Qw, Jy, Qi, Sky.row, KA, List.length_map, QdM, Uo, QfG, WG, WJ, WH, gG, gG', sG, sG', kG, gs1, gs2, gs3, gs4, tkZ, tkM, not_true_eq_false, ne_eq, eq_self, bne_self_eq_false, Int.toNat_natCast, Nat.sub_zero, and_self, hlz, hn1, Qf3, Zg, Qf4, V0, List.cons_append, List.nil_append]
  refine ⟨fun h => by omega, fun _ => ⟨_, _, .inr (.inl ⟨rfl, _, rfl, Qdt 98 1, rfl, trivial⟩), ?_⟩⟩
  simp (config := { maxSteps := 2000000 }) only [bitvec_to_nat, reduceIte, Nat.reduceEqDiff, Nat.reduceAdd, Nat.reduceLeDiff, reduceCtorEq, Nat.reduceBEq, Nat.reduceLT, Nat.reduceMod, List.forall_mem_cons, Xe, Ge, YJ, KB, Qr, Qt, Qa, Yw, Ql, List.take_length, List.length_cons, List.length_nil, Nat.zero_add, Ko, Yx, Yy, YG, Zone.row, Qj, QK, Pt.row, Qs, Jw, Aw.row, Qv, Jx, Blk.row, Qg, Qp, Sec.row, Qh, Qu, Rw.row, Qw, Jy, Qi, Sky.row, KA, List.length_map, QdM, Uo, QfG, WG, WJ, WH, gG, gG', sG, sG', kG, gs1, gs2, gs3, gs4, tkZ, tkM, not_true_eq_false, ne_eq, eq_self, bne_self_eq_false, Int.toNat_natCast, Nat.sub_zero, and_self, hlz, hn1, Qf3, Zg, Qf4, V0, List.cons_append, List.nil_append]
  refine ⟨⟨rfl, by omega, by omega⟩, fun h => by omega, fun _ => ⟨fun h => by omega, fun _ => ⟨_, _, .inr (.inl ⟨rfl, _, rfl, hT, rfl, n9T⟩), ?_⟩⟩⟩
  simp (config := { maxSteps := 2000000 }) only [bitvec_to_nat, reduceIte, Nat.reduceEqDiff, Nat.reduceAdd, Nat.reduceLeDiff, reduceCtorEq, Nat.reduceBEq, Nat.reduceLT, Nat.reduceMod, List.forall_mem_cons, Xe, Ge, YJ, KB, Qr, Qt, Qa, Yw, Ql, List.take_length, List.length_cons, List.length_nil, Nat.zero_add, Ko, Yx, Yy, YG, Zone.row, Qj, QK, Pt.row, Qs, Jw, Aw.row, Qv, Jx, Blk.row, Qg, Qp, Sec.row, Qh, Qu, Rw.row, Qw, Jy, Qi, Sky.row, KA, List.length_map, QdM, Uo, QfG, WG, WJ, WH, gG, gG', sG, sG', kG, gs1, gs2, gs3, gs4, tkZ, tkM, not_true_eq_false, ne_eq, eq_self, bne_self_eq_false, Int.toNat_natCast, Nat.sub_zero, and_self, hlz, hn1, Qf3, Zg, Qf4, V0, List.cons_append, List.nil_append]
  refine ⟨_, _, .inr (.inl ⟨rfl, _, rfl, hI1, rfl, by simp [No99, Xl, GW]⟩), ?_⟩
  simp (config := { maxSteps := 2000000 }) only [bitvec_to_nat, reduceIte, Nat.reduceEqDiff, Nat.reduceAdd, Nat.reduceLeDiff, reduceCtorEq, Nat.reduceBEq, Nat.reduceLT, Nat.reduceMod, List.forall_mem_cons, Xe, Ge, YJ, KB, Qr, Qt, Qa, Yw, Ql, List.take_length, List.length_cons, List.length_nil, Nat.zero_add, Ko, Yx, Yy, YG, Zone.row, Qj, QK, Pt.row, Qs, Jw, Aw.row, Qv, Jx, Blk.row, Qg, Qp, Sec.row, Qh, Qu, Rw.row, Qw, Jy, Qi, Sky.row, KA, List.length_map, QdM, Uo, QfG, WG, WJ, WH, gG, gG', sG, sG', kG, gs1, gs2, gs3, gs4, tkZ, tkM, not_true_eq_false, ne_eq, eq_self, bne_self_eq_false, Int.toNat_natCast, Nat.sub_zero, and_self, hlz, hn1, Qf3, Zg, Qf4, V0, List.cons_append, List.nil_append]
  refine ⟨⟨rfl, by omega, by omega⟩, fun h => by omega, fun _ h => by omega⟩

theorem Qfq (s : Sky) (a b : Nm) (hf : s.fitp) : Contract P 4 [.agg (s.row 1), .str a, .str b] [] (.bool true) [] := by
  by_cases hv : Qfr s a b = []
  · exact Qqj s a b hf hv
  · exact Qqi s a b hf hv
end
end Go.Ve

